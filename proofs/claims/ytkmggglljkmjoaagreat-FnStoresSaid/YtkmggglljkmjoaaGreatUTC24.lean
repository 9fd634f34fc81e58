/-
  Several texts in one: lemmas and contracts that the claim rests on.
-/
import Derived.Test.YtkmggglljkmjoaaGreatUTC1
import Derived.Deep.QuietTactic
import Derived.BigQuiet
import Derived.Deep.LoopGhost
import Derived.Deep.RegionHeld3
import Derived.Test.YtkmggglljkmjoaaGreatUTC2
import Derived.WalkSpells
import Derived.Laws.Cover3
import Derived.Test.YtkmggglljkmjoaaGreatUTC11
import Derived.Test.YtkmggglljkmjoaaGreatUTC17
import Derived.Test.YtkmggglljkmjoaaGreatUTC19
import Derived.Test.YtkmggglljkmjoaaGreatUTC8
import Derived.Test.YtkmggglljkmjoaaGreatUTC20
import Derived.Test.YtkmggglljkmjoaaGreatUTC21
import Derived.Test.YtkmggglljkmjoaaGreatUTC18
import Derived.Deep.CutRange
namespace Go.Proofs.YtkmggglljkmjoaaGreat
open Go.RowKit
theorem F8 {ll : List (List Int)}(k : Nat)(s : Int) : jh (ll.set k (ll.getD k []++ [s])) ≤jh ll+1∧ (ll.set k (ll.getD k []++ [s])).length=ll.length:=by
 refine⟨?_,List.length_set⟩
 by_cases hk : k<ll.length
 ·have hl : ll[k]? =some ll[k]:=List.getElem?_eq_getElem hk
  have e : ll.getD k []=ll[k]:=by rw [List.getD_eq_getElem?_getD,hl];rfl
  rw [e]
  have hp:= (DR [s] hl).length_eq
  rw [List.length_append,List.length_flatten,List.length_flatten] at hp
  unfold jh
  rw [List.length_set,hp]
  simp
  omega
 ·rw [List.set_eq_of_length_le (by omega)]
  omega
theorem J8 (x : Lists)(k c : Nat)(s : Int) : bX (nI x k c s) ≤bX x+1∧ (nI x k c s).G.length=x.G.length∧ (nI x k c s).O.length=x.O.length:=by
 unfold nI
 split
 ·have h:=F8 (ll:=x.O) k s
  exact⟨by unfold bX;simp only;omega,rfl,h.2⟩
 ·have h:=F8 (ll:=x.G) c s
  exact⟨by unfold bX;simp only;omega,h.2,rfl⟩
set_option maxRecDepth 100000 in
set_option maxHeartbeats 4000000 in
theorem uP (w : World)(H : aZ)(x : Lists)(wk c : Nat)(s : Int)(h : iC w w.heap.size H x)(hs : bX x≤536870912)(hw : wk<3)(hc : c<3)(hsl : bO 0 23 s=true) :
  Calls Tryz.prog 225 #[.agg #[.slice H.G.a H.G.l H.G.c, .slice H.O.a H.O.l H.O.c], .int .i64 wk, .int .i64 c, .int .i64 s] w fun e w'=> ∃ (H' : aZ) (y : Lists) (b : Bool),e= .returned (.tuple #[.agg #[.slice H'.G.a H'.G.l H'.G.c, .slice H'.O.a H'.O.l H'.O.c], .bool b]) ∧dZ w' H' y∧ (bX y≤bX x+1∧y.G.length=x.G.length∧y.O.length=x.O.length) ∧ (∀g∈H'.foot,w.heap.size≤g) ∧Below w.heap.size w w':=by
 have hcp:=fun (W : World) (hW : Below w.heap.size w W) =>n_ W H x (eZ h hW) hs
 have hlo:=fun (W : World) (hW : Below w.heap.size w W) =>ou W H x (eZ h hW) (by unfold bX at hs;omega) (by unfold bX at hs;omega)
 have hla:=fun (W : World) (hW : Below w.heap.size w W) =>Bu W H x (eZ h hW) (by unfold bX at hs;omega) (by unfold bX at hs;omega)
 by_cases c1 : fU x=true
 case neg=>
  have c1':= (Bool.not_eq_true _).mp c1
  rw [c1'] at hlo
  clear c1 c1' hla
  obtain⟨w0,hW0⟩ : ∃x,x= ((w.alloc (.cells #[.slice H.G.a H.G.l H.G.c, .slice H.O.a H.O.l H.O.c] 29)).alloc (.cells #[.slice none 0 0, .slice none 0 0] 29)) := ⟨_,rfl⟩
  have au : aB w0 (w.heap.size) [.slice H.G.a H.G.l H.G.c, .slice H.O.a H.O.l H.O.c]:=by
   rw [hW0]
   exact aB.alloc aB.nw _
  have ah : aB w0 (w.heap.size+1) [.slice none 0 0, .slice none 0 0]:=by
   rw [hW0]
   exact aB.nw
  have hB : Below w.heap.size w w0:=by
   rw [hW0]
   exact dJ
  go_enter Tryz.func225,Tryz.ntmps225
  go_wp2_with fail
  rw [←hW0]
  clear hW0
  have g_:=au.lt
  have iB:=ah.lt
  obtain⟨aD,aF,aL,aQ⟩ :=au.f2
  obtain⟨aj,ak,ay,aI⟩ :=ah.f2
  refine(hcp _ hB).mono ?_
  rintro e w1 ⟨aA,rfl,aP,l_c,hb⟩
  have u_c:=aP.lt
  replace au:=au.below hb
  replace ah:=ah.below hb
  replace hB:=hB.trans (hb.mono hB.size)
  have sz:=hb.size
  clear hb
  clear aD aF aL aQ
  obtain⟨aD,aF,aL,aQ⟩ :=au.f2
  clear aj ak ay aI
  obtain⟨aj,ak,ay,aI⟩ :=ah.f2
  clear hcp
  go_wp2_with fail
  generalize hO : Obj.cells #[.slice aA.G.a aA.G.l aA.G.c, .slice aA.O.a aA.O.l aA.O.c] 29=O_
  replace au:=au.alloc O_
  replace ah:=ah.alloc O_
  replace aP:=aP.aH O_
  replace hB:=hB.alloc hB.size O_
  have aN : aB (w1.alloc O_) w1.heap.size [.slice aA.G.a aA.G.l aA.G.c, .slice aA.O.a aA.O.l aA.O.c]:=hO ▸ aB.new _ _ _
  have gy:=aN.lt
  have sz : w1.heap.size≤ (w1.alloc O_).heap.size:=Nat.le_of_lt aN.lt
  generalize hG : (w1.alloc O_) =w2 at au ah aP hB aN gy sz⊢
  clear hG hO O_
  clear aD aF aL aQ
  obtain⟨aD,aF,aL,aQ⟩ :=au.f2
  clear aj ak ay aI
  obtain⟨aj,ak,ay,aI⟩ :=ah.f2
  obtain⟨aV,aW,bq,bN⟩ :=aN.f2
  refine(hlo _ hB).mono ?_
  rintro e w3 ⟨rfl,hb⟩
  replace au:=au.below hb
  replace ah:=ah.below hb
  replace aN:=aN.below hb
  have aP:=aP.step0 hb
  replace hB:=hB.trans (hb.mono hB.size)
  have sz:=hb.size
  clear hb
  clear aD aF aL aQ
  obtain⟨aD,aF,aL,aQ⟩ :=au.f2
  clear aj ak ay aI
  obtain⟨aj,ak,ay,aI⟩ :=ah.f2
  clear aV aW bq bN
  obtain⟨aV,aW,bq,bN⟩ :=aN.f2
  clear hlo
  go_wp2_with fail
  refine bodyPost_ret (v:= .tuple #[.agg #[.slice aA.G.a aA.G.l aA.G.c, .slice aA.O.a aA.O.l aA.O.c], .bool false]) (by simp [results,Tryz.results225,go_sem,aj,ak]) rfl ⟨aA,x,false,rfl,aP.aM (F:= [w.heap.size+1]) bW (fun g hg hm=>by simp only [List.mem_cons,List.not_mem_nil,or_false] at hm;have:=l_c g hg;have:=u_c g hg;omega), ⟨Nat.le_succ _,rfl,rfl⟩,fun g hg=>by have:=l_c g hg;omega,Below.trans hB dQ⟩
 rw [c1] at hlo
 have hll:=kD c1
 have hgv:=fun (W : World) (K : aZ) (oK : dZ W K x) =>A_ W K x wk c s oK hs hll hw hc
 have CP:=Hid.aT (J8 x (wk * 3+c) c s)
 clear hll c1
 generalize nI x (wk * 3+c) c s=y at hgv CP
 by_cases c2 : ((iT x).any fun y=>y == s) =true
 case pos=>
  clear hgv
  obtain⟨w0,hW0⟩ : ∃x,x= ((w.alloc (.cells #[.slice H.G.a H.G.l H.G.c, .slice H.O.a H.O.l H.O.c] 29)).alloc (.cells #[.slice none 0 0, .slice none 0 0] 29)) := ⟨_,rfl⟩
  have au : aB w0 (w.heap.size) [.slice H.G.a H.G.l H.G.c, .slice H.O.a H.O.l H.O.c]:=by
   rw [hW0]
   exact aB.alloc aB.nw _
  have ah : aB w0 (w.heap.size+1) [.slice none 0 0, .slice none 0 0]:=by
   rw [hW0]
   exact aB.nw
  have hB : Below w.heap.size w w0:=by
   rw [hW0]
   exact dJ
  go_enter Tryz.func225,Tryz.ntmps225
  go_wp2_with fail
  rw [←hW0]
  clear hW0
  have g_:=au.lt
  have iB:=ah.lt
  obtain⟨aD,aF,aL,aQ⟩ :=au.f2
  obtain⟨aj,ak,ay,aI⟩ :=ah.f2
  refine(hcp _ hB).mono ?_
  rintro e w1 ⟨aA,rfl,aP,l_c,hb⟩
  have u_c:=aP.lt
  replace au:=au.below hb
  replace ah:=ah.below hb
  replace hB:=hB.trans (hb.mono hB.size)
  have sz:=hb.size
  clear hb
  clear aD aF aL aQ
  obtain⟨aD,aF,aL,aQ⟩ :=au.f2
  clear aj ak ay aI
  obtain⟨aj,ak,ay,aI⟩ :=ah.f2
  clear hcp
  go_wp2_with fail
  generalize hO : Obj.cells #[.slice aA.G.a aA.G.l aA.G.c, .slice aA.O.a aA.O.l aA.O.c] 29=O_
  replace au:=au.alloc O_
  replace ah:=ah.alloc O_
  replace aP:=aP.aH O_
  replace hB:=hB.alloc hB.size O_
  have aN : aB (w1.alloc O_) w1.heap.size [.slice aA.G.a aA.G.l aA.G.c, .slice aA.O.a aA.O.l aA.O.c]:=hO ▸ aB.new _ _ _
  have gy:=aN.lt
  have sz : w1.heap.size≤ (w1.alloc O_).heap.size:=Nat.le_of_lt aN.lt
  generalize hG : (w1.alloc O_) =w2 at au ah aP hB aN gy sz⊢
  clear hG hO O_
  clear aD aF aL aQ
  obtain⟨aD,aF,aL,aQ⟩ :=au.f2
  clear aj ak ay aI
  obtain⟨aj,ak,ay,aI⟩ :=ah.f2
  obtain⟨aV,aW,bq,bN⟩ :=aN.f2
  refine(hlo _ hB).mono ?_
  rintro e w3 ⟨rfl,hb⟩
  replace au:=au.below hb
  replace ah:=ah.below hb
  replace aN:=aN.below hb
  have aP:=aP.step0 hb
  replace hB:=hB.trans (hb.mono hB.size)
  have sz:=hb.size
  clear hb
  clear aD aF aL aQ
  obtain⟨aD,aF,aL,aQ⟩ :=au.f2
  clear aj ak ay aI
  obtain⟨aj,ak,ay,aI⟩ :=ah.f2
  clear aV aW bq bN
  obtain⟨aV,aW,bq,bN⟩ :=aN.f2
  clear hlo
  go_wp2_with (first| (go_at_call 75;refine(qI wk c hw hc _).mono ?_;rintro e wv ⟨rfl,rfl⟩) | (go_at_call 102;refine(fG _ _ _ _).mono ?_;rw [hsl];rintro e wv ⟨rfl,rfl⟩))
  refine(hla _ hB).mono ?_
  rintro e w4 ⟨Mf,rfl,jc,nX,hb⟩
  have qc:=iQ jc
  replace au:=au.below hb
  replace ah:=ah.below hb
  replace aN:=aN.below hb
  replace aP:=aP.step0 hb
  replace hB:=hB.trans (hb.mono hB.size)
  have sz:=hb.size
  clear hb
  clear aD aF aL aQ
  obtain⟨aD,aF,aL,aQ⟩ :=au.f2
  clear aj ak ay aI
  obtain⟨aj,ak,ay,aI⟩ :=ah.f2
  clear aV aW bq bN
  obtain⟨aV,aW,bq,bN⟩ :=aN.f2
  clear hla
  go_wp2_with fail
  refine(xW _ Mf (iT x) s jc.rd').mono ?_
  rw [c2]
  rintro e w5 ⟨rfl,hb⟩
  replace au:=au.below hb
  replace ah:=ah.below hb
  replace aN:=aN.below hb
  replace aP:=aP.step0 hb
  have jc:=jc.step0 hb
  replace hB:=hB.trans (hb.mono hB.size)
  have sz:=hb.size
  clear hb
  clear aD aF aL aQ
  obtain⟨aD,aF,aL,aQ⟩ :=au.f2
  clear aj ak ay aI
  obtain⟨aj,ak,ay,aI⟩ :=ah.f2
  clear aV aW bq bN
  obtain⟨aV,aW,bq,bN⟩ :=aN.f2
  go_wp2_with fail
  refine bodyPost_ret (v:= .tuple #[.agg #[.slice aA.G.a aA.G.l aA.G.c, .slice aA.O.a aA.O.l aA.O.c], .bool false]) (by simp [results,Tryz.results225,go_sem,aj,ak]) rfl ⟨aA,x,false,rfl,aP.aM (F:= [w.heap.size+1]) bW (fun g hg hm=>by simp only [List.mem_cons,List.not_mem_nil,or_false] at hm;have:=l_c g hg;have:=u_c g hg;omega), ⟨Nat.le_succ _,rfl,rfl⟩,fun g hg=>by have:=l_c g hg;omega,Below.trans hB dQ⟩
 have c2':= (Bool.not_eq_true _).mp c2
 clear c2
 obtain⟨w0,hW0⟩ : ∃x,x= ((w.alloc (.cells #[.slice H.G.a H.G.l H.G.c, .slice H.O.a H.O.l H.O.c] 29)).alloc (.cells #[.slice none 0 0, .slice none 0 0] 29)) := ⟨_,rfl⟩
 have au : aB w0 (w.heap.size) [.slice H.G.a H.G.l H.G.c, .slice H.O.a H.O.l H.O.c]:=by
  rw [hW0]
  exact aB.alloc aB.nw _
 have ah : aB w0 (w.heap.size+1) [.slice none 0 0, .slice none 0 0]:=by
  rw [hW0]
  exact aB.nw
 have hB : Below w.heap.size w w0:=by
  rw [hW0]
  exact dJ
 go_enter Tryz.func225,Tryz.ntmps225
 go_wp2_with fail
 rw [←hW0]
 clear hW0
 have g_:=au.lt
 have iB:=ah.lt
 obtain⟨aD,aF,aL,aQ⟩ :=au.f2
 obtain⟨aj,ak,ay,aI⟩ :=ah.f2
 refine(hcp _ hB).mono ?_
 rintro e w1 ⟨aA,rfl,aP,l_c,hb⟩
 have u_c:=aP.lt
 replace au:=au.below hb
 replace ah:=ah.below hb
 replace hB:=hB.trans (hb.mono hB.size)
 have sz:=hb.size
 clear hb
 clear aD aF aL aQ
 obtain⟨aD,aF,aL,aQ⟩ :=au.f2
 clear aj ak ay aI
 obtain⟨aj,ak,ay,aI⟩ :=ah.f2
 clear hcp
 go_wp2_with fail
 generalize hO : Obj.cells #[.slice aA.G.a aA.G.l aA.G.c, .slice aA.O.a aA.O.l aA.O.c] 29=O_
 replace au:=au.alloc O_
 replace ah:=ah.alloc O_
 replace aP:=aP.aH O_
 replace hB:=hB.alloc hB.size O_
 have aN : aB (w1.alloc O_) w1.heap.size [.slice aA.G.a aA.G.l aA.G.c, .slice aA.O.a aA.O.l aA.O.c]:=hO ▸ aB.new _ _ _
 have gy:=aN.lt
 have sz : w1.heap.size≤ (w1.alloc O_).heap.size:=Nat.le_of_lt aN.lt
 generalize hG : (w1.alloc O_) =w2 at au ah aP hB aN gy sz⊢
 clear hG hO O_
 clear aD aF aL aQ
 obtain⟨aD,aF,aL,aQ⟩ :=au.f2
 clear aj ak ay aI
 obtain⟨aj,ak,ay,aI⟩ :=ah.f2
 obtain⟨aV,aW,bq,bN⟩ :=aN.f2
 refine(hlo _ hB).mono ?_
 rintro e w3 ⟨rfl,hb⟩
 replace au:=au.below hb
 replace ah:=ah.below hb
 replace aN:=aN.below hb
 have aP:=aP.step0 hb
 replace hB:=hB.trans (hb.mono hB.size)
 have sz:=hb.size
 clear hb
 clear aD aF aL aQ
 obtain⟨aD,aF,aL,aQ⟩ :=au.f2
 clear aj ak ay aI
 obtain⟨aj,ak,ay,aI⟩ :=ah.f2
 clear aV aW bq bN
 obtain⟨aV,aW,bq,bN⟩ :=aN.f2
 clear hlo
 go_wp2_with (first| (go_at_call 75;refine(qI wk c hw hc _).mono ?_;rintro e wv ⟨rfl,rfl⟩) | (go_at_call 102;refine(fG _ _ _ _).mono ?_;rw [hsl];rintro e wv ⟨rfl,rfl⟩))
 refine(hla _ hB).mono ?_
 rintro e w4 ⟨Mf,rfl,jc,nX,hb⟩
 have qc:=iQ jc
 replace au:=au.below hb
 replace ah:=ah.below hb
 replace aN:=aN.below hb
 replace aP:=aP.step0 hb
 replace hB:=hB.trans (hb.mono hB.size)
 have sz:=hb.size
 clear hb
 clear aD aF aL aQ
 obtain⟨aD,aF,aL,aQ⟩ :=au.f2
 clear aj ak ay aI
 obtain⟨aj,ak,ay,aI⟩ :=ah.f2
 clear aV aW bq bN
 obtain⟨aV,aW,bq,bN⟩ :=aN.f2
 clear hla
 go_wp2_with fail
 refine(xW _ Mf (iT x) s jc.rd').mono ?_
 rw [c2']
 rintro e w5 ⟨rfl,hb⟩
 replace au:=au.below hb
 replace ah:=ah.below hb
 replace aN:=aN.below hb
 replace aP:=aP.step0 hb
 have jc:=jc.step0 hb
 replace hB:=hB.trans (hb.mono hB.size)
 have sz:=hb.size
 clear hb
 clear aD aF aL aQ
 obtain⟨aD,aF,aL,aQ⟩ :=au.f2
 clear aj ak ay aI
 obtain⟨aj,ak,ay,aI⟩ :=ah.f2
 clear aV aW bq bN
 obtain⟨aV,aW,bq,bN⟩ :=aN.f2
 go_wp2_with fail
 refine(hgv _ aA aP).mono ?_
 rintro e w6 ⟨aG,rfl,bZ,F9,hx⟩
 clear hgv
 clear jc
 replace hB:=hB.trans (hx.below hB.size (fun b hb=>by have:=l_c b hb;omega))
 have sz:=hx.size
 replace au:=au.aM hx (fun hm=>by have:=l_c _ hm;have:=u_c _ hm;omega)
 replace ah:=ah.aM hx (fun hm=>by have:=l_c _ hm;have:=u_c _ hm;omega)
 replace aN:=aN.aM hx (fun hm=>by have:=l_c _ hm;have:=u_c _ hm;omega)
 have dY : ∀b∈aG.foot,w0.heap.size≤b:=fun b hb=>by rcases F9 b hb with hh|hh; (exact l_c b hh);omega
 have G_ : ∀b∈aG.foot, ¬ b=w1.heap.size:=fun b hb=>by rcases F9 b hb with hh|hh; (have:=u_c b hh;omega);omega
 have u_n:=bZ.lt
 clear hx aP
 clear aD aF aL aQ
 obtain⟨aD,aF,aL,aQ⟩ :=au.f2
 clear aj ak ay aI
 obtain⟨aj,ak,ay,aI⟩ :=ah.f2
 clear aV aW bq bN
 obtain⟨aV,aW,bq,bN⟩ :=aN.f2
 go_wp2_with fail
 refine bodyPost_ret (v:= .tuple #[.agg #[.slice aG.G.a aG.G.l aG.G.c, .slice aG.O.a aG.O.l aG.O.c], .bool true]) (by simp [results,Tryz.results225,go_sem,aj,ak]) rfl ⟨aG,y,true,rfl,bZ.aM (F:= [w.heap.size+1]) bW (fun g hg hm=>by simp only [List.mem_cons,List.not_mem_nil,or_false] at hm;have:=dY g hg;have:=u_n g hg;omega),CP.out,fun g hg=>by have:=dY g hg;omega,Below.trans hB dQ⟩
end Go.Proofs.YtkmggglljkmjoaaGreat
namespace Go.Proofs.YtkmggglljkmjoaaGreat
open Go.RowKit
open Go.Proofs.YtkmggglljkmjoaaGreat.Lim
structure nY (x : Lists)(n : Nat) : Prop where
 gl : x.G.length=3
 ow : x.O.length=9
 sz : bX x≤n
theorem nY.new : nY wC 12:= ⟨rfl,rfl,by decide⟩
theorem nY.of {x y : Lists}{n m : Nat}(h : nY x n)(e : bX y≤bX x+1∧y.G.length=x.G.length∧y.O.length=x.O.length)(hm : n+1≤m) : nY y m:= ⟨e.2.1.trans h.gl,e.2.2.trans h.ow,by have:=h.sz;omega⟩
def Mg (w : World)(g : Nat)(code : List Int)(e : Ending)(w' : World) : Prop:= ∃ (H : aZ) (x : Lists),e= .returned (H.val x) ∧dZ w' H x∧nY x 25∧ (∀b∈H.foot,w.heap.size≤b) ∧f_ w' g code∧aY [g] w w'
set_option maxRecDepth 100000 in
set_option maxHeartbeats 8000000 in
theorem Ij (w : World)(g : Nat)(code : List Int)(hc : f_ w g code) : Calls Tryz.prog 194 #[.pointer (some ⟨g,0,none⟩)] w (Mg w g code) :=by
 have hgl:=hc.lt
 obtain⟨w0,hW0⟩ : ∃x,x= (w.alloc (.cells #[.slice none 0 0, .slice none 0 0] 29)) := ⟨_,rfl⟩
 have ah : aB w0 (w.heap.size) [.slice none 0 0, .slice none 0 0]:=by
  rw [hW0]
  exact aB.nw
 have hC : aY [g] w w0:=hW0 ▸ (aY.refl [g] w).aH _
 replace hc : f_ w0 g code:=hW0 ▸ (hc).alloc _
 go_enter Tryz.func194,Tryz.ntmps194
 go_wp2_with fail
 rw [←hW0]
 clear hW0
 have iB:=ah.lt
 have F3 : w.heap.size≤w.heap.size:=by omega
 have sC:=hC.size
 obtain⟨aj,ak,ay,aI⟩ :=ah.f2
 refine(yT _).mono ?_
 rintro e w1 ⟨gX,rfl,bI,gT,hb⟩
 have fT:=bI.lt
 replace ah:=ah.below hb
 replace hC:=hC.trans (aY.of_below hb)
 replace hc:=hc.up hb
 have sz:=hb.size
 replace sC:=hC.size
 clear hb
 clear aj ak ay aI
 obtain⟨aj,ak,ay,aI⟩ :=ah.f2
 have HS:=nY.new
 generalize wC=x0 at *
 go_wp2_with fail
 generalize hO : Obj.cells #[.slice gX.G.a gX.G.l gX.G.c, .slice gX.O.a gX.O.l gX.O.c] 29=O_
 replace ah:=ah.alloc O_
 replace bI:=bI.aH O_
 replace hC:=hC.aH O_
 replace hc:=hc.alloc O_
 have bB : aB (w1.alloc O_) w1.heap.size [.slice gX.G.a gX.G.l gX.G.c, .slice gX.O.a gX.O.l gX.O.c]:=hO ▸ aB.new _ _ _
 have BU:=bB.lt
 have sz : w1.heap.size≤ (w1.alloc O_).heap.size:=Nat.le_of_lt bB.lt
 have J6 : w.heap.size≤w1.heap.size:=by omega
 generalize hG : (w1.alloc O_) =w2 at ah bI hC hc bB BU sz⊢
 clear hG hO O_
 replace sC:=hC.size
 clear aj ak ay aI
 obtain⟨aj,ak,ay,aI⟩ :=ah.f2
 obtain⟨bL,bM,dh,dV⟩ :=bB.f2
 refine(cK _ g code 14 (by unfold gZ;omega) hc).mono ?_
 rintro e w3 ⟨n0,rfl,Js,Nk,hcn,hx⟩
 replace hc:=hcn
 replace ah:=ah.aM hx (by simp only [List.mem_cons,List.not_mem_nil,or_false];omega)
 replace bB:=bB.aM hx (by simp only [List.mem_cons,List.not_mem_nil,or_false];omega)
 replace bI:=bI.aM hx (fun b hb hm=>by simp only [List.mem_cons,List.not_mem_nil,or_false] at hm;have:=gT b hb;have:=fT b hb;omega)
 replace hC:=hC.trans hx
 have sz:=hx.size
 replace sC:=hC.size
 clear hx
 skip
 clear aj ak ay aI
 obtain⟨aj,ak,ay,aI⟩ :=ah.f2
 clear bL bM dh dV
 obtain⟨bL,bM,dh,dV⟩ :=bB.f2
 obtain⟨m0,rfl⟩ :=Int.eq_ofNat_of_zero_le Js
 have hah : w.heap.size<w1.heap.size:=by omega
 go_wp2_with fail
 go_loopw [4] (fun i wr=> ∃ (k : Nat) (H : aZ) (x : Lists),i= .int .i64 k∧k≤13∧aB wr (w1.heap.size) [.slice H.G.a H.G.l H.G.c, .slice H.O.a H.O.l H.O.c]∧aB wr w.heap.size [.slice none 0 0, .slice none 0 0]∧dZ wr H x∧nY x (25 - k) ∧ (∀b∈H.foot,w.heap.size<b∧b≠w1.heap.size) ∧f_ wr g code∧aY [g] w wr) (fun i _=> (intOf i).toNat)
 case atStart=>exact⟨m0,gX,x0,rfl,by omega,bB,ah,bI, ⟨HS.gl,HS.ow,by have:=HS.sz;omega⟩,fun b hb=>by have:=gT b hb;have:=fT b hb;omega,hc,hC⟩
 case round=>
  clear bB dh dV bL bM
  clear ah ay aI aj ak
  clear bI gT fT HS hc hC sC
  obtain⟨wo,rfl⟩ : ∃W : World,W=wr:= ⟨_,rfl⟩
  obtain⟨k,gX,x,rfl,OV,bB,ah,bI,HS,nV,hc,hC⟩ :=hrel
  have fT:=bI.lt
  have sC:=hC.size
  obtain⟨bL,bM,dh,dV⟩ :=bB.f2
  obtain⟨aj,ak,ay,aI⟩ :=ah.f2
  by_cases hk : 0<k
  case neg=>
   go_wp2_with fail
   refine bodyPost_ret (v:=gX.val x) (by simp [results,Tryz.results194,go_sem,aj,ak]) rfl ⟨gX,x,rfl,bI.aM (F:= [w.heap.size]) bW (fun b hb hm=>by simp only [List.mem_cons,List.not_mem_nil,or_false] at hm;have:=nV b hb;have:=fT b hb;omega), ⟨HS.gl,HS.ow,by have:=HS.sz;omega⟩,fun b hb=>by have:=nV b hb;omega,hc.je (B:=w.heap.size) hgl dQ hC.size,hC.then_ dQ⟩
  have hsz : bX x≤536870912:=by have:=HS.sz;omega
  have L9:=dV
  have F4:=aI
  go_upto_region 5 with (fail)
  go_cut [5,6] from 12 to 24 (fun v5 v6 wx=> ∃ (go : Nat) (aG : aZ) (y : Lists) (b_ : Bool),v5= .pointer (some ⟨go,0,none⟩) ∧v6= .bool b_∧ (nY y (25 - (k - 1))) ∧aB wx (w1.heap.size) [.slice gX.G.a gX.G.l gX.G.c, .slice gX.O.a gX.O.l gX.O.c]∧aB wx (w.heap.size) [.slice none 0 0, .slice none 0 0]∧aB wx go [.slice aG.G.a aG.G.l aG.G.c, .slice aG.O.a aG.O.l aG.O.c]∧dZ wx gX x∧dZ wx aG y∧ (∀b∈aG.foot,wo.heap.size≤b∧b≠go) ∧wo.heap.size≤go∧f_ wx g code∧aY [g] w wx∧wo.heap.size≤wx.heap.size)
  case first=>
   go_region_held3 (fun w'=>w'.cell? ⟨w1.heap.size,0,none⟩ =some (.slice gX.G.a gX.G.l gX.G.c) ∧w'.cell? ⟨w1.heap.size,1,none⟩ =some (.slice gX.O.a gX.O.l gX.O.c)) (first| (with_reducible exact⟨bL,bM⟩) | (refine⟨?_, ?_⟩ <;> (repeat (first|with_reducible assumption|with_reducible refine fH ?_ (by omega) |with_reducible refine eF ?_ (by omega) |with_reducible refine fu ?_));done) | (go_keep;done)) (first| (go_at_call 63; (first| ((with_reducible refine(cK _ g code _ (by unfold gZ;omega) hc).mono ?_);rintro e wq ⟨c_,rfl,c0,c1,hcn,hx⟩;replace bB:=bB.aM hx (by simp only [List.mem_cons,List.not_mem_nil,or_false];omega);replace ah:=ah.aM hx (by simp only [List.mem_cons,List.not_mem_nil,or_false];omega);replace bI:=bI.aM hx (fun b hb hm=>by simp only [List.mem_cons,List.not_mem_nil,or_false] at hm;have:=nV b hb;have:=fT b hb;omega); (try replace bZ:=bZ.aM hx (fun b hb hm=>by simp only [List.mem_cons,List.not_mem_nil,or_false] at hm;have:=dY b hb;have:=u_n b hb;omega)); (try replace aU:=aU.aM hx (by simp only [List.mem_cons,List.not_mem_nil,or_false];omega)); (try replace bT:=aU.cell 0 _ rfl); (try replace bU:=aU.cell 1 _ rfl); (try replace gN:=aU.dn); (try replace dX:=aU.lt);replace hC:=aY.trans hC hx;replace hc:=hcn;have sz:=hx.size;replace sC:=hC.size;clear hx;clear bL bM dh dV;obtain⟨bL,bM,dh,dV⟩ :=bB.f2;clear aj ak ay aI;obtain⟨aj,ak,ay,aI⟩ :=ah.f2;obtain⟨c_,rfl⟩ :=Int.eq_ofNat_of_zero_le c0) | ((with_reducible refine(cK _ g code _ (by unfold gZ;omega) (hc.alloc _)).mono ?_);rintro e wq ⟨c_,rfl,c0,c1,hcn,hx⟩;have lK:=bB.lt;have jy:=ah.lt;replace bB:= (bB.alloc _).aM hx (by simp only [List.mem_cons,List.not_mem_nil,or_false];omega);replace ah:= (ah.alloc _).aM hx (by simp only [List.mem_cons,List.not_mem_nil,or_false];omega);replace bI:= (bI.aH _).aM hx (fun b hb hm=>by simp only [List.mem_cons,List.not_mem_nil,or_false] at hm;have:=nV b hb;have:=fT b hb;omega); (try replace bZ:= (bZ.aH _).aM hx (fun b hb hm=>by simp only [List.mem_cons,List.not_mem_nil,or_false] at hm;have:=dY b hb;have:=u_n b hb;omega));have aU:=aB.aM (aB.new _ #[.slice none 0 0, .slice none 0 0] 29) hx (by simp only [List.mem_cons,List.not_mem_nil,or_false];omega);have jI:=hC.size;have gN:=aU.dn;have dX:=aU.lt;have bT:=aU.cell 0 _ rfl;have bU:=aU.cell 1 _ rfl;replace hC:=aY.trans (hC.aH _) hx;replace hc:=hcn;have sz:=gV hx.size;replace sC:=hC.size;clear hx;clear bL bM dh dV;obtain⟨bL,bM,dh,dV⟩ :=bB.f2;clear aj ak ay aI;obtain⟨aj,ak,ay,aI⟩ :=ah.f2;obtain⟨c_,rfl⟩ :=Int.eq_ofNat_of_zero_le c0) | ((with_reducible refine(cK _ g code _ (by unfold gZ;omega) (hc.bf)).mono ?_);rintro e wq ⟨c_,rfl,c0,c1,hcn,hx⟩;replace bB:=bB.drew.aM hx (by simp only [List.mem_cons,List.not_mem_nil,or_false];omega);replace ah:=ah.drew.aM hx (by simp only [List.mem_cons,List.not_mem_nil,or_false];omega);replace bI:= (bI.bf).aM hx (fun b hb hm=>by simp only [List.mem_cons,List.not_mem_nil,or_false] at hm;have:=nV b hb;have:=fT b hb;omega); (try replace bZ:= (bZ.bf).aM hx (fun b hb hm=>by simp only [List.mem_cons,List.not_mem_nil,or_false] at hm;have:=dY b hb;have:=u_n b hb;omega)); (try replace aU:=aU.drew.aM hx (by simp only [List.mem_cons,List.not_mem_nil,or_false];omega)); (try replace bT:=aU.cell 0 _ rfl); (try replace bU:=aU.cell 1 _ rfl); (try replace gN:=aU.dn); (try replace dX:=aU.lt);replace hC:=aY.trans hC.bf hx;replace hc:=hcn;have sz:=jE hx.size;replace sC:=hC.size;clear hx;clear bL bM dh dV;obtain⟨bL,bM,dh,dV⟩ :=bB.f2;clear aj ak ay aI;obtain⟨aj,ak,ay,aI⟩ :=ah.f2;obtain⟨c_,rfl⟩ :=Int.eq_ofNat_of_zero_le c0) | ((with_reducible refine(cK _ g code _ (by unfold gZ;omega) ((hc.bf).alloc _)).mono ?_);rintro e wq ⟨c_,rfl,c0,c1,hcn,hx⟩;have lK:=bB.lt;have jy:=ah.lt;replace bB:= ((bB.drew).alloc _).aM hx (by simp only [List.mem_cons,List.not_mem_nil,or_false];omega);replace ah:= ((ah.drew).alloc _).aM hx (by simp only [List.mem_cons,List.not_mem_nil,or_false];omega);replace bI:= ((bI.bf).aH _).aM hx (fun b hb hm=>by simp only [List.mem_cons,List.not_mem_nil,or_false] at hm;have:=nV b hb;have:=fT b hb;omega); (try replace bZ:= ((bZ.bf).aH _).aM hx (fun b hb hm=>by simp only [List.mem_cons,List.not_mem_nil,or_false] at hm;have:=dY b hb;have:=u_n b hb;omega));have aU:=aB.aM (aB.new _ #[.slice none 0 0, .slice none 0 0] 29) hx (by simp only [List.mem_cons,List.not_mem_nil,or_false];omega); (try simp only [fq] at aU);have jI:=hC.size;have gN:=aU.dn;have dX:=aU.lt;have bT:=aU.cell 0 _ rfl;have bU:=aU.cell 1 _ rfl;replace hC:=aY.trans (hC.bf.aH _) hx;replace hc:=hcn;have sz:=iL hx.size;replace sC:=hC.size;clear hx;clear bL bM dh dV;obtain⟨bL,bM,dh,dV⟩ :=bB.f2;clear aj ak ay aI;obtain⟨aj,ak,ay,aI⟩ :=ah.f2;obtain⟨c_,rfl⟩ :=Int.eq_ofNat_of_zero_le c0) | ((with_reducible refine(cK _ g code _ (by unfold gZ;omega) ((hc.alloc _).bf)).mono ?_);rintro e wq ⟨c_,rfl,c0,c1,hcn,hx⟩;have lK:=bB.lt;have jy:=ah.lt;replace bB:= (bB.alloc _).drew.aM hx (by simp only [List.mem_cons,List.not_mem_nil,or_false];omega);replace ah:= (ah.alloc _).drew.aM hx (by simp only [List.mem_cons,List.not_mem_nil,or_false];omega);replace bI:= ((bI.aH _).bf).aM hx (fun b hb hm=>by simp only [List.mem_cons,List.not_mem_nil,or_false] at hm;have:=nV b hb;have:=fT b hb;omega); (try replace bZ:= ((bZ.aH _).bf).aM hx (fun b hb hm=>by simp only [List.mem_cons,List.not_mem_nil,or_false] at hm;have:=dY b hb;have:=u_n b hb;omega));have aU:=aB.aM (aB.new _ #[.slice none 0 0, .slice none 0 0] 29).drew hx (by simp only [List.mem_cons,List.not_mem_nil,or_false];omega);have jI:=hC.size;have gN:=aU.dn;have dX:=aU.lt;have bT:=aU.cell 0 _ rfl;have bU:=aU.cell 1 _ rfl;replace hC:=aY.trans (hC.aH _).bf hx;replace hc:=hcn;have sz:=gV (jE hx.size);replace sC:=hC.size;clear hx;clear bL bM dh dV;obtain⟨bL,bM,dh,dV⟩ :=bB.f2;clear aj ak ay aI;obtain⟨aj,ak,ay,aI⟩ :=ah.f2;obtain⟨c_,rfl⟩ :=Int.eq_ofNat_of_zero_le c0))) | (go_at_call 225; (first| ((with_reducible refine(uP _ gX x _ _ _ (bI).rd' hsz (by omega) (by omega) (bJ.2 ⟨by omega,by omega⟩)).mono ?_);rintro e wq ⟨aG,y,b_,rfl,bZ,nW,dY,hb⟩;have u_n:=bZ.lt;replace bB:=bB.below hb;replace ah:=ah.below hb;replace bI:=bI.step0 hb; (try replace aU:=aU.below hb); (try replace bT:=aU.cell 0 _ rfl); (try replace bU:=aU.cell 1 _ rfl); (try replace gN:=aU.dn); (try replace dX:=aU.lt);replace hc:=f_.up hc hb;replace hC:=aY.trans hC (aY.of_below hb);have sz:=hb.size;replace sC:=hC.size;clear hb;clear bL bM dh dV;obtain⟨bL,bM,dh,dV⟩ :=bB.f2;clear aj ak ay aI;obtain⟨aj,ak,ay,aI⟩ :=ah.f2;have HY : nY y (25 - (k - 1)) :=HS.of nW (by omega)) | ((with_reducible refine(uP _ gX x _ _ _ ((bI.aH _)).rd' hsz (by omega) (by omega) (bJ.2 ⟨by omega,by omega⟩)).mono ?_);rintro e wq ⟨aG,y,b_,rfl,bZ,nW,dY,hb⟩;replace dY:=lW dY;have u_n:=bZ.lt;have lK:=bB.lt;have jy:=ah.lt;replace bB:= (bB.alloc _).below hb;replace ah:= (ah.alloc _).below hb;replace bI:= (bI.aH _).step0 hb;have aU:=aB.below (aB.new _ #[.slice none 0 0, .slice none 0 0] 29) hb;have jI:=hC.size;have gN:=aU.dn;have dX:=aU.lt;have bT:=aU.cell 0 _ rfl;have bU:=aU.cell 1 _ rfl;replace hc:=f_.up (hc.alloc _) hb;replace hC:=aY.trans (hC.aH _) (aY.of_below hb);have sz:=gV hb.size;replace sC:=hC.size;clear hb;clear bL bM dh dV;obtain⟨bL,bM,dh,dV⟩ :=bB.f2;clear aj ak ay aI;obtain⟨aj,ak,ay,aI⟩ :=ah.f2;have HY : nY y (25 - (k - 1)) :=HS.of nW (by omega)) | ((with_reducible refine(uP _ gX x _ _ _ ((bI.bf)).rd' hsz (by omega) (by omega) (bJ.2 ⟨by omega,by omega⟩)).mono ?_);rintro e wq ⟨aG,y,b_,rfl,bZ,nW,dY,hb⟩;replace hb:=gq hb;replace dY:=ji dY;have u_n:=bZ.lt;replace bB:=bB.below hb;replace ah:=ah.below hb;replace bI:=bI.step0 hb; (try replace aU:=aU.below hb); (try replace bT:=aU.cell 0 _ rfl); (try replace bU:=aU.cell 1 _ rfl); (try replace gN:=aU.dn); (try replace dX:=aU.lt);replace hc:=f_.up hc hb;replace hC:=aY.trans hC (aY.of_below hb);have sz:=hb.size;replace sC:=hC.size;clear hb;clear bL bM dh dV;obtain⟨bL,bM,dh,dV⟩ :=bB.f2;clear aj ak ay aI;obtain⟨aj,ak,ay,aI⟩ :=ah.f2;have HY : nY y (25 - (k - 1)) :=HS.of nW (by omega)) | ((with_reducible refine(uP _ gX x _ _ _ (((bI.bf).aH _)).rd' hsz (by omega) (by omega) (bJ.2 ⟨by omega,by omega⟩)).mono ?_);rintro e wq ⟨aG,y,b_,rfl,bZ,nW,dY,hb⟩;replace dY:=mV dY;have u_n:=bZ.lt;have lK:=bB.lt;have jy:=ah.lt;replace bB:= ((bB.drew).alloc _).below hb;replace ah:= ((ah.drew).alloc _).below hb;replace bI:= ((bI.bf).aH _).step0 hb;have aU:=aB.below (aB.new _ #[.slice none 0 0, .slice none 0 0] 29) hb; (try simp only [fq] at aU);have jI:=hC.size;have gN:=aU.dn;have dX:=aU.lt;have bT:=aU.cell 0 _ rfl;have bU:=aU.cell 1 _ rfl;replace hc:=f_.up ((hc.bf).alloc _) hb;replace hC:=aY.trans (hC.bf.aH _) (aY.of_below hb);have sz:=iL hb.size;replace sC:=hC.size;clear hb;clear bL bM dh dV;obtain⟨bL,bM,dh,dV⟩ :=bB.f2;clear aj ak ay aI;obtain⟨aj,ak,ay,aI⟩ :=ah.f2;have HY : nY y (25 - (k - 1)) :=HS.of nW (by omega)) | ((with_reducible refine(uP _ gX x _ _ _ (((bI.aH _).bf)).rd' hsz (by omega) (by omega) (bJ.2 ⟨by omega,by omega⟩)).mono ?_);rintro e wq ⟨aG,y,b_,rfl,bZ,nW,dY,hb⟩;replace hb:=gq hb;replace dY:=ji dY;replace dY:=lW dY;have u_n:=bZ.lt;have lK:=bB.lt;have jy:=ah.lt;replace bB:= (bB.alloc _).below hb;replace ah:= (ah.alloc _).below hb;replace bI:= (bI.aH _).step0 hb;have aU:=aB.below (aB.new _ #[.slice none 0 0, .slice none 0 0] 29) hb;have jI:=hC.size;have gN:=aU.dn;have dX:=aU.lt;have bT:=aU.cell 0 _ rfl;have bU:=aU.cell 1 _ rfl;replace hc:=f_.up (hc.alloc _) hb;replace hC:=aY.trans (hC.aH _) (aY.of_below hb);have sz:=gV hb.size;replace sC:=hC.size;clear hb;clear bL bM dh dV;obtain⟨bL,bM,dh,dV⟩ :=bB.f2;clear aj ak ay aI;obtain⟨aj,ak,ay,aI⟩ :=ah.f2;have HY : nY y (25 - (k - 1)) :=HS.of nW (by omega)))))
   all_goals
    go_wp2_with fail
    go_meet
    first|exact⟨_,aG,y,b_,rfl,rfl,HY,bB.alloc _,ah.alloc _,aB.new _ _ _,bI.aH _,bZ.aH _,fun b hb=> ⟨by have:=dY b hb;omega,by have:=u_n b hb;omega⟩,by omega,hc.alloc _,hC.aH _,by simp<;>omega⟩ | (obtain⟨go,hgo,og⟩ :=aU.ad;rw [←hgo];rw [←hgo] at jI;exact⟨go,aG,y,b_,rfl,rfl,HY, ((bB.other (by omega) _).other (by omega) _), ((ah.other (by omega) _).other (by omega) _), ((og.set 0 _).set 1 _),bI.aM (F:= [go]) bW (fun b hb hm=>by simp only [List.mem_cons,List.not_mem_nil,or_false] at hm;have:=nV b hb;have:=fT b hb;omega),bZ.aM (F:= [go]) bW (fun b hb hm=>by simp only [List.mem_cons,List.not_mem_nil,or_false] at hm;have:=dY b hb;have:=u_n b hb;omega),fun b hb=> ⟨by have:=dY b hb;omega,by have:=dY b hb;have:=u_n b hb;omega⟩,by omega,hc.je (B:=w.heap.size) hgl dQ hC.size, ((hC.gY (by omega) _).gY (by omega) _),by simp<;>omega⟩)
  case rest=>
   clear bB dh dV bL bM
   clear ah ay aI aj ak
   clear bI
   clear hC hc
   obtain⟨go,aG,y,b_,rfl,rfl,HY,bB,ah,aU,bI,bZ,dY,F5,hc,hC,sz⟩ :=hcut
   have rD:=aU.lt
   have jI : w.heap.size≤go:=by omega
   have u_n:=bZ.lt
   have sC:=hC.size
   obtain⟨bL,bM,dh,dV⟩ :=bB.f2
   obtain⟨aj,ak,ay,aI⟩ :=ah.f2
   obtain⟨bT,bU,eU,dX⟩ :=aU.f2
   go_upto_region 4 with (fail)
   clear bI
   replace bB : aB ((wc.setCell ⟨w1.heap.size,0,none⟩ (.slice aG.G.a aG.G.l aG.G.c)).setCell ⟨w1.heap.size,1,none⟩ (.slice aG.O.a aG.O.l aG.O.c)) (w1.heap.size) [.slice aG.G.a aG.G.l aG.G.c, .slice aG.O.a aG.O.l aG.O.c]:= ((bB.set 0 (.slice aG.G.a aG.G.l aG.G.c)).set 1 (.slice aG.O.a aG.O.l aG.O.c))
   replace ah : aB ((wc.setCell ⟨w1.heap.size,0,none⟩ (.slice aG.G.a aG.G.l aG.G.c)).setCell ⟨w1.heap.size,1,none⟩ (.slice aG.O.a aG.O.l aG.O.c)) (w.heap.size) [.slice none 0 0, .slice none 0 0]:= ((ah.other (by omega) _).other (by omega) _)
   replace aU : aB ((wc.setCell ⟨w1.heap.size,0,none⟩ (.slice aG.G.a aG.G.l aG.G.c)).setCell ⟨w1.heap.size,1,none⟩ (.slice aG.O.a aG.O.l aG.O.c)) (go) [.slice aG.G.a aG.G.l aG.G.c, .slice aG.O.a aG.O.l aG.O.c]:= ((aU.other (by omega) _).other (by omega) _)
   replace bZ:=bZ.aM (F:= [w1.heap.size]) (w':= ((wc.setCell ⟨w1.heap.size,0,none⟩ (.slice aG.G.a aG.G.l aG.G.c)).setCell ⟨w1.heap.size,1,none⟩ (.slice aG.O.a aG.O.l aG.O.c))) bW (fun b hb hm=>by simp only [List.mem_cons,List.not_mem_nil,or_false] at hm;have:=dY b hb;have:=u_n b hb;omega)
   replace hc : f_ ((wc.setCell ⟨w1.heap.size,0,none⟩ (.slice aG.G.a aG.G.l aG.G.c)).setCell ⟨w1.heap.size,1,none⟩ (.slice aG.O.a aG.O.l aG.O.c)) g code:=hc.je (B:=w.heap.size) hgl dQ hC.size
   replace hC : aY [g] w ((wc.setCell ⟨w1.heap.size,0,none⟩ (.slice aG.G.a aG.G.l aG.G.c)).setCell ⟨w1.heap.size,1,none⟩ (.slice aG.O.a aG.O.l aG.O.c)) := ((hC.gY (by omega) _).gY (by omega) _)
   have sz : wc.heap.size≤ ((wc.setCell ⟨w1.heap.size,0,none⟩ (.slice aG.G.a aG.G.l aG.G.c)).setCell ⟨w1.heap.size,1,none⟩ (.slice aG.O.a aG.O.l aG.O.c)).heap.size:=by simp
   generalize hG : ((wc.setCell ⟨w1.heap.size,0,none⟩ (.slice aG.G.a aG.G.l aG.G.c)).setCell ⟨w1.heap.size,1,none⟩ (.slice aG.O.a aG.O.l aG.O.c)) =Et at bB ah aU bZ hC hc sz⊢
   clear hG
   replace sC:=hC.size
   clear bL bM dh dV
   obtain⟨bL,bM,dh,dV⟩ :=bB.f2
   clear aj ak ay aI
   obtain⟨aj,ak,ay,aI⟩ :=ah.f2
   clear bT bU eU dX
   obtain⟨bT,bU,eU,dX⟩ :=aU.f2
   go_wp2_with fail
   go_roundw
   case rel=>exact⟨k - 1,aG,y,by go_num,by omega,bB,ah,bZ,HY,fun b hb=>by have:=dY b hb;omega,hc,hC⟩
   case measure=>simp [intOf];omega
end Go.Proofs.YtkmggglljkmjoaaGreat
