/-
  Several texts in one: lemmas and contracts that the claim rests on.
-/
import Derived.Test.YtkmggglljkmjoaaGreatUTC1
import Derived.Deep.QuietTactic
import Derived.BigQuiet
import Derived.Deep.LoopGhost
import Derived.Deep.RegionHeld3
import Derived.Test.YtkmggglljkmjoaaGreatUTC2
import Derived.WalkSpells
import Derived.Laws.Cover3
import Derived.Test.YtkmggglljkmjoaaGreatUTC9
import Derived.Test.YtkmggglljkmjoaaGreatUTC18
import Derived.Test.YtkmggglljkmjoaaGreatUTC11
import Derived.Test.YtkmggglljkmjoaaGreatUTC19
import Derived.Test.YtkmggglljkmjoaaGreatUTC6
namespace Go.Proofs.YtkmggglljkmjoaaGreat
open Go.RowKit
set_option maxRecDepth 100000 in
set_option maxHeartbeats 4000000 in
theorem GH (w : World)(H : dU)(x : Heap)(c : Nat)(h : gU w w.heap.size H x)(hs : gI x=true)(hp : idxOf (fun y=>y == -1) x.Z= -1) :
  Calls Tryz.prog 165 #[.agg #[.slice H.Y.a H.Y.l H.Y.c, .slice H.Z.a H.Z.l H.Z.c], .int .i64 c] w fun e w'=> ∃v : SV,e= .returned (.tuple #[.agg #[.slice H.Y.a H.Y.l H.Y.c, .slice H.Z.a H.Z.l H.Z.c], .slice v.a v.l v.c]) ∧bA FI 3 w' v.val []∧ (∀g∈cu v.val,w.heap.size≤g) ∧Below w.heap.size w w':=by
 obtain⟨⟨A1,n1,c1⟩, ⟨A2,n2,c2⟩⟩ :=H
 have hr2 : fE FI w w.heap.size (.slice A2 n2 c2) x.Z:=h.Z
 have hcl:= (iA hs).cl
 have HN:=Hid.aT (fun k (hk : k<x.Z.length) =>FR hp hk)
 clear h hs hp
 obtain⟨w0,hW0⟩ : ∃x,x= ((w.alloc (.cells #[.slice A1 n1 c1, .slice A2 n2 c2] 26)).alloc (.cells #[.slice none 0 0, .slice none 0 0] 26)) := ⟨_,rfl⟩
 have au : aB w0 (w.heap.size) [.slice A1 n1 c1, .slice A2 n2 c2]:=by
  rw [hW0]
  exact aB.alloc aB.nw _
 have ah : aB w0 (w.heap.size+1) [.slice none 0 0, .slice none 0 0]:=by
  rw [hW0]
  exact aB.nw
 have hB : Below w.heap.size w w0:=by
  rw [hW0]
  exact dJ
 go_enter Tryz.func165,Tryz.ntmps165
 go_wp2_with fail
 rw [←hW0]
 clear hW0
 have g_:=au.lt
 have iB:=ah.lt
 obtain⟨aD,aF,aL,aQ⟩ :=au.f2
 obtain⟨aj,ak,ay,aI⟩ :=ah.f2
 clear aD aF aL aQ
 obtain⟨aD,aF,aL,aQ⟩ :=au.f2
 clear aj ak ay aI
 obtain⟨aj,ak,ay,aI⟩ :=ah.f2
 go_loop [6] (fun i=> ∃k : Nat,k≤6∧i= .int .i64 k) (fun i=>6 - (intOf i).toNat)
 case atStart=>exact⟨0,by omega,rfl⟩
 case round=>
  obtain⟨k,hk,rfl⟩ :=hrel
  by_cases hlt : k<6
  ·have hkl : k<x.Z.length:=by omega
   obtain⟨g,off,cap2,he,hg,_,_,hc⟩ := (eP hr2 hB).at_ (List.getElem?_eq_getElem hkl)
   injection he with e1 e2 e3
   subst e1 e2 e3
   have p0 : w0.cell? ⟨g,off+k,none⟩ =some (.int .i64 x.Z[k]) :=by simpa [FI] using hc 0 _ rfl
   have hne:=HN.out k hkl
   clear hc hr2
   have Ic : (k : Int) < (x.Z.length : Int) :=by omega
   generalize x.Z[k]=y at p0 hne
   go_wp2_with fail
   go_round
   ·exact⟨k+1,by omega,by go_num⟩
   ·simp [intOf];omega
  ·obtain rfl : k=6:=by omega
   go_wp2_with fail
   have hbx:= ((ah.set 0 (.slice A1 n1 c1)).set 1 (.slice A2 n2 c2)).alloc (.cells #[] 3)
   have zU:=hbx.cell 0 _ rfl
   have zV:=hbx.cell 1 _ rfl
   refine bodyPost_ret (v:= .tuple #[.agg #[.slice A1 n1 c1, .slice A2 n2 c2], .slice (some ⟨w0.heap.size,0,none⟩) 0 0]) (by simp [results,Tryz.results165,go_sem,zU,zV]) rfl ⟨⟨some ⟨w0.heap.size,0,none⟩,0,0⟩,rfl,by have a:=bA.lit FI [] #[] rfl (by simp [maxLen]) ((w0.setCell ⟨w.heap.size+1,0,none⟩ (.slice A1 n1 c1)).setCell ⟨w.heap.size+1,1,none⟩ (.slice A2 n2 c2)) 3;show bA FI 3 _ (.slice (some ⟨w0.heap.size,0,none⟩) 0 0) [];simpa using a,fun g hg=>by have a:=bV.1 hg;have b:=hB.size;simp [SV.val,Value.ownBlock] at a;omega,Below.trans hB dQ⟩
set_option maxRecDepth 100000 in
set_option maxHeartbeats 4000000 in
theorem sK (w : World)(H : dU)(x : Heap)(c : Nat)(h : gU w w.heap.size H x)(hs : iE x≤536870912)(hc : c<3) :
  Calls Tryz.prog 223 #[.agg #[.slice H.Y.a H.Y.l H.Y.c, .slice H.Z.a H.Z.l H.Z.c], .int .i64 c] w fun e w'=> ∃ (H' : dU) (y : Heap) (v : SV) (l : List Int),e= .returned (.tuple #[.agg #[.slice H'.Y.a H'.Y.l H'.Y.c, .slice H'.Z.a H'.Z.l H'.Z.c], .slice v.a v.l v.c]) ∧fA w' H' y∧ (y.Y.length=x.Y.length∧y.Z.length=x.Z.length) ∧bA FI 3 w' v.val l∧l.length≤4∧ (∀g∈H'.foot,w.heap.size≤g) ∧ (∀g∈cu v.val,w.heap.size≤g) ∧Below w.heap.size w w':=by
 have hcp:=fun (W : World) (hW : Below w.heap.size w W) =>uy W H x (dW h hW) (by omega)
 have hho:=fun (W : World) (hW : Below w.heap.size w W) =>AA W H x (dW h hW)
 have hiw : bO 0 2 (c : Int) =true:=bJ.2 ⟨by omega,by omega⟩
 by_cases c1 : jg x=true
 case neg=>
  have c1':= (Bool.not_eq_true _).mp c1
  rw [c1'] at hho
  clear c1 c1'
  obtain⟨w0,hW0⟩ : ∃x,x= ((w.alloc (.cells #[.slice H.Y.a H.Y.l H.Y.c, .slice H.Z.a H.Z.l H.Z.c] 26)).alloc (.cells #[.slice none 0 0, .slice none 0 0] 26)) := ⟨_,rfl⟩
  have au : aB w0 (w.heap.size) [.slice H.Y.a H.Y.l H.Y.c, .slice H.Z.a H.Z.l H.Z.c]:=by
   rw [hW0]
   exact aB.alloc aB.nw _
  have ah : aB w0 (w.heap.size+1) [.slice none 0 0, .slice none 0 0]:=by
   rw [hW0]
   exact aB.nw
  have hB : Below w.heap.size w w0:=by
   rw [hW0]
   exact dJ
  go_enter Tryz.func223,Tryz.ntmps223
  go_wp2_with fail
  rw [←hW0]
  clear hW0
  have g_:=au.lt
  have iB:=ah.lt
  obtain⟨aD,aF,aL,aQ⟩ :=au.f2
  obtain⟨aj,ak,ay,aI⟩ :=ah.f2
  refine(hcp _ hB).mono ?_
  rintro e w1 ⟨aA,rfl,aP,l_c,hb⟩
  have u_c:=aP.lt
  replace au:=au.below hb
  replace ah:=ah.below hb
  replace hB:=hB.trans (hb.mono hB.size)
  have sz:=hb.size
  clear hb
  clear aD aF aL aQ
  obtain⟨aD,aF,aL,aQ⟩ :=au.f2
  clear aj ak ay aI
  obtain⟨aj,ak,ay,aI⟩ :=ah.f2
  clear hcp
  go_wp2_with fail
  generalize hO : Obj.cells #[.slice aA.Y.a aA.Y.l aA.Y.c, .slice aA.Z.a aA.Z.l aA.Z.c] 26=O_
  replace au:=au.alloc O_
  replace ah:=ah.alloc O_
  replace aP:=aP.aH O_
  replace hB:=hB.alloc hB.size O_
  have aN : aB (w1.alloc O_) w1.heap.size [.slice aA.Y.a aA.Y.l aA.Y.c, .slice aA.Z.a aA.Z.l aA.Z.c]:=hO ▸ aB.new _ _ _
  have gy:=aN.lt
  have sz : w1.heap.size≤ (w1.alloc O_).heap.size:=Nat.le_of_lt aN.lt
  generalize hG : (w1.alloc O_) =w2 at au ah aP hB aN gy sz⊢
  clear hG hO O_
  clear aD aF aL aQ
  obtain⟨aD,aF,aL,aQ⟩ :=au.f2
  clear aj ak ay aI
  obtain⟨aj,ak,ay,aI⟩ :=ah.f2
  obtain⟨aV,aW,bq,bN⟩ :=aN.f2
  refine(hho _ hB).mono ?_
  rintro e w3 ⟨rfl,hb⟩
  replace au:=au.below hb
  replace ah:=ah.below hb
  replace aN:=aN.below hb
  have aP:=aP.step0 hb
  replace hB:=hB.trans (hb.mono hB.size)
  have sz:=hb.size
  clear hb
  clear aD aF aL aQ
  obtain⟨aD,aF,aL,aQ⟩ :=au.f2
  clear aj ak ay aI
  obtain⟨aj,ak,ay,aI⟩ :=ah.f2
  clear aV aW bq bN
  obtain⟨aV,aW,bq,bN⟩ :=aN.f2
  clear hho
  have hbx:= ((ah.set 0 (.slice aA.Y.a aA.Y.l aA.Y.c)).set 1 (.slice aA.Z.a aA.Z.l aA.Z.c)).alloc (.cells #[] 3)
  have zU:=hbx.cell 0 _ rfl
  have zV:=hbx.cell 1 _ rfl
  have bQ : bA FI 3 (((w3.setCell ⟨w.heap.size+1,0,none⟩ (.slice aA.Y.a aA.Y.l aA.Y.c)).setCell ⟨w.heap.size+1,1,none⟩ (.slice aA.Z.a aA.Z.l aA.Z.c)).alloc (.cells #[] 3)) (.slice (some ⟨w3.heap.size,0,none⟩) 0 0) []:=by have a:=bA.lit FI [] #[] rfl (by simp [maxLen]) ((w3.setCell ⟨w.heap.size+1,0,none⟩ (.slice aA.Y.a aA.Y.l aA.Y.c)).setCell ⟨w.heap.size+1,1,none⟩ (.slice aA.Z.a aA.Z.l aA.Z.c)) 3;simpa using a
  go_wp2_with fail
  refine bodyPost_ret (v:= .tuple #[.agg #[.slice aA.Y.a aA.Y.l aA.Y.c, .slice aA.Z.a aA.Z.l aA.Z.c], .slice (some ⟨w3.heap.size,0,none⟩) 0 0]) (by simp [results,Tryz.results223,go_sem,zU,zV]) rfl ⟨aA,x, ⟨some ⟨w3.heap.size,0,none⟩,0,0⟩, [],rfl,aP.aM (F:= [w.heap.size+1]) bW (fun g hg hm=>by simp only [List.mem_cons,List.not_mem_nil,or_false] at hm;have:=l_c g hg;have:=u_c g hg;omega), ⟨rfl,rfl⟩,bQ,Nat.zero_le _,fun g hg=>by have:=l_c g hg;omega,fun g hg=>by have a:=bV.1 hg;have b:=hB.size;simp [SV.val,Value.ownBlock] at a;omega,Below.trans hB dQ⟩
 rw [c1] at hho
 have hsh:=rZ c1
 rcases FX x.Z (-1) with hp| ⟨p,hp⟩
 ·have hgr:=fun (W : World) (K : dU) (hK : gU W W.heap.size K x) =>GH W K x c hK hsh hp
  clear hsh hp c1
  obtain⟨w0,hW0⟩ : ∃x,x= ((w.alloc (.cells #[.slice H.Y.a H.Y.l H.Y.c, .slice H.Z.a H.Z.l H.Z.c] 26)).alloc (.cells #[.slice none 0 0, .slice none 0 0] 26)) := ⟨_,rfl⟩
  have au : aB w0 (w.heap.size) [.slice H.Y.a H.Y.l H.Y.c, .slice H.Z.a H.Z.l H.Z.c]:=by
   rw [hW0]
   exact aB.alloc aB.nw _
  have ah : aB w0 (w.heap.size+1) [.slice none 0 0, .slice none 0 0]:=by
   rw [hW0]
   exact aB.nw
  have hB : Below w.heap.size w w0:=by
   rw [hW0]
   exact dJ
  go_enter Tryz.func223,Tryz.ntmps223
  go_wp2_with fail
  rw [←hW0]
  clear hW0
  have g_:=au.lt
  have iB:=ah.lt
  obtain⟨aD,aF,aL,aQ⟩ :=au.f2
  obtain⟨aj,ak,ay,aI⟩ :=ah.f2
  refine(hcp _ hB).mono ?_
  rintro e w1 ⟨aA,rfl,aP,l_c,hb⟩
  have u_c:=aP.lt
  replace au:=au.below hb
  replace ah:=ah.below hb
  replace hB:=hB.trans (hb.mono hB.size)
  have sz:=hb.size
  clear hb
  clear aD aF aL aQ
  obtain⟨aD,aF,aL,aQ⟩ :=au.f2
  clear aj ak ay aI
  obtain⟨aj,ak,ay,aI⟩ :=ah.f2
  clear hcp
  go_wp2_with fail
  generalize hO : Obj.cells #[.slice aA.Y.a aA.Y.l aA.Y.c, .slice aA.Z.a aA.Z.l aA.Z.c] 26=O_
  replace au:=au.alloc O_
  replace ah:=ah.alloc O_
  replace aP:=aP.aH O_
  replace hB:=hB.alloc hB.size O_
  have aN : aB (w1.alloc O_) w1.heap.size [.slice aA.Y.a aA.Y.l aA.Y.c, .slice aA.Z.a aA.Z.l aA.Z.c]:=hO ▸ aB.new _ _ _
  have gy:=aN.lt
  have sz : w1.heap.size≤ (w1.alloc O_).heap.size:=Nat.le_of_lt aN.lt
  generalize hG : (w1.alloc O_) =w2 at au ah aP hB aN gy sz⊢
  clear hG hO O_
  clear aD aF aL aQ
  obtain⟨aD,aF,aL,aQ⟩ :=au.f2
  clear aj ak ay aI
  obtain⟨aj,ak,ay,aI⟩ :=ah.f2
  obtain⟨aV,aW,bq,bN⟩ :=aN.f2
  refine(hho _ hB).mono ?_
  rintro e w3 ⟨rfl,hb⟩
  replace au:=au.below hb
  replace ah:=ah.below hb
  replace aN:=aN.below hb
  have aP:=aP.step0 hb
  replace hB:=hB.trans (hb.mono hB.size)
  have sz:=hb.size
  clear hb
  clear aD aF aL aQ
  obtain⟨aD,aF,aL,aQ⟩ :=au.f2
  clear aj ak ay aI
  obtain⟨aj,ak,ay,aI⟩ :=ah.f2
  clear aV aW bq bN
  obtain⟨aV,aW,bq,bN⟩ :=aN.f2
  clear hho
  go_wp2_with (go_at_call 102;refine(fG _ _ _ _).mono ?_;rw [hiw];rintro e wv ⟨rfl,rfl⟩)
  refine(hgr _ aA aP.rd').mono ?_
  rintro e w4 ⟨qb,rfl,bQ,fJ,hb⟩
  have iD:=iQ bQ
  replace au:=au.below hb
  replace ah:=ah.below hb
  replace aN:=aN.below hb
  replace aP:=aP.step0 hb
  replace hB:=hB.trans (hb.mono hB.size)
  have sz:=hb.size
  clear hb
  clear aD aF aL aQ
  obtain⟨aD,aF,aL,aQ⟩ :=au.f2
  clear aj ak ay aI
  obtain⟨aj,ak,ay,aI⟩ :=ah.f2
  clear aV aW bq bN
  obtain⟨aV,aW,bq,bN⟩ :=aN.f2
  clear hgr
  have hbx:= ((ah.set 0 (.slice aA.Y.a aA.Y.l aA.Y.c)).set 1 (.slice aA.Z.a aA.Z.l aA.Z.c)).alloc (.cells #[.slice aA.Y.a aA.Y.l aA.Y.c, .slice aA.Z.a aA.Z.l aA.Z.c] 26)
  have zU:=hbx.cell 0 _ rfl
  have zV:=hbx.cell 1 _ rfl
  go_wp2_with fail
  refine bodyPost_ret (v:= .tuple #[.agg #[.slice aA.Y.a aA.Y.l aA.Y.c, .slice aA.Z.a aA.Z.l aA.Z.c], .slice qb.a qb.l qb.c]) (by simp [results,Tryz.results223,go_sem,zU,zV]) rfl ⟨aA,x,qb, [],rfl,aP.aM (F:= [w.heap.size+1]) bW (fun g hg hm=>by simp only [List.mem_cons,List.not_mem_nil,or_false] at hm;have:=l_c g hg;have:=u_c g hg;omega), ⟨rfl,rfl⟩,bQ.aM (F:= [w.heap.size+1]) bW (fun g hg hm=>by simp only [List.mem_cons,List.not_mem_nil,or_false] at hm;have:=fJ g hg;have:=iD g hg;omega),Nat.zero_le _,fun g hg=>by have:=l_c g hg;omega,fun g hg=>by have:=fJ g hg;omega,Below.trans hB dQ⟩
 ·have hgr:=fun (W : World) (K : dU) (hK : fA W K x) =>Ba W K x p c hK hsh hc hp
  have Ni : Hid ((fI x p c).Y.length=x.Y.length∧ (fI x p c).Z.length=x.Z.length) :=by
   have hpl:= (KQ hp).1
   have sh:=iA hsh
   have e1:=oh (b:=x.Y) (p:=p) (c:= (c : Int)) sh.bl (by rw [sh.cl] at hpl;exact hpl) hiw (cO (c : Int)).toNat (Nat.le_refl _)
   exact⟨e1.trans sh.bl.symm,List.length_set⟩
  have HSL : Hid ((d_ p (cO (c : Int)).toNat).length≤4) :=by
   show _≤4
   rw [pV]
   have:=qG (c : Int)
   omega
  clear hsh hp c1
  generalize d_ p (cO (c : Int)).toNat=l at hgr HSL
  generalize fI x p c=y at hgr Ni
  obtain⟨w0,hW0⟩ : ∃x,x= ((w.alloc (.cells #[.slice H.Y.a H.Y.l H.Y.c, .slice H.Z.a H.Z.l H.Z.c] 26)).alloc (.cells #[.slice none 0 0, .slice none 0 0] 26)) := ⟨_,rfl⟩
  have au : aB w0 (w.heap.size) [.slice H.Y.a H.Y.l H.Y.c, .slice H.Z.a H.Z.l H.Z.c]:=by
   rw [hW0]
   exact aB.alloc aB.nw _
  have ah : aB w0 (w.heap.size+1) [.slice none 0 0, .slice none 0 0]:=by
   rw [hW0]
   exact aB.nw
  have hB : Below w.heap.size w w0:=by
   rw [hW0]
   exact dJ
  go_enter Tryz.func223,Tryz.ntmps223
  go_wp2_with fail
  rw [←hW0]
  clear hW0
  have g_:=au.lt
  have iB:=ah.lt
  obtain⟨aD,aF,aL,aQ⟩ :=au.f2
  obtain⟨aj,ak,ay,aI⟩ :=ah.f2
  refine(hcp _ hB).mono ?_
  rintro e w1 ⟨aA,rfl,aP,l_c,hb⟩
  have u_c:=aP.lt
  replace au:=au.below hb
  replace ah:=ah.below hb
  replace hB:=hB.trans (hb.mono hB.size)
  have sz:=hb.size
  clear hb
  clear aD aF aL aQ
  obtain⟨aD,aF,aL,aQ⟩ :=au.f2
  clear aj ak ay aI
  obtain⟨aj,ak,ay,aI⟩ :=ah.f2
  clear hcp
  go_wp2_with fail
  generalize hO : Obj.cells #[.slice aA.Y.a aA.Y.l aA.Y.c, .slice aA.Z.a aA.Z.l aA.Z.c] 26=O_
  replace au:=au.alloc O_
  replace ah:=ah.alloc O_
  replace aP:=aP.aH O_
  replace hB:=hB.alloc hB.size O_
  have aN : aB (w1.alloc O_) w1.heap.size [.slice aA.Y.a aA.Y.l aA.Y.c, .slice aA.Z.a aA.Z.l aA.Z.c]:=hO ▸ aB.new _ _ _
  have gy:=aN.lt
  have sz : w1.heap.size≤ (w1.alloc O_).heap.size:=Nat.le_of_lt aN.lt
  generalize hG : (w1.alloc O_) =w2 at au ah aP hB aN gy sz⊢
  clear hG hO O_
  clear aD aF aL aQ
  obtain⟨aD,aF,aL,aQ⟩ :=au.f2
  clear aj ak ay aI
  obtain⟨aj,ak,ay,aI⟩ :=ah.f2
  obtain⟨aV,aW,bq,bN⟩ :=aN.f2
  refine(hho _ hB).mono ?_
  rintro e w3 ⟨rfl,hb⟩
  replace au:=au.below hb
  replace ah:=ah.below hb
  replace aN:=aN.below hb
  have aP:=aP.step0 hb
  replace hB:=hB.trans (hb.mono hB.size)
  have sz:=hb.size
  clear hb
  clear aD aF aL aQ
  obtain⟨aD,aF,aL,aQ⟩ :=au.f2
  clear aj ak ay aI
  obtain⟨aj,ak,ay,aI⟩ :=ah.f2
  clear aV aW bq bN
  obtain⟨aV,aW,bq,bN⟩ :=aN.f2
  clear hho
  go_wp2_with (go_at_call 102;refine(fG _ _ _ _).mono ?_;rw [hiw];rintro e wv ⟨rfl,rfl⟩)
  refine(hgr _ aA aP).mono ?_
  rintro e w4 ⟨qb,rfl,bZ,bQ,fJ,hx⟩
  clear hgr
  replace hB:=hB.trans (hx.below hB.size (fun g hm=>by have:=l_c g ((fun h=>h) hm);omega))
  have sz:=hx.size
  replace au:=au.aM hx (fun hm=>by have:=l_c _ ((fun h=>h) hm);have:=u_c _ ((fun h=>h) hm);omega)
  replace ah:=ah.aM hx (fun hm=>by have:=l_c _ ((fun h=>h) hm);have:=u_c _ ((fun h=>h) hm);omega)
  replace aN:=aN.aM hx (fun hm=>by have:=l_c _ ((fun h=>h) hm);have:=u_c _ ((fun h=>h) hm);omega)
  replace aP:=bZ
  clear hx
  clear aD aF aL aQ
  obtain⟨aD,aF,aL,aQ⟩ :=au.f2
  clear aj ak ay aI
  obtain⟨aj,ak,ay,aI⟩ :=ah.f2
  clear aV aW bq bN
  obtain⟨aV,aW,bq,bN⟩ :=aN.f2
  have iD:=iQ bQ
  have hbx:= ((ah.set 0 (.slice aA.Y.a aA.Y.l aA.Y.c)).set 1 (.slice aA.Z.a aA.Z.l aA.Z.c)).alloc (.cells #[.slice aA.Y.a aA.Y.l aA.Y.c, .slice aA.Z.a aA.Z.l aA.Z.c] 26)
  have zU:=hbx.cell 0 _ rfl
  have zV:=hbx.cell 1 _ rfl
  go_wp2_with fail
  refine bodyPost_ret (v:= .tuple #[.agg #[.slice aA.Y.a aA.Y.l aA.Y.c, .slice aA.Z.a aA.Z.l aA.Z.c], .slice qb.a qb.l qb.c]) (by simp [results,Tryz.results223,go_sem,zU,zV]) rfl ⟨aA,y,qb,l,rfl,aP.aM (F:= [w.heap.size+1]) bW (fun g hg hm=>by simp only [List.mem_cons,List.not_mem_nil,or_false] at hm;have:=l_c g hg;have:=u_c g hg;omega),Ni.out,bQ.aM (F:= [w.heap.size+1]) bW (fun g hg hm=>by simp only [List.mem_cons,List.not_mem_nil,or_false] at hm;have:=fJ g hg;have:=iD g hg;omega),HSL.out,fun g hg=>by have:=l_c g hg;omega,fun g hg=>by have:=fJ g hg;omega,Below.trans hB dQ⟩
end Go.Proofs.YtkmggglljkmjoaaGreat
namespace Go.Proofs.YtkmggglljkmjoaaGreat
open Go.RowKit
def xL : Heap:= ⟨List.replicate 384 0,List.replicate 6 (-1)⟩
def wC : Lists:= ⟨List.replicate 3 [],List.replicate 9 []⟩
def lN : Mem:= ⟨xL,wC⟩
set_option maxRecDepth 100000 in
set_option maxHeartbeats 1000000 in
theorem EM (w : World) : Calls Tryz.prog 113 #[] w fun e w'=> ∃H' : aZ,e= .returned (.agg #[.slice H'.G.a H'.G.l H'.G.c, .slice H'.O.a H'.O.l H'.O.c]) ∧dZ w' H' wC∧ (∀g∈H'.foot,w.heap.size≤g) ∧Below w.heap.size w w':=by
 have OT : ∀w, (Instr.makeSlice 27 (.int .i64 3) (.int .i64 3)).run Tryz.prog w= .ok (.slice (some ⟨w.heap.size,0,none⟩) 3 3) (w.alloc (.cells (madeCells #[.slice none 0 0] (3 * FS.n)) 94)) :=l7 (P:=Tryz.prog) FS 27 94 (.agg #[.slice none 0 0]) 24 Tryz.underlying27 Tryz.infoSList 3 (by omega) (by omega)
 have OU : ∀w, (Instr.makeSlice 27 (.int .i64 9) (.int .i64 9)).run Tryz.prog w= .ok (.slice (some ⟨w.heap.size,0,none⟩) 9 9) (w.alloc (.cells (madeCells #[.slice none 0 0] (9 * FS.n)) 94)) :=l7 (P:=Tryz.prog) FS 27 94 (.agg #[.slice none 0 0]) 24 Tryz.underlying27 Tryz.infoSList 9 (by omega) (by omega)
 obtain⟨w0,hW0⟩ : ∃x,x= (w.alloc (.cells #[.slice none 0 0, .slice none 0 0] 29)) := ⟨_,rfl⟩
 have ah : aB w0 (w.heap.size) [.slice none 0 0, .slice none 0 0]:=by
  rw [hW0]
  exact aB.nw
 have hB : Below w.heap.size w w0:=by
  rw [hW0]
  exact dJ
 go_enter Tryz.func113,Tryz.ntmps113
 go_wp2_with fail
 rw [←hW0]
 clear hW0
 have iB:=ah.lt
 obtain⟨aj,ak,ay,aI⟩ :=ah.f2
 go_region
 all_goals go_wp2_with fail
 ·have br:= (((((ah.set 0 (.slice (some ⟨w0.heap.size,0,none⟩) 3 3)).set 1 (.slice (some ⟨w0.heap.size+1,0,none⟩) 9 9)).alloc (.cells (madeCells #[.slice none 0 0] (3 * FS.n)) 94)).alloc (.cells (madeCells #[.slice none 0 0] (9 * FS.n)) 94)).drew)
  have e2 : ((w0.setCell ⟨w.heap.size,0,none⟩ (.slice (some ⟨w0.heap.size,0,none⟩) 3 3)).setCell ⟨w.heap.size,1,none⟩ (.slice (some ⟨w0.heap.size+1,0,none⟩) 9 9)).heap.size=w0.heap.size:=by simp
  have oa:=dR.made #[.slice none 0 0] rfl 3 (by simp [maxLen]) ((w0.setCell ⟨w.heap.size,0,none⟩ (.slice (some ⟨w0.heap.size,0,none⟩) 3 3)).setCell ⟨w.heap.size,1,none⟩ (.slice (some ⟨w0.heap.size+1,0,none⟩) 9 9)) FI 3 94
  rw [e2] at oa
  have ob:=dR.made #[.slice none 0 0] rfl 9 (by simp [maxLen]) (((w0.setCell ⟨w.heap.size,0,none⟩ (.slice (some ⟨w0.heap.size,0,none⟩) 3 3)).setCell ⟨w.heap.size,1,none⟩ (.slice (some ⟨w0.heap.size+1,0,none⟩) 9 9)).alloc (.cells (madeCells #[.slice none 0 0] (3 * FS.n)) 94)) FI 3 94
  rw [World.size_alloc,e2] at ob
  have la:=oa.lt
  rw [World.size_alloc,e2] at la
  have fa:=nN w0.heap.size 3
  have fb:=nN (w0.heap.size+1) 9
  have r0:=br.cell 0 _ rfl
  have r1:=br.cell 1 _ rfl
  exact bodyPost_ret (v:= .agg #[.slice (some ⟨w0.heap.size,0,none⟩) 3 3, .slice (some ⟨w0.heap.size+1,0,none⟩) 9 9]) (by simp [results,Tryz.results113,go_sem,r0,r1]) rfl ⟨⟨⟨some ⟨w0.heap.size,0,none⟩,3,3⟩, (List.replicate 3 ⟨none,0,0⟩), ⟨some ⟨w0.heap.size+1,0,none⟩,9,9⟩, (List.replicate 9 ⟨none,0,0⟩)⟩,rfl, ⟨(oa.aH (.cells (madeCells #[.slice none 0 0] (9 * FS.n)) 94)).keep (fun _ _=>rfl),ob.keep (fun _ _=>rfl),fun b hb hm=>by have h1:=la b hb;have h2:=fb b hm;omega⟩,fun b hb=>by rcases aZ.aX.1 hb with hb|hb; (have:=fa b hb;omega); (have:=fb b hb;omega),Below.trans hB dQ⟩
 ·have br:= (((((ah.set 0 (.slice (some ⟨w0.heap.size+1,0,none⟩) 3 3)).set 1 (.slice (some ⟨w0.heap.size,0,none⟩) 9 9)).alloc (.cells (madeCells #[.slice none 0 0] (9 * FS.n)) 94)).alloc (.cells (madeCells #[.slice none 0 0] (3 * FS.n)) 94)).drew)
  have e2 : ((w0.setCell ⟨w.heap.size,0,none⟩ (.slice (some ⟨w0.heap.size+1,0,none⟩) 3 3)).setCell ⟨w.heap.size,1,none⟩ (.slice (some ⟨w0.heap.size,0,none⟩) 9 9)).heap.size=w0.heap.size:=by simp
  have oa:=dR.made #[.slice none 0 0] rfl 9 (by simp [maxLen]) ((w0.setCell ⟨w.heap.size,0,none⟩ (.slice (some ⟨w0.heap.size+1,0,none⟩) 3 3)).setCell ⟨w.heap.size,1,none⟩ (.slice (some ⟨w0.heap.size,0,none⟩) 9 9)) FI 3 94
  rw [e2] at oa
  have ob:=dR.made #[.slice none 0 0] rfl 3 (by simp [maxLen]) (((w0.setCell ⟨w.heap.size,0,none⟩ (.slice (some ⟨w0.heap.size+1,0,none⟩) 3 3)).setCell ⟨w.heap.size,1,none⟩ (.slice (some ⟨w0.heap.size,0,none⟩) 9 9)).alloc (.cells (madeCells #[.slice none 0 0] (9 * FS.n)) 94)) FI 3 94
  rw [World.size_alloc,e2] at ob
  have la:=oa.lt
  rw [World.size_alloc,e2] at la
  have fa:=nN w0.heap.size 9
  have fb:=nN (w0.heap.size+1) 3
  have r0:=br.cell 0 _ rfl
  have r1:=br.cell 1 _ rfl
  exact bodyPost_ret (v:= .agg #[.slice (some ⟨w0.heap.size+1,0,none⟩) 3 3, .slice (some ⟨w0.heap.size,0,none⟩) 9 9]) (by simp [results,Tryz.results113,go_sem,r0,r1]) rfl ⟨⟨⟨some ⟨w0.heap.size+1,0,none⟩,3,3⟩, (List.replicate 3 ⟨none,0,0⟩), ⟨some ⟨w0.heap.size,0,none⟩,9,9⟩, (List.replicate 9 ⟨none,0,0⟩)⟩,rfl, ⟨ob.keep (fun _ _=>rfl), (oa.aH (.cells (madeCells #[.slice none 0 0] (3 * FS.n)) 94)).keep (fun _ _=>rfl),fun b hb hm=>by have h1:=la b hm;have h2:=fb b hb;omega⟩,fun b hb=>by rcases aZ.aX.1 hb with hb|hb; (have:=fb b hb;omega); (have:=fa b hb;omega),Below.trans hB dQ⟩
set_option maxRecDepth 100000 in
set_option maxHeartbeats 1000000 in
theorem yT (w : World) : Calls Tryz.prog 222 #[] w fun e w'=> ∃H' : aZ,e= .returned (.agg #[.slice H'.G.a H'.G.l H'.G.c, .slice H'.O.a H'.O.l H'.O.c]) ∧dZ w' H' wC∧ (∀g∈H'.foot,w.heap.size≤g) ∧Below w.heap.size w w':=by
 have OT : ∀w, (Instr.makeSlice 27 (.int .i64 3) (.int .i64 3)).run Tryz.prog w= .ok (.slice (some ⟨w.heap.size,0,none⟩) 3 3) (w.alloc (.cells (madeCells #[.slice none 0 0] (3 * FS.n)) 94)) :=l7 (P:=Tryz.prog) FS 27 94 (.agg #[.slice none 0 0]) 24 Tryz.underlying27 Tryz.infoSList 3 (by omega) (by omega)
 have OU : ∀w, (Instr.makeSlice 27 (.int .i64 9) (.int .i64 9)).run Tryz.prog w= .ok (.slice (some ⟨w.heap.size,0,none⟩) 9 9) (w.alloc (.cells (madeCells #[.slice none 0 0] (9 * FS.n)) 94)) :=l7 (P:=Tryz.prog) FS 27 94 (.agg #[.slice none 0 0]) 24 Tryz.underlying27 Tryz.infoSList 9 (by omega) (by omega)
 obtain⟨w0,hW0⟩ : ∃x,x= (w.alloc (.cells #[.slice none 0 0, .slice none 0 0] 29)) := ⟨_,rfl⟩
 have ah : aB w0 (w.heap.size) [.slice none 0 0, .slice none 0 0]:=by
  rw [hW0]
  exact aB.nw
 have hB : Below w.heap.size w w0:=by
  rw [hW0]
  exact dJ
 go_enter Tryz.func222,Tryz.ntmps222
 go_wp2_with fail
 rw [←hW0]
 clear hW0
 have iB:=ah.lt
 obtain⟨aj,ak,ay,aI⟩ :=ah.f2
 go_region
 all_goals go_wp2_with fail
 ·have br:= (((((ah.set 0 (.slice (some ⟨w0.heap.size,0,none⟩) 3 3)).set 1 (.slice (some ⟨w0.heap.size+1,0,none⟩) 9 9)).alloc (.cells (madeCells #[.slice none 0 0] (3 * FS.n)) 94)).alloc (.cells (madeCells #[.slice none 0 0] (9 * FS.n)) 94)).drew)
  have e2 : ((w0.setCell ⟨w.heap.size,0,none⟩ (.slice (some ⟨w0.heap.size,0,none⟩) 3 3)).setCell ⟨w.heap.size,1,none⟩ (.slice (some ⟨w0.heap.size+1,0,none⟩) 9 9)).heap.size=w0.heap.size:=by simp
  have oa:=dR.made #[.slice none 0 0] rfl 3 (by simp [maxLen]) ((w0.setCell ⟨w.heap.size,0,none⟩ (.slice (some ⟨w0.heap.size,0,none⟩) 3 3)).setCell ⟨w.heap.size,1,none⟩ (.slice (some ⟨w0.heap.size+1,0,none⟩) 9 9)) FI 3 94
  rw [e2] at oa
  have ob:=dR.made #[.slice none 0 0] rfl 9 (by simp [maxLen]) (((w0.setCell ⟨w.heap.size,0,none⟩ (.slice (some ⟨w0.heap.size,0,none⟩) 3 3)).setCell ⟨w.heap.size,1,none⟩ (.slice (some ⟨w0.heap.size+1,0,none⟩) 9 9)).alloc (.cells (madeCells #[.slice none 0 0] (3 * FS.n)) 94)) FI 3 94
  rw [World.size_alloc,e2] at ob
  have la:=oa.lt
  rw [World.size_alloc,e2] at la
  have fa:=nN w0.heap.size 3
  have fb:=nN (w0.heap.size+1) 9
  have r0:=br.cell 0 _ rfl
  have r1:=br.cell 1 _ rfl
  exact bodyPost_ret (v:= .agg #[.slice (some ⟨w0.heap.size,0,none⟩) 3 3, .slice (some ⟨w0.heap.size+1,0,none⟩) 9 9]) (by simp [results,Tryz.results222,go_sem,r0,r1]) rfl ⟨⟨⟨some ⟨w0.heap.size,0,none⟩,3,3⟩, (List.replicate 3 ⟨none,0,0⟩), ⟨some ⟨w0.heap.size+1,0,none⟩,9,9⟩, (List.replicate 9 ⟨none,0,0⟩)⟩,rfl, ⟨(oa.aH (.cells (madeCells #[.slice none 0 0] (9 * FS.n)) 94)).keep (fun _ _=>rfl),ob.keep (fun _ _=>rfl),fun b hb hm=>by have h1:=la b hb;have h2:=fb b hm;omega⟩,fun b hb=>by rcases aZ.aX.1 hb with hb|hb; (have:=fa b hb;omega); (have:=fb b hb;omega),Below.trans hB dQ⟩
 ·have br:= (((((ah.set 0 (.slice (some ⟨w0.heap.size+1,0,none⟩) 3 3)).set 1 (.slice (some ⟨w0.heap.size,0,none⟩) 9 9)).alloc (.cells (madeCells #[.slice none 0 0] (9 * FS.n)) 94)).alloc (.cells (madeCells #[.slice none 0 0] (3 * FS.n)) 94)).drew)
  have e2 : ((w0.setCell ⟨w.heap.size,0,none⟩ (.slice (some ⟨w0.heap.size+1,0,none⟩) 3 3)).setCell ⟨w.heap.size,1,none⟩ (.slice (some ⟨w0.heap.size,0,none⟩) 9 9)).heap.size=w0.heap.size:=by simp
  have oa:=dR.made #[.slice none 0 0] rfl 9 (by simp [maxLen]) ((w0.setCell ⟨w.heap.size,0,none⟩ (.slice (some ⟨w0.heap.size+1,0,none⟩) 3 3)).setCell ⟨w.heap.size,1,none⟩ (.slice (some ⟨w0.heap.size,0,none⟩) 9 9)) FI 3 94
  rw [e2] at oa
  have ob:=dR.made #[.slice none 0 0] rfl 3 (by simp [maxLen]) (((w0.setCell ⟨w.heap.size,0,none⟩ (.slice (some ⟨w0.heap.size+1,0,none⟩) 3 3)).setCell ⟨w.heap.size,1,none⟩ (.slice (some ⟨w0.heap.size,0,none⟩) 9 9)).alloc (.cells (madeCells #[.slice none 0 0] (9 * FS.n)) 94)) FI 3 94
  rw [World.size_alloc,e2] at ob
  have la:=oa.lt
  rw [World.size_alloc,e2] at la
  have fa:=nN w0.heap.size 9
  have fb:=nN (w0.heap.size+1) 3
  have r0:=br.cell 0 _ rfl
  have r1:=br.cell 1 _ rfl
  exact bodyPost_ret (v:= .agg #[.slice (some ⟨w0.heap.size+1,0,none⟩) 3 3, .slice (some ⟨w0.heap.size,0,none⟩) 9 9]) (by simp [results,Tryz.results222,go_sem,r0,r1]) rfl ⟨⟨⟨some ⟨w0.heap.size+1,0,none⟩,3,3⟩, (List.replicate 3 ⟨none,0,0⟩), ⟨some ⟨w0.heap.size,0,none⟩,9,9⟩, (List.replicate 9 ⟨none,0,0⟩)⟩,rfl, ⟨ob.keep (fun _ _=>rfl), (oa.aH (.cells (madeCells #[.slice none 0 0] (3 * FS.n)) 94)).keep (fun _ _=>rfl),fun b hb hm=>by have h1:=la b hm;have h2:=fb b hb;omega⟩,fun b hb=>by rcases aZ.aX.1 hb with hb|hb; (have:=fb b hb;omega); (have:=fa b hb;omega),Below.trans hB dQ⟩
end Go.Proofs.YtkmggglljkmjoaaGreat
namespace Go.Proofs.YtkmggglljkmjoaaGreat
open Go.RowKit
set_option maxRecDepth 100000 in
set_option maxHeartbeats 1000000 in
theorem zZ (w : World) : Calls Tryz.prog 221 #[] w fun e w'=> ∃H' : dU,e= .returned (.agg #[.slice H'.Y.a H'.Y.l H'.Y.c, .slice H'.Z.a H'.Z.l H'.Z.c]) ∧fA w' H' xL∧ (∀g∈H'.foot,w.heap.size≤g) ∧Below w.heap.size w w':=by
 have hmk : ∀w, (Instr.makeSlice 24 (.int .i64 384) (.int .i64 384)).run Tryz.prog w= .ok (.slice (some ⟨w.heap.size,0,none⟩) 384 384) (w.alloc (.cells (madeCells #[.int .i64 0] (384 * FI.n)) 3)) :=l7 (P:=Tryz.prog) FI 24 3 (.int .i64 0) 8 Tryz.underlying24 Tryz.infoInt 384 (by omega) (by omega)
 have ah : aB (((w.alloc (.cells #[.slice none 0 0, .slice none 0 0] 26)).alloc (.cells (madeCells #[.int .i64 0] (384 * FI.n)) 3)).alloc (.cells #[.slice (some ⟨w.heap.size+1,0,none⟩) 384 384, .slice none 0 0] 26)) w.heap.size [.slice none 0 0, .slice none 0 0]:= ((aB.new w #[.slice none 0 0, .slice none 0 0] 26).alloc (.cells (madeCells #[.int .i64 0] (384 * FI.n)) 3)).alloc (.cells #[.slice (some ⟨w.heap.size+1,0,none⟩) 384 384, .slice none 0 0] 26)
 have cB : aB (((w.alloc (.cells #[.slice none 0 0, .slice none 0 0] 26)).alloc (.cells (madeCells #[.int .i64 0] (384 * FI.n)) 3)).alloc (.cells #[.slice (some ⟨w.heap.size+1,0,none⟩) 384 384, .slice none 0 0] 26)) (w.heap.size+1+1) [.slice (some ⟨w.heap.size+1,0,none⟩) 384 384, .slice none 0 0]:=by
  have hb:=aB.new ((w.alloc (.cells #[.slice none 0 0, .slice none 0 0] 26)).alloc (.cells (madeCells #[.int .i64 0] (384 * FI.n)) 3)) #[.slice (some ⟨w.heap.size+1,0,none⟩) 384 384, .slice none 0 0] 26
  simp only [World.size_alloc] at hb
  exact hb
 have oB:= (bA.made FI #[.int .i64 0] rfl 384 (by simp [maxLen]) (w.alloc (.cells #[.slice none 0 0, .slice none 0 0] 26)) 3).aH (.cells #[.slice (some ⟨w.heap.size+1,0,none⟩) 384 384, .slice none 0 0] 26)
 simp only [World.size_alloc] at oB
 have hB : Below w.heap.size w (((w.alloc (.cells #[.slice none 0 0, .slice none 0 0] 26)).alloc (.cells (madeCells #[.int .i64 0] (384 * FI.n)) 3)).alloc (.cells #[.slice (some ⟨w.heap.size+1,0,none⟩) 384 384, .slice none 0 0] 26)) :=dJ
 go_enter Tryz.func221,Tryz.ntmps221
 go_wp2_with fail
 generalize hW0 : (((w.alloc (.cells #[.slice none 0 0, .slice none 0 0] 26)).alloc (.cells (madeCells #[.int .i64 0] (384 * FI.n)) 3)).alloc (.cells #[.slice (some ⟨w.heap.size+1,0,none⟩) 384 384, .slice none 0 0] 26)) =w0 at ah cB oB hB⊢
 clear hW0 hmk
 go_loopw [2] (fun i wr=> ∃ (k : Nat) (A : Option Addr) (cp : Nat),k≤6∧i= .int .i64 k∧aB wr w.heap.size [.slice none 0 0, .slice none 0 0]∧aB wr (w.heap.size+1+1) [.slice (some ⟨w.heap.size+1,0,none⟩) 384 384, .slice A k cp]∧bA FI 3 wr (.slice (some ⟨w.heap.size+1,0,none⟩) 384 384) (List.replicate 384 0) ∧bA FI 3 wr (.slice A k cp) (List.replicate k (-1)) ∧ (∀b∈cu (.slice A k cp),w.heap.size+2<b) ∧Below w.heap.size w wr) (fun i _=>6 - (intOf i).toNat)
 case atStart=>exact⟨0,none,0,by omega,rfl,ah,cB,oB, ⟨rfl, .inl ⟨rfl,rfl⟩⟩,fun b hb=>by simp [cu,Value.ownBlock] at hb,hB⟩
 case round=>
  clear ah cB oB hB
  obtain⟨k,A,cp,hk,rfl,ah,cB,oB,oC,fC,hB⟩ :=hrel
  obtain⟨dK,dL,eB,fP⟩ :=cB.f2
  have aI:=ah.lt
  by_cases hlt : k<6
  ·have zz:=fP
   go_wp2_with (at_builtin;refine gu Tryz.stInt rfl _ _ rfl (v:= .slice A k cp) (y:= .slice (some ⟨wr.heap.size,0,none⟩) 1 1) (l:=List.replicate k (-1)) (m:= [(-1 : Int)]) rfl rfl (oC.aH _) (bA.lit FI [(-1 : Int)] #[.int .i64 (-1)] rfl (by simp [maxLen]) wr 3).rd' (by simp;omega) ?_;intro v7 w7 LX LY LZ;obtain⟨A7,c7,hv7,_⟩ :=LX.rd';simp only [List.length_append,List.length_replicate,List.length_singleton] at hv7;subst hv7;have hx:=aY.jP LY;replace cB:= (cB.alloc _).aM hx (fun hm=>by have:=fC _ hm;omega);clear dK dL eB fP;obtain⟨dK,dL,eB,fP⟩ :=cB.f2)
   have Jh:= (hB.alloc hB.size (.cells #[.int .i64 (-1)] 3)).trans (hx.below (by simp;exact Nat.le_succ_of_le hB.size) (fun b hb=>by have:=fC b hb;omega))
   go_roundw
   case rel=>
    refine⟨k+1,A7,c7,by omega,by go_num, ((ah.alloc _).aM hx (fun hm=>by have:=fC _ hm;omega)).other (by omega) _,cB.set 1 _, ?_, ?_,fun b hb=> ?_,Jh.setCell (by simp;omega) _⟩
    ·exact((oB.aH _).aM hx (fun b hb hm=>by have e1:=bV.1 hb;simp [Value.ownBlock] at e1;have:=fC b hm;omega)).keep (fun b hb=>jR w7 _ (fun e=>by simp [Value.ownBlock] at hb;have e3 : b=w.heap.size+1+1:=e.symm;omega))
    ·have e : List.replicate k (-1 : Int) ++ [-1]=List.replicate (k+1) (-1) :=by rw [List.replicate_succ', ]
     rw [e] at LX
     exact LX.keep (fun b hb=>jR w7 _ (fun e=>by
      have e3 : b=w.heap.size+1+1:=e.symm
      rcases iy LZ b (bV.2 hb) with hh|hh
      ·have:=fC b hh
       omega
      ·simp at hh
       omega))
    ·rcases iy LZ b hb with hh|hh
     ·exact fC b hh
     ·simp at hh
      omega
   case measure=>simp [intOf];omega
  ·obtain rfl : k=6:=by omega
   have aj:=ah.cell 0 _ rfl
   have ak:=ah.cell 1 _ rfl
   have ay:=ah.dn
   go_wp2_with fail
   refine bodyPost_ret (v:= .agg #[.slice (some ⟨w.heap.size+1,0,none⟩) 384 384, .slice A 6 cp]) (by simp [results,Tryz.results221,go_sem,aj,ak]) rfl ⟨⟨⟨some ⟨w.heap.size+1,0,none⟩,384,384⟩, ⟨A,6,cp⟩⟩,rfl, ⟨oB.aM (F:= [w.heap.size]) bW (fun b hb hm=>by have e1:=bV.1 hb;simp [SV.val,Value.ownBlock] at e1;simp only [List.mem_cons,List.not_mem_nil,or_false] at hm;omega),oC.aM (F:= [w.heap.size]) bW (fun b hb hm=>by have:=fC b hb;simp only [List.mem_cons,List.not_mem_nil,or_false] at hm;omega),fun b hb hm=>by have e1:=bV.1 hb;simp [SV.val,Value.ownBlock] at e1;have:=fC b hm;omega⟩,fun b hb=> ?_,Below.trans hB dQ⟩
   rcases dU.aX.1 hb with hb|hb
   ·have e1:=bV.1 hb
    simp [SV.val,Value.ownBlock] at e1
    omega
   ·have:=fC b hb
    omega
end Go.Proofs.YtkmggglljkmjoaaGreat
