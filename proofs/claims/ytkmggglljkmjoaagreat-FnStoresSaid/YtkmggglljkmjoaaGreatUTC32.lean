/-
  Several texts in one: lemmas and contracts that the claim rests on.
-/
import Derived.Test.YtkmggglljkmjoaaGreatUTC1
import Derived.Deep.QuietTactic
import Derived.BigQuiet
import Derived.Deep.LoopGhost
import Derived.Deep.RegionHeld3
import Derived.Test.YtkmggglljkmjoaaGreatUTC2
import Derived.WalkSpells
import Derived.Laws.Cover3
import Derived.Test.YtkmggglljkmjoaaGreatUTC27
import Derived.Test.YtkmggglljkmjoaaGreatUTC28
import Derived.Test.YtkmggglljkmjoaaGreatUTC29
import Derived.Test.YtkmggglljkmjoaaGreatUTC30
import Derived.Test.YtkmggglljkmjoaaGreatUTC31
import Derived.Test.YtkmggglljkmjoaaGreatUTC18
import Derived.Test.YtkmggglljkmjoaaGreatUTC12
namespace Go.Proofs.YtkmggglljkmjoaaGreat
open Go.RowKit
theorem Bg (n : Int) : eT n<3:=by
 unfold eT
 repeat' split
 all_goals decide
theorem EC (f : Int→Bool)(l : List Int) : idxOf f l= -1∨ ∃p : Nat,idxOf f l= (p : Int) :=by
 unfold idxOf
 cases l.findIdx? f with
 |none=>exact .inl rfl
 |some i=>exact .inr ⟨i,rfl⟩
set_option maxRecDepth 100000 in
theorem EN (w : World)(H : bP)(x : Mem)(wk n : Int)(h : gJ w w.heap.size H x)(hs : dx x≤536870912) :
  Calls Tryz.prog 34 #[.agg #[.slice H.E.Y.a H.E.Y.l H.E.Y.c, .slice H.E.Z.a H.E.Z.l H.E.Z.c, .slice H.I.G.a H.I.G.l H.I.G.c, .slice H.I.O.a H.I.O.l H.I.O.c], .int .i64 wk, .int .i64 n] w fun e w'=> ∃H' : bP,e= .returned (.tuple #[.agg #[.slice H'.E.Y.a H'.E.Y.l H'.E.Y.c, .slice H'.E.Z.a H'.E.Z.l H'.E.Z.c, .slice H'.I.G.a H'.I.G.l H'.I.G.c, .slice H'.I.O.a H'.I.O.l H'.I.O.c], .int .i64 (dS x wk n).2.1, .int .i64 (dS x wk n).2.2]) ∧jO w' H' (dS x wk n).1∧ (∀g∈H'.foot,w.heap.size≤g) ∧Below w.heap.size w w':=by
 by_cases c1 : dG x=true
 case neg=>
  have c1':= (Bool.not_eq_true _).mp c1
  rw [rO (n:=n) (show dG x=false∨bO 0 2 wk=false from .inl c1')]
  exact(CY w H x wk n h hs c1').mono fun _ _ ⟨K,a,b,c,d⟩ => ⟨K,a,b.toW,c,d⟩
 by_cases c2 : bO 0 2 wk=true
 case neg=>
  have c2':= (Bool.not_eq_true _).mp c2
  rw [rO (m:=x) (n:=n) (show dG x=false∨bO 0 2 wk=false from .inr c2')]
  exact(CZ w H x wk n h hs c1 c2').mono fun _ _ ⟨K,a,b,c,d⟩ => ⟨K,a,b.toW,c,d⟩
 by_cases c3 : eT n<0
 case pos=>
  rw [wN c1 c2 c3]
  exact(C8 w H x wk n h hs c1 c2 c3).mono fun _ _ ⟨K,a,b,c,d⟩ => ⟨K,a,b.toW,c,d⟩
 rw [tY c1 c2 c3]
 obtain⟨b1,b2⟩ :=bJ.1 c2
 obtain⟨k,rfl⟩ : ∃k : Nat,wk= (k : Int) := ⟨wk.toNat,by omega⟩
 have hk : k<3:=by omega
 have hcb:=Bg n
 obtain⟨c,hc⟩ : ∃c : Nat,eT n= (c : Int) := ⟨(eT n).toNat,by omega⟩
 have hc3 : c<3:=by omega
 rw [hc,Int.toNat_natCast,Int.toNat_natCast]
 obtain⟨hl3,mW⟩ :=kD (jC c1)
 obtain⟨ro,hro⟩ : ∃r,x.I.O[k * 3+c]? =some r:= ⟨_,List.getElem?_eq_getElem (by omega)⟩
 rcases List.eq_nil_or_concat ro with rfl| ⟨l,s,hl⟩
 case inr=>
  rw [List.concat_eq_append] at hl
  subst hl
  rw [vE hro]
  exact Au w H x k c n l s h hs c1 hk hc hc3 hro
 obtain⟨rg,hrg⟩ : ∃r,x.I.G[c]? =some r:= ⟨_,List.getElem?_eq_getElem (by omega)⟩
 rcases List.eq_nil_or_concat rg with rfl| ⟨l,s,hl⟩
 case inr=>
  rw [List.concat_eq_append] at hl
  subst hl
  rw [uV hro hrg]
  exact yG w H x k c n l s h hs c1 hk hc hc3 hro hrg
 rcases EC (fun y=>y == -1) x.E.Z with hp| ⟨p,hp⟩
 ·rw [w_ hro hrg hp]
  exact(Ae w H x k c n h hs c1 hk hc hc3 hro hrg hp).mono fun _ _ ⟨K,a,b,c,d⟩ => ⟨K,a,b.toW,c,d⟩
 ·rw [qA hro hrg hp]
  exact(y8 w H x k c p n h hs c1 hk hc hc3 hro hrg hp).mono fun _ _ ⟨K,a,b,c,d⟩ => ⟨K,a,b.toW,c,d⟩
set_option maxRecDepth 100000 in
theorem yV (w : World)(H : bP)(x : Mem)(wk n : Int)(h : gJ w w.heap.size H x)(hs : dx x≤536870912) :
  Calls Tryz.prog 35 #[.agg #[.slice H.E.Y.a H.E.Y.l H.E.Y.c, .slice H.E.Z.a H.E.Z.l H.E.Z.c, .slice H.I.G.a H.I.G.l H.I.G.c, .slice H.I.O.a H.I.O.l H.I.O.c], .int .i64 wk, .int .i64 n] w fun e w'=> ∃H' : bP,e= .returned (.tuple #[.agg #[.slice H'.E.Y.a H'.E.Y.l H'.E.Y.c, .slice H'.E.Z.a H'.E.Z.l H'.E.Z.c, .slice H'.I.G.a H'.I.G.l H'.I.G.c, .slice H'.I.O.a H'.I.O.l H'.I.O.c], .int .i64 (dS x wk n).2.1, .int .i64 (dS x wk n).2.2]) ∧d9 w' H' (dS x wk n).1∧ (∀g∈H'.foot,w.heap.size≤g) ∧Below w.heap.size w w':=by
 by_cases c1 : dG x=true
 case neg=>
  have c1':= (Bool.not_eq_true _).mp c1
  rw [rO (n:=n) (show dG x=false∨bO 0 2 wk=false from .inl c1')]
  exact(C9 w H x wk n h hs c1').mono fun _ _ ⟨K,a,b,c,d⟩ => ⟨K,a,b,c,d⟩
 by_cases c2 : bO 0 2 wk=true
 case neg=>
  have c2':= (Bool.not_eq_true _).mp c2
  rw [rO (m:=x) (n:=n) (show dG x=false∨bO 0 2 wk=false from .inr c2')]
  exact(C_ w H x wk n h hs c1 c2').mono fun _ _ ⟨K,a,b,c,d⟩ => ⟨K,a,b,c,d⟩
 by_cases c3 : eT n<0
 case pos=>
  rw [wN c1 c2 c3]
  exact(Da w H x wk n h hs c1 c2 c3).mono fun _ _ ⟨K,a,b,c,d⟩ => ⟨K,a,b,c,d⟩
 rw [tY c1 c2 c3]
 obtain⟨b1,b2⟩ :=bJ.1 c2
 obtain⟨k,rfl⟩ : ∃k : Nat,wk= (k : Int) := ⟨wk.toNat,by omega⟩
 have hk : k<3:=by omega
 have hcb:=Bg n
 obtain⟨c,hc⟩ : ∃c : Nat,eT n= (c : Int) := ⟨(eT n).toNat,by omega⟩
 have hc3 : c<3:=by omega
 rw [hc,Int.toNat_natCast,Int.toNat_natCast]
 obtain⟨hl3,mW⟩ :=kD (jC c1)
 obtain⟨ro,hro⟩ : ∃r,x.I.O[k * 3+c]? =some r:= ⟨_,List.getElem?_eq_getElem (by omega)⟩
 rcases List.eq_nil_or_concat ro with rfl| ⟨l,s,hl⟩
 case inr=>
  rw [List.concat_eq_append] at hl
  subst hl
  rw [vE hro]
  exact Av w H x k c n l s h hs c1 hk hc hc3 hro
 obtain⟨rg,hrg⟩ : ∃r,x.I.G[c]? =some r:= ⟨_,List.getElem?_eq_getElem (by omega)⟩
 rcases List.eq_nil_or_concat rg with rfl| ⟨l,s,hl⟩
 case inr=>
  rw [List.concat_eq_append] at hl
  subst hl
  rw [uV hro hrg]
  exact yH w H x k c n l s h hs c1 hk hc hc3 hro hrg
 rcases EC (fun y=>y == -1) x.E.Z with hp| ⟨p,hp⟩
 ·rw [w_ hro hrg hp]
  exact(Ah w H x k c n h hs c1 hk hc hc3 hro hrg hp).mono fun _ _ ⟨K,a,b,c,d⟩ => ⟨K,a,b,c,d⟩
 ·rw [qA hro hrg hp]
  exact(y9 w H x k c p n h hs c1 hk hc hc3 hro hrg hp).mono fun _ _ ⟨K,a,b,c,d⟩ => ⟨K,a,b,c,d⟩
end Go.Proofs.YtkmggglljkmjoaaGreat
namespace Go.Proofs.YtkmggglljkmjoaaGreat
open Go.RowKit
set_option maxRecDepth 100000 in
set_option maxHeartbeats 4000000 in
theorem Ai (w : World)(H : bP)(x : Mem)(wk a : Int)(h : gJ w w.heap.size H x)(hs : dx x≤536870912) :
  Calls Tryz.prog 46 #[.agg #[.slice H.E.Y.a H.E.Y.l H.E.Y.c, .slice H.E.Z.a H.E.Z.l H.E.Z.c, .slice H.I.G.a H.I.G.l H.I.G.c, .slice H.I.O.a H.I.O.l H.I.O.c], .int .i64 wk, .int .i64 a] w fun e w'=> ∃H' : bP,e= .returned (.tuple #[.agg #[.slice H'.E.Y.a H'.E.Y.l H'.E.Y.c, .slice H'.E.Z.a H'.E.Z.l H'.E.Z.c, .slice H'.I.G.a H'.I.G.l H'.I.G.c, .slice H'.I.O.a H'.I.O.l H'.I.O.c], .int .i64 (iw x wk a).2]) ∧d9 w' H' (iw x wk a).1∧ (∀g∈H'.foot,w.heap.size≤g) ∧Below w.heap.size w w':=by
 have hcp:=fun (W : World) (hW : Below w.heap.size w W) =>lJ W H x (dO h hW) hs
 have hmo:=fun (W : World) (hW : Below w.heap.size w W) =>jA W H x (dO h hW) (by unfold dx bX at hs;omega) (by unfold dx bX at hs;omega)
 by_cases c1 : dG x=true
 case neg=>
  have c1':= (Bool.not_eq_true _).mp c1
  have HV:=Hid.aT (wh (h:=a) (show dG x=false∨bO 0 2 wk=false from .inl c1'))
  clear c1
  obtain⟨w0,hW0⟩ : ∃x,x= ((w.alloc (.cells #[.slice H.E.Y.a H.E.Y.l H.E.Y.c, .slice H.E.Z.a H.E.Z.l H.E.Z.c, .slice H.I.G.a H.I.G.l H.I.G.c, .slice H.I.O.a H.I.O.l H.I.O.c] 31)).alloc (.cells #[.slice none 0 0, .slice none 0 0, .slice none 0 0, .slice none 0 0] 31)) := ⟨_,rfl⟩
  have au : aB w0 (w.heap.size) [.slice H.E.Y.a H.E.Y.l H.E.Y.c, .slice H.E.Z.a H.E.Z.l H.E.Z.c, .slice H.I.G.a H.I.G.l H.I.G.c, .slice H.I.O.a H.I.O.l H.I.O.c]:=by
   rw [hW0]
   exact aB.alloc aB.nw _
  have ah : aB w0 (w.heap.size+1) [.slice none 0 0, .slice none 0 0, .slice none 0 0, .slice none 0 0]:=by
   rw [hW0]
   exact aB.nw
  have hB : Below w.heap.size w w0:=by
   rw [hW0]
   exact dJ
  go_enter Tryz.func46,Tryz.ntmps46
  go_wp2_with fail
  rw [←hW0]
  clear hW0
  have g_:=au.lt
  have iB:=ah.lt
  obtain⟨aD,aF,aR,aS,aL,aQ⟩ :=au.f4
  obtain⟨aj,ak,aJ,aK,ay,aI⟩ :=ah.f4
  refine(hcp _ hB).mono ?_
  rintro e w1 ⟨aA,rfl,aP,l_c,hb⟩
  have u_c:=aP.lt
  replace au:=au.below hb
  replace ah:=ah.below hb
  replace hB:=hB.trans (hb.mono hB.size)
  have sz:=hb.size
  clear hb
  clear aD aF aR aS aL aQ
  obtain⟨aD,aF,aR,aS,aL,aQ⟩ :=au.f4
  clear aj ak aJ aK ay aI
  obtain⟨aj,ak,aJ,aK,ay,aI⟩ :=ah.f4
  clear hcp
  go_wp2_with fail
  generalize hO : Obj.cells #[.slice aA.E.Y.a aA.E.Y.l aA.E.Y.c, .slice aA.E.Z.a aA.E.Z.l aA.E.Z.c, .slice aA.I.G.a aA.I.G.l aA.I.G.c, .slice aA.I.O.a aA.I.O.l aA.I.O.c] 31=O_
  replace au:=au.alloc O_
  replace ah:=ah.alloc O_
  replace aP:=aP.aH O_
  replace hB:=hB.alloc hB.size O_
  have aN : aB (w1.alloc O_) w1.heap.size [.slice aA.E.Y.a aA.E.Y.l aA.E.Y.c, .slice aA.E.Z.a aA.E.Z.l aA.E.Z.c, .slice aA.I.G.a aA.I.G.l aA.I.G.c, .slice aA.I.O.a aA.I.O.l aA.I.O.c]:=hO ▸ aB.new _ _ _
  have gy:=aN.lt
  have sz : w1.heap.size≤ (w1.alloc O_).heap.size:=Nat.le_of_lt aN.lt
  generalize hG : (w1.alloc O_) =w2 at au ah aP hB aN gy sz⊢
  clear hG hO O_
  clear aD aF aR aS aL aQ
  obtain⟨aD,aF,aR,aS,aL,aQ⟩ :=au.f4
  clear aj ak aJ aK ay aI
  obtain⟨aj,ak,aJ,aK,ay,aI⟩ :=ah.f4
  obtain⟨aV,aW,bG,bH,bq,bN⟩ :=aN.f4
  refine(hmo _ hB).mono ?_
  rw [c1']
  rintro e w3 ⟨rfl,hb⟩
  replace au:=au.below hb
  replace ah:=ah.below hb
  replace aN:=aN.below hb
  have aP:=aP.step0 hb
  replace hB:=hB.trans (hb.mono hB.size)
  have sz:=hb.size
  clear hb
  clear aD aF aR aS aL aQ
  obtain⟨aD,aF,aR,aS,aL,aQ⟩ :=au.f4
  clear aj ak aJ aK ay aI
  obtain⟨aj,ak,aJ,aK,ay,aI⟩ :=ah.f4
  clear aV aW bG bH bq bN
  obtain⟨aV,aW,bG,bH,bq,bN⟩ :=aN.f4
  clear hmo
  go_wp2_with fail
  refine bodyPost_ret (v:= .tuple #[.agg #[.slice aA.E.Y.a aA.E.Y.l aA.E.Y.c, .slice aA.E.Z.a aA.E.Z.l aA.E.Z.c, .slice aA.I.G.a aA.I.G.l aA.I.G.c, .slice aA.I.O.a aA.I.O.l aA.I.O.c], .int .i64 1]) (by simp [results,Tryz.results46,go_sem,aj,ak,aJ,aK]) rfl ⟨aA,by rw [HV.out],by rw [HV.out];exact aP.aM (F:= [w.heap.size+1]) bW (fun g hg hm=>by simp only [List.mem_cons,List.not_mem_nil,or_false] at hm;have:=l_c g hg;have:=u_c g hg;omega),fun g hg=>by have:=l_c g hg;omega,Below.trans hB dQ⟩
 by_cases c2 : bO 0 2 wk=true
 case neg=>
  have c2':= (Bool.not_eq_true _).mp c2
  have HV:=Hid.aT (wh (m:=x) (h:=a) (show dG x=false∨bO 0 2 wk=false from .inr c2'))
  clear c2
  obtain⟨w0,hW0⟩ : ∃x,x= ((w.alloc (.cells #[.slice H.E.Y.a H.E.Y.l H.E.Y.c, .slice H.E.Z.a H.E.Z.l H.E.Z.c, .slice H.I.G.a H.I.G.l H.I.G.c, .slice H.I.O.a H.I.O.l H.I.O.c] 31)).alloc (.cells #[.slice none 0 0, .slice none 0 0, .slice none 0 0, .slice none 0 0] 31)) := ⟨_,rfl⟩
  have au : aB w0 (w.heap.size) [.slice H.E.Y.a H.E.Y.l H.E.Y.c, .slice H.E.Z.a H.E.Z.l H.E.Z.c, .slice H.I.G.a H.I.G.l H.I.G.c, .slice H.I.O.a H.I.O.l H.I.O.c]:=by
   rw [hW0]
   exact aB.alloc aB.nw _
  have ah : aB w0 (w.heap.size+1) [.slice none 0 0, .slice none 0 0, .slice none 0 0, .slice none 0 0]:=by
   rw [hW0]
   exact aB.nw
  have hB : Below w.heap.size w w0:=by
   rw [hW0]
   exact dJ
  go_enter Tryz.func46,Tryz.ntmps46
  go_wp2_with fail
  rw [←hW0]
  clear hW0
  have g_:=au.lt
  have iB:=ah.lt
  obtain⟨aD,aF,aR,aS,aL,aQ⟩ :=au.f4
  obtain⟨aj,ak,aJ,aK,ay,aI⟩ :=ah.f4
  refine(hcp _ hB).mono ?_
  rintro e w1 ⟨aA,rfl,aP,l_c,hb⟩
  have u_c:=aP.lt
  replace au:=au.below hb
  replace ah:=ah.below hb
  replace hB:=hB.trans (hb.mono hB.size)
  have sz:=hb.size
  clear hb
  clear aD aF aR aS aL aQ
  obtain⟨aD,aF,aR,aS,aL,aQ⟩ :=au.f4
  clear aj ak aJ aK ay aI
  obtain⟨aj,ak,aJ,aK,ay,aI⟩ :=ah.f4
  clear hcp
  go_wp2_with fail
  generalize hO : Obj.cells #[.slice aA.E.Y.a aA.E.Y.l aA.E.Y.c, .slice aA.E.Z.a aA.E.Z.l aA.E.Z.c, .slice aA.I.G.a aA.I.G.l aA.I.G.c, .slice aA.I.O.a aA.I.O.l aA.I.O.c] 31=O_
  replace au:=au.alloc O_
  replace ah:=ah.alloc O_
  replace aP:=aP.aH O_
  replace hB:=hB.alloc hB.size O_
  have aN : aB (w1.alloc O_) w1.heap.size [.slice aA.E.Y.a aA.E.Y.l aA.E.Y.c, .slice aA.E.Z.a aA.E.Z.l aA.E.Z.c, .slice aA.I.G.a aA.I.G.l aA.I.G.c, .slice aA.I.O.a aA.I.O.l aA.I.O.c]:=hO ▸ aB.new _ _ _
  have gy:=aN.lt
  have sz : w1.heap.size≤ (w1.alloc O_).heap.size:=Nat.le_of_lt aN.lt
  generalize hG : (w1.alloc O_) =w2 at au ah aP hB aN gy sz⊢
  clear hG hO O_
  clear aD aF aR aS aL aQ
  obtain⟨aD,aF,aR,aS,aL,aQ⟩ :=au.f4
  clear aj ak aJ aK ay aI
  obtain⟨aj,ak,aJ,aK,ay,aI⟩ :=ah.f4
  obtain⟨aV,aW,bG,bH,bq,bN⟩ :=aN.f4
  refine(hmo _ hB).mono ?_
  rw [c1]
  rintro e w3 ⟨rfl,hb⟩
  replace au:=au.below hb
  replace ah:=ah.below hb
  replace aN:=aN.below hb
  have aP:=aP.step0 hb
  replace hB:=hB.trans (hb.mono hB.size)
  have sz:=hb.size
  clear hb
  clear aD aF aR aS aL aQ
  obtain⟨aD,aF,aR,aS,aL,aQ⟩ :=au.f4
  clear aj ak aJ aK ay aI
  obtain⟨aj,ak,aJ,aK,ay,aI⟩ :=ah.f4
  clear aV aW bG bH bq bN
  obtain⟨aV,aW,bG,bH,bq,bN⟩ :=aN.f4
  clear hmo
  go_wp2_with (go_at_call 102;refine(fG _ _ _ _).mono ?_;rw [c2'];rintro e wv ⟨rfl,rfl⟩)
  refine bodyPost_ret (v:= .tuple #[.agg #[.slice aA.E.Y.a aA.E.Y.l aA.E.Y.c, .slice aA.E.Z.a aA.E.Z.l aA.E.Z.c, .slice aA.I.G.a aA.I.G.l aA.I.G.c, .slice aA.I.O.a aA.I.O.l aA.I.O.c], .int .i64 1]) (by simp [results,Tryz.results46,go_sem,aj,ak,aJ,aK]) rfl ⟨aA,by rw [HV.out],by rw [HV.out];exact aP.aM (F:= [w.heap.size+1]) bW (fun g hg hm=>by simp only [List.mem_cons,List.not_mem_nil,or_false] at hm;have:=l_c g hg;have:=u_c g hg;omega),fun g hg=>by have:=l_c g hg;omega,Below.trans hB dQ⟩
 have AV:=Hid.aT (jd c1)
 have hlv:=fun (W : World) (hW : Below w.heap.size w W) =>r9 W H x a (dO h hW) AV.out (by unfold dx bX at hs;omega) (by unfold dx bX at hs;omega)
 by_cases c3 : gM x a=true
 case neg=>
  have c3':= (Bool.not_eq_true _).mp c3
  have HV:=Hid.aT (wm c1 c2 c3')
  clear c3
  obtain⟨w0,hW0⟩ : ∃x,x= ((w.alloc (.cells #[.slice H.E.Y.a H.E.Y.l H.E.Y.c, .slice H.E.Z.a H.E.Z.l H.E.Z.c, .slice H.I.G.a H.I.G.l H.I.G.c, .slice H.I.O.a H.I.O.l H.I.O.c] 31)).alloc (.cells #[.slice none 0 0, .slice none 0 0, .slice none 0 0, .slice none 0 0] 31)) := ⟨_,rfl⟩
  have au : aB w0 (w.heap.size) [.slice H.E.Y.a H.E.Y.l H.E.Y.c, .slice H.E.Z.a H.E.Z.l H.E.Z.c, .slice H.I.G.a H.I.G.l H.I.G.c, .slice H.I.O.a H.I.O.l H.I.O.c]:=by
   rw [hW0]
   exact aB.alloc aB.nw _
  have ah : aB w0 (w.heap.size+1) [.slice none 0 0, .slice none 0 0, .slice none 0 0, .slice none 0 0]:=by
   rw [hW0]
   exact aB.nw
  have hB : Below w.heap.size w w0:=by
   rw [hW0]
   exact dJ
  go_enter Tryz.func46,Tryz.ntmps46
  go_wp2_with fail
  rw [←hW0]
  clear hW0
  have g_:=au.lt
  have iB:=ah.lt
  obtain⟨aD,aF,aR,aS,aL,aQ⟩ :=au.f4
  obtain⟨aj,ak,aJ,aK,ay,aI⟩ :=ah.f4
  refine(hcp _ hB).mono ?_
  rintro e w1 ⟨aA,rfl,aP,l_c,hb⟩
  have u_c:=aP.lt
  replace au:=au.below hb
  replace ah:=ah.below hb
  replace hB:=hB.trans (hb.mono hB.size)
  have sz:=hb.size
  clear hb
  clear aD aF aR aS aL aQ
  obtain⟨aD,aF,aR,aS,aL,aQ⟩ :=au.f4
  clear aj ak aJ aK ay aI
  obtain⟨aj,ak,aJ,aK,ay,aI⟩ :=ah.f4
  clear hcp
  go_wp2_with fail
  generalize hO : Obj.cells #[.slice aA.E.Y.a aA.E.Y.l aA.E.Y.c, .slice aA.E.Z.a aA.E.Z.l aA.E.Z.c, .slice aA.I.G.a aA.I.G.l aA.I.G.c, .slice aA.I.O.a aA.I.O.l aA.I.O.c] 31=O_
  replace au:=au.alloc O_
  replace ah:=ah.alloc O_
  replace aP:=aP.aH O_
  replace hB:=hB.alloc hB.size O_
  have aN : aB (w1.alloc O_) w1.heap.size [.slice aA.E.Y.a aA.E.Y.l aA.E.Y.c, .slice aA.E.Z.a aA.E.Z.l aA.E.Z.c, .slice aA.I.G.a aA.I.G.l aA.I.G.c, .slice aA.I.O.a aA.I.O.l aA.I.O.c]:=hO ▸ aB.new _ _ _
  have gy:=aN.lt
  have sz : w1.heap.size≤ (w1.alloc O_).heap.size:=Nat.le_of_lt aN.lt
  generalize hG : (w1.alloc O_) =w2 at au ah aP hB aN gy sz⊢
  clear hG hO O_
  clear aD aF aR aS aL aQ
  obtain⟨aD,aF,aR,aS,aL,aQ⟩ :=au.f4
  clear aj ak aJ aK ay aI
  obtain⟨aj,ak,aJ,aK,ay,aI⟩ :=ah.f4
  obtain⟨aV,aW,bG,bH,bq,bN⟩ :=aN.f4
  refine(hmo _ hB).mono ?_
  rw [c1]
  rintro e w3 ⟨rfl,hb⟩
  replace au:=au.below hb
  replace ah:=ah.below hb
  replace aN:=aN.below hb
  have aP:=aP.step0 hb
  replace hB:=hB.trans (hb.mono hB.size)
  have sz:=hb.size
  clear hb
  clear aD aF aR aS aL aQ
  obtain⟨aD,aF,aR,aS,aL,aQ⟩ :=au.f4
  clear aj ak aJ aK ay aI
  obtain⟨aj,ak,aJ,aK,ay,aI⟩ :=ah.f4
  clear aV aW bG bH bq bN
  obtain⟨aV,aW,bG,bH,bq,bN⟩ :=aN.f4
  clear hmo
  go_wp2_with (go_at_call 102;refine(fG _ _ _ _).mono ?_;rw [c2];rintro e wv ⟨rfl,rfl⟩)
  refine(hlv _ hB).mono ?_
  rw [c3']
  rintro e w4 ⟨rfl,hb⟩
  replace au:=au.below hb
  replace ah:=ah.below hb
  replace aN:=aN.below hb
  replace aP:=aP.step0 hb
  replace hB:=hB.trans (hb.mono hB.size)
  have sz:=hb.size
  clear hb
  clear aD aF aR aS aL aQ
  obtain⟨aD,aF,aR,aS,aL,aQ⟩ :=au.f4
  clear aj ak aJ aK ay aI
  obtain⟨aj,ak,aJ,aK,ay,aI⟩ :=ah.f4
  clear aV aW bG bH bq bN
  obtain⟨aV,aW,bG,bH,bq,bN⟩ :=aN.f4
  clear hlv
  go_wp2_with fail
  refine bodyPost_ret (v:= .tuple #[.agg #[.slice aA.E.Y.a aA.E.Y.l aA.E.Y.c, .slice aA.E.Z.a aA.E.Z.l aA.E.Z.c, .slice aA.I.G.a aA.I.G.l aA.I.G.c, .slice aA.I.O.a aA.I.O.l aA.I.O.c], .int .i64 4]) (by simp [results,Tryz.results46,go_sem,aj,ak,aJ,aK]) rfl ⟨aA,by rw [HV.out],by rw [HV.out];exact aP.aM (F:= [w.heap.size+1]) bW (fun g hg hm=>by simp only [List.mem_cons,List.not_mem_nil,or_false] at hm;have:=l_c g hg;have:=u_c g hg;omega),fun g hg=>by have:=l_c g hg;omega,Below.trans hB dQ⟩
 have HV:=Hid.aT (tX c1 c2 c3)
 obtain⟨b1,b2⟩ :=bJ.1 c2
 obtain⟨k,rfl⟩ : ∃k : Nat,wk= (k : Int) := ⟨wk.toNat,by omega⟩
 have hk : k<3:=by omega
 rw [Int.toNat_natCast] at HV
 obtain⟨l1,l2,l3⟩ :=kR c3
 obtain⟨e1,e2,_,e4,_,_⟩ :=kX l1
 obtain⟨k1,k2,k3⟩ :=state3 l2
 obtain⟨d1,d2⟩ :=Jl (iA AV.out) k1
 obtain⟨c,hc⟩ : ∃c : Nat,aO x.E (a%32) = (c : Int) := ⟨(aO x.E (a%32)).toNat,by omega⟩
 have hll:=kD (jC c1)
 have hfr:=fun (W : World) (K : bP) (o : d9 W K x) =>Gy W K x k c (a%32) (a / 32) o (by unfold dx at hs;omega) AV.out hll hk hc (by omega) l3 (by omega) (by omega)
 have hsl:=fun W=>mP a W l1
 clear l1 l2 l3 e4 k1 k2 k3 d1 d2 hc hll b1 b2
 obtain⟨w0,hW0⟩ : ∃x,x= ((w.alloc (.cells #[.slice H.E.Y.a H.E.Y.l H.E.Y.c, .slice H.E.Z.a H.E.Z.l H.E.Z.c, .slice H.I.G.a H.I.G.l H.I.G.c, .slice H.I.O.a H.I.O.l H.I.O.c] 31)).alloc (.cells #[.slice none 0 0, .slice none 0 0, .slice none 0 0, .slice none 0 0] 31)) := ⟨_,rfl⟩
 have au : aB w0 (w.heap.size) [.slice H.E.Y.a H.E.Y.l H.E.Y.c, .slice H.E.Z.a H.E.Z.l H.E.Z.c, .slice H.I.G.a H.I.G.l H.I.G.c, .slice H.I.O.a H.I.O.l H.I.O.c]:=by
  rw [hW0]
  exact aB.alloc aB.nw _
 have ah : aB w0 (w.heap.size+1) [.slice none 0 0, .slice none 0 0, .slice none 0 0, .slice none 0 0]:=by
  rw [hW0]
  exact aB.nw
 have hB : Below w.heap.size w w0:=by
  rw [hW0]
  exact dJ
 go_enter Tryz.func46,Tryz.ntmps46
 go_wp2_with fail
 rw [←hW0]
 clear hW0
 have g_:=au.lt
 have iB:=ah.lt
 obtain⟨aD,aF,aR,aS,aL,aQ⟩ :=au.f4
 obtain⟨aj,ak,aJ,aK,ay,aI⟩ :=ah.f4
 refine(hcp _ hB).mono ?_
 rintro e w1 ⟨aA,rfl,aP,l_c,hb⟩
 have u_c:=aP.lt
 replace au:=au.below hb
 replace ah:=ah.below hb
 replace hB:=hB.trans (hb.mono hB.size)
 have sz:=hb.size
 clear hb
 clear aD aF aR aS aL aQ
 obtain⟨aD,aF,aR,aS,aL,aQ⟩ :=au.f4
 clear aj ak aJ aK ay aI
 obtain⟨aj,ak,aJ,aK,ay,aI⟩ :=ah.f4
 clear hcp
 go_wp2_with fail
 generalize hO : Obj.cells #[.slice aA.E.Y.a aA.E.Y.l aA.E.Y.c, .slice aA.E.Z.a aA.E.Z.l aA.E.Z.c, .slice aA.I.G.a aA.I.G.l aA.I.G.c, .slice aA.I.O.a aA.I.O.l aA.I.O.c] 31=O_
 replace au:=au.alloc O_
 replace ah:=ah.alloc O_
 replace aP:=aP.aH O_
 replace hB:=hB.alloc hB.size O_
 have aN : aB (w1.alloc O_) w1.heap.size [.slice aA.E.Y.a aA.E.Y.l aA.E.Y.c, .slice aA.E.Z.a aA.E.Z.l aA.E.Z.c, .slice aA.I.G.a aA.I.G.l aA.I.G.c, .slice aA.I.O.a aA.I.O.l aA.I.O.c]:=hO ▸ aB.new _ _ _
 have gy:=aN.lt
 have sz : w1.heap.size≤ (w1.alloc O_).heap.size:=Nat.le_of_lt aN.lt
 generalize hG : (w1.alloc O_) =w2 at au ah aP hB aN gy sz⊢
 clear hG hO O_
 clear aD aF aR aS aL aQ
 obtain⟨aD,aF,aR,aS,aL,aQ⟩ :=au.f4
 clear aj ak aJ aK ay aI
 obtain⟨aj,ak,aJ,aK,ay,aI⟩ :=ah.f4
 obtain⟨aV,aW,bG,bH,bq,bN⟩ :=aN.f4
 refine(hmo _ hB).mono ?_
 rw [c1]
 rintro e w3 ⟨rfl,hb⟩
 replace au:=au.below hb
 replace ah:=ah.below hb
 replace aN:=aN.below hb
 have aP:=aP.step0 hb
 replace hB:=hB.trans (hb.mono hB.size)
 have sz:=hb.size
 clear hb
 clear aD aF aR aS aL aQ
 obtain⟨aD,aF,aR,aS,aL,aQ⟩ :=au.f4
 clear aj ak aJ aK ay aI
 obtain⟨aj,ak,aJ,aK,ay,aI⟩ :=ah.f4
 clear aV aW bG bH bq bN
 obtain⟨aV,aW,bG,bH,bq,bN⟩ :=aN.f4
 clear hmo
 go_wp2_with (go_at_call 102;refine(fG _ _ _ _).mono ?_;rw [c2];rintro e wv ⟨rfl,rfl⟩)
 refine(hlv _ hB).mono ?_
 rw [c3]
 rintro e w4 ⟨rfl,hb⟩
 replace au:=au.below hb
 replace ah:=ah.below hb
 replace aN:=aN.below hb
 replace aP:=aP.step0 hb
 replace hB:=hB.trans (hb.mono hB.size)
 have sz:=hb.size
 clear hb
 clear aD aF aR aS aL aQ
 obtain⟨aD,aF,aR,aS,aL,aQ⟩ :=au.f4
 clear aj ak aJ aK ay aI
 obtain⟨aj,ak,aJ,aK,ay,aI⟩ :=ah.f4
 clear aV aW bG bH bq bN
 obtain⟨aV,aW,bG,bH,bq,bN⟩ :=aN.f4
 clear hlv
 go_wp2_with fail
 have N7 : d9 w4.drew aA x:=aP.keep (fun _ _=>rfl)
 go_region_with (first| (go_at_call 30; (first| ((with_reducible refine(hsl _).mono ?_);rintro e wq ⟨rfl,rfl⟩) | ((with_reducible refine(hsl _).mono ?_);rintro e wq ⟨rfl,rfl⟩))) | (go_at_call 111; (first| ((with_reducible refine(hfr _ aA aP).mono ?_);rintro e wq ⟨aG,rfl,bZ,F9,hx⟩;replace hx : aY aA.foot w4 wq:= ⟨hx.os,hx.tape,hx.output,hx.size,hx.block⟩;replace hB:=hB.trans (hx.below hB.size (fun b hb=>by have:=l_c b hb;omega));have sz:=hx.size;replace au:=au.aM hx (fun hm=>by have:=l_c _ hm;omega);replace ah:=ah.aM hx (fun hm=>by have:=l_c _ hm;omega);clear aj ak aJ aK ay aI;obtain⟨aj,ak,aJ,aK,ay,aI⟩ :=ah.f4) | ((with_reducible refine(hfr _ aA N7).mono ?_);rintro e wq ⟨aG,rfl,bZ,F9,hx⟩;replace hx : aY aA.foot w4 wq:= ⟨hx.os,hx.tape,hx.output,hx.size,hx.block⟩;replace hB:=hB.trans (hx.below hB.size (fun b hb=>by have:=l_c b hb;omega));have sz:=hx.size;replace au:=au.aM hx (fun hm=>by have:=l_c _ hm;omega);replace ah:=ah.aM hx (fun hm=>by have:=l_c _ hm;omega);clear aj ak aJ aK ay aI;obtain⟨aj,ak,aJ,aK,ay,aI⟩ :=ah.f4))))
 all_goals
  have dY : ∀g∈aG.foot,w0.heap.size≤g:=fun g hg=>by rcases F9 g hg with hh|hh; (exact l_c g hh); (simp at hh;omega)
  have u_n:=bZ.lt
  go_wp2_with fail
  refine bodyPost_ret (v:= .tuple #[.agg #[.slice aG.E.Y.a aG.E.Y.l aG.E.Y.c, .slice aG.E.Z.a aG.E.Z.l aG.E.Z.c, .slice aG.I.G.a aG.I.G.l aG.I.G.c, .slice aG.I.O.a aG.I.O.l aG.I.O.c], .int .i64 0]) (by simp [results,Tryz.results46,go_sem,aj,ak,aJ,aK]) rfl ⟨aG,by rw [HV.out],by rw [HV.out];exact bZ.aM (F:= [w.heap.size+1]) bW (fun g hg hm=>by simp only [List.mem_cons,List.not_mem_nil,or_false] at hm;have:=dY g hg;have:=u_n g hg;omega),fun g hg=>by have:=dY g hg;omega,Below.trans hB dQ⟩
end Go.Proofs.YtkmggglljkmjoaaGreat
namespace Go.Proofs.YtkmggglljkmjoaaGreat
open Go.RowKit
theorem yX (n k : Int)(w : World)(hn : gZ n) : Calls Tryz.prog 85 #[.int .i64 n, .int .i64 k] w fun e w'=> ∃t : ByteArray,e= .returned (.string t) ∧t.toList.isEmpty= (!nk n k) ∧Below w.heap.size w w':=by
 by_cases h1 : bO 1 7 k=true
 case neg=>
  have h1':= (Bool.not_eq_true _).mp h1
  refine(zP n k w (.inl h1')).mono ?_
  rintro e w' ⟨rfl,rfl⟩
  exact⟨_,rfl,by unfold nk;rw [h1',sH];rfl,Below.refl _ _⟩
 by_cases h0 : 0≤n
 case neg=>
  refine(zP n k w (.inr (by omega))).mono ?_
  rintro e w' ⟨rfl,rfl⟩
  exact⟨_,rfl,by unfold nk;rw [h1,decide_eq_false h0,sH];rfl,Below.refl _ _⟩
 obtain⟨a,b⟩ :=bJ.1 h1
 obtain⟨K,rfl⟩ : ∃K : Nat,k= (K : Int) := ⟨k.toNat,by omega⟩
 refine(Fy n K w (by omega) (by omega) h0 hn.2).mono ?_
 rintro e w' ⟨⟨t,rfl,ht⟩,hb⟩
 exact⟨t,rfl,by rw [ht];unfold nk;rw [h1,decide_eq_true h0,Int.toNat_natCast];rfl,hb⟩
theorem Db (n k : Int)(w : World)(hn : gZ n)(hf : nk n k=false) : Calls Tryz.prog 85 #[.int .i64 n, .int .i64 k] w fun e w'=> ∃t : ByteArray,e= .returned (.string t) ∧t.toList.isEmpty=true∧Below w.heap.size w w':=
 (yX n k w hn).mono fun _ _ ⟨t,a,b,c⟩ => ⟨t,a,by rw [b,hf];rfl,c⟩
theorem DU (n k : Int)(w : World)(hn : gZ n)(hf : nk n k=true) : Calls Tryz.prog 85 #[.int .i64 n, .int .i64 k] w fun e w'=> ∃t : ByteArray,e= .returned (.string t) ∧t.toList.isEmpty=false∧Below w.heap.size w w':=
 (yX n k w hn).mono fun _ _ ⟨t,a,b,c⟩ => ⟨t,a,by rw [b,hf];rfl,c⟩
set_option maxRecDepth 100000 in
set_option maxHeartbeats 4000000 in
theorem Aj (w : World)(H : bP)(x : Mem)(s a k n : Int)(h : gJ w w.heap.size H x)(hs : dx x≤536870912)(hn : gZ n) :
  Calls Tryz.prog 25 #[.agg #[.slice H.E.Y.a H.E.Y.l H.E.Y.c, .slice H.E.Z.a H.E.Z.l H.E.Z.c, .slice H.I.G.a H.I.G.l H.I.G.c, .slice H.I.O.a H.I.O.l H.I.O.c], .int .i64 s, .int .i64 a, .int .i64 k, .int .i64 n] w fun e w'=> ∃H' : bP,e= .returned (.tuple #[.agg #[.slice H'.E.Y.a H'.E.Y.l H'.E.Y.c, .slice H'.E.Z.a H'.E.Z.l H'.E.Z.c, .slice H'.I.G.a H'.I.G.l H'.I.G.c, .slice H'.I.O.a H'.I.O.l H'.I.O.c], .int .i64 (gL x s a k n).2]) ∧d9 w' H' (gL x s a k n).1∧ (∀g∈H'.foot,w.heap.size≤g) ∧Below w.heap.size w w':=by
 have hsp:=fun (W : World) (hW : Below w.heap.size w W) =>AO W H x s a k (dO h hW) (by unfold dx bX at hs;omega) (by unfold dx bX at hs;omega)
 by_cases c1 : (gQ x s a k).2=0
 case neg=>
  have HV:=Hid.aT (uI (n:=n) c1)
  have c1' : ((gQ x s a k).2 != 0) =true:=by simpa using c1
  clear c1
  generalize (gQ x s a k).2=c at *
  generalize (gQ x s a k).1=p at *
  obtain⟨w0,hW0⟩ : ∃x,x= ((w.alloc (.cells #[.slice H.E.Y.a H.E.Y.l H.E.Y.c, .slice H.E.Z.a H.E.Z.l H.E.Z.c, .slice H.I.G.a H.I.G.l H.I.G.c, .slice H.I.O.a H.I.O.l H.I.O.c] 31)).alloc (.cells #[.slice none 0 0, .slice none 0 0, .slice none 0 0, .slice none 0 0] 31)) := ⟨_,rfl⟩
  have au : aB w0 (w.heap.size) [.slice H.E.Y.a H.E.Y.l H.E.Y.c, .slice H.E.Z.a H.E.Z.l H.E.Z.c, .slice H.I.G.a H.I.G.l H.I.G.c, .slice H.I.O.a H.I.O.l H.I.O.c]:=by
   rw [hW0]
   exact aB.alloc aB.nw _
  have ah : aB w0 (w.heap.size+1) [.slice none 0 0, .slice none 0 0, .slice none 0 0, .slice none 0 0]:=by
   rw [hW0]
   exact aB.nw
  have hB : Below w.heap.size w w0:=by
   rw [hW0]
   exact dJ
  go_enter Tryz.func25,Tryz.ntmps25
  go_wp2_with fail
  rw [←hW0]
  clear hW0
  have g_:=au.lt
  have iB:=ah.lt
  obtain⟨aD,aF,aR,aS,aL,aQ⟩ :=au.f4
  obtain⟨aj,ak,aJ,aK,ay,aI⟩ :=ah.f4
  refine(lJ _ H x (dO h hB) hs).mono ?_
  rintro e w1 ⟨aA,rfl,aP,l_c,hb⟩
  have u_c:=aP.lt
  replace au:=au.below hb
  replace ah:=ah.below hb
  replace hB:=hB.trans (hb.mono hB.size)
  have sz:=hb.size
  clear hb
  clear aD aF aR aS aL aQ
  obtain⟨aD,aF,aR,aS,aL,aQ⟩ :=au.f4
  clear aj ak aJ aK ay aI
  obtain⟨aj,ak,aJ,aK,ay,aI⟩ :=ah.f4
  go_wp2_with fail
  refine(hsp _ (hB.alloc hB.size _)).mono ?_
  rintro e w2 ⟨rfl,hb⟩
  replace au:= (au.alloc _).below hb
  replace ah:= (ah.alloc _).below hb
  have aP:=aP.step hb
  replace hB:=eX hB hb hB.size
  have sz:=hb.size
  simp only [World.size_alloc] at sz
  have aN:= (aB.new w1 #[.slice aA.E.Y.a aA.E.Y.l aA.E.Y.c, .slice aA.E.Z.a aA.E.Z.l aA.E.Z.c, .slice aA.I.G.a aA.I.G.l aA.I.G.c, .slice aA.I.O.a aA.I.O.l aA.I.O.c] 31).below hb
  have gy:=aN.lt
  clear hb
  clear aD aF aR aS aL aQ
  obtain⟨aD,aF,aR,aS,aL,aQ⟩ :=au.f4
  clear aj ak aJ aK ay aI
  obtain⟨aj,ak,aJ,aK,ay,aI⟩ :=ah.f4
  obtain⟨aV,aW,bG,bH,bq,bN⟩ :=aN.f4
  clear hsp
  go_wp2_with fail
  refine bodyPost_ret (v:= .tuple #[.agg #[.slice aA.E.Y.a aA.E.Y.l aA.E.Y.c, .slice aA.E.Z.a aA.E.Z.l aA.E.Z.c, .slice aA.I.G.a aA.I.G.l aA.I.G.c, .slice aA.I.O.a aA.I.O.l aA.I.O.c], .int .i64 c]) (by simp [results,Tryz.results25,go_sem,aj,ak,aJ,aK]) rfl ⟨aA,by rw [HV.out],by rw [HV.out];exact aP.aM (F:= [w.heap.size+1]) (by repeat (first|exact aY.refl _ _|refine aY.gD ?_ (by simp) _|refine aY.aH ?_ _|refine aY.bf ?_)) (fun g hg hm=>by simp only [List.mem_cons,List.not_mem_nil,or_false] at hm;have:=l_c g hg;have:=u_c g hg;omega),fun g hg=>by have:=l_c g hg;omega,Below.trans hB (by repeat (first|exact Below.refl _ _|refine Below.setCell ?_ (by simp<;>omega) _|refine Below.alloc ?_ (by simp<;>omega) _|refine Below.drew ?_))⟩
 obtain⟨z1,z2,z3,z4,z5,z6,z7,z8⟩ :=wI c1
 have AV:=Hid.aT (jd z1)
 have hbl : x.E.Y.length=384:= (iA AV.out).bl
 by_cases c2 : nk n k=true
 case neg=>
  have c2':= (Bool.not_eq_true _).mp c2
  have HV:=Hid.aT (wL c1 c2')
  have hq:=fun W=>Db n k W hn c2'
  rw [c1] at hsp
  clear c1 c2 c2' z1 z4 z5 z6 z7 z8 hbl
  generalize (gQ x s a k).1=p at *
  obtain⟨w0,hW0⟩ : ∃x,x= ((w.alloc (.cells #[.slice H.E.Y.a H.E.Y.l H.E.Y.c, .slice H.E.Z.a H.E.Z.l H.E.Z.c, .slice H.I.G.a H.I.G.l H.I.G.c, .slice H.I.O.a H.I.O.l H.I.O.c] 31)).alloc (.cells #[.slice none 0 0, .slice none 0 0, .slice none 0 0, .slice none 0 0] 31)) := ⟨_,rfl⟩
  have au : aB w0 (w.heap.size) [.slice H.E.Y.a H.E.Y.l H.E.Y.c, .slice H.E.Z.a H.E.Z.l H.E.Z.c, .slice H.I.G.a H.I.G.l H.I.G.c, .slice H.I.O.a H.I.O.l H.I.O.c]:=by
   rw [hW0]
   exact aB.alloc aB.nw _
  have ah : aB w0 (w.heap.size+1) [.slice none 0 0, .slice none 0 0, .slice none 0 0, .slice none 0 0]:=by
   rw [hW0]
   exact aB.nw
  have hB : Below w.heap.size w w0:=by
   rw [hW0]
   exact dJ
  go_enter Tryz.func25,Tryz.ntmps25
  go_wp2_with fail
  rw [←hW0]
  clear hW0
  have g_:=au.lt
  have iB:=ah.lt
  obtain⟨aD,aF,aR,aS,aL,aQ⟩ :=au.f4
  obtain⟨aj,ak,aJ,aK,ay,aI⟩ :=ah.f4
  refine(lJ _ H x (dO h hB) hs).mono ?_
  rintro e w1 ⟨aA,rfl,aP,l_c,hb⟩
  have u_c:=aP.lt
  replace au:=au.below hb
  replace ah:=ah.below hb
  replace hB:=hB.trans (hb.mono hB.size)
  have sz:=hb.size
  clear hb
  clear aD aF aR aS aL aQ
  obtain⟨aD,aF,aR,aS,aL,aQ⟩ :=au.f4
  clear aj ak aJ aK ay aI
  obtain⟨aj,ak,aJ,aK,ay,aI⟩ :=ah.f4
  go_wp2_with fail
  refine(hsp _ (hB.alloc hB.size _)).mono ?_
  rintro e w2 ⟨rfl,hb⟩
  replace au:= (au.alloc _).below hb
  replace ah:= (ah.alloc _).below hb
  have aP:=aP.step hb
  replace hB:=eX hB hb hB.size
  have sz:=hb.size
  simp only [World.size_alloc] at sz
  have aN:= (aB.new w1 #[.slice aA.E.Y.a aA.E.Y.l aA.E.Y.c, .slice aA.E.Z.a aA.E.Z.l aA.E.Z.c, .slice aA.I.G.a aA.I.G.l aA.I.G.c, .slice aA.I.O.a aA.I.O.l aA.I.O.c] 31).below hb
  have gy:=aN.lt
  clear hb
  clear aD aF aR aS aL aQ
  obtain⟨aD,aF,aR,aS,aL,aQ⟩ :=au.f4
  clear aj ak aJ aK ay aI
  obtain⟨aj,ak,aJ,aK,ay,aI⟩ :=ah.f4
  obtain⟨aV,aW,bG,bH,bq,bN⟩ :=aN.f4
  clear hsp
  go_wp2_with fail
  refine(hq _).mono ?_
  rintro e w3 ⟨t,rfl,ht,hb⟩
  replace au:=au.below hb
  replace ah:=ah.below hb
  replace aN:=aN.below hb
  replace aP:=aP.step0 hb
  replace hB:=hB.trans (hb.mono hB.size)
  have sz:=hb.size
  clear hb
  clear aD aF aR aS aL aQ
  obtain⟨aD,aF,aR,aS,aL,aQ⟩ :=au.f4
  clear aj ak aJ aK ay aI
  obtain⟨aj,ak,aJ,aK,ay,aI⟩ :=ah.f4
  clear aV aW bG bH bq bN
  obtain⟨aV,aW,bG,bH,bq,bN⟩ :=aN.f4
  clear hq
  go_wp2_with fail
  refine bodyPost_ret (v:= .tuple #[.agg #[.slice aA.E.Y.a aA.E.Y.l aA.E.Y.c, .slice aA.E.Z.a aA.E.Z.l aA.E.Z.c, .slice aA.I.G.a aA.I.G.l aA.I.G.c, .slice aA.I.O.a aA.I.O.l aA.I.O.c], .int .i64 1]) (by simp [results,Tryz.results25,go_sem,aj,ak,aJ,aK]) rfl ⟨aA,by rw [HV.out],by rw [HV.out];exact aP.aM (F:= [w.heap.size+1]) (by repeat (first|exact aY.refl _ _|refine aY.gD ?_ (by simp) _|refine aY.aH ?_ _|refine aY.bf ?_)) (fun g hg hm=>by simp only [List.mem_cons,List.not_mem_nil,or_false] at hm;have:=l_c g hg;have:=u_c g hg;omega),fun g hg=>by have:=l_c g hg;omega,Below.trans hB (by repeat (first|exact Below.refl _ _|refine Below.setCell ?_ (by simp<;>omega) _|refine Below.alloc ?_ (by simp<;>omega) _|refine Below.drew ?_))⟩
 have HV:=Hid.aT (wM c1 c2)
 obtain⟨y1,y2,y3,y4⟩ :=wK c2
 have hq:=fun W=>DU n k W hn c2
 obtain⟨K,rfl⟩ : ∃K : Nat,k= (K : Int) := ⟨k.toNat,by omega⟩
 rw [Int.toNat_natCast] at y4
 obtain⟨P,hP⟩ : ∃P : Nat, (gQ x s a K).1= (P : Int) := ⟨(gQ x s a K).1.toNat,by omega⟩
 have HP : Hid (gL x s a K n= ({x with E:= {x.E with Y:=putAt x.E.Y P (fQ K n)}},0)) :=by
  have:=HV.out
  rw [hP] at this
  unfold Fq at this
  rw [Int.toNat_natCast,Int.toNat_natCast] at this
  exact this
 have h72:=Jb (K:=K) (by omega)
 have HA:=Hid.aT (show 1≤K∧K≤7∧0≤n∧n≤72057594037927936∧P+K≤x.E.Y.length from ⟨by omega,by omega,y3,by omega,by omega⟩)
 rw [c1,hP] at hsp
 clear z1 z4 z5 z6 z7 z8 y3 y4 HV hbl hP c1 c2 y1 y2 h72
 obtain⟨w0,hW0⟩ : ∃x,x= ((w.alloc (.cells #[.slice H.E.Y.a H.E.Y.l H.E.Y.c, .slice H.E.Z.a H.E.Z.l H.E.Z.c, .slice H.I.G.a H.I.G.l H.I.G.c, .slice H.I.O.a H.I.O.l H.I.O.c] 31)).alloc (.cells #[.slice none 0 0, .slice none 0 0, .slice none 0 0, .slice none 0 0] 31)) := ⟨_,rfl⟩
 have au : aB w0 (w.heap.size) [.slice H.E.Y.a H.E.Y.l H.E.Y.c, .slice H.E.Z.a H.E.Z.l H.E.Z.c, .slice H.I.G.a H.I.G.l H.I.G.c, .slice H.I.O.a H.I.O.l H.I.O.c]:=by
  rw [hW0]
  exact aB.alloc aB.nw _
 have ah : aB w0 (w.heap.size+1) [.slice none 0 0, .slice none 0 0, .slice none 0 0, .slice none 0 0]:=by
  rw [hW0]
  exact aB.nw
 have hB : Below w.heap.size w w0:=by
  rw [hW0]
  exact dJ
 go_enter Tryz.func25,Tryz.ntmps25
 go_wp2_with fail
 rw [←hW0]
 clear hW0
 have g_:=au.lt
 have iB:=ah.lt
 obtain⟨aD,aF,aR,aS,aL,aQ⟩ :=au.f4
 obtain⟨aj,ak,aJ,aK,ay,aI⟩ :=ah.f4
 refine(lJ _ H x (dO h hB) hs).mono ?_
 rintro e w1 ⟨aA,rfl,aP,l_c,hb⟩
 have u_c:=aP.lt
 replace au:=au.below hb
 replace ah:=ah.below hb
 replace hB:=hB.trans (hb.mono hB.size)
 have sz:=hb.size
 clear hb
 clear aD aF aR aS aL aQ
 obtain⟨aD,aF,aR,aS,aL,aQ⟩ :=au.f4
 clear aj ak aJ aK ay aI
 obtain⟨aj,ak,aJ,aK,ay,aI⟩ :=ah.f4
 go_wp2_with fail
 refine(hsp _ (hB.alloc hB.size _)).mono ?_
 rintro e w2 ⟨rfl,hb⟩
 replace au:= (au.alloc _).below hb
 replace ah:= (ah.alloc _).below hb
 have aP:=aP.step hb
 replace hB:=eX hB hb hB.size
 have sz:=hb.size
 simp only [World.size_alloc] at sz
 have aN:= (aB.new w1 #[.slice aA.E.Y.a aA.E.Y.l aA.E.Y.c, .slice aA.E.Z.a aA.E.Z.l aA.E.Z.c, .slice aA.I.G.a aA.I.G.l aA.I.G.c, .slice aA.I.O.a aA.I.O.l aA.I.O.c] 31).below hb
 have gy:=aN.lt
 clear hb
 clear aD aF aR aS aL aQ
 obtain⟨aD,aF,aR,aS,aL,aQ⟩ :=au.f4
 clear aj ak aJ aK ay aI
 obtain⟨aj,ak,aJ,aK,ay,aI⟩ :=ah.f4
 obtain⟨aV,aW,bG,bH,bq,bN⟩ :=aN.f4
 clear hsp
 go_wp2_with fail
 refine(hq _).mono ?_
 rintro e w3 ⟨t,rfl,ht,hb⟩
 replace au:=au.below hb
 replace ah:=ah.below hb
 replace aN:=aN.below hb
 replace aP:=aP.step0 hb
 replace hB:=hB.trans (hb.mono hB.size)
 have sz:=hb.size
 clear hb
 clear aD aF aR aS aL aQ
 obtain⟨aD,aF,aR,aS,aL,aQ⟩ :=au.f4
 clear aj ak aJ aK ay aI
 obtain⟨aj,ak,aJ,aK,ay,aI⟩ :=ah.f4
 clear aV aW bG bH bq bN
 obtain⟨aV,aW,bG,bH,bq,bN⟩ :=aN.f4
 clear hq
 go_wp2_with fail
 refine(sF _ _ x.E.Y P K n (show bA FI 3 _ (.slice aA.E.Y.a aA.E.Y.l aA.E.Y.c) x.E.Y from aP.E.Y) HA.out.1 HA.out.2.1 HA.out.2.2.1 HA.out.2.2.2.1 HA.out.2.2.2.2).mono ?_
 rintro e w4 ⟨rfl,hbN,hx⟩
 replace hB:=hB.trans (hx.below hB.size (fun g hm=>by have:=l_c g (bP.fO hm);omega))
 have sz:=hx.size
 replace au:=au.aM hx (fun hm=>by have:=l_c _ (bP.fO hm);have:=u_c _ (bP.fO hm);omega)
 replace ah:=ah.aM hx (fun hm=>by have:=l_c _ (bP.fO hm);have:=u_c _ (bP.fO hm);omega)
 replace aN:=aN.aM hx (fun hm=>by have:=l_c _ (bP.fO hm);have:=u_c _ (bP.fO hm);omega)
 replace aP:= (show d9 _ aA {x with E:= {x.E with Y:=putAt x.E.Y P (fQ K n)}} from aP.setBytes hbN hx)
 clear hx
 clear aD aF aR aS aL aQ
 obtain⟨aD,aF,aR,aS,aL,aQ⟩ :=au.f4
 clear aj ak aJ aK ay aI
 obtain⟨aj,ak,aJ,aK,ay,aI⟩ :=ah.f4
 clear aV aW bG bH bq bN
 obtain⟨aV,aW,bG,bH,bq,bN⟩ :=aN.f4
 go_wp2_with fail
 refine bodyPost_ret (v:= .tuple #[.agg #[.slice aA.E.Y.a aA.E.Y.l aA.E.Y.c, .slice aA.E.Z.a aA.E.Z.l aA.E.Z.c, .slice aA.I.G.a aA.I.G.l aA.I.G.c, .slice aA.I.O.a aA.I.O.l aA.I.O.c], .int .i64 0]) (by simp [results,Tryz.results25,go_sem,aj,ak,aJ,aK]) rfl ⟨aA,by rw [HP.out],by rw [HP.out];exact aP.aM (F:= [w.heap.size+1,w1.heap.size]) (by repeat (first|exact aY.refl _ _|refine aY.gD ?_ (by simp) _|refine aY.aH ?_ _|refine aY.bf ?_)) (fun g hg hm=>by simp only [List.mem_cons,List.not_mem_nil,or_false] at hm;have:=l_c g hg;have:=u_c g hg;omega),fun g hg=>by have:=l_c g hg;omega,Below.trans hB (by repeat (first|exact Below.refl _ _|refine Below.setCell ?_ (by simp<;>omega) _|refine Below.alloc ?_ (by simp<;>omega) _|refine Below.drew ?_))⟩
end Go.Proofs.YtkmggglljkmjoaaGreat
