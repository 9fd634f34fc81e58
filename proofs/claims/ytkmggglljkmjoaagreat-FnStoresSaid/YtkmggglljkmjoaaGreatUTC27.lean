/-
  Several texts in one: lemmas and contracts that the claim rests on.
-/
import Derived.Test.YtkmggglljkmjoaaGreatUTC1
import Derived.Deep.QuietTactic
import Derived.BigQuiet
import Derived.Deep.LoopGhost
import Derived.Deep.RegionHeld3
import Derived.Test.YtkmggglljkmjoaaGreatUTC2
import Derived.WalkSpells
import Derived.Laws.Cover3
import Derived.Test.YtkmggglljkmjoaaGreatUTC26
namespace Go.Proofs.YtkmggglljkmjoaaGreat
open Go.RowKit
set_option maxRecDepth 100000 in
set_option maxHeartbeats 4000000 in
theorem CY (w : World)(H : bP)(x : Mem)(wk n : Int)(h : gJ w w.heap.size H x)(hs : dx x≤536870912)(c1 : dG x=false) :
  Calls Tryz.prog 34 #[.agg #[.slice H.E.Y.a H.E.Y.l H.E.Y.c, .slice H.E.Z.a H.E.Z.l H.E.Z.c, .slice H.I.G.a H.I.G.l H.I.G.c, .slice H.I.O.a H.I.O.l H.I.O.c], .int .i64 wk, .int .i64 n] w fun e w'=> ∃H' : bP,e= .returned (.tuple #[.agg #[.slice H'.E.Y.a H'.E.Y.l H'.E.Y.c, .slice H'.E.Z.a H'.E.Z.l H'.E.Z.c, .slice H'.I.G.a H'.I.G.l H'.I.G.c, .slice H'.I.O.a H'.I.O.l H'.I.O.c], .int .i64 0, .int .i64 1]) ∧d9 w' H' x∧ (∀g∈H'.foot,w.heap.size≤g) ∧Below w.heap.size w w':=by
 have hcp:=fun (W : World) (hW : Below w.heap.size w W) =>kV W H x (dO h hW) hs
 have hmo:=fun (W : World) (hW : Below w.heap.size w W) =>jS W H x (dO h hW)
 rw [c1] at hmo
 have hco:=fun W=>mF n W
 generalize eT n=k at hco
 obtain⟨w0,hW0⟩ : ∃x,x= ((w.alloc (.cells #[.slice H.E.Y.a H.E.Y.l H.E.Y.c, .slice H.E.Z.a H.E.Z.l H.E.Z.c, .slice H.I.G.a H.I.G.l H.I.G.c, .slice H.I.O.a H.I.O.l H.I.O.c] 31)).alloc (.cells #[.slice none 0 0, .slice none 0 0, .slice none 0 0, .slice none 0 0] 31)) := ⟨_,rfl⟩
 have au : aB w0 (w.heap.size) [.slice H.E.Y.a H.E.Y.l H.E.Y.c, .slice H.E.Z.a H.E.Z.l H.E.Z.c, .slice H.I.G.a H.I.G.l H.I.G.c, .slice H.I.O.a H.I.O.l H.I.O.c]:=by
  rw [hW0]
  exact aB.alloc aB.nw _
 have ah : aB w0 (w.heap.size+1) [.slice none 0 0, .slice none 0 0, .slice none 0 0, .slice none 0 0]:=by
  rw [hW0]
  exact aB.nw
 have hB : Below w.heap.size w w0:=by
  rw [hW0]
  exact dJ
 go_enter Tryz.func34,Tryz.ntmps34
 go_wp2_with fail
 rw [←hW0]
 clear hW0
 have g_:=au.lt
 have iB:=ah.lt
 obtain⟨aD,aF,aR,aS,aL,aQ⟩ :=au.f4
 obtain⟨aj,ak,aJ,aK,ay,aI⟩ :=ah.f4
 refine(hcp _ hB).mono ?_
 rintro e w1 ⟨aA,rfl,aP,l_c,hb⟩
 have u_c:=aP.lt
 replace au:=au.below hb
 replace ah:=ah.below hb
 replace hB:=hB.trans (hb.mono hB.size)
 have sz:=hb.size
 clear hb
 clear aD aF aR aS aL aQ
 obtain⟨aD,aF,aR,aS,aL,aQ⟩ :=au.f4
 clear aj ak aJ aK ay aI
 obtain⟨aj,ak,aJ,aK,ay,aI⟩ :=ah.f4
 clear hcp
 go_wp2_with (go_at_call 38;refine(hco _).mono ?_;rintro e wv ⟨rfl,rfl⟩)
 generalize hO : Obj.cells #[.slice aA.E.Y.a aA.E.Y.l aA.E.Y.c, .slice aA.E.Z.a aA.E.Z.l aA.E.Z.c, .slice aA.I.G.a aA.I.G.l aA.I.G.c, .slice aA.I.O.a aA.I.O.l aA.I.O.c] 31=O_
 replace au:=au.alloc O_
 replace ah:=ah.alloc O_
 replace aP:=aP.aH O_
 replace hB:=hB.alloc hB.size O_
 have aN : aB (w1.alloc O_) w1.heap.size [.slice aA.E.Y.a aA.E.Y.l aA.E.Y.c, .slice aA.E.Z.a aA.E.Z.l aA.E.Z.c, .slice aA.I.G.a aA.I.G.l aA.I.G.c, .slice aA.I.O.a aA.I.O.l aA.I.O.c]:=hO ▸ aB.new _ _ _
 have gy:=aN.lt
 have sz : w1.heap.size≤ (w1.alloc O_).heap.size:=Nat.le_of_lt aN.lt
 generalize hG : (w1.alloc O_) =w2 at au ah aP hB aN gy sz⊢
 clear hG hO O_
 clear aD aF aR aS aL aQ
 obtain⟨aD,aF,aR,aS,aL,aQ⟩ :=au.f4
 clear aj ak aJ aK ay aI
 obtain⟨aj,ak,aJ,aK,ay,aI⟩ :=ah.f4
 obtain⟨aV,aW,bG,bH,bq,bN⟩ :=aN.f4
 refine(hmo _ hB).mono ?_
 rintro e w3 ⟨rfl,hb⟩
 replace au:=au.below hb
 replace ah:=ah.below hb
 replace aN:=aN.below hb
 have aP:=aP.step0 hb
 replace hB:=hB.trans (hb.mono hB.size)
 have sz:=hb.size
 clear hb
 clear aD aF aR aS aL aQ
 obtain⟨aD,aF,aR,aS,aL,aQ⟩ :=au.f4
 clear aj ak aJ aK ay aI
 obtain⟨aj,ak,aJ,aK,ay,aI⟩ :=ah.f4
 clear aV aW bG bH bq bN
 obtain⟨aV,aW,bG,bH,bq,bN⟩ :=aN.f4
 clear hmo
 go_wp2_with fail
 refine bodyPost_ret (v:= .tuple #[.agg #[.slice aA.E.Y.a aA.E.Y.l aA.E.Y.c, .slice aA.E.Z.a aA.E.Z.l aA.E.Z.c, .slice aA.I.G.a aA.I.G.l aA.I.G.c, .slice aA.I.O.a aA.I.O.l aA.I.O.c], .int .i64 0, .int .i64 1]) (by simp [results,Tryz.results34,go_sem,aj,ak,aJ,aK]) rfl ⟨aA,rfl,aP.aM (F:= [w.heap.size+1]) bW (fun g hg hm=>by simp only [List.mem_cons,List.not_mem_nil,or_false] at hm;have:=l_c g hg;have:=u_c g hg;omega),fun g hg=>by have:=l_c g hg;omega,Below.trans hB dQ⟩
set_option maxRecDepth 100000 in
set_option maxHeartbeats 4000000 in
theorem CZ (w : World)(H : bP)(x : Mem)(wk n : Int)(h : gJ w w.heap.size H x)(hs : dx x≤536870912)(c1 : dG x=true)(c2 : bO 0 2 wk=false) :
  Calls Tryz.prog 34 #[.agg #[.slice H.E.Y.a H.E.Y.l H.E.Y.c, .slice H.E.Z.a H.E.Z.l H.E.Z.c, .slice H.I.G.a H.I.G.l H.I.G.c, .slice H.I.O.a H.I.O.l H.I.O.c], .int .i64 wk, .int .i64 n] w fun e w'=> ∃H' : bP,e= .returned (.tuple #[.agg #[.slice H'.E.Y.a H'.E.Y.l H'.E.Y.c, .slice H'.E.Z.a H'.E.Z.l H'.E.Z.c, .slice H'.I.G.a H'.I.G.l H'.I.G.c, .slice H'.I.O.a H'.I.O.l H'.I.O.c], .int .i64 0, .int .i64 1]) ∧d9 w' H' x∧ (∀g∈H'.foot,w.heap.size≤g) ∧Below w.heap.size w w':=by
 have hcp:=fun (W : World) (hW : Below w.heap.size w W) =>kV W H x (dO h hW) hs
 have hmo:=fun (W : World) (hW : Below w.heap.size w W) =>jS W H x (dO h hW)
 rw [c1] at hmo
 have hco:=fun W=>mF n W
 generalize eT n=k at hco
 obtain⟨w0,hW0⟩ : ∃x,x= ((w.alloc (.cells #[.slice H.E.Y.a H.E.Y.l H.E.Y.c, .slice H.E.Z.a H.E.Z.l H.E.Z.c, .slice H.I.G.a H.I.G.l H.I.G.c, .slice H.I.O.a H.I.O.l H.I.O.c] 31)).alloc (.cells #[.slice none 0 0, .slice none 0 0, .slice none 0 0, .slice none 0 0] 31)) := ⟨_,rfl⟩
 have au : aB w0 (w.heap.size) [.slice H.E.Y.a H.E.Y.l H.E.Y.c, .slice H.E.Z.a H.E.Z.l H.E.Z.c, .slice H.I.G.a H.I.G.l H.I.G.c, .slice H.I.O.a H.I.O.l H.I.O.c]:=by
  rw [hW0]
  exact aB.alloc aB.nw _
 have ah : aB w0 (w.heap.size+1) [.slice none 0 0, .slice none 0 0, .slice none 0 0, .slice none 0 0]:=by
  rw [hW0]
  exact aB.nw
 have hB : Below w.heap.size w w0:=by
  rw [hW0]
  exact dJ
 go_enter Tryz.func34,Tryz.ntmps34
 go_wp2_with fail
 rw [←hW0]
 clear hW0
 have g_:=au.lt
 have iB:=ah.lt
 obtain⟨aD,aF,aR,aS,aL,aQ⟩ :=au.f4
 obtain⟨aj,ak,aJ,aK,ay,aI⟩ :=ah.f4
 refine(hcp _ hB).mono ?_
 rintro e w1 ⟨aA,rfl,aP,l_c,hb⟩
 have u_c:=aP.lt
 replace au:=au.below hb
 replace ah:=ah.below hb
 replace hB:=hB.trans (hb.mono hB.size)
 have sz:=hb.size
 clear hb
 clear aD aF aR aS aL aQ
 obtain⟨aD,aF,aR,aS,aL,aQ⟩ :=au.f4
 clear aj ak aJ aK ay aI
 obtain⟨aj,ak,aJ,aK,ay,aI⟩ :=ah.f4
 clear hcp
 go_wp2_with (go_at_call 38;refine(hco _).mono ?_;rintro e wv ⟨rfl,rfl⟩)
 generalize hO : Obj.cells #[.slice aA.E.Y.a aA.E.Y.l aA.E.Y.c, .slice aA.E.Z.a aA.E.Z.l aA.E.Z.c, .slice aA.I.G.a aA.I.G.l aA.I.G.c, .slice aA.I.O.a aA.I.O.l aA.I.O.c] 31=O_
 replace au:=au.alloc O_
 replace ah:=ah.alloc O_
 replace aP:=aP.aH O_
 replace hB:=hB.alloc hB.size O_
 have aN : aB (w1.alloc O_) w1.heap.size [.slice aA.E.Y.a aA.E.Y.l aA.E.Y.c, .slice aA.E.Z.a aA.E.Z.l aA.E.Z.c, .slice aA.I.G.a aA.I.G.l aA.I.G.c, .slice aA.I.O.a aA.I.O.l aA.I.O.c]:=hO ▸ aB.new _ _ _
 have gy:=aN.lt
 have sz : w1.heap.size≤ (w1.alloc O_).heap.size:=Nat.le_of_lt aN.lt
 generalize hG : (w1.alloc O_) =w2 at au ah aP hB aN gy sz⊢
 clear hG hO O_
 clear aD aF aR aS aL aQ
 obtain⟨aD,aF,aR,aS,aL,aQ⟩ :=au.f4
 clear aj ak aJ aK ay aI
 obtain⟨aj,ak,aJ,aK,ay,aI⟩ :=ah.f4
 obtain⟨aV,aW,bG,bH,bq,bN⟩ :=aN.f4
 refine(hmo _ hB).mono ?_
 rintro e w3 ⟨rfl,hb⟩
 replace au:=au.below hb
 replace ah:=ah.below hb
 replace aN:=aN.below hb
 have aP:=aP.step0 hb
 replace hB:=hB.trans (hb.mono hB.size)
 have sz:=hb.size
 clear hb
 clear aD aF aR aS aL aQ
 obtain⟨aD,aF,aR,aS,aL,aQ⟩ :=au.f4
 clear aj ak aJ aK ay aI
 obtain⟨aj,ak,aJ,aK,ay,aI⟩ :=ah.f4
 clear aV aW bG bH bq bN
 obtain⟨aV,aW,bG,bH,bq,bN⟩ :=aN.f4
 clear hmo
 go_wp2_with (go_at_call 96;refine(lT _ _).mono ?_;rw [c2];rintro e wv ⟨rfl,rfl⟩)
 refine bodyPost_ret (v:= .tuple #[.agg #[.slice aA.E.Y.a aA.E.Y.l aA.E.Y.c, .slice aA.E.Z.a aA.E.Z.l aA.E.Z.c, .slice aA.I.G.a aA.I.G.l aA.I.G.c, .slice aA.I.O.a aA.I.O.l aA.I.O.c], .int .i64 0, .int .i64 1]) (by simp [results,Tryz.results34,go_sem,aj,ak,aJ,aK]) rfl ⟨aA,rfl,aP.aM (F:= [w.heap.size+1]) bW (fun g hg hm=>by simp only [List.mem_cons,List.not_mem_nil,or_false] at hm;have:=l_c g hg;have:=u_c g hg;omega),fun g hg=>by have:=l_c g hg;omega,Below.trans hB dQ⟩
set_option maxRecDepth 100000 in
set_option maxHeartbeats 4000000 in
theorem C8 (w : World)(H : bP)(x : Mem)(wk n : Int)(h : gJ w w.heap.size H x)(hs : dx x≤536870912)(c1 : dG x=true)(c2 : bO 0 2 wk=true)(c3 : eT n<0) :
  Calls Tryz.prog 34 #[.agg #[.slice H.E.Y.a H.E.Y.l H.E.Y.c, .slice H.E.Z.a H.E.Z.l H.E.Z.c, .slice H.I.G.a H.I.G.l H.I.G.c, .slice H.I.O.a H.I.O.l H.I.O.c], .int .i64 wk, .int .i64 n] w fun e w'=> ∃H' : bP,e= .returned (.tuple #[.agg #[.slice H'.E.Y.a H'.E.Y.l H'.E.Y.c, .slice H'.E.Z.a H'.E.Z.l H'.E.Z.c, .slice H'.I.G.a H'.I.G.l H'.I.G.c, .slice H'.I.O.a H'.I.O.l H'.I.O.c], .int .i64 0, .int .i64 2]) ∧d9 w' H' x∧ (∀g∈H'.foot,w.heap.size≤g) ∧Below w.heap.size w w':=by
 have hcp:=fun (W : World) (hW : Below w.heap.size w W) =>kV W H x (dO h hW) hs
 have hmo:=fun (W : World) (hW : Below w.heap.size w W) =>jS W H x (dO h hW)
 rw [c1] at hmo
 have hco:=fun W=>mF n W
 obtain⟨k,hk⟩ : ∃k,k=eT n:= ⟨_,rfl⟩
 rw [←hk] at c3 hco
 clear hk
 obtain⟨w0,hW0⟩ : ∃x,x= ((w.alloc (.cells #[.slice H.E.Y.a H.E.Y.l H.E.Y.c, .slice H.E.Z.a H.E.Z.l H.E.Z.c, .slice H.I.G.a H.I.G.l H.I.G.c, .slice H.I.O.a H.I.O.l H.I.O.c] 31)).alloc (.cells #[.slice none 0 0, .slice none 0 0, .slice none 0 0, .slice none 0 0] 31)) := ⟨_,rfl⟩
 have au : aB w0 (w.heap.size) [.slice H.E.Y.a H.E.Y.l H.E.Y.c, .slice H.E.Z.a H.E.Z.l H.E.Z.c, .slice H.I.G.a H.I.G.l H.I.G.c, .slice H.I.O.a H.I.O.l H.I.O.c]:=by
  rw [hW0]
  exact aB.alloc aB.nw _
 have ah : aB w0 (w.heap.size+1) [.slice none 0 0, .slice none 0 0, .slice none 0 0, .slice none 0 0]:=by
  rw [hW0]
  exact aB.nw
 have hB : Below w.heap.size w w0:=by
  rw [hW0]
  exact dJ
 go_enter Tryz.func34,Tryz.ntmps34
 go_wp2_with fail
 rw [←hW0]
 clear hW0
 have g_:=au.lt
 have iB:=ah.lt
 obtain⟨aD,aF,aR,aS,aL,aQ⟩ :=au.f4
 obtain⟨aj,ak,aJ,aK,ay,aI⟩ :=ah.f4
 refine(hcp _ hB).mono ?_
 rintro e w1 ⟨aA,rfl,aP,l_c,hb⟩
 have u_c:=aP.lt
 replace au:=au.below hb
 replace ah:=ah.below hb
 replace hB:=hB.trans (hb.mono hB.size)
 have sz:=hb.size
 clear hb
 clear aD aF aR aS aL aQ
 obtain⟨aD,aF,aR,aS,aL,aQ⟩ :=au.f4
 clear aj ak aJ aK ay aI
 obtain⟨aj,ak,aJ,aK,ay,aI⟩ :=ah.f4
 clear hcp
 go_wp2_with (go_at_call 38;refine(hco _).mono ?_;rintro e wv ⟨rfl,rfl⟩)
 generalize hO : Obj.cells #[.slice aA.E.Y.a aA.E.Y.l aA.E.Y.c, .slice aA.E.Z.a aA.E.Z.l aA.E.Z.c, .slice aA.I.G.a aA.I.G.l aA.I.G.c, .slice aA.I.O.a aA.I.O.l aA.I.O.c] 31=O_
 replace au:=au.alloc O_
 replace ah:=ah.alloc O_
 replace aP:=aP.aH O_
 replace hB:=hB.alloc hB.size O_
 have aN : aB (w1.alloc O_) w1.heap.size [.slice aA.E.Y.a aA.E.Y.l aA.E.Y.c, .slice aA.E.Z.a aA.E.Z.l aA.E.Z.c, .slice aA.I.G.a aA.I.G.l aA.I.G.c, .slice aA.I.O.a aA.I.O.l aA.I.O.c]:=hO ▸ aB.new _ _ _
 have gy:=aN.lt
 have sz : w1.heap.size≤ (w1.alloc O_).heap.size:=Nat.le_of_lt aN.lt
 generalize hG : (w1.alloc O_) =w2 at au ah aP hB aN gy sz⊢
 clear hG hO O_
 clear aD aF aR aS aL aQ
 obtain⟨aD,aF,aR,aS,aL,aQ⟩ :=au.f4
 clear aj ak aJ aK ay aI
 obtain⟨aj,ak,aJ,aK,ay,aI⟩ :=ah.f4
 obtain⟨aV,aW,bG,bH,bq,bN⟩ :=aN.f4
 refine(hmo _ hB).mono ?_
 rintro e w3 ⟨rfl,hb⟩
 replace au:=au.below hb
 replace ah:=ah.below hb
 replace aN:=aN.below hb
 have aP:=aP.step0 hb
 replace hB:=hB.trans (hb.mono hB.size)
 have sz:=hb.size
 clear hb
 clear aD aF aR aS aL aQ
 obtain⟨aD,aF,aR,aS,aL,aQ⟩ :=au.f4
 clear aj ak aJ aK ay aI
 obtain⟨aj,ak,aJ,aK,ay,aI⟩ :=ah.f4
 clear aV aW bG bH bq bN
 obtain⟨aV,aW,bG,bH,bq,bN⟩ :=aN.f4
 clear hmo
 go_wp2_with (go_at_call 96;refine(lT _ _).mono ?_;rw [c2];rintro e wv ⟨rfl,rfl⟩)
 refine bodyPost_ret (v:= .tuple #[.agg #[.slice aA.E.Y.a aA.E.Y.l aA.E.Y.c, .slice aA.E.Z.a aA.E.Z.l aA.E.Z.c, .slice aA.I.G.a aA.I.G.l aA.I.G.c, .slice aA.I.O.a aA.I.O.l aA.I.O.c], .int .i64 0, .int .i64 2]) (by simp [results,Tryz.results34,go_sem,aj,ak,aJ,aK]) rfl ⟨aA,rfl,aP.aM (F:= [w.heap.size+1]) bW (fun g hg hm=>by simp only [List.mem_cons,List.not_mem_nil,or_false] at hm;have:=l_c g hg;have:=u_c g hg;omega),fun g hg=>by have:=l_c g hg;omega,Below.trans hB dQ⟩
end Go.Proofs.YtkmggglljkmjoaaGreat
namespace Go.Proofs.YtkmggglljkmjoaaGreat
open Go.RowKit
set_option maxRecDepth 100000 in
set_option maxHeartbeats 8000000 in
theorem Au (w : World)(H : bP)(x : Mem)(wk c : Nat)(n : Int)(l : List Int)(s : Int)(h : gJ w w.heap.size H x)(hs : dx x≤536870912)(c1 : dG x=true)(hw : wk<3)(c3 : eT n= (c : Int))(hc : c<3)(hrow : x.I.O[wk * 3+c]? =some (l++ [s])) :
  Calls Tryz.prog 34 #[.agg #[.slice H.E.Y.a H.E.Y.l H.E.Y.c, .slice H.E.Z.a H.E.Z.l H.E.Z.c, .slice H.I.G.a H.I.G.l H.I.G.c, .slice H.I.O.a H.I.O.l H.I.O.c], .int .i64 wk, .int .i64 n] w fun e w'=> ∃H' : bP,e= .returned (.tuple #[.agg #[.slice H'.E.Y.a H'.E.Y.l H'.E.Y.c, .slice H'.E.Z.a H'.E.Z.l H'.E.Z.c, .slice H'.I.G.a H'.I.G.l H'.I.G.c, .slice H'.I.O.a H'.I.O.l H'.I.O.c], .int .i64 (dz x.E s * 32+s), .int .i64 0]) ∧jO w' H' {x with I:= {x.I with O:=x.I.O.set (wk * 3+c) l}}∧ (∀g∈H'.foot,w.heap.size≤g) ∧Below w.heap.size w w':=by
 have hcl : bO 0 2 (c : Int) =true:=bJ.2 ⟨by omega,by omega⟩
 have c2 : bO 0 2 (wk : Int) =true:=bJ.2 ⟨by omega,by omega⟩
 have hfit:=BM c1 (by omega) hrow (List.mem_append_right l (List.mem_singleton.2 rfl))
 rw [show (wk * 3+c) %3=c by omega] at hfit
 obtain⟨f1,f2,f3⟩ :=rM (o_ c1) hfit hcl
 have hsh:=jd c1
 have hs0 : 0≤s:= (bJ.1 f1).1
 have jT : iE x.E≤536870912∧bX x.I≤536870912:=by unfold dx at hs;omega
 have hcp:=fun (W : World) (hW : Below w.heap.size w W) =>kV W H x (dO h hW) hs
 have hmo:=fun (W : World) (hW : Below w.heap.size w W) =>jS W H x (dO h hW)
 have hto:=fun (W : World) (hW : Below w.heap.size w W) =>BJ W H.I x.I wk c l s (eZ h.I hW) jT.2 (jC c1) hw hc hrow
 rw [c1] at hmo
 have hco:=fun W=>mF n W
 rw [c3] at hco
 clear c3 hfit f2 hrow c1 jT hs
 obtain⟨w0,hW0⟩ : ∃x,x= ((w.alloc (.cells #[.slice H.E.Y.a H.E.Y.l H.E.Y.c, .slice H.E.Z.a H.E.Z.l H.E.Z.c, .slice H.I.G.a H.I.G.l H.I.G.c, .slice H.I.O.a H.I.O.l H.I.O.c] 31)).alloc (.cells #[.slice none 0 0, .slice none 0 0, .slice none 0 0, .slice none 0 0] 31)) := ⟨_,rfl⟩
 have au : aB w0 (w.heap.size) [.slice H.E.Y.a H.E.Y.l H.E.Y.c, .slice H.E.Z.a H.E.Z.l H.E.Z.c, .slice H.I.G.a H.I.G.l H.I.G.c, .slice H.I.O.a H.I.O.l H.I.O.c]:=by
  rw [hW0]
  exact aB.alloc aB.nw _
 have ah : aB w0 (w.heap.size+1) [.slice none 0 0, .slice none 0 0, .slice none 0 0, .slice none 0 0]:=by
  rw [hW0]
  exact aB.nw
 have hB : Below w.heap.size w w0:=by
  rw [hW0]
  exact dJ
 go_enter Tryz.func34,Tryz.ntmps34
 go_wp2_with fail
 rw [←hW0]
 clear hW0
 have g_:=au.lt
 have iB:=ah.lt
 obtain⟨aD,aF,aR,aS,aL,aQ⟩ :=au.f4
 obtain⟨aj,ak,aJ,aK,ay,aI⟩ :=ah.f4
 refine(hcp _ hB).mono ?_
 rintro e w1 ⟨aA,rfl,aP,l_c,hb⟩
 have u_c:=aP.lt
 replace au:=au.below hb
 replace ah:=ah.below hb
 replace hB:=hB.trans (hb.mono hB.size)
 have sz:=hb.size
 clear hb
 clear aD aF aR aS aL aQ
 obtain⟨aD,aF,aR,aS,aL,aQ⟩ :=au.f4
 clear aj ak aJ aK ay aI
 obtain⟨aj,ak,aJ,aK,ay,aI⟩ :=ah.f4
 clear hcp
 go_wp2_with (go_at_call 38;refine(hco _).mono ?_;rintro e wv ⟨rfl,rfl⟩)
 generalize hO : Obj.cells #[.slice aA.E.Y.a aA.E.Y.l aA.E.Y.c, .slice aA.E.Z.a aA.E.Z.l aA.E.Z.c, .slice aA.I.G.a aA.I.G.l aA.I.G.c, .slice aA.I.O.a aA.I.O.l aA.I.O.c] 31=O_
 replace au:=au.alloc O_
 replace ah:=ah.alloc O_
 replace aP:=aP.aH O_
 replace hB:=hB.alloc hB.size O_
 have aN : aB (w1.alloc O_) w1.heap.size [.slice aA.E.Y.a aA.E.Y.l aA.E.Y.c, .slice aA.E.Z.a aA.E.Z.l aA.E.Z.c, .slice aA.I.G.a aA.I.G.l aA.I.G.c, .slice aA.I.O.a aA.I.O.l aA.I.O.c]:=hO ▸ aB.new _ _ _
 have gy:=aN.lt
 have sz : w1.heap.size≤ (w1.alloc O_).heap.size:=Nat.le_of_lt aN.lt
 generalize hG : (w1.alloc O_) =w2 at au ah aP hB aN gy sz⊢
 clear hG hO O_
 clear aD aF aR aS aL aQ
 obtain⟨aD,aF,aR,aS,aL,aQ⟩ :=au.f4
 clear aj ak aJ aK ay aI
 obtain⟨aj,ak,aJ,aK,ay,aI⟩ :=ah.f4
 obtain⟨aV,aW,bG,bH,bq,bN⟩ :=aN.f4
 refine(hmo _ hB).mono ?_
 rintro e w3 ⟨rfl,hb⟩
 replace au:=au.below hb
 replace ah:=ah.below hb
 replace aN:=aN.below hb
 have aP:=aP.step0 hb
 replace hB:=hB.trans (hb.mono hB.size)
 have sz:=hb.size
 clear hb
 clear aD aF aR aS aL aQ
 obtain⟨aD,aF,aR,aS,aL,aQ⟩ :=au.f4
 clear aj ak aJ aK ay aI
 obtain⟨aj,ak,aJ,aK,ay,aI⟩ :=ah.f4
 clear aV aW bG bH bq bN
 obtain⟨aV,aW,bG,bH,bq,bN⟩ :=aN.f4
 clear hmo
 go_wp2_with (go_at_call 96;refine(lT _ _).mono ?_;rw [c2];rintro e wv ⟨rfl,rfl⟩)
 refine(hto _ hB).mono ?_
 rintro e w4 ⟨aC,rfl,gP,lX,hb⟩
 have oU:=gP.lt
 replace au:=au.below hb
 replace ah:=ah.below hb
 replace aN:=aN.below hb
 replace aP:=aP.step0 hb
 replace hB:=hB.trans (hb.mono hB.size)
 have sz:=hb.size
 clear hb
 clear aD aF aR aS aL aQ
 obtain⟨aD,aF,aR,aS,aL,aQ⟩ :=au.f4
 clear aj ak aJ aK ay aI
 obtain⟨aj,ak,aJ,aK,ay,aI⟩ :=ah.f4
 clear aV aW bG bH bq bN
 obtain⟨aV,aW,bG,bH,bq,bN⟩ :=aN.f4
 clear hto
 go_upto_region 9 with (fail)
 generalize hO : Obj.cells #[.slice aC.G.a aC.G.l aC.G.c, .slice aC.O.a aC.O.l aC.O.c] 29=O_
 replace au:=au.alloc O_
 replace ah:=ah.alloc O_
 replace aN:=aN.alloc O_
 replace aP:=aP.aH O_
 replace gP:=gP.aH O_
 replace hB:=hB.alloc hB.size O_
 have cB : aB (w4.alloc O_) w4.heap.size [.slice aC.G.a aC.G.l aC.G.c, .slice aC.O.a aC.O.l aC.O.c]:=hO ▸ aB.new _ _ _
 have oo:=cB.lt
 have sz : w4.heap.size≤ (w4.alloc O_).heap.size:=Nat.le_of_lt cB.lt
 generalize hG : (w4.alloc O_) =w5 at au ah aN aP gP hB cB oo sz⊢
 clear hG hO O_
 clear aD aF aR aS aL aQ
 obtain⟨aD,aF,aR,aS,aL,aQ⟩ :=au.f4
 clear aj ak aJ aK ay aI
 obtain⟨aj,ak,aJ,aK,ay,aI⟩ :=ah.f4
 clear aV aW bG bH bq bN
 obtain⟨aV,aW,bG,bH,bq,bN⟩ :=aN.f4
 obtain⟨dK,dL,eB,fP⟩ :=cB.f2
 go_upto_region 14 with (fail)
 replace au : aB ((w5.setCell ⟨w1.heap.size,2,none⟩ (.slice aC.G.a aC.G.l aC.G.c)).setCell ⟨w1.heap.size,3,none⟩ (.slice aC.O.a aC.O.l aC.O.c)) (w.heap.size) [.slice H.E.Y.a H.E.Y.l H.E.Y.c, .slice H.E.Z.a H.E.Z.l H.E.Z.c, .slice H.I.G.a H.I.G.l H.I.G.c, .slice H.I.O.a H.I.O.l H.I.O.c]:= ((au.other (by omega) _).other (by omega) _)
 replace ah : aB ((w5.setCell ⟨w1.heap.size,2,none⟩ (.slice aC.G.a aC.G.l aC.G.c)).setCell ⟨w1.heap.size,3,none⟩ (.slice aC.O.a aC.O.l aC.O.c)) (w.heap.size+1) [.slice none 0 0, .slice none 0 0, .slice none 0 0, .slice none 0 0]:= ((ah.other (by omega) _).other (by omega) _)
 replace aN : aB ((w5.setCell ⟨w1.heap.size,2,none⟩ (.slice aC.G.a aC.G.l aC.G.c)).setCell ⟨w1.heap.size,3,none⟩ (.slice aC.O.a aC.O.l aC.O.c)) (w1.heap.size) [.slice aA.E.Y.a aA.E.Y.l aA.E.Y.c, .slice aA.E.Z.a aA.E.Z.l aA.E.Z.c, .slice aC.G.a aC.G.l aC.G.c, .slice aC.O.a aC.O.l aC.O.c]:= ((aN.set 2 (.slice aC.G.a aC.G.l aC.G.c)).set 3 (.slice aC.O.a aC.O.l aC.O.c))
 replace cB : aB ((w5.setCell ⟨w1.heap.size,2,none⟩ (.slice aC.G.a aC.G.l aC.G.c)).setCell ⟨w1.heap.size,3,none⟩ (.slice aC.O.a aC.O.l aC.O.c)) (w4.heap.size) [.slice aC.G.a aC.G.l aC.G.c, .slice aC.O.a aC.O.l aC.O.c]:= ((cB.other (by omega) _).other (by omega) _)
 replace aP:=aP.aM (F:= [w1.heap.size]) (w':= ((w5.setCell ⟨w1.heap.size,2,none⟩ (.slice aC.G.a aC.G.l aC.G.c)).setCell ⟨w1.heap.size,3,none⟩ (.slice aC.O.a aC.O.l aC.O.c))) bW (fun g hg hm=>by simp only [List.mem_cons,List.not_mem_nil,or_false] at hm;have:=l_c g hg;have:=u_c g hg;omega)
 replace gP:=gP.aM (F:= [w1.heap.size]) (w':= ((w5.setCell ⟨w1.heap.size,2,none⟩ (.slice aC.G.a aC.G.l aC.G.c)).setCell ⟨w1.heap.size,3,none⟩ (.slice aC.O.a aC.O.l aC.O.c))) bW (fun g hg hm=>by simp only [List.mem_cons,List.not_mem_nil,or_false] at hm;have:=lX g hg;have:=oU g hg;omega)
 replace hB : Below w.heap.size w ((w5.setCell ⟨w1.heap.size,2,none⟩ (.slice aC.G.a aC.G.l aC.G.c)).setCell ⟨w1.heap.size,3,none⟩ (.slice aC.O.a aC.O.l aC.O.c)) :=Below.trans hB dQ
 have sz : w5.heap.size≤ ((w5.setCell ⟨w1.heap.size,2,none⟩ (.slice aC.G.a aC.G.l aC.G.c)).setCell ⟨w1.heap.size,3,none⟩ (.slice aC.O.a aC.O.l aC.O.c)).heap.size:=by simp
 generalize hG : ((w5.setCell ⟨w1.heap.size,2,none⟩ (.slice aC.G.a aC.G.l aC.G.c)).setCell ⟨w1.heap.size,3,none⟩ (.slice aC.O.a aC.O.l aC.O.c)) =w6 at au ah aN cB aP gP hB sz⊢
 clear hG
 clear aD aF aR aS aL aQ
 obtain⟨aD,aF,aR,aS,aL,aQ⟩ :=au.f4
 clear aj ak aJ aK ay aI
 obtain⟨aj,ak,aJ,aK,ay,aI⟩ :=ah.f4
 clear aV aW bG bH bq bN
 obtain⟨aV,aW,bG,bH,bq,bN⟩ :=aN.f4
 clear dK dL eB fP
 obtain⟨dK,dL,eB,fP⟩ :=cB.f2
 have hhi:=fun (W : World) (hW : Below w6.heap.size w6 W) =>uT W ⟨aA.E,aC⟩ x x.E s (dW aP.E.rd' hW) hsh f1 f3
 go_region_with (first| (go_at_call 100; (first| ((with_reducible refine(hhi _ (Below.refl _ _)).mono ?_);rintro e wq ⟨rfl,hb⟩;replace au:=au.below hb;replace ah:=ah.below hb;replace aN:=aN.below hb;replace cB:=cB.below hb;replace aP:=aP.step0 hb;replace gP:=gP.step0 hb;replace hB:=hB.trans (hb.mono hB.size);have sz:=hb.size;clear hb;clear aD aF aR aS aL aQ;obtain⟨aD,aF,aR,aS,aL,aQ⟩ :=au.f4;clear aj ak aJ aK ay aI;obtain⟨aj,ak,aJ,aK,ay,aI⟩ :=ah.f4;clear aV aW bG bH bq bN;obtain⟨aV,aW,bG,bH,bq,bN⟩ :=aN.f4;clear dK dL eB fP;obtain⟨dK,dL,eB,fP⟩ :=cB.f2) | ((with_reducible refine(hhi _ (Below.refl _ _).drew).mono ?_);rintro e wq ⟨rfl,hb⟩;replace hb:=gq hb;replace au:=au.below hb;replace ah:=ah.below hb;replace aN:=aN.below hb;replace cB:=cB.below hb;replace aP:=aP.step0 hb;replace gP:=gP.step0 hb;replace hB:=hB.trans (hb.mono hB.size);have sz:=hb.size;clear hb;clear aD aF aR aS aL aQ;obtain⟨aD,aF,aR,aS,aL,aQ⟩ :=au.f4;clear aj ak aJ aK ay aI;obtain⟨aj,ak,aJ,aK,ay,aI⟩ :=ah.f4;clear aV aW bG bH bq bN;obtain⟨aV,aW,bG,bH,bq,bN⟩ :=aN.f4;clear dK dL eB fP;obtain⟨dK,dL,eB,fP⟩ :=cB.f2))))
 all_goals
  go_wp2_with fail
  refine bodyPost_ret (v:= .tuple #[.agg #[.slice aA.E.Y.a aA.E.Y.l aA.E.Y.c, .slice aA.E.Z.a aA.E.Z.l aA.E.Z.c, .slice aC.G.a aC.G.l aC.G.c, .slice aC.O.a aC.O.l aC.O.c], .int .i64 (dz x.E s * 32+s), .int .i64 0]) (by simp [results,Tryz.results34,go_sem,aj,ak,aJ,aK]) rfl ⟨⟨aA.E,aC⟩,rfl, ⟨(aP.aM (F:= [w.heap.size+1]) bW (fun g hg hm=>by simp only [List.mem_cons,List.not_mem_nil,or_false] at hm;have:=l_c g hg;have:=u_c g hg;omega)).E,gP.aM (F:= [w.heap.size+1]) bW (fun g hg hm=>by simp only [List.mem_cons,List.not_mem_nil,or_false] at hm;have:=lX g hg;have:=oU g hg;omega),fun b hb hm=>by have:=u_c b (bP.aX.2 (.inl hb));have:=lX b hm;omega⟩,fun b hb=>by rcases bP.aX.1 hb with hb|hb; (have:=l_c b (bP.aX.2 (.inl hb));omega); (have:=lX b hb;omega),Below.trans hB dQ⟩
end Go.Proofs.YtkmggglljkmjoaaGreat
namespace Go.Proofs.YtkmggglljkmjoaaGreat
open Go.RowKit
set_option maxRecDepth 100000 in
set_option maxHeartbeats 8000000 in
theorem yG (w : World)(H : bP)(x : Mem)(wk c : Nat)(n : Int)(l : List Int)(s : Int)(h : gJ w w.heap.size H x)(hs : dx x≤536870912)(c1 : dG x=true)(hw : wk<3)(c3 : eT n= (c : Int))(hc : c<3)(mM : x.I.O[wk * 3+c]? =some [])(hrow : x.I.G[c]? =some (l++ [s])) :
  Calls Tryz.prog 34 #[.agg #[.slice H.E.Y.a H.E.Y.l H.E.Y.c, .slice H.E.Z.a H.E.Z.l H.E.Z.c, .slice H.I.G.a H.I.G.l H.I.G.c, .slice H.I.O.a H.I.O.l H.I.O.c], .int .i64 wk, .int .i64 n] w fun e w'=> ∃H' : bP,e= .returned (.tuple #[.agg #[.slice H'.E.Y.a H'.E.Y.l H'.E.Y.c, .slice H'.E.Z.a H'.E.Z.l H'.E.Z.c, .slice H'.I.G.a H'.I.G.l H'.I.G.c, .slice H'.I.O.a H'.I.O.l H'.I.O.c], .int .i64 (dz x.E s * 32+s), .int .i64 0]) ∧jO w' H' {x with I:= {x.I with G:=x.I.G.set c l}}∧ (∀g∈H'.foot,w.heap.size≤g) ∧Below w.heap.size w w':=by
 have hcl : bO 0 2 (c : Int) =true:=bJ.2 ⟨by omega,by omega⟩
 have c2 : bO 0 2 (wk : Int) =true:=bJ.2 ⟨by omega,by omega⟩
 have hfit:=wZ c1 hc hrow (List.mem_append_right l (List.mem_singleton.2 rfl))
 obtain⟨f1,f2,f3⟩ :=rM (o_ c1) hfit hcl
 have hsh:=jd c1
 have hs0 : 0≤s:= (bJ.1 f1).1
 have jT : iE x.E≤536870912∧bX x.I≤536870912:=by unfold dx at hs;omega
 have hcp:=fun (W : World) (hW : Below w.heap.size w W) =>kV W H x (dO h hW) hs
 have hmo:=fun (W : World) (hW : Below w.heap.size w W) =>jS W H x (dO h hW)
 have hto:=fun (W : World) (hW : Below w.heap.size w W) =>rA W H.I x.I wk c (eZ h.I hW) jT.2 (jC c1) hw hc mM
 have uQ:=fun (W : World) (hW : Below w.heap.size w W) =>y5 W H.I x.I c l s (eZ h.I hW) jT.2 (jC c1) hc hrow
 rw [c1] at hmo
 have hco:=fun W=>mF n W
 rw [c3] at hco
 clear c3 hfit f2 hrow mM c1 jT hs
 obtain⟨w0,hW0⟩ : ∃x,x= ((w.alloc (.cells #[.slice H.E.Y.a H.E.Y.l H.E.Y.c, .slice H.E.Z.a H.E.Z.l H.E.Z.c, .slice H.I.G.a H.I.G.l H.I.G.c, .slice H.I.O.a H.I.O.l H.I.O.c] 31)).alloc (.cells #[.slice none 0 0, .slice none 0 0, .slice none 0 0, .slice none 0 0] 31)) := ⟨_,rfl⟩
 have au : aB w0 (w.heap.size) [.slice H.E.Y.a H.E.Y.l H.E.Y.c, .slice H.E.Z.a H.E.Z.l H.E.Z.c, .slice H.I.G.a H.I.G.l H.I.G.c, .slice H.I.O.a H.I.O.l H.I.O.c]:=by
  rw [hW0]
  exact aB.alloc aB.nw _
 have ah : aB w0 (w.heap.size+1) [.slice none 0 0, .slice none 0 0, .slice none 0 0, .slice none 0 0]:=by
  rw [hW0]
  exact aB.nw
 have hB : Below w.heap.size w w0:=by
  rw [hW0]
  exact dJ
 go_enter Tryz.func34,Tryz.ntmps34
 go_wp2_with fail
 rw [←hW0]
 clear hW0
 have g_:=au.lt
 have iB:=ah.lt
 obtain⟨aD,aF,aR,aS,aL,aQ⟩ :=au.f4
 obtain⟨aj,ak,aJ,aK,ay,aI⟩ :=ah.f4
 refine(hcp _ hB).mono ?_
 rintro e w1 ⟨aA,rfl,aP,l_c,hb⟩
 have u_c:=aP.lt
 replace au:=au.below hb
 replace ah:=ah.below hb
 replace hB:=hB.trans (hb.mono hB.size)
 have sz:=hb.size
 clear hb
 clear aD aF aR aS aL aQ
 obtain⟨aD,aF,aR,aS,aL,aQ⟩ :=au.f4
 clear aj ak aJ aK ay aI
 obtain⟨aj,ak,aJ,aK,ay,aI⟩ :=ah.f4
 clear hcp
 go_wp2_with (go_at_call 38;refine(hco _).mono ?_;rintro e wv ⟨rfl,rfl⟩)
 generalize hO : Obj.cells #[.slice aA.E.Y.a aA.E.Y.l aA.E.Y.c, .slice aA.E.Z.a aA.E.Z.l aA.E.Z.c, .slice aA.I.G.a aA.I.G.l aA.I.G.c, .slice aA.I.O.a aA.I.O.l aA.I.O.c] 31=O_
 replace au:=au.alloc O_
 replace ah:=ah.alloc O_
 replace aP:=aP.aH O_
 replace hB:=hB.alloc hB.size O_
 have aN : aB (w1.alloc O_) w1.heap.size [.slice aA.E.Y.a aA.E.Y.l aA.E.Y.c, .slice aA.E.Z.a aA.E.Z.l aA.E.Z.c, .slice aA.I.G.a aA.I.G.l aA.I.G.c, .slice aA.I.O.a aA.I.O.l aA.I.O.c]:=hO ▸ aB.new _ _ _
 have gy:=aN.lt
 have sz : w1.heap.size≤ (w1.alloc O_).heap.size:=Nat.le_of_lt aN.lt
 generalize hG : (w1.alloc O_) =w2 at au ah aP hB aN gy sz⊢
 clear hG hO O_
 clear aD aF aR aS aL aQ
 obtain⟨aD,aF,aR,aS,aL,aQ⟩ :=au.f4
 clear aj ak aJ aK ay aI
 obtain⟨aj,ak,aJ,aK,ay,aI⟩ :=ah.f4
 obtain⟨aV,aW,bG,bH,bq,bN⟩ :=aN.f4
 refine(hmo _ hB).mono ?_
 rintro e w3 ⟨rfl,hb⟩
 replace au:=au.below hb
 replace ah:=ah.below hb
 replace aN:=aN.below hb
 have aP:=aP.step0 hb
 replace hB:=hB.trans (hb.mono hB.size)
 have sz:=hb.size
 clear hb
 clear aD aF aR aS aL aQ
 obtain⟨aD,aF,aR,aS,aL,aQ⟩ :=au.f4
 clear aj ak aJ aK ay aI
 obtain⟨aj,ak,aJ,aK,ay,aI⟩ :=ah.f4
 clear aV aW bG bH bq bN
 obtain⟨aV,aW,bG,bH,bq,bN⟩ :=aN.f4
 clear hmo
 go_wp2_with (go_at_call 96;refine(lT _ _).mono ?_;rw [c2];rintro e wv ⟨rfl,rfl⟩)
 refine(hto _ hB).mono ?_
 rintro e w4 ⟨iP,rfl,gK,sP,hb⟩
 have sQ:=gK.lt
 replace au:=au.below hb
 replace ah:=ah.below hb
 replace aN:=aN.below hb
 replace aP:=aP.step0 hb
 replace hB:=hB.trans (hb.mono hB.size)
 have sz:=hb.size
 clear hb
 clear aD aF aR aS aL aQ
 obtain⟨aD,aF,aR,aS,aL,aQ⟩ :=au.f4
 clear aj ak aJ aK ay aI
 obtain⟨aj,ak,aJ,aK,ay,aI⟩ :=ah.f4
 clear aV aW bG bH bq bN
 obtain⟨aV,aW,bG,bH,bq,bN⟩ :=aN.f4
 clear hto
 go_wp2_with fail
 generalize hO : Obj.cells #[.slice iP.G.a iP.G.l iP.G.c, .slice iP.O.a iP.O.l iP.O.c] 29=O_
 replace au:=au.alloc O_
 replace ah:=ah.alloc O_
 replace aN:=aN.alloc O_
 replace aP:=aP.aH O_
 replace gK:=gK.aH O_
 replace hB:=hB.alloc hB.size O_
 have cB : aB (w4.alloc O_) w4.heap.size [.slice iP.G.a iP.G.l iP.G.c, .slice iP.O.a iP.O.l iP.O.c]:=hO ▸ aB.new _ _ _
 have oo:=cB.lt
 have sz : w4.heap.size≤ (w4.alloc O_).heap.size:=Nat.le_of_lt cB.lt
 generalize hG : (w4.alloc O_) =w5 at au ah aN aP gK hB cB oo sz⊢
 clear hG hO O_
 clear aD aF aR aS aL aQ
 obtain⟨aD,aF,aR,aS,aL,aQ⟩ :=au.f4
 clear aj ak aJ aK ay aI
 obtain⟨aj,ak,aJ,aK,ay,aI⟩ :=ah.f4
 clear aV aW bG bH bq bN
 obtain⟨aV,aW,bG,bH,bq,bN⟩ :=aN.f4
 obtain⟨dK,dL,eB,fP⟩ :=cB.f2
 refine(uQ _ hB).mono ?_
 rintro e w6 ⟨aC,rfl,gP,lX,hb⟩
 have oU:=gP.lt
 replace au:=au.below hb
 replace ah:=ah.below hb
 replace aN:=aN.below hb
 replace cB:=cB.below hb
 replace aP:=aP.step0 hb
 have gK:=gK.step0 hb
 replace hB:=hB.trans (hb.mono hB.size)
 have sz:=hb.size
 clear hb
 clear aD aF aR aS aL aQ
 obtain⟨aD,aF,aR,aS,aL,aQ⟩ :=au.f4
 clear aj ak aJ aK ay aI
 obtain⟨aj,ak,aJ,aK,ay,aI⟩ :=ah.f4
 clear aV aW bG bH bq bN
 obtain⟨aV,aW,bG,bH,bq,bN⟩ :=aN.f4
 clear dK dL eB fP
 obtain⟨dK,dL,eB,fP⟩ :=cB.f2
 clear uQ
 go_upto_region 9 with (fail)
 replace au : aB ((w6.setCell ⟨w4.heap.size,0,none⟩ (.slice aC.G.a aC.G.l aC.G.c)).setCell ⟨w4.heap.size,1,none⟩ (.slice aC.O.a aC.O.l aC.O.c)) (w.heap.size) [.slice H.E.Y.a H.E.Y.l H.E.Y.c, .slice H.E.Z.a H.E.Z.l H.E.Z.c, .slice H.I.G.a H.I.G.l H.I.G.c, .slice H.I.O.a H.I.O.l H.I.O.c]:= ((au.other (by omega) _).other (by omega) _)
 replace ah : aB ((w6.setCell ⟨w4.heap.size,0,none⟩ (.slice aC.G.a aC.G.l aC.G.c)).setCell ⟨w4.heap.size,1,none⟩ (.slice aC.O.a aC.O.l aC.O.c)) (w.heap.size+1) [.slice none 0 0, .slice none 0 0, .slice none 0 0, .slice none 0 0]:= ((ah.other (by omega) _).other (by omega) _)
 replace aN : aB ((w6.setCell ⟨w4.heap.size,0,none⟩ (.slice aC.G.a aC.G.l aC.G.c)).setCell ⟨w4.heap.size,1,none⟩ (.slice aC.O.a aC.O.l aC.O.c)) (w1.heap.size) [.slice aA.E.Y.a aA.E.Y.l aA.E.Y.c, .slice aA.E.Z.a aA.E.Z.l aA.E.Z.c, .slice aA.I.G.a aA.I.G.l aA.I.G.c, .slice aA.I.O.a aA.I.O.l aA.I.O.c]:= ((aN.other (by omega) _).other (by omega) _)
 replace cB : aB ((w6.setCell ⟨w4.heap.size,0,none⟩ (.slice aC.G.a aC.G.l aC.G.c)).setCell ⟨w4.heap.size,1,none⟩ (.slice aC.O.a aC.O.l aC.O.c)) (w4.heap.size) [.slice aC.G.a aC.G.l aC.G.c, .slice aC.O.a aC.O.l aC.O.c]:= ((cB.set 0 (.slice aC.G.a aC.G.l aC.G.c)).set 1 (.slice aC.O.a aC.O.l aC.O.c))
 replace aP:=aP.aM (F:= [w4.heap.size]) (w':= ((w6.setCell ⟨w4.heap.size,0,none⟩ (.slice aC.G.a aC.G.l aC.G.c)).setCell ⟨w4.heap.size,1,none⟩ (.slice aC.O.a aC.O.l aC.O.c))) bW (fun g hg hm=>by simp only [List.mem_cons,List.not_mem_nil,or_false] at hm;have:=l_c g hg;have:=u_c g hg;omega)
 replace gK:=gK.aM (F:= [w4.heap.size]) (w':= ((w6.setCell ⟨w4.heap.size,0,none⟩ (.slice aC.G.a aC.G.l aC.G.c)).setCell ⟨w4.heap.size,1,none⟩ (.slice aC.O.a aC.O.l aC.O.c))) bW (fun g hg hm=>by simp only [List.mem_cons,List.not_mem_nil,or_false] at hm;have:=sP g hg;have:=sQ g hg;omega)
 replace gP:=gP.aM (F:= [w4.heap.size]) (w':= ((w6.setCell ⟨w4.heap.size,0,none⟩ (.slice aC.G.a aC.G.l aC.G.c)).setCell ⟨w4.heap.size,1,none⟩ (.slice aC.O.a aC.O.l aC.O.c))) bW (fun g hg hm=>by simp only [List.mem_cons,List.not_mem_nil,or_false] at hm;have:=lX g hg;have:=oU g hg;omega)
 replace hB : Below w.heap.size w ((w6.setCell ⟨w4.heap.size,0,none⟩ (.slice aC.G.a aC.G.l aC.G.c)).setCell ⟨w4.heap.size,1,none⟩ (.slice aC.O.a aC.O.l aC.O.c)) :=Below.trans hB dQ
 have sz : w6.heap.size≤ ((w6.setCell ⟨w4.heap.size,0,none⟩ (.slice aC.G.a aC.G.l aC.G.c)).setCell ⟨w4.heap.size,1,none⟩ (.slice aC.O.a aC.O.l aC.O.c)).heap.size:=by simp
 generalize hG : ((w6.setCell ⟨w4.heap.size,0,none⟩ (.slice aC.G.a aC.G.l aC.G.c)).setCell ⟨w4.heap.size,1,none⟩ (.slice aC.O.a aC.O.l aC.O.c)) =w7 at au ah aN cB aP gK gP hB sz⊢
 clear hG
 clear aD aF aR aS aL aQ
 obtain⟨aD,aF,aR,aS,aL,aQ⟩ :=au.f4
 clear aj ak aJ aK ay aI
 obtain⟨aj,ak,aJ,aK,ay,aI⟩ :=ah.f4
 clear aV aW bG bH bq bN
 obtain⟨aV,aW,bG,bH,bq,bN⟩ :=aN.f4
 clear dK dL eB fP
 obtain⟨dK,dL,eB,fP⟩ :=cB.f2
 go_upto_region 14 with (fail)
 replace au : aB ((w7.setCell ⟨w1.heap.size,2,none⟩ (.slice aC.G.a aC.G.l aC.G.c)).setCell ⟨w1.heap.size,3,none⟩ (.slice aC.O.a aC.O.l aC.O.c)) (w.heap.size) [.slice H.E.Y.a H.E.Y.l H.E.Y.c, .slice H.E.Z.a H.E.Z.l H.E.Z.c, .slice H.I.G.a H.I.G.l H.I.G.c, .slice H.I.O.a H.I.O.l H.I.O.c]:= ((au.other (by omega) _).other (by omega) _)
 replace ah : aB ((w7.setCell ⟨w1.heap.size,2,none⟩ (.slice aC.G.a aC.G.l aC.G.c)).setCell ⟨w1.heap.size,3,none⟩ (.slice aC.O.a aC.O.l aC.O.c)) (w.heap.size+1) [.slice none 0 0, .slice none 0 0, .slice none 0 0, .slice none 0 0]:= ((ah.other (by omega) _).other (by omega) _)
 replace aN : aB ((w7.setCell ⟨w1.heap.size,2,none⟩ (.slice aC.G.a aC.G.l aC.G.c)).setCell ⟨w1.heap.size,3,none⟩ (.slice aC.O.a aC.O.l aC.O.c)) (w1.heap.size) [.slice aA.E.Y.a aA.E.Y.l aA.E.Y.c, .slice aA.E.Z.a aA.E.Z.l aA.E.Z.c, .slice aC.G.a aC.G.l aC.G.c, .slice aC.O.a aC.O.l aC.O.c]:= ((aN.set 2 (.slice aC.G.a aC.G.l aC.G.c)).set 3 (.slice aC.O.a aC.O.l aC.O.c))
 replace cB : aB ((w7.setCell ⟨w1.heap.size,2,none⟩ (.slice aC.G.a aC.G.l aC.G.c)).setCell ⟨w1.heap.size,3,none⟩ (.slice aC.O.a aC.O.l aC.O.c)) (w4.heap.size) [.slice aC.G.a aC.G.l aC.G.c, .slice aC.O.a aC.O.l aC.O.c]:= ((cB.other (by omega) _).other (by omega) _)
 replace aP:=aP.aM (F:= [w1.heap.size]) (w':= ((w7.setCell ⟨w1.heap.size,2,none⟩ (.slice aC.G.a aC.G.l aC.G.c)).setCell ⟨w1.heap.size,3,none⟩ (.slice aC.O.a aC.O.l aC.O.c))) bW (fun g hg hm=>by simp only [List.mem_cons,List.not_mem_nil,or_false] at hm;have:=l_c g hg;have:=u_c g hg;omega)
 replace gK:=gK.aM (F:= [w1.heap.size]) (w':= ((w7.setCell ⟨w1.heap.size,2,none⟩ (.slice aC.G.a aC.G.l aC.G.c)).setCell ⟨w1.heap.size,3,none⟩ (.slice aC.O.a aC.O.l aC.O.c))) bW (fun g hg hm=>by simp only [List.mem_cons,List.not_mem_nil,or_false] at hm;have:=sP g hg;have:=sQ g hg;omega)
 replace gP:=gP.aM (F:= [w1.heap.size]) (w':= ((w7.setCell ⟨w1.heap.size,2,none⟩ (.slice aC.G.a aC.G.l aC.G.c)).setCell ⟨w1.heap.size,3,none⟩ (.slice aC.O.a aC.O.l aC.O.c))) bW (fun g hg hm=>by simp only [List.mem_cons,List.not_mem_nil,or_false] at hm;have:=lX g hg;have:=oU g hg;omega)
 replace hB : Below w.heap.size w ((w7.setCell ⟨w1.heap.size,2,none⟩ (.slice aC.G.a aC.G.l aC.G.c)).setCell ⟨w1.heap.size,3,none⟩ (.slice aC.O.a aC.O.l aC.O.c)) :=Below.trans hB dQ
 have sz : w7.heap.size≤ ((w7.setCell ⟨w1.heap.size,2,none⟩ (.slice aC.G.a aC.G.l aC.G.c)).setCell ⟨w1.heap.size,3,none⟩ (.slice aC.O.a aC.O.l aC.O.c)).heap.size:=by simp
 generalize hG : ((w7.setCell ⟨w1.heap.size,2,none⟩ (.slice aC.G.a aC.G.l aC.G.c)).setCell ⟨w1.heap.size,3,none⟩ (.slice aC.O.a aC.O.l aC.O.c)) =w8 at au ah aN cB aP gK gP hB sz⊢
 clear hG
 clear aD aF aR aS aL aQ
 obtain⟨aD,aF,aR,aS,aL,aQ⟩ :=au.f4
 clear aj ak aJ aK ay aI
 obtain⟨aj,ak,aJ,aK,ay,aI⟩ :=ah.f4
 clear aV aW bG bH bq bN
 obtain⟨aV,aW,bG,bH,bq,bN⟩ :=aN.f4
 clear dK dL eB fP
 obtain⟨dK,dL,eB,fP⟩ :=cB.f2
 have hhi:=fun (W : World) (hW : Below w8.heap.size w8 W) =>uT W ⟨aA.E,aC⟩ x x.E s (dW aP.E.rd' hW) hsh f1 f3
 go_region_with (first| (go_at_call 100; (first| ((with_reducible refine(hhi _ (Below.refl _ _)).mono ?_);rintro e wq ⟨rfl,hb⟩;replace au:=au.below hb;replace ah:=ah.below hb;replace aN:=aN.below hb;replace cB:=cB.below hb;replace aP:=aP.step0 hb;replace gK:=gK.step0 hb;replace gP:=gP.step0 hb;replace hB:=hB.trans (hb.mono hB.size);have sz:=hb.size;clear hb;clear aD aF aR aS aL aQ;obtain⟨aD,aF,aR,aS,aL,aQ⟩ :=au.f4;clear aj ak aJ aK ay aI;obtain⟨aj,ak,aJ,aK,ay,aI⟩ :=ah.f4;clear aV aW bG bH bq bN;obtain⟨aV,aW,bG,bH,bq,bN⟩ :=aN.f4;clear dK dL eB fP;obtain⟨dK,dL,eB,fP⟩ :=cB.f2) | ((with_reducible refine(hhi _ (Below.refl _ _).drew).mono ?_);rintro e wq ⟨rfl,hb⟩;replace hb:=gq hb;replace au:=au.below hb;replace ah:=ah.below hb;replace aN:=aN.below hb;replace cB:=cB.below hb;replace aP:=aP.step0 hb;replace gK:=gK.step0 hb;replace gP:=gP.step0 hb;replace hB:=hB.trans (hb.mono hB.size);have sz:=hb.size;clear hb;clear aD aF aR aS aL aQ;obtain⟨aD,aF,aR,aS,aL,aQ⟩ :=au.f4;clear aj ak aJ aK ay aI;obtain⟨aj,ak,aJ,aK,ay,aI⟩ :=ah.f4;clear aV aW bG bH bq bN;obtain⟨aV,aW,bG,bH,bq,bN⟩ :=aN.f4;clear dK dL eB fP;obtain⟨dK,dL,eB,fP⟩ :=cB.f2))))
 all_goals
  go_wp2_with fail
  refine bodyPost_ret (v:= .tuple #[.agg #[.slice aA.E.Y.a aA.E.Y.l aA.E.Y.c, .slice aA.E.Z.a aA.E.Z.l aA.E.Z.c, .slice aC.G.a aC.G.l aC.G.c, .slice aC.O.a aC.O.l aC.O.c], .int .i64 (dz x.E s * 32+s), .int .i64 0]) (by simp [results,Tryz.results34,go_sem,aj,ak,aJ,aK]) rfl ⟨⟨aA.E,aC⟩,rfl, ⟨(aP.aM (F:= [w.heap.size+1]) bW (fun g hg hm=>by simp only [List.mem_cons,List.not_mem_nil,or_false] at hm;have:=l_c g hg;have:=u_c g hg;omega)).E,gP.aM (F:= [w.heap.size+1]) bW (fun g hg hm=>by simp only [List.mem_cons,List.not_mem_nil,or_false] at hm;have:=lX g hg;have:=oU g hg;omega),fun b hb hm=>by have:=u_c b (bP.aX.2 (.inl hb));have:=lX b hm;omega⟩,fun b hb=>by rcases bP.aX.1 hb with hb|hb; (have:=l_c b (bP.aX.2 (.inl hb));omega); (have:=lX b hb;omega),Below.trans hB dQ⟩
end Go.Proofs.YtkmggglljkmjoaaGreat
