/-
  Several texts in one: lemmas and contracts that the claim rests on.
-/
import Derived.Test.YtkmggglljkmjoaaUHNoReuse2
import Derived.Test.YtkmggglljkmjoaaUHNoReuse1
import Derived.Deep.QuietTactic
import Derived.BigQuiet
import Derived.Deep.LoopGhost
import Derived.Deep.RegionHeld3
import Derived.WalkSpells
import Derived.Laws.Cover3
import Derived.Test.YtkmggglljkmjoaaUHNoReuse22
namespace Go.Proofs.Ytkmggglljkmjoaa
open Go.RowKit
set_option maxRecDepth 100000 in
set_option maxHeartbeats 8000000 in
theorem pU (w : World)(H : bY)(x : Mem)(wk c : Nat)(n : Int)(l : List Int)(s : Int)(h : gD w w.heap.size H x)(hs : dS x≤536870912)(c1 : bX x=true)(hw : wk<3)(c3 : dK n= (c : Int))(hc : c<3)(lS : x.I.O[wk * 3+c]? =some [])(hrow : x.I.G[c]? =some (l++ [s])) :
  Calls Try.prog 8 #[.agg #[.slice H.E.Y.a H.E.Y.l H.E.Y.c, .slice H.E.Z.a H.E.Z.l H.E.Z.c, .slice H.I.G.a H.I.G.l H.I.G.c, .slice H.I.O.a H.I.O.l H.I.O.c], .int .i64 wk, .int .i64 n] w fun e w'=> ∃H' : bY,e= .returned (.tuple #[.agg #[.slice H'.E.Y.a H'.E.Y.l H'.E.Y.c, .slice H'.E.Z.a H'.E.Z.l H'.E.Z.c, .slice H'.I.G.a H'.I.G.l H'.I.G.c, .slice H'.I.O.a H'.I.O.l H'.I.O.c], .int .i64 (bK x.E s * 32+s), .int .i64 0]) ∧eZ w' H' {x with I:= {x.I with G:=x.I.G.set c l}}∧ (∀g∈H'.foot,w.heap.size≤g) ∧Below w.heap.size w w':=by
 have hcl : aW 0 2 (c : Int) =true:=bD.2 ⟨by omega,by omega⟩
 have c2 : aW 0 2 (wk : Int) =true:=bD.2 ⟨by omega,by omega⟩
 have hfit:=rT c1 hc hrow (List.mem_append_right l (List.mem_singleton.2 rfl))
 obtain⟨f1,f2,f3⟩ :=nO (l5 c1) hfit hcl
 have hsh:=jN c1
 have hs0 : 0≤s:= (bD.1 f1).1
 have iO : iK x.E≤536870912∧eU x.I≤536870912:=by unfold dS at hs;omega
 have hcp:=fun (W : World) (hW : Below w.heap.size w W) =>jc W H x (eD h hW) hs
 have hmo:=fun (W : World) (hW : Below w.heap.size w W) =>iT W H x (eD h hW)
 have hto:=fun (W : World) (hW : Below w.heap.size w W) =>kV W H.I x.I wk c (dP h.I hW) iO.2 (iX c1) hw hc lS
 have vP:=fun (W : World) (hW : Below w.heap.size w W) =>qd W H.I x.I c l s (dP h.I hW) iO.2 (iX c1) hc hrow
 rw [c1] at hmo
 have hco:=fun W=>jr n W
 rw [c3] at hco
 clear c3 hfit f2 hrow lS c1 iO hs
 obtain⟨w0,hW0⟩ : ∃x,x= ((w.alloc (.cells #[.slice H.E.Y.a H.E.Y.l H.E.Y.c, .slice H.E.Z.a H.E.Z.l H.E.Z.c, .slice H.I.G.a H.I.G.l H.I.G.c, .slice H.I.O.a H.I.O.l H.I.O.c] 31)).alloc (.cells #[.slice none 0 0, .slice none 0 0, .slice none 0 0, .slice none 0 0] 31)) := ⟨_,rfl⟩
 have aC : aJ w0 (w.heap.size) [.slice H.E.Y.a H.E.Y.l H.E.Y.c, .slice H.E.Z.a H.E.Z.l H.E.Z.c, .slice H.I.G.a H.I.G.l H.I.G.c, .slice H.I.O.a H.I.O.l H.I.O.c]:=by
  rw [hW0]
  exact aJ.alloc aJ.nw _
 have au : aJ w0 (w.heap.size+1) [.slice none 0 0, .slice none 0 0, .slice none 0 0, .slice none 0 0]:=by
  rw [hW0]
  exact aJ.nw
 have hB : Below w.heap.size w w0:=by
  rw [hW0]
  exact dn
 go_enter Try.func8,Try.ntmps8
 go_wp2_with fail
 rw [←hW0]
 clear hW0
 have jy:=aC.lt
 have ji:=au.lt
 obtain⟨aF,aG,aQ,aR,aK,aV⟩ :=aC.f4
 obtain⟨aA,aB,aL,aM,aI,aU⟩ :=au.f4
 refine(hcp _ hB).mono ?_
 rintro e w1 ⟨aH,rfl,aT,l_c,hb⟩
 have u_c:=aT.lt
 replace aC:=aC.below hb
 replace au:=au.below hb
 replace hB:=hB.trans (hb.mono hB.size)
 have sz:=hb.size
 clear hb
 clear aF aG aQ aR aK aV
 obtain⟨aF,aG,aQ,aR,aK,aV⟩ :=aC.f4
 clear aA aB aL aM aI aU
 obtain⟨aA,aB,aL,aM,aI,aU⟩ :=au.f4
 clear hcp
 go_wp2_with (go_at_call 21;refine(hco _).mono ?_;rintro e wv ⟨rfl,rfl⟩)
 generalize hO : Obj.cells #[.slice aH.E.Y.a aH.E.Y.l aH.E.Y.c, .slice aH.E.Z.a aH.E.Z.l aH.E.Z.c, .slice aH.I.G.a aH.I.G.l aH.I.G.c, .slice aH.I.O.a aH.I.O.l aH.I.O.c] 31=O_
 replace aC:=aC.alloc O_
 replace au:=au.alloc O_
 replace aT:=aT.aN O_
 replace hB:=hB.alloc hB.size O_
 have ay : aJ (w1.alloc O_) w1.heap.size [.slice aH.E.Y.a aH.E.Y.l aH.E.Y.c, .slice aH.E.Z.a aH.E.Z.l aH.E.Z.c, .slice aH.I.G.a aH.I.G.l aH.I.G.c, .slice aH.I.O.a aH.I.O.l aH.I.O.c]:=hO ▸ aJ.new _ _ _
 have iF:=ay.lt
 have sz : w1.heap.size≤ (w1.alloc O_).heap.size:=Nat.le_of_lt ay.lt
 generalize hG : (w1.alloc O_) =w2 at aC au aT hB ay iF sz⊢
 clear hG hO O_
 clear aF aG aQ aR aK aV
 obtain⟨aF,aG,aQ,aR,aK,aV⟩ :=aC.f4
 clear aA aB aL aM aI aU
 obtain⟨aA,aB,aL,aM,aI,aU⟩ :=au.f4
 obtain⟨aO,aP,bA,bB,aX,bJ⟩ :=ay.f4
 refine(hmo _ hB).mono ?_
 rintro e w3 ⟨rfl,hb⟩
 replace aC:=aC.below hb
 replace au:=au.below hb
 replace ay:=ay.below hb
 have aT:=aT.step0 hb
 replace hB:=hB.trans (hb.mono hB.size)
 have sz:=hb.size
 clear hb
 clear aF aG aQ aR aK aV
 obtain⟨aF,aG,aQ,aR,aK,aV⟩ :=aC.f4
 clear aA aB aL aM aI aU
 obtain⟨aA,aB,aL,aM,aI,aU⟩ :=au.f4
 clear aO aP bA bB aX bJ
 obtain⟨aO,aP,bA,bB,aX,bJ⟩ :=ay.f4
 clear hmo
 go_wp2_with (go_at_call 17;refine(iH _ _).mono ?_;rw [c2];rintro e wv ⟨rfl,rfl⟩)
 refine(hto _ hB).mono ?_
 rintro e w4 ⟨iN,rfl,gH,uz,hb⟩
 have uD:=gH.lt
 replace aC:=aC.below hb
 replace au:=au.below hb
 replace ay:=ay.below hb
 replace aT:=aT.step0 hb
 replace hB:=hB.trans (hb.mono hB.size)
 have sz:=hb.size
 clear hb
 clear aF aG aQ aR aK aV
 obtain⟨aF,aG,aQ,aR,aK,aV⟩ :=aC.f4
 clear aA aB aL aM aI aU
 obtain⟨aA,aB,aL,aM,aI,aU⟩ :=au.f4
 clear aO aP bA bB aX bJ
 obtain⟨aO,aP,bA,bB,aX,bJ⟩ :=ay.f4
 clear hto
 go_wp2_with fail
 generalize hO : Obj.cells #[.slice iN.G.a iN.G.l iN.G.c, .slice iN.O.a iN.O.l iN.O.c] 29=O_
 replace aC:=aC.alloc O_
 replace au:=au.alloc O_
 replace ay:=ay.alloc O_
 replace aT:=aT.aN O_
 replace gH:=gH.aN O_
 replace hB:=hB.alloc hB.size O_
 have bR : aJ (w4.alloc O_) w4.heap.size [.slice iN.G.a iN.G.l iN.G.c, .slice iN.O.a iN.O.l iN.O.c]:=hO ▸ aJ.new _ _ _
 have l6:=bR.lt
 have sz : w4.heap.size≤ (w4.alloc O_).heap.size:=Nat.le_of_lt bR.lt
 generalize hG : (w4.alloc O_) =w5 at aC au ay aT gH hB bR l6 sz⊢
 clear hG hO O_
 clear aF aG aQ aR aK aV
 obtain⟨aF,aG,aQ,aR,aK,aV⟩ :=aC.f4
 clear aA aB aL aM aI aU
 obtain⟨aA,aB,aL,aM,aI,aU⟩ :=au.f4
 clear aO aP bA bB aX bJ
 obtain⟨aO,aP,bA,bB,aX,bJ⟩ :=ay.f4
 obtain⟨bZ,b_,dF,dX⟩ :=bR.f2
 refine(vP _ hB).mono ?_
 rintro e w6 ⟨aj,rfl,gJ,mE,hb⟩
 have oF:=gJ.lt
 replace aC:=aC.below hb
 replace au:=au.below hb
 replace ay:=ay.below hb
 replace bR:=bR.below hb
 replace aT:=aT.step0 hb
 have gH:=gH.step0 hb
 replace hB:=hB.trans (hb.mono hB.size)
 have sz:=hb.size
 clear hb
 clear aF aG aQ aR aK aV
 obtain⟨aF,aG,aQ,aR,aK,aV⟩ :=aC.f4
 clear aA aB aL aM aI aU
 obtain⟨aA,aB,aL,aM,aI,aU⟩ :=au.f4
 clear aO aP bA bB aX bJ
 obtain⟨aO,aP,bA,bB,aX,bJ⟩ :=ay.f4
 clear bZ b_ dF dX
 obtain⟨bZ,b_,dF,dX⟩ :=bR.f2
 clear vP
 go_upto_region 9 with (fail)
 replace aC : aJ ((w6.setCell ⟨w4.heap.size,0,none⟩ (.slice aj.G.a aj.G.l aj.G.c)).setCell ⟨w4.heap.size,1,none⟩ (.slice aj.O.a aj.O.l aj.O.c)) (w.heap.size) [.slice H.E.Y.a H.E.Y.l H.E.Y.c, .slice H.E.Z.a H.E.Z.l H.E.Z.c, .slice H.I.G.a H.I.G.l H.I.G.c, .slice H.I.O.a H.I.O.l H.I.O.c]:= ((aC.other (by omega) _).other (by omega) _)
 replace au : aJ ((w6.setCell ⟨w4.heap.size,0,none⟩ (.slice aj.G.a aj.G.l aj.G.c)).setCell ⟨w4.heap.size,1,none⟩ (.slice aj.O.a aj.O.l aj.O.c)) (w.heap.size+1) [.slice none 0 0, .slice none 0 0, .slice none 0 0, .slice none 0 0]:= ((au.other (by omega) _).other (by omega) _)
 replace ay : aJ ((w6.setCell ⟨w4.heap.size,0,none⟩ (.slice aj.G.a aj.G.l aj.G.c)).setCell ⟨w4.heap.size,1,none⟩ (.slice aj.O.a aj.O.l aj.O.c)) (w1.heap.size) [.slice aH.E.Y.a aH.E.Y.l aH.E.Y.c, .slice aH.E.Z.a aH.E.Z.l aH.E.Z.c, .slice aH.I.G.a aH.I.G.l aH.I.G.c, .slice aH.I.O.a aH.I.O.l aH.I.O.c]:= ((ay.other (by omega) _).other (by omega) _)
 replace bR : aJ ((w6.setCell ⟨w4.heap.size,0,none⟩ (.slice aj.G.a aj.G.l aj.G.c)).setCell ⟨w4.heap.size,1,none⟩ (.slice aj.O.a aj.O.l aj.O.c)) (w4.heap.size) [.slice aj.G.a aj.G.l aj.G.c, .slice aj.O.a aj.O.l aj.O.c]:= ((bR.set 0 (.slice aj.G.a aj.G.l aj.G.c)).set 1 (.slice aj.O.a aj.O.l aj.O.c))
 replace aT:=aT.bn (F:= [w4.heap.size]) (w':= ((w6.setCell ⟨w4.heap.size,0,none⟩ (.slice aj.G.a aj.G.l aj.G.c)).setCell ⟨w4.heap.size,1,none⟩ (.slice aj.O.a aj.O.l aj.O.c))) bV (fun g hg hm=>by simp only [List.mem_cons,List.not_mem_nil,or_false] at hm;have:=l_c g hg;have:=u_c g hg;omega)
 replace gH:=gH.bn (F:= [w4.heap.size]) (w':= ((w6.setCell ⟨w4.heap.size,0,none⟩ (.slice aj.G.a aj.G.l aj.G.c)).setCell ⟨w4.heap.size,1,none⟩ (.slice aj.O.a aj.O.l aj.O.c))) bV (fun g hg hm=>by simp only [List.mem_cons,List.not_mem_nil,or_false] at hm;have:=uz g hg;have:=uD g hg;omega)
 replace gJ:=gJ.bn (F:= [w4.heap.size]) (w':= ((w6.setCell ⟨w4.heap.size,0,none⟩ (.slice aj.G.a aj.G.l aj.G.c)).setCell ⟨w4.heap.size,1,none⟩ (.slice aj.O.a aj.O.l aj.O.c))) bV (fun g hg hm=>by simp only [List.mem_cons,List.not_mem_nil,or_false] at hm;have:=mE g hg;have:=oF g hg;omega)
 replace hB : Below w.heap.size w ((w6.setCell ⟨w4.heap.size,0,none⟩ (.slice aj.G.a aj.G.l aj.G.c)).setCell ⟨w4.heap.size,1,none⟩ (.slice aj.O.a aj.O.l aj.O.c)) :=Below.trans hB fJ
 have sz : w6.heap.size≤ ((w6.setCell ⟨w4.heap.size,0,none⟩ (.slice aj.G.a aj.G.l aj.G.c)).setCell ⟨w4.heap.size,1,none⟩ (.slice aj.O.a aj.O.l aj.O.c)).heap.size:=by simp
 generalize hG : ((w6.setCell ⟨w4.heap.size,0,none⟩ (.slice aj.G.a aj.G.l aj.G.c)).setCell ⟨w4.heap.size,1,none⟩ (.slice aj.O.a aj.O.l aj.O.c)) =w7 at aC au ay bR aT gH gJ hB sz⊢
 clear hG
 clear aF aG aQ aR aK aV
 obtain⟨aF,aG,aQ,aR,aK,aV⟩ :=aC.f4
 clear aA aB aL aM aI aU
 obtain⟨aA,aB,aL,aM,aI,aU⟩ :=au.f4
 clear aO aP bA bB aX bJ
 obtain⟨aO,aP,bA,bB,aX,bJ⟩ :=ay.f4
 clear bZ b_ dF dX
 obtain⟨bZ,b_,dF,dX⟩ :=bR.f2
 go_upto_region 14 with (fail)
 replace aC : aJ ((w7.setCell ⟨w1.heap.size,2,none⟩ (.slice aj.G.a aj.G.l aj.G.c)).setCell ⟨w1.heap.size,3,none⟩ (.slice aj.O.a aj.O.l aj.O.c)) (w.heap.size) [.slice H.E.Y.a H.E.Y.l H.E.Y.c, .slice H.E.Z.a H.E.Z.l H.E.Z.c, .slice H.I.G.a H.I.G.l H.I.G.c, .slice H.I.O.a H.I.O.l H.I.O.c]:= ((aC.other (by omega) _).other (by omega) _)
 replace au : aJ ((w7.setCell ⟨w1.heap.size,2,none⟩ (.slice aj.G.a aj.G.l aj.G.c)).setCell ⟨w1.heap.size,3,none⟩ (.slice aj.O.a aj.O.l aj.O.c)) (w.heap.size+1) [.slice none 0 0, .slice none 0 0, .slice none 0 0, .slice none 0 0]:= ((au.other (by omega) _).other (by omega) _)
 replace ay : aJ ((w7.setCell ⟨w1.heap.size,2,none⟩ (.slice aj.G.a aj.G.l aj.G.c)).setCell ⟨w1.heap.size,3,none⟩ (.slice aj.O.a aj.O.l aj.O.c)) (w1.heap.size) [.slice aH.E.Y.a aH.E.Y.l aH.E.Y.c, .slice aH.E.Z.a aH.E.Z.l aH.E.Z.c, .slice aj.G.a aj.G.l aj.G.c, .slice aj.O.a aj.O.l aj.O.c]:= ((ay.set 2 (.slice aj.G.a aj.G.l aj.G.c)).set 3 (.slice aj.O.a aj.O.l aj.O.c))
 replace bR : aJ ((w7.setCell ⟨w1.heap.size,2,none⟩ (.slice aj.G.a aj.G.l aj.G.c)).setCell ⟨w1.heap.size,3,none⟩ (.slice aj.O.a aj.O.l aj.O.c)) (w4.heap.size) [.slice aj.G.a aj.G.l aj.G.c, .slice aj.O.a aj.O.l aj.O.c]:= ((bR.other (by omega) _).other (by omega) _)
 replace aT:=aT.bn (F:= [w1.heap.size]) (w':= ((w7.setCell ⟨w1.heap.size,2,none⟩ (.slice aj.G.a aj.G.l aj.G.c)).setCell ⟨w1.heap.size,3,none⟩ (.slice aj.O.a aj.O.l aj.O.c))) bV (fun g hg hm=>by simp only [List.mem_cons,List.not_mem_nil,or_false] at hm;have:=l_c g hg;have:=u_c g hg;omega)
 replace gH:=gH.bn (F:= [w1.heap.size]) (w':= ((w7.setCell ⟨w1.heap.size,2,none⟩ (.slice aj.G.a aj.G.l aj.G.c)).setCell ⟨w1.heap.size,3,none⟩ (.slice aj.O.a aj.O.l aj.O.c))) bV (fun g hg hm=>by simp only [List.mem_cons,List.not_mem_nil,or_false] at hm;have:=uz g hg;have:=uD g hg;omega)
 replace gJ:=gJ.bn (F:= [w1.heap.size]) (w':= ((w7.setCell ⟨w1.heap.size,2,none⟩ (.slice aj.G.a aj.G.l aj.G.c)).setCell ⟨w1.heap.size,3,none⟩ (.slice aj.O.a aj.O.l aj.O.c))) bV (fun g hg hm=>by simp only [List.mem_cons,List.not_mem_nil,or_false] at hm;have:=mE g hg;have:=oF g hg;omega)
 replace hB : Below w.heap.size w ((w7.setCell ⟨w1.heap.size,2,none⟩ (.slice aj.G.a aj.G.l aj.G.c)).setCell ⟨w1.heap.size,3,none⟩ (.slice aj.O.a aj.O.l aj.O.c)) :=Below.trans hB fJ
 have sz : w7.heap.size≤ ((w7.setCell ⟨w1.heap.size,2,none⟩ (.slice aj.G.a aj.G.l aj.G.c)).setCell ⟨w1.heap.size,3,none⟩ (.slice aj.O.a aj.O.l aj.O.c)).heap.size:=by simp
 generalize hG : ((w7.setCell ⟨w1.heap.size,2,none⟩ (.slice aj.G.a aj.G.l aj.G.c)).setCell ⟨w1.heap.size,3,none⟩ (.slice aj.O.a aj.O.l aj.O.c)) =w8 at aC au ay bR aT gH gJ hB sz⊢
 clear hG
 clear aF aG aQ aR aK aV
 obtain⟨aF,aG,aQ,aR,aK,aV⟩ :=aC.f4
 clear aA aB aL aM aI aU
 obtain⟨aA,aB,aL,aM,aI,aU⟩ :=au.f4
 clear aO aP bA bB aX bJ
 obtain⟨aO,aP,bA,bB,aX,bJ⟩ :=ay.f4
 clear bZ b_ dF dX
 obtain⟨bZ,b_,dF,dX⟩ :=bR.f2
 have hhi:=fun (W : World) (hW : Below w8.heap.size w8 W) =>mH W ⟨aH.E,aj⟩ x x.E s (dH aT.E.rd' hW) hsh f1 f3
 go_region_with (first| (go_at_call 25; (first| ((with_reducible refine(hhi _ (Below.refl _ _)).mono ?_);rintro e wq ⟨rfl,hb⟩;replace aC:=aC.below hb;replace au:=au.below hb;replace ay:=ay.below hb;replace bR:=bR.below hb;replace aT:=aT.step0 hb;replace gH:=gH.step0 hb;replace gJ:=gJ.step0 hb;replace hB:=hB.trans (hb.mono hB.size);have sz:=hb.size;clear hb;clear aF aG aQ aR aK aV;obtain⟨aF,aG,aQ,aR,aK,aV⟩ :=aC.f4;clear aA aB aL aM aI aU;obtain⟨aA,aB,aL,aM,aI,aU⟩ :=au.f4;clear aO aP bA bB aX bJ;obtain⟨aO,aP,bA,bB,aX,bJ⟩ :=ay.f4;clear bZ b_ dF dX;obtain⟨bZ,b_,dF,dX⟩ :=bR.f2) | ((with_reducible refine(hhi _ (Below.refl _ _).drew).mono ?_);rintro e wq ⟨rfl,hb⟩;replace hb:=eY hb;replace aC:=aC.below hb;replace au:=au.below hb;replace ay:=ay.below hb;replace bR:=bR.below hb;replace aT:=aT.step0 hb;replace gH:=gH.step0 hb;replace gJ:=gJ.step0 hb;replace hB:=hB.trans (hb.mono hB.size);have sz:=hb.size;clear hb;clear aF aG aQ aR aK aV;obtain⟨aF,aG,aQ,aR,aK,aV⟩ :=aC.f4;clear aA aB aL aM aI aU;obtain⟨aA,aB,aL,aM,aI,aU⟩ :=au.f4;clear aO aP bA bB aX bJ;obtain⟨aO,aP,bA,bB,aX,bJ⟩ :=ay.f4;clear bZ b_ dF dX;obtain⟨bZ,b_,dF,dX⟩ :=bR.f2))))
 all_goals
  go_wp2_with fail
  refine bodyPost_ret (v:= .tuple #[.agg #[.slice aH.E.Y.a aH.E.Y.l aH.E.Y.c, .slice aH.E.Z.a aH.E.Z.l aH.E.Z.c, .slice aj.G.a aj.G.l aj.G.c, .slice aj.O.a aj.O.l aj.O.c], .int .i64 (bK x.E s * 32+s), .int .i64 0]) (by simp [results,Try.results8,go_sem,aA,aB,aL,aM]) rfl ⟨⟨aH.E,aj⟩,rfl, ⟨(aT.bn (F:= [w.heap.size+1]) bV (fun g hg hm=>by simp only [List.mem_cons,List.not_mem_nil,or_false] at hm;have:=l_c g hg;have:=u_c g hg;omega)).E,gJ.bn (F:= [w.heap.size+1]) bV (fun g hg hm=>by simp only [List.mem_cons,List.not_mem_nil,or_false] at hm;have:=mE g hg;have:=oF g hg;omega),fun b hb hm=>by have:=u_c b (bY.aZ.2 (.inl hb));have:=mE b hm;omega⟩,fun b hb=>by rcases bY.aZ.1 hb with hb|hb; (have:=l_c b (bY.aZ.2 (.inl hb));omega); (have:=mE b hb;omega),Below.trans hB fJ⟩
end Go.Proofs.Ytkmggglljkmjoaa
namespace Go.Proofs.Ytkmggglljkmjoaa
open Go.RowKit
set_option maxRecDepth 100000 in
set_option maxHeartbeats 8000000 in
theorem qU (w : World)(H : bY)(x : Mem)(wk c : Nat)(n : Int)(h : gD w w.heap.size H x)(hs : dS x≤536870912)(c1 : bX x=true)(hw : wk<3)(c3 : dK n= (c : Int))(hc : c<3)(lS : x.I.O[wk * 3+c]? =some [])(hrow : x.I.G[c]? =some [])(hp : idxOf (fun y=>y == -1) x.E.Z= -1) :
  Calls Try.prog 8 #[.agg #[.slice H.E.Y.a H.E.Y.l H.E.Y.c, .slice H.E.Z.a H.E.Z.l H.E.Z.c, .slice H.I.G.a H.I.G.l H.I.G.c, .slice H.I.O.a H.I.O.l H.I.O.c], .int .i64 wk, .int .i64 n] w fun e w'=> ∃H' : bY,e= .returned (.tuple #[.agg #[.slice H'.E.Y.a H'.E.Y.l H'.E.Y.c, .slice H'.E.Z.a H'.E.Z.l H'.E.Z.c, .slice H'.I.G.a H'.I.G.l H'.I.G.c, .slice H'.I.O.a H'.I.O.l H'.I.O.c], .int .i64 0, .int .i64 3]) ∧eX w' H' x∧ (∀g∈H'.foot,w.heap.size≤g) ∧Below w.heap.size w w':=by
 have hcl : aW 0 2 (c : Int) =true:=bD.2 ⟨by omega,by omega⟩
 have c2 : aW 0 2 (wk : Int) =true:=bD.2 ⟨by omega,by omega⟩
 have iO : iK x.E≤536870912∧eU x.I≤536870912:=by unfold dS at hs;omega
 have hcp:=fun (W : World) (hW : Below w.heap.size w W) =>jc W H x (eD h hW) hs
 have hmo:=fun (W : World) (hW : Below w.heap.size w W) =>iT W H x (eD h hW)
 have hto:=fun (W : World) (hW : Below w.heap.size w W) =>kV W H.I x.I wk c (dP h.I hW) iO.2 (iX c1) hw hc lS
 have vP:=fun (W : World) (hW : Below w.heap.size w W) =>lX W H.I x.I c (dP h.I hW) iO.2 (iX c1) hc hrow
 have hgn:=fun (W : World) (hW : Below w.heap.size w W) =>zi W H x c (eD h hW) hs c1 hc hp
 rw [c1] at hmo
 have hco:=fun W=>jr n W
 rw [c3] at hco
 clear c3 hp hrow lS c1 iO hs
 obtain⟨w0,hW0⟩ : ∃x,x= ((w.alloc (.cells #[.slice H.E.Y.a H.E.Y.l H.E.Y.c, .slice H.E.Z.a H.E.Z.l H.E.Z.c, .slice H.I.G.a H.I.G.l H.I.G.c, .slice H.I.O.a H.I.O.l H.I.O.c] 31)).alloc (.cells #[.slice none 0 0, .slice none 0 0, .slice none 0 0, .slice none 0 0] 31)) := ⟨_,rfl⟩
 have aC : aJ w0 (w.heap.size) [.slice H.E.Y.a H.E.Y.l H.E.Y.c, .slice H.E.Z.a H.E.Z.l H.E.Z.c, .slice H.I.G.a H.I.G.l H.I.G.c, .slice H.I.O.a H.I.O.l H.I.O.c]:=by
  rw [hW0]
  exact aJ.alloc aJ.nw _
 have au : aJ w0 (w.heap.size+1) [.slice none 0 0, .slice none 0 0, .slice none 0 0, .slice none 0 0]:=by
  rw [hW0]
  exact aJ.nw
 have hB : Below w.heap.size w w0:=by
  rw [hW0]
  exact dn
 go_enter Try.func8,Try.ntmps8
 go_wp2_with fail
 rw [←hW0]
 clear hW0
 have jy:=aC.lt
 have ji:=au.lt
 obtain⟨aF,aG,aQ,aR,aK,aV⟩ :=aC.f4
 obtain⟨aA,aB,aL,aM,aI,aU⟩ :=au.f4
 refine(hcp _ hB).mono ?_
 rintro e w1 ⟨aH,rfl,aT,l_c,hb⟩
 have u_c:=aT.lt
 replace aC:=aC.below hb
 replace au:=au.below hb
 replace hB:=hB.trans (hb.mono hB.size)
 have sz:=hb.size
 clear hb
 clear aF aG aQ aR aK aV
 obtain⟨aF,aG,aQ,aR,aK,aV⟩ :=aC.f4
 clear aA aB aL aM aI aU
 obtain⟨aA,aB,aL,aM,aI,aU⟩ :=au.f4
 clear hcp
 go_wp2_with (go_at_call 21;refine(hco _).mono ?_;rintro e wv ⟨rfl,rfl⟩)
 generalize hO : Obj.cells #[.slice aH.E.Y.a aH.E.Y.l aH.E.Y.c, .slice aH.E.Z.a aH.E.Z.l aH.E.Z.c, .slice aH.I.G.a aH.I.G.l aH.I.G.c, .slice aH.I.O.a aH.I.O.l aH.I.O.c] 31=O_
 replace aC:=aC.alloc O_
 replace au:=au.alloc O_
 replace aT:=aT.aN O_
 replace hB:=hB.alloc hB.size O_
 have ay : aJ (w1.alloc O_) w1.heap.size [.slice aH.E.Y.a aH.E.Y.l aH.E.Y.c, .slice aH.E.Z.a aH.E.Z.l aH.E.Z.c, .slice aH.I.G.a aH.I.G.l aH.I.G.c, .slice aH.I.O.a aH.I.O.l aH.I.O.c]:=hO ▸ aJ.new _ _ _
 have iF:=ay.lt
 have sz : w1.heap.size≤ (w1.alloc O_).heap.size:=Nat.le_of_lt ay.lt
 generalize hG : (w1.alloc O_) =w2 at aC au aT hB ay iF sz⊢
 clear hG hO O_
 clear aF aG aQ aR aK aV
 obtain⟨aF,aG,aQ,aR,aK,aV⟩ :=aC.f4
 clear aA aB aL aM aI aU
 obtain⟨aA,aB,aL,aM,aI,aU⟩ :=au.f4
 obtain⟨aO,aP,bA,bB,aX,bJ⟩ :=ay.f4
 refine(hmo _ hB).mono ?_
 rintro e w3 ⟨rfl,hb⟩
 replace aC:=aC.below hb
 replace au:=au.below hb
 replace ay:=ay.below hb
 have aT:=aT.step0 hb
 replace hB:=hB.trans (hb.mono hB.size)
 have sz:=hb.size
 clear hb
 clear aF aG aQ aR aK aV
 obtain⟨aF,aG,aQ,aR,aK,aV⟩ :=aC.f4
 clear aA aB aL aM aI aU
 obtain⟨aA,aB,aL,aM,aI,aU⟩ :=au.f4
 clear aO aP bA bB aX bJ
 obtain⟨aO,aP,bA,bB,aX,bJ⟩ :=ay.f4
 clear hmo
 go_wp2_with (go_at_call 17;refine(iH _ _).mono ?_;rw [c2];rintro e wv ⟨rfl,rfl⟩)
 refine(hto _ hB).mono ?_
 rintro e w4 ⟨iN,rfl,gH,uz,hb⟩
 have uD:=gH.lt
 replace aC:=aC.below hb
 replace au:=au.below hb
 replace ay:=ay.below hb
 replace aT:=aT.step0 hb
 replace hB:=hB.trans (hb.mono hB.size)
 have sz:=hb.size
 clear hb
 clear aF aG aQ aR aK aV
 obtain⟨aF,aG,aQ,aR,aK,aV⟩ :=aC.f4
 clear aA aB aL aM aI aU
 obtain⟨aA,aB,aL,aM,aI,aU⟩ :=au.f4
 clear aO aP bA bB aX bJ
 obtain⟨aO,aP,bA,bB,aX,bJ⟩ :=ay.f4
 clear hto
 go_wp2_with fail
 generalize hO : Obj.cells #[.slice iN.G.a iN.G.l iN.G.c, .slice iN.O.a iN.O.l iN.O.c] 29=O_
 replace aC:=aC.alloc O_
 replace au:=au.alloc O_
 replace ay:=ay.alloc O_
 replace aT:=aT.aN O_
 replace gH:=gH.aN O_
 replace hB:=hB.alloc hB.size O_
 have bR : aJ (w4.alloc O_) w4.heap.size [.slice iN.G.a iN.G.l iN.G.c, .slice iN.O.a iN.O.l iN.O.c]:=hO ▸ aJ.new _ _ _
 have l6:=bR.lt
 have sz : w4.heap.size≤ (w4.alloc O_).heap.size:=Nat.le_of_lt bR.lt
 generalize hG : (w4.alloc O_) =w5 at aC au ay aT gH hB bR l6 sz⊢
 clear hG hO O_
 clear aF aG aQ aR aK aV
 obtain⟨aF,aG,aQ,aR,aK,aV⟩ :=aC.f4
 clear aA aB aL aM aI aU
 obtain⟨aA,aB,aL,aM,aI,aU⟩ :=au.f4
 clear aO aP bA bB aX bJ
 obtain⟨aO,aP,bA,bB,aX,bJ⟩ :=ay.f4
 obtain⟨bZ,b_,dF,dX⟩ :=bR.f2
 refine(vP _ hB).mono ?_
 rintro e w6 ⟨aj,rfl,gJ,mE,hb⟩
 have oF:=gJ.lt
 replace aC:=aC.below hb
 replace au:=au.below hb
 replace ay:=ay.below hb
 replace bR:=bR.below hb
 replace aT:=aT.step0 hb
 have gH:=gH.step0 hb
 replace hB:=hB.trans (hb.mono hB.size)
 have sz:=hb.size
 clear hb
 clear aF aG aQ aR aK aV
 obtain⟨aF,aG,aQ,aR,aK,aV⟩ :=aC.f4
 clear aA aB aL aM aI aU
 obtain⟨aA,aB,aL,aM,aI,aU⟩ :=au.f4
 clear aO aP bA bB aX bJ
 obtain⟨aO,aP,bA,bB,aX,bJ⟩ :=ay.f4
 clear bZ b_ dF dX
 obtain⟨bZ,b_,dF,dX⟩ :=bR.f2
 clear vP
 go_upto_region 9 with (fail)
 replace aC : aJ ((w6.setCell ⟨w4.heap.size,0,none⟩ (.slice aj.G.a aj.G.l aj.G.c)).setCell ⟨w4.heap.size,1,none⟩ (.slice aj.O.a aj.O.l aj.O.c)) (w.heap.size) [.slice H.E.Y.a H.E.Y.l H.E.Y.c, .slice H.E.Z.a H.E.Z.l H.E.Z.c, .slice H.I.G.a H.I.G.l H.I.G.c, .slice H.I.O.a H.I.O.l H.I.O.c]:= ((aC.other (by omega) _).other (by omega) _)
 replace au : aJ ((w6.setCell ⟨w4.heap.size,0,none⟩ (.slice aj.G.a aj.G.l aj.G.c)).setCell ⟨w4.heap.size,1,none⟩ (.slice aj.O.a aj.O.l aj.O.c)) (w.heap.size+1) [.slice none 0 0, .slice none 0 0, .slice none 0 0, .slice none 0 0]:= ((au.other (by omega) _).other (by omega) _)
 replace ay : aJ ((w6.setCell ⟨w4.heap.size,0,none⟩ (.slice aj.G.a aj.G.l aj.G.c)).setCell ⟨w4.heap.size,1,none⟩ (.slice aj.O.a aj.O.l aj.O.c)) (w1.heap.size) [.slice aH.E.Y.a aH.E.Y.l aH.E.Y.c, .slice aH.E.Z.a aH.E.Z.l aH.E.Z.c, .slice aH.I.G.a aH.I.G.l aH.I.G.c, .slice aH.I.O.a aH.I.O.l aH.I.O.c]:= ((ay.other (by omega) _).other (by omega) _)
 replace bR : aJ ((w6.setCell ⟨w4.heap.size,0,none⟩ (.slice aj.G.a aj.G.l aj.G.c)).setCell ⟨w4.heap.size,1,none⟩ (.slice aj.O.a aj.O.l aj.O.c)) (w4.heap.size) [.slice aj.G.a aj.G.l aj.G.c, .slice aj.O.a aj.O.l aj.O.c]:= ((bR.set 0 (.slice aj.G.a aj.G.l aj.G.c)).set 1 (.slice aj.O.a aj.O.l aj.O.c))
 replace aT:=aT.bn (F:= [w4.heap.size]) (w':= ((w6.setCell ⟨w4.heap.size,0,none⟩ (.slice aj.G.a aj.G.l aj.G.c)).setCell ⟨w4.heap.size,1,none⟩ (.slice aj.O.a aj.O.l aj.O.c))) bV (fun g hg hm=>by simp only [List.mem_cons,List.not_mem_nil,or_false] at hm;have:=l_c g hg;have:=u_c g hg;omega)
 replace gH:=gH.bn (F:= [w4.heap.size]) (w':= ((w6.setCell ⟨w4.heap.size,0,none⟩ (.slice aj.G.a aj.G.l aj.G.c)).setCell ⟨w4.heap.size,1,none⟩ (.slice aj.O.a aj.O.l aj.O.c))) bV (fun g hg hm=>by simp only [List.mem_cons,List.not_mem_nil,or_false] at hm;have:=uz g hg;have:=uD g hg;omega)
 replace gJ:=gJ.bn (F:= [w4.heap.size]) (w':= ((w6.setCell ⟨w4.heap.size,0,none⟩ (.slice aj.G.a aj.G.l aj.G.c)).setCell ⟨w4.heap.size,1,none⟩ (.slice aj.O.a aj.O.l aj.O.c))) bV (fun g hg hm=>by simp only [List.mem_cons,List.not_mem_nil,or_false] at hm;have:=mE g hg;have:=oF g hg;omega)
 replace hB : Below w.heap.size w ((w6.setCell ⟨w4.heap.size,0,none⟩ (.slice aj.G.a aj.G.l aj.G.c)).setCell ⟨w4.heap.size,1,none⟩ (.slice aj.O.a aj.O.l aj.O.c)) :=Below.trans hB fJ
 have sz : w6.heap.size≤ ((w6.setCell ⟨w4.heap.size,0,none⟩ (.slice aj.G.a aj.G.l aj.G.c)).setCell ⟨w4.heap.size,1,none⟩ (.slice aj.O.a aj.O.l aj.O.c)).heap.size:=by simp
 generalize hG : ((w6.setCell ⟨w4.heap.size,0,none⟩ (.slice aj.G.a aj.G.l aj.G.c)).setCell ⟨w4.heap.size,1,none⟩ (.slice aj.O.a aj.O.l aj.O.c)) =w7 at aC au ay bR aT gH gJ hB sz⊢
 clear hG
 clear aF aG aQ aR aK aV
 obtain⟨aF,aG,aQ,aR,aK,aV⟩ :=aC.f4
 clear aA aB aL aM aI aU
 obtain⟨aA,aB,aL,aM,aI,aU⟩ :=au.f4
 clear aO aP bA bB aX bJ
 obtain⟨aO,aP,bA,bB,aX,bJ⟩ :=ay.f4
 clear bZ b_ dF dX
 obtain⟨bZ,b_,dF,dX⟩ :=bR.f2
 go_upto_region 11 with (fail)
 replace aC : aJ ((w7.setCell ⟨w1.heap.size,2,none⟩ (.slice aj.G.a aj.G.l aj.G.c)).setCell ⟨w1.heap.size,3,none⟩ (.slice aj.O.a aj.O.l aj.O.c)) (w.heap.size) [.slice H.E.Y.a H.E.Y.l H.E.Y.c, .slice H.E.Z.a H.E.Z.l H.E.Z.c, .slice H.I.G.a H.I.G.l H.I.G.c, .slice H.I.O.a H.I.O.l H.I.O.c]:= ((aC.other (by omega) _).other (by omega) _)
 replace au : aJ ((w7.setCell ⟨w1.heap.size,2,none⟩ (.slice aj.G.a aj.G.l aj.G.c)).setCell ⟨w1.heap.size,3,none⟩ (.slice aj.O.a aj.O.l aj.O.c)) (w.heap.size+1) [.slice none 0 0, .slice none 0 0, .slice none 0 0, .slice none 0 0]:= ((au.other (by omega) _).other (by omega) _)
 replace ay : aJ ((w7.setCell ⟨w1.heap.size,2,none⟩ (.slice aj.G.a aj.G.l aj.G.c)).setCell ⟨w1.heap.size,3,none⟩ (.slice aj.O.a aj.O.l aj.O.c)) (w1.heap.size) [.slice aH.E.Y.a aH.E.Y.l aH.E.Y.c, .slice aH.E.Z.a aH.E.Z.l aH.E.Z.c, .slice aj.G.a aj.G.l aj.G.c, .slice aj.O.a aj.O.l aj.O.c]:= ((ay.set 2 (.slice aj.G.a aj.G.l aj.G.c)).set 3 (.slice aj.O.a aj.O.l aj.O.c))
 replace bR : aJ ((w7.setCell ⟨w1.heap.size,2,none⟩ (.slice aj.G.a aj.G.l aj.G.c)).setCell ⟨w1.heap.size,3,none⟩ (.slice aj.O.a aj.O.l aj.O.c)) (w4.heap.size) [.slice aj.G.a aj.G.l aj.G.c, .slice aj.O.a aj.O.l aj.O.c]:= ((bR.other (by omega) _).other (by omega) _)
 replace aT:=aT.bn (F:= [w1.heap.size]) (w':= ((w7.setCell ⟨w1.heap.size,2,none⟩ (.slice aj.G.a aj.G.l aj.G.c)).setCell ⟨w1.heap.size,3,none⟩ (.slice aj.O.a aj.O.l aj.O.c))) bV (fun g hg hm=>by simp only [List.mem_cons,List.not_mem_nil,or_false] at hm;have:=l_c g hg;have:=u_c g hg;omega)
 replace gH:=gH.bn (F:= [w1.heap.size]) (w':= ((w7.setCell ⟨w1.heap.size,2,none⟩ (.slice aj.G.a aj.G.l aj.G.c)).setCell ⟨w1.heap.size,3,none⟩ (.slice aj.O.a aj.O.l aj.O.c))) bV (fun g hg hm=>by simp only [List.mem_cons,List.not_mem_nil,or_false] at hm;have:=uz g hg;have:=uD g hg;omega)
 replace gJ:=gJ.bn (F:= [w1.heap.size]) (w':= ((w7.setCell ⟨w1.heap.size,2,none⟩ (.slice aj.G.a aj.G.l aj.G.c)).setCell ⟨w1.heap.size,3,none⟩ (.slice aj.O.a aj.O.l aj.O.c))) bV (fun g hg hm=>by simp only [List.mem_cons,List.not_mem_nil,or_false] at hm;have:=mE g hg;have:=oF g hg;omega)
 replace hB : Below w.heap.size w ((w7.setCell ⟨w1.heap.size,2,none⟩ (.slice aj.G.a aj.G.l aj.G.c)).setCell ⟨w1.heap.size,3,none⟩ (.slice aj.O.a aj.O.l aj.O.c)) :=Below.trans hB fJ
 have sz : w7.heap.size≤ ((w7.setCell ⟨w1.heap.size,2,none⟩ (.slice aj.G.a aj.G.l aj.G.c)).setCell ⟨w1.heap.size,3,none⟩ (.slice aj.O.a aj.O.l aj.O.c)).heap.size:=by simp
 generalize hG : ((w7.setCell ⟨w1.heap.size,2,none⟩ (.slice aj.G.a aj.G.l aj.G.c)).setCell ⟨w1.heap.size,3,none⟩ (.slice aj.O.a aj.O.l aj.O.c)) =w8 at aC au ay bR aT gH gJ hB sz⊢
 clear hG
 clear aF aG aQ aR aK aV
 obtain⟨aF,aG,aQ,aR,aK,aV⟩ :=aC.f4
 clear aA aB aL aM aI aU
 obtain⟨aA,aB,aL,aM,aI,aU⟩ :=au.f4
 clear aO aP bA bB aX bJ
 obtain⟨aO,aP,bA,bB,aX,bJ⟩ :=ay.f4
 clear bZ b_ dF dX
 obtain⟨bZ,b_,dF,dX⟩ :=bR.f2
 go_wp2_with fail
 refine(hgn _ hB).mono ?_
 rintro e w9 ⟨bI,rfl,kF,ou,hb⟩
 have u_n:=kF.lt
 replace aC:=aC.below hb
 replace au:=au.below hb
 replace ay:=ay.below hb
 replace bR:=bR.below hb
 replace aT:=aT.step0 hb
 replace gH:=gH.step0 hb
 have gJ:=gJ.step0 hb
 replace hB:=hB.trans (hb.mono hB.size)
 have sz:=hb.size
 clear hb
 clear aF aG aQ aR aK aV
 obtain⟨aF,aG,aQ,aR,aK,aV⟩ :=aC.f4
 clear aA aB aL aM aI aU
 obtain⟨aA,aB,aL,aM,aI,aU⟩ :=au.f4
 clear aO aP bA bB aX bJ
 obtain⟨aO,aP,bA,bB,aX,bJ⟩ :=ay.f4
 clear bZ b_ dF dX
 obtain⟨bZ,b_,dF,dX⟩ :=bR.f2
 clear hgn
 go_wp2_with fail
 refine bodyPost_ret (v:= .tuple #[.agg #[.slice bI.E.Y.a bI.E.Y.l bI.E.Y.c, .slice bI.E.Z.a bI.E.Z.l bI.E.Z.c, .slice bI.I.G.a bI.I.G.l bI.I.G.c, .slice bI.I.O.a bI.I.O.l bI.I.O.c], .int .i64 0, .int .i64 3]) (by simp [results,Try.results8,go_sem,aA,aB,aL,aM]) rfl ⟨bI,rfl,kF.bn (F:= [w.heap.size+1,w1.heap.size]) bV (fun g hg hm=>by simp only [List.mem_cons,List.not_mem_nil,or_false] at hm;have:=ou g hg;have:=u_n g hg;omega),fun g hg=>by have:=ou g hg;omega,Below.trans hB fJ⟩
end Go.Proofs.Ytkmggglljkmjoaa
