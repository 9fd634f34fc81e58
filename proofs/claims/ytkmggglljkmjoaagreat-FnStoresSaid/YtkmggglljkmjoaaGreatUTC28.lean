/-
  Several texts in one: lemmas and contracts that the claim rests on.
-/
import Derived.Test.YtkmggglljkmjoaaGreatUTC1
import Derived.Deep.QuietTactic
import Derived.BigQuiet
import Derived.Deep.LoopGhost
import Derived.Deep.RegionHeld3
import Derived.Test.YtkmggglljkmjoaaGreatUTC2
import Derived.WalkSpells
import Derived.Laws.Cover3
import Derived.Test.YtkmggglljkmjoaaGreatUTC27
import Derived.Test.YtkmggglljkmjoaaGreatUTC17
import Derived.Test.YtkmggglljkmjoaaGreatUTC26
namespace Go.Proofs.YtkmggglljkmjoaaGreat
open Go.RowKit
set_option maxRecDepth 100000 in
set_option maxHeartbeats 8000000 in
theorem Ae (w : World)(H : bP)(x : Mem)(wk c : Nat)(n : Int)(h : gJ w w.heap.size H x)(hs : dx x≤536870912)(c1 : dG x=true)(hw : wk<3)(c3 : eT n= (c : Int))(hc : c<3)(mM : x.I.O[wk * 3+c]? =some [])(hrow : x.I.G[c]? =some [])(hp : idxOf (fun y=>y == -1) x.E.Z= -1) :
  Calls Tryz.prog 34 #[.agg #[.slice H.E.Y.a H.E.Y.l H.E.Y.c, .slice H.E.Z.a H.E.Z.l H.E.Z.c, .slice H.I.G.a H.I.G.l H.I.G.c, .slice H.I.O.a H.I.O.l H.I.O.c], .int .i64 wk, .int .i64 n] w fun e w'=> ∃H' : bP,e= .returned (.tuple #[.agg #[.slice H'.E.Y.a H'.E.Y.l H'.E.Y.c, .slice H'.E.Z.a H'.E.Z.l H'.E.Z.c, .slice H'.I.G.a H'.I.G.l H'.I.G.c, .slice H'.I.O.a H'.I.O.l H'.I.O.c], .int .i64 0, .int .i64 3]) ∧d9 w' H' x∧ (∀g∈H'.foot,w.heap.size≤g) ∧Below w.heap.size w w':=by
 have hcl : bO 0 2 (c : Int) =true:=bJ.2 ⟨by omega,by omega⟩
 have c2 : bO 0 2 (wk : Int) =true:=bJ.2 ⟨by omega,by omega⟩
 have jT : iE x.E≤536870912∧bX x.I≤536870912:=by unfold dx at hs;omega
 have hcp:=fun (W : World) (hW : Below w.heap.size w W) =>kV W H x (dO h hW) hs
 have hmo:=fun (W : World) (hW : Below w.heap.size w W) =>jS W H x (dO h hW)
 have hto:=fun (W : World) (hW : Below w.heap.size w W) =>rA W H.I x.I wk c (eZ h.I hW) jT.2 (jC c1) hw hc mM
 have uQ:=fun (W : World) (hW : Below w.heap.size w W) =>tu W H.I x.I c (eZ h.I hW) jT.2 (jC c1) hc hrow
 have hgn:=fun (W : World) (hW : Below w.heap.size w W) =>Io W H x c (dO h hW) hs c1 hc hp
 rw [c1] at hmo
 have hco:=fun W=>mF n W
 rw [c3] at hco
 clear c3 hp hrow mM c1 jT hs
 obtain⟨w0,hW0⟩ : ∃x,x= ((w.alloc (.cells #[.slice H.E.Y.a H.E.Y.l H.E.Y.c, .slice H.E.Z.a H.E.Z.l H.E.Z.c, .slice H.I.G.a H.I.G.l H.I.G.c, .slice H.I.O.a H.I.O.l H.I.O.c] 31)).alloc (.cells #[.slice none 0 0, .slice none 0 0, .slice none 0 0, .slice none 0 0] 31)) := ⟨_,rfl⟩
 have au : aB w0 (w.heap.size) [.slice H.E.Y.a H.E.Y.l H.E.Y.c, .slice H.E.Z.a H.E.Z.l H.E.Z.c, .slice H.I.G.a H.I.G.l H.I.G.c, .slice H.I.O.a H.I.O.l H.I.O.c]:=by
  rw [hW0]
  exact aB.alloc aB.nw _
 have ah : aB w0 (w.heap.size+1) [.slice none 0 0, .slice none 0 0, .slice none 0 0, .slice none 0 0]:=by
  rw [hW0]
  exact aB.nw
 have hB : Below w.heap.size w w0:=by
  rw [hW0]
  exact dJ
 go_enter Tryz.func34,Tryz.ntmps34
 go_wp2_with fail
 rw [←hW0]
 clear hW0
 have g_:=au.lt
 have iB:=ah.lt
 obtain⟨aD,aF,aR,aS,aL,aQ⟩ :=au.f4
 obtain⟨aj,ak,aJ,aK,ay,aI⟩ :=ah.f4
 refine(hcp _ hB).mono ?_
 rintro e w1 ⟨aA,rfl,aP,l_c,hb⟩
 have u_c:=aP.lt
 replace au:=au.below hb
 replace ah:=ah.below hb
 replace hB:=hB.trans (hb.mono hB.size)
 have sz:=hb.size
 clear hb
 clear aD aF aR aS aL aQ
 obtain⟨aD,aF,aR,aS,aL,aQ⟩ :=au.f4
 clear aj ak aJ aK ay aI
 obtain⟨aj,ak,aJ,aK,ay,aI⟩ :=ah.f4
 clear hcp
 go_wp2_with (go_at_call 38;refine(hco _).mono ?_;rintro e wv ⟨rfl,rfl⟩)
 generalize hO : Obj.cells #[.slice aA.E.Y.a aA.E.Y.l aA.E.Y.c, .slice aA.E.Z.a aA.E.Z.l aA.E.Z.c, .slice aA.I.G.a aA.I.G.l aA.I.G.c, .slice aA.I.O.a aA.I.O.l aA.I.O.c] 31=O_
 replace au:=au.alloc O_
 replace ah:=ah.alloc O_
 replace aP:=aP.aH O_
 replace hB:=hB.alloc hB.size O_
 have aN : aB (w1.alloc O_) w1.heap.size [.slice aA.E.Y.a aA.E.Y.l aA.E.Y.c, .slice aA.E.Z.a aA.E.Z.l aA.E.Z.c, .slice aA.I.G.a aA.I.G.l aA.I.G.c, .slice aA.I.O.a aA.I.O.l aA.I.O.c]:=hO ▸ aB.new _ _ _
 have gy:=aN.lt
 have sz : w1.heap.size≤ (w1.alloc O_).heap.size:=Nat.le_of_lt aN.lt
 generalize hG : (w1.alloc O_) =w2 at au ah aP hB aN gy sz⊢
 clear hG hO O_
 clear aD aF aR aS aL aQ
 obtain⟨aD,aF,aR,aS,aL,aQ⟩ :=au.f4
 clear aj ak aJ aK ay aI
 obtain⟨aj,ak,aJ,aK,ay,aI⟩ :=ah.f4
 obtain⟨aV,aW,bG,bH,bq,bN⟩ :=aN.f4
 refine(hmo _ hB).mono ?_
 rintro e w3 ⟨rfl,hb⟩
 replace au:=au.below hb
 replace ah:=ah.below hb
 replace aN:=aN.below hb
 have aP:=aP.step0 hb
 replace hB:=hB.trans (hb.mono hB.size)
 have sz:=hb.size
 clear hb
 clear aD aF aR aS aL aQ
 obtain⟨aD,aF,aR,aS,aL,aQ⟩ :=au.f4
 clear aj ak aJ aK ay aI
 obtain⟨aj,ak,aJ,aK,ay,aI⟩ :=ah.f4
 clear aV aW bG bH bq bN
 obtain⟨aV,aW,bG,bH,bq,bN⟩ :=aN.f4
 clear hmo
 go_wp2_with (go_at_call 96;refine(lT _ _).mono ?_;rw [c2];rintro e wv ⟨rfl,rfl⟩)
 refine(hto _ hB).mono ?_
 rintro e w4 ⟨iP,rfl,gK,sP,hb⟩
 have sQ:=gK.lt
 replace au:=au.below hb
 replace ah:=ah.below hb
 replace aN:=aN.below hb
 replace aP:=aP.step0 hb
 replace hB:=hB.trans (hb.mono hB.size)
 have sz:=hb.size
 clear hb
 clear aD aF aR aS aL aQ
 obtain⟨aD,aF,aR,aS,aL,aQ⟩ :=au.f4
 clear aj ak aJ aK ay aI
 obtain⟨aj,ak,aJ,aK,ay,aI⟩ :=ah.f4
 clear aV aW bG bH bq bN
 obtain⟨aV,aW,bG,bH,bq,bN⟩ :=aN.f4
 clear hto
 go_wp2_with fail
 generalize hO : Obj.cells #[.slice iP.G.a iP.G.l iP.G.c, .slice iP.O.a iP.O.l iP.O.c] 29=O_
 replace au:=au.alloc O_
 replace ah:=ah.alloc O_
 replace aN:=aN.alloc O_
 replace aP:=aP.aH O_
 replace gK:=gK.aH O_
 replace hB:=hB.alloc hB.size O_
 have cB : aB (w4.alloc O_) w4.heap.size [.slice iP.G.a iP.G.l iP.G.c, .slice iP.O.a iP.O.l iP.O.c]:=hO ▸ aB.new _ _ _
 have oo:=cB.lt
 have sz : w4.heap.size≤ (w4.alloc O_).heap.size:=Nat.le_of_lt cB.lt
 generalize hG : (w4.alloc O_) =w5 at au ah aN aP gK hB cB oo sz⊢
 clear hG hO O_
 clear aD aF aR aS aL aQ
 obtain⟨aD,aF,aR,aS,aL,aQ⟩ :=au.f4
 clear aj ak aJ aK ay aI
 obtain⟨aj,ak,aJ,aK,ay,aI⟩ :=ah.f4
 clear aV aW bG bH bq bN
 obtain⟨aV,aW,bG,bH,bq,bN⟩ :=aN.f4
 obtain⟨dK,dL,eB,fP⟩ :=cB.f2
 refine(uQ _ hB).mono ?_
 rintro e w6 ⟨aC,rfl,gP,lX,hb⟩
 have oU:=gP.lt
 replace au:=au.below hb
 replace ah:=ah.below hb
 replace aN:=aN.below hb
 replace cB:=cB.below hb
 replace aP:=aP.step0 hb
 have gK:=gK.step0 hb
 replace hB:=hB.trans (hb.mono hB.size)
 have sz:=hb.size
 clear hb
 clear aD aF aR aS aL aQ
 obtain⟨aD,aF,aR,aS,aL,aQ⟩ :=au.f4
 clear aj ak aJ aK ay aI
 obtain⟨aj,ak,aJ,aK,ay,aI⟩ :=ah.f4
 clear aV aW bG bH bq bN
 obtain⟨aV,aW,bG,bH,bq,bN⟩ :=aN.f4
 clear dK dL eB fP
 obtain⟨dK,dL,eB,fP⟩ :=cB.f2
 clear uQ
 go_upto_region 9 with (fail)
 replace au : aB ((w6.setCell ⟨w4.heap.size,0,none⟩ (.slice aC.G.a aC.G.l aC.G.c)).setCell ⟨w4.heap.size,1,none⟩ (.slice aC.O.a aC.O.l aC.O.c)) (w.heap.size) [.slice H.E.Y.a H.E.Y.l H.E.Y.c, .slice H.E.Z.a H.E.Z.l H.E.Z.c, .slice H.I.G.a H.I.G.l H.I.G.c, .slice H.I.O.a H.I.O.l H.I.O.c]:= ((au.other (by omega) _).other (by omega) _)
 replace ah : aB ((w6.setCell ⟨w4.heap.size,0,none⟩ (.slice aC.G.a aC.G.l aC.G.c)).setCell ⟨w4.heap.size,1,none⟩ (.slice aC.O.a aC.O.l aC.O.c)) (w.heap.size+1) [.slice none 0 0, .slice none 0 0, .slice none 0 0, .slice none 0 0]:= ((ah.other (by omega) _).other (by omega) _)
 replace aN : aB ((w6.setCell ⟨w4.heap.size,0,none⟩ (.slice aC.G.a aC.G.l aC.G.c)).setCell ⟨w4.heap.size,1,none⟩ (.slice aC.O.a aC.O.l aC.O.c)) (w1.heap.size) [.slice aA.E.Y.a aA.E.Y.l aA.E.Y.c, .slice aA.E.Z.a aA.E.Z.l aA.E.Z.c, .slice aA.I.G.a aA.I.G.l aA.I.G.c, .slice aA.I.O.a aA.I.O.l aA.I.O.c]:= ((aN.other (by omega) _).other (by omega) _)
 replace cB : aB ((w6.setCell ⟨w4.heap.size,0,none⟩ (.slice aC.G.a aC.G.l aC.G.c)).setCell ⟨w4.heap.size,1,none⟩ (.slice aC.O.a aC.O.l aC.O.c)) (w4.heap.size) [.slice aC.G.a aC.G.l aC.G.c, .slice aC.O.a aC.O.l aC.O.c]:= ((cB.set 0 (.slice aC.G.a aC.G.l aC.G.c)).set 1 (.slice aC.O.a aC.O.l aC.O.c))
 replace aP:=aP.aM (F:= [w4.heap.size]) (w':= ((w6.setCell ⟨w4.heap.size,0,none⟩ (.slice aC.G.a aC.G.l aC.G.c)).setCell ⟨w4.heap.size,1,none⟩ (.slice aC.O.a aC.O.l aC.O.c))) bW (fun g hg hm=>by simp only [List.mem_cons,List.not_mem_nil,or_false] at hm;have:=l_c g hg;have:=u_c g hg;omega)
 replace gK:=gK.aM (F:= [w4.heap.size]) (w':= ((w6.setCell ⟨w4.heap.size,0,none⟩ (.slice aC.G.a aC.G.l aC.G.c)).setCell ⟨w4.heap.size,1,none⟩ (.slice aC.O.a aC.O.l aC.O.c))) bW (fun g hg hm=>by simp only [List.mem_cons,List.not_mem_nil,or_false] at hm;have:=sP g hg;have:=sQ g hg;omega)
 replace gP:=gP.aM (F:= [w4.heap.size]) (w':= ((w6.setCell ⟨w4.heap.size,0,none⟩ (.slice aC.G.a aC.G.l aC.G.c)).setCell ⟨w4.heap.size,1,none⟩ (.slice aC.O.a aC.O.l aC.O.c))) bW (fun g hg hm=>by simp only [List.mem_cons,List.not_mem_nil,or_false] at hm;have:=lX g hg;have:=oU g hg;omega)
 replace hB : Below w.heap.size w ((w6.setCell ⟨w4.heap.size,0,none⟩ (.slice aC.G.a aC.G.l aC.G.c)).setCell ⟨w4.heap.size,1,none⟩ (.slice aC.O.a aC.O.l aC.O.c)) :=Below.trans hB dQ
 have sz : w6.heap.size≤ ((w6.setCell ⟨w4.heap.size,0,none⟩ (.slice aC.G.a aC.G.l aC.G.c)).setCell ⟨w4.heap.size,1,none⟩ (.slice aC.O.a aC.O.l aC.O.c)).heap.size:=by simp
 generalize hG : ((w6.setCell ⟨w4.heap.size,0,none⟩ (.slice aC.G.a aC.G.l aC.G.c)).setCell ⟨w4.heap.size,1,none⟩ (.slice aC.O.a aC.O.l aC.O.c)) =w7 at au ah aN cB aP gK gP hB sz⊢
 clear hG
 clear aD aF aR aS aL aQ
 obtain⟨aD,aF,aR,aS,aL,aQ⟩ :=au.f4
 clear aj ak aJ aK ay aI
 obtain⟨aj,ak,aJ,aK,ay,aI⟩ :=ah.f4
 clear aV aW bG bH bq bN
 obtain⟨aV,aW,bG,bH,bq,bN⟩ :=aN.f4
 clear dK dL eB fP
 obtain⟨dK,dL,eB,fP⟩ :=cB.f2
 go_upto_region 11 with (fail)
 replace au : aB ((w7.setCell ⟨w1.heap.size,2,none⟩ (.slice aC.G.a aC.G.l aC.G.c)).setCell ⟨w1.heap.size,3,none⟩ (.slice aC.O.a aC.O.l aC.O.c)) (w.heap.size) [.slice H.E.Y.a H.E.Y.l H.E.Y.c, .slice H.E.Z.a H.E.Z.l H.E.Z.c, .slice H.I.G.a H.I.G.l H.I.G.c, .slice H.I.O.a H.I.O.l H.I.O.c]:= ((au.other (by omega) _).other (by omega) _)
 replace ah : aB ((w7.setCell ⟨w1.heap.size,2,none⟩ (.slice aC.G.a aC.G.l aC.G.c)).setCell ⟨w1.heap.size,3,none⟩ (.slice aC.O.a aC.O.l aC.O.c)) (w.heap.size+1) [.slice none 0 0, .slice none 0 0, .slice none 0 0, .slice none 0 0]:= ((ah.other (by omega) _).other (by omega) _)
 replace aN : aB ((w7.setCell ⟨w1.heap.size,2,none⟩ (.slice aC.G.a aC.G.l aC.G.c)).setCell ⟨w1.heap.size,3,none⟩ (.slice aC.O.a aC.O.l aC.O.c)) (w1.heap.size) [.slice aA.E.Y.a aA.E.Y.l aA.E.Y.c, .slice aA.E.Z.a aA.E.Z.l aA.E.Z.c, .slice aC.G.a aC.G.l aC.G.c, .slice aC.O.a aC.O.l aC.O.c]:= ((aN.set 2 (.slice aC.G.a aC.G.l aC.G.c)).set 3 (.slice aC.O.a aC.O.l aC.O.c))
 replace cB : aB ((w7.setCell ⟨w1.heap.size,2,none⟩ (.slice aC.G.a aC.G.l aC.G.c)).setCell ⟨w1.heap.size,3,none⟩ (.slice aC.O.a aC.O.l aC.O.c)) (w4.heap.size) [.slice aC.G.a aC.G.l aC.G.c, .slice aC.O.a aC.O.l aC.O.c]:= ((cB.other (by omega) _).other (by omega) _)
 replace aP:=aP.aM (F:= [w1.heap.size]) (w':= ((w7.setCell ⟨w1.heap.size,2,none⟩ (.slice aC.G.a aC.G.l aC.G.c)).setCell ⟨w1.heap.size,3,none⟩ (.slice aC.O.a aC.O.l aC.O.c))) bW (fun g hg hm=>by simp only [List.mem_cons,List.not_mem_nil,or_false] at hm;have:=l_c g hg;have:=u_c g hg;omega)
 replace gK:=gK.aM (F:= [w1.heap.size]) (w':= ((w7.setCell ⟨w1.heap.size,2,none⟩ (.slice aC.G.a aC.G.l aC.G.c)).setCell ⟨w1.heap.size,3,none⟩ (.slice aC.O.a aC.O.l aC.O.c))) bW (fun g hg hm=>by simp only [List.mem_cons,List.not_mem_nil,or_false] at hm;have:=sP g hg;have:=sQ g hg;omega)
 replace gP:=gP.aM (F:= [w1.heap.size]) (w':= ((w7.setCell ⟨w1.heap.size,2,none⟩ (.slice aC.G.a aC.G.l aC.G.c)).setCell ⟨w1.heap.size,3,none⟩ (.slice aC.O.a aC.O.l aC.O.c))) bW (fun g hg hm=>by simp only [List.mem_cons,List.not_mem_nil,or_false] at hm;have:=lX g hg;have:=oU g hg;omega)
 replace hB : Below w.heap.size w ((w7.setCell ⟨w1.heap.size,2,none⟩ (.slice aC.G.a aC.G.l aC.G.c)).setCell ⟨w1.heap.size,3,none⟩ (.slice aC.O.a aC.O.l aC.O.c)) :=Below.trans hB dQ
 have sz : w7.heap.size≤ ((w7.setCell ⟨w1.heap.size,2,none⟩ (.slice aC.G.a aC.G.l aC.G.c)).setCell ⟨w1.heap.size,3,none⟩ (.slice aC.O.a aC.O.l aC.O.c)).heap.size:=by simp
 generalize hG : ((w7.setCell ⟨w1.heap.size,2,none⟩ (.slice aC.G.a aC.G.l aC.G.c)).setCell ⟨w1.heap.size,3,none⟩ (.slice aC.O.a aC.O.l aC.O.c)) =w8 at au ah aN cB aP gK gP hB sz⊢
 clear hG
 clear aD aF aR aS aL aQ
 obtain⟨aD,aF,aR,aS,aL,aQ⟩ :=au.f4
 clear aj ak aJ aK ay aI
 obtain⟨aj,ak,aJ,aK,ay,aI⟩ :=ah.f4
 clear aV aW bG bH bq bN
 obtain⟨aV,aW,bG,bH,bq,bN⟩ :=aN.f4
 clear dK dL eB fP
 obtain⟨dK,dL,eB,fP⟩ :=cB.f2
 go_wp2_with fail
 refine(hgn _ hB).mono ?_
 rintro e w9 ⟨aG,rfl,bZ,dY,hb⟩
 have u_n:=bZ.lt
 replace au:=au.below hb
 replace ah:=ah.below hb
 replace aN:=aN.below hb
 replace cB:=cB.below hb
 replace aP:=aP.step0 hb
 replace gK:=gK.step0 hb
 have gP:=gP.step0 hb
 replace hB:=hB.trans (hb.mono hB.size)
 have sz:=hb.size
 clear hb
 clear aD aF aR aS aL aQ
 obtain⟨aD,aF,aR,aS,aL,aQ⟩ :=au.f4
 clear aj ak aJ aK ay aI
 obtain⟨aj,ak,aJ,aK,ay,aI⟩ :=ah.f4
 clear aV aW bG bH bq bN
 obtain⟨aV,aW,bG,bH,bq,bN⟩ :=aN.f4
 clear dK dL eB fP
 obtain⟨dK,dL,eB,fP⟩ :=cB.f2
 clear hgn
 go_wp2_with fail
 refine bodyPost_ret (v:= .tuple #[.agg #[.slice aG.E.Y.a aG.E.Y.l aG.E.Y.c, .slice aG.E.Z.a aG.E.Z.l aG.E.Z.c, .slice aG.I.G.a aG.I.G.l aG.I.G.c, .slice aG.I.O.a aG.I.O.l aG.I.O.c], .int .i64 0, .int .i64 3]) (by simp [results,Tryz.results34,go_sem,aj,ak,aJ,aK]) rfl ⟨aG,rfl,bZ.aM (F:= [w.heap.size+1,w1.heap.size]) bW (fun g hg hm=>by simp only [List.mem_cons,List.not_mem_nil,or_false] at hm;have:=dY g hg;have:=u_n g hg;omega),fun g hg=>by have:=dY g hg;omega,Below.trans hB dQ⟩
end Go.Proofs.YtkmggglljkmjoaaGreat
namespace Go.Proofs.YtkmggglljkmjoaaGreat
open Go.RowKit
set_option maxRecDepth 100000 in
set_option maxHeartbeats 8000000 in
theorem GJ (w : World)(H : bP)(x : Mem)(p c : Nat)(h : gJ w w.heap.size H x)(hs : dx x≤536870912)(hok : dG x=true)(hc : c<3)(hp : idxOf (fun y=>y == -1) x.E.Z= (p : Int)) :
  Calls Tryz.prog 99 #[.agg #[.slice H.E.Y.a H.E.Y.l H.E.Y.c, .slice H.E.Z.a H.E.Z.l H.E.Z.c, .slice H.I.G.a H.I.G.l H.I.G.c, .slice H.I.O.a H.I.O.l H.I.O.c], .int .i64 c] w fun e w'=> ∃H' : bP,e= .returned (.tuple #[.agg #[.slice H'.E.Y.a H'.E.Y.l H'.E.Y.c, .slice H'.E.Z.a H'.E.Z.l H'.E.Z.c, .slice H'.I.G.a H'.I.G.l H'.I.G.c, .slice H'.I.O.a H'.I.O.l H'.I.O.c], .int .i64 ((p * 4 : Nat) : Int)]) ∧d9 w' H' (mH x p c) ∧ (∀g∈H'.foot,w.heap.size≤g) ∧Below w.heap.size w w':=by
 have jT : iE x.E≤536870912∧bX x.I≤536870912:=by unfold dx at hs;omega
 have hgr:=fun (W : World) (hW : Below w.heap.size w W) =>Jf W H.E x.E p c (dW h.E hW) jT.1 (o_ hok) hc hp
 have hcl:=fun (W : World) (hW : Below w.heap.size w W) =>kL W H.I x.I (eZ h.I hW) jT.2
 obtain⟨hl3,mW⟩ :=kD (jC hok)
 have H3:=Hid.aT hl3
 have Hg:=Hid.aT (vF (c:= (c : Int)) (bJ.2 ⟨by omega,by omega⟩))
 obtain⟨n,hn,LM,hnn⟩ :=uz hc
 rw [hnn] at hgr
 obtain⟨w0,hW0⟩ : ∃x,x= ((w.alloc (.cells #[.slice H.E.Y.a H.E.Y.l H.E.Y.c, .slice H.E.Z.a H.E.Z.l H.E.Z.c, .slice H.I.G.a H.I.G.l H.I.G.c, .slice H.I.O.a H.I.O.l H.I.O.c] 31)).alloc (.cells #[.slice none 0 0, .slice none 0 0, .slice none 0 0, .slice none 0 0] 31)) := ⟨_,rfl⟩
 have au : aB w0 (w.heap.size) [.slice H.E.Y.a H.E.Y.l H.E.Y.c, .slice H.E.Z.a H.E.Z.l H.E.Z.c, .slice H.I.G.a H.I.G.l H.I.G.c, .slice H.I.O.a H.I.O.l H.I.O.c]:=by
  rw [hW0]
  exact aB.alloc aB.nw _
 have ah : aB w0 (w.heap.size+1) [.slice none 0 0, .slice none 0 0, .slice none 0 0, .slice none 0 0]:=by
  rw [hW0]
  exact aB.nw
 have hB : Below w.heap.size w w0:=by
  rw [hW0]
  exact dJ
 go_enter Tryz.func99,Tryz.ntmps99
 go_wp2_with fail
 rw [←hW0]
 clear hW0
 have g_:=au.lt
 have iB:=ah.lt
 obtain⟨aD,aF,aR,aS,aL,aQ⟩ :=au.f4
 obtain⟨aj,ak,aJ,aK,ay,aI⟩ :=ah.f4
 have Ms:=Hid.aT (show jh x.I.G≤536870912 by have:=jT.2;unfold bX at this;omega)
 clear jT hs hok hp hl3 mW
 refine(hgr _ hB).mono ?_
 rintro e w1 ⟨fZ,Nn,rfl,iX,ku,u_,Ki,hb⟩
 have rP:=fun g hg=> (Ki g hg).1
 have Rc:=fun g hg=> (Ki g hg).2
 clear Ki
 have vg:=iX.lt
 have yU:=iQ ku
 replace au:=au.below hb
 replace ah:=ah.below hb
 replace hB:=hB.trans (hb.mono hB.size)
 have sz:=hb.size
 clear hb
 clear aD aF aR aS aL aQ
 obtain⟨aD,aF,aR,aS,aL,aQ⟩ :=au.f4
 clear aj ak aJ aK ay aI
 obtain⟨aj,ak,aJ,aK,ay,aI⟩ :=ah.f4
 clear hgr
 go_upto_region 2 with (fail)
 generalize hO : Obj.cells #[.slice fZ.Y.a fZ.Y.l fZ.Y.c, .slice fZ.Z.a fZ.Z.l fZ.Z.c] 26=O_
 replace au:=au.alloc O_
 replace ah:=ah.alloc O_
 replace iX:=iX.aH O_
 replace ku:=ku.aH O_
 replace hB:=hB.alloc hB.size O_
 have cB : aB (w1.alloc O_) w1.heap.size [.slice fZ.Y.a fZ.Y.l fZ.Y.c, .slice fZ.Z.a fZ.Z.l fZ.Z.c]:=hO ▸ aB.new _ _ _
 have oo:=cB.lt
 have sz : w1.heap.size≤ (w1.alloc O_).heap.size:=Nat.le_of_lt cB.lt
 generalize hG : (w1.alloc O_) =w2 at au ah iX ku hB cB oo sz⊢
 clear hG hO O_
 clear aD aF aR aS aL aQ
 obtain⟨aD,aF,aR,aS,aL,aQ⟩ :=au.f4
 clear aj ak aJ aK ay aI
 obtain⟨aj,ak,aJ,aK,ay,aI⟩ :=ah.f4
 obtain⟨dK,dL,eB,fP⟩ :=cB.f2
 go_upto_region 2 with (fail)
 go_cut [8] from 8 to 20 (fun v8 wx=> ∃ (go : Nat) (jM : aZ),v8= .pointer (some ⟨go,0,none⟩) ∧aB wx (w.heap.size) [.slice H.E.Y.a H.E.Y.l H.E.Y.c, .slice H.E.Z.a H.E.Z.l H.E.Z.c, .slice H.I.G.a H.I.G.l H.I.G.c, .slice H.I.O.a H.I.O.l H.I.O.c]∧aB wx (w.heap.size+1) [.slice none 0 0, .slice none 0 0, .slice none 0 0, .slice none 0 0]∧aB wx (w1.heap.size) [.slice fZ.Y.a fZ.Y.l fZ.Y.c, .slice fZ.Z.a fZ.Z.l fZ.Z.c]∧aB wx go [.slice fZ.Y.a fZ.Y.l fZ.Y.c, .slice fZ.Z.a fZ.Z.l fZ.Z.c, .slice jM.G.a jM.G.l jM.G.c, .slice jM.O.a jM.O.l jM.O.c]∧fA wx fZ (fI x.E p c) ∧bA FI 3 wx Nn.val (d_ p n) ∧dZ wx jM x.I∧ (∀g∈jM.foot,w2.heap.size≤g∧g≠go) ∧w2.heap.size≤go∧Below w.heap.size w wx∧w2.heap.size≤wx.heap.size)
 case first=>
  go_region_with (first| (go_at_call 153; (first| ((with_reducible refine(hcl _ hB).mono ?_);rintro e wq ⟨jM,rfl,bQ,fJ,hb⟩;have iD:=bQ.lt;replace au:=au.below hb;replace ah:=ah.below hb;replace cB:=cB.below hb;replace iX:=iX.step0 hb;replace ku:=ku.step0 hb;replace hB:=hB.trans (hb.mono hB.size);have sz:=hb.size; (try replace aN:=aN.below hb); (try replace aV:=aN.cell 0 _ rfl); (try replace aW:=aN.cell 1 _ rfl); (try replace bG:=aN.cell 2 _ rfl); (try replace bH:=aN.cell 3 _ rfl); (try replace bq:=aN.dn); (try replace bN:=aN.lt);clear hb;clear aD aF aR aS aL aQ;obtain⟨aD,aF,aR,aS,aL,aQ⟩ :=au.f4;clear aj ak aJ aK ay aI;obtain⟨aj,ak,aJ,aK,ay,aI⟩ :=ah.f4;clear dK dL eB fP;obtain⟨dK,dL,eB,fP⟩ :=cB.f2) | ((with_reducible refine(hcl _ hB.drew).mono ?_);rintro e wq ⟨jM,rfl,bQ,fJ,hb⟩;replace hb:=gq hb;replace fJ:=ji fJ;have iD:=bQ.lt;replace au:=au.below hb;replace ah:=ah.below hb;replace cB:=cB.below hb;replace iX:=iX.step0 hb;replace ku:=ku.step0 hb;replace hB:=hB.trans (hb.mono hB.size);have sz:=hb.size; (try replace aN:=aN.below hb); (try replace aV:=aN.cell 0 _ rfl); (try replace aW:=aN.cell 1 _ rfl); (try replace bG:=aN.cell 2 _ rfl); (try replace bH:=aN.cell 3 _ rfl); (try replace bq:=aN.dn); (try replace bN:=aN.lt);clear hb;clear aD aF aR aS aL aQ;obtain⟨aD,aF,aR,aS,aL,aQ⟩ :=au.f4;clear aj ak aJ aK ay aI;obtain⟨aj,ak,aJ,aK,ay,aI⟩ :=ah.f4;clear dK dL eB fP;obtain⟨dK,dL,eB,fP⟩ :=cB.f2) | ((with_reducible refine(hcl _ (hB.alloc hB.size _)).mono ?_);rintro e wq ⟨jM,rfl,bQ,fJ,hb⟩;simp only [World.size_alloc] at fJ;have iD:=bQ.lt;replace au:= (au.alloc _).below hb;replace ah:= (ah.alloc _).below hb;replace cB:= (cB.alloc _).below hb;replace iX:=iX.step hb;replace ku:=ku.step hb;replace hB:=eX hB hb hB.size;have sz:=hb.size;simp only [World.size_alloc] at sz;have aN:=aB.below (aB.new _ #[.slice none 0 0, .slice none 0 0, .slice none 0 0, .slice none 0 0] 31) hb;obtain⟨aV,aW,bG,bH,bq,bN⟩ :=aN.f4;clear hb;clear aD aF aR aS aL aQ;obtain⟨aD,aF,aR,aS,aL,aQ⟩ :=au.f4;clear aj ak aJ aK ay aI;obtain⟨aj,ak,aJ,aK,ay,aI⟩ :=ah.f4;clear dK dL eB fP;obtain⟨dK,dL,eB,fP⟩ :=cB.f2) | ((with_reducible refine(hcl _ (hB.alloc hB.size _).drew).mono ?_);rintro e wq ⟨jM,rfl,bQ,fJ,hb⟩;replace hb:=gq hb;replace fJ:=ji fJ;simp only [World.size_alloc] at fJ;have iD:=bQ.lt;replace au:= (au.alloc _).below hb;replace ah:= (ah.alloc _).below hb;replace cB:= (cB.alloc _).below hb;replace iX:=iX.step hb;replace ku:=ku.step hb;replace hB:=eX hB hb hB.size;have sz:=hb.size;simp only [World.size_alloc] at sz;have aN:=aB.below (aB.new _ #[.slice none 0 0, .slice none 0 0, .slice none 0 0, .slice none 0 0] 31) hb;obtain⟨aV,aW,bG,bH,bq,bN⟩ :=aN.f4;clear hb;clear aD aF aR aS aL aQ;obtain⟨aD,aF,aR,aS,aL,aQ⟩ :=au.f4;clear aj ak aJ aK ay aI;obtain⟨aj,ak,aJ,aK,ay,aI⟩ :=ah.f4;clear dK dL eB fP;obtain⟨dK,dL,eB,fP⟩ :=cB.f2))))
  all_goals
   go_wp2_with fail
   go_meet
   first|exact⟨_,jM,rfl,au.alloc _,ah.alloc _,cB.alloc _,aB.new _ _ _,iX.aH _,ku.aH _,bQ.aH _,fun g hg=> ⟨by have:=fJ g hg;omega,by have:=iD g hg;omega⟩,by omega,hB.alloc hB.size _,by simp<;>omega⟩ | (obtain⟨go,hgo,og⟩ :=aN.ad;rw [←hgo];exact⟨go,jM,rfl, ((((au.other (by omega) _).other (by omega) _).other (by omega) _).other (by omega) _), ((((ah.other (by omega) _).other (by omega) _).other (by omega) _).other (by omega) _), ((((cB.other (by omega) _).other (by omega) _).other (by omega) _).other (by omega) _), ((((og.set 0 _).set 1 _).set 2 _).set 3 _),iX.aM (F:= [go]) bW (fun g hg hm=>by simp only [List.mem_cons,List.not_mem_nil,or_false] at hm;have:=u_ g hg;have:=vg g hg;omega),ku.aM (F:= [go]) bW (fun g hg hm=>by simp only [List.mem_cons,List.not_mem_nil,or_false] at hm;have:=rP g hg;have:=yU g hg;omega),bQ.aM (F:= [go]) bW (fun g hg hm=>by simp only [List.mem_cons,List.not_mem_nil,or_false] at hm;have:=fJ g hg;have:=iD g hg;omega),fun g hg=> ⟨by have:=fJ g hg;omega,by have:=fJ g hg;have:=iD g hg;omega⟩,by omega,Below.trans hB dQ,by simp<;>omega⟩)
 case rest=>
  clear au aL aQ aD aF aR aS
  clear ah ay aI aj ak aJ aK
  clear cB eB fP dK dL
  clear iX
  clear ku
  clear hB
  obtain⟨go,jM,rfl,au,ah,cB,aN,iX,ku,bQ,wB,H_,hB,sz⟩ :=hcut
  have fJ:=fun g hg=> (wB g hg).1
  have rz:=fun g hg=> (wB g hg).2
  have iD:=bQ.lt
  clear wB
  have gy:=aN.lt
  obtain⟨aD,aF,aR,aS,aL,aQ⟩ :=au.f4
  obtain⟨aj,ak,aJ,aK,ay,aI⟩ :=ah.f4
  obtain⟨dK,dL,eB,fP⟩ :=cB.f2
  obtain⟨aV,aW,bG,bH,bq,bN⟩ :=aN.f4
  clear hcl
  have hsl:=pV p n
  obtain⟨av,nv,bv⟩ :=Nn
  have hln:=fE.len_ (a:=av) (n:=nv) (c:=bv) ku.rd'
  rw [hsl] at hln
  obtain rfl : nv=n:=hln.1
  clear hln
  obtain⟨gv,cv,hvv,hgv⟩ :=bA.kN (v:= .slice av nv bv) ku (by rw [hsl];have:=Hg.out;omega)
  injection hvv with i1 i2 i3
  subst i1
  clear i2 i3 cv
  have hnb : nv≤bv:=by
   obtain⟨_,cq,Mt,hnb,_⟩ :=ku.rd'
   injection Mt with _ _ i3
   subst i3
   rw [hsl] at hnb
   exact hnb
  obtain⟨⟨A1,n1,p1⟩,T1, ⟨A2,n2,p2⟩,T2⟩ :=jM
  obtain⟨g1,c1,hv1,hg1⟩ :=dR.jV (v:= .slice A1 n1 p1) bQ.G (by rw [H3.out];decide)
  injection hv1 with i1 i2 i3
  subst i1 i2 i3
  obtain⟨lg,sI⟩ : ∃q,x.I.G[c]? =some q:= ⟨_,List.getElem?_eq_getElem (by rw [H3.out];exact hc)⟩
  have HG:=Hid.aT sI
  have NS : lg.length≤536870912:=Nat.le_trans (mK (List.mem_of_getElem? sI)) Ms.out
  clear sI
  obtain⟨sg,pz⟩ : ∃q,T1[c]? =some q:= ⟨_,List.getElem?_eq_getElem (by rw [bQ.G.len,H3.out];exact hc)⟩
  have ing:=bQ.G.inner c sg _ pz HG.out
  have pg:=bQ.G.outer.cell_ (j:=0) pz (by decide)
  simp only [FS,Nat.mul_one,Nat.add_zero] at pg
  obtain⟨Ag,cg,FK,_⟩ :=ing.rd'
  obtain⟨ag,ng,bg⟩ :=sg
  injection FK with k1 k2 k3
  subst k1 k2 k3
  have zR : _=some (Value.slice ag lg.length bg) :=pg
  clear pg
  have ff:=bQ.G.outer.eD c
  have HV:=Hid.aT pz
  have hkk : c<x.I.G.length:=by rw [H3.out];exact hc
  have CQ:=fJ g1 (aZ.aX.2 (.inl (cZ.2 (.inl rfl))))
  have hn1 : 1≤nv:=by have:=Hg.out;omega
  have p9:=Hid.aT (dR.head_ne (g:=g1) (n:=x.I.G.length) (c:=p1) bQ.G pz)
  have qU : g1<wc.heap.size:=hg1
  have oP:=Hid.aT (show ∀b∈cu (SV.val ⟨ag,lg.length,bg⟩),b∈dH (.slice (some ⟨g1,0,none⟩) x.I.G.length p1) T1 from fun b hb=>cZ.2 (.inr ⟨_,List.mem_of_getElem? HV.out,bV.1 hb⟩))
  have jX:=Hid.aT (show ∀b∈cu (SV.val ⟨ag,lg.length,bg⟩),b∈aZ.foot ⟨⟨some ⟨g1,0,none⟩,x.I.G.length,p1⟩,T1, ⟨A2,n2,p2⟩,T2⟩ from fun b hb=>aZ.aX.2 (.inl (oP.out b hb)))
  have ne1:=rz g1 (aZ.aX.2 (.inl (cZ.2 (.inl rfl))))
  have Rf : gv<w1.heap.size:=yU gv (bY.2 rfl)
  have xI : g1≠w.heap.size+1:=by omega
  have xJ : w.heap.size+1≠g1:=by omega
  have AZ : g1≠go:=by omega
  have A8 : go≠g1:=by omega
  have NT : g1≠gv:=by omega
  have NU : gv≠g1:=by omega
  have hv0 : (d_ p nv)[0]? =some ((p * 4 : Nat) : Int) :=by unfold d_;rw [List.getElem?_map,List.getElem?_range (by omega)];rfl
  have JA:=Hid.aT hv0
  clear hv0
  have HD : Hid ((mH x p c).I= {x.I with G:=x.I.G.set c (lg++ (d_ p nv).drop 1)}) :=by show _=_;unfold mH;simp only [];rw [hnn,List.getD_eq_getElem?_getD,HG.out];rfl
  clear Hg hn hnn au aD aF aR aS aL aQ cB dK dL eB fP
  obtain⟨wo,rfl⟩ : ∃wo : World,wo=wc:= ⟨_,rfl⟩
  have hro : bA FI 3 wo.drew (.slice ag lg.length bg) lg:=bA.keep (show bA FI 3 wo (.slice ag lg.length bg) lg from ing) (fun _ _=>rfl)
  go_upto_region 5 with (fail)
  go_cut [] from 21 to 40 (fun wx=> ∃S9 : SV,aB wx (w.heap.size+1) [.slice none 0 0, .slice none 0 0, .slice none 0 0, .slice none 0 0]∧aB wx go [.slice fZ.Y.a fZ.Y.l fZ.Y.c, .slice fZ.Z.a fZ.Z.l fZ.Z.c, .slice (some ⟨g1,0,none⟩) x.I.G.length p1, .slice A2 n2 p2]∧fA wx fZ (fI x.E p c) ∧dZ wx ⟨⟨some ⟨g1,0,none⟩,x.I.G.length,p1⟩,T1.set c S9, ⟨A2,n2,p2⟩,T2⟩ (mH x p c).I∧wx.cell? ⟨gv,0,none⟩ =some (.int .i64 ((p * 4 : Nat) : Int)) ∧ (∀g∈aZ.foot ⟨⟨some ⟨g1,0,none⟩,x.I.G.length,p1⟩,T1.set c S9, ⟨A2,n2,p2⟩,T2⟩,w2.heap.size≤g∧g≠go) ∧Below w.heap.size w wx∧wo.heap.size≤wx.heap.size)
  case first=>
   rename_i J9 K9 FP FQ
   by_cases hb1 : bv=1
   ·subst hb1
    obtain rfl : nv=1:=by omega
    have hlit : fE FI wo.drew wo.drew.heap.size (.slice (some ⟨gv,0,none⟩) (1 - 1) (1 - 1)) ((d_ p 1).drop 1) := ⟨_,0,rfl,by simp [d_],by simp [maxLen],fun h=>absurd (by simp [d_]) h⟩
    have hn0 : ¬ ((1 : Int) =0) :=by omega
    have hdl : ((d_ p 1).drop 1).length=1 - 1:=by rw [List.length_drop,hsl]
    have hsz : lg.length+ ((d_ p 1).drop 1).length≤1073741824:=by rw [hdl];omega
    go_region_law (refine jo Tryz.stInt rfl (.tmp 35) (.tmp 37) rfl (v:= .slice ag lg.length bg) (y:= .slice (some ⟨gv,0,none⟩) (1 - 1) (1 - 1)) (l:=lg) (m:= (d_ p 1).drop 1) (by simp [Act.eval]) (by simp [Act.eval]) hro hlit hsz ?_;intro v9 w9 qp qw lD;obtain⟨A9,c9,qy,_⟩ :=qp.rd';rw [List.length_append,hdl] at qy;subst qy;have hx:=aY.jP qw;have FH : w9.frozen? ⟨g1,c,none⟩ =false:= (hx.frozen g1 c qU p9.out).trans ff;have FJ : w9.cell? ⟨g1,c,none⟩ =some (Value.slice ag lg.length bg) := (hx.cell g1 c qU p9.out).trans zR;replace ah:=ah.drew.aM hx (fun hm=>by have:=fJ _ (jX.out _ hm);omega);clear aj ak aJ aK ay aI;obtain⟨aj,ak,aJ,aK,ay,aI⟩ :=ah.f4;replace aN:=aN.drew.aM hx (fun hm=>by have:=fJ _ (jX.out _ hm);have:=rz _ (jX.out _ hm);omega);clear aV aW bG bH bq bN;obtain⟨aV,aW,bG,bH,bq,bN⟩ :=aN.f4;replace ku:= (bA.keep (w':=wo.drew) (show bA FI 3 wo (.slice (some ⟨gv,0,none⟩) 1 1) (d_ p 1) from ku) (fun _ _=>rfl)).aM hx (fun g hg hm=>by have:=fJ _ (jX.out _ hm);have:=yU g hg;omega);have Af:=ku.cell_ JA.out FI.pos;simp only [FI,Nat.mul_one,Nat.add_zero] at Af)
    all_goals
     refine FQ _ _ (Met.intro (FP _ _ ?_))
     (repeat apply Exists.intro)
     refine⟨?_,rfl⟩
     have oD : dZ wo.drew ⟨⟨some ⟨g1,0,none⟩,x.I.G.length,p1⟩,T1, ⟨A2,n2,p2⟩,T2⟩ x.I:=bQ.keep (fun _ _=>rfl)
     have hN:=dR.nM (s':= ⟨A9,lg.length+ (1 - 1),c9⟩) oD.G HV.out qp qw lD
     change dR _ _ _ (World.setCell _ _ (.slice A9 (lg.length+ (1 - 1)) c9)) _ _ _ at hN
     have hO : dR FI 3 94 _ _ _ x.I.O:= (oD.O.aM hx (fun b hb hm=>bQ.iV b (oP.out b hm) hb)).aM (F:= [g1]) ((aY.refl _ w9).gD (g:=g1) (i:=c) (by simp) (.slice A9 (lg.length+ (1 - 1)) c9)) (fun b hb hm=>by simp only [List.mem_cons,List.not_mem_nil,or_false] at hm;subst hm;exact bQ.iV b (cZ.2 (.inl rfl)) hb)
     have uO:= (oD.O).lt
     have Gb : Below w.heap.size w (w9.setCell ⟨g1,c,none⟩ (.slice A9 (lg.length+ (1 - 1)) c9)) := (hB.drew.trans (hx.below hB.size (fun g hm=>by have:=fJ _ (jX.out _ hm);omega))).setCell (show w.heap.size≤g1 by omega) _
     have Mv : wo.heap.size≤w9.heap.size:=hx.size
     have Gc:= ((iX.keep (w':=wo.drew) (fun _ _=>rfl)).aM hx (fun g hg hm=>by have:=vg g hg;have:=fJ _ (jX.out _ hm);omega)).aM (F:= [g1]) ((aY.refl _ w9).gD (g:=g1) (i:=c) (by simp) (.slice A9 (lg.length+ (1 - 1)) c9)) (fun g hg hm=>by simp only [List.mem_cons,List.not_mem_nil,or_false] at hm;have:=vg g hg;omega)
     refine⟨⟨A9,lg.length+ (1 - 1),c9⟩,ah.other (by omega) _,aN.other (by omega) _,Gc,by rw [HD.out];exact⟨hN,hO,fun b hb hm=>by rcases iU hb with hb|hb; (exact bQ.iV b hb hm); (rcases iy lD b hb with hb|hb; (exact bQ.iV b (oP.out b hb) hm); (have:=uO b hm;omega))⟩,by simp [Af,go_sem],fun g hg=> ?_,Gb,by simp;exact Mv⟩
     rcases aZ.aX.1 hg with hg|hg
     ·rcases iU hg with hg|hg
      ·have h1 : g∈aZ.foot ⟨⟨some ⟨g1,0,none⟩,x.I.G.length,p1⟩,T1, ⟨A2,n2,p2⟩,T2⟩ :=aZ.aX.2 (.inl hg)
       exact⟨fJ g h1,rz g h1⟩
      ·rcases iy lD g hg with hg|hg
       ·exact⟨fJ g (jX.out g hg),rz g (jX.out g hg)⟩
       ·have h2 : wo.drew.heap.size=wo.heap.size:=rfl
        exact⟨by omega,by omega⟩
     ·have h1 : g∈aZ.foot ⟨⟨some ⟨g1,0,none⟩,x.I.G.length,p1⟩,T1, ⟨A2,n2,p2⟩,T2⟩ :=aZ.aX.2 (.inr hg)
      exact⟨fJ g h1,rz g h1⟩
   ·have hi1 : (1 : Int) ≤ (nv : Int) :=by omega
    have hlit : fE FI wo.drew wo.drew.heap.size (.slice (some ⟨gv,1,none⟩) (nv - 1) (bv - 1)) ((d_ p nv).drop 1) :=by
     have:=fE.Bt (bA.keep (w':=wo.drew) (show bA FI 3 wo (.slice (some ⟨gv,0,none⟩) nv bv) (d_ p nv) from ku) (fun _ _=>rfl)).rd' 1 (nv - 1) (by rw [hsl];omega)
     rw [List.take_of_length_le (by rw [List.length_drop,hsl];exact Nat.le_refl _)] at this
     simpa using this
    have hn0 : ¬ ((nv : Int) =0) :=by omega
    have hdl : ((d_ p nv).drop 1).length=nv - 1:=by rw [List.length_drop,hsl]
    have hsz : lg.length+ ((d_ p nv).drop 1).length≤1073741824:=by rw [hdl];omega
    go_region_law (refine jo Tryz.stInt rfl (.tmp 35) (.tmp 37) rfl (v:= .slice ag lg.length bg) (y:= .slice (some ⟨gv,1,none⟩) (nv - 1) (bv - 1)) (l:=lg) (m:= (d_ p nv).drop 1) (by simp [Act.eval]) (by simp [Act.eval]) hro hlit hsz ?_;intro v9 w9 qp qw lD;obtain⟨A9,c9,qy,_⟩ :=qp.rd';rw [List.length_append,hdl] at qy;subst qy;have hx:=aY.jP qw;have FH : w9.frozen? ⟨g1,c,none⟩ =false:= (hx.frozen g1 c qU p9.out).trans ff;have FJ : w9.cell? ⟨g1,c,none⟩ =some (Value.slice ag lg.length bg) := (hx.cell g1 c qU p9.out).trans zR;replace ah:=ah.drew.aM hx (fun hm=>by have:=fJ _ (jX.out _ hm);omega);clear aj ak aJ aK ay aI;obtain⟨aj,ak,aJ,aK,ay,aI⟩ :=ah.f4;replace aN:=aN.drew.aM hx (fun hm=>by have:=fJ _ (jX.out _ hm);have:=rz _ (jX.out _ hm);omega);clear aV aW bG bH bq bN;obtain⟨aV,aW,bG,bH,bq,bN⟩ :=aN.f4;replace ku:= (bA.keep (w':=wo.drew) (show bA FI 3 wo (.slice (some ⟨gv,0,none⟩) nv bv) (d_ p nv) from ku) (fun _ _=>rfl)).aM hx (fun g hg hm=>by have:=fJ _ (jX.out _ hm);have:=yU g hg;omega);have Af:=ku.cell_ JA.out FI.pos;simp only [FI,Nat.mul_one,Nat.add_zero] at Af)
    all_goals
     refine FQ _ _ (Met.intro (FP _ _ ?_))
     (repeat apply Exists.intro)
     refine⟨?_,rfl⟩
     have oD : dZ wo.drew ⟨⟨some ⟨g1,0,none⟩,x.I.G.length,p1⟩,T1, ⟨A2,n2,p2⟩,T2⟩ x.I:=bQ.keep (fun _ _=>rfl)
     have hN:=dR.nM (s':= ⟨A9,lg.length+ (nv - 1),c9⟩) oD.G HV.out qp qw lD
     change dR _ _ _ (World.setCell _ _ (.slice A9 (lg.length+ (nv - 1)) c9)) _ _ _ at hN
     have hO : dR FI 3 94 _ _ _ x.I.O:= (oD.O.aM hx (fun b hb hm=>bQ.iV b (oP.out b hm) hb)).aM (F:= [g1]) ((aY.refl _ w9).gD (g:=g1) (i:=c) (by simp) (.slice A9 (lg.length+ (nv - 1)) c9)) (fun b hb hm=>by simp only [List.mem_cons,List.not_mem_nil,or_false] at hm;subst hm;exact bQ.iV b (cZ.2 (.inl rfl)) hb)
     have uO:= (oD.O).lt
     have Gb : Below w.heap.size w (w9.setCell ⟨g1,c,none⟩ (.slice A9 (lg.length+ (nv - 1)) c9)) := (hB.drew.trans (hx.below hB.size (fun g hm=>by have:=fJ _ (jX.out _ hm);omega))).setCell (show w.heap.size≤g1 by omega) _
     have Mv : wo.heap.size≤w9.heap.size:=hx.size
     have Gc:= ((iX.keep (w':=wo.drew) (fun _ _=>rfl)).aM hx (fun g hg hm=>by have:=vg g hg;have:=fJ _ (jX.out _ hm);omega)).aM (F:= [g1]) ((aY.refl _ w9).gD (g:=g1) (i:=c) (by simp) (.slice A9 (lg.length+ (nv - 1)) c9)) (fun g hg hm=>by simp only [List.mem_cons,List.not_mem_nil,or_false] at hm;have:=vg g hg;omega)
     refine⟨⟨A9,lg.length+ (nv - 1),c9⟩,ah.other (by omega) _,aN.other (by omega) _,Gc,by rw [HD.out];exact⟨hN,hO,fun b hb hm=>by rcases iU hb with hb|hb; (exact bQ.iV b hb hm); (rcases iy lD b hb with hb|hb; (exact bQ.iV b (oP.out b hb) hm); (have:=uO b hm;omega))⟩,by simp [Af,go_sem],fun g hg=> ?_,Gb,by simp;exact Mv⟩
     rcases aZ.aX.1 hg with hg|hg
     ·rcases iU hg with hg|hg
      ·have h1 : g∈aZ.foot ⟨⟨some ⟨g1,0,none⟩,x.I.G.length,p1⟩,T1, ⟨A2,n2,p2⟩,T2⟩ :=aZ.aX.2 (.inl hg)
       exact⟨fJ g h1,rz g h1⟩
      ·rcases iy lD g hg with hg|hg
       ·exact⟨fJ g (jX.out g hg),rz g (jX.out g hg)⟩
       ·have h2 : wo.drew.heap.size=wo.heap.size:=rfl
        exact⟨by omega,by omega⟩
     ·have h1 : g∈aZ.foot ⟨⟨some ⟨g1,0,none⟩,x.I.G.length,p1⟩,T1, ⟨A2,n2,p2⟩,T2⟩ :=aZ.aX.2 (.inr hg)
      exact⟨fJ g h1,rz g h1⟩
  case rest=>
   clear ah aN aj ak aJ aK aV aW bG bH ay bq aI bN iX bQ hB hro ing zR ff iD fJ rz
   obtain⟨S9,ah,aN,iX,bQ,pv,fl,hB,Rh⟩ :=hcut
   obtain⟨aj,ak,aJ,aK,ay,aI⟩ :=ah.f4
   obtain⟨aV,aW,bG,bH,bq,bN⟩ :=aN.f4
   have hi0 : 0<nv:=hn1
   have Pg:=rP gv (bY.2 rfl)
   have NV : gv≠w.heap.size+1:=by omega
   have NW : w.heap.size+1≠gv:=by omega
   go_wp2_with fail
   go_region
   all_goals
    go_wp2_with fail
    refine bodyPost_ret (v:= .tuple #[.agg #[.slice fZ.Y.a fZ.Y.l fZ.Y.c, .slice fZ.Z.a fZ.Z.l fZ.Z.c, .slice (some ⟨g1,0,none⟩) x.I.G.length p1, .slice A2 n2 p2], .int .i64 ((p * 4 : Nat) : Int)]) (by simp [results,Tryz.results99,go_sem,aj,ak,aJ,aK]) rfl ⟨⟨fZ, ⟨⟨some ⟨g1,0,none⟩,x.I.G.length,p1⟩,T1.set c S9, ⟨A2,n2,p2⟩,T2⟩⟩,rfl, ⟨iX.aM (F:= [w.heap.size+1]) bW (fun g hg hm=>by simp only [List.mem_cons,List.not_mem_nil,or_false] at hm;have:=u_ g hg;omega),bQ.aM (F:= [w.heap.size+1]) bW (fun g hg hm=>by simp only [List.mem_cons,List.not_mem_nil,or_false] at hm;have:= (fl g hg).1;omega),fun b hb hm=>by have:=vg b hb;have:= (fl b hm).1;omega⟩,fun b hb=>by rcases bP.aX.1 hb with hb|hb; (have:=u_ b hb;omega); (have:= (fl b hb).1;omega),Below.trans hB dQ⟩
end Go.Proofs.YtkmggglljkmjoaaGreat
