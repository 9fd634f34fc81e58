/-
  Several texts in one: lemmas and contracts that the claim rests on.
-/
import Derived.Test.YtkmggglljkmjoaaUHNoReuse2
import Derived.Test.YtkmggglljkmjoaaUHNoReuse1
import Derived.Deep.QuietTactic
import Derived.BigQuiet
import Derived.Deep.LoopGhost
import Derived.Deep.RegionHeld3
import Derived.WalkSpells
import Derived.Laws.Cover3
import Derived.Test.YtkmggglljkmjoaaUHNoReuse18
import Derived.Test.YtkmggglljkmjoaaUHNoReuse21
namespace Go.Proofs.Ytkmggglljkmjoaa
open Go.RowKit
set_option maxRecDepth 100000 in
set_option maxHeartbeats 8000000 in
theorem yg (w : World)(H : bY)(x : Mem)(p c : Nat)(h : gD w w.heap.size H x)(hs : dS x≤536870912)(hok : bX x=true)(hc : c<3)(hp : idxOf (fun y=>y == -1) x.E.Z= (p : Int)) :
  Calls Try.prog 24 #[.agg #[.slice H.E.Y.a H.E.Y.l H.E.Y.c, .slice H.E.Z.a H.E.Z.l H.E.Z.c, .slice H.I.G.a H.I.G.l H.I.G.c, .slice H.I.O.a H.I.O.l H.I.O.c], .int .i64 c] w fun e w'=> ∃H' : bY,e= .returned (.tuple #[.agg #[.slice H'.E.Y.a H'.E.Y.l H'.E.Y.c, .slice H'.E.Z.a H'.E.Z.l H'.E.Z.c, .slice H'.I.G.a H'.I.G.l H'.I.G.c, .slice H'.I.O.a H'.I.O.l H'.I.O.c], .int .i64 ((p * 4 : Nat) : Int)]) ∧eX w' H' (kL x p c) ∧ (∀g∈H'.foot,w.heap.size≤g) ∧Below w.heap.size w w':=by
 have iO : iK x.E≤536870912∧eU x.I≤536870912:=by unfold dS at hs;omega
 have hgr:=fun (W : World) (hW : Below w.heap.size w W) =>zQ W H.E x.E p c (dH h.E hW) iO.1 (l5 hok) hc hp
 have hcl:=fun (W : World) (hW : Below w.heap.size w W) =>gN W H.I x.I (dP h.I hW) iO.2
 obtain⟨hl3,mD⟩ :=jC (iX hok)
 have H3:=Hid.aD hl3
 have CK:=Hid.aD (pK (c:= (c : Int)) (bD.2 ⟨by omega,by omega⟩))
 obtain⟨n,hn,EL,hnn⟩ :=rJ hc
 rw [hnn] at hgr
 obtain⟨w0,hW0⟩ : ∃x,x= ((w.alloc (.cells #[.slice H.E.Y.a H.E.Y.l H.E.Y.c, .slice H.E.Z.a H.E.Z.l H.E.Z.c, .slice H.I.G.a H.I.G.l H.I.G.c, .slice H.I.O.a H.I.O.l H.I.O.c] 31)).alloc (.cells #[.slice none 0 0, .slice none 0 0, .slice none 0 0, .slice none 0 0] 31)) := ⟨_,rfl⟩
 have aC : aJ w0 (w.heap.size) [.slice H.E.Y.a H.E.Y.l H.E.Y.c, .slice H.E.Z.a H.E.Z.l H.E.Z.c, .slice H.I.G.a H.I.G.l H.I.G.c, .slice H.I.O.a H.I.O.l H.I.O.c]:=by
  rw [hW0]
  exact aJ.alloc aJ.nw _
 have au : aJ w0 (w.heap.size+1) [.slice none 0 0, .slice none 0 0, .slice none 0 0, .slice none 0 0]:=by
  rw [hW0]
  exact aJ.nw
 have hB : Below w.heap.size w w0:=by
  rw [hW0]
  exact dn
 go_enter Try.func24,Try.ntmps24
 go_wp2_with fail
 rw [←hW0]
 clear hW0
 have jy:=aC.lt
 have ji:=au.lt
 obtain⟨aF,aG,aQ,aR,aK,aV⟩ :=aC.f4
 obtain⟨aA,aB,aL,aM,aI,aU⟩ :=au.f4
 have Fg:=Hid.aD (show iJ x.I.G≤536870912 by have:=iO.2;unfold eU at this;omega)
 clear iO hs hok hp hl3 mD
 refine(hgr _ hB).mono ?_
 rintro e w1 ⟨dD,DR,rfl,bC,jP,gF,AY,hb⟩
 have DT:=fun g hg=> (AY g hg).1
 have GX:=fun g hg=> (AY g hg).2
 clear AY
 have jO:=bC.lt
 have BG:=dQ jP
 replace aC:=aC.below hb
 replace au:=au.below hb
 replace hB:=hB.trans (hb.mono hB.size)
 have sz:=hb.size
 clear hb
 clear aF aG aQ aR aK aV
 obtain⟨aF,aG,aQ,aR,aK,aV⟩ :=aC.f4
 clear aA aB aL aM aI aU
 obtain⟨aA,aB,aL,aM,aI,aU⟩ :=au.f4
 clear hgr
 go_upto_region 2 with (fail)
 generalize hO : Obj.cells #[.slice dD.Y.a dD.Y.l dD.Y.c, .slice dD.Z.a dD.Z.l dD.Z.c] 26=O_
 replace aC:=aC.alloc O_
 replace au:=au.alloc O_
 replace bC:=bC.aN O_
 replace jP:=jP.aN O_
 replace hB:=hB.alloc hB.size O_
 have bR : aJ (w1.alloc O_) w1.heap.size [.slice dD.Y.a dD.Y.l dD.Y.c, .slice dD.Z.a dD.Z.l dD.Z.c]:=hO ▸ aJ.new _ _ _
 have l6:=bR.lt
 have sz : w1.heap.size≤ (w1.alloc O_).heap.size:=Nat.le_of_lt bR.lt
 generalize hG : (w1.alloc O_) =w2 at aC au bC jP hB bR l6 sz⊢
 clear hG hO O_
 clear aF aG aQ aR aK aV
 obtain⟨aF,aG,aQ,aR,aK,aV⟩ :=aC.f4
 clear aA aB aL aM aI aU
 obtain⟨aA,aB,aL,aM,aI,aU⟩ :=au.f4
 obtain⟨bZ,b_,dF,dX⟩ :=bR.f2
 go_upto_region 2 with (fail)
 go_cut [8] from 8 to 20 (fun v8 wx=> ∃ (go : Nat) (fQ : aY),v8= .pointer (some ⟨go,0,none⟩) ∧aJ wx (w.heap.size) [.slice H.E.Y.a H.E.Y.l H.E.Y.c, .slice H.E.Z.a H.E.Z.l H.E.Z.c, .slice H.I.G.a H.I.G.l H.I.G.c, .slice H.I.O.a H.I.O.l H.I.O.c]∧aJ wx (w.heap.size+1) [.slice none 0 0, .slice none 0 0, .slice none 0 0, .slice none 0 0]∧aJ wx (w1.heap.size) [.slice dD.Y.a dD.Y.l dD.Y.c, .slice dD.Z.a dD.Z.l dD.Z.c]∧aJ wx go [.slice dD.Y.a dD.Y.l dD.Y.c, .slice dD.Z.a dD.Z.l dD.Z.c, .slice fQ.G.a fQ.G.l fQ.G.c, .slice fQ.O.a fQ.O.l fQ.O.c]∧eT wx dD (dR x.E p c) ∧bF FI 3 wx DR.val (dN p n) ∧dW wx fQ x.I∧ (∀g∈fQ.foot,w2.heap.size≤g∧g≠go) ∧w2.heap.size≤go∧Below w.heap.size w wx∧w2.heap.size≤wx.heap.size)
 case first=>
  go_region_with (first| (go_at_call 38; (first| ((with_reducible refine(hcl _ hB).mono ?_);rintro e wq ⟨fQ,rfl,bf,dB,hb⟩;have iG:=bf.lt;replace aC:=aC.below hb;replace au:=au.below hb;replace bR:=bR.below hb;replace bC:=bC.step0 hb;replace jP:=jP.step0 hb;replace hB:=hB.trans (hb.mono hB.size);have sz:=hb.size; (try replace ay:=ay.below hb); (try replace aO:=ay.cell 0 _ rfl); (try replace aP:=ay.cell 1 _ rfl); (try replace bA:=ay.cell 2 _ rfl); (try replace bB:=ay.cell 3 _ rfl); (try replace aX:=ay.fP); (try replace bJ:=ay.lt);clear hb;clear aF aG aQ aR aK aV;obtain⟨aF,aG,aQ,aR,aK,aV⟩ :=aC.f4;clear aA aB aL aM aI aU;obtain⟨aA,aB,aL,aM,aI,aU⟩ :=au.f4;clear bZ b_ dF dX;obtain⟨bZ,b_,dF,dX⟩ :=bR.f2) | ((with_reducible refine(hcl _ hB.drew).mono ?_);rintro e wq ⟨fQ,rfl,bf,dB,hb⟩;replace hb:=eY hb;replace dB:=iA dB;have iG:=bf.lt;replace aC:=aC.below hb;replace au:=au.below hb;replace bR:=bR.below hb;replace bC:=bC.step0 hb;replace jP:=jP.step0 hb;replace hB:=hB.trans (hb.mono hB.size);have sz:=hb.size; (try replace ay:=ay.below hb); (try replace aO:=ay.cell 0 _ rfl); (try replace aP:=ay.cell 1 _ rfl); (try replace bA:=ay.cell 2 _ rfl); (try replace bB:=ay.cell 3 _ rfl); (try replace aX:=ay.fP); (try replace bJ:=ay.lt);clear hb;clear aF aG aQ aR aK aV;obtain⟨aF,aG,aQ,aR,aK,aV⟩ :=aC.f4;clear aA aB aL aM aI aU;obtain⟨aA,aB,aL,aM,aI,aU⟩ :=au.f4;clear bZ b_ dF dX;obtain⟨bZ,b_,dF,dX⟩ :=bR.f2) | ((with_reducible refine(hcl _ (hB.alloc hB.size _)).mono ?_);rintro e wq ⟨fQ,rfl,bf,dB,hb⟩;simp only [World.size_alloc] at dB;have iG:=bf.lt;replace aC:= (aC.alloc _).below hb;replace au:= (au.alloc _).below hb;replace bR:= (bR.alloc _).below hb;replace bC:=bC.step hb;replace jP:=jP.step hb;replace hB:=eF hB hb hB.size;have sz:=hb.size;simp only [World.size_alloc] at sz;have ay:=aJ.below (aJ.new _ #[.slice none 0 0, .slice none 0 0, .slice none 0 0, .slice none 0 0] 31) hb;obtain⟨aO,aP,bA,bB,aX,bJ⟩ :=ay.f4;clear hb;clear aF aG aQ aR aK aV;obtain⟨aF,aG,aQ,aR,aK,aV⟩ :=aC.f4;clear aA aB aL aM aI aU;obtain⟨aA,aB,aL,aM,aI,aU⟩ :=au.f4;clear bZ b_ dF dX;obtain⟨bZ,b_,dF,dX⟩ :=bR.f2) | ((with_reducible refine(hcl _ (hB.alloc hB.size _).drew).mono ?_);rintro e wq ⟨fQ,rfl,bf,dB,hb⟩;replace hb:=eY hb;replace dB:=iA dB;simp only [World.size_alloc] at dB;have iG:=bf.lt;replace aC:= (aC.alloc _).below hb;replace au:= (au.alloc _).below hb;replace bR:= (bR.alloc _).below hb;replace bC:=bC.step hb;replace jP:=jP.step hb;replace hB:=eF hB hb hB.size;have sz:=hb.size;simp only [World.size_alloc] at sz;have ay:=aJ.below (aJ.new _ #[.slice none 0 0, .slice none 0 0, .slice none 0 0, .slice none 0 0] 31) hb;obtain⟨aO,aP,bA,bB,aX,bJ⟩ :=ay.f4;clear hb;clear aF aG aQ aR aK aV;obtain⟨aF,aG,aQ,aR,aK,aV⟩ :=aC.f4;clear aA aB aL aM aI aU;obtain⟨aA,aB,aL,aM,aI,aU⟩ :=au.f4;clear bZ b_ dF dX;obtain⟨bZ,b_,dF,dX⟩ :=bR.f2))))
  all_goals
   go_wp2_with fail
   go_meet
   first|exact⟨_,fQ,rfl,aC.alloc _,au.alloc _,bR.alloc _,aJ.new _ _ _,bC.aN _,jP.aN _,bf.aN _,fun g hg=> ⟨by have:=dB g hg;omega,by have:=iG g hg;omega⟩,by omega,hB.alloc hB.size _,by simp<;>omega⟩ | (obtain⟨go,hgo,kT⟩ :=ay.ad;rw [←hgo];exact⟨go,fQ,rfl, ((((aC.other (by omega) _).other (by omega) _).other (by omega) _).other (by omega) _), ((((au.other (by omega) _).other (by omega) _).other (by omega) _).other (by omega) _), ((((bR.other (by omega) _).other (by omega) _).other (by omega) _).other (by omega) _), ((((kT.set 0 _).set 1 _).set 2 _).set 3 _),bC.bn (F:= [go]) bV (fun g hg hm=>by simp only [List.mem_cons,List.not_mem_nil,or_false] at hm;have:=gF g hg;have:=jO g hg;omega),jP.bn (F:= [go]) bV (fun g hg hm=>by simp only [List.mem_cons,List.not_mem_nil,or_false] at hm;have:=DT g hg;have:=BG g hg;omega),bf.bn (F:= [go]) bV (fun g hg hm=>by simp only [List.mem_cons,List.not_mem_nil,or_false] at hm;have:=dB g hg;have:=iG g hg;omega),fun g hg=> ⟨by have:=dB g hg;omega,by have:=dB g hg;have:=iG g hg;omega⟩,by omega,Below.trans hB fJ,by simp<;>omega⟩)
 case rest=>
  clear aC aK aV aF aG aQ aR
  clear au aI aU aA aB aL aM
  clear bR dF dX bZ b_
  clear bC
  clear jP
  clear hB
  obtain⟨go,fQ,rfl,aC,au,bR,ay,bC,jP,bf,nG,sM,hB,sz⟩ :=hcut
  have dB:=fun g hg=> (nG g hg).1
  have jR:=fun g hg=> (nG g hg).2
  have iG:=bf.lt
  clear nG
  have iF:=ay.lt
  obtain⟨aF,aG,aQ,aR,aK,aV⟩ :=aC.f4
  obtain⟨aA,aB,aL,aM,aI,aU⟩ :=au.f4
  obtain⟨bZ,b_,dF,dX⟩ :=bR.f2
  obtain⟨aO,aP,bA,bB,aX,bJ⟩ :=ay.f4
  clear hcl
  have hsl:=rz p n
  obtain⟨av,nv,bv⟩ :=DR
  have hln:=dz.len_ (a:=av) (n:=nv) (c:=bv) jP.rd'
  rw [hsl] at hln
  obtain rfl : nv=n:=hln.1
  clear hln
  obtain⟨gv,cv,hvv,hgv⟩ :=bF.kS (v:= .slice av nv bv) jP (by rw [hsl];have:=CK.out;omega)
  injection hvv with i1 i2 i3
  subst i1
  clear i2 i3 cv
  have hnb : nv≤bv:=by
   obtain⟨_,cq,Fh,hnb,_⟩ :=jP.rd'
   injection Fh with _ _ i3
   subst i3
   rw [hsl] at hnb
   exact hnb
  obtain⟨⟨A1,n1,p1⟩,T1, ⟨A2,n2,p2⟩,T2⟩ :=fQ
  obtain⟨g1,c1,hv1,hg1⟩ :=dJ.jK (v:= .slice A1 n1 p1) bf.G (by rw [H3.out];decide)
  injection hv1 with i1 i2 i3
  subst i1 i2 i3
  obtain⟨lg,wY⟩ : ∃q,x.I.G[c]? =some q:= ⟨_,List.getElem?_eq_getElem (by rw [H3.out];exact hc)⟩
  have HG:=Hid.aD wY
  have Gj : lg.length≤536870912:=Nat.le_trans (lY (List.mem_of_getElem? wY)) Fg.out
  clear wY
  obtain⟨sg,pJ⟩ : ∃q,T1[c]? =some q:= ⟨_,List.getElem?_eq_getElem (by rw [bf.G.len,H3.out];exact hc)⟩
  have ing:=bf.G.inner c sg _ pJ HG.out
  have pg:=bf.G.outer.cell_ (j:=0) pJ (by decide)
  simp only [FS,Nat.mul_one,Nat.add_zero] at pg
  obtain⟨Ag,cg,zX,_⟩ :=ing.rd'
  obtain⟨ag,ng,bg⟩ :=sg
  injection zX with k1 k2 k3
  subst k1 k2 k3
  have zY : _=some (Value.slice ag lg.length bg) :=pg
  clear pg
  have ff:=bf.G.outer.iP c
  have HV:=Hid.aD pJ
  have hkk : c<x.I.G.length:=by rw [H3.out];exact hc
  have zU:=dB g1 (aY.aZ.2 (.inl (cu.2 (.inl rfl))))
  have hn1 : 1≤nv:=by have:=CK.out;omega
  have rQ:=Hid.aD (dJ.head_ne (g:=g1) (n:=x.I.G.length) (c:=p1) bf.G pJ)
  have rR : g1<wc.heap.size:=hg1
  have oq:=Hid.aD (show ∀b∈bL (SV.val ⟨ag,lg.length,bg⟩),b∈dL (.slice (some ⟨g1,0,none⟩) x.I.G.length p1) T1 from fun b hb=>cu.2 (.inr ⟨_,List.mem_of_getElem? HV.out,bH.1 hb⟩))
  have jl:=Hid.aD (show ∀b∈bL (SV.val ⟨ag,lg.length,bg⟩),b∈aY.foot ⟨⟨some ⟨g1,0,none⟩,x.I.G.length,p1⟩,T1, ⟨A2,n2,p2⟩,T2⟩ from fun b hb=>aY.aZ.2 (.inl (oq.out b hb)))
  have ne1:=jR g1 (aY.aZ.2 (.inl (cu.2 (.inl rfl))))
  have GY : gv<w1.heap.size:=BG gv (dw.2 rfl)
  have yC : g1≠w.heap.size+1:=by omega
  have yE : w.heap.size+1≠g1:=by omega
  have yD : g1≠go:=by omega
  have yF : go≠g1:=by omega
  have Gl : g1≠gv:=by omega
  have Gm : gv≠g1:=by omega
  have hv0 : (dN p nv)[0]? =some ((p * 4 : Nat) : Int) :=by unfold dN;rw [List.getElem?_map,List.getElem?_range (by omega)];rfl
  have DU:=Hid.aD hv0
  clear hv0
  have HD : Hid ((kL x p c).I= {x.I with G:=x.I.G.set c (lg++ (dN p nv).drop 1)}) :=by show _=_;unfold kL;simp only [];rw [hnn,List.getD_eq_getElem?_getD,HG.out];rfl
  clear CK hn hnn aC aF aG aQ aR aK aV bR bZ b_ dF dX
  obtain⟨wo,rfl⟩ : ∃wo : World,wo=wc:= ⟨_,rfl⟩
  have hro : bF FI 3 wo.drew (.slice ag lg.length bg) lg:=bF.keep (show bF FI 3 wo (.slice ag lg.length bg) lg from ing) (fun _ _=>rfl)
  go_upto_region 5 with (fail)
  go_cut [] from 21 to 40 (fun wx=> ∃S9 : SV,aJ wx (w.heap.size+1) [.slice none 0 0, .slice none 0 0, .slice none 0 0, .slice none 0 0]∧aJ wx go [.slice dD.Y.a dD.Y.l dD.Y.c, .slice dD.Z.a dD.Z.l dD.Z.c, .slice (some ⟨g1,0,none⟩) x.I.G.length p1, .slice A2 n2 p2]∧eT wx dD (dR x.E p c) ∧dW wx ⟨⟨some ⟨g1,0,none⟩,x.I.G.length,p1⟩,T1.set c S9, ⟨A2,n2,p2⟩,T2⟩ (kL x p c).I∧wx.cell? ⟨gv,0,none⟩ =some (.int .i64 ((p * 4 : Nat) : Int)) ∧ (∀g∈aY.foot ⟨⟨some ⟨g1,0,none⟩,x.I.G.length,p1⟩,T1.set c S9, ⟨A2,n2,p2⟩,T2⟩,w2.heap.size≤g∧g≠go) ∧Below w.heap.size w wx∧wo.heap.size≤wx.heap.size)
  case first=>
   rename_i J9 K9 DV DW
   by_cases hb1 : bv=1
   ·subst hb1
    obtain rfl : nv=1:=by omega
    have hlit : dz FI wo.drew wo.drew.heap.size (.slice (some ⟨gv,0,none⟩) (1 - 1) (1 - 1)) ((dN p 1).drop 1) := ⟨_,0,rfl,by simp [dN],by simp [maxLen],fun h=>absurd (by simp [dN]) h⟩
    have hn0 : ¬ ((1 : Int) =0) :=by omega
    have hdl : ((dN p 1).drop 1).length=1 - 1:=by rw [List.length_drop,hsl]
    have hsz : lg.length+ ((dN p 1).drop 1).length≤1073741824:=by rw [hdl];omega
    go_region_law (refine gV Try.stInt rfl (.tmp 35) (.tmp 37) rfl (v:= .slice ag lg.length bg) (y:= .slice (some ⟨gv,0,none⟩) (1 - 1) (1 - 1)) (l:=lg) (m:= (dN p 1).drop 1) (by simp [Act.eval]) (by simp [Act.eval]) hro hlit hsz ?_;intro v9 w9 qL qM kU;obtain⟨A9,c9,qN,_⟩ :=qL.rd';rw [List.length_append,hdl] at qN;subst qN;have hx:=bW.gP qM;have Cx : w9.frozen? ⟨g1,c,none⟩ =false:= (hx.frozen g1 c rR rQ.out).trans ff;have Cy : w9.cell? ⟨g1,c,none⟩ =some (Value.slice ag lg.length bg) := (hx.cell g1 c rR rQ.out).trans zY;replace au:=au.drew.bn hx (fun hm=>by have:=dB _ (jl.out _ hm);omega);clear aA aB aL aM aI aU;obtain⟨aA,aB,aL,aM,aI,aU⟩ :=au.f4;replace ay:=ay.drew.bn hx (fun hm=>by have:=dB _ (jl.out _ hm);have:=jR _ (jl.out _ hm);omega);clear aO aP bA bB aX bJ;obtain⟨aO,aP,bA,bB,aX,bJ⟩ :=ay.f4;replace jP:= (bF.keep (w':=wo.drew) (show bF FI 3 wo (.slice (some ⟨gv,0,none⟩) 1 1) (dN p 1) from jP) (fun _ _=>rfl)).bn hx (fun g hg hm=>by have:=dB _ (jl.out _ hm);have:=BG g hg;omega);have Ai:=jP.cell_ DU.out FI.pos;simp only [FI,Nat.mul_one,Nat.add_zero] at Ai)
    all_goals
     refine DW _ _ (Met.intro (DV _ _ ?_))
     (repeat apply Exists.intro)
     refine⟨?_,rfl⟩
     have oD : dW wo.drew ⟨⟨some ⟨g1,0,none⟩,x.I.G.length,p1⟩,T1, ⟨A2,n2,p2⟩,T2⟩ x.I:=bf.keep (fun _ _=>rfl)
     have hN:=dJ.qX (s':= ⟨A9,lg.length+ (1 - 1),c9⟩) oD.G HV.out qL qM kU
     change dJ _ _ _ (World.setCell _ _ (.slice A9 (lg.length+ (1 - 1)) c9)) _ _ _ at hN
     have hO : dJ FI 3 57 _ _ _ x.I.O:= (oD.O.bn hx (fun b hb hm=>bf.iM b (oq.out b hm) hb)).bn (F:= [g1]) ((bW.refl _ w9).gI (g:=g1) (i:=c) (by simp) (.slice A9 (lg.length+ (1 - 1)) c9)) (fun b hb hm=>by simp only [List.mem_cons,List.not_mem_nil,or_false] at hm;subst hm;exact bf.iM b (cu.2 (.inl rfl)) hb)
     have uO:= (oD.O).lt
     have CO : Below w.heap.size w (w9.setCell ⟨g1,c,none⟩ (.slice A9 (lg.length+ (1 - 1)) c9)) := (hB.drew.trans (hx.below hB.size (fun g hm=>by have:=dB _ (jl.out _ hm);omega))).setCell (show w.heap.size≤g1 by omega) _
     have CP : wo.heap.size≤w9.heap.size:=hx.size
     have CQ:= ((bC.keep (w':=wo.drew) (fun _ _=>rfl)).bn hx (fun g hg hm=>by have:=jO g hg;have:=dB _ (jl.out _ hm);omega)).bn (F:= [g1]) ((bW.refl _ w9).gI (g:=g1) (i:=c) (by simp) (.slice A9 (lg.length+ (1 - 1)) c9)) (fun g hg hm=>by simp only [List.mem_cons,List.not_mem_nil,or_false] at hm;have:=jO g hg;omega)
     refine⟨⟨A9,lg.length+ (1 - 1),c9⟩,au.other (by omega) _,ay.other (by omega) _,CQ,by rw [HD.out];exact⟨hN,hO,fun b hb hm=>by rcases j4 hb with hb|hb; (exact bf.iM b hb hm); (rcases iE kU b hb with hb|hb; (exact bf.iM b (oq.out b hb) hm); (have:=uO b hm;omega))⟩,by simp [Ai,go_sem],fun g hg=> ?_,CO,by simp;exact CP⟩
     rcases aY.aZ.1 hg with hg|hg
     ·rcases j4 hg with hg|hg
      ·have h1 : g∈aY.foot ⟨⟨some ⟨g1,0,none⟩,x.I.G.length,p1⟩,T1, ⟨A2,n2,p2⟩,T2⟩ :=aY.aZ.2 (.inl hg)
       exact⟨dB g h1,jR g h1⟩
      ·rcases iE kU g hg with hg|hg
       ·exact⟨dB g (jl.out g hg),jR g (jl.out g hg)⟩
       ·have h2 : wo.drew.heap.size=wo.heap.size:=rfl
        exact⟨by omega,by omega⟩
     ·have h1 : g∈aY.foot ⟨⟨some ⟨g1,0,none⟩,x.I.G.length,p1⟩,T1, ⟨A2,n2,p2⟩,T2⟩ :=aY.aZ.2 (.inr hg)
      exact⟨dB g h1,jR g h1⟩
   ·have hi1 : (1 : Int) ≤ (nv : Int) :=by omega
    have hlit : dz FI wo.drew wo.drew.heap.size (.slice (some ⟨gv,1,none⟩) (nv - 1) (bv - 1)) ((dN p nv).drop 1) :=by
     have:=dz.uM (bF.keep (w':=wo.drew) (show bF FI 3 wo (.slice (some ⟨gv,0,none⟩) nv bv) (dN p nv) from jP) (fun _ _=>rfl)).rd' 1 (nv - 1) (by rw [hsl];omega)
     rw [List.take_of_length_le (by rw [List.length_drop,hsl];exact Nat.le_refl _)] at this
     simpa using this
    have hn0 : ¬ ((nv : Int) =0) :=by omega
    have hdl : ((dN p nv).drop 1).length=nv - 1:=by rw [List.length_drop,hsl]
    have hsz : lg.length+ ((dN p nv).drop 1).length≤1073741824:=by rw [hdl];omega
    go_region_law (refine gV Try.stInt rfl (.tmp 35) (.tmp 37) rfl (v:= .slice ag lg.length bg) (y:= .slice (some ⟨gv,1,none⟩) (nv - 1) (bv - 1)) (l:=lg) (m:= (dN p nv).drop 1) (by simp [Act.eval]) (by simp [Act.eval]) hro hlit hsz ?_;intro v9 w9 qL qM kU;obtain⟨A9,c9,qN,_⟩ :=qL.rd';rw [List.length_append,hdl] at qN;subst qN;have hx:=bW.gP qM;have Cx : w9.frozen? ⟨g1,c,none⟩ =false:= (hx.frozen g1 c rR rQ.out).trans ff;have Cy : w9.cell? ⟨g1,c,none⟩ =some (Value.slice ag lg.length bg) := (hx.cell g1 c rR rQ.out).trans zY;replace au:=au.drew.bn hx (fun hm=>by have:=dB _ (jl.out _ hm);omega);clear aA aB aL aM aI aU;obtain⟨aA,aB,aL,aM,aI,aU⟩ :=au.f4;replace ay:=ay.drew.bn hx (fun hm=>by have:=dB _ (jl.out _ hm);have:=jR _ (jl.out _ hm);omega);clear aO aP bA bB aX bJ;obtain⟨aO,aP,bA,bB,aX,bJ⟩ :=ay.f4;replace jP:= (bF.keep (w':=wo.drew) (show bF FI 3 wo (.slice (some ⟨gv,0,none⟩) nv bv) (dN p nv) from jP) (fun _ _=>rfl)).bn hx (fun g hg hm=>by have:=dB _ (jl.out _ hm);have:=BG g hg;omega);have Ai:=jP.cell_ DU.out FI.pos;simp only [FI,Nat.mul_one,Nat.add_zero] at Ai)
    all_goals
     refine DW _ _ (Met.intro (DV _ _ ?_))
     (repeat apply Exists.intro)
     refine⟨?_,rfl⟩
     have oD : dW wo.drew ⟨⟨some ⟨g1,0,none⟩,x.I.G.length,p1⟩,T1, ⟨A2,n2,p2⟩,T2⟩ x.I:=bf.keep (fun _ _=>rfl)
     have hN:=dJ.qX (s':= ⟨A9,lg.length+ (nv - 1),c9⟩) oD.G HV.out qL qM kU
     change dJ _ _ _ (World.setCell _ _ (.slice A9 (lg.length+ (nv - 1)) c9)) _ _ _ at hN
     have hO : dJ FI 3 57 _ _ _ x.I.O:= (oD.O.bn hx (fun b hb hm=>bf.iM b (oq.out b hm) hb)).bn (F:= [g1]) ((bW.refl _ w9).gI (g:=g1) (i:=c) (by simp) (.slice A9 (lg.length+ (nv - 1)) c9)) (fun b hb hm=>by simp only [List.mem_cons,List.not_mem_nil,or_false] at hm;subst hm;exact bf.iM b (cu.2 (.inl rfl)) hb)
     have uO:= (oD.O).lt
     have CO : Below w.heap.size w (w9.setCell ⟨g1,c,none⟩ (.slice A9 (lg.length+ (nv - 1)) c9)) := (hB.drew.trans (hx.below hB.size (fun g hm=>by have:=dB _ (jl.out _ hm);omega))).setCell (show w.heap.size≤g1 by omega) _
     have CP : wo.heap.size≤w9.heap.size:=hx.size
     have CQ:= ((bC.keep (w':=wo.drew) (fun _ _=>rfl)).bn hx (fun g hg hm=>by have:=jO g hg;have:=dB _ (jl.out _ hm);omega)).bn (F:= [g1]) ((bW.refl _ w9).gI (g:=g1) (i:=c) (by simp) (.slice A9 (lg.length+ (nv - 1)) c9)) (fun g hg hm=>by simp only [List.mem_cons,List.not_mem_nil,or_false] at hm;have:=jO g hg;omega)
     refine⟨⟨A9,lg.length+ (nv - 1),c9⟩,au.other (by omega) _,ay.other (by omega) _,CQ,by rw [HD.out];exact⟨hN,hO,fun b hb hm=>by rcases j4 hb with hb|hb; (exact bf.iM b hb hm); (rcases iE kU b hb with hb|hb; (exact bf.iM b (oq.out b hb) hm); (have:=uO b hm;omega))⟩,by simp [Ai,go_sem],fun g hg=> ?_,CO,by simp;exact CP⟩
     rcases aY.aZ.1 hg with hg|hg
     ·rcases j4 hg with hg|hg
      ·have h1 : g∈aY.foot ⟨⟨some ⟨g1,0,none⟩,x.I.G.length,p1⟩,T1, ⟨A2,n2,p2⟩,T2⟩ :=aY.aZ.2 (.inl hg)
       exact⟨dB g h1,jR g h1⟩
      ·rcases iE kU g hg with hg|hg
       ·exact⟨dB g (jl.out g hg),jR g (jl.out g hg)⟩
       ·have h2 : wo.drew.heap.size=wo.heap.size:=rfl
        exact⟨by omega,by omega⟩
     ·have h1 : g∈aY.foot ⟨⟨some ⟨g1,0,none⟩,x.I.G.length,p1⟩,T1, ⟨A2,n2,p2⟩,T2⟩ :=aY.aZ.2 (.inr hg)
      exact⟨dB g h1,jR g h1⟩
  case rest=>
   clear au ay aA aB aL aM aO aP bA bB aI aX aU bJ bC bf hB hro ing zY ff iG dB jR
   obtain⟨S9,au,ay,bC,bf,pv,fl,hB,GZ⟩ :=hcut
   obtain⟨aA,aB,aL,aM,aI,aU⟩ :=au.f4
   obtain⟨aO,aP,bA,bB,aX,bJ⟩ :=ay.f4
   have hi0 : 0<nv:=hn1
   have G5:=DT gv (dw.2 rfl)
   have Gn : gv≠w.heap.size+1:=by omega
   have Gp : w.heap.size+1≠gv:=by omega
   go_wp2_with fail
   go_region
   all_goals
    go_wp2_with fail
    refine bodyPost_ret (v:= .tuple #[.agg #[.slice dD.Y.a dD.Y.l dD.Y.c, .slice dD.Z.a dD.Z.l dD.Z.c, .slice (some ⟨g1,0,none⟩) x.I.G.length p1, .slice A2 n2 p2], .int .i64 ((p * 4 : Nat) : Int)]) (by simp [results,Try.results24,go_sem,aA,aB,aL,aM]) rfl ⟨⟨dD, ⟨⟨some ⟨g1,0,none⟩,x.I.G.length,p1⟩,T1.set c S9, ⟨A2,n2,p2⟩,T2⟩⟩,rfl, ⟨bC.bn (F:= [w.heap.size+1]) bV (fun g hg hm=>by simp only [List.mem_cons,List.not_mem_nil,or_false] at hm;have:=gF g hg;omega),bf.bn (F:= [w.heap.size+1]) bV (fun g hg hm=>by simp only [List.mem_cons,List.not_mem_nil,or_false] at hm;have:= (fl g hg).1;omega),fun b hb hm=>by have:=jO b hb;have:= (fl b hm).1;omega⟩,fun b hb=>by rcases bY.aZ.1 hb with hb|hb; (have:=gF b hb;omega); (have:= (fl b hb).1;omega),Below.trans hB fJ⟩
end Go.Proofs.Ytkmggglljkmjoaa
