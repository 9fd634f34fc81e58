/-
  FnStores, walked.
-/
import Derived.Test.YtkmggglljkmjoaaGreatUTC1
import Derived.Deep.QuietTactic
import Derived.BigQuiet
import Derived.Deep.LoopGhost
import Derived.Deep.RegionHeld3
import Derived.Test.YtkmggglljkmjoaaGreatUTC2
import Derived.WalkSpells
import Derived.Laws.Cover3
import Derived.Test.YtkmggglljkmjoaaGreatUTC42
import Derived.Test.YtkmggglljkmjoaaGreatUTC35
import Derived.Test.YtkmggglljkmjoaaGreatUTC36
import Derived.Test.YtkmggglljkmjoaaGreatUTC9
import Derived.Test.YtkmggglljkmjoaaGreatUTC8
import Derived.Deep.CutRange
namespace Go.Proofs.YtkmggglljkmjoaaGreat
open Go.RowKit
open Go.Proofs.YtkmggglljkmjoaaGreat.Lim
set_option maxRecDepth 100000 in
set_option maxHeartbeats 8000000 in
theorem FnStores_law (w : World)(v : Value)(code : List Int)(h : fE nK w w.heap.size v code)(hcb : ∀x∈code,0≤x∧x≤255) :
  Calls Tryz.prog 5 #[v] w fun e w'=>e= .returned (.bool true) ∧Below w.heap.size w w':=by
 obtain⟨A,c0,hv,q1,q2,_⟩ :=id h
 have m_ : code.length≤9223372036854775807:=by unfold maxLen at q2;omega
 subst hv
 clear q1 q2
 by_cases hs : code.length≤1048576
 case neg=>
  go_enter Tryz.func5,Tryz.ntmps5
  go_wp2_with fail
  refine(DY _ _ _ _ hs m_).mono ?_
  rintro e w1 ⟨rfl,rfl⟩
  go_wp2_with fail
  go_ret
  exact⟨rfl,Below.refl _ _⟩
 go_enter Tryz.func5,Tryz.ntmps5
 go_wp2_with fail
 refine(Gf _ _ _ _ hs).mono ?_
 rintro e w0 ⟨rfl,rfl⟩
 go_wp2_with fail
 refine(D7 _ _ code h hcb (by omega)).mono ?_
 rintro e wi ⟨H,x,a,k,z,n,rfl,bR,hz,mX,hbd,hB⟩
 clear h hcb hs m_
 obtain⟨k0,k1,z0,z1,n0,n1⟩ :=hbd
 have hz2 : dx x≤536870912:=by omega
 have hn : gZ n:=by unfold gZ;omega
 by_cases hc : (gL x a k z n).2=0
 case neg=>
  obtain⟨c,hcv⟩ : ∃c,c= (gL x a k z n).2:= ⟨_,rfl⟩
  have HF : gL x a k z n= (x,c) :=Prod.ext (IG hc) hcv.symm
  rw [←hcv] at hc
  clear hcv
  have jZ:=bR.lt
  go_wp2_with fail
  refine(pW HF hz2 _ (bR.aH _).rd').mono ?_
  rintro e w1 ⟨fB,rfl,fD,yY,hb⟩
  have Hr:=fD.lt
  simp only [World.size_alloc] at yY
  replace bR:=bR.step hb
  replace hB:=eX hB hb hB.size
  have sz:=hb.size
  simp only [World.size_alloc] at sz
  have bn:= (aB.new wi #[.slice H.E.Y.a H.E.Y.l H.E.Y.c, .slice H.E.Z.a H.E.Z.l H.E.Z.c, .slice H.I.G.a H.I.G.l H.I.G.c, .slice H.I.O.a H.I.O.l H.I.O.c] 31).below hb
  have tZ:=bn.lt
  clear hb
  obtain⟨bC,bD,bE,bF,bS,dB⟩ :=bn.f4
  go_wp2_with fail
  refine(Bo HF hz2 _ (bR.aH _).rd' hn).mono ?_
  rintro e w2 ⟨dM,rfl,jc,nX,hb⟩
  have qc:=jc.lt
  simp only [World.size_alloc] at nX
  replace bn:= (bn.alloc _).below hb
  replace bR:=bR.step hb
  have fD:=fD.step hb
  replace hB:=eX hB hb hB.size
  have sz:=hb.size
  simp only [World.size_alloc] at sz
  have aU:= (aB.new w1 #[.slice fB.E.Y.a fB.E.Y.l fB.E.Y.c, .slice fB.E.Z.a fB.E.Z.l fB.E.Z.c, .slice fB.I.G.a fB.I.G.l fB.I.G.c, .slice fB.I.O.a fB.I.O.l fB.I.O.c] 31).below hb
  have rD:=aU.lt
  clear hb
  clear bC bD bE bF bS dB
  obtain⟨bC,bD,bE,bF,bS,dB⟩ :=bn.f4
  obtain⟨bT,bU,dD,dF,eU,dX⟩ :=aU.f4
  go_wp2_with fail
  refine(sS _ fB H x x (fD.aH _).rd' (bR.aH _).rd').mono ?_
  rw [sU]
  rintro e w3 ⟨rfl,hb⟩
  replace bn:= (bn.alloc _).below hb
  replace aU:= (aU.alloc _).below hb
  replace bR:=bR.step hb
  replace fD:=fD.step hb
  have jc:=jc.step hb
  replace hB:=eX hB hb hB.size
  have sz:=hb.size
  simp only [World.size_alloc] at sz
  have dw:= (aB.new w2 #[.slice dM.E.Y.a dM.E.Y.l dM.E.Y.c, .slice dM.E.Z.a dM.E.Z.l dM.E.Z.c, .slice dM.I.G.a dM.I.G.l dM.I.G.c, .slice dM.I.O.a dM.I.O.l dM.I.O.c] 31).below hb
  have IB:=dw.lt
  clear hb
  clear bC bD bE bF bS dB
  obtain⟨bC,bD,bE,bF,bS,dB⟩ :=bn.f4
  clear bT bU dD dF eU dX
  obtain⟨bT,bU,dD,dF,eU,dX⟩ :=aU.f4
  obtain⟨iM,iN,iO,jf,nH,kS⟩ :=dw.f4
  go_wp2_with fail
  go_ret
  exact⟨rfl,hB⟩
 obtain⟨y,y2,sl,cl,JL,F,T,HF,hy,hok,hsl,hcl,hsz,Ry,Ph,hF,hT,F0,F1,HL,H2,Rz,hbl,hbx,z1',z7,RA,HE⟩ :=II hc
 have hy2 : dx y≤536870912:=by omega
 have qh : ∀W,Calls Tryz.prog 30 #[.int .i64 a] W fun e w'=>e= .returned (.int .i64 sl) ∧W=w':=fun W=>by have k:=mP a W hok;rw [hsl] at k;exact k
 have K8 : ∀W,Calls Tryz.prog 28 #[.int .i64 cl] W fun e w'=>e= .returned (.int .i64 JL) ∧W=w':=fun W=>by have k:=uj cl W;rw [hsz] at k;exact k
 have Ch : ∀W,gU W W.heap.size H.E x.E→Calls Tryz.prog 29 #[.agg #[.slice H.E.Y.a H.E.Y.l H.E.Y.c, .slice H.E.Z.a H.E.Z.l H.E.Z.c], .int .i64 sl] W fun e w'=>e= .returned (.int .i64 cl) ∧Below W.heap.size W w':=fun W hr=>by have k:=sw W H.E x.E sl hr;rw [hcl] at k;exact k
 have Qv : ∀W,Calls Tryz.prog 31 #[.int .i64 sl, .int .i64 cl] W fun e w'=>e= .returned (.agg #[.int .i64 F, .int .i64 T]) ∧Below W.heap.size W w':=fun W=>by have k:=Gp sl cl W;rw [hF,hT] at k;exact k
 have hw1 : IntKind.i64.wrap (JL - z) =JL - z:=by rw [IntKind.wrap_i64];omega
 have hw2 : IntKind.i64.wrap (JL - z+1) =JL - z+1:=by rw [IntKind.wrap_i64];omega
 have Qw : y.E.Y.length=x.E.Y.length:=hbl.trans hbx.symm
 clear hc hok hsl hcl hsz hF hT
 have jZ:=bR.lt
 go_wp2_with fail
 refine(pW HF hz2 _ (bR.aH _).rd').mono ?_
 rintro e w1 ⟨fB,rfl,fD,yY,hb⟩
 have Hr:=fD.lt
 simp only [World.size_alloc] at yY
 replace bR:=bR.step hb
 replace hB:=eX hB hb hB.size
 have sz:=hb.size
 simp only [World.size_alloc] at sz
 have bn:= (aB.new wi #[.slice H.E.Y.a H.E.Y.l H.E.Y.c, .slice H.E.Z.a H.E.Z.l H.E.Z.c, .slice H.I.G.a H.I.G.l H.I.G.c, .slice H.I.O.a H.I.O.l H.I.O.c] 31).below hb
 have tZ:=bn.lt
 clear hb
 obtain⟨bC,bD,bE,bF,bS,dB⟩ :=bn.f4
 go_wp2_with fail
 refine(Bo HF hz2 _ (bR.aH _).rd' hn).mono ?_
 rintro e w2 ⟨dM,rfl,jc,nX,hb⟩
 have qc:=jc.lt
 simp only [World.size_alloc] at nX
 replace bn:= (bn.alloc _).below hb
 replace bR:=bR.step hb
 have fD:=fD.step hb
 replace hB:=eX hB hb hB.size
 have sz:=hb.size
 simp only [World.size_alloc] at sz
 have aU:= (aB.new w1 #[.slice fB.E.Y.a fB.E.Y.l fB.E.Y.c, .slice fB.E.Z.a fB.E.Z.l fB.E.Z.c, .slice fB.I.G.a fB.I.G.l fB.I.G.c, .slice fB.I.O.a fB.I.O.l fB.I.O.c] 31).below hb
 have rD:=aU.lt
 clear hb
 clear bC bD bE bF bS dB
 obtain⟨bC,bD,bE,bF,bS,dB⟩ :=bn.f4
 obtain⟨bT,bU,dD,dF,eU,dX⟩ :=aU.f4
 go_wp2_with fail
 refine(yJ HL _ (fD.aH _).rd').mono ?_
 rintro e w3 ⟨rfl,hb⟩
 replace bn:= (bn.alloc _).below hb
 replace aU:= (aU.alloc _).below hb
 replace bR:=bR.step hb
 replace fD:=fD.step hb
 have jc:=jc.step hb
 replace hB:=eX hB hb hB.size
 have sz:=hb.size
 simp only [World.size_alloc] at sz
 have dw:= (aB.new w2 #[.slice dM.E.Y.a dM.E.Y.l dM.E.Y.c, .slice dM.E.Z.a dM.E.Z.l dM.E.Z.c, .slice dM.I.G.a dM.I.G.l dM.I.G.c, .slice dM.I.O.a dM.I.O.l dM.I.O.c] 31).below hb
 have IB:=dw.lt
 clear hb
 clear bC bD bE bF bS dB
 obtain⟨bC,bD,bE,bF,bS,dB⟩ :=bn.f4
 clear bT bU dD dF eU dX
 obtain⟨bT,bU,dD,dF,eU,dX⟩ :=aU.f4
 obtain⟨iM,iN,iO,jf,nH,kS⟩ :=dw.f4
 clear dw nH kS jc nX qc iM iN iO jf
 have szB:=hB.size
 go_upto_region 11 with (fail)
 go_cut [14,15] from 62 to 78 (fun v14 v15 wx=> ∃ (go : Nat) (qV : bP),v14= .pointer (some ⟨go,0,none⟩) ∧v15= .int .i64 2∧aB wx (wi.heap.size) [.slice H.E.Y.a H.E.Y.l H.E.Y.c, .slice H.E.Z.a H.E.Z.l H.E.Z.c, .slice H.I.G.a H.I.G.l H.I.G.c, .slice H.I.O.a H.I.O.l H.I.O.c]∧aB wx (w1.heap.size) [.slice fB.E.Y.a fB.E.Y.l fB.E.Y.c, .slice fB.E.Z.a fB.E.Z.l fB.E.Z.c, .slice fB.I.G.a fB.I.G.l fB.I.G.c, .slice fB.I.O.a fB.I.O.l fB.I.O.c]∧aB wx go [.slice qV.E.Y.a qV.E.Y.l qV.E.Y.c, .slice qV.E.Z.a qV.E.Z.l qV.E.Z.c, .slice qV.I.G.a qV.I.G.l qV.I.G.c, .slice qV.I.O.a qV.I.O.l qV.I.O.c]∧d9 wx H x∧d9 wx fB y∧d9 wx qV y2∧ (∀g∈qV.foot,w3.heap.size≤g∧g≠go) ∧w3.heap.size≤go∧Below w.heap.size w wx∧w3.heap.size≤wx.heap.size)
 case first=>
  go_region_held3 (fun w'=>w'.cell? ⟨wi.heap.size,0,none⟩ =some (.slice H.E.Y.a H.E.Y.l H.E.Y.c) ∧w'.cell? ⟨wi.heap.size,1,none⟩ =some (.slice H.E.Z.a H.E.Z.l H.E.Z.c) ∧w'.cell? ⟨wi.heap.size,2,none⟩ =some (.slice H.I.G.a H.I.G.l H.I.G.c) ∧w'.cell? ⟨wi.heap.size,3,none⟩ =some (.slice H.I.O.a H.I.O.l H.I.O.c) ∧w'.cell? ⟨w1.heap.size,0,none⟩ =some (.slice fB.E.Y.a fB.E.Y.l fB.E.Y.c) ∧w'.cell? ⟨w1.heap.size,1,none⟩ =some (.slice fB.E.Z.a fB.E.Z.l fB.E.Z.c) ∧w'.cell? ⟨w1.heap.size,2,none⟩ =some (.slice fB.I.G.a fB.I.G.l fB.I.G.c) ∧w'.cell? ⟨w1.heap.size,3,none⟩ =some (.slice fB.I.O.a fB.I.O.l fB.I.O.c)) (first| (with_reducible exact⟨bC,bD,bE,bF,bT,bU,dD,dF⟩) | (refine⟨?_, ?_, ?_, ?_, ?_, ?_, ?_, ?_⟩ <;> (repeat (first|with_reducible assumption|with_reducible refine fH ?_ (by omega) |with_reducible refine eF ?_ (by omega) |with_reducible refine fu ?_));done) | (go_keep;done)) (first| (go_at_call 30; (first| ((with_reducible refine(qh _).mono ?_);rintro e wq ⟨rfl,rfl⟩) | ((with_reducible refine(qh _).mono ?_);rintro e wq ⟨rfl,rfl⟩))) | (go_at_call 28; (first| ((with_reducible refine(K8 _).mono ?_);rintro e wq ⟨rfl,rfl⟩) | ((with_reducible refine(K8 _).mono ?_);rintro e wq ⟨rfl,rfl⟩))) | (go_at_call 29; (first| ((with_reducible refine(Ch _ bR.rd'.E).mono ?_);rintro e wq ⟨rfl,hb⟩;replace bn:=bn.below hb;replace aU:=aU.below hb;replace bR:=bR.step0 hb;replace fD:=fD.step0 hb;replace hB:=hB.trans (hb.mono hB.size);have sz:=hb.size; (try replace aN:=aN.below hb); (try replace aV:=aN.cell 0 _ rfl); (try replace aW:=aN.cell 1 _ rfl); (try replace bG:=aN.cell 2 _ rfl); (try replace bH:=aN.cell 3 _ rfl); (try replace bq:=aN.dn); (try replace bN:=aN.lt);clear hb;clear bC bD bE bF bS dB;obtain⟨bC,bD,bE,bF,bS,dB⟩ :=bn.f4;clear bT bU dD dF eU dX;obtain⟨bT,bU,dD,dF,eU,dX⟩ :=aU.f4) | ((with_reducible refine(Ch _ (bR.bf).rd'.E).mono ?_);rintro e wq ⟨rfl,hb⟩;replace hb:=gq hb;replace bn:=bn.below hb;replace aU:=aU.below hb;replace bR:=bR.step0 hb;replace fD:=fD.step0 hb;replace hB:=hB.trans (hb.mono hB.size);have sz:=hb.size; (try replace aN:=aN.below hb); (try replace aV:=aN.cell 0 _ rfl); (try replace aW:=aN.cell 1 _ rfl); (try replace bG:=aN.cell 2 _ rfl); (try replace bH:=aN.cell 3 _ rfl); (try replace bq:=aN.dn); (try replace bN:=aN.lt);clear hb;clear bC bD bE bF bS dB;obtain⟨bC,bD,bE,bF,bS,dB⟩ :=bn.f4;clear bT bU dD dF eU dX;obtain⟨bT,bU,dD,dF,eU,dX⟩ :=aU.f4) | ((with_reducible refine(Ch _ (bR.aH _).rd'.E).mono ?_);rintro e wq ⟨rfl,hb⟩;replace bn:= (bn.alloc _).below hb;replace aU:= (aU.alloc _).below hb;replace bR:=bR.step hb;replace fD:=fD.step hb;replace hB:=eX hB hb hB.size;have sz:=hb.size;simp only [World.size_alloc] at sz;have aN:=aB.below (aB.new _ #[.slice none 0 0, .slice none 0 0, .slice none 0 0, .slice none 0 0] 31) hb;obtain⟨aV,aW,bG,bH,bq,bN⟩ :=aN.f4;clear hb;clear bC bD bE bF bS dB;obtain⟨bC,bD,bE,bF,bS,dB⟩ :=bn.f4;clear bT bU dD dF eU dX;obtain⟨bT,bU,dD,dF,eU,dX⟩ :=aU.f4) | ((with_reducible refine(Ch _ ((bR.aH _).bf).rd'.E).mono ?_);rintro e wq ⟨rfl,hb⟩;replace hb:=gq hb;replace bn:= (bn.alloc _).below hb;replace aU:= (aU.alloc _).below hb;replace bR:=bR.step hb;replace fD:=fD.step hb;replace hB:=eX hB hb hB.size;have sz:=hb.size;simp only [World.size_alloc] at sz;have aN:=aB.below (aB.new _ #[.slice none 0 0, .slice none 0 0, .slice none 0 0, .slice none 0 0] 31) hb;obtain⟨aV,aW,bG,bH,bq,bN⟩ :=aN.f4;clear hb;clear bC bD bE bF bS dB;obtain⟨bC,bD,bE,bF,bS,dB⟩ :=bn.f4;clear bT bU dD dF eU dX;obtain⟨bT,bU,dD,dF,eU,dX⟩ :=aU.f4))) | (go_at_call 24; (first| ((with_reducible refine(pW H2 hy2 _ fD.rd').mono ?_);rintro e wq ⟨qV,rfl,ku,rP,hb⟩;have yU:=ku.lt;replace bn:=bn.below hb;replace aU:=aU.below hb;replace bR:=bR.step0 hb;replace fD:=fD.step0 hb;replace hB:=hB.trans (hb.mono hB.size);have sz:=hb.size; (try replace aN:=aN.below hb); (try replace aV:=aN.cell 0 _ rfl); (try replace aW:=aN.cell 1 _ rfl); (try replace bG:=aN.cell 2 _ rfl); (try replace bH:=aN.cell 3 _ rfl); (try replace bq:=aN.dn); (try replace bN:=aN.lt);clear hb;clear bC bD bE bF bS dB;obtain⟨bC,bD,bE,bF,bS,dB⟩ :=bn.f4;clear bT bU dD dF eU dX;obtain⟨bT,bU,dD,dF,eU,dX⟩ :=aU.f4) | ((with_reducible refine(pW H2 hy2 _ (fD.bf).rd').mono ?_);rintro e wq ⟨qV,rfl,ku,rP,hb⟩;replace hb:=gq hb;replace rP:=ji rP;have yU:=ku.lt;replace bn:=bn.below hb;replace aU:=aU.below hb;replace bR:=bR.step0 hb;replace fD:=fD.step0 hb;replace hB:=hB.trans (hb.mono hB.size);have sz:=hb.size; (try replace aN:=aN.below hb); (try replace aV:=aN.cell 0 _ rfl); (try replace aW:=aN.cell 1 _ rfl); (try replace bG:=aN.cell 2 _ rfl); (try replace bH:=aN.cell 3 _ rfl); (try replace bq:=aN.dn); (try replace bN:=aN.lt);clear hb;clear bC bD bE bF bS dB;obtain⟨bC,bD,bE,bF,bS,dB⟩ :=bn.f4;clear bT bU dD dF eU dX;obtain⟨bT,bU,dD,dF,eU,dX⟩ :=aU.f4) | ((with_reducible refine(pW H2 hy2 _ (fD.aH _).rd').mono ?_);rintro e wq ⟨qV,rfl,ku,rP,hb⟩;simp only [World.size_alloc] at rP;have yU:=ku.lt;replace bn:= (bn.alloc _).below hb;replace aU:= (aU.alloc _).below hb;replace bR:=bR.step hb;replace fD:=fD.step hb;replace hB:=eX hB hb hB.size;have sz:=hb.size;simp only [World.size_alloc] at sz;have aN:=aB.below (aB.new _ #[.slice none 0 0, .slice none 0 0, .slice none 0 0, .slice none 0 0] 31) hb;obtain⟨aV,aW,bG,bH,bq,bN⟩ :=aN.f4;clear hb;clear bC bD bE bF bS dB;obtain⟨bC,bD,bE,bF,bS,dB⟩ :=bn.f4;clear bT bU dD dF eU dX;obtain⟨bT,bU,dD,dF,eU,dX⟩ :=aU.f4) | ((with_reducible refine(pW H2 hy2 _ ((fD.aH _).bf).rd').mono ?_);rintro e wq ⟨qV,rfl,ku,rP,hb⟩;replace hb:=gq hb;replace rP:=ji rP;simp only [World.size_alloc] at rP;have yU:=ku.lt;replace bn:= (bn.alloc _).below hb;replace aU:= (aU.alloc _).below hb;replace bR:=bR.step hb;replace fD:=fD.step hb;replace hB:=eX hB hb hB.size;have sz:=hb.size;simp only [World.size_alloc] at sz;have aN:=aB.below (aB.new _ #[.slice none 0 0, .slice none 0 0, .slice none 0 0, .slice none 0 0] 31) hb;obtain⟨aV,aW,bG,bH,bq,bN⟩ :=aN.f4;clear hb;clear bC bD bE bF bS dB;obtain⟨bC,bD,bE,bF,bS,dB⟩ :=bn.f4;clear bT bU dD dF eU dX;obtain⟨bT,bU,dD,dF,eU,dX⟩ :=aU.f4))))
  all_goals
   go_wp2_with fail
   go_meet
   first|exact⟨_,qV,rfl,rfl,bn.alloc _,aU.alloc _,aB.new _ _ _,bR.aH _,fD.aH _,ku.aH _,fun g hg=> ⟨by have:=rP g hg;omega,by have:=yU g hg;omega⟩,by omega,hB.alloc hB.size _,by simp<;>omega⟩ | (obtain⟨go,hgo,og⟩ :=aN.ad;rw [←hgo];exact⟨go,qV,rfl,rfl, ((((bn.other (by omega) _).other (by omega) _).other (by omega) _).other (by omega) _), ((((aU.other (by omega) _).other (by omega) _).other (by omega) _).other (by omega) _), ((((og.set 0 _).set 1 _).set 2 _).set 3 _),bR.aM (F:= [go]) bW (fun g hg hm=>by simp only [List.mem_cons,List.not_mem_nil,or_false] at hm;have:=mX g hg;have:=jZ g hg;omega),fD.aM (F:= [go]) bW (fun g hg hm=>by simp only [List.mem_cons,List.not_mem_nil,or_false] at hm;have:=yY g hg;have:=Hr g hg;omega),ku.aM (F:= [go]) bW (fun g hg hm=>by simp only [List.mem_cons,List.not_mem_nil,or_false] at hm;have:=rP g hg;have:=yU g hg;omega),fun g hg=> ⟨by have:=rP g hg;omega,by have:=rP g hg;have:=yU g hg;omega⟩,by omega,Below.trans hB dQ,by simp<;>omega⟩)
 case rest=>
  clear bn bS dB bC bD bE bF
  clear aU eU dX bT bU dD dF
  clear bR
  clear fD
  clear hB
  obtain⟨go,qV,rfl,rfl,bn,aU,aN,bR,fD,ku,Kl,H_,hB,sz⟩ :=hcut
  have rP:=fun g hg=> (Kl g hg).1
  have rz:=fun g hg=> (Kl g hg).2
  have yU:=ku.lt
  clear Kl
  have gy:=aN.lt
  obtain⟨bC,bD,bE,bF,bS,dB⟩ :=bn.f4
  obtain⟨bT,bU,dD,dF,eU,dX⟩ :=aU.f4
  obtain⟨aV,aW,bG,bH,bq,bN⟩ :=aN.f4
  clear ku rP yU rz
  clear aN bq bN gy aV aW bG bH
  have szB:=hB.size
  go_upto_region 12 with (fail)
  go_cut [16] from 19 to 86 (fun v16 wx=> ∃ (go : Nat),v16= .pointer (some ⟨go,0,none⟩) ∧aB wx (wi.heap.size) [.slice H.E.Y.a H.E.Y.l H.E.Y.c, .slice H.E.Z.a H.E.Z.l H.E.Z.c, .slice H.I.G.a H.I.G.l H.I.G.c, .slice H.I.O.a H.I.O.l H.I.O.c]∧aB wx (w1.heap.size) [.slice fB.E.Y.a fB.E.Y.l fB.E.Y.c, .slice fB.E.Z.a fB.E.Z.l fB.E.Z.c, .slice fB.I.G.a fB.I.G.l fB.I.G.c, .slice fB.I.O.a fB.I.O.l fB.I.O.c]∧aB wx go [.int .i64 F, .int .i64 T]∧d9 wx H x∧d9 wx fB y∧wc.heap.size≤go∧Below w.heap.size w wx∧wc.heap.size≤wx.heap.size)
  case first=>
   go_region_held3 (fun w'=>w'.cell? ⟨wi.heap.size,0,none⟩ =some (.slice H.E.Y.a H.E.Y.l H.E.Y.c) ∧w'.cell? ⟨wi.heap.size,1,none⟩ =some (.slice H.E.Z.a H.E.Z.l H.E.Z.c) ∧w'.cell? ⟨wi.heap.size,2,none⟩ =some (.slice H.I.G.a H.I.G.l H.I.G.c) ∧w'.cell? ⟨wi.heap.size,3,none⟩ =some (.slice H.I.O.a H.I.O.l H.I.O.c) ∧w'.cell? ⟨w1.heap.size,0,none⟩ =some (.slice fB.E.Y.a fB.E.Y.l fB.E.Y.c) ∧w'.cell? ⟨w1.heap.size,1,none⟩ =some (.slice fB.E.Z.a fB.E.Z.l fB.E.Z.c) ∧w'.cell? ⟨w1.heap.size,2,none⟩ =some (.slice fB.I.G.a fB.I.G.l fB.I.G.c) ∧w'.cell? ⟨w1.heap.size,3,none⟩ =some (.slice fB.I.O.a fB.I.O.l fB.I.O.c)) (first| (with_reducible exact⟨bC,bD,bE,bF,bT,bU,dD,dF⟩) | (refine⟨?_, ?_, ?_, ?_, ?_, ?_, ?_, ?_⟩ <;> (repeat (first|with_reducible assumption|with_reducible refine fH ?_ (by omega) |with_reducible refine eF ?_ (by omega) |with_reducible refine fu ?_));done) | (go_keep;done)) (first| (go_at_call 30; (first| ((with_reducible refine(qh _).mono ?_);rintro e wq ⟨rfl,rfl⟩) | ((with_reducible refine(qh _).mono ?_);rintro e wq ⟨rfl,rfl⟩))) | (go_at_call 29; (first| ((with_reducible refine(Ch _ bR.rd'.E).mono ?_);rintro e wq ⟨rfl,hb⟩;replace bn:=bn.below hb;replace aU:=aU.below hb;replace bR:=bR.step0 hb;replace fD:=fD.step0 hb;replace hB:=hB.trans (hb.mono hB.size);have sz:=hb.size; (try replace av:=av.below hb); (try replace bg:=av.cell 0 _ rfl); (try replace b_:=av.cell 1 _ rfl); (try replace eG:=av.dn); (try replace eH:=av.lt);clear hb;clear bC bD bE bF bS dB;obtain⟨bC,bD,bE,bF,bS,dB⟩ :=bn.f4;clear bT bU dD dF eU dX;obtain⟨bT,bU,dD,dF,eU,dX⟩ :=aU.f4) | ((with_reducible refine(Ch _ (bR.bf).rd'.E).mono ?_);rintro e wq ⟨rfl,hb⟩;replace hb:=gq hb;replace bn:=bn.below hb;replace aU:=aU.below hb;replace bR:=bR.step0 hb;replace fD:=fD.step0 hb;replace hB:=hB.trans (hb.mono hB.size);have sz:=hb.size; (try replace av:=av.below hb); (try replace bg:=av.cell 0 _ rfl); (try replace b_:=av.cell 1 _ rfl); (try replace eG:=av.dn); (try replace eH:=av.lt);clear hb;clear bC bD bE bF bS dB;obtain⟨bC,bD,bE,bF,bS,dB⟩ :=bn.f4;clear bT bU dD dF eU dX;obtain⟨bT,bU,dD,dF,eU,dX⟩ :=aU.f4) | ((with_reducible refine(Ch _ (bR.aH _).rd'.E).mono ?_);rintro e wq ⟨rfl,hb⟩;replace bn:= (bn.alloc _).below hb;replace aU:= (aU.alloc _).below hb;replace bR:=bR.step hb;replace fD:=fD.step hb;replace hB:=eX hB hb hB.size;have sz:=hb.size;simp only [World.size_alloc] at sz;have av:=aB.below (aB.new _ #[.int .i64 0, .int .i64 0] 61) hb;obtain⟨bg,b_,eG,eH⟩ :=av.f2;clear hb;clear bC bD bE bF bS dB;obtain⟨bC,bD,bE,bF,bS,dB⟩ :=bn.f4;clear bT bU dD dF eU dX;obtain⟨bT,bU,dD,dF,eU,dX⟩ :=aU.f4) | ((with_reducible refine(Ch _ ((bR.aH _).bf).rd'.E).mono ?_);rintro e wq ⟨rfl,hb⟩;replace hb:=gq hb;replace bn:= (bn.alloc _).below hb;replace aU:= (aU.alloc _).below hb;replace bR:=bR.step hb;replace fD:=fD.step hb;replace hB:=eX hB hb hB.size;have sz:=hb.size;simp only [World.size_alloc] at sz;have av:=aB.below (aB.new _ #[.int .i64 0, .int .i64 0] 61) hb;obtain⟨bg,b_,eG,eH⟩ :=av.f2;clear hb;clear bC bD bE bF bS dB;obtain⟨bC,bD,bE,bF,bS,dB⟩ :=bn.f4;clear bT bU dD dF eU dX;obtain⟨bT,bU,dD,dF,eU,dX⟩ :=aU.f4))) | (go_at_call 31; (first| ((with_reducible refine(Qv _).mono ?_);rintro e wq ⟨rfl,hb⟩;replace bn:=bn.below hb;replace aU:=aU.below hb;replace bR:=bR.step0 hb;replace fD:=fD.step0 hb;replace hB:=hB.trans (hb.mono hB.size);have sz:=hb.size; (try replace av:=av.below hb); (try replace bg:=av.cell 0 _ rfl); (try replace b_:=av.cell 1 _ rfl); (try replace eG:=av.dn); (try replace eH:=av.lt);clear hb;clear bC bD bE bF bS dB;obtain⟨bC,bD,bE,bF,bS,dB⟩ :=bn.f4;clear bT bU dD dF eU dX;obtain⟨bT,bU,dD,dF,eU,dX⟩ :=aU.f4) | ((with_reducible refine(Qv _).mono ?_);rintro e wq ⟨rfl,hb⟩;replace hb:=gq hb;replace bn:=bn.below hb;replace aU:=aU.below hb;replace bR:=bR.step0 hb;replace fD:=fD.step0 hb;replace hB:=hB.trans (hb.mono hB.size);have sz:=hb.size; (try replace av:=av.below hb); (try replace bg:=av.cell 0 _ rfl); (try replace b_:=av.cell 1 _ rfl); (try replace eG:=av.dn); (try replace eH:=av.lt);clear hb;clear bC bD bE bF bS dB;obtain⟨bC,bD,bE,bF,bS,dB⟩ :=bn.f4;clear bT bU dD dF eU dX;obtain⟨bT,bU,dD,dF,eU,dX⟩ :=aU.f4) | ((with_reducible refine(Qv _).mono ?_);rintro e wq ⟨rfl,hb⟩;replace bn:= (bn.alloc _).below hb;replace aU:= (aU.alloc _).below hb;replace bR:=bR.step hb;replace fD:=fD.step hb;replace hB:=eX hB hb hB.size;have sz:=hb.size;simp only [World.size_alloc] at sz;have av:=aB.below (aB.new _ #[.int .i64 0, .int .i64 0] 61) hb;obtain⟨bg,b_,eG,eH⟩ :=av.f2;clear hb;clear bC bD bE bF bS dB;obtain⟨bC,bD,bE,bF,bS,dB⟩ :=bn.f4;clear bT bU dD dF eU dX;obtain⟨bT,bU,dD,dF,eU,dX⟩ :=aU.f4) | ((with_reducible refine(Qv _).mono ?_);rintro e wq ⟨rfl,hb⟩;replace hb:=gq hb;replace bn:= (bn.alloc _).below hb;replace aU:= (aU.alloc _).below hb;replace bR:=bR.step hb;replace fD:=fD.step hb;replace hB:=eX hB hb hB.size;have sz:=hb.size;simp only [World.size_alloc] at sz;have av:=aB.below (aB.new _ #[.int .i64 0, .int .i64 0] 61) hb;obtain⟨bg,b_,eG,eH⟩ :=av.f2;clear hb;clear bC bD bE bF bS dB;obtain⟨bC,bD,bE,bF,bS,dB⟩ :=bn.f4;clear bT bU dD dF eU dX;obtain⟨bT,bU,dD,dF,eU,dX⟩ :=aU.f4))))
   all_goals
    go_wp2_with fail
    go_meet
    first|exact⟨_,rfl,bn.alloc _,aU.alloc _,aB.new _ _ _,bR.aH _,fD.aH _,by omega,hB.alloc hB.size _,by simp<;>omega⟩ | (obtain⟨go,hgo,og⟩ :=av.ad;rw [←hgo];exact⟨go,rfl, ((bn.other (by omega) _).other (by omega) _), ((aU.other (by omega) _).other (by omega) _), ((og.set 0 _).set 1 _),bR.aM (F:= [go]) bW (fun g hg hm=>by simp only [List.mem_cons,List.not_mem_nil,or_false] at hm;have:=mX g hg;have:=jZ g hg;omega),fD.aM (F:= [go]) bW (fun g hg hm=>by simp only [List.mem_cons,List.not_mem_nil,or_false] at hm;have:=yY g hg;have:=Hr g hg;omega),by omega,Below.trans hB dQ,by simp<;>omega⟩)
  case rest=>
   clear bn bS dB bC bD bE bF
   clear aU eU dX bT bU dD dF
   clear bR
   clear fD
   clear hB
   obtain⟨go,rfl,bn,aU,av,bR,fD,j3,hB,sz⟩ :=hcut
   have h_:=av.lt
   obtain⟨bC,bD,bE,bF,bS,dB⟩ :=bn.f4
   obtain⟨bT,bU,dD,dF,eU,dX⟩ :=aU.f4
   obtain⟨bg,b_,eG,eH⟩ :=av.f2
   have Cr : ((fB.E.Y.l : Int) != 384) =false:=by
    have e:= (fE.len_ (show fE FI _ _ (.slice fB.E.Y.a fB.E.Y.l fB.E.Y.c) _ from fD.rd'.E.Y)).1
    rw [e,hbl]
    rfl
   go_wp2_with fail
   refine(DZ _ fB.I H.I y.I x.I fD.rd'.I bR.rd'.I).mono ?_
   rw [Rz,Le]
   rintro e w4 ⟨rfl,hb⟩
   replace bn:=bn.below hb
   replace aU:=aU.below hb
   replace av:=av.below hb
   replace bR:=bR.step0 hb
   replace fD:=fD.step0 hb
   replace hB:=hB.trans (hb.mono hB.size)
   have sz:=hb.size
   clear hb
   clear bC bD bE bF bS dB
   obtain⟨bC,bD,bE,bF,bS,dB⟩ :=bn.f4
   clear bT bU dD dF eU dX
   obtain⟨bT,bU,dD,dF,eU,dX⟩ :=aU.f4
   clear bg b_ eG eH
   obtain⟨bg,b_,eG,eH⟩ :=av.f2
   go_upto_region 15 with (fail)
   go_cut [17] from 87 to 112 (fun v17 wx=>v17= .int .i64 0∧aB wx (wi.heap.size) [.slice H.E.Y.a H.E.Y.l H.E.Y.c, .slice H.E.Z.a H.E.Z.l H.E.Z.c, .slice H.I.G.a H.I.G.l H.I.G.c, .slice H.I.O.a H.I.O.l H.I.O.c]∧aB wx (w1.heap.size) [.slice fB.E.Y.a fB.E.Y.l fB.E.Y.c, .slice fB.E.Z.a fB.E.Z.l fB.E.Z.c, .slice fB.I.G.a fB.I.G.l fB.I.G.c, .slice fB.I.O.a fB.I.O.l fB.I.O.c]∧aB wx (go) [.int .i64 F, .int .i64 T]∧d9 wx H x∧d9 wx fB y∧Below w.heap.size w wx)
   case first=>
    go_wp2_with fail
    go_meet
    exact⟨rfl,bn,aU,av,bR,fD,hB⟩
   case rest=>
    clear bn av aU bS eG eU hB bR fD bC bD bE bF bg b_ bT bU dD dF dB eH dX
    obtain⟨rfl,bn,aU,av,bR,fD,hB⟩ :=hcut
    go_wp2_with fail
    go_loopw [17] (fun v17 wr=> ∃i : Nat,v17= .int .i64 i∧i≤384∧aB wr (wi.heap.size) [.slice H.E.Y.a H.E.Y.l H.E.Y.c, .slice H.E.Z.a H.E.Z.l H.E.Z.c, .slice H.I.G.a H.I.G.l H.I.G.c, .slice H.I.O.a H.I.O.l H.I.O.c]∧aB wr (w1.heap.size) [.slice fB.E.Y.a fB.E.Y.l fB.E.Y.c, .slice fB.E.Z.a fB.E.Z.l fB.E.Z.c, .slice fB.I.G.a fB.I.G.l fB.I.G.c, .slice fB.I.O.a fB.I.O.l fB.I.O.c]∧aB wr (go) [.int .i64 F, .int .i64 T]∧d9 wr H x∧d9 wr fB y∧Below w.heap.size w wr) (fun i _=>384 - (intOf i).toNat)
    case atStart=>exact⟨0,rfl,by omega,bn,aU,av,bR,fD,hB⟩
    case round=>
     clear bn aU av bR fD hB
     obtain⟨wo,rfl⟩ : ∃W : World,W=wr:= ⟨_,rfl⟩
     obtain⟨i,rfl,kg,bn,aU,av,bR,fD,hB⟩ :=hrel
     have tZ:=bn.lt
     have rD:=aU.lt
     have h_:=av.lt
     obtain⟨bC,bD,bE,bF,bS,dB⟩ :=bn.f4
     obtain⟨bT,bU,dD,dF,eU,dX⟩ :=aU.f4
     obtain⟨bg,b_,eG,eH⟩ :=av.f2
     by_cases hlt : i<384
     case neg=>
      obtain rfl : i=384:=by omega
      go_wp2_with fail
      go_ret
      exact⟨rfl,hB⟩
     have nW : i<y.E.Y.length:=by omega
     have hlx : i<x.E.Y.length:=by omega
     obtain⟨g1,f1,kI,e1,lg,_,_,c1⟩ :=fD.rd'.E.Y.at_ (List.getElem?_eq_getElem nW)
     obtain⟨g2,f2,cp2,e2,lC,_,_,c2⟩ :=bR.rd'.E.Y.at_ (List.getElem?_eq_getElem hlx)
     have p1 : wo.cell? ⟨g1,f1+i,none⟩ =some (.int .i64 y.E.Y[i]) :=by simpa [FI] using c1 0 _ rfl
     have p2 : wo.cell? ⟨g2,f2+i,none⟩ =some (.int .i64 x.E.Y[i]) :=by simpa [FI] using c2 0 _ rfl
     have fK:=HE i
     rw [List.getD_eq_getElem?_getD,List.getD_eq_getElem?_getD,List.getElem?_eq_getElem nW,List.getElem?_eq_getElem hlx] at fK
     simp only [Option.getD_some] at fK
     generalize y.E.Y[i]=rG at *
     generalize x.E.Y[i]=gW at *
     rw [hbl] at e1
     rw [hbx] at e2
     have a1 : fB.E.Y.a=some ⟨g1,f1,none⟩ ∧fB.E.Y.l=384:=by
      have e : Value.slice fB.E.Y.a fB.E.Y.l fB.E.Y.c=_:=e1
      injection e with u1 u2
      exact⟨u1,u2⟩
     have a2 : H.E.Y.a=some ⟨g2,f2,none⟩ ∧H.E.Y.l=384:=by
      have e : Value.slice H.E.Y.a H.E.Y.l H.E.Y.c=_:=e2
      injection e with u1 u2
      exact⟨u1,u2⟩
     obtain⟨lG,a12⟩ :=a1
     obtain⟨a21,a22⟩ :=a2
     clear c1 c2 e1 e2 Cr HL H2 HE HF
     have hw3 : IntKind.i64.wrap (F+k) =F+k:=by rw [IntKind.wrap_i64];omega
     have hw4 : IntKind.i64.wrap (F+k+z) =F+k+z:=by rw [IntKind.wrap_i64];omega
     have hlt' : (i : Int) <384:=by omega
     by_cases gB : (i : Int) <F+k
     case pos=>
      obtain rfl : rG=gW:=fK (.inl gB)
      have d1 : decide ((i : Int) <F+k) =true:=decide_eq_true gB
      clear fK
      go_wp2_with fail
      go_quiet (fail)
      go_wp2_with fail
      go_roundw
      case rel=>exact⟨i+1,by go_num,by omega,bn.drewN _,aU.drewN _,av.drewN _,bR.keep (fun _ _=>rfl),fD.keep (fun _ _=>rfl),below_drewN hB _⟩
      case measure=>simp [intOf];omega
     have d1 : decide ((i : Int) <F+k) =false:=decide_eq_false gB
     by_cases gG : F+k+z≤ (i : Int)
     case pos=>
      obtain rfl : rG=gW:=fK (.inr gG)
      have d2 : decide (F+k+z≤ (i : Int)) =true:=decide_eq_true gG
      clear fK
      go_wp2_with fail
      go_quiet (fail)
      go_wp2_with fail
      go_roundw
      case rel=>exact⟨i+1,by go_num,by omega,bn.drewN _,aU.drewN _,av.drewN _,bR.keep (fun _ _=>rfl),fD.keep (fun _ _=>rfl),below_drewN hB _⟩
      case measure=>simp [intOf];omega
     have d2 : decide (F+k+z≤ (i : Int)) =false:=decide_eq_false gG
     clear fK
     go_wp2_with fail
     go_quiet (fail)
     go_wp2_with fail
     go_roundw
     case rel=>exact⟨i+1,by go_num,by omega,bn.drewN _,aU.drewN _,av.drewN _,bR.keep (fun _ _=>rfl),fD.keep (fun _ _=>rfl),below_drewN hB _⟩
     case measure=>simp [intOf];omega
end Go.Proofs.YtkmggglljkmjoaaGreat
