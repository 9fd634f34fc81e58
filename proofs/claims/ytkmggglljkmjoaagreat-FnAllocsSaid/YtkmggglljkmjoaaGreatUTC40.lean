/-
  FnAllocs, walked.
-/
import Derived.Test.YtkmggglljkmjoaaGreatUTC1
import Derived.Deep.QuietTactic
import Derived.BigQuiet
import Derived.Deep.LoopGhost
import Derived.Deep.RegionHeld3
import Derived.Test.YtkmggglljkmjoaaGreatUTC2
import Derived.WalkSpells
import Derived.Laws.Cover3
import Derived.Test.YtkmggglljkmjoaaGreatUTC39
import Derived.Test.YtkmggglljkmjoaaGreatUTC35
import Derived.Test.YtkmggglljkmjoaaGreatUTC36
import Derived.Test.YtkmggglljkmjoaaGreatUTC14
import Derived.Test.YtkmggglljkmjoaaGreatUTC9
import Derived.Test.YtkmggglljkmjoaaGreatUTC8
import Derived.Deep.CutRange
namespace Go.Proofs.YtkmggglljkmjoaaGreat
open Go.RowKit
open Go.Proofs.YtkmggglljkmjoaaGreat.Lim
set_option maxRecDepth 100000 in
set_option maxHeartbeats 8000000 in
theorem Gn (w : World)(v : Value)(code : List Int)(h : fE nK w w.heap.size v code)(hcb : ∀x∈code,0≤x∧x≤255) :
  Calls Tryz.prog 6 #[v] w fun e w'=>e= .returned (.bool true) ∧Below w.heap.size w w':=by
 obtain⟨A,c0,hv,q1,q2,_⟩ :=id h
 have m_ : code.length≤9223372036854775807:=by unfold maxLen at q2;omega
 subst hv
 clear q1 q2
 by_cases hs : code.length≤1048576
 case neg=>
  go_enter Tryz.func6,Tryz.ntmps6
  go_wp2_with fail
  refine(DY _ _ _ _ hs m_).mono ?_
  rintro e w1 ⟨rfl,rfl⟩
  go_wp2_with fail
  go_ret
  exact⟨rfl,Below.refl _ _⟩
 go_enter Tryz.func6,Tryz.ntmps6
 go_wp2_with fail
 refine(Gf _ _ _ _ hs).mono ?_
 rintro e w0 ⟨rfl,rfl⟩
 go_wp2_with fail
 refine(Dn _ _ code h hcb (by omega)).mono ?_
 rintro e wi ⟨H,x,a,n,rfl,bR,hz,mX,_,hB⟩
 clear h hcb hs m_
 have hz2 : dx x≤536870912:=by omega
 by_cases hc : (dS x a n).2.2=0
 case neg=>
  obtain⟨c,hcv⟩ : ∃c,c= (dS x a n).2.2:= ⟨_,rfl⟩
  have HF : dS x a n= (x,0,c) :=Prod.ext (yE hc).1 (Prod.ext (yE hc).2 hcv.symm)
  rw [←hcv] at hc
  clear hcv
  have jZ:=bR.lt
  go_wp2_with fail
  refine(mI HF hz2 _ (bR.aH _).rd').mono ?_
  rintro e w1 ⟨fB,rfl,fD,yY,hb⟩
  have Hr:=fD.lt
  simp only [World.size_alloc] at yY
  replace bR:=bR.step hb
  replace hB:=eX hB hb hB.size
  have sz:=hb.size
  simp only [World.size_alloc] at sz
  have bn:= (aB.new wi #[.slice H.E.Y.a H.E.Y.l H.E.Y.c, .slice H.E.Z.a H.E.Z.l H.E.Z.c, .slice H.I.G.a H.I.G.l H.I.G.c, .slice H.I.O.a H.I.O.l H.I.O.c] 31).below hb
  have tZ:=bn.lt
  clear hb
  obtain⟨bC,bD,bE,bF,bS,dB⟩ :=bn.f4
  go_wp2_with fail
  refine(Am HF hz2 _ (bR.aH _).rd').mono ?_
  rintro e w2 ⟨dM,rfl,jc,nX,hb⟩
  have qc:=jc.lt
  simp only [World.size_alloc] at nX
  replace bn:= (bn.alloc _).below hb
  replace bR:=bR.step hb
  have fD:=fD.step hb
  replace hB:=eX hB hb hB.size
  have sz:=hb.size
  simp only [World.size_alloc] at sz
  have aU:= (aB.new w1 #[.slice fB.E.Y.a fB.E.Y.l fB.E.Y.c, .slice fB.E.Z.a fB.E.Z.l fB.E.Z.c, .slice fB.I.G.a fB.I.G.l fB.I.G.c, .slice fB.I.O.a fB.I.O.l fB.I.O.c] 31).below hb
  have rD:=aU.lt
  clear hb
  clear bC bD bE bF bS dB
  obtain⟨bC,bD,bE,bF,bS,dB⟩ :=bn.f4
  obtain⟨bT,bU,dD,dF,eU,dX⟩ :=aU.f4
  go_wp2_with fail
  refine(sS _ fB H x x (fD.aH _).rd' (bR.aH _).rd').mono ?_
  rw [sU]
  rintro e w3 ⟨rfl,hb⟩
  replace bn:= (bn.alloc _).below hb
  replace aU:= (aU.alloc _).below hb
  replace bR:=bR.step hb
  replace fD:=fD.step hb
  have jc:=jc.step hb
  replace hB:=eX hB hb hB.size
  have sz:=hb.size
  simp only [World.size_alloc] at sz
  have dw:= (aB.new w2 #[.slice dM.E.Y.a dM.E.Y.l dM.E.Y.c, .slice dM.E.Z.a dM.E.Z.l dM.E.Z.c, .slice dM.I.G.a dM.I.G.l dM.I.G.c, .slice dM.I.O.a dM.I.O.l dM.I.O.c] 31).below hb
  have IB:=dw.lt
  clear hb
  clear bC bD bE bF bS dB
  obtain⟨bC,bD,bE,bF,bS,dB⟩ :=bn.f4
  clear bT bU dD dF eU dX
  obtain⟨bT,bU,dD,dF,eU,dX⟩ :=aU.f4
  obtain⟨iM,iN,iO,jf,nH,kS⟩ :=dw.f4
  go_wp2_with fail
  go_ret
  exact⟨rfl,hB⟩
 obtain⟨y,hd,s,cl,t,HF,hy,Nt,hok,hsl,s0,s1,vy,vm,hcl,hcy,hsy,hsm,ht,HL⟩ :=IE hc
 have hy2 : dx y≤536870912:=by omega
 have ys1 : jh y.I.G≤536870912:=by unfold dx bX at hy2;omega
 have ys2 : jh y.I.O≤536870912:=by unfold dx bX at hy2;omega
 have hs1 : jh x.I.G≤536870912:=by unfold dx bX at hz2;omega
 have hs2 : jh x.I.O≤536870912:=by unfold dx bX at hz2;omega
 have qh : ∀W,Calls Tryz.prog 30 #[.int .i64 hd] W fun e w'=>e= .returned (.int .i64 s) ∧W=w':=fun W=>by have k:=mP hd W hok;rw [hsl] at k;exact k
 have JK : ∀W,Calls Tryz.prog 38 #[.int .i64 n] W fun e w'=>e= .returned (.int .i64 cl) ∧W=w':=fun W=>by have k:=mF n W;rw [hcl] at k;exact k
 have Ch : ∀K W,gU W W.heap.size K y.E→Calls Tryz.prog 29 #[.agg #[.slice K.Y.a K.Y.l K.Y.c, .slice K.Z.a K.Z.l K.Z.c], .int .i64 s] W fun e w'=>e= .returned (.int .i64 cl) ∧Below W.heap.size W w':=fun K W hr=>by have k:=sw W K y.E s hr;rw [hcy] at k;exact k
 have ht2 : (t == 3) =false:=beq_eq_false_iff_ne.2 ht
 clear hc hok hsl hcl hcy ht
 have jZ:=bR.lt
 go_wp2_with fail
 refine(mI HF hz2 _ (bR.aH _).rd').mono ?_
 rintro e w1 ⟨fB,rfl,fD,yY,hb⟩
 have Hr:=fD.lt
 simp only [World.size_alloc] at yY
 replace bR:=bR.step hb
 replace hB:=eX hB hb hB.size
 have sz:=hb.size
 simp only [World.size_alloc] at sz
 have bn:= (aB.new wi #[.slice H.E.Y.a H.E.Y.l H.E.Y.c, .slice H.E.Z.a H.E.Z.l H.E.Z.c, .slice H.I.G.a H.I.G.l H.I.G.c, .slice H.I.O.a H.I.O.l H.I.O.c] 31).below hb
 have tZ:=bn.lt
 clear hb
 obtain⟨bC,bD,bE,bF,bS,dB⟩ :=bn.f4
 go_wp2_with fail
 refine(Am HF hz2 _ (bR.aH _).rd').mono ?_
 rintro e w2 ⟨dM,rfl,jc,nX,hb⟩
 have qc:=jc.lt
 simp only [World.size_alloc] at nX
 replace bn:= (bn.alloc _).below hb
 replace bR:=bR.step hb
 have fD:=fD.step hb
 replace hB:=eX hB hb hB.size
 have sz:=hb.size
 simp only [World.size_alloc] at sz
 have aU:= (aB.new w1 #[.slice fB.E.Y.a fB.E.Y.l fB.E.Y.c, .slice fB.E.Z.a fB.E.Z.l fB.E.Z.c, .slice fB.I.G.a fB.I.G.l fB.I.G.c, .slice fB.I.O.a fB.I.O.l fB.I.O.c] 31).below hb
 have rD:=aU.lt
 clear hb
 clear bC bD bE bF bS dB
 obtain⟨bC,bD,bE,bF,bS,dB⟩ :=bn.f4
 obtain⟨bT,bU,dD,dF,eU,dX⟩ :=aU.f4
 go_wp2_with (first| (go_at_call 30;with_reducible refine(qh _).mono ?_;rintro e wq ⟨rfl,rfl⟩))
 replace bn:=bn.alloc (.cells #[.slice dM.E.Y.a dM.E.Y.l dM.E.Y.c, .slice dM.E.Z.a dM.E.Z.l dM.E.Z.c, .slice dM.I.G.a dM.I.G.l dM.I.G.c, .slice dM.I.O.a dM.I.O.l dM.I.O.c] 31)
 replace aU:=aU.alloc (.cells #[.slice dM.E.Y.a dM.E.Y.l dM.E.Y.c, .slice dM.E.Z.a dM.E.Z.l dM.E.Z.c, .slice dM.I.G.a dM.I.G.l dM.I.G.c, .slice dM.I.O.a dM.I.O.l dM.I.O.c] 31)
 replace bR:=bR.aH (.cells #[.slice dM.E.Y.a dM.E.Y.l dM.E.Y.c, .slice dM.E.Z.a dM.E.Z.l dM.E.Z.c, .slice dM.I.G.a dM.I.G.l dM.I.G.c, .slice dM.I.O.a dM.I.O.l dM.I.O.c] 31)
 replace fD:=fD.aH (.cells #[.slice dM.E.Y.a dM.E.Y.l dM.E.Y.c, .slice dM.E.Z.a dM.E.Z.l dM.E.Z.c, .slice dM.I.G.a dM.I.G.l dM.I.G.c, .slice dM.I.O.a dM.I.O.l dM.I.O.c] 31)
 replace hB:=hB.alloc hB.size (.cells #[.slice dM.E.Y.a dM.E.Y.l dM.E.Y.c, .slice dM.E.Z.a dM.E.Z.l dM.E.Z.c, .slice dM.I.G.a dM.I.G.l dM.I.G.c, .slice dM.I.O.a dM.I.O.l dM.I.O.c] 31)
 have sz : w2.heap.size≤ (w2.alloc (.cells #[.slice dM.E.Y.a dM.E.Y.l dM.E.Y.c, .slice dM.E.Z.a dM.E.Z.l dM.E.Z.c, .slice dM.I.G.a dM.I.G.l dM.I.G.c, .slice dM.I.O.a dM.I.O.l dM.I.O.c] 31)).heap.size:=by simp
 generalize hG : (w2.alloc (.cells #[.slice dM.E.Y.a dM.E.Y.l dM.E.Y.c, .slice dM.E.Z.a dM.E.Z.l dM.E.Z.c, .slice dM.I.G.a dM.I.G.l dM.I.G.c, .slice dM.I.O.a dM.I.O.l dM.I.O.c] 31)) =wz at bn aU bR fD hB sz⊢
 clear hG jc nX qc
 clear bC bD bE bF bS dB
 obtain⟨bC,bD,bE,bF,bS,dB⟩ :=bn.f4
 clear bT bU dD dF eU dX
 obtain⟨bT,bU,dD,dF,eU,dX⟩ :=aU.f4
 go_region_held3 (fun w'=>w'.cell? ⟨wi.heap.size,0,none⟩ =some (.slice H.E.Y.a H.E.Y.l H.E.Y.c) ∧w'.cell? ⟨wi.heap.size,1,none⟩ =some (.slice H.E.Z.a H.E.Z.l H.E.Z.c) ∧w'.cell? ⟨wi.heap.size,2,none⟩ =some (.slice H.I.G.a H.I.G.l H.I.G.c) ∧w'.cell? ⟨wi.heap.size,3,none⟩ =some (.slice H.I.O.a H.I.O.l H.I.O.c) ∧w'.cell? ⟨w1.heap.size,0,none⟩ =some (.slice fB.E.Y.a fB.E.Y.l fB.E.Y.c) ∧w'.cell? ⟨w1.heap.size,1,none⟩ =some (.slice fB.E.Z.a fB.E.Z.l fB.E.Z.c) ∧w'.cell? ⟨w1.heap.size,2,none⟩ =some (.slice fB.I.G.a fB.I.G.l fB.I.G.c) ∧w'.cell? ⟨w1.heap.size,3,none⟩ =some (.slice fB.I.O.a fB.I.O.l fB.I.O.c)) (first| (with_reducible exact⟨bC,bD,bE,bF,bT,bU,dD,dF⟩) | (refine⟨?_, ?_, ?_, ?_, ?_, ?_, ?_, ?_⟩ <;> (repeat (first|with_reducible assumption|with_reducible refine fH ?_ (by omega) |with_reducible refine eF ?_ (by omega) |with_reducible refine fu ?_));done) | (go_keep;done)) (first| (go_at_call 19; (first| ((with_reducible refine(jA _ fB y fD.rd' ys1 ys2).mono ?_);rw [Nt];rintro e wq ⟨rfl,hb⟩;replace bn:=bn.below hb;replace aU:=aU.below hb;replace bR:=bR.step0 hb;replace fD:=fD.step0 hb;replace hB:=hB.trans (hb.mono hB.size);have sz:=hb.size;clear hb;clear bC bD bE bF bS dB;obtain⟨bC,bD,bE,bF,bS,dB⟩ :=bn.f4;clear bT bU dD dF eU dX;obtain⟨bT,bU,dD,dF,eU,dX⟩ :=aU.f4) | ((with_reducible refine(jA _ fB y (fD.bf).rd' ys1 ys2).mono ?_);rw [Nt];rintro e wq ⟨rfl,hb⟩;replace hb:=gq hb;replace bn:=bn.below hb;replace aU:=aU.below hb;replace bR:=bR.step0 hb;replace fD:=fD.step0 hb;replace hB:=hB.trans (hb.mono hB.size);have sz:=hb.size;clear hb;clear bC bD bE bF bS dB;obtain⟨bC,bD,bE,bF,bS,dB⟩ :=bn.f4;clear bT bU dD dF eU dX;obtain⟨bT,bU,dD,dF,eU,dX⟩ :=aU.f4))) | (go_at_call 36; (first| ((with_reducible refine(yc _ fB y hd fD.rd').mono ?_);rw [vy];rintro e wq ⟨rfl,hb⟩;replace bn:=bn.below hb;replace aU:=aU.below hb;replace bR:=bR.step0 hb;replace fD:=fD.step0 hb;replace hB:=hB.trans (hb.mono hB.size);have sz:=hb.size;clear hb;clear bC bD bE bF bS dB;obtain⟨bC,bD,bE,bF,bS,dB⟩ :=bn.f4;clear bT bU dD dF eU dX;obtain⟨bT,bU,dD,dF,eU,dX⟩ :=aU.f4) | ((with_reducible refine(yc _ fB y hd (fD.bf).rd').mono ?_);rw [vy];rintro e wq ⟨rfl,hb⟩;replace hb:=gq hb;replace bn:=bn.below hb;replace aU:=aU.below hb;replace bR:=bR.step0 hb;replace fD:=fD.step0 hb;replace hB:=hB.trans (hb.mono hB.size);have sz:=hb.size;clear hb;clear bC bD bE bF bS dB;obtain⟨bC,bD,bE,bF,bS,dB⟩ :=bn.f4;clear bT bU dD dF eU dX;obtain⟨bT,bU,dD,dF,eU,dX⟩ :=aU.f4))) | (go_at_call 37; (first| ((with_reducible refine(Cz _ H x hd bR.rd' hs1 hs2).mono ?_);rw [vm];rintro e wq ⟨rfl,hb⟩;replace bn:=bn.below hb;replace aU:=aU.below hb;replace bR:=bR.step0 hb;replace fD:=fD.step0 hb;replace hB:=hB.trans (hb.mono hB.size);have sz:=hb.size;clear hb;clear bC bD bE bF bS dB;obtain⟨bC,bD,bE,bF,bS,dB⟩ :=bn.f4;clear bT bU dD dF eU dX;obtain⟨bT,bU,dD,dF,eU,dX⟩ :=aU.f4) | ((with_reducible refine(Cz _ H x hd (bR.bf).rd' hs1 hs2).mono ?_);rw [vm];rintro e wq ⟨rfl,hb⟩;replace hb:=gq hb;replace bn:=bn.below hb;replace aU:=aU.below hb;replace bR:=bR.step0 hb;replace fD:=fD.step0 hb;replace hB:=hB.trans (hb.mono hB.size);have sz:=hb.size;clear hb;clear bC bD bE bF bS dB;obtain⟨bC,bD,bE,bF,bS,dB⟩ :=bn.f4;clear bT bU dD dF eU dX;obtain⟨bT,bU,dD,dF,eU,dX⟩ :=aU.f4))) | (go_at_call 38; (first| ((with_reducible refine(JK _).mono ?_);rintro e wq ⟨rfl,rfl⟩) | ((with_reducible refine(JK _).mono ?_);rintro e wq ⟨rfl,rfl⟩))) | (go_at_call 29; (first| ((with_reducible refine(Ch fB.E _ fD.rd'.E).mono ?_);rintro e wq ⟨rfl,hb⟩;replace bn:=bn.below hb;replace aU:=aU.below hb;replace bR:=bR.step0 hb;replace fD:=fD.step0 hb;replace hB:=hB.trans (hb.mono hB.size);have sz:=hb.size;clear hb;clear bC bD bE bF bS dB;obtain⟨bC,bD,bE,bF,bS,dB⟩ :=bn.f4;clear bT bU dD dF eU dX;obtain⟨bT,bU,dD,dF,eU,dX⟩ :=aU.f4) | ((with_reducible refine(Ch fB.E _ (fD.bf).rd'.E).mono ?_);rintro e wq ⟨rfl,hb⟩;replace hb:=gq hb;replace bn:=bn.below hb;replace aU:=aU.below hb;replace bR:=bR.step0 hb;replace fD:=fD.step0 hb;replace hB:=hB.trans (hb.mono hB.size);have sz:=hb.size;clear hb;clear bC bD bE bF bS dB;obtain⟨bC,bD,bE,bF,bS,dB⟩ :=bn.f4;clear bT bU dD dF eU dX;obtain⟨bT,bU,dD,dF,eU,dX⟩ :=aU.f4))) | (go_at_call 39; (first| ((with_reducible refine(r_ _ fB y s fD.rd').mono ?_);rw [hsy];rintro e wq ⟨rfl,hb⟩;replace bn:=bn.below hb;replace aU:=aU.below hb;replace bR:=bR.step0 hb;replace fD:=fD.step0 hb;replace hB:=hB.trans (hb.mono hB.size);have sz:=hb.size;clear hb;clear bC bD bE bF bS dB;obtain⟨bC,bD,bE,bF,bS,dB⟩ :=bn.f4;clear bT bU dD dF eU dX;obtain⟨bT,bU,dD,dF,eU,dX⟩ :=aU.f4) | ((with_reducible refine(r_ _ fB y s (fD.bf).rd').mono ?_);rw [hsy];rintro e wq ⟨rfl,hb⟩;replace hb:=gq hb;replace bn:=bn.below hb;replace aU:=aU.below hb;replace bR:=bR.step0 hb;replace fD:=fD.step0 hb;replace hB:=hB.trans (hb.mono hB.size);have sz:=hb.size;clear hb;clear bC bD bE bF bS dB;obtain⟨bC,bD,bE,bF,bS,dB⟩ :=bn.f4;clear bT bU dD dF eU dX;obtain⟨bT,bU,dD,dF,eU,dX⟩ :=aU.f4))) | (go_at_call 40; (first| ((with_reducible refine(sj _ H x s bR.rd' hs1 hs2).mono ?_);rw [hsm];rintro e wq ⟨rfl,hb⟩;replace bn:=bn.below hb;replace aU:=aU.below hb;replace bR:=bR.step0 hb;replace fD:=fD.step0 hb;replace hB:=hB.trans (hb.mono hB.size);have sz:=hb.size;clear hb;clear bC bD bE bF bS dB;obtain⟨bC,bD,bE,bF,bS,dB⟩ :=bn.f4;clear bT bU dD dF eU dX;obtain⟨bT,bU,dD,dF,eU,dX⟩ :=aU.f4) | ((with_reducible refine(sj _ H x s (bR.bf).rd' hs1 hs2).mono ?_);rw [hsm];rintro e wq ⟨rfl,hb⟩;replace hb:=gq hb;replace bn:=bn.below hb;replace aU:=aU.below hb;replace bR:=bR.step0 hb;replace fD:=fD.step0 hb;replace hB:=hB.trans (hb.mono hB.size);have sz:=hb.size;clear hb;clear bC bD bE bF bS dB;obtain⟨bC,bD,bE,bF,bS,dB⟩ :=bn.f4;clear bT bU dD dF eU dX;obtain⟨bT,bU,dD,dF,eU,dX⟩ :=aU.f4))))
 all_goals
  go_wp2_with fail
  go_loopw [13,14,15,16,17,18] (fun v13 v14 v15 v16 v17 v18 wr=> ∃ (i : Nat),v13= .int .i64 i∧i≤24∧aB wr wi.heap.size [.slice H.E.Y.a H.E.Y.l H.E.Y.c, .slice H.E.Z.a H.E.Z.l H.E.Z.c, .slice H.I.G.a H.I.G.l H.I.G.c, .slice H.I.O.a H.I.O.l H.I.O.c]∧aB wr (w1.heap.size) [.slice fB.E.Y.a fB.E.Y.l fB.E.Y.c, .slice fB.E.Z.a fB.E.Z.l fB.E.Z.c, .slice fB.I.G.a fB.I.G.l fB.I.G.c, .slice fB.I.O.a fB.I.O.l fB.I.O.c]∧d9 wr H x∧jO wr fB y∧Below w.heap.size w wr) (fun i _ _ _ _ _ _=>24 - (intOf i).toNat)
  case atStart=>exact⟨0,rfl,by omega,bn,aU,bR,fD,hB⟩
  case round=>
   clear bn aU bS eU hB bR fD bC bD bE bF bT bU dD dF dB dX
   obtain⟨wo,rfl⟩ : ∃W : World,W=wr:= ⟨_,rfl⟩
   obtain⟨i,rfl,Rt,bn,aU,bR,fD,hB⟩ :=hrel
   by_cases hlt : i<24
   case neg=>
    obtain rfl : i=24:=by omega
    have tZ:=bn.lt
    have rD:=aU.lt
    obtain⟨bC,bD,bE,bF,bS,dB⟩ :=bn.f4
    obtain⟨bT,bU,dD,dF,eU,dX⟩ :=aU.f4
    go_wp2_with fail
    go_ret
    exact⟨rfl,hB⟩
   by_cases hi : (i : Int) =s
   case pos=>
    have tZ:=bn.lt
    have rD:=aU.lt
    obtain⟨bC,bD,bE,bF,bS,dB⟩ :=bn.f4
    obtain⟨bT,bU,dD,dF,eU,dX⟩ :=aU.f4
    go_wp2_with fail
    go_roundw
    case rel=>exact⟨i+1,by go_num,by omega,bn,aU,bR,fD,hB⟩
    case measure=>simp [intOf];omega
   by_cases h3 : kM x i=3
   case neg=>
    obtain⟨u,hu⟩ : ∃u,kM x i=u:= ⟨_,rfl⟩
    rw [hu] at h3
    have h3' : (u == 3) =false:=beq_eq_false_iff_ne.2 h3
    have tZ:=bn.lt
    have rD:=aU.lt
    obtain⟨bC,bD,bE,bF,bS,dB⟩ :=bn.f4
    obtain⟨bT,bU,dD,dF,eU,dX⟩ :=aU.f4
    go_wp2_with fail
    refine(sj _ H x i bR.rd' hs1 hs2).mono ?_
    rw [hu]
    rintro e tF ⟨rfl,hb⟩
    replace bn:=bn.below hb
    replace aU:=aU.below hb
    replace bR:=bR.step0 hb
    replace fD:=fD.step0 hb
    replace hB:=hB.trans (hb.mono hB.size)
    have sz:=hb.size
    clear hb
    clear bC bD bE bF bS dB
    obtain⟨bC,bD,bE,bF,bS,dB⟩ :=bn.f4
    clear bT bU dD dF eU dX
    obtain⟨bT,bU,dD,dF,eU,dX⟩ :=aU.f4
    go_wp2_with fail
    go_roundw
    case rel=>exact⟨i+1,by go_num,by omega,bn,aU,bR,fD,hB⟩
    case measure=>simp [intOf];omega
   obtain⟨g,v,hg,g1,g2,L1,L2⟩ :=HL i hlt hi h3
   have Cc : ∀W,gU W W.heap.size H.E x.E→Calls Tryz.prog 42 #[.agg #[.slice H.E.Y.a H.E.Y.l H.E.Y.c, .slice H.E.Z.a H.E.Z.l H.E.Z.c], .int .i64 i] W fun e w'=>e= .returned (.int .i64 g) ∧Below W.heap.size W w':=fun W hr=>by have k:=Hy W H.E x.E i hr;rw [hg] at k;exact k
   have N9:=fun W=>q8 (i : Int) g W g2 g1
   clear hg g1 g2 HL
   generalize g * 32+ (i : Int) =hh at *
   have tZ:=bn.lt
   have rD:=aU.lt
   obtain⟨bC,bD,bE,bF,bS,dB⟩ :=bn.f4
   obtain⟨bT,bU,dD,dF,eU,dX⟩ :=aU.f4
   go_wp2_with fail
   refine(sj _ H x i bR.rd' hs1 hs2).mono ?_
   rw [h3]
   rintro e tF ⟨rfl,hb⟩
   replace bn:=bn.below hb
   replace aU:=aU.below hb
   replace bR:=bR.step0 hb
   replace fD:=fD.step0 hb
   replace hB:=hB.trans (hb.mono hB.size)
   have sz:=hb.size
   clear hb
   clear bC bD bE bF bS dB
   obtain⟨bC,bD,bE,bF,bS,dB⟩ :=bn.f4
   clear bT bU dD dF eU dX
   obtain⟨bT,bU,dD,dF,eU,dX⟩ :=aU.f4
   go_wp2_with fail
   refine(Cc _ bR.rd'.E).mono ?_
   rintro e F6 ⟨rfl,hb⟩
   replace bn:=bn.below hb
   replace aU:=aU.below hb
   replace bR:=bR.step0 hb
   replace fD:=fD.step0 hb
   replace hB:=hB.trans (hb.mono hB.size)
   have sz:=hb.size
   clear hb
   clear bC bD bE bF bS dB
   obtain⟨bC,bD,bE,bF,bS,dB⟩ :=bn.f4
   clear bT bU dD dF eU dX
   obtain⟨bT,bU,dD,dF,eU,dX⟩ :=aU.f4
   go_wp2_with ((first| (go_at_call 41;with_reducible refine(N9 _).mono ?_;rintro e wq ⟨rfl,rfl⟩)))
   refine(yJ L1 _ fD.rd').mono ?_
   rintro e Ru ⟨rfl,hb⟩
   replace bn:=bn.below hb
   replace aU:=aU.below hb
   replace bR:=bR.step0 hb
   replace fD:=fD.step0 hb
   replace hB:=hB.trans (hb.mono hB.size)
   have sz:=hb.size
   clear hb
   clear bC bD bE bF bS dB
   obtain⟨bC,bD,bE,bF,bS,dB⟩ :=bn.f4
   clear bT bU dD dF eU dX
   obtain⟨bT,bU,dD,dF,eU,dX⟩ :=aU.f4
   go_wp2_with fail
   refine(Iz L2 hz2 _ bR.rd').mono ?_
   rintro e Rv ⟨rfl,hb⟩
   replace bn:=bn.below hb
   replace aU:=aU.below hb
   replace bR:=bR.step0 hb
   replace fD:=fD.step0 hb
   replace hB:=hB.trans (hb.mono hB.size)
   have sz:=hb.size
   clear hb
   clear bC bD bE bF bS dB
   obtain⟨bC,bD,bE,bF,bS,dB⟩ :=bn.f4
   clear bT bU dD dF eU dX
   obtain⟨bT,bU,dD,dF,eU,dX⟩ :=aU.f4
   go_wp2_with fail
   go_roundw
   case rel=>exact⟨i+1,by go_num,by omega,bn,aU,bR,fD,hB⟩
   case measure=>simp [intOf];omega
end Go.Proofs.YtkmggglljkmjoaaGreat
