/-
  FnFrees, walked.
-/
import Derived.Test.YtkmggglljkmjoaaGreatUTC1
import Derived.Deep.QuietTactic
import Derived.BigQuiet
import Derived.Deep.LoopGhost
import Derived.Deep.RegionHeld3
import Derived.Test.YtkmggglljkmjoaaGreatUTC2
import Derived.WalkSpells
import Derived.Laws.Cover3
import Derived.Test.YtkmggglljkmjoaaGreatUTC35
import Derived.Test.YtkmggglljkmjoaaGreatUTC36
import Derived.Test.YtkmggglljkmjoaaGreatUTC33
import Derived.Test.YtkmggglljkmjoaaGreatUTC8
import Derived.Deep.CutRange
namespace Go.Proofs.YtkmggglljkmjoaaGreat
open Go.RowKit
open Go.Proofs.YtkmggglljkmjoaaGreat.Lim
set_option maxRecDepth 100000 in
set_option maxHeartbeats 8000000 in
theorem GN (w : World)(v : Value)(code : List Int)(h : fE nK w w.heap.size v code)(hcb : ∀x∈code,0≤x∧x≤255) :
  Calls Tryz.prog 7 #[v] w fun e w'=>e= .returned (.bool true) ∧Below w.heap.size w w':=by
 obtain⟨A,c0,hv,q1,q2,_⟩ :=id h
 have m_ : code.length≤9223372036854775807:=by unfold maxLen at q2;omega
 subst hv
 clear q1 q2
 by_cases hs : code.length≤1048576
 case neg=>
  go_enter Tryz.func7,Tryz.ntmps7
  go_wp2_with fail
  refine(DY _ _ _ _ hs m_).mono ?_
  rintro e w1 ⟨rfl,rfl⟩
  go_wp2_with fail
  go_ret
  exact⟨rfl,Below.refl _ _⟩
 go_enter Tryz.func7,Tryz.ntmps7
 go_wp2_with fail
 refine(Gf _ _ _ _ hs).mono ?_
 rintro e w0 ⟨rfl,rfl⟩
 go_wp2_with fail
 refine(DX _ _ code h hcb (by omega)).mono ?_
 rintro e wi ⟨H,x,a,av,rfl,bR,hz,mX,_,hB⟩
 clear h hcb hs m_
 have hz2 : dx x≤536870912:=by omega
 by_cases hc : (iw x a av).2=0
 case neg=>
  obtain⟨c,hcv⟩ : ∃c,c= (iw x a av).2:= ⟨_,rfl⟩
  have HF : iw x a av= (x,c) :=Prod.ext (Ey hc) hcv.symm
  rw [←hcv] at hc
  clear hcv
  have jZ:=bR.lt
  go_wp2_with fail
  refine(oq HF hz2 _ (bR.aH _).rd').mono ?_
  rintro e w1 ⟨fB,rfl,fD,yY,hb⟩
  have Hr:=fD.lt
  simp only [World.size_alloc] at yY
  replace bR:=bR.step hb
  replace hB:=eX hB hb hB.size
  have sz:=hb.size
  simp only [World.size_alloc] at sz
  have bn:= (aB.new wi #[.slice H.E.Y.a H.E.Y.l H.E.Y.c, .slice H.E.Z.a H.E.Z.l H.E.Z.c, .slice H.I.G.a H.I.G.l H.I.G.c, .slice H.I.O.a H.I.O.l H.I.O.c] 31).below hb
  have tZ:=bn.lt
  clear hb
  obtain⟨bC,bD,bE,bF,bS,dB⟩ :=bn.f4
  go_wp2_with fail
  refine(Bn HF hz2 _ (bR.aH _).rd').mono ?_
  rintro e w2 ⟨dM,rfl,jc,nX,hb⟩
  have qc:=jc.lt
  simp only [World.size_alloc] at nX
  replace bn:= (bn.alloc _).below hb
  replace bR:=bR.step hb
  have fD:=fD.step hb
  replace hB:=eX hB hb hB.size
  have sz:=hb.size
  simp only [World.size_alloc] at sz
  have aU:= (aB.new w1 #[.slice fB.E.Y.a fB.E.Y.l fB.E.Y.c, .slice fB.E.Z.a fB.E.Z.l fB.E.Z.c, .slice fB.I.G.a fB.I.G.l fB.I.G.c, .slice fB.I.O.a fB.I.O.l fB.I.O.c] 31).below hb
  have rD:=aU.lt
  clear hb
  clear bC bD bE bF bS dB
  obtain⟨bC,bD,bE,bF,bS,dB⟩ :=bn.f4
  obtain⟨bT,bU,dD,dF,eU,dX⟩ :=aU.f4
  go_wp2_with fail
  refine(sS _ fB H x x (fD.aH _).rd' (bR.aH _).rd').mono ?_
  rw [sU]
  rintro e w3 ⟨rfl,hb⟩
  replace bn:= (bn.alloc _).below hb
  replace aU:= (aU.alloc _).below hb
  replace bR:=bR.step hb
  replace fD:=fD.step hb
  have jc:=jc.step hb
  replace hB:=eX hB hb hB.size
  have sz:=hb.size
  simp only [World.size_alloc] at sz
  have dw:= (aB.new w2 #[.slice dM.E.Y.a dM.E.Y.l dM.E.Y.c, .slice dM.E.Z.a dM.E.Z.l dM.E.Z.c, .slice dM.I.G.a dM.I.G.l dM.I.G.c, .slice dM.I.O.a dM.I.O.l dM.I.O.c] 31).below hb
  have IB:=dw.lt
  clear hb
  clear bC bD bE bF bS dB
  obtain⟨bC,bD,bE,bF,bS,dB⟩ :=bn.f4
  clear bT bU dD dF eU dX
  obtain⟨bT,bU,dD,dF,eU,dX⟩ :=aU.f4
  obtain⟨iM,iN,iO,jf,nH,kS⟩ :=dw.f4
  go_wp2_with fail
  refine(Bh _).mono ?_
  rintro e w4 ⟨aG,rfl,bZ,dY,hb⟩
  have u_n:=bZ.lt
  replace bn:=bn.below hb
  replace aU:=aU.below hb
  replace dw:=dw.below hb
  replace bR:=bR.step0 hb
  replace fD:=fD.step0 hb
  replace jc:=jc.step0 hb
  replace hB:=hB.trans (hb.mono hB.size)
  have sz:=hb.size
  clear hb
  clear bC bD bE bF bS dB
  obtain⟨bC,bD,bE,bF,bS,dB⟩ :=bn.f4
  clear bT bU dD dF eU dX
  obtain⟨bT,bU,dD,dF,eU,dX⟩ :=aU.f4
  clear iM iN iO jf nH kS
  obtain⟨iM,iN,iO,jf,nH,kS⟩ :=dw.f4
  have R0 : uW lN 1:= .inl ⟨rfl,rfl⟩
  generalize lN=m0 at *
  have hW:=hB.size
  go_wp2_with fail
  generalize hO : Obj.cells #[.slice aG.E.Y.a aG.E.Y.l aG.E.Y.c, .slice aG.E.Z.a aG.E.Z.l aG.E.Z.c, .slice aG.I.G.a aG.I.G.l aG.I.G.c, .slice aG.I.O.a aG.I.O.l aG.I.O.c] 31=O_
  replace bn:=bn.alloc O_
  replace aU:=aU.alloc O_
  replace dw:=dw.alloc O_
  replace bR:=bR.aH O_
  replace fD:=fD.aH O_
  replace jc:=jc.aH O_
  replace bZ:=bZ.aH O_
  replace hB:=hB.alloc hB.size O_
  have B_n : aB (w4.alloc O_) w4.heap.size [.slice aG.E.Y.a aG.E.Y.l aG.E.Y.c, .slice aG.E.Z.a aG.E.Z.l aG.E.Z.c, .slice aG.I.G.a aG.I.G.l aG.I.G.c, .slice aG.I.O.a aG.I.O.l aG.I.O.c]:=hO ▸ aB.new _ _ _
  have yK:=B_n.lt
  have sz : w4.heap.size≤ (w4.alloc O_).heap.size:=Nat.le_of_lt B_n.lt
  generalize hG : (w4.alloc O_) =w5 at bn aU dw bR fD jc bZ hB B_n yK sz⊢
  clear hG hO O_
  clear bC bD bE bF bS dB
  obtain⟨bC,bD,bE,bF,bS,dB⟩ :=bn.f4
  clear bT bU dD dF eU dX
  obtain⟨bT,bU,dD,dF,eU,dX⟩ :=aU.f4
  clear iM iN iO jf nH kS
  obtain⟨iM,iN,iO,jf,nH,kS⟩ :=dw.f4
  obtain⟨j4,j5,j6,j_,lF,mY⟩ :=B_n.f4
  go_loopw [15,16,17,18,19] (fun v15 v16 _ _ _ wr=> ∃ (i : Nat) (K : bP) (m : Mem),v15= .int .i64 0∧v16= .int .i64 i∧1≤i∧i≤7∧uW m i∧aB wr w4.heap.size [.slice K.E.Y.a K.E.Y.l K.E.Y.c, .slice K.E.Z.a K.E.Z.l K.E.Z.c, .slice K.I.G.a K.I.G.l K.I.G.c, .slice K.I.O.a K.I.O.l K.I.O.c]∧d9 wr K m∧Below w.heap.size w wr) (fun _ i _ _ _ _=>7 - (intOf i).toNat)
  case atStart=>exact⟨1,aG,m0,rfl,rfl,by omega,by omega,R0,B_n,bZ,hB⟩
  case round=>
   clear bn B_n aU dw bS lF eU nH hB bR fD jc bC bD bE bF j4 j5 j6 j_ bT bU dD dF iM iN iO jf dB mY dX kS
   obtain⟨wo,rfl⟩ : ∃W : World,W=wr:= ⟨_,rfl⟩
   obtain⟨i,aG,m,rfl,rfl,h1,h7,hR,B_n,bZ,hB⟩ :=hrel
   have hsz:=EG hR
   by_cases hlt : i≤6
   ·obtain⟨y,z,ha,hf,hy,hR2⟩ :=Hq hR h1 hlt
    obtain⟨hok,hs0,hg0⟩ :=Df h1 hlt
    have qh : ∀W,Calls Tryz.prog 48 #[.int .i64 ((i * 32 : Nat) : Int)] W fun e w'=>e= .returned (.int .i64 0) ∧W=w':=fun W=>by have k:=qg _ W hok;rw [hs0] at k;exact k
    have Cc : ∀W,Calls Tryz.prog 49 #[.int .i64 ((i * 32 : Nat) : Int)] W fun e w'=>e= .returned (.int .i64 (i : Int)) ∧W=w':=fun W=>by have k:=xO _ W hok;rw [hg0] at k;exact k
    clear hok hs0 hg0
    generalize ((i * 32 : Nat) : Int) =hd at *
    by_cases hi1 : (i : Int) =1
    ·have yK:=B_n.lt
     obtain⟨j4,j5,j6,j_,lF,mY⟩ :=B_n.f4
     go_wp2_with fail
     refine(mI ha (by omega) _ bZ.rd').mono ?_
     rintro e tF ⟨iY,rfl,oV,JG,hb⟩
     have JH:=oV.lt
     replace B_n:=B_n.below hb
     replace bZ:=bZ.step0 hb
     replace hB:=hB.trans (hb.mono hB.size)
     have sz:=hb.size
     clear hb
     clear j4 j5 j6 j_ lF mY
     obtain⟨j4,j5,j6,j_,lF,mY⟩ :=B_n.f4
     go_wp2_with ((first| (go_at_call 48;with_reducible refine(qh _).mono ?_;rintro e wq ⟨rfl,rfl⟩) | (go_at_call 49;with_reducible refine(Cc _).mono ?_;rintro e wq ⟨rfl,rfl⟩)))
     refine(oq hf (by omega) _ (oV.aH _).rd').mono ?_
     rintro e F6 ⟨dM,rfl,jc,nX,hb⟩
     have qc:=jc.lt
     simp only [World.size_alloc] at nX
     replace B_n:= (B_n.alloc _).below hb
     replace bZ:=bZ.step hb
     have oV:=oV.step hb
     replace hB:=eX hB hb hB.size
     have sz:=hb.size
     simp only [World.size_alloc] at sz
     have uR:= (aB.new tF #[.slice iY.E.Y.a iY.E.Y.l iY.E.Y.c, .slice iY.E.Z.a iY.E.Z.l iY.E.Z.c, .slice iY.I.G.a iY.I.G.l iY.I.G.c, .slice iY.I.O.a iY.I.O.l iY.I.O.c] 31).below hb
     have Gi:=uR.lt
     clear hb
     clear j4 j5 j6 j_ lF mY
     obtain⟨j4,j5,j6,j_,lF,mY⟩ :=B_n.f4
     obtain⟨Dh,Di,Dj,Dk,Gj,JI⟩ :=uR.f4
     go_wp2_with fail
     go_roundw
     case rel=>exact⟨i+1,dM,z,rfl,by go_num,by omega,by omega,hR2, ((((B_n.set 0 (.slice dM.E.Y.a dM.E.Y.l dM.E.Y.c)).set 1 (.slice dM.E.Z.a dM.E.Z.l dM.E.Z.c)).set 2 (.slice dM.I.G.a dM.I.G.l dM.I.G.c)).set 3 (.slice dM.I.O.a dM.I.O.l dM.I.O.c)),jc.aM (F:= [w4.heap.size]) bW (fun b hb hm=>by simp only [List.mem_cons,List.not_mem_nil,or_false] at hm;have:=nX b hb;omega),Below.trans hB dQ⟩
     case measure=>simp [intOf];omega
    ·have yK:=B_n.lt
     obtain⟨j4,j5,j6,j_,lF,mY⟩ :=B_n.f4
     go_wp2_with fail
     refine(mI ha (by omega) _ bZ.rd').mono ?_
     rintro e tF ⟨iY,rfl,oV,JG,hb⟩
     have JH:=oV.lt
     replace B_n:=B_n.below hb
     replace bZ:=bZ.step0 hb
     replace hB:=hB.trans (hb.mono hB.size)
     have sz:=hb.size
     clear hb
     clear j4 j5 j6 j_ lF mY
     obtain⟨j4,j5,j6,j_,lF,mY⟩ :=B_n.f4
     go_wp2_with ((first| (go_at_call 48;with_reducible refine(qh _).mono ?_;rintro e wq ⟨rfl,rfl⟩) | (go_at_call 49;with_reducible refine(Cc _).mono ?_;rintro e wq ⟨rfl,rfl⟩)))
     refine(oq hf (by omega) _ (oV.aH _).rd').mono ?_
     rintro e F6 ⟨dM,rfl,jc,nX,hb⟩
     have qc:=jc.lt
     simp only [World.size_alloc] at nX
     replace B_n:= (B_n.alloc _).below hb
     replace bZ:=bZ.step hb
     have oV:=oV.step hb
     replace hB:=eX hB hb hB.size
     have sz:=hb.size
     simp only [World.size_alloc] at sz
     have uR:= (aB.new tF #[.slice iY.E.Y.a iY.E.Y.l iY.E.Y.c, .slice iY.E.Z.a iY.E.Z.l iY.E.Z.c, .slice iY.I.G.a iY.I.G.l iY.I.G.c, .slice iY.I.O.a iY.I.O.l iY.I.O.c] 31).below hb
     have Gi:=uR.lt
     clear hb
     clear j4 j5 j6 j_ lF mY
     obtain⟨j4,j5,j6,j_,lF,mY⟩ :=B_n.f4
     obtain⟨Dh,Di,Dj,Dk,Gj,JI⟩ :=uR.f4
     go_wp2_with fail
     go_roundw
     case rel=>exact⟨i+1,dM,z,rfl,by go_num,by omega,by omega,hR2, ((((B_n.set 0 (.slice dM.E.Y.a dM.E.Y.l dM.E.Y.c)).set 1 (.slice dM.E.Z.a dM.E.Z.l dM.E.Z.c)).set 2 (.slice dM.I.G.a dM.I.G.l dM.I.G.c)).set 3 (.slice dM.I.O.a dM.I.O.l dM.I.O.c)),jc.aM (F:= [w4.heap.size]) bW (fun b hb hm=>by simp only [List.mem_cons,List.not_mem_nil,or_false] at hm;have:=nX b hb;omega),Below.trans hB dQ⟩
     case measure=>simp [intOf];omega
   ·obtain rfl : i=7:=by omega
    obtain⟨y,hd,ha,hst,hok,hs4⟩ :=Gg hR
    have qh : ∀W,Calls Tryz.prog 48 #[.int .i64 hd] W fun e w'=>e= .returned (.int .i64 4) ∧W=w':=fun W=>by have k:=qg _ W hok;rw [hs4] at k;exact k
    clear hok hs4
    have yK:=B_n.lt
    obtain⟨j4,j5,j6,j_,lF,mY⟩ :=B_n.f4
    go_wp2_with fail
    refine(mI ha (by omega) _ bZ.rd').mono ?_
    rintro e tF ⟨iY,rfl,oV,JG,hb⟩
    have JH:=oV.lt
    replace B_n:=B_n.below hb
    replace bZ:=bZ.step0 hb
    replace hB:=hB.trans (hb.mono hB.size)
    have sz:=hb.size
    clear hb
    clear j4 j5 j6 j_ lF mY
    obtain⟨j4,j5,j6,j_,lF,mY⟩ :=B_n.f4
    go_wp2_with fail
    refine(r_ _ aG m 0 (bZ.aH _).rd').mono ?_
    rw [hst]
    rintro e F6 ⟨rfl,hb⟩
    replace B_n:= (B_n.alloc _).below hb
    replace bZ:=bZ.step hb
    have oV:=oV.step hb
    replace hB:=eX hB hb hB.size
    have sz:=hb.size
    simp only [World.size_alloc] at sz
    have uR:= (aB.new tF #[.slice iY.E.Y.a iY.E.Y.l iY.E.Y.c, .slice iY.E.Z.a iY.E.Z.l iY.E.Z.c, .slice iY.I.G.a iY.I.G.l iY.I.G.c, .slice iY.I.O.a iY.I.O.l iY.I.O.c] 31).below hb
    have Gi:=uR.lt
    clear hb
    clear j4 j5 j6 j_ lF mY
    obtain⟨j4,j5,j6,j_,lF,mY⟩ :=B_n.f4
    obtain⟨Dh,Di,Dj,Dk,Gj,JI⟩ :=uR.f4
    go_wp2_with (first| (go_at_call 48;with_reducible refine(qh _).mono ?_;rintro e wq ⟨rfl,rfl⟩))
    go_ret
    exact⟨rfl,hB⟩
 obtain⟨ok,hv,hld,hfr,hsz⟩ :=Iy hc
 obtain⟨y,hy⟩ : ∃y,y= (iw x a av).1:= ⟨_,rfl⟩
 have HF : iw x a av= (y,0) :=Prod.ext hy.symm hc
 rw [←hy] at ok hv hld hfr hsz
 obtain⟨v0,hv0⟩ : ∃v,v= (ko y av 0 1).1:= ⟨_,rfl⟩
 have HL : ko y av 0 1= (v0,4) :=Prod.ext hv0.symm hld
 have hy2 : dx y≤536870912:=by omega
 have hs1 : jh y.I.G≤536870912:=by unfold dx bX at hy2;omega
 have hs2 : jh y.I.O≤536870912:=by unfold dx bX at hy2;omega
 clear hc hy hv0 hld hsz
 have jZ:=bR.lt
 go_wp2_with fail
 refine(oq HF hz2 _ (bR.aH _).rd').mono ?_
 rintro e w1 ⟨fB,rfl,fD,yY,hb⟩
 have Hr:=fD.lt
 simp only [World.size_alloc] at yY
 replace bR:=bR.step hb
 replace hB:=eX hB hb hB.size
 have sz:=hb.size
 simp only [World.size_alloc] at sz
 have bn:= (aB.new wi #[.slice H.E.Y.a H.E.Y.l H.E.Y.c, .slice H.E.Z.a H.E.Z.l H.E.Z.c, .slice H.I.G.a H.I.G.l H.I.G.c, .slice H.I.O.a H.I.O.l H.I.O.c] 31).below hb
 have tZ:=bn.lt
 clear hb
 obtain⟨bC,bD,bE,bF,bS,dB⟩ :=bn.f4
 go_wp2_with fail
 refine(Bn HF hz2 _ (bR.aH _).rd').mono ?_
 rintro e w2 ⟨dM,rfl,jc,nX,hb⟩
 have qc:=jc.lt
 simp only [World.size_alloc] at nX
 replace bn:= (bn.alloc _).below hb
 replace bR:=bR.step hb
 have fD:=fD.step hb
 replace hB:=eX hB hb hB.size
 have sz:=hb.size
 simp only [World.size_alloc] at sz
 have aU:= (aB.new w1 #[.slice fB.E.Y.a fB.E.Y.l fB.E.Y.c, .slice fB.E.Z.a fB.E.Z.l fB.E.Z.c, .slice fB.I.G.a fB.I.G.l fB.I.G.c, .slice fB.I.O.a fB.I.O.l fB.I.O.c] 31).below hb
 have rD:=aU.lt
 clear hb
 clear bC bD bE bF bS dB
 obtain⟨bC,bD,bE,bF,bS,dB⟩ :=bn.f4
 obtain⟨bT,bU,dD,dF,eU,dX⟩ :=aU.f4
 go_wp2_with fail
 refine(yJ HL _ (fD.aH _).rd').mono ?_
 rintro e w3 ⟨rfl,hb⟩
 replace bn:= (bn.alloc _).below hb
 replace aU:= (aU.alloc _).below hb
 replace bR:=bR.step hb
 replace fD:=fD.step hb
 have jc:=jc.step hb
 replace hB:=eX hB hb hB.size
 have sz:=hb.size
 simp only [World.size_alloc] at sz
 have dw:= (aB.new w2 #[.slice dM.E.Y.a dM.E.Y.l dM.E.Y.c, .slice dM.E.Z.a dM.E.Z.l dM.E.Z.c, .slice dM.I.G.a dM.I.G.l dM.I.G.c, .slice dM.I.O.a dM.I.O.l dM.I.O.c] 31).below hb
 have IB:=dw.lt
 clear hb
 clear bC bD bE bF bS dB
 obtain⟨bC,bD,bE,bF,bS,dB⟩ :=bn.f4
 clear bT bU dD dF eU dX
 obtain⟨bT,bU,dD,dF,eU,dX⟩ :=aU.f4
 obtain⟨iM,iN,iO,jf,nH,kS⟩ :=dw.f4
 go_wp2_with fail
 refine(oq hfr hy2 _ fD.rd').mono ?_
 rintro e w4 ⟨xP,rfl,wR,Rq,hb⟩
 have Rs:=wR.lt
 replace bn:=bn.below hb
 replace aU:=aU.below hb
 replace dw:=dw.below hb
 replace bR:=bR.step0 hb
 replace fD:=fD.step0 hb
 replace jc:=jc.step0 hb
 replace hB:=hB.trans (hb.mono hB.size)
 have sz:=hb.size
 clear hb
 clear bC bD bE bF bS dB
 obtain⟨bC,bD,bE,bF,bS,dB⟩ :=bn.f4
 clear bT bU dD dF eU dX
 obtain⟨bT,bU,dD,dF,eU,dX⟩ :=aU.f4
 clear iM iN iO jf nH kS
 obtain⟨iM,iN,iO,jf,nH,kS⟩ :=dw.f4
 go_wp2_with fail
 refine(sS _ fB xP y y (fD.aH _).rd' (wR.aH _).rd').mono ?_
 rw [sU]
 rintro e w5 ⟨rfl,hb⟩
 replace bn:= (bn.alloc _).below hb
 replace aU:= (aU.alloc _).below hb
 replace dw:= (dw.alloc _).below hb
 replace bR:=bR.step hb
 replace fD:=fD.step hb
 replace jc:=jc.step hb
 have wR:=wR.step hb
 replace hB:=eX hB hb hB.size
 have sz:=hb.size
 simp only [World.size_alloc] at sz
 have qd:= (aB.new w4 #[.slice xP.E.Y.a xP.E.Y.l xP.E.Y.c, .slice xP.E.Z.a xP.E.Z.l xP.E.Z.c, .slice xP.I.G.a xP.I.G.l xP.I.G.c, .slice xP.I.O.a xP.I.O.l xP.I.O.c] 31).below hb
 have Qu:=qd.lt
 clear hb
 clear bC bD bE bF bS dB
 obtain⟨bC,bD,bE,bF,bS,dB⟩ :=bn.f4
 clear bT bU dD dF eU dX
 obtain⟨bT,bU,dD,dF,eU,dX⟩ :=aU.f4
 clear iM iN iO jf nH kS
 obtain⟨iM,iN,iO,jf,nH,kS⟩ :=dw.f4
 obtain⟨vH,vI,vJ,vK,yL,Dl⟩ :=qd.f4
 go_wp2_with fail
 refine(jA _ fB y fD.rd' hs1 hs2).mono ?_
 rw [ok]
 rintro e w6 ⟨rfl,hb⟩
 replace bn:=bn.below hb
 replace aU:=aU.below hb
 replace dw:=dw.below hb
 replace qd:=qd.below hb
 replace bR:=bR.step0 hb
 replace fD:=fD.step0 hb
 replace jc:=jc.step0 hb
 replace wR:=wR.step0 hb
 replace hB:=hB.trans (hb.mono hB.size)
 have sz:=hb.size
 clear hb
 clear bC bD bE bF bS dB
 obtain⟨bC,bD,bE,bF,bS,dB⟩ :=bn.f4
 clear bT bU dD dF eU dX
 obtain⟨bT,bU,dD,dF,eU,dX⟩ :=aU.f4
 clear iM iN iO jf nH kS
 obtain⟨iM,iN,iO,jf,nH,kS⟩ :=dw.f4
 clear vH vI vJ vK yL Dl
 obtain⟨vH,vI,vJ,vK,yL,Dl⟩ :=qd.f4
 go_wp2_with fail
 refine(yc _ fB y av fD.rd').mono ?_
 rw [hv]
 rintro e w7 ⟨rfl,hb⟩
 replace bn:=bn.below hb
 replace aU:=aU.below hb
 replace dw:=dw.below hb
 replace qd:=qd.below hb
 replace bR:=bR.step0 hb
 replace fD:=fD.step0 hb
 replace jc:=jc.step0 hb
 replace wR:=wR.step0 hb
 replace hB:=hB.trans (hb.mono hB.size)
 have sz:=hb.size
 clear hb
 clear bC bD bE bF bS dB
 obtain⟨bC,bD,bE,bF,bS,dB⟩ :=bn.f4
 clear bT bU dD dF eU dX
 obtain⟨bT,bU,dD,dF,eU,dX⟩ :=aU.f4
 clear iM iN iO jf nH kS
 obtain⟨iM,iN,iO,jf,nH,kS⟩ :=dw.f4
 clear vH vI vJ vK yL Dl
 obtain⟨vH,vI,vJ,vK,yL,Dl⟩ :=qd.f4
 go_wp2_with fail
 refine(Bh _).mono ?_
 rintro e w8 ⟨aG,rfl,bZ,dY,hb⟩
 have u_n:=bZ.lt
 replace bn:=bn.below hb
 replace aU:=aU.below hb
 replace dw:=dw.below hb
 replace qd:=qd.below hb
 replace bR:=bR.step0 hb
 replace fD:=fD.step0 hb
 replace jc:=jc.step0 hb
 replace wR:=wR.step0 hb
 replace hB:=hB.trans (hb.mono hB.size)
 have sz:=hb.size
 clear hb
 clear bC bD bE bF bS dB
 obtain⟨bC,bD,bE,bF,bS,dB⟩ :=bn.f4
 clear bT bU dD dF eU dX
 obtain⟨bT,bU,dD,dF,eU,dX⟩ :=aU.f4
 clear iM iN iO jf nH kS
 obtain⟨iM,iN,iO,jf,nH,kS⟩ :=dw.f4
 clear vH vI vJ vK yL Dl
 obtain⟨vH,vI,vJ,vK,yL,Dl⟩ :=qd.f4
 have R0 : uW lN 1:= .inl ⟨rfl,rfl⟩
 generalize lN=m0 at *
 have hW:=hB.size
 go_wp2_with fail
 generalize hO : Obj.cells #[.slice aG.E.Y.a aG.E.Y.l aG.E.Y.c, .slice aG.E.Z.a aG.E.Z.l aG.E.Z.c, .slice aG.I.G.a aG.I.G.l aG.I.G.c, .slice aG.I.O.a aG.I.O.l aG.I.O.c] 31=O_
 replace bn:=bn.alloc O_
 replace aU:=aU.alloc O_
 replace dw:=dw.alloc O_
 replace qd:=qd.alloc O_
 replace bR:=bR.aH O_
 replace fD:=fD.aH O_
 replace jc:=jc.aH O_
 replace wR:=wR.aH O_
 replace bZ:=bZ.aH O_
 replace hB:=hB.alloc hB.size O_
 have B_n : aB (w8.alloc O_) w8.heap.size [.slice aG.E.Y.a aG.E.Y.l aG.E.Y.c, .slice aG.E.Z.a aG.E.Z.l aG.E.Z.c, .slice aG.I.G.a aG.I.G.l aG.I.G.c, .slice aG.I.O.a aG.I.O.l aG.I.O.c]:=hO ▸ aB.new _ _ _
 have yK:=B_n.lt
 have sz : w8.heap.size≤ (w8.alloc O_).heap.size:=Nat.le_of_lt B_n.lt
 generalize hG : (w8.alloc O_) =w9 at bn aU dw qd bR fD jc wR bZ hB B_n yK sz⊢
 clear hG hO O_
 clear bC bD bE bF bS dB
 obtain⟨bC,bD,bE,bF,bS,dB⟩ :=bn.f4
 clear bT bU dD dF eU dX
 obtain⟨bT,bU,dD,dF,eU,dX⟩ :=aU.f4
 clear iM iN iO jf nH kS
 obtain⟨iM,iN,iO,jf,nH,kS⟩ :=dw.f4
 clear vH vI vJ vK yL Dl
 obtain⟨vH,vI,vJ,vK,yL,Dl⟩ :=qd.f4
 obtain⟨j4,j5,j6,j_,lF,mY⟩ :=B_n.f4
 go_loopw [15,16,17,18,19] (fun v15 v16 _ _ _ wr=> ∃ (i : Nat) (K : bP) (m : Mem),v15= .int .i64 0∧v16= .int .i64 i∧1≤i∧i≤7∧uW m i∧aB wr w8.heap.size [.slice K.E.Y.a K.E.Y.l K.E.Y.c, .slice K.E.Z.a K.E.Z.l K.E.Z.c, .slice K.I.G.a K.I.G.l K.I.G.c, .slice K.I.O.a K.I.O.l K.I.O.c]∧d9 wr K m∧Below w.heap.size w wr) (fun _ i _ _ _ _=>7 - (intOf i).toNat)
 case atStart=>exact⟨1,aG,m0,rfl,rfl,by omega,by omega,R0,B_n,bZ,hB⟩
 case round=>
  clear bn B_n qd aU dw bS lF yL eU nH hB bR wR fD jc bC bD bE bF j4 j5 j6 j_ vH vI vJ vK bT bU dD dF iM iN iO jf dB mY Dl dX kS
  obtain⟨wo,rfl⟩ : ∃W : World,W=wr:= ⟨_,rfl⟩
  obtain⟨i,aG,m,rfl,rfl,h1,h7,hR,B_n,bZ,hB⟩ :=hrel
  have hsz:=EG hR
  by_cases hlt : i≤6
  ·obtain⟨y,z,ha,hf,hy,hR2⟩ :=Hq hR h1 hlt
   obtain⟨hok,hs0,hg0⟩ :=Df h1 hlt
   have qh : ∀W,Calls Tryz.prog 48 #[.int .i64 ((i * 32 : Nat) : Int)] W fun e w'=>e= .returned (.int .i64 0) ∧W=w':=fun W=>by have k:=qg _ W hok;rw [hs0] at k;exact k
   have Cc : ∀W,Calls Tryz.prog 49 #[.int .i64 ((i * 32 : Nat) : Int)] W fun e w'=>e= .returned (.int .i64 (i : Int)) ∧W=w':=fun W=>by have k:=xO _ W hok;rw [hg0] at k;exact k
   clear hok hs0 hg0
   generalize ((i * 32 : Nat) : Int) =hd at *
   by_cases hi1 : (i : Int) =1
   ·have yK:=B_n.lt
    obtain⟨j4,j5,j6,j_,lF,mY⟩ :=B_n.f4
    go_wp2_with fail
    refine(mI ha (by omega) _ bZ.rd').mono ?_
    rintro e tF ⟨iY,rfl,oV,JG,hb⟩
    have JH:=oV.lt
    replace B_n:=B_n.below hb
    replace bZ:=bZ.step0 hb
    replace hB:=hB.trans (hb.mono hB.size)
    have sz:=hb.size
    clear hb
    clear j4 j5 j6 j_ lF mY
    obtain⟨j4,j5,j6,j_,lF,mY⟩ :=B_n.f4
    go_wp2_with ((first| (go_at_call 48;with_reducible refine(qh _).mono ?_;rintro e wq ⟨rfl,rfl⟩) | (go_at_call 49;with_reducible refine(Cc _).mono ?_;rintro e wq ⟨rfl,rfl⟩)))
    refine(oq hf (by omega) _ (oV.aH _).rd').mono ?_
    rintro e F6 ⟨dM,rfl,jc,nX,hb⟩
    have qc:=jc.lt
    simp only [World.size_alloc] at nX
    replace B_n:= (B_n.alloc _).below hb
    replace bZ:=bZ.step hb
    have oV:=oV.step hb
    replace hB:=eX hB hb hB.size
    have sz:=hb.size
    simp only [World.size_alloc] at sz
    have uR:= (aB.new tF #[.slice iY.E.Y.a iY.E.Y.l iY.E.Y.c, .slice iY.E.Z.a iY.E.Z.l iY.E.Z.c, .slice iY.I.G.a iY.I.G.l iY.I.G.c, .slice iY.I.O.a iY.I.O.l iY.I.O.c] 31).below hb
    have Gi:=uR.lt
    clear hb
    clear j4 j5 j6 j_ lF mY
    obtain⟨j4,j5,j6,j_,lF,mY⟩ :=B_n.f4
    obtain⟨Dh,Di,Dj,Dk,Gj,JI⟩ :=uR.f4
    go_wp2_with fail
    go_roundw
    case rel=>exact⟨i+1,dM,z,rfl,by go_num,by omega,by omega,hR2, ((((B_n.set 0 (.slice dM.E.Y.a dM.E.Y.l dM.E.Y.c)).set 1 (.slice dM.E.Z.a dM.E.Z.l dM.E.Z.c)).set 2 (.slice dM.I.G.a dM.I.G.l dM.I.G.c)).set 3 (.slice dM.I.O.a dM.I.O.l dM.I.O.c)),jc.aM (F:= [w8.heap.size]) bW (fun b hb hm=>by simp only [List.mem_cons,List.not_mem_nil,or_false] at hm;have:=nX b hb;omega),Below.trans hB dQ⟩
    case measure=>simp [intOf];omega
   ·have yK:=B_n.lt
    obtain⟨j4,j5,j6,j_,lF,mY⟩ :=B_n.f4
    go_wp2_with fail
    refine(mI ha (by omega) _ bZ.rd').mono ?_
    rintro e tF ⟨iY,rfl,oV,JG,hb⟩
    have JH:=oV.lt
    replace B_n:=B_n.below hb
    replace bZ:=bZ.step0 hb
    replace hB:=hB.trans (hb.mono hB.size)
    have sz:=hb.size
    clear hb
    clear j4 j5 j6 j_ lF mY
    obtain⟨j4,j5,j6,j_,lF,mY⟩ :=B_n.f4
    go_wp2_with ((first| (go_at_call 48;with_reducible refine(qh _).mono ?_;rintro e wq ⟨rfl,rfl⟩) | (go_at_call 49;with_reducible refine(Cc _).mono ?_;rintro e wq ⟨rfl,rfl⟩)))
    refine(oq hf (by omega) _ (oV.aH _).rd').mono ?_
    rintro e F6 ⟨dM,rfl,jc,nX,hb⟩
    have qc:=jc.lt
    simp only [World.size_alloc] at nX
    replace B_n:= (B_n.alloc _).below hb
    replace bZ:=bZ.step hb
    have oV:=oV.step hb
    replace hB:=eX hB hb hB.size
    have sz:=hb.size
    simp only [World.size_alloc] at sz
    have uR:= (aB.new tF #[.slice iY.E.Y.a iY.E.Y.l iY.E.Y.c, .slice iY.E.Z.a iY.E.Z.l iY.E.Z.c, .slice iY.I.G.a iY.I.G.l iY.I.G.c, .slice iY.I.O.a iY.I.O.l iY.I.O.c] 31).below hb
    have Gi:=uR.lt
    clear hb
    clear j4 j5 j6 j_ lF mY
    obtain⟨j4,j5,j6,j_,lF,mY⟩ :=B_n.f4
    obtain⟨Dh,Di,Dj,Dk,Gj,JI⟩ :=uR.f4
    go_wp2_with fail
    go_roundw
    case rel=>exact⟨i+1,dM,z,rfl,by go_num,by omega,by omega,hR2, ((((B_n.set 0 (.slice dM.E.Y.a dM.E.Y.l dM.E.Y.c)).set 1 (.slice dM.E.Z.a dM.E.Z.l dM.E.Z.c)).set 2 (.slice dM.I.G.a dM.I.G.l dM.I.G.c)).set 3 (.slice dM.I.O.a dM.I.O.l dM.I.O.c)),jc.aM (F:= [w8.heap.size]) bW (fun b hb hm=>by simp only [List.mem_cons,List.not_mem_nil,or_false] at hm;have:=nX b hb;omega),Below.trans hB dQ⟩
    case measure=>simp [intOf];omega
  ·obtain rfl : i=7:=by omega
   obtain⟨y,hd,ha,hst,hok,hs4⟩ :=Gg hR
   have qh : ∀W,Calls Tryz.prog 48 #[.int .i64 hd] W fun e w'=>e= .returned (.int .i64 4) ∧W=w':=fun W=>by have k:=qg _ W hok;rw [hs4] at k;exact k
   clear hok hs4
   have yK:=B_n.lt
   obtain⟨j4,j5,j6,j_,lF,mY⟩ :=B_n.f4
   go_wp2_with fail
   refine(mI ha (by omega) _ bZ.rd').mono ?_
   rintro e tF ⟨iY,rfl,oV,JG,hb⟩
   have JH:=oV.lt
   replace B_n:=B_n.below hb
   replace bZ:=bZ.step0 hb
   replace hB:=hB.trans (hb.mono hB.size)
   have sz:=hb.size
   clear hb
   clear j4 j5 j6 j_ lF mY
   obtain⟨j4,j5,j6,j_,lF,mY⟩ :=B_n.f4
   go_wp2_with fail
   refine(r_ _ aG m 0 (bZ.aH _).rd').mono ?_
   rw [hst]
   rintro e F6 ⟨rfl,hb⟩
   replace B_n:= (B_n.alloc _).below hb
   replace bZ:=bZ.step hb
   have oV:=oV.step hb
   replace hB:=eX hB hb hB.size
   have sz:=hb.size
   simp only [World.size_alloc] at sz
   have uR:= (aB.new tF #[.slice iY.E.Y.a iY.E.Y.l iY.E.Y.c, .slice iY.E.Z.a iY.E.Z.l iY.E.Z.c, .slice iY.I.G.a iY.I.G.l iY.I.G.c, .slice iY.I.O.a iY.I.O.l iY.I.O.c] 31).below hb
   have Gi:=uR.lt
   clear hb
   clear j4 j5 j6 j_ lF mY
   obtain⟨j4,j5,j6,j_,lF,mY⟩ :=B_n.f4
   obtain⟨Dh,Di,Dj,Dk,Gj,JI⟩ :=uR.f4
   go_wp2_with (first| (go_at_call 48;with_reducible refine(qh _).mono ?_;rintro e wq ⟨rfl,rfl⟩))
   go_ret
   exact⟨rfl,hB⟩
end Go.Proofs.YtkmggglljkmjoaaGreat
