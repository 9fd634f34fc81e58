/- m -/
import Derived.Test.YtkmggglljkmjoaaGreatUHRanges44
import Derived.Test.YtkmggglljkmjoaaGreatUHRanges42
import Derived.Test.YtkmggglljkmjoaaGreatUHRanges46
import Derived.Test.YtkmggglljkmjoaaGreatUHRanges41
set_option maxRecDepth 100000
set_option maxHeartbeats 8000000
namespace Go.Proofs.YtkmggglljkmjoaaGreat
open Go.RowKit
theorem Ht (w : World)(H : aA)(x : Base)(wk : Nat)(hw : wk<3)(s : aO)(h : dz w H x)(b : BInv x)(he : dV s.e) : Calls Tryz.prog 237 #[H.val x, .int .i64 wk,s.val] w (gQ w H) :=by
 obtain⟨k,a,p,e,r,bb,hh,o,c,d⟩ :=s;obtain⟨l,hl⟩ : ∃l,x.aB[wk]? =some l:= ⟨_,XL (by rw [b.lim];exact hw)⟩;by_cases c0 : p=0
 ·subst c0;exact Jy w H x wk k a e r bb hh o c d h b he hw
 by_cases c1 : p=1
 ·subst c1;exact Jz w H x wk k a e r bb hh o c d h b he hw
 by_cases c2 : p=2
 ·subst c2
  by_cases h1 : bG 0 2 bb=true
  ·by_cases h2 : bG 0 ((l.length : Int) - 1) r=true
   ·obtain⟨j,rfl⟩ :=XP (bH.1 h1).1
    obtain⟨i,rfl⟩ :=XP (bH.1 h2).1;have hj : j<3:=by have:= (bH.1 h1).2;omega
    have hi : i<l.length:=by have:= (bH.1 h2).2;omega
    by_cases h3 : l[i].Handle=hh
    ·have hz : ∃z,x.bf[j]? =some z:= ⟨_,XL (by rw [b.haz];exact hj)⟩
     obtain⟨z,hz⟩ :=hz;by_cases h4 : (z == hh) =true
     ·exact G_ w H x wk i j hh k a e o c d h b he hw l hl hi hj h3 (fun y hy=>by rw [hz] at hy;cases hy;exact h4)
     ·by_cases h5 : ((j : Int) +1 == 3) =true
      ·exact He w H x wk i j hh k a e o c d h b he hw l hl hi hj h3 (fun y hy=>by rw [hz] at hy;cases hy;exact(XM _).mp h4) h5
      ·exact Hf w H x wk i j hh k a e o c d h b he hw l hl hi hj h3 (fun y hy=>by rw [hz] at hy;cases hy;exact(XM _).mp h4) ((XM _).mp h5)
    ·exact G9 w H x wk i k a e (j : Int) hh o c d h b he hw l hl hi h1 (by simpa using h3)
   ·exact G8 w H x wk k a e r bb hh o c d h b he hw l hl h1 ((XM _).mp h2)
  ·exact G7 w H x wk k a e r bb hh o c d h b he hw ((XM _).mp h1)
 by_cases c3 : p=3
 ·subst c3
  by_cases h2 : bG 0 ((l.length : Int) - 1) r=true
  ·obtain⟨i,rfl⟩ :=XP (bH.1 h2).1
   have hi : i<l.length:=by have:= (bH.1 h2).2;omega
   by_cases h3 : l[i].Handle=hh
   ·by_cases h4 : wC l[i] e=true
    ·exact Hr w H x wk i hh k a e bb o c d h b he hw l hl hi h3 h4
    ·exact Hq w H x wk i hh k a e bb o c d h b he hw l hl hi h3 ((XM _).mp h4)
   ·exact Ho w H x wk i k a e bb hh o c d h b he hw l hl hi (by simpa using h3)
  ·exact Hg w H x wk k a e r bb hh o c d h b he hw l hl ((XM _).mp h2)
 exact Jw w H x wk k a p e r bb hh o c d h b he hw (by simpa using c0) (by simpa using c1) (by simpa using c2) (by simpa using c3)
end Go.Proofs.YtkmggglljkmjoaaGreat
namespace Go.Proofs.YtkmggglljkmjoaaGreat
open Go.RowKit
open Go.Proofs.YtkmggglljkmjoaaGreat.Lim
def RF (w : World)(g : Nat)(code : List Int)(e : Ending)(w' : World) : Prop:= ∃ (H : bV) (x : Mem) (a : Int),e= .returned (.tuple #[.agg #[.slice H.E.Y.a H.E.Y.l H.E.Y.c, .slice H.E.Z.a H.E.Z.l H.E.Z.c, .slice H.I.G.a H.I.G.l H.I.G.c, .slice H.I.O.a H.I.O.l H.I.O.c], .int .i64 a]) ∧fq w' H x∧eF x≤1000∧ (∀b∈H.foot,w.heap.size≤b) ∧fQ w' g code∧bn [g] w w'
theorem O7 (w : World)(g : Nat)(code : List Int)(hc : fQ w g code) : Calls Tryz.prog 69 #[.pointer (some ⟨g,0,none⟩)] w (RF w g code) :=by
 have hgl:=hc.lt;obtain⟨w0,hW0⟩ : ∃x,x= (w.alloc (.cells #[.slice none 0 0, .slice none 0 0, .slice none 0 0, .slice none 0 0] 31)) := ⟨_,rfl⟩;have aj : aJ w0 (w.heap.size) [.slice none 0 0, .slice none 0 0, .slice none 0 0, .slice none 0 0]:=by
  rw [hW0];exact aJ.nw
 have hC : bn [g] w w0:=hW0 ▸ (bn.refl [g] w).av _;replace hc : fQ w0 g code:=hW0 ▸ (hc).alloc _;go_enter Tryz.func69,Tryz.ntmps69;go_wp2_with fail;rw [←hW0];clear hW0;have kL:=aj.lt;have JI : w.heap.size≤w.heap.size:=by omega
 have sC:=hC.size;obtain⟨ak,au,aV,aW,aH,aR⟩ :=aj.f4;refine(Od _ g code hc).mono ?_;rintro e w1 ⟨dL,x,a,rfl,fZ,HP,ru,hcn,hx⟩;replace hc:=hcn;replace aj:=aj.aM hx (by simp only [Pe,Pd,XK];omega);replace hC:=hC.trans hx;have sz:=hx.size;replace sC:=hC.size;clear hx;have mK:=fZ.lt;clear ak au aV aW aH aR;obtain⟨ak,au,aV,aW,aH,aR⟩ :=aj.f4;have hsz:=nH HP;clear HP;go_wp2_with fail;generalize hO : Obj.cells #[.slice dL.E.Y.a dL.E.Y.l dL.E.Y.c, .slice dL.E.Z.a dL.E.Z.l dL.E.Z.c, .slice dL.I.G.a dL.I.G.l dL.I.G.c, .slice dL.I.O.a dL.I.O.l dL.I.O.c] 31=O_;replace aj:=aj.alloc O_;replace fZ:=fZ.av O_;replace hC:=hC.av O_;replace hc:=hc.alloc O_;have dZ : aJ (w1.alloc O_) w1.heap.size [.slice dL.E.Y.a dL.E.Y.l dL.E.Y.c, .slice dL.E.Z.a dL.E.Z.l dL.E.Z.c, .slice dL.I.G.a dL.I.G.l dL.I.G.c, .slice dL.I.O.a dL.I.O.l dL.I.O.c]:=hO ▸ aJ.new _ _ _;have OW:=dZ.lt;have sz : w1.heap.size≤ (w1.alloc O_).heap.size:=X7 dZ.lt;have TT : w.heap.size≤w1.heap.size:=by omega
 generalize hG : (w1.alloc O_) =w2 at aj fZ hC hc dZ OW sz⊢;clear hG hO O_;replace sC:=hC.size;clear ak au aV aW aH aR;obtain⟨ak,au,aV,aW,aH,aR⟩ :=aj.f4;obtain⟨fA,fB,fD,fE,gD,iF⟩ :=dZ.f4;refine(vG _ g code 6 (by unfold dV;omega) hc).mono ?_;rintro e w3 ⟨b,rfl,hcn,hx⟩;replace hc:=hcn;replace aj:=aj.aM hx (by simp only [Pe,Pd,XK];omega);replace dZ:=dZ.aM hx (by simp only [Pe,Pd,XK];omega);replace fZ:=fZ.aM hx (fun b hb hm=>by simp only [Pe,Pd,XK] at hm;have:=ru b hb;have:=mK b hb;omega);replace hC:=hC.trans hx;have sz:=hx.size;replace sC:=hC.size;clear hx
 skip
 clear ak au aV aW aH aR;obtain⟨ak,au,aV,aW,aH,aR⟩ :=aj.f4;clear fA fB fD fE gD iF;obtain⟨fA,fB,fD,fE,gD,iF⟩ :=dZ.f4;cases b with
 |false=>
  go_wp2_with fail;refine(bU _ g code 24 (by unfold dV;omega) hc).mono ?_;rintro e XA ⟨k,rfl,k0,k1,hcn,hx⟩;replace hc:=hcn;replace aj:=aj.aM hx (by simp only [Pe,Pd,XK];omega);replace dZ:=dZ.aM hx (by simp only [Pe,Pd,XK];omega);replace fZ:=fZ.aM hx (fun b hb hm=>by simp only [Pe,Pd,XK] at hm;have:=ru b hb;have:=mK b hb;omega);replace hC:=hC.trans hx;have sz:=hx.size;replace sC:=hC.size;clear hx
  skip
  clear ak au aV aW aH aR;obtain⟨ak,au,aV,aW,aH,aR⟩ :=aj.f4;clear fA fB fD fE gD iF;obtain⟨fA,fB,fD,fE,gD,iF⟩ :=dZ.f4;by_cases e0 : k=0
  case pos=>
   subst e0;go_wp2_with fail;refine(JU _ g code hc).mono ?_;rintro e wk ⟨dJ,y,rfl,o_,hy,qc,hcn,hx⟩;replace hc:=hcn;replace aj:=aj.aM hx (by simp only [Pe,Pd,XK];omega);replace dZ:=dZ.aM hx (by simp only [Pe,Pd,XK];omega);replace fZ:=fZ.aM hx (fun b hb hm=>by simp only [Pe,Pd,XK] at hm;have:=ru b hb;have:=mK b hb;omega);replace hC:=hC.trans hx;have sz:=hx.size;replace sC:=hC.size;clear hx;clear ak au aV aW aH aR;obtain⟨ak,au,aV,aW,aH,aR⟩ :=aj.f4;clear fA fB fD fE gD iF;obtain⟨fA,fB,fD,fE,gD,iF⟩ :=dZ.f4;have xS:=o_.lt;have oW : fq wk ⟨dJ,dL.I⟩ ⟨y,x.I⟩ := ⟨o_,fZ.I,fun b hb hm=>by have:=qc b hb;have:=mK b (bV.aI.2 (.inr hm));omega⟩;have gW : ∀b∈bV.foot ⟨dJ,dL.I⟩,w.heap.size<b∧b≠w1.heap.size:=fun b hb=>by rcases bV.aI.1 hb with h1|h1; (have:=qc b h1;omega); (have:=ru b (bV.aI.2 (.inr h1));have:=mK b (bV.aI.2 (.inr h1));omega)
   go_wp2_with fail;refine bodyPost_ret (v:= .tuple #[.agg #[.slice dJ.Y.a dJ.Y.l dJ.Y.c, .slice dJ.Z.a dJ.Z.l dJ.Z.c, .slice dL.I.G.a dL.I.G.l dL.I.G.c, .slice dL.I.O.a dL.I.O.l dL.I.O.c], .int .i64 a]) (by simp [results,Tryz.results69,go_sem,ak,au,aV,aW]) rfl ⟨⟨dJ,dL.I⟩, ⟨y,x.I⟩,a,rfl,oW.aM (F:= [w.heap.size,w1.heap.size]) dx (fun b hb hm=>by simp only [Pe,Pd,XK] at hm;have:=gW b hb;omega),by unfold eF at hsz⊢;simp only;omega,fun b hb=>by have:=gW b hb;omega,hc.jg (B:=w.heap.size) hgl dU hC.size,hC.then_ dU⟩
  have Rw : (k == 0) =false:=by simpa using e0
  by_cases e1 : k=1
  case pos=>
   subst e1;go_wp2_with fail;refine(JX _ g code hc).mono ?_;rintro e wk ⟨dJ,y,rfl,o_,hy,qc,hcn,hx⟩;replace hc:=hcn;replace aj:=aj.aM hx (by simp only [Pe,Pd,XK];omega);replace dZ:=dZ.aM hx (by simp only [Pe,Pd,XK];omega);replace fZ:=fZ.aM hx (fun b hb hm=>by simp only [Pe,Pd,XK] at hm;have:=ru b hb;have:=mK b hb;omega);replace hC:=hC.trans hx;have sz:=hx.size;replace sC:=hC.size;clear hx;clear ak au aV aW aH aR;obtain⟨ak,au,aV,aW,aH,aR⟩ :=aj.f4;clear fA fB fD fE gD iF;obtain⟨fA,fB,fD,fE,gD,iF⟩ :=dZ.f4;have xS:=o_.lt;have oW : fq wk ⟨dL.E,dJ⟩ ⟨x.E,y⟩ := ⟨fZ.E,o_,fun b hb hm=>by have:=qc b hm;have:=mK b (bV.aI.2 (.inl hb));omega⟩;have gW : ∀b∈bV.foot ⟨dL.E,dJ⟩,w.heap.size<b∧b≠w1.heap.size:=fun b hb=>by rcases bV.aI.1 hb with h1|h1; (have:=ru b (bV.aI.2 (.inl h1));have:=mK b (bV.aI.2 (.inl h1));omega); (have:=qc b h1;omega)
   go_wp2_with fail;refine bodyPost_ret (v:= .tuple #[.agg #[.slice dL.E.Y.a dL.E.Y.l dL.E.Y.c, .slice dL.E.Z.a dL.E.Z.l dL.E.Z.c, .slice dJ.G.a dJ.G.l dJ.G.c, .slice dJ.O.a dJ.O.l dJ.O.c], .int .i64 a]) (by simp [results,Tryz.results69,go_sem,ak,au,aV,aW]) rfl ⟨⟨dL.E,dJ⟩, ⟨x.E,y⟩,a,rfl,oW.aM (F:= [w.heap.size,w1.heap.size]) dx (fun b hb hm=>by simp only [Pe,Pd,XK] at hm;have:=gW b hb;omega),by unfold eF at hsz⊢;simp only;omega,fun b hb=>by have:=gW b hb;omega,hc.jg (B:=w.heap.size) hgl dU hC.size,hC.then_ dU⟩
  have Rx : (k == 1) =false:=by simpa using e1
  clear e0 e1;go_wp2_with fail;refine bodyPost_ret (v:= .tuple #[.agg #[.slice dL.E.Y.a dL.E.Y.l dL.E.Y.c, .slice dL.E.Z.a dL.E.Z.l dL.E.Z.c, .slice dL.I.G.a dL.I.G.l dL.I.G.c, .slice dL.I.O.a dL.I.O.l dL.I.O.c], .int .i64 a]) (by simp [results,Tryz.results69,go_sem,ak,au,aV,aW]) rfl ⟨dL,x,a,rfl,fZ.aM (F:= [w.heap.size]) dx (fun b hb hm=>by simp only [Pe,Pd,XK] at hm;have:=ru b hb;have:=mK b hb;omega),by omega,fun b hb=>by have:=ru b hb;omega,hc.jg (B:=w.heap.size) hgl dU hC.size,hC.then_ dU⟩
 |true=>
  go_wp2_with fail;refine(yt _ g code hc).mono ?_;rintro e XB ⟨h6,rfl,XC,XD,hcn,hx⟩;replace hc:=hcn;replace aj:=aj.aM hx (by simp only [Pe,Pd,XK];omega);replace dZ:=dZ.aM hx (by simp only [Pe,Pd,XK];omega);replace fZ:=fZ.aM hx (fun b hb hm=>by simp only [Pe,Pd,XK] at hm;have:=ru b hb;have:=mK b hb;omega);replace hC:=hC.trans hx;have sz:=hx.size;replace sC:=hC.size;clear hx
  skip
  clear ak au aV aW aH aR;obtain⟨ak,au,aV,aW,aH,aR⟩ :=aj.f4;clear fA fB fD fE gD iF;obtain⟨fA,fB,fD,fE,gD,iF⟩ :=dZ.f4;go_wp2_with fail;refine(bU _ g code 24 (by unfold dV;omega) hc).mono ?_;rintro e XE ⟨k,rfl,k0,k1,hcn,hx⟩;replace hc:=hcn;replace aj:=aj.aM hx (by simp only [Pe,Pd,XK];omega);replace dZ:=dZ.aM hx (by simp only [Pe,Pd,XK];omega);replace fZ:=fZ.aM hx (fun b hb hm=>by simp only [Pe,Pd,XK] at hm;have:=ru b hb;have:=mK b hb;omega);replace hC:=hC.trans hx;have sz:=hx.size;replace sC:=hC.size;clear hx
  skip
  clear ak au aV aW aH aR;obtain⟨ak,au,aV,aW,aH,aR⟩ :=aj.f4;clear fA fB fD fE gD iF;obtain⟨fA,fB,fD,fE,gD,iF⟩ :=dZ.f4;by_cases e0 : k=0
  case pos=>
   subst e0;go_wp2_with fail;refine(JU _ g code hc).mono ?_;rintro e wk ⟨dJ,y,rfl,o_,hy,qc,hcn,hx⟩;replace hc:=hcn;replace aj:=aj.aM hx (by simp only [Pe,Pd,XK];omega);replace dZ:=dZ.aM hx (by simp only [Pe,Pd,XK];omega);replace fZ:=fZ.aM hx (fun b hb hm=>by simp only [Pe,Pd,XK] at hm;have:=ru b hb;have:=mK b hb;omega);replace hC:=hC.trans hx;have sz:=hx.size;replace sC:=hC.size;clear hx;clear ak au aV aW aH aR;obtain⟨ak,au,aV,aW,aH,aR⟩ :=aj.f4;clear fA fB fD fE gD iF;obtain⟨fA,fB,fD,fE,gD,iF⟩ :=dZ.f4;have xS:=o_.lt;have oW : fq wk ⟨dJ,dL.I⟩ ⟨y,x.I⟩ := ⟨o_,fZ.I,fun b hb hm=>by have:=qc b hb;have:=mK b (bV.aI.2 (.inr hm));omega⟩;have gW : ∀b∈bV.foot ⟨dJ,dL.I⟩,w.heap.size<b∧b≠w1.heap.size:=fun b hb=>by rcases bV.aI.1 hb with h1|h1; (have:=qc b h1;omega); (have:=ru b (bV.aI.2 (.inr h1));have:=mK b (bV.aI.2 (.inr h1));omega)
   go_wp2_with fail;refine bodyPost_ret (v:= .tuple #[.agg #[.slice dJ.Y.a dJ.Y.l dJ.Y.c, .slice dJ.Z.a dJ.Z.l dJ.Z.c, .slice dL.I.G.a dL.I.G.l dL.I.G.c, .slice dL.I.O.a dL.I.O.l dL.I.O.c], .int .i64 h6]) (by simp [results,Tryz.results69,go_sem,ak,au,aV,aW]) rfl ⟨⟨dJ,dL.I⟩, ⟨y,x.I⟩,h6,rfl,oW.aM (F:= [w.heap.size,w1.heap.size]) dx (fun b hb hm=>by simp only [Pe,Pd,XK] at hm;have:=gW b hb;omega),by unfold eF at hsz⊢;simp only;omega,fun b hb=>by have:=gW b hb;omega,hc.jg (B:=w.heap.size) hgl dU hC.size,hC.then_ dU⟩
  have Rw : (k == 0) =false:=by simpa using e0
  by_cases e1 : k=1
  case pos=>
   subst e1;go_wp2_with fail;refine(JX _ g code hc).mono ?_;rintro e wk ⟨dJ,y,rfl,o_,hy,qc,hcn,hx⟩;replace hc:=hcn;replace aj:=aj.aM hx (by simp only [Pe,Pd,XK];omega);replace dZ:=dZ.aM hx (by simp only [Pe,Pd,XK];omega);replace fZ:=fZ.aM hx (fun b hb hm=>by simp only [Pe,Pd,XK] at hm;have:=ru b hb;have:=mK b hb;omega);replace hC:=hC.trans hx;have sz:=hx.size;replace sC:=hC.size;clear hx;clear ak au aV aW aH aR;obtain⟨ak,au,aV,aW,aH,aR⟩ :=aj.f4;clear fA fB fD fE gD iF;obtain⟨fA,fB,fD,fE,gD,iF⟩ :=dZ.f4;have xS:=o_.lt;have oW : fq wk ⟨dL.E,dJ⟩ ⟨x.E,y⟩ := ⟨fZ.E,o_,fun b hb hm=>by have:=qc b hm;have:=mK b (bV.aI.2 (.inl hb));omega⟩;have gW : ∀b∈bV.foot ⟨dL.E,dJ⟩,w.heap.size<b∧b≠w1.heap.size:=fun b hb=>by rcases bV.aI.1 hb with h1|h1; (have:=ru b (bV.aI.2 (.inl h1));have:=mK b (bV.aI.2 (.inl h1));omega); (have:=qc b h1;omega)
   go_wp2_with fail;refine bodyPost_ret (v:= .tuple #[.agg #[.slice dL.E.Y.a dL.E.Y.l dL.E.Y.c, .slice dL.E.Z.a dL.E.Z.l dL.E.Z.c, .slice dJ.G.a dJ.G.l dJ.G.c, .slice dJ.O.a dJ.O.l dJ.O.c], .int .i64 h6]) (by simp [results,Tryz.results69,go_sem,ak,au,aV,aW]) rfl ⟨⟨dL.E,dJ⟩, ⟨x.E,y⟩,h6,rfl,oW.aM (F:= [w.heap.size,w1.heap.size]) dx (fun b hb hm=>by simp only [Pe,Pd,XK] at hm;have:=gW b hb;omega),by unfold eF at hsz⊢;simp only;omega,fun b hb=>by have:=gW b hb;omega,hc.jg (B:=w.heap.size) hgl dU hC.size,hC.then_ dU⟩
  have Rx : (k == 1) =false:=by simpa using e1
  clear e0 e1;go_wp2_with fail;refine bodyPost_ret (v:= .tuple #[.agg #[.slice dL.E.Y.a dL.E.Y.l dL.E.Y.c, .slice dL.E.Z.a dL.E.Z.l dL.E.Z.c, .slice dL.I.G.a dL.I.G.l dL.I.G.c, .slice dL.I.O.a dL.I.O.l dL.I.O.c], .int .i64 h6]) (by simp [results,Tryz.results69,go_sem,ak,au,aV,aW]) rfl ⟨dL,x,h6,rfl,fZ.aM (F:= [w.heap.size]) dx (fun b hb hm=>by simp only [Pe,Pd,XK] at hm;have:=ru b hb;have:=mK b hb;omega),by omega,fun b hb=>by have:=ru b hb;omega,hc.jg (B:=w.heap.size) hgl dU hC.size,hC.then_ dU⟩
end Go.Proofs.YtkmggglljkmjoaaGreat
