/- m -/
import Derived.Test.YtkmggglljkmjoaaGreatUHRanges49
set_option maxRecDepth 100000
set_option maxHeartbeats 4000000
namespace Go.Proofs.YtkmggglljkmjoaaGreat
open Go.RowKit
theorem yN {w W X : World}{g a : Nat}{code : List Int}{K : aA}{y : Base}(hgl : g<w.heap.size)(o : dz W K y)(sz : vU y)(f : ∀b∈K.foot,w.heap.size<b∧b≠a)(ha : w.heap.size<a)(cu : Lim.fQ W g code)(C : bn [g] w W)(hX : bn [a,w.heap.size] W X)(h0 : Int) : JM w g code (.returned (.tuple #[K.val y, .int .i64 h0])) X:=
 ⟨K,y,h0,rfl,o.aM hX (fun b hb hm=>by have:=f b hb;simp at hm;omega),sz,fun b hb=>X7 (f b hb).1,cu.nJ hgl (hX.below C.size (fun b hb=>by simp at hb;omega)) C.size,C.BH hX (fun b hb=>by simp at hb;omega)⟩
theorem Gy (w : World)(g : Nat)(code : List Int)(hc : Lim.fQ w g code) : Calls Tryz.prog 50 #[.pointer (some ⟨g,0,none⟩)] w (JM w g code) :=by
 have hgl:=hc.lt;obtain⟨w1,hW⟩ : ∃W,W=w.alloc (.cells #[.slice none 0 0, .slice none 0 0, .slice none 0 0, .slice none 0 0, .int .i64 0, .slice none 0 0, .slice none 0 0, .slice none 0 0] 37) := ⟨_,rfl⟩;have aj : aJ w1 w.heap.size wm:=by rw [hW];exact aJ.new w _ _
 have C : bn [g] w w1:=by rw [hW];exact(bn.refl _ _).av _
 replace hc : Lim.fQ w1 g code:=by rw [hW];exact hc.alloc _
 have zr:=aj.lt;go_enter Tryz.func50,Tryz.ntmps50;go_upto_region 1 with (fail);rw [←hW];clear hW;go_wp2_with fail;refine(MU _ g code hc).mono ?_;rintro e1 w2 ⟨K,y,h0,rfl,o,sz,l,cu,hx⟩;replace aj:=aj.aM hx (by simp;omega);replace C:=C.trans hx;have u:=o.lt;have s2:=hx.size;clear hx hc;simp only [aA.val];go_upto_region 2 with (fail);obtain⟨w3,hW⟩ : ∃W,W=w2.alloc (.cells #[.slice K.Mem.E.Y.a K.Mem.E.Y.l K.Mem.E.Y.c, .slice K.Mem.E.Z.a K.Mem.E.Z.l K.Mem.E.Z.c, .slice K.Mem.I.G.a K.Mem.I.G.l K.Mem.I.G.c, .slice K.Mem.I.O.a K.Mem.I.O.l K.Mem.I.O.c, .int .i64 y.Clock.Epoch, .slice K.Clock.aK.a K.Clock.aK.l K.Clock.aK.c, .slice K.aB.a K.aB.l K.aB.c, .slice K.bf.a K.bf.l K.bf.c] 37) := ⟨_,rfl⟩;have fK : aJ w3 w2.heap.size (K.row y) :=by rw [hW];exact aJ.new w2 _ _
 replace aj:=aj.alloc (.cells #[.slice K.Mem.E.Y.a K.Mem.E.Y.l K.Mem.E.Y.c, .slice K.Mem.E.Z.a K.Mem.E.Z.l K.Mem.E.Z.c, .slice K.Mem.I.G.a K.Mem.I.G.l K.Mem.I.G.c, .slice K.Mem.I.O.a K.Mem.I.O.l K.Mem.I.O.c, .int .i64 y.Clock.Epoch, .slice K.Clock.aK.a K.Clock.aK.l K.Clock.aK.c, .slice K.aB.a K.aB.l K.aB.c, .slice K.bf.a K.bf.l K.bf.c] 37);replace C:=C.av (.cells #[.slice K.Mem.E.Y.a K.Mem.E.Y.l K.Mem.E.Y.c, .slice K.Mem.E.Z.a K.Mem.E.Z.l K.Mem.E.Z.c, .slice K.Mem.I.G.a K.Mem.I.G.l K.Mem.I.G.c, .slice K.Mem.I.O.a K.Mem.I.O.l K.Mem.I.O.c, .int .i64 y.Clock.Epoch, .slice K.Clock.aK.a K.Clock.aK.l K.Clock.aK.c, .slice K.aB.a K.aB.l K.aB.c, .slice K.bf.a K.bf.l K.bf.c] 37);replace cu:=cu.alloc (.cells #[.slice K.Mem.E.Y.a K.Mem.E.Y.l K.Mem.E.Y.c, .slice K.Mem.E.Z.a K.Mem.E.Z.l K.Mem.E.Z.c, .slice K.Mem.I.G.a K.Mem.I.G.l K.Mem.I.G.c, .slice K.Mem.I.O.a K.Mem.I.O.l K.Mem.I.O.c, .int .i64 y.Clock.Epoch, .slice K.Clock.aK.a K.Clock.aK.l K.Clock.aK.c, .slice K.aB.a K.aB.l K.aB.c, .slice K.bf.a K.bf.l K.bf.c] 37);replace o:=o.aM (F:= []) ((bn.refl _ _).av (.cells #[.slice K.Mem.E.Y.a K.Mem.E.Y.l K.Mem.E.Y.c, .slice K.Mem.E.Z.a K.Mem.E.Z.l K.Mem.E.Z.c, .slice K.Mem.I.G.a K.Mem.I.G.l K.Mem.I.G.c, .slice K.Mem.I.O.a K.Mem.I.O.l K.Mem.I.O.c, .int .i64 y.Clock.Epoch, .slice K.Clock.aK.a K.Clock.aK.l K.Clock.aK.c, .slice K.aB.a K.aB.l K.aB.c, .slice K.bf.a K.bf.l K.bf.c] 37)) (fun _ _ hm=>by cases hm);rw [←hW] at aj C cu o⊢;clear hW;replace l : ∀b∈K.foot,w.heap.size<b∧b≠w2.heap.size:=fun b hb=> ⟨by have:=l b hb;omega,by have:=u b hb;omega⟩;have JO : w.heap.size<w2.heap.size:=by omega
 have LP:=fK.lt;generalize w2.heap.size=a at l JO LP fK⊢;clear u s2 zr;go_wp2_with fail;refine(Lim.bU _ g code 28 (by unfold dV;omega) cu).mono ?_;rintro e1 w4 ⟨kk,rfl,k0,k1,cu,hx⟩;replace aj:=aj.aM hx (by simp;omega);replace fK:=fK.aM hx (by simp;omega);replace o:=o.aM hx (fun b hb hm=>by have:= (l b hb).1;simp at hm;omega);replace C:=C.trans hx;replace LP:=fK.lt;have C0:=C.size;clear hx;obtain⟨k,rfl⟩ :=XP k0;clear k0 k1;by_cases k0 : k=0
 ·subst k0
  go_wp2_with fail;refine(O7 _ g code cu).mono ?_;rintro e1 w5 ⟨K1,m1,a1,rfl,fZ,sm,f1,cu,hx⟩;replace aj:=aj.aM hx (by simp;omega);replace fK:=fK.aM hx (by have:=LP;simp;omega);have o1:=o.aM hx (fun b hb hm=>by have:= (l b hb).1;simp at hm;omega);have C2:=C.trans hx;have RI:=hx.size;have bL:=fK.f8;have dR:=aj.f8;have ob:=o.lt;have o2:=Eo o1 fZ (fun b hb=> ⟨fun e=>by have:=ob b (aA.aI.2 (.inr (.inl e)));have:=f1 b hb;omega,fun e=>by have:=ob b (aA.aI.2 (.inr (.inr (.inl e))));have:=f1 b hb;omega,fun e=>by have:=ob b (aA.aI.2 (.inr (.inr (.inr e))));have:=f1 b hb;omega⟩);have s2 : vU (y.mem m1) := ⟨XR sm (by decide),sz.p,sz.l,sz.z⟩;have f2 : ∀b∈aA.foot (K.mem K1),w.heap.size<b∧b≠a:=fun b hb=>by
   rcases aA.aI.1 hb with e|e|e|e
   ·have:=f1 b e;exact⟨by omega,by omega⟩
   ·exact l b (aA.aI.2 (.inr (.inl e)))
   ·exact l b (aA.aI.2 (.inr (.inr (.inl e))))
   ·exact l b (aA.aI.2 (.inr (.inr (.inr e))))
  go_wp2_with fail;refine bodyPost_ret (v:= .tuple #[aA.val (K.mem K1) (y.mem m1), .int .i64 h0]) (by simp [results,Tryz.results50,go_sem,aA.val,dR]) rfl (yN hgl o2 s2 f2 JO cu C2 dx h0)
 by_cases k1 : k=1
 ·subst k1
  go_wp2_with fail;refine(Clk.Oq _ g code cu).mono ?_;rintro e1 w5 ⟨K1,q1,rfl,fZ,sm,f1,cu,hx⟩;replace aj:=aj.aM hx (by simp;omega);replace fK:=fK.aM hx (by have:=LP;simp;omega);have o1:=o.aM hx (fun b hb hm=>by have:= (l b hb).1;simp at hm;omega);have C2:=C.trans hx;have RI:=hx.size;have bL:=fK.f8;have dR:=aj.f8;have ob:=o.lt;have o2:=xq o1 fZ (fun b hb=> ⟨fun e=>by have:=ob b (aA.aI.2 (.inl e));have:=f1 b hb;omega,fun e=>by have:=ob b (aA.aI.2 (.inr (.inr (.inl e))));have:=f1 b hb;omega,fun e=>by have:=ob b (aA.aI.2 (.inr (.inr (.inr e))));have:=f1 b hb;omega⟩);have s2 : vU ({y with Clock:=q1} : Base) := ⟨sz.m,XR sm.len (by decide),sz.l,sz.z⟩;have f2 : ∀b∈aA.foot ({K with Clock:=K1} : aA),w.heap.size<b∧b≠a:=fun b hb=>by
   rcases aA.aI.1 hb with e|e|e|e
   ·exact l b (aA.aI.2 (.inl e))
   ·have:=f1 b e;exact⟨by omega,by omega⟩
   ·exact l b (aA.aI.2 (.inr (.inr (.inl e))))
   ·exact l b (aA.aI.2 (.inr (.inr (.inr e))))
  go_wp2_with fail;refine bodyPost_ret (v:= .tuple #[aA.val ({K with Clock:=K1} : aA) ({y with Clock:=q1} : Base), .int .i64 h0]) (by simp [results,Tryz.results50,go_sem,aA.val,dR]) rfl (yN hgl o2 s2 f2 JO cu C2 dx h0)
 by_cases k2 : k=2
 ·subst k2
  go_wp2_with fail;refine(Lim.NV _ g code cu).mono ?_;rintro e1 w5 ⟨v1,t1,Tp,rfl,fZ,sm,f1,cu,hx⟩;obtain⟨A1,n1,c1,rfl⟩ : ∃A n c,v1= .slice A n c:=by
   obtain⟨A,c,h,_⟩ :=fZ.rd'.outer;exact⟨_,_,_,h⟩
  replace aj:=aj.aM hx (by simp;omega);replace fK:=fK.aM hx (by have:=LP;simp;omega);have o1:=o.aM hx (fun b hb hm=>by have:= (l b hb).1;simp at hm;omega);have C2:=C.trans hx;have RI:=hx.size;have bL:=fK.f8;have dR:=aj.f8;have ob:=o.lt;have o2:=Jc (K:= ⟨A1,n1,c1⟩) o1 fZ (fun b hb=> ⟨fun e=>by have:=ob b (aA.aI.2 (.inl e));have:=f1 b hb;omega,fun e=>by have:=ob b (aA.aI.2 (.inr (.inl e)));have:=f1 b hb;omega,fun e=>by have:=ob b (aA.aI.2 (.inr (.inr (.inr e))));have:=f1 b hb;omega⟩);have s2 : vU ({y with aB:=Tp} : Base) := ⟨sz.m,sz.p,XR sm (by decide),sz.z⟩;have f2 : ∀b∈aA.foot ({K with aB:= ⟨A1,n1,c1⟩,jk:=t1} : aA),w.heap.size<b∧b≠a:=fun b hb=>by
   rcases aA.aI.1 hb with e|e|e|e
   ·exact l b (aA.aI.2 (.inl e))
   ·exact l b (aA.aI.2 (.inr (.inl e)))
   ·have:=f1 b e;exact⟨by omega,by omega⟩
   ·exact l b (aA.aI.2 (.inr (.inr (.inr e))))
  go_wp2_with fail;refine bodyPost_ret (v:= .tuple #[aA.val ({K with aB:= ⟨A1,n1,c1⟩,jk:=t1} : aA) ({y with aB:=Tp} : Base), .int .i64 h0]) (by simp [results,Tryz.results50,go_sem,aA.val,dR]) rfl (yN hgl o2 s2 f2 JO cu C2 dx h0)
 by_cases k3 : k=3
 ·subst k3
  go_wp2_with fail;refine(Lim.NQ _ g code cu).mono ?_;rintro e1 w5 ⟨v1,z1,rfl,fZ,sm,f1,cu,hx⟩;obtain⟨A1,n1,c1,rfl⟩ : ∃A n c,v1= .slice A n c:=by
   obtain⟨A,c,h,_⟩ :=fZ.rd';exact⟨_,_,_,h⟩
  replace aj:=aj.aM hx (by simp;omega);replace fK:=fK.aM hx (by have:=LP;simp;omega);have o1:=o.aM hx (fun b hb hm=>by have:= (l b hb).1;simp at hm;omega);have C2:=C.trans hx;have RI:=hx.size;have bL:=fK.f8;have dR:=aj.f8;have ob:=o.lt;have o2:=EJ (K:= ⟨A1,n1,c1⟩) o1 fZ (fun b hb=> ⟨fun e=>by have:=ob b (aA.aI.2 (.inl e));have:=f1 b hb;omega,fun e=>by have:=ob b (aA.aI.2 (.inr (.inl e)));have:=f1 b hb;omega,fun e=>by have:=ob b (aA.aI.2 (.inr (.inr (.inl e))));have:=f1 b hb;omega⟩);have s2 : vU ({y with bf:=z1} : Base) := ⟨sz.m,sz.p,sz.l,XR sm (by decide)⟩;have f2 : ∀b∈aA.foot ({K with bf:= ⟨A1,n1,c1⟩} : aA),w.heap.size<b∧b≠a:=fun b hb=>by
   rcases aA.aI.1 hb with e|e|e|e
   ·exact l b (aA.aI.2 (.inl e))
   ·exact l b (aA.aI.2 (.inr (.inl e)))
   ·exact l b (aA.aI.2 (.inr (.inr (.inl e))))
   ·have:=f1 b e;exact⟨by omega,by omega⟩
  go_wp2_with fail;refine bodyPost_ret (v:= .tuple #[aA.val ({K with bf:= ⟨A1,n1,c1⟩} : aA) ({y with bf:=z1} : Base), .int .i64 h0]) (by simp [results,Tryz.results50,go_sem,aA.val,dR]) rfl (yN hgl o2 s2 f2 JO cu C2 dx h0)
 have q0 : ((k : Int) == 0) =false:=by simp;omega
 have q1 : ((k : Int) == 1) =false:=by simp;omega
 have q2 : ((k : Int) == 2) =false:=by simp;omega
 have q3 : ((k : Int) == 3) =false:=by simp;omega
 have bL:=fK.f8;have dR:=aj.f8;have o2:=o;have s2:=sz;have f2:=l;have C2:=C;clear k0 k1 k2 k3;go_wp2_with fail;refine bodyPost_ret (v:= .tuple #[aA.val K y, .int .i64 h0]) (by simp [results,Tryz.results50,go_sem,aA.val,dR]) rfl (yN hgl o2 s2 f2 JO cu C2 dx h0)
end Go.Proofs.YtkmggglljkmjoaaGreat
