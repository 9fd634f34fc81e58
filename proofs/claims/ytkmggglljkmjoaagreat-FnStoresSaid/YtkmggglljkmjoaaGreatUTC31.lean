/-
  Several texts in one: lemmas and contracts that the claim rests on.
-/
import Derived.Test.YtkmggglljkmjoaaGreatUTC1
import Derived.Deep.QuietTactic
import Derived.BigQuiet
import Derived.Deep.LoopGhost
import Derived.Deep.RegionHeld3
import Derived.Test.YtkmggglljkmjoaaGreatUTC2
import Derived.WalkSpells
import Derived.Laws.Cover3
import Derived.Test.YtkmggglljkmjoaaGreatUTC18
import Derived.Test.YtkmggglljkmjoaaGreatUTC29
import Derived.Test.YtkmggglljkmjoaaGreatUTC27
namespace Go.Proofs.YtkmggglljkmjoaaGreat
open Go.RowKit
set_option maxRecDepth 100000 in
set_option maxHeartbeats 8000000 in
theorem GK (w : World)(H : bP)(x : Mem)(p c : Nat)(h : d9 w H x)(hs : bX x.I≤536870912)(hsh : gI x.E=true)(hll : x.I.G.length=3)(hc : c<3)(hp : idxOf (fun y=>y == -1) x.E.Z= (p : Int)) :
  Calls Tryz.prog 105 #[.agg #[.slice H.E.Y.a H.E.Y.l H.E.Y.c, .slice H.E.Z.a H.E.Z.l H.E.Z.c, .slice H.I.G.a H.I.G.l H.I.G.c, .slice H.I.O.a H.I.O.l H.I.O.c], .int .i64 c] w fun e w'=> ∃H' : bP,e= .returned (.tuple #[.agg #[.slice H'.E.Y.a H'.E.Y.l H'.E.Y.c, .slice H'.E.Z.a H'.E.Z.l H'.E.Z.c, .slice H'.I.G.a H'.I.G.l H'.I.G.c, .slice H'.I.O.a H'.I.O.l H'.I.O.c], .int .i64 ((p * 4 : Nat) : Int)]) ∧d9 w' H' (mH x p c) ∧ (∀g∈H'.foot,g∈H.foot∨w.heap.size≤g) ∧aY H.foot w w':=by
 have H3:=Hid.aT hll
 have Hg:=Hid.aT (vF (c:= (c : Int)) (bJ.2 ⟨by omega,by omega⟩))
 obtain⟨n,hn,LM,hnn⟩ :=uz hc
 have hgr:=fun (W : World) (oH : fA W H.E x.E) =>Ba W H.E x.E p c oH hsh hc hp
 rw [hnn] at hgr
 have Ms:=Hid.aT (show jh x.I.G≤536870912 by unfold bX at hs;omega)
 obtain⟨lg,sI⟩ : ∃q,x.I.G[c]? =some q:= ⟨_,List.getElem?_eq_getElem (by rw [hll];exact hc)⟩
 have HG:=Hid.aT sI
 have NS : lg.length≤536870912:=Nat.le_trans (mK (List.mem_of_getElem? sI)) Ms.out
 have hn1 : 1≤n:=by have:=Hg.out;omega
 have hsl:=pV p n
 have hv0 : (d_ p n)[0]? =some ((p * 4 : Nat) : Int) :=by unfold d_;rw [List.getElem?_map,List.getElem?_range (by omega)];rfl
 have JA:=Hid.aT hv0
 have HD : Hid ((mH x p c).I= {x.I with G:=x.I.G.set c (lg++ (d_ p n).drop 1)}) :=by show _=_;unfold mH;simp only [];rw [hnn,List.getD_eq_getElem?_getD,HG.out];rfl
 have hkk : c<x.I.G.length:=by rw [H3.out];exact hc
 clear hs hsh hll hp sI hv0 Hg hn hnn
 obtain⟨HB, ⟨A1,n1,p1⟩,T1, ⟨A2,n2,p2⟩,T2⟩ :=H
 obtain⟨g1,c1,hv1,hg1⟩ :=dR.jV (v:= .slice A1 n1 p1) h.I.G (by rw [H3.out];decide)
 injection hv1 with i1 i2 i3
 subst i1 i2 i3
 have hf:=h.lt
 have o:= (h.aH (.cells #[.slice HB.Y.a HB.Y.l HB.Y.c, .slice HB.Z.a HB.Z.l HB.Z.c, .slice (some ⟨g1,0,none⟩) x.I.G.length p1, .slice A2 n2 p2] 31)).aH (.cells #[.slice none 0 0, .slice none 0 0, .slice none 0 0, .slice none 0 0] 31)
 have HD0:=Hid.aT h.iV
 clear h
 have au : aB ((w.alloc (.cells #[.slice HB.Y.a HB.Y.l HB.Y.c, .slice HB.Z.a HB.Z.l HB.Z.c, .slice (some ⟨g1,0,none⟩) x.I.G.length p1, .slice A2 n2 p2] 31)).alloc (.cells #[.slice none 0 0, .slice none 0 0, .slice none 0 0, .slice none 0 0] 31)) w.heap.size [.slice HB.Y.a HB.Y.l HB.Y.c, .slice HB.Z.a HB.Z.l HB.Z.c, .slice (some ⟨g1,0,none⟩) x.I.G.length p1, .slice A2 n2 p2]:= (aB.new w #[.slice HB.Y.a HB.Y.l HB.Y.c, .slice HB.Z.a HB.Z.l HB.Z.c, .slice (some ⟨g1,0,none⟩) x.I.G.length p1, .slice A2 n2 p2] _).alloc _
 have ah : aB ((w.alloc (.cells #[.slice HB.Y.a HB.Y.l HB.Y.c, .slice HB.Z.a HB.Z.l HB.Z.c, .slice (some ⟨g1,0,none⟩) x.I.G.length p1, .slice A2 n2 p2] 31)).alloc (.cells #[.slice none 0 0, .slice none 0 0, .slice none 0 0, .slice none 0 0] 31)) (w.heap.size+1) [.slice none 0 0, .slice none 0 0, .slice none 0 0, .slice none 0 0]:=by
  have hb:=aB.new (w.alloc (.cells #[.slice HB.Y.a HB.Y.l HB.Y.c, .slice HB.Z.a HB.Z.l HB.Z.c, .slice (some ⟨g1,0,none⟩) x.I.G.length p1, .slice A2 n2 p2] 31)) #[.slice none 0 0, .slice none 0 0, .slice none 0 0, .slice none 0 0] 31
  rw [World.size_alloc] at hb
  exact hb
 have hB : aY (bP.foot ⟨HB, ⟨⟨some ⟨g1,0,none⟩,x.I.G.length,p1⟩,T1, ⟨A2,n2,p2⟩,T2⟩⟩) w ((w.alloc (.cells #[.slice HB.Y.a HB.Y.l HB.Y.c, .slice HB.Z.a HB.Z.l HB.Z.c, .slice (some ⟨g1,0,none⟩) x.I.G.length p1, .slice A2 n2 p2] 31)).alloc (.cells #[.slice none 0 0, .slice none 0 0, .slice none 0 0, .slice none 0 0] 31)) := ((aY.refl _ _).aH _).aH _
 show Calls Tryz.prog 105 #[.agg #[.slice HB.Y.a HB.Y.l HB.Y.c, .slice HB.Z.a HB.Z.l HB.Z.c, .slice (some ⟨g1,0,none⟩) x.I.G.length p1, .slice A2 n2 p2], .int .i64 c] w _
 go_enter Tryz.func105,Tryz.ntmps105
 go_wp2_with fail
 generalize hW0 : ((w.alloc (.cells #[.slice HB.Y.a HB.Y.l HB.Y.c, .slice HB.Z.a HB.Z.l HB.Z.c, .slice (some ⟨g1,0,none⟩) x.I.G.length p1, .slice A2 n2 p2] 31)).alloc (.cells #[.slice none 0 0, .slice none 0 0, .slice none 0 0, .slice none 0 0] 31)) =w0 at o au ah hB⊢
 clear hW0
 have JC : ∀g∈HB.foot,g∈bP.foot ⟨HB, ⟨⟨some ⟨g1,0,none⟩,x.I.G.length,p1⟩,T1, ⟨A2,n2,p2⟩,T2⟩⟩ :=fun g hg=>bP.aX.2 (.inl hg)
 have Ho : ∀g∈aZ.foot ⟨⟨some ⟨g1,0,none⟩,x.I.G.length,p1⟩,T1, ⟨A2,n2,p2⟩,T2⟩,g∈bP.foot ⟨HB, ⟨⟨some ⟨g1,0,none⟩,x.I.G.length,p1⟩,T1, ⟨A2,n2,p2⟩,T2⟩⟩ :=fun g hg=>bP.aX.2 (.inr hg)
 refine(hgr _ o.E).mono ?_
 clear hgr
 rintro e w1 ⟨⟨A3,n3,bv⟩,rfl,iX,ku,rP,hx⟩
 have z0:=ah.lt
 replace au:=au.aM hx (fun hm=>by have:=hf _ (JC _ hm);omega)
 replace ah:=ah.aM hx (fun hm=>by have:=hf _ (JC _ hm);omega)
 have bQ:=o.I.aM hx (fun g hg hm=>HD0.out g hm hg)
 replace hB:=hB.trans (hx.mono JC)
 have Ph:=hx.size
 clear hx o
 have hln:=fE.len_ (a:=A3) (n:=n3) (c:=bv) ku.rd'
 rw [hsl] at hln
 obtain rfl : n3=n:=hln.1
 clear hln
 obtain⟨gv,cv,hvv,hgv⟩ :=bA.kN (v:= .slice A3 n3 bv) ku (by rw [hsl];omega)
 injection hvv with i1 i2 i3
 subst i1
 clear i2 i3 cv
 have hnb : n3≤bv:=by
  obtain⟨_,cq,Mt,hnb,_⟩ :=ku.rd'
  injection Mt with _ _ i3
  subst i3
  rw [hsl] at hnb
  exact hnb
 have Pg : w0.heap.size≤gv:=rP gv (bY.2 rfl)
 have Pj : ∀g∈cu (.slice (some ⟨gv,0,none⟩) n3 bv),w0.heap.size≤g:=rP
 have cB:=aB.new w1 #[.slice HB.Y.a HB.Y.l HB.Y.c, .slice HB.Z.a HB.Z.l HB.Z.c] 26
 replace au:=au.alloc (.cells #[.slice HB.Y.a HB.Y.l HB.Y.c, .slice HB.Z.a HB.Z.l HB.Z.c] 26)
 replace ah:=ah.alloc (.cells #[.slice HB.Y.a HB.Y.l HB.Y.c, .slice HB.Z.a HB.Z.l HB.Z.c] 26)
 replace iX:=iX.aH (.cells #[.slice HB.Y.a HB.Y.l HB.Y.c, .slice HB.Z.a HB.Z.l HB.Z.c] 26)
 replace bQ:=bQ.aH (.cells #[.slice HB.Y.a HB.Y.l HB.Y.c, .slice HB.Z.a HB.Z.l HB.Z.c] 26)
 replace ku:=ku.aH (.cells #[.slice HB.Y.a HB.Y.l HB.Y.c, .slice HB.Z.a HB.Z.l HB.Z.c] 26)
 replace hB:=hB.aH (.cells #[.slice HB.Y.a HB.Y.l HB.Y.c, .slice HB.Z.a HB.Z.l HB.Z.c] 26)
 have ul : ∀g∈aZ.foot ⟨⟨some ⟨g1,0,none⟩,x.I.G.length,p1⟩,T1, ⟨A2,n2,p2⟩,T2⟩,g<w.heap.size:=fun g hg=>hf g (Ho g hg)
 have ug : ∀g∈HB.foot,g<w.heap.size:=fun g hg=>hf g (JC g hg)
 have aD:=au.cell 0 _ rfl
 have aF:=au.cell 1 _ rfl
 have aR:=au.cell 2 _ rfl
 have aS:=au.cell 3 _ rfl
 have aj:=ah.cell 0 _ rfl
 have ak:=ah.cell 1 _ rfl
 have aJ:=ah.cell 2 _ rfl
 have aK:=ah.cell 3 _ rfl
 have aL:=au.dn
 have ay:=ah.dn
 have aQ:=au.lt
 have aI:=ah.lt
 have dK:=cB.cell 0 _ rfl
 have dL:=cB.cell 1 _ rfl
 go_upto_region 3 with (fail)
 replace au : aB (((w1.alloc (.cells #[.slice HB.Y.a HB.Y.l HB.Y.c, .slice HB.Z.a HB.Z.l HB.Z.c] 26)).setCell ⟨w.heap.size,0,none⟩ (.slice HB.Y.a HB.Y.l HB.Y.c)).setCell ⟨w.heap.size,1,none⟩ (.slice HB.Z.a HB.Z.l HB.Z.c)) w.heap.size [.slice HB.Y.a HB.Y.l HB.Y.c, .slice HB.Z.a HB.Z.l HB.Z.c, .slice (some ⟨g1,0,none⟩) x.I.G.length p1, .slice A2 n2 p2]:= (au.set 0 (.slice HB.Y.a HB.Y.l HB.Y.c)).set 1 (.slice HB.Z.a HB.Z.l HB.Z.c)
 replace ah : aB (((w1.alloc (.cells #[.slice HB.Y.a HB.Y.l HB.Y.c, .slice HB.Z.a HB.Z.l HB.Z.c] 26)).setCell ⟨w.heap.size,0,none⟩ (.slice HB.Y.a HB.Y.l HB.Y.c)).setCell ⟨w.heap.size,1,none⟩ (.slice HB.Z.a HB.Z.l HB.Z.c)) (w.heap.size+1) [.slice none 0 0, .slice none 0 0, .slice none 0 0, .slice none 0 0]:= (ah.other (by omega) _).other (by omega) _
 replace iX : fA (((w1.alloc (.cells #[.slice HB.Y.a HB.Y.l HB.Y.c, .slice HB.Z.a HB.Z.l HB.Z.c] 26)).setCell ⟨w.heap.size,0,none⟩ (.slice HB.Y.a HB.Y.l HB.Y.c)).setCell ⟨w.heap.size,1,none⟩ (.slice HB.Z.a HB.Z.l HB.Z.c)) HB (fI x.E p c) :=iX.aM (((aY.refl [w.heap.size] _).gD (by simp) _).gD (by simp) _) (fun g hg hm=>by simp only [List.mem_cons,List.not_mem_nil,or_false] at hm;have:=ug g hg;omega)
 replace bQ : dZ (((w1.alloc (.cells #[.slice HB.Y.a HB.Y.l HB.Y.c, .slice HB.Z.a HB.Z.l HB.Z.c] 26)).setCell ⟨w.heap.size,0,none⟩ (.slice HB.Y.a HB.Y.l HB.Y.c)).setCell ⟨w.heap.size,1,none⟩ (.slice HB.Z.a HB.Z.l HB.Z.c)) ⟨⟨some ⟨g1,0,none⟩,x.I.G.length,p1⟩,T1, ⟨A2,n2,p2⟩,T2⟩ x.I:=bQ.aM (((aY.refl [w.heap.size] _).gD (by simp) _).gD (by simp) _) (fun g hg hm=>by simp only [List.mem_cons,List.not_mem_nil,or_false] at hm;have:=ul g hg;omega)
 replace ku : bA FI 3 (((w1.alloc (.cells #[.slice HB.Y.a HB.Y.l HB.Y.c, .slice HB.Z.a HB.Z.l HB.Z.c] 26)).setCell ⟨w.heap.size,0,none⟩ (.slice HB.Y.a HB.Y.l HB.Y.c)).setCell ⟨w.heap.size,1,none⟩ (.slice HB.Z.a HB.Z.l HB.Z.c)) (.slice (some ⟨gv,0,none⟩) n3 bv) (d_ p n3) :=bA.aM ku (((aY.refl [w.heap.size] _).gD (by simp) _).gD (by simp) _) (fun g hg hm=>by simp only [List.mem_cons,List.not_mem_nil,or_false] at hm;have:=Pj g hg;omega)
 replace hB : aY (bP.foot ⟨HB, ⟨⟨some ⟨g1,0,none⟩,x.I.G.length,p1⟩,T1, ⟨A2,n2,p2⟩,T2⟩⟩) w (((w1.alloc (.cells #[.slice HB.Y.a HB.Y.l HB.Y.c, .slice HB.Z.a HB.Z.l HB.Z.c] 26)).setCell ⟨w.heap.size,0,none⟩ (.slice HB.Y.a HB.Y.l HB.Y.c)).setCell ⟨w.heap.size,1,none⟩ (.slice HB.Z.a HB.Z.l HB.Z.c)) := (hB.gY (Nat.le_refl _) _).gY (Nat.le_refl _) _
 have CK : w1.heap.size≤ (((w1.alloc (.cells #[.slice HB.Y.a HB.Y.l HB.Y.c, .slice HB.Z.a HB.Z.l HB.Z.c] 26)).setCell ⟨w.heap.size,0,none⟩ (.slice HB.Y.a HB.Y.l HB.Y.c)).setCell ⟨w.heap.size,1,none⟩ (.slice HB.Z.a HB.Z.l HB.Z.c)).heap.size:=by simp
 have NY : gv< (((w1.alloc (.cells #[.slice HB.Y.a HB.Y.l HB.Y.c, .slice HB.Z.a HB.Z.l HB.Z.c] 26)).setCell ⟨w.heap.size,0,none⟩ (.slice HB.Y.a HB.Y.l HB.Y.c)).setCell ⟨w.heap.size,1,none⟩ (.slice HB.Z.a HB.Z.l HB.Z.c)).heap.size:=by simp;omega
 clear aD aF aR aS aj ak aJ aK aL ay aQ aI dK dL cB
 generalize hW3 : (((w1.alloc (.cells #[.slice HB.Y.a HB.Y.l HB.Y.c, .slice HB.Z.a HB.Z.l HB.Z.c] 26)).setCell ⟨w.heap.size,0,none⟩ (.slice HB.Y.a HB.Y.l HB.Y.c)).setCell ⟨w.heap.size,1,none⟩ (.slice HB.Z.a HB.Z.l HB.Z.c)) =wo at au ah iX bQ ku hB CK NY⊢
 clear hW3
 have aD:=au.cell 0 _ rfl
 have aF:=au.cell 1 _ rfl
 have aR:=au.cell 2 _ rfl
 have aS:=au.cell 3 _ rfl
 have aj:=ah.cell 0 _ rfl
 have ak:=ah.cell 1 _ rfl
 have aJ:=ah.cell 2 _ rfl
 have aK:=ah.cell 3 _ rfl
 have aL:=au.dn
 have ay:=ah.dn
 have aQ:=au.lt
 have aI:=ah.lt
 obtain⟨sg,pz⟩ : ∃q,T1[c]? =some q:= ⟨_,List.getElem?_eq_getElem (by rw [bQ.G.len];exact hkk)⟩
 have ing:=bQ.G.inner c sg _ pz HG.out
 have pg:=bQ.G.outer.cell_ (j:=0) pz (by decide)
 simp only [FS,Nat.mul_one,Nat.add_zero] at pg
 obtain⟨Ag,cg,FK,_⟩ :=ing.rd'
 obtain⟨ag,ng,bg⟩ :=sg
 injection FK with k1 k2 k3
 subst k1 k2 k3
 have zR : _=some (Value.slice ag lg.length bg) :=pg
 clear pg
 have ff:=bQ.G.outer.eD c
 have HV:=Hid.aT pz
 have p9:=Hid.aT (dR.head_ne (g:=g1) (n:=x.I.G.length) (c:=p1) bQ.G pz)
 have qU : g1<wo.heap.size:=by omega
 have oP:=Hid.aT (show ∀b∈cu (SV.val ⟨ag,lg.length,bg⟩),b∈dH (.slice (some ⟨g1,0,none⟩) x.I.G.length p1) T1 from fun b hb=>cZ.2 (.inr ⟨_,List.mem_of_getElem? HV.out,bV.1 hb⟩))
 have jX:=Hid.aT (show ∀b∈cu (SV.val ⟨ag,lg.length,bg⟩),b∈aZ.foot ⟨⟨some ⟨g1,0,none⟩,x.I.G.length,p1⟩,T1, ⟨A2,n2,p2⟩,T2⟩ from fun b hb=>aZ.aX.2 (.inl (oP.out b hb)))
 have KZ:=Hid.aT (show g1∈aZ.foot ⟨⟨some ⟨g1,0,none⟩,x.I.G.length,p1⟩,T1, ⟨A2,n2,p2⟩,T2⟩ from aZ.aX.2 (.inl (cZ.2 (.inl rfl))))
 have yP : g1≠w.heap.size:=by omega
 have yQ : w.heap.size≠g1:=by omega
 have xI : g1≠w.heap.size+1:=by omega
 have xJ : w.heap.size+1≠g1:=by omega
 have NT : g1≠gv:=by omega
 have NU : gv≠g1:=by omega
 have hro : bA FI 3 wo.drew (.slice ag lg.length bg) lg:=bA.keep (show bA FI 3 wo (.slice ag lg.length bg) lg from ing) (fun _ _=>rfl)
 have hbq : ((n3 : Int) == 0) =false:=by simp;omega
 go_upto_region 5 with (fail)
 go_cut [] from 15 to 36 (fun wx=> ∃S9 : SV,aB wx w.heap.size [.slice HB.Y.a HB.Y.l HB.Y.c, .slice HB.Z.a HB.Z.l HB.Z.c, .slice (some ⟨g1,0,none⟩) x.I.G.length p1, .slice A2 n2 p2]∧aB wx (w.heap.size+1) [.slice none 0 0, .slice none 0 0, .slice none 0 0, .slice none 0 0]∧fA wx HB (fI x.E p c) ∧dZ wx ⟨⟨some ⟨g1,0,none⟩,x.I.G.length,p1⟩,T1.set c S9, ⟨A2,n2,p2⟩,T2⟩ (mH x p c).I∧wx.cell? ⟨gv,0,none⟩ =some (.int .i64 ((p * 4 : Nat) : Int)) ∧ (∀g∈aZ.foot ⟨⟨some ⟨g1,0,none⟩,x.I.G.length,p1⟩,T1.set c S9, ⟨A2,n2,p2⟩,T2⟩,g∈aZ.foot ⟨⟨some ⟨g1,0,none⟩,x.I.G.length,p1⟩,T1, ⟨A2,n2,p2⟩,T2⟩ ∨w.heap.size+1<g) ∧ (∀g∈aZ.foot ⟨⟨some ⟨g1,0,none⟩,x.I.G.length,p1⟩,T1.set c S9, ⟨A2,n2,p2⟩,T2⟩,g∉HB.foot) ∧aY (bP.foot ⟨HB, ⟨⟨some ⟨g1,0,none⟩,x.I.G.length,p1⟩,T1, ⟨A2,n2,p2⟩,T2⟩⟩) w wx)
 case first=>
  rename_i J9 K9 FP FQ
  by_cases hb1 : bv=1
  ·subst hb1
   obtain rfl : n3=1:=by omega
   have hlit : fE FI wo.drew wo.drew.heap.size (.slice (some ⟨gv,0,none⟩) (1 - 1) (1 - 1)) ((d_ p 1).drop 1) := ⟨_,0,rfl,by simp [d_],by simp [maxLen],fun h=>absurd (by simp [d_]) h⟩
   have hn0 : ¬ ((1 : Int) =0) :=by omega
   have hdl : ((d_ p 1).drop 1).length=1 - 1:=by rw [List.length_drop,hsl]
   have hsz : lg.length+ ((d_ p 1).drop 1).length≤1073741824:=by rw [hdl];omega
   go_region_law (refine jo Tryz.stInt rfl (.tmp 31) (.tmp 33) rfl (v:= .slice ag lg.length bg) (y:= .slice (some ⟨gv,0,none⟩) (1 - 1) (1 - 1)) (l:=lg) (m:= (d_ p 1).drop 1) (by simp [Act.eval]) (by simp [Act.eval]) hro hlit hsz ?_;intro v9 w9 qp qw lD;obtain⟨A9,c9,qy,_⟩ :=qp.rd';rw [List.length_append,hdl] at qy;subst qy;have hx:=aY.jP qw;have FH : w9.frozen? ⟨g1,c,none⟩ =false:= (hx.frozen g1 c qU p9.out).trans ff;have FJ : w9.cell? ⟨g1,c,none⟩ =some (Value.slice ag lg.length bg) := (hx.cell g1 c qU p9.out).trans zR;replace au:=au.drew.aM hx (fun hm=>by have:=ul _ (jX.out _ hm);omega);clear aD aF aR aS aL aQ;obtain⟨aD,aF,aR,aS,aL,aQ⟩ :=au.f4;replace ah:=ah.drew.aM hx (fun hm=>by have:=ul _ (jX.out _ hm);omega);clear aj ak aJ aK ay aI;obtain⟨aj,ak,aJ,aK,ay,aI⟩ :=ah.f4;replace ku:= (bA.keep (w':=wo.drew) ku (fun _ _=>rfl)).aM hx (fun g hg hm=>by have:=ul _ (jX.out _ hm);have:=bY.1 hg;omega);have Af:=ku.cell_ JA.out FI.pos;simp only [FI,Nat.mul_one,Nat.add_zero] at Af)
   all_goals
    refine FQ _ _ (Met.intro (FP _ _ ?_))
    (repeat apply Exists.intro)
    refine⟨?_,rfl⟩
    have oD : dZ wo.drew ⟨⟨some ⟨g1,0,none⟩,x.I.G.length,p1⟩,T1, ⟨A2,n2,p2⟩,T2⟩ x.I:=bQ.keep (fun _ _=>rfl)
    have hN:=dR.nM (s':= ⟨A9,lg.length+ (1 - 1),c9⟩) oD.G HV.out qp qw lD
    change dR _ _ _ (World.setCell _ _ (.slice A9 (lg.length+ (1 - 1)) c9)) _ _ _ at hN
    have hO : dR FI 3 94 _ _ _ x.I.O:= (oD.O.aM hx (fun b hb hm=>bQ.iV b (oP.out b hm) hb)).aM (F:= [g1]) ((aY.refl _ w9).gD (g:=g1) (i:=c) (by simp) (.slice A9 (lg.length+ (1 - 1)) c9)) (fun b hb hm=>by simp only [List.mem_cons,List.not_mem_nil,or_false] at hm;subst hm;exact bQ.iV b (cZ.2 (.inl rfl)) hb)
    have uO:= (oD.O).lt
    have Gb : aY (bP.foot ⟨HB, ⟨⟨some ⟨g1,0,none⟩,x.I.G.length,p1⟩,T1, ⟨A2,n2,p2⟩,T2⟩⟩) w (w9.setCell ⟨g1,c,none⟩ (.slice A9 (lg.length+ (1 - 1)) c9)) := ((aY.bf hB).trans (hx.mono (fun g hg=>Ho g (jX.out g hg)))).gD (Ho _ KZ.out) _
    have Gc : fA (w9.setCell ⟨g1,c,none⟩ (.slice A9 (lg.length+ (1 - 1)) c9)) HB (fI x.E p c) := ((iX.keep (w':=wo.drew) (fun _ _=>rfl)).aM hx (fun g hg hm=>HD0.out g hg (jX.out g hm))).aM (F:= [g1]) ((aY.refl _ w9).gD (g:=g1) (i:=c) (by simp) (.slice A9 (lg.length+ (1 - 1)) c9)) (fun g hg hm=>by simp only [List.mem_cons,List.not_mem_nil,or_false] at hm;subst hm;exact HD0.out g hg KZ.out)
    have h2 : wo.drew.heap.size=wo.heap.size:=rfl
    have pY : ∀g∈aZ.foot ⟨⟨some ⟨g1,0,none⟩,x.I.G.length,p1⟩,T1.set c ⟨A9,lg.length+ (1 - 1),c9⟩, ⟨A2,n2,p2⟩,T2⟩,g∈aZ.foot ⟨⟨some ⟨g1,0,none⟩,x.I.G.length,p1⟩,T1, ⟨A2,n2,p2⟩,T2⟩ ∨g=wo.heap.size:=by
     intro g hg
     rcases aZ.aX.1 hg with hg|hg
     ·rcases iU hg with hg|hg
      ·exact .inl (aZ.aX.2 (.inl hg))
      ·rcases iy lD g hg with hg|hg
       ·exact .inl (jX.out g hg)
       ·exact .inr hg
     ·exact .inl (aZ.aX.2 (.inr hg))
    exact⟨⟨A9,lg.length+ (1 - 1),c9⟩,au.other (by omega) _,ah.other (by omega) _,Gc,by rw [HD.out];exact⟨hN,hO,fun b hb hm=>by rcases iU hb with hb|hb; (exact bQ.iV b hb hm); (rcases iy lD b hb with hb|hb; (exact bQ.iV b (oP.out b hb) hm); (have:=uO b hm;omega))⟩,by simp [Af,go_sem],fun g hg=>by rcases pY g hg with hh|hh; (exact .inl hh); (right;omega),fun g hg hm=>by rcases pY g hg with hh|hh; (exact HD0.out g hm hh); (have:=ug g hm;omega),Gb⟩
  ·have hi1 : (1 : Int) ≤ (n3 : Int) :=by omega
   have hlit : fE FI wo.drew wo.drew.heap.size (.slice (some ⟨gv,1,none⟩) (n3 - 1) (bv - 1)) ((d_ p n3).drop 1) :=by
    have:=fE.Bt (bA.keep (w':=wo.drew) ku (fun _ _=>rfl)).rd' 1 (n3 - 1) (by rw [hsl];omega)
    rw [List.take_of_length_le (by rw [List.length_drop,hsl];exact Nat.le_refl _)] at this
    simpa using this
   have hn0 : ¬ ((n3 : Int) =0) :=by omega
   have hdl : ((d_ p n3).drop 1).length=n3 - 1:=by rw [List.length_drop,hsl]
   have hsz : lg.length+ ((d_ p n3).drop 1).length≤1073741824:=by rw [hdl];omega
   go_region_law (refine jo Tryz.stInt rfl (.tmp 31) (.tmp 33) rfl (v:= .slice ag lg.length bg) (y:= .slice (some ⟨gv,1,none⟩) (n3 - 1) (bv - 1)) (l:=lg) (m:= (d_ p n3).drop 1) (by simp [Act.eval]) (by simp [Act.eval]) hro hlit hsz ?_;intro v9 w9 qp qw lD;obtain⟨A9,c9,qy,_⟩ :=qp.rd';rw [List.length_append,hdl] at qy;subst qy;have hx:=aY.jP qw;have FH : w9.frozen? ⟨g1,c,none⟩ =false:= (hx.frozen g1 c qU p9.out).trans ff;have FJ : w9.cell? ⟨g1,c,none⟩ =some (Value.slice ag lg.length bg) := (hx.cell g1 c qU p9.out).trans zR;replace au:=au.drew.aM hx (fun hm=>by have:=ul _ (jX.out _ hm);omega);clear aD aF aR aS aL aQ;obtain⟨aD,aF,aR,aS,aL,aQ⟩ :=au.f4;replace ah:=ah.drew.aM hx (fun hm=>by have:=ul _ (jX.out _ hm);omega);clear aj ak aJ aK ay aI;obtain⟨aj,ak,aJ,aK,ay,aI⟩ :=ah.f4;replace ku:= (bA.keep (w':=wo.drew) ku (fun _ _=>rfl)).aM hx (fun g hg hm=>by have:=ul _ (jX.out _ hm);have:=bY.1 hg;omega);have Af:=ku.cell_ JA.out FI.pos;simp only [FI,Nat.mul_one,Nat.add_zero] at Af)
   all_goals
    refine FQ _ _ (Met.intro (FP _ _ ?_))
    (repeat apply Exists.intro)
    refine⟨?_,rfl⟩
    have oD : dZ wo.drew ⟨⟨some ⟨g1,0,none⟩,x.I.G.length,p1⟩,T1, ⟨A2,n2,p2⟩,T2⟩ x.I:=bQ.keep (fun _ _=>rfl)
    have hN:=dR.nM (s':= ⟨A9,lg.length+ (n3 - 1),c9⟩) oD.G HV.out qp qw lD
    change dR _ _ _ (World.setCell _ _ (.slice A9 (lg.length+ (n3 - 1)) c9)) _ _ _ at hN
    have hO : dR FI 3 94 _ _ _ x.I.O:= (oD.O.aM hx (fun b hb hm=>bQ.iV b (oP.out b hm) hb)).aM (F:= [g1]) ((aY.refl _ w9).gD (g:=g1) (i:=c) (by simp) (.slice A9 (lg.length+ (n3 - 1)) c9)) (fun b hb hm=>by simp only [List.mem_cons,List.not_mem_nil,or_false] at hm;subst hm;exact bQ.iV b (cZ.2 (.inl rfl)) hb)
    have uO:= (oD.O).lt
    have Gb : aY (bP.foot ⟨HB, ⟨⟨some ⟨g1,0,none⟩,x.I.G.length,p1⟩,T1, ⟨A2,n2,p2⟩,T2⟩⟩) w (w9.setCell ⟨g1,c,none⟩ (.slice A9 (lg.length+ (n3 - 1)) c9)) := ((aY.bf hB).trans (hx.mono (fun g hg=>Ho g (jX.out g hg)))).gD (Ho _ KZ.out) _
    have Gc : fA (w9.setCell ⟨g1,c,none⟩ (.slice A9 (lg.length+ (n3 - 1)) c9)) HB (fI x.E p c) := ((iX.keep (w':=wo.drew) (fun _ _=>rfl)).aM hx (fun g hg hm=>HD0.out g hg (jX.out g hm))).aM (F:= [g1]) ((aY.refl _ w9).gD (g:=g1) (i:=c) (by simp) (.slice A9 (lg.length+ (n3 - 1)) c9)) (fun g hg hm=>by simp only [List.mem_cons,List.not_mem_nil,or_false] at hm;subst hm;exact HD0.out g hg KZ.out)
    have h2 : wo.drew.heap.size=wo.heap.size:=rfl
    have pY : ∀g∈aZ.foot ⟨⟨some ⟨g1,0,none⟩,x.I.G.length,p1⟩,T1.set c ⟨A9,lg.length+ (n3 - 1),c9⟩, ⟨A2,n2,p2⟩,T2⟩,g∈aZ.foot ⟨⟨some ⟨g1,0,none⟩,x.I.G.length,p1⟩,T1, ⟨A2,n2,p2⟩,T2⟩ ∨g=wo.heap.size:=by
     intro g hg
     rcases aZ.aX.1 hg with hg|hg
     ·rcases iU hg with hg|hg
      ·exact .inl (aZ.aX.2 (.inl hg))
      ·rcases iy lD g hg with hg|hg
       ·exact .inl (jX.out g hg)
       ·exact .inr hg
     ·exact .inl (aZ.aX.2 (.inr hg))
    exact⟨⟨A9,lg.length+ (n3 - 1),c9⟩,au.other (by omega) _,ah.other (by omega) _,Gc,by rw [HD.out];exact⟨hN,hO,fun b hb hm=>by rcases iU hb with hb|hb; (exact bQ.iV b hb hm); (rcases iy lD b hb with hb|hb; (exact bQ.iV b (oP.out b hb) hm); (have:=uO b hm;omega))⟩,by simp [Af,go_sem],fun g hg=>by rcases pY g hg with hh|hh; (exact .inl hh); (right;omega),fun g hg hm=>by rcases pY g hg with hh|hh; (exact HD0.out g hm hh); (have:=ug g hm;omega),Gb⟩
 case rest=>
  clear au ah iX bQ hB hro ing zR ff aD aF aR aS aj ak aJ aK aL ay aQ aI
  obtain⟨S9,au,ah,iX,bQ,pv,fl,fd,hB⟩ :=hcut
  have aD:=au.cell 0 _ rfl
  have aF:=au.cell 1 _ rfl
  have aR:=au.cell 2 _ rfl
  have aS:=au.cell 3 _ rfl
  have aj:=ah.cell 0 _ rfl
  have ak:=ah.cell 1 _ rfl
  have aJ:=ah.cell 2 _ rfl
  have aK:=ah.cell 3 _ rfl
  have aL:=au.dn
  have ay:=ah.dn
  have aQ:=au.lt
  have aI:=ah.lt
  have hi0 : 0<n3:=hn1
  have NV : gv≠w.heap.size+1:=by omega
  have NW : w.heap.size+1≠gv:=by omega
  go_wp2_with fail
  go_region
  all_goals
   go_wp2_with fail
   refine bodyPost_ret (v:= .tuple #[.agg #[.slice HB.Y.a HB.Y.l HB.Y.c, .slice HB.Z.a HB.Z.l HB.Z.c, .slice (some ⟨g1,0,none⟩) x.I.G.length p1, .slice A2 n2 p2], .int .i64 ((p * 4 : Nat) : Int)]) (by simp [results,Tryz.results105,go_sem,aj,ak,aJ,aK]) rfl ⟨⟨HB, ⟨⟨some ⟨g1,0,none⟩,x.I.G.length,p1⟩,T1.set c S9, ⟨A2,n2,p2⟩,T2⟩⟩,rfl, ⟨iX.aM (F:= [w.heap.size+1]) bW (fun g hg hm=>by simp only [List.mem_cons,List.not_mem_nil,or_false] at hm;have:=ug g hg;omega),bQ.aM (F:= [w.heap.size+1]) bW (fun g hg hm=>by simp only [List.mem_cons,List.not_mem_nil,or_false] at hm;rcases fl g hg with hh|hh; (have:=ul g hh;omega);omega),fun b hb hm=>fd b hm hb⟩,fun b hb=>by rcases bP.aX.1 hb with hb|hb; (exact .inl (JC b hb)); (rcases fl b hb with hh|hh; (exact .inl (Ho b hh)); (right;omega)),hB.BN (G:= [w.heap.size+1]) bW (fun b hb=> .inr (by simp only [List.mem_cons,List.not_mem_nil,or_false] at hb;omega))⟩
end Go.Proofs.YtkmggglljkmjoaaGreat
namespace Go.Proofs.YtkmggglljkmjoaaGreat
open Go.RowKit
set_option maxRecDepth 100000 in
set_option maxHeartbeats 8000000 in
theorem y9 (w : World)(H : bP)(x : Mem)(wk c p : Nat)(n : Int)(h : gJ w w.heap.size H x)(hs : dx x≤536870912)(c1 : dG x=true)(hw : wk<3)(c3 : eT n= (c : Int))(hc : c<3)(mM : x.I.O[wk * 3+c]? =some [])(hrow : x.I.G[c]? =some [])(hp : idxOf (fun y=>y == -1) x.E.Z= (p : Int)) :
  Calls Tryz.prog 35 #[.agg #[.slice H.E.Y.a H.E.Y.l H.E.Y.c, .slice H.E.Z.a H.E.Z.l H.E.Z.c, .slice H.I.G.a H.I.G.l H.I.G.c, .slice H.I.O.a H.I.O.l H.I.O.c], .int .i64 wk, .int .i64 n] w fun e w'=> ∃H' : bP,e= .returned (.tuple #[.agg #[.slice H'.E.Y.a H'.E.Y.l H'.E.Y.c, .slice H'.E.Z.a H'.E.Z.l H'.E.Z.c, .slice H'.I.G.a H'.I.G.l H'.I.G.c, .slice H'.I.O.a H'.I.O.l H'.I.O.c], .int .i64 (dz (fI x.E p c) ((p * 4 : Nat) : Int) * 32+ ((p * 4 : Nat) : Int)), .int .i64 0]) ∧d9 w' H' (mH x p c) ∧ (∀g∈H'.foot,w.heap.size≤g) ∧Below w.heap.size w w':=by
 have hcl : bO 0 2 (c : Int) =true:=bJ.2 ⟨by omega,by omega⟩
 have c2 : bO 0 2 (wk : Int) =true:=bJ.2 ⟨by omega,by omega⟩
 have hsh:=jd c1
 have hpl:=CJ hp
 have xG : p<6:=by rw [(iA (jd c1)).cl] at hpl;exact hpl
 obtain⟨Mw,KY,JB⟩ :=xg (jd c1) xG hc
 have f1 : bO 0 23 ((p * 4 : Nat) : Int) =true:=bJ.2 ⟨by omega,by omega⟩
 have f3 : bO 1 6 (dz (fI x.E p c) ((p * 4 : Nat) : Int)) =true:=by rw [JB];decide
 have k1 : 0≤aO (fI x.E p c) ((p * 4 : Nat) : Int) :=by rw [KY];omega
 have hs0 : 0≤ ((p * 4 : Nat) : Int) :=by omega
 have jT : iE x.E≤536870912∧bX x.I≤536870912:=by unfold dx at hs;omega
 have hcp:=fun (W : World) (hW : Below w.heap.size w W) =>lJ W H x (dO h hW) hs
 have hmo:=fun (W : World) (hW : Below w.heap.size w W) =>jA W H x (dO h hW) (by unfold dx bX at hs;omega) (by unfold dx bX at hs;omega)
 have hto:=fun (W : World) (K : aZ) (hK : iC W W.heap.size K x.I) =>rC W K x.I wk c hK jT.2 (jC c1) hw hc mM
 have uQ:=fun (W : World) (K : aZ) (hK : iC W W.heap.size K x.I) =>tC W K x.I c hK jT.2 (jC c1) hc hrow
 have hgr:=fun (W : World) (K : bP) (hK : d9 W K x) =>GK W K x p c hK jT.2 hsh (kD (jC c1)).1 hc hp
 rw [c1] at hmo
 have hco:=fun W=>nG n W
 rw [c3] at hco
 clear c3 hrow mM c1 jT hs KY JB hpl hp hsh
 generalize ((p * 4 : Nat) : Int) =s at f1 f3 hs0 hgr k1⊢
 obtain⟨w0,hW0⟩ : ∃x,x= ((w.alloc (.cells #[.slice H.E.Y.a H.E.Y.l H.E.Y.c, .slice H.E.Z.a H.E.Z.l H.E.Z.c, .slice H.I.G.a H.I.G.l H.I.G.c, .slice H.I.O.a H.I.O.l H.I.O.c] 31)).alloc (.cells #[.slice none 0 0, .slice none 0 0, .slice none 0 0, .slice none 0 0] 31)) := ⟨_,rfl⟩
 have au : aB w0 (w.heap.size) [.slice H.E.Y.a H.E.Y.l H.E.Y.c, .slice H.E.Z.a H.E.Z.l H.E.Z.c, .slice H.I.G.a H.I.G.l H.I.G.c, .slice H.I.O.a H.I.O.l H.I.O.c]:=by
  rw [hW0]
  exact aB.alloc aB.nw _
 have ah : aB w0 (w.heap.size+1) [.slice none 0 0, .slice none 0 0, .slice none 0 0, .slice none 0 0]:=by
  rw [hW0]
  exact aB.nw
 have hB : Below w.heap.size w w0:=by
  rw [hW0]
  exact dJ
 go_enter Tryz.func35,Tryz.ntmps35
 go_wp2_with fail
 rw [←hW0]
 clear hW0
 have g_:=au.lt
 have iB:=ah.lt
 obtain⟨aD,aF,aR,aS,aL,aQ⟩ :=au.f4
 obtain⟨aj,ak,aJ,aK,ay,aI⟩ :=ah.f4
 refine(hcp _ hB).mono ?_
 rintro e w1 ⟨aA,rfl,aP,l_c,hb⟩
 have u_c:=aP.lt
 replace au:=au.below hb
 replace ah:=ah.below hb
 replace hB:=hB.trans (hb.mono hB.size)
 have sz:=hb.size
 clear hb
 clear aD aF aR aS aL aQ
 obtain⟨aD,aF,aR,aS,aL,aQ⟩ :=au.f4
 clear aj ak aJ aK ay aI
 obtain⟨aj,ak,aJ,aK,ay,aI⟩ :=ah.f4
 clear hcp
 go_wp2_with (go_at_call 101;refine(hco _).mono ?_;rintro e wv ⟨rfl,rfl⟩)
 generalize hO : Obj.cells #[.slice aA.E.Y.a aA.E.Y.l aA.E.Y.c, .slice aA.E.Z.a aA.E.Z.l aA.E.Z.c, .slice aA.I.G.a aA.I.G.l aA.I.G.c, .slice aA.I.O.a aA.I.O.l aA.I.O.c] 31=O_
 replace au:=au.alloc O_
 replace ah:=ah.alloc O_
 replace aP:=aP.aH O_
 replace hB:=hB.alloc hB.size O_
 have aN : aB (w1.alloc O_) w1.heap.size [.slice aA.E.Y.a aA.E.Y.l aA.E.Y.c, .slice aA.E.Z.a aA.E.Z.l aA.E.Z.c, .slice aA.I.G.a aA.I.G.l aA.I.G.c, .slice aA.I.O.a aA.I.O.l aA.I.O.c]:=hO ▸ aB.new _ _ _
 have gy:=aN.lt
 have sz : w1.heap.size≤ (w1.alloc O_).heap.size:=Nat.le_of_lt aN.lt
 generalize hG : (w1.alloc O_) =w2 at au ah aP hB aN gy sz⊢
 clear hG hO O_
 clear aD aF aR aS aL aQ
 obtain⟨aD,aF,aR,aS,aL,aQ⟩ :=au.f4
 clear aj ak aJ aK ay aI
 obtain⟨aj,ak,aJ,aK,ay,aI⟩ :=ah.f4
 obtain⟨aV,aW,bG,bH,bq,bN⟩ :=aN.f4
 refine(hmo _ hB).mono ?_
 rintro e w3 ⟨rfl,hb⟩
 replace au:=au.below hb
 replace ah:=ah.below hb
 replace aN:=aN.below hb
 have aP:=aP.step0 hb
 replace hB:=hB.trans (hb.mono hB.size)
 have sz:=hb.size
 clear hb
 clear aD aF aR aS aL aQ
 obtain⟨aD,aF,aR,aS,aL,aQ⟩ :=au.f4
 clear aj ak aJ aK ay aI
 obtain⟨aj,ak,aJ,aK,ay,aI⟩ :=ah.f4
 clear aV aW bG bH bq bN
 obtain⟨aV,aW,bG,bH,bq,bN⟩ :=aN.f4
 clear hmo
 go_wp2_with (go_at_call 102;refine(fG _ _ _ _).mono ?_;rw [c2];rintro e wv ⟨rfl,rfl⟩)
 refine(hto _ aA.I aP.I.rd').mono ?_
 rintro e w4 ⟨iP,rfl,gK,sP,hb⟩
 have sQ:=gK.lt
 replace au:=au.below hb
 replace ah:=ah.below hb
 replace aN:=aN.below hb
 replace aP:=aP.step0 hb
 replace hB:=hB.trans (hb.mono hB.size)
 have sz:=hb.size
 clear hb
 clear aD aF aR aS aL aQ
 obtain⟨aD,aF,aR,aS,aL,aQ⟩ :=au.f4
 clear aj ak aJ aK ay aI
 obtain⟨aj,ak,aJ,aK,ay,aI⟩ :=ah.f4
 clear aV aW bG bH bq bN
 obtain⟨aV,aW,bG,bH,bq,bN⟩ :=aN.f4
 clear hto
 go_wp2_with fail
 generalize hO : Obj.cells #[.slice iP.G.a iP.G.l iP.G.c, .slice iP.O.a iP.O.l iP.O.c] 29=O_
 replace au:=au.alloc O_
 replace ah:=ah.alloc O_
 replace aN:=aN.alloc O_
 replace aP:=aP.aH O_
 replace gK:=gK.aH O_
 replace hB:=hB.alloc hB.size O_
 have cB : aB (w4.alloc O_) w4.heap.size [.slice iP.G.a iP.G.l iP.G.c, .slice iP.O.a iP.O.l iP.O.c]:=hO ▸ aB.new _ _ _
 have oo:=cB.lt
 have sz : w4.heap.size≤ (w4.alloc O_).heap.size:=Nat.le_of_lt cB.lt
 generalize hG : (w4.alloc O_) =w5 at au ah aN aP gK hB cB oo sz⊢
 clear hG hO O_
 clear aD aF aR aS aL aQ
 obtain⟨aD,aF,aR,aS,aL,aQ⟩ :=au.f4
 clear aj ak aJ aK ay aI
 obtain⟨aj,ak,aJ,aK,ay,aI⟩ :=ah.f4
 clear aV aW bG bH bq bN
 obtain⟨aV,aW,bG,bH,bq,bN⟩ :=aN.f4
 obtain⟨dK,dL,eB,fP⟩ :=cB.f2
 refine(uQ _ iP gK.rd').mono ?_
 rintro e w6 ⟨aC,rfl,gP,lX,hb⟩
 have oU:=gP.lt
 replace au:=au.below hb
 replace ah:=ah.below hb
 replace aN:=aN.below hb
 replace cB:=cB.below hb
 replace aP:=aP.step0 hb
 have gK:=gK.step0 hb
 replace hB:=hB.trans (hb.mono hB.size)
 have sz:=hb.size
 clear hb
 clear aD aF aR aS aL aQ
 obtain⟨aD,aF,aR,aS,aL,aQ⟩ :=au.f4
 clear aj ak aJ aK ay aI
 obtain⟨aj,ak,aJ,aK,ay,aI⟩ :=ah.f4
 clear aV aW bG bH bq bN
 obtain⟨aV,aW,bG,bH,bq,bN⟩ :=aN.f4
 clear dK dL eB fP
 obtain⟨dK,dL,eB,fP⟩ :=cB.f2
 clear uQ
 go_upto_region 10 with (fail)
 replace au : aB ((w6.setCell ⟨w4.heap.size,0,none⟩ (.slice aC.G.a aC.G.l aC.G.c)).setCell ⟨w4.heap.size,1,none⟩ (.slice aC.O.a aC.O.l aC.O.c)) (w.heap.size) [.slice H.E.Y.a H.E.Y.l H.E.Y.c, .slice H.E.Z.a H.E.Z.l H.E.Z.c, .slice H.I.G.a H.I.G.l H.I.G.c, .slice H.I.O.a H.I.O.l H.I.O.c]:= ((au.other (by omega) _).other (by omega) _)
 replace ah : aB ((w6.setCell ⟨w4.heap.size,0,none⟩ (.slice aC.G.a aC.G.l aC.G.c)).setCell ⟨w4.heap.size,1,none⟩ (.slice aC.O.a aC.O.l aC.O.c)) (w.heap.size+1) [.slice none 0 0, .slice none 0 0, .slice none 0 0, .slice none 0 0]:= ((ah.other (by omega) _).other (by omega) _)
 replace aN : aB ((w6.setCell ⟨w4.heap.size,0,none⟩ (.slice aC.G.a aC.G.l aC.G.c)).setCell ⟨w4.heap.size,1,none⟩ (.slice aC.O.a aC.O.l aC.O.c)) (w1.heap.size) [.slice aA.E.Y.a aA.E.Y.l aA.E.Y.c, .slice aA.E.Z.a aA.E.Z.l aA.E.Z.c, .slice aA.I.G.a aA.I.G.l aA.I.G.c, .slice aA.I.O.a aA.I.O.l aA.I.O.c]:= ((aN.other (by omega) _).other (by omega) _)
 replace cB : aB ((w6.setCell ⟨w4.heap.size,0,none⟩ (.slice aC.G.a aC.G.l aC.G.c)).setCell ⟨w4.heap.size,1,none⟩ (.slice aC.O.a aC.O.l aC.O.c)) (w4.heap.size) [.slice aC.G.a aC.G.l aC.G.c, .slice aC.O.a aC.O.l aC.O.c]:= ((cB.set 0 (.slice aC.G.a aC.G.l aC.G.c)).set 1 (.slice aC.O.a aC.O.l aC.O.c))
 replace aP:=aP.aM (F:= [w4.heap.size]) (w':= ((w6.setCell ⟨w4.heap.size,0,none⟩ (.slice aC.G.a aC.G.l aC.G.c)).setCell ⟨w4.heap.size,1,none⟩ (.slice aC.O.a aC.O.l aC.O.c))) bW (fun g hg hm=>by simp only [List.mem_cons,List.not_mem_nil,or_false] at hm;have:=l_c g hg;have:=u_c g hg;omega)
 replace gK:=gK.aM (F:= [w4.heap.size]) (w':= ((w6.setCell ⟨w4.heap.size,0,none⟩ (.slice aC.G.a aC.G.l aC.G.c)).setCell ⟨w4.heap.size,1,none⟩ (.slice aC.O.a aC.O.l aC.O.c))) bW (fun g hg hm=>by simp only [List.mem_cons,List.not_mem_nil,or_false] at hm;have:=sP g hg;have:=sQ g hg;omega)
 replace gP:=gP.aM (F:= [w4.heap.size]) (w':= ((w6.setCell ⟨w4.heap.size,0,none⟩ (.slice aC.G.a aC.G.l aC.G.c)).setCell ⟨w4.heap.size,1,none⟩ (.slice aC.O.a aC.O.l aC.O.c))) bW (fun g hg hm=>by simp only [List.mem_cons,List.not_mem_nil,or_false] at hm;have:=lX g hg;have:=oU g hg;omega)
 replace hB : Below w.heap.size w ((w6.setCell ⟨w4.heap.size,0,none⟩ (.slice aC.G.a aC.G.l aC.G.c)).setCell ⟨w4.heap.size,1,none⟩ (.slice aC.O.a aC.O.l aC.O.c)) :=Below.trans hB dQ
 have sz : w6.heap.size≤ ((w6.setCell ⟨w4.heap.size,0,none⟩ (.slice aC.G.a aC.G.l aC.G.c)).setCell ⟨w4.heap.size,1,none⟩ (.slice aC.O.a aC.O.l aC.O.c)).heap.size:=by simp
 generalize hG : ((w6.setCell ⟨w4.heap.size,0,none⟩ (.slice aC.G.a aC.G.l aC.G.c)).setCell ⟨w4.heap.size,1,none⟩ (.slice aC.O.a aC.O.l aC.O.c)) =w7 at au ah aN cB aP gK gP hB sz⊢
 clear hG
 clear aD aF aR aS aL aQ
 obtain⟨aD,aF,aR,aS,aL,aQ⟩ :=au.f4
 clear aj ak aJ aK ay aI
 obtain⟨aj,ak,aJ,aK,ay,aI⟩ :=ah.f4
 clear aV aW bG bH bq bN
 obtain⟨aV,aW,bG,bH,bq,bN⟩ :=aN.f4
 clear dK dL eB fP
 obtain⟨dK,dL,eB,fP⟩ :=cB.f2
 go_upto_region 12 with (fail)
 replace au : aB ((w7.setCell ⟨w1.heap.size,2,none⟩ (.slice aC.G.a aC.G.l aC.G.c)).setCell ⟨w1.heap.size,3,none⟩ (.slice aC.O.a aC.O.l aC.O.c)) (w.heap.size) [.slice H.E.Y.a H.E.Y.l H.E.Y.c, .slice H.E.Z.a H.E.Z.l H.E.Z.c, .slice H.I.G.a H.I.G.l H.I.G.c, .slice H.I.O.a H.I.O.l H.I.O.c]:= ((au.other (by omega) _).other (by omega) _)
 replace ah : aB ((w7.setCell ⟨w1.heap.size,2,none⟩ (.slice aC.G.a aC.G.l aC.G.c)).setCell ⟨w1.heap.size,3,none⟩ (.slice aC.O.a aC.O.l aC.O.c)) (w.heap.size+1) [.slice none 0 0, .slice none 0 0, .slice none 0 0, .slice none 0 0]:= ((ah.other (by omega) _).other (by omega) _)
 replace aN : aB ((w7.setCell ⟨w1.heap.size,2,none⟩ (.slice aC.G.a aC.G.l aC.G.c)).setCell ⟨w1.heap.size,3,none⟩ (.slice aC.O.a aC.O.l aC.O.c)) (w1.heap.size) [.slice aA.E.Y.a aA.E.Y.l aA.E.Y.c, .slice aA.E.Z.a aA.E.Z.l aA.E.Z.c, .slice aC.G.a aC.G.l aC.G.c, .slice aC.O.a aC.O.l aC.O.c]:= ((aN.set 2 (.slice aC.G.a aC.G.l aC.G.c)).set 3 (.slice aC.O.a aC.O.l aC.O.c))
 replace cB : aB ((w7.setCell ⟨w1.heap.size,2,none⟩ (.slice aC.G.a aC.G.l aC.G.c)).setCell ⟨w1.heap.size,3,none⟩ (.slice aC.O.a aC.O.l aC.O.c)) (w4.heap.size) [.slice aC.G.a aC.G.l aC.G.c, .slice aC.O.a aC.O.l aC.O.c]:= ((cB.other (by omega) _).other (by omega) _)
 replace aP:=aP.aM (F:= [w1.heap.size]) (w':= ((w7.setCell ⟨w1.heap.size,2,none⟩ (.slice aC.G.a aC.G.l aC.G.c)).setCell ⟨w1.heap.size,3,none⟩ (.slice aC.O.a aC.O.l aC.O.c))) bW (fun g hg hm=>by simp only [List.mem_cons,List.not_mem_nil,or_false] at hm;have:=l_c g hg;have:=u_c g hg;omega)
 replace gK:=gK.aM (F:= [w1.heap.size]) (w':= ((w7.setCell ⟨w1.heap.size,2,none⟩ (.slice aC.G.a aC.G.l aC.G.c)).setCell ⟨w1.heap.size,3,none⟩ (.slice aC.O.a aC.O.l aC.O.c))) bW (fun g hg hm=>by simp only [List.mem_cons,List.not_mem_nil,or_false] at hm;have:=sP g hg;have:=sQ g hg;omega)
 replace gP:=gP.aM (F:= [w1.heap.size]) (w':= ((w7.setCell ⟨w1.heap.size,2,none⟩ (.slice aC.G.a aC.G.l aC.G.c)).setCell ⟨w1.heap.size,3,none⟩ (.slice aC.O.a aC.O.l aC.O.c))) bW (fun g hg hm=>by simp only [List.mem_cons,List.not_mem_nil,or_false] at hm;have:=lX g hg;have:=oU g hg;omega)
 replace hB : Below w.heap.size w ((w7.setCell ⟨w1.heap.size,2,none⟩ (.slice aC.G.a aC.G.l aC.G.c)).setCell ⟨w1.heap.size,3,none⟩ (.slice aC.O.a aC.O.l aC.O.c)) :=Below.trans hB dQ
 have sz : w7.heap.size≤ ((w7.setCell ⟨w1.heap.size,2,none⟩ (.slice aC.G.a aC.G.l aC.G.c)).setCell ⟨w1.heap.size,3,none⟩ (.slice aC.O.a aC.O.l aC.O.c)).heap.size:=by simp
 generalize hG : ((w7.setCell ⟨w1.heap.size,2,none⟩ (.slice aC.G.a aC.G.l aC.G.c)).setCell ⟨w1.heap.size,3,none⟩ (.slice aC.O.a aC.O.l aC.O.c)) =w8 at au ah aN cB aP gK gP hB sz⊢
 clear hG
 clear aD aF aR aS aL aQ
 obtain⟨aD,aF,aR,aS,aL,aQ⟩ :=au.f4
 clear aj ak aJ aK ay aI
 obtain⟨aj,ak,aJ,aK,ay,aI⟩ :=ah.f4
 clear aV aW bG bH bq bN
 obtain⟨aV,aW,bG,bH,bq,bN⟩ :=aN.f4
 clear dK dL eB fP
 obtain⟨dK,dL,eB,fP⟩ :=cB.f2
 have bR : d9 w8 ⟨aA.E,aC⟩ x:= ⟨aP.E,gP,fun b hb hm=>by have:=u_c b (bP.aX.2 (.inl hb));have:=lX b hm;omega⟩
 have pQ : ∀b∈bP.foot ⟨aA.E,aC⟩,w.heap.size+1<b∧b≠w1.heap.size∧b≠w4.heap.size:=by
  intro b hb
  rcases bP.aX.1 hb with hb|hb
  ·have h1:=u_c b (bP.aX.2 (.inl hb))
   have h2:=l_c b (bP.aX.2 (.inl hb))
   exact⟨by omega,by omega,by omega⟩
  ·have h1:=lX b hb
   exact⟨by omega,by omega,by omega⟩
 clear aP gP gK sP sQ
 go_wp2_with fail
 refine(hgr _ _ bR).mono ?_
 clear hgr
 rintro e EB ⟨aG,rfl,bZ,F9,hx⟩
 replace ah:=ah.aM hx (fun hm=>by have:=pQ _ hm;omega)
 replace aN:=aN.aM hx (fun hm=>by have:=pQ _ hm;omega)
 replace cB:=cB.aM hx (fun hm=>by have:=pQ _ hm;omega)
 replace au:=au.aM hx (fun hm=>by have:=pQ _ hm;omega)
 replace hB:=hB.trans (hx.below hB.size (fun b hb=>by have:=pQ b hb;omega))
 have sz:=hx.size
 have G_ : ∀b∈aG.foot,w.heap.size+1<b∧b≠w1.heap.size:=fun b hb=>by rcases F9 b hb with hh|hh; (exact⟨(pQ b hh).1, (pQ b hh).2.1⟩);exact⟨by omega,by omega⟩
 have dY : ∀b∈aG.foot,w.heap.size+1<b:=fun b hb=> (G_ b hb).1
 have u_n:=bZ.lt
 have NZ : ∀b∈aG.foot,b≠w1.heap.size:=fun b hb=> (G_ b hb).2
 clear bR hx
 clear cB dK dL eB fP
 clear aD aF aR aS aL aQ
 obtain⟨aD,aF,aR,aS,aL,aQ⟩ :=au.f4
 clear aj ak aJ aK ay aI
 obtain⟨aj,ak,aJ,aK,ay,aI⟩ :=ah.f4
 clear aV aW bG bH bq bN
 obtain⟨aV,aW,bG,bH,bq,bN⟩ :=aN.f4
 go_upto_region 15 with (fail)
 replace au : aB ((((EB.setCell ⟨w1.heap.size,0,none⟩ (.slice aG.E.Y.a aG.E.Y.l aG.E.Y.c)).setCell ⟨w1.heap.size,1,none⟩ (.slice aG.E.Z.a aG.E.Z.l aG.E.Z.c)).setCell ⟨w1.heap.size,2,none⟩ (.slice aG.I.G.a aG.I.G.l aG.I.G.c)).setCell ⟨w1.heap.size,3,none⟩ (.slice aG.I.O.a aG.I.O.l aG.I.O.c)) (w.heap.size) [.slice H.E.Y.a H.E.Y.l H.E.Y.c, .slice H.E.Z.a H.E.Z.l H.E.Z.c, .slice H.I.G.a H.I.G.l H.I.G.c, .slice H.I.O.a H.I.O.l H.I.O.c]:= ((((au.other (by omega) _).other (by omega) _).other (by omega) _).other (by omega) _)
 replace ah : aB ((((EB.setCell ⟨w1.heap.size,0,none⟩ (.slice aG.E.Y.a aG.E.Y.l aG.E.Y.c)).setCell ⟨w1.heap.size,1,none⟩ (.slice aG.E.Z.a aG.E.Z.l aG.E.Z.c)).setCell ⟨w1.heap.size,2,none⟩ (.slice aG.I.G.a aG.I.G.l aG.I.G.c)).setCell ⟨w1.heap.size,3,none⟩ (.slice aG.I.O.a aG.I.O.l aG.I.O.c)) (w.heap.size+1) [.slice none 0 0, .slice none 0 0, .slice none 0 0, .slice none 0 0]:= ((((ah.other (by omega) _).other (by omega) _).other (by omega) _).other (by omega) _)
 replace aN : aB ((((EB.setCell ⟨w1.heap.size,0,none⟩ (.slice aG.E.Y.a aG.E.Y.l aG.E.Y.c)).setCell ⟨w1.heap.size,1,none⟩ (.slice aG.E.Z.a aG.E.Z.l aG.E.Z.c)).setCell ⟨w1.heap.size,2,none⟩ (.slice aG.I.G.a aG.I.G.l aG.I.G.c)).setCell ⟨w1.heap.size,3,none⟩ (.slice aG.I.O.a aG.I.O.l aG.I.O.c)) (w1.heap.size) [.slice aG.E.Y.a aG.E.Y.l aG.E.Y.c, .slice aG.E.Z.a aG.E.Z.l aG.E.Z.c, .slice aG.I.G.a aG.I.G.l aG.I.G.c, .slice aG.I.O.a aG.I.O.l aG.I.O.c]:= ((((aN.set 0 (.slice aG.E.Y.a aG.E.Y.l aG.E.Y.c)).set 1 (.slice aG.E.Z.a aG.E.Z.l aG.E.Z.c)).set 2 (.slice aG.I.G.a aG.I.G.l aG.I.G.c)).set 3 (.slice aG.I.O.a aG.I.O.l aG.I.O.c))
 replace bZ:=bZ.aM (F:= [w1.heap.size]) (w':= ((((EB.setCell ⟨w1.heap.size,0,none⟩ (.slice aG.E.Y.a aG.E.Y.l aG.E.Y.c)).setCell ⟨w1.heap.size,1,none⟩ (.slice aG.E.Z.a aG.E.Z.l aG.E.Z.c)).setCell ⟨w1.heap.size,2,none⟩ (.slice aG.I.G.a aG.I.G.l aG.I.G.c)).setCell ⟨w1.heap.size,3,none⟩ (.slice aG.I.O.a aG.I.O.l aG.I.O.c))) bW (fun g hg hm=>by simp only [List.mem_cons,List.not_mem_nil,or_false] at hm;have:=dY g hg;have:=u_n g hg;have:=NZ g hg;omega)
 replace hB : Below w.heap.size w ((((EB.setCell ⟨w1.heap.size,0,none⟩ (.slice aG.E.Y.a aG.E.Y.l aG.E.Y.c)).setCell ⟨w1.heap.size,1,none⟩ (.slice aG.E.Z.a aG.E.Z.l aG.E.Z.c)).setCell ⟨w1.heap.size,2,none⟩ (.slice aG.I.G.a aG.I.G.l aG.I.G.c)).setCell ⟨w1.heap.size,3,none⟩ (.slice aG.I.O.a aG.I.O.l aG.I.O.c)) :=Below.trans hB dQ
 have sz : EB.heap.size≤ ((((EB.setCell ⟨w1.heap.size,0,none⟩ (.slice aG.E.Y.a aG.E.Y.l aG.E.Y.c)).setCell ⟨w1.heap.size,1,none⟩ (.slice aG.E.Z.a aG.E.Z.l aG.E.Z.c)).setCell ⟨w1.heap.size,2,none⟩ (.slice aG.I.G.a aG.I.G.l aG.I.G.c)).setCell ⟨w1.heap.size,3,none⟩ (.slice aG.I.O.a aG.I.O.l aG.I.O.c)).heap.size:=by simp
 generalize hG : ((((EB.setCell ⟨w1.heap.size,0,none⟩ (.slice aG.E.Y.a aG.E.Y.l aG.E.Y.c)).setCell ⟨w1.heap.size,1,none⟩ (.slice aG.E.Z.a aG.E.Z.l aG.E.Z.c)).setCell ⟨w1.heap.size,2,none⟩ (.slice aG.I.G.a aG.I.G.l aG.I.G.c)).setCell ⟨w1.heap.size,3,none⟩ (.slice aG.I.O.a aG.I.O.l aG.I.O.c)) =w9 at au ah aN bZ hB sz⊢
 clear hG
 clear aD aF aR aS aL aQ
 obtain⟨aD,aF,aR,aS,aL,aQ⟩ :=au.f4
 clear aj ak aJ aK ay aI
 obtain⟨aj,ak,aJ,aK,ay,aI⟩ :=ah.f4
 clear aV aW bG bH bq bN
 obtain⟨aV,aW,bG,bH,bq,bN⟩ :=aN.f4
 have hhi:=fun (W : World) (hW : Below w9.heap.size w9 W) =>uU W aG x (fI x.E p c) s (dW bZ.E.rd' hW) Mw f1 f3 (Int.not_lt.2 k1)
 have Qq:=dY
 go_region_with (first| (go_at_call 106; (first| ((with_reducible refine(hhi _ (Below.refl _ _)).mono ?_);rintro e wq ⟨rfl,hb⟩;replace au:=au.below hb;replace ah:=ah.below hb;replace aN:=aN.below hb;replace bZ:=bZ.step0 hb;replace hB:=hB.trans (hb.mono hB.size);have sz:=hb.size;clear hb;clear aD aF aR aS aL aQ;obtain⟨aD,aF,aR,aS,aL,aQ⟩ :=au.f4;clear aj ak aJ aK ay aI;obtain⟨aj,ak,aJ,aK,ay,aI⟩ :=ah.f4;clear aV aW bG bH bq bN;obtain⟨aV,aW,bG,bH,bq,bN⟩ :=aN.f4) | ((with_reducible refine(hhi _ (Below.refl _ _).drew).mono ?_);rintro e wq ⟨rfl,hb⟩;replace hb:=gq hb;replace au:=au.below hb;replace ah:=ah.below hb;replace aN:=aN.below hb;replace bZ:=bZ.step0 hb;replace hB:=hB.trans (hb.mono hB.size);have sz:=hb.size;clear hb;clear aD aF aR aS aL aQ;obtain⟨aD,aF,aR,aS,aL,aQ⟩ :=au.f4;clear aj ak aJ aK ay aI;obtain⟨aj,ak,aJ,aK,ay,aI⟩ :=ah.f4;clear aV aW bG bH bq bN;obtain⟨aV,aW,bG,bH,bq,bN⟩ :=aN.f4))))
 all_goals
  go_wp2_with fail
  refine bodyPost_ret (v:= .tuple #[.agg #[.slice aG.E.Y.a aG.E.Y.l aG.E.Y.c, .slice aG.E.Z.a aG.E.Z.l aG.E.Z.c, .slice aG.I.G.a aG.I.G.l aG.I.G.c, .slice aG.I.O.a aG.I.O.l aG.I.O.c], .int .i64 (dz (fI x.E p c) s * 32+s), .int .i64 0]) (by simp [results,Tryz.results35,go_sem,aj,ak,aJ,aK]) rfl ⟨aG,rfl,bZ.aM (F:= [w.heap.size+1]) bW (fun g hg hm=>by simp only [List.mem_cons,List.not_mem_nil,or_false] at hm;have:=dY g hg;have:=u_n g hg;omega),fun g hg=>by have:=dY g hg;omega,Below.trans hB dQ⟩
end Go.Proofs.YtkmggglljkmjoaaGreat
