/-
  Several texts in one: lemmas and contracts that the claim rests on.
-/
import Derived.Test.YtkmggglljkmjoaaGreatUTC1
import Derived.Deep.QuietTactic
import Derived.BigQuiet
import Derived.Deep.LoopGhost
import Derived.Deep.RegionHeld3
import Derived.Test.YtkmggglljkmjoaaGreatUTC2
import Derived.WalkSpells
import Derived.Laws.Cover3
import Derived.Test.YtkmggglljkmjoaaGreatUTC13
import Derived.Test.YtkmggglljkmjoaaGreatUTC14
namespace Go.Proofs.YtkmggglljkmjoaaGreat
open Go.RowKit
theorem uJ {x : Lists}{k c : Nat}{s : Int}{l : List Int}(hl : x.O[k]? =some l)(h : l.length<2) : nI x k c s= {x with O:=x.O.set k (l++ [s])}:=by
 have e : x.O.getD k []=l:=by simp [List.getD,hl]
 unfold nI
 rw [e,if_pos h]
theorem yA {x : Lists}{k c : Nat}{s : Int}{l r : List Int}(hl : x.O[k]? =some l)(h : ¬ l.length<2)(hr : x.G[c]? =some r) : nI x k c s= {x with G:=x.G.set c (r++ [s])}:=by
 have e : x.O.getD k []=l:=by simp [List.getD,hl]
 have e2 : x.G.getD c []=r:=by simp [List.getD,hr]
 unfold nI
 rw [e,if_neg h,e2]
set_option maxRecDepth 100000 in
set_option maxHeartbeats 4000000 in
theorem JZ (w : World)(H : aZ)(x : Lists)(wk c : Nat)(s : Int)(h : iC w w.heap.size H x)(hs : bX x≤536870912)(hok : fU x=true)(hw : wk<3)(hc : c<3)(hsl : bO 0 23 s=true)(hno : kZ x s=false) :
  Calls Tryz.prog 167 #[.agg #[.slice H.G.a H.G.l H.G.c, .slice H.O.a H.O.l H.O.c], .int .i64 wk, .int .i64 c, .int .i64 s] w fun e w'=> ∃H' : aZ,e= .returned (.tuple #[.agg #[.slice H'.G.a H'.G.l H'.G.c, .slice H'.O.a H'.O.l H'.O.c], .bool true]) ∧dZ w' H' (nI x (wk * 3+c) c s) ∧ (∀g∈H'.foot,w.heap.size≤g) ∧Below w.heap.size w w':=by
 obtain⟨hl3,mW⟩ :=kD hok
 have H3:=Hid.aT hl3
 have H9:=Hid.aT mW
 have CP:=Hid.aT (show ∀l,l∈x.O∨l∈x.G→l.length≤536870912 from fun l hl=>by
  unfold bX at hs
  rcases hl with hl|hl
  ·have:=mK hl
   omega
  ·have:=mK hl
   omega)
 obtain⟨lo,hlo⟩ : ∃l,x.O[wk * 3+c]? =some l:= ⟨_,List.getElem?_eq_getElem (by omega)⟩
 obtain⟨lg,sI⟩ : ∃l,x.G[c]? =some l:= ⟨_,List.getElem?_eq_getElem (by omega)⟩
 have HO:=Hid.aT hlo
 have HG:=Hid.aT sI
 have hso:=CP.out lo (.inl (List.mem_of_getElem? hlo))
 have hsg:=CP.out lg (.inr (List.mem_of_getElem? sI))
 have hoa:=fun W=>yw wk c hw hc W
 have Eb : wk * 3+c<x.O.length:=by omega
 have hc3 : c<x.G.length:=by omega
 have mg:=Hid.aT Eb
 have Ji:=Hid.aT hc3
 clear hl3 mW hlo sI Eb hc3
 obtain⟨k,hk⟩ : ∃k,k=wk * 3+c:= ⟨_,rfl⟩
 rw [←hk] at hoa HO mg⊢
 clear hk
 obtain⟨w0,hW0⟩ : ∃x,x= ((w.alloc (.cells #[.slice H.G.a H.G.l H.G.c, .slice H.O.a H.O.l H.O.c] 29)).alloc (.cells #[.slice none 0 0, .slice none 0 0] 29)) := ⟨_,rfl⟩
 have au : aB w0 (w.heap.size) [.slice H.G.a H.G.l H.G.c, .slice H.O.a H.O.l H.O.c]:=by
  rw [hW0]
  exact aB.alloc aB.nw _
 have ah : aB w0 (w.heap.size+1) [.slice none 0 0, .slice none 0 0]:=by
  rw [hW0]
  exact aB.nw
 have hB : Below w.heap.size w w0:=by
  rw [hW0]
  exact dJ
 go_enter Tryz.func167,Tryz.ntmps167
 go_wp2_with fail
 rw [←hW0]
 clear hW0
 have g_:=au.lt
 have iB:=ah.lt
 obtain⟨aD,aF,aL,aQ⟩ :=au.f2
 obtain⟨aj,ak,ay,aI⟩ :=ah.f2
 refine(kL _ H x (eZ h hB) hs).mono ?_
 rintro e w1 ⟨aA,rfl,aP,l_c,hb⟩
 have u_c:=aP.lt
 replace au:=au.below hb
 replace ah:=ah.below hb
 replace hB:=hB.trans (hb.mono hB.size)
 have sz:=hb.size
 clear hb
 clear aD aF aL aQ
 obtain⟨aD,aF,aL,aQ⟩ :=au.f2
 clear aj ak ay aI
 obtain⟨aj,ak,ay,aI⟩ :=ah.f2
 obtain⟨⟨A1,n1,p1⟩,T1, ⟨A2,n2,p2⟩,T2⟩ :=aA
 obtain⟨g1,c1,hv1,hg1⟩ :=dR.jV (v:= .slice A1 n1 p1) aP.G (by rw [H3.out];decide)
 obtain⟨g2,c2,hv2,hg2⟩ :=dR.jV (v:= .slice A2 n2 p2) aP.O (by rw [H9.out];decide)
 injection hv1 with i1 i2 i3
 injection hv2 with j1 j2 j3
 subst i1 i2 i3 j1 j2 j3
 have oZ : g1∈aZ.foot ⟨⟨some ⟨g1,0,none⟩,x.G.length,p1⟩,T1, ⟨some ⟨g2,0,none⟩,x.O.length,p2⟩,T2⟩ :=aZ.aX.2 (.inl (cZ.2 (.inl rfl)))
 have o7 : g2∈aZ.foot ⟨⟨some ⟨g1,0,none⟩,x.G.length,p1⟩,T1, ⟨some ⟨g2,0,none⟩,x.O.length,p2⟩,T2⟩ :=aZ.aX.2 (.inr (cZ.2 (.inl rfl)))
 have CQ:=l_c _ oZ
 have Eh:=l_c _ o7
 clear oZ o7
 go_wp2_with (go_at_call 159;refine(hoa _).mono ?_;rintro e wv ⟨rfl,rfl⟩)
 clear hoa
 generalize hO : Obj.cells #[.slice (some ⟨g1,0,none⟩) x.G.length p1, .slice (some ⟨g2,0,none⟩) x.O.length p2] 29=O_
 replace au:=au.alloc O_
 replace ah:=ah.alloc O_
 replace aP:=aP.aH O_
 replace hB:=hB.alloc hB.size O_
 have aN : aB (w1.alloc O_) w1.heap.size [.slice (some ⟨g1,0,none⟩) x.G.length p1, .slice (some ⟨g2,0,none⟩) x.O.length p2]:=hO ▸ aB.new _ _ _
 have gy:=aN.lt
 have sz : w1.heap.size≤ (w1.alloc O_).heap.size:=Nat.le_of_lt aN.lt
 generalize hG : (w1.alloc O_) =w2 at au ah aP hB aN gy sz⊢
 clear hG hO O_
 clear aD aF aL aQ
 obtain⟨aD,aF,aL,aQ⟩ :=au.f2
 clear aj ak ay aI
 obtain⟨aj,ak,ay,aI⟩ :=ah.f2
 obtain⟨aV,aW,bq,bN⟩ :=aN.f2
 refine(oI _ H x (eZ h hB)).mono ?_
 rw [hok]
 rintro e w3 ⟨rfl,hb⟩
 replace au:=au.below hb
 replace ah:=ah.below hb
 replace aN:=aN.below hb
 have aP:=aP.step0 hb
 replace hB:=hB.trans (hb.mono hB.size)
 have sz:=hb.size
 clear hb
 clear aD aF aL aQ
 obtain⟨aD,aF,aL,aQ⟩ :=au.f2
 clear aj ak ay aI
 obtain⟨aj,ak,ay,aI⟩ :=ah.f2
 clear aV aW bq bN
 obtain⟨aV,aW,bq,bN⟩ :=aN.f2
 clear hok
 go_wp2_with (go_at_call 120;refine(l8 _ _).mono ?_;rw [hsl];rintro e wv ⟨rfl,rfl⟩)
 refine(AB _ H x s (eZ h hB)).mono ?_
 rw [hno]
 rintro e w4 ⟨rfl,hb⟩
 replace au:=au.below hb
 replace ah:=ah.below hb
 replace aN:=aN.below hb
 replace aP:=aP.step0 hb
 replace hB:=hB.trans (hb.mono hB.size)
 have sz:=hb.size
 clear hb
 clear aD aF aL aQ
 obtain⟨aD,aF,aL,aQ⟩ :=au.f2
 clear aj ak ay aI
 obtain⟨aj,ak,ay,aI⟩ :=ah.f2
 clear aV aW bq bN
 obtain⟨aV,aW,bq,bN⟩ :=aN.f2
 clear hno hsl
 by_cases hlen : lo.length<2
 ·have HLEN:=Hid.aT hlen
  obtain⟨so,jU⟩ : ∃q,T2[k]? =some q:= ⟨_,List.getElem?_eq_getElem (by rw [aP.O.len];exact mg.out)⟩
  have ino:=aP.O.inner k so _ jU HO.out
  have po:=aP.O.outer.cell_ (j:=0) jU (by decide)
  simp only [FS,Nat.mul_one,Nat.add_zero] at po
  obtain⟨Ao,co,qo,_⟩ :=ino.rd'
  obtain⟨ao,no,bo⟩ :=so
  injection qo with k1 k2 k3
  subst k1 k2 k3
  have qR : _=some (Value.slice ao lo.length bo) :=po
  clear po
  have ff:=aP.O.outer.eD k
  have HV:=Hid.aT jU
  have p9:=Hid.aT (dR.head_ne (g:=g2) (n:=x.O.length) (c:=p2) aP.O jU)
  have hkk : k<x.O.length:=mg.out
  have qU : g2<w4.heap.size:=by omega
  have yP : g2≠w.heap.size:=by omega
  have xI : g2≠w.heap.size+1:=by omega
  have AZ : g2≠w1.heap.size:=by omega
  have yQ : w.heap.size≠g2:=by omega
  have xJ : w.heap.size+1≠g2:=by omega
  have A8 : w1.heap.size≠g2:=by omega
  have oP:=Hid.aT (show ∀b∈cu (SV.val ⟨ao,lo.length,bo⟩),b∈dH (.slice (some ⟨g2,0,none⟩) x.O.length p2) T2 from fun b hb=>cZ.2 (.inr ⟨_,List.mem_of_getElem? HV.out,bV.1 hb⟩))
  have jX:=Hid.aT (show ∀b∈cu (SV.val ⟨ao,lo.length,bo⟩),b∈aZ.foot ⟨⟨some ⟨g1,0,none⟩,x.G.length,p1⟩,T1, ⟨some ⟨g2,0,none⟩,x.O.length,p2⟩,T2⟩ from fun b hb=>aZ.aX.2 (.inr (oP.out b hb)))
  go_wp2_with (at_builtin;refine gu Tryz.stInt rfl _ _ rfl (v:= .slice ao lo.length bo) (y:= .slice (some ⟨w4.heap.size,0,none⟩) 1 1) (l:=lo) (m:= [s]) rfl rfl (bA.aH (show bA FI 3 w4 (.slice ao lo.length bo) lo from ino) _) (bA.lit FI [s] #[.int .i64 s] rfl (by simp [maxLen]) w4 3).rd' (by simp;omega) ?_;intro v9 w9 qp qw lD;obtain⟨A9,c9,qy,_⟩ :=qp.rd';simp only [List.length_append,List.length_singleton] at qy;subst qy;have hx:=aY.jP qw;have J2:=hx.size;simp only [World.size_alloc] at J2;have FH:= (hx.frozen g2 k (by simp;omega) p9.out).trans ((kP w4 _ g2 k qU).trans ff);have FJ:= (hx.cell g2 k (by simp;omega) p9.out).trans ((nE w4 _ g2 k qU).trans qR);replace au:= (au.alloc _).aM hx (fun hm=>by have:=l_c _ (jX.out _ hm);have:=u_c _ (jX.out _ hm);omega);clear aD aF aL aQ;obtain⟨aD,aF,aL,aQ⟩ :=au.f2;replace ah:= (ah.alloc _).aM hx (fun hm=>by have:=l_c _ (jX.out _ hm);have:=u_c _ (jX.out _ hm);omega);clear aj ak ay aI;obtain⟨aj,ak,ay,aI⟩ :=ah.f2;replace aN:= (aN.alloc _).aM hx (fun hm=>by have:=l_c _ (jX.out _ hm);have:=u_c _ (jX.out _ hm);omega);clear aV aW bq bN;obtain⟨aV,aW,bq,bN⟩ :=aN.f2)
  have hN:=dR.nM (s':= ⟨A9,lo.length+1,c9⟩) (aP.O.aH _) HV.out qp qw lD
  have pY:=FC (B:=w0.heap.size) (s':= ⟨A9,lo.length+1,c9⟩) HV.out lD (by simp;omega) (fun b hb=>l_c b (aZ.aX.2 (.inr hb)))
  have hO : dR FI 3 94 _ _ _ x.G:= ((aP.G.aH (.cells #[.int .i64 s] 3)).aM hx (fun b hb hm=>aP.iV b hb (oP.out b hm))).aM (F:= [g2]) ((aY.refl _ w9).gD (g:=g2) (i:=k) (by simp) (SV.val ⟨A9,lo.length+1,c9⟩)) (fun b hb hm=>by simp only [List.mem_cons,List.not_mem_nil,or_false] at hm;subst hm;exact aP.iV b hb (cZ.2 (.inl rfl)))
  have uO:= (aP.G).lt
  refine bodyPost_ret (v:= .tuple #[.agg #[.slice (some ⟨g1,0,none⟩) x.G.length p1, .slice (some ⟨g2,0,none⟩) x.O.length p2], .bool true]) (by simp [results,Tryz.results167,go_sem,aj,ak]) rfl ⟨⟨⟨some ⟨g1,0,none⟩,x.G.length,p1⟩,T1, ⟨some ⟨g2,0,none⟩,x.O.length,p2⟩,T2.set k ⟨A9,lo.length+1,c9⟩⟩,rfl,by rw [uJ HO.out HLEN.out];exact⟨hO.aM (F:= [w.heap.size+1]) (by repeat (first|exact aY.refl _ _|refine aY.gD ?_ (by simp) _|refine aY.aH ?_ _|refine aY.bf ?_)) (fun g hg hm=>by simp only [List.mem_cons,List.not_mem_nil,or_false] at hm;have:=l_c _ (aZ.aX.2 (.inl hg));omega),hN.aM (F:= [w.heap.size+1]) (by repeat (first|exact aY.refl _ _|refine aY.gD ?_ (by simp) _|refine aY.aH ?_ _|refine aY.bf ?_)) (fun g hg hm=>by simp only [List.mem_cons,List.not_mem_nil,or_false] at hm;have:=pY _ hg;omega),fun b hb hm=>by rcases iU hm with hm|hm; (exact aP.iV b hb hm); (rcases iy lD b hm with hm|hm; (exact aP.iV b hb (oP.out b hm)); (have:=uO b hb;simp at hm;omega))⟩,fun b hb=> ?_, ?_⟩
  ·rcases aZ.aX.1 hb with hb|hb
   ·have:=l_c b (aZ.aX.2 (.inl hb))
    omega
   ·have:=pY b hb
    omega
  ·exact Below.trans hB (Below.trans ((Below.refl _ _).alloc hB.size _) (Below.trans (hx.below (by simp;have:=hB.size;omega) (fun b hb=>by have:=l_c b (jX.out b hb);omega)) (by repeat (first|exact Below.refl _ _|refine Below.setCell ?_ (by simp<;>omega) _|refine Below.alloc ?_ (by simp<;>omega) _|refine Below.drew ?_))))
 ·have HLEN:=Hid.aT hlen
  obtain⟨so,jU⟩ : ∃q,T2[k]? =some q:= ⟨_,List.getElem?_eq_getElem (by rw [aP.O.len];exact mg.out)⟩
  have ino:=aP.O.inner k so _ jU HO.out
  have po:=aP.O.outer.cell_ (j:=0) jU (by decide)
  simp only [FS,Nat.mul_one,Nat.add_zero] at po
  obtain⟨Ao,co,qo,_⟩ :=ino.rd'
  obtain⟨ao,no,bo⟩ :=so
  injection qo with k1 k2 k3
  subst k1 k2 k3
  have qR : _=some (Value.slice ao lo.length bo) :=po
  clear po
  obtain⟨sg,pz⟩ : ∃q,T1[c]? =some q:= ⟨_,List.getElem?_eq_getElem (by rw [aP.G.len];exact Ji.out)⟩
  have ing:=aP.G.inner c sg _ pz HG.out
  have pg:=aP.G.outer.cell_ (j:=0) pz (by decide)
  simp only [FS,Nat.mul_one,Nat.add_zero] at pg
  obtain⟨Ag,cg,FK,_⟩ :=ing.rd'
  obtain⟨ag,ng,bg⟩ :=sg
  injection FK with k1 k2 k3
  subst k1 k2 k3
  have zR : _=some (Value.slice ag lg.length bg) :=pg
  clear pg
  have ff:=aP.G.outer.eD c
  have HV:=Hid.aT pz
  have p9:=Hid.aT (dR.head_ne (g:=g1) (n:=x.G.length) (c:=p1) aP.G pz)
  have hkk : c<x.G.length:=Ji.out
  have qU : g1<w4.heap.size:=by omega
  have yP : g1≠w.heap.size:=by omega
  have xI : g1≠w.heap.size+1:=by omega
  have AZ : g1≠w1.heap.size:=by omega
  have yQ : w.heap.size≠g1:=by omega
  have xJ : w.heap.size+1≠g1:=by omega
  have A8 : w1.heap.size≠g1:=by omega
  have oP:=Hid.aT (show ∀b∈cu (SV.val ⟨ag,lg.length,bg⟩),b∈dH (.slice (some ⟨g1,0,none⟩) x.G.length p1) T1 from fun b hb=>cZ.2 (.inr ⟨_,List.mem_of_getElem? HV.out,bV.1 hb⟩))
  have jX:=Hid.aT (show ∀b∈cu (SV.val ⟨ag,lg.length,bg⟩),b∈aZ.foot ⟨⟨some ⟨g1,0,none⟩,x.G.length,p1⟩,T1, ⟨some ⟨g2,0,none⟩,x.O.length,p2⟩,T2⟩ from fun b hb=>aZ.aX.2 (.inl (oP.out b hb)))
  go_wp2_with (at_builtin;refine gu Tryz.stInt rfl _ _ rfl (v:= .slice ag lg.length bg) (y:= .slice (some ⟨w4.heap.size,0,none⟩) 1 1) (l:=lg) (m:= [s]) rfl rfl (bA.aH (show bA FI 3 w4 (.slice ag lg.length bg) lg from ing) _) (bA.lit FI [s] #[.int .i64 s] rfl (by simp [maxLen]) w4 3).rd' (by simp;omega) ?_;intro v9 w9 qp qw lD;obtain⟨A9,c9,qy,_⟩ :=qp.rd';simp only [List.length_append,List.length_singleton] at qy;subst qy;have hx:=aY.jP qw;have J2:=hx.size;simp only [World.size_alloc] at J2;have FH:= (hx.frozen g1 c (by simp;omega) p9.out).trans ((kP w4 _ g1 c qU).trans ff);have FJ:= (hx.cell g1 c (by simp;omega) p9.out).trans ((nE w4 _ g1 c qU).trans zR);replace au:= (au.alloc _).aM hx (fun hm=>by have:=l_c _ (jX.out _ hm);have:=u_c _ (jX.out _ hm);omega);clear aD aF aL aQ;obtain⟨aD,aF,aL,aQ⟩ :=au.f2;replace ah:= (ah.alloc _).aM hx (fun hm=>by have:=l_c _ (jX.out _ hm);have:=u_c _ (jX.out _ hm);omega);clear aj ak ay aI;obtain⟨aj,ak,ay,aI⟩ :=ah.f2;replace aN:= (aN.alloc _).aM hx (fun hm=>by have:=l_c _ (jX.out _ hm);have:=u_c _ (jX.out _ hm);omega);clear aV aW bq bN;obtain⟨aV,aW,bq,bN⟩ :=aN.f2)
  have hN:=dR.nM (s':= ⟨A9,lg.length+1,c9⟩) (aP.G.aH _) HV.out qp qw lD
  have pY:=FC (B:=w0.heap.size) (s':= ⟨A9,lg.length+1,c9⟩) HV.out lD (by simp;omega) (fun b hb=>l_c b (aZ.aX.2 (.inl hb)))
  have hO : dR FI 3 94 _ _ _ x.O:= ((aP.O.aH (.cells #[.int .i64 s] 3)).aM hx (fun b hb hm=>aP.iV b (oP.out b hm) hb)).aM (F:= [g1]) ((aY.refl _ w9).gD (g:=g1) (i:=c) (by simp) (SV.val ⟨A9,lg.length+1,c9⟩)) (fun b hb hm=>by simp only [List.mem_cons,List.not_mem_nil,or_false] at hm;subst hm;exact aP.iV b (cZ.2 (.inl rfl)) hb)
  have uO:= (aP.O).lt
  refine bodyPost_ret (v:= .tuple #[.agg #[.slice (some ⟨g1,0,none⟩) x.G.length p1, .slice (some ⟨g2,0,none⟩) x.O.length p2], .bool true]) (by simp [results,Tryz.results167,go_sem,aj,ak]) rfl ⟨⟨⟨some ⟨g1,0,none⟩,x.G.length,p1⟩,T1.set c ⟨A9,lg.length+1,c9⟩, ⟨some ⟨g2,0,none⟩,x.O.length,p2⟩,T2⟩,rfl,by rw [yA HO.out HLEN.out HG.out];exact⟨hN.aM (F:= [w.heap.size+1]) (by repeat (first|exact aY.refl _ _|refine aY.gD ?_ (by simp) _|refine aY.aH ?_ _|refine aY.bf ?_)) (fun g hg hm=>by simp only [List.mem_cons,List.not_mem_nil,or_false] at hm;have:=pY _ hg;omega),hO.aM (F:= [w.heap.size+1]) (by repeat (first|exact aY.refl _ _|refine aY.gD ?_ (by simp) _|refine aY.aH ?_ _|refine aY.bf ?_)) (fun g hg hm=>by simp only [List.mem_cons,List.not_mem_nil,or_false] at hm;have:=l_c _ (aZ.aX.2 (.inr hg));omega),fun b hb hm=>by rcases iU hb with hb|hb; (exact aP.iV b hb hm); (rcases iy lD b hb with hb|hb; (exact aP.iV b (oP.out b hb) hm); (have:=uO b hm;simp at hb;omega))⟩,fun b hb=> ?_, ?_⟩
  ·rcases aZ.aX.1 hb with hb|hb
   ·have:=pY b hb
    omega
   ·have:=l_c b (aZ.aX.2 (.inr hb))
    omega
  ·exact Below.trans hB (Below.trans ((Below.refl _ _).alloc hB.size _) (Below.trans (hx.below (by simp;have:=hB.size;omega) (fun b hb=>by have:=l_c b (jX.out b hb);omega)) (by repeat (first|exact Below.refl _ _|refine Below.setCell ?_ (by simp<;>omega) _|refine Below.alloc ?_ (by simp<;>omega) _|refine Below.drew ?_))))
end Go.Proofs.YtkmggglljkmjoaaGreat
namespace Go.Proofs.YtkmggglljkmjoaaGreat
open Go.RowKit
theorem bA.prefix_ {α : Type}{T : FT α}{e : TypeId}{w : World}{g n c : Nat}{l r : List α}(h : bA T e w (.slice (some ⟨g,0,none⟩) n c) (l++r)) : bA T e w (.slice (some ⟨g,0,none⟩) l.length c) l:=by
 obtain⟨h1,h2⟩ :=h
 refine⟨by rw [nu], ?_⟩
 rcases h2 with ⟨h2,_⟩ | ⟨g',cap,cur,hv,hb,hc,hl,hm,hz,ht⟩
 ·cases h2
 ·injection hv with e1 e2 e3
  injection e1 with e1
  injection e1 with e1
  subst e1 e3
  refine .inr ⟨g,c,cur,rfl,hb,hc, ?_,hm,hz, ?_⟩
  ·have : l.length≤ (l++r).length:=by simp
   omega
  ·have hk : l.length * T.n≤ (l++r).length * T.n:=Nat.mul_le_mul_right _ (by simp)
   have:=congrArg (List.take (l.length * T.n)) ht
   rw [List.take_take,Nat.min_eq_left hk,wS,List.take_append_of_le_length (by rw [nu];exact Nat.le_refl _)] at this
   rw [this]
   exact List.take_of_length_le (by rw [nu];exact Nat.le_refl _)
theorem dR.KN {α : Type}{T : FT α}{e E : TypeId}{w : World}{g n c : Nat}{fF : List SV}{ll : List (List α)}(h : dR T e E w (.slice (some ⟨g,0,none⟩) n c) fF ll){i : Nat}{s s' : SV}{l' : List α}(hi : fF[i]? =some s)
  (hl : p8 T e w s'.val l') (hat : s'.val.ownBlock=s.val.ownBlock) :
  nJ T e E (w.setCell ⟨g,i,none⟩ s'.val) (.slice (some ⟨g,0,none⟩) n c) (fF.set i s') (ll.set i l') :=by
 have hn:=h.nodup
 have hne:=dR.head_ne h hi
 have hfs : cu s'.val=cu s.val:=by unfold cu;rw [hat]
 unfold dH at hn
 rw [List.nodup_append] at hn
 obtain⟨hn1,hn2,uY⟩ :=hn
 refine⟨by rw [List.length_set,List.length_set];exact h.len, ?_,fun k q l hk hl2=> ?_, ?_⟩
 ·have:=h.outer.gD (k:=i) (j:=0) (x:=s) (y:=s') (u:=s'.val) hi (by decide) rfl
  simpa [FS] using this
 ·by_cases hik : i=k
  ·subst hik
   have hil : i<fF.length:= (List.getElem?_eq_some_iff.1 hi).1
   rw [List.getElem?_set_self hil] at hk
   cases hk
   rw [List.getElem?_set_self (by rw [←h.len];exact hil)] at hl2
   cases hl2
   exact hl.keep (fun b hb=>jR w _ (fun e=>by subst e;exact hne (by rw [←hfs];exact bV.2 hb)))
  ·rw [List.getElem?_set_ne hik] at hk hl2
   exact(h.inner k q l hk hl2).toW.keep (fun b hb=>jR w _ (fun e=>by subst e;exact uY _ (bV.2 rfl) _ (List.mem_flatMap.2 ⟨q,List.mem_of_getElem? hk,bV.2 hb⟩) rfl))
 ·unfold dH
  rw [kG hi hfs,List.nodup_append]
  exact⟨hn1,hn2,uY⟩
theorem last_at {l : List Int}{s : Int} : (l++ [s])[l.length]? =some s:=by simp
set_option maxHeartbeats 400000 in
theorem G6 (w : World)(g k c : Nat)(A : Option Addr)(h0 : w.cell? ⟨g,k,none⟩ =some (.slice A 0 c)) : Calls Tryz.prog 160 #[.pointer (some ⟨g,k,none⟩)] w fun e w'=>e= .returned (.int .i64 (-1)) ∧w=w':=by
 go_enter Tryz.func160,Tryz.ntmps160
 go_wp2
 go_ret
 exact⟨rfl,rfl⟩
set_option maxHeartbeats 1000000 in
theorem G7 (w : World)(g k gs n c : Nat)(s : Int)(h0 : w.cell? ⟨g,k,none⟩ =some (.slice (some ⟨gs,0,none⟩) (n+1) c))(hf : w.frozen? ⟨g,k,none⟩ =false)(h1 : w.cell? ⟨gs,n,none⟩ =some (.int .i64 s))(hn : n≤1073741824)(hc : n+1≤c) : Calls Tryz.prog 160 #[.pointer (some ⟨g,k,none⟩)] w fun e w'=>e= .returned (.int .i64 s) ∧w.setCell ⟨g,k,none⟩ (.slice (some ⟨gs,0,none⟩) n n) =w':=by
 go_enter Tryz.func160,Tryz.ntmps160
 go_wp2
 go_ret
 exact⟨rfl,rfl⟩
end Go.Proofs.YtkmggglljkmjoaaGreat
namespace Go.Proofs.YtkmggglljkmjoaaGreat
open Go.RowKit
set_option maxRecDepth 100000 in
set_option maxHeartbeats 4000000 in
theorem BJ (w : World)(H : aZ)(x : Lists)(wk c : Nat)(l : List Int)(s : Int)(h : iC w w.heap.size H x)(hs : bX x≤536870912)(hok : fU x=true)(hw : wk<3)(hc : c<3)(hrow : x.O[wk * 3+c]? =some (l++ [s])) :
  Calls Tryz.prog 97 #[.agg #[.slice H.G.a H.G.l H.G.c, .slice H.O.a H.O.l H.O.c], .int .i64 wk, .int .i64 c] w fun e w'=> ∃H' : aZ,e= .returned (.tuple #[.agg #[.slice H'.G.a H'.G.l H'.G.c, .slice H'.O.a H'.O.l H'.O.c], .int .i64 s]) ∧jr w' H' {x with O:=x.O.set (wk * 3+c) l}∧ (∀g∈H'.foot,w.heap.size≤g) ∧Below w.heap.size w w':=by
 obtain⟨hl3,mW⟩ :=kD hok
 have H3:=Hid.aT hl3
 have H9:=Hid.aT mW
 have HR:=Hid.aT hrow
 have hsr : (l++ [s]).length≤536870912:=by
  have:=mK (List.mem_of_getElem? hrow)
  unfold bX at hs
  omega
 simp only [List.length_append,List.length_singleton] at hsr
 have hoa:=fun W=>yw wk c hw hc W
 have mg:=Hid.aT (show wk * 3+c<x.O.length by omega)
 clear hl3 mW hrow
 obtain⟨k,hk⟩ : ∃k,k=wk * 3+c:= ⟨_,rfl⟩
 rw [←hk] at hoa HR mg
 rw [←hk]
 clear hk
 obtain⟨w0,hW0⟩ : ∃x,x= ((w.alloc (.cells #[.slice H.G.a H.G.l H.G.c, .slice H.O.a H.O.l H.O.c] 29)).alloc (.cells #[.slice none 0 0, .slice none 0 0] 29)) := ⟨_,rfl⟩
 have au : aB w0 (w.heap.size) [.slice H.G.a H.G.l H.G.c, .slice H.O.a H.O.l H.O.c]:=by
  rw [hW0]
  exact aB.alloc aB.nw _
 have ah : aB w0 (w.heap.size+1) [.slice none 0 0, .slice none 0 0]:=by
  rw [hW0]
  exact aB.nw
 have hB : Below w.heap.size w w0:=by
  rw [hW0]
  exact dJ
 go_enter Tryz.func97,Tryz.ntmps97
 go_wp2_with fail
 rw [←hW0]
 clear hW0
 have g_:=au.lt
 have iB:=ah.lt
 obtain⟨aD,aF,aL,aQ⟩ :=au.f2
 obtain⟨aj,ak,ay,aI⟩ :=ah.f2
 refine(kL _ H x (eZ h hB) hs).mono ?_
 rintro e w1 ⟨aA,rfl,aP,l_c,hb⟩
 have u_c:=aP.lt
 replace au:=au.below hb
 replace ah:=ah.below hb
 replace hB:=hB.trans (hb.mono hB.size)
 have sz:=hb.size
 clear hb
 clear aD aF aL aQ
 obtain⟨aD,aF,aL,aQ⟩ :=au.f2
 clear aj ak ay aI
 obtain⟨aj,ak,ay,aI⟩ :=ah.f2
 obtain⟨⟨A1,n1,p1⟩,T1, ⟨A2,n2,p2⟩,T2⟩ :=aA
 obtain⟨g1,c1,hv1,hg1⟩ :=dR.jV (v:= .slice A1 n1 p1) aP.G (by rw [H3.out];decide)
 obtain⟨g2,c2,hv2,hg2⟩ :=dR.jV (v:= .slice A2 n2 p2) aP.O (by rw [H9.out];decide)
 injection hv1 with i1 i2 i3
 injection hv2 with j1 j2 j3
 subst i1 i2 i3 j1 j2 j3
 have oZ : g1∈aZ.foot ⟨⟨some ⟨g1,0,none⟩,x.G.length,p1⟩,T1, ⟨some ⟨g2,0,none⟩,x.O.length,p2⟩,T2⟩ :=aZ.aX.2 (.inl (cZ.2 (.inl rfl)))
 have o7 : g2∈aZ.foot ⟨⟨some ⟨g1,0,none⟩,x.G.length,p1⟩,T1, ⟨some ⟨g2,0,none⟩,x.O.length,p2⟩,T2⟩ :=aZ.aX.2 (.inr (cZ.2 (.inl rfl)))
 have CQ:=l_c _ oZ
 have Eh:=l_c _ o7
 clear oZ o7
 go_wp2_with (go_at_call 159;refine(hoa _).mono ?_;rintro e wv ⟨rfl,rfl⟩)
 clear hoa
 generalize hO : Obj.cells #[.slice (some ⟨g1,0,none⟩) x.G.length p1, .slice (some ⟨g2,0,none⟩) x.O.length p2] 29=O_
 replace au:=au.alloc O_
 replace ah:=ah.alloc O_
 replace aP:=aP.aH O_
 replace hB:=hB.alloc hB.size O_
 have aN : aB (w1.alloc O_) w1.heap.size [.slice (some ⟨g1,0,none⟩) x.G.length p1, .slice (some ⟨g2,0,none⟩) x.O.length p2]:=hO ▸ aB.new _ _ _
 have gy:=aN.lt
 have sz : w1.heap.size≤ (w1.alloc O_).heap.size:=Nat.le_of_lt aN.lt
 generalize hG : (w1.alloc O_) =w2 at au ah aP hB aN gy sz⊢
 clear hG hO O_
 clear aD aF aL aQ
 obtain⟨aD,aF,aL,aQ⟩ :=au.f2
 clear aj ak ay aI
 obtain⟨aj,ak,ay,aI⟩ :=ah.f2
 obtain⟨aV,aW,bq,bN⟩ :=aN.f2
 refine(oI _ H x (eZ h hB)).mono ?_
 rw [hok]
 rintro e w3 ⟨rfl,hb⟩
 replace au:=au.below hb
 replace ah:=ah.below hb
 replace aN:=aN.below hb
 have aP:=aP.step0 hb
 replace hB:=hB.trans (hb.mono hB.size)
 have sz:=hb.size
 clear hb
 clear aD aF aL aQ
 obtain⟨aD,aF,aL,aQ⟩ :=au.f2
 clear aj ak ay aI
 obtain⟨aj,ak,ay,aI⟩ :=ah.f2
 clear aV aW bq bN
 obtain⟨aV,aW,bq,bN⟩ :=aN.f2
 clear hok
 obtain⟨so,jU⟩ : ∃q,T2[k]? =some q:= ⟨_,List.getElem?_eq_getElem (by rw [aP.O.len];exact mg.out)⟩
 have ino:=aP.O.inner k so _ jU HR.out
 have po:=aP.O.outer.cell_ (j:=0) jU (by decide)
 simp only [FS,Nat.mul_one,Nat.add_zero] at po
 have ff:=aP.O.outer.eD k
 have HV:=Hid.aT jU
 have hkk : k<x.O.length:=mg.out
 have yP : g2≠w.heap.size:=by omega
 have yQ : w.heap.size≠g2:=by omega
 have xI : g2≠w.heap.size+1:=by omega
 have xJ : w.heap.size+1≠g2:=by omega
 have AZ : g2≠w1.heap.size:=by omega
 have A8 : w1.heap.size≠g2:=by omega
 obtain⟨Ao,co,qo,hq1,_⟩ :=ino.rd'
 obtain⟨ao,no,bo⟩ :=so
 injection qo with k1 k2 k3
 subst k1 k2 k3
 simp only [List.length_append,List.length_singleton] at hq1
 obtain⟨gs,cs,hvs,_⟩ :=bA.kN (v:= .slice ao (l++ [s]).length bo) ino (by simp)
 injection hvs with k1 k2 k3
 subst k1 k3
 have hcl : l.length+1≤bo:=hq1
 have qR : w3.cell? ⟨g2,k,none⟩ =some (Value.slice (some ⟨gs,0,none⟩) (l.length+1) bo) :=by simpa [SV.val] using po
 clear po
 have ce:=bA.cell_ (show bA FI 3 _ (.slice (some ⟨gs,0,none⟩) (l++ [s]).length bo) (l++ [s]) from ino) (last_at (l:=l) (s:=s)) FI.pos
 simp only [FI,Nat.mul_one,Nat.add_zero] at ce
 replace ce : _=some (Value.int .i64 s) :=ce
 have hq:=G7 w3 g2 k gs l.length bo s qR ff ce (by omega) hcl
 clear ce
 have hN:=dR.KN (s':= ⟨some ⟨gs,0,none⟩,l.length,l.length⟩) (l':=l) aP.O HV.out ⟨_, [s],ino, .inr ⟨gs,_,l.length,bo,rfl,rfl,Nat.le_refl _,by omega⟩⟩ rfl
 change nJ _ _ _ (World.setCell _ _ (.slice (some ⟨gs,0,none⟩) l.length l.length)) _ _ _ at hN
 go_wp2_with (first| (go_at_call 160;refine hq.mono ?_;rintro e wv ⟨rfl,rfl⟩))
 have hO:= (aP.G.aM (F:= [g2]) ((aY.refl _ w3).gD (g:=g2) (i:=k) (by simp) (.slice (some ⟨gs,0,none⟩) l.length l.length)) (fun b hb hm=>by simp only [List.mem_cons,List.not_mem_nil,or_false] at hm;subst hm;exact aP.iV b hb (cZ.2 (.inl rfl)))).toW
 have hfs : dH (.slice (some ⟨g2,0,none⟩) x.O.length p2) (T2.set k ⟨some ⟨gs,0,none⟩,l.length,l.length⟩) =dH (.slice (some ⟨g2,0,none⟩) x.O.length p2) T2:=by unfold dH;rw [kG (s':= ⟨some ⟨gs,0,none⟩,l.length,l.length⟩) HV.out rfl]
 have hfm : ∀b,b∈dH (.slice (some ⟨g2,0,none⟩) x.O.length p2) (T2.set k ⟨some ⟨gs,0,none⟩,l.length,l.length⟩) →b∈dH (.slice (some ⟨g2,0,none⟩) x.O.length p2) T2:=fun b hb=>by rw [←hfs];exact hb
 refine bodyPost_ret (v:= .tuple #[.agg #[.slice (some ⟨g1,0,none⟩) x.G.length p1, .slice (some ⟨g2,0,none⟩) x.O.length p2], .int .i64 s]) (by simp [results,Tryz.results97,go_sem,aj,ak]) rfl ⟨⟨⟨some ⟨g1,0,none⟩,x.G.length,p1⟩,T1, ⟨some ⟨g2,0,none⟩,x.O.length,p2⟩,T2.set k ⟨some ⟨gs,0,none⟩,l.length,l.length⟩⟩,rfl, ⟨hO.aM (F:= [w.heap.size+1]) bW (fun b hb hm=>by simp only [List.mem_cons,List.not_mem_nil,or_false] at hm;have:=l_c b (aZ.aX.2 (.inl hb));omega),hN.aM (F:= [w.heap.size+1]) bW (fun b hb hm=>by simp only [List.mem_cons,List.not_mem_nil,or_false] at hm;have:=l_c b (aZ.aX.2 (.inr (hfm b hb)));omega),fun b hb hm=>aP.iV b hb (hfm b hm)⟩,fun b hb=> ?_,Below.trans hB dQ⟩
 rcases aZ.aX.1 hb with hb|hb
 ·have:=l_c b (aZ.aX.2 (.inl hb))
  omega
 ·have:=l_c b (aZ.aX.2 (.inr (hfm b hb)))
  omega
set_option maxRecDepth 100000 in
set_option maxHeartbeats 4000000 in
theorem rA (w : World)(H : aZ)(x : Lists)(wk c : Nat)(h : iC w w.heap.size H x)(hs : bX x≤536870912)(hok : fU x=true)(hw : wk<3)(hc : c<3)(hrow : x.O[wk * 3+c]? =some ([])) :
  Calls Tryz.prog 97 #[.agg #[.slice H.G.a H.G.l H.G.c, .slice H.O.a H.O.l H.O.c], .int .i64 wk, .int .i64 c] w fun e w'=> ∃H' : aZ,e= .returned (.tuple #[.agg #[.slice H'.G.a H'.G.l H'.G.c, .slice H'.O.a H'.O.l H'.O.c], .int .i64 (-1)]) ∧dZ w' H' x∧ (∀g∈H'.foot,w.heap.size≤g) ∧Below w.heap.size w w':=by
 obtain⟨hl3,mW⟩ :=kD hok
 have H3:=Hid.aT hl3
 have H9:=Hid.aT mW
 have HR:=Hid.aT hrow
 have hoa:=fun W=>yw wk c hw hc W
 have mg:=Hid.aT (show wk * 3+c<x.O.length by omega)
 clear hl3 mW hrow
 obtain⟨k,hk⟩ : ∃k,k=wk * 3+c:= ⟨_,rfl⟩
 rw [←hk] at hoa HR mg
 clear hk
 obtain⟨w0,hW0⟩ : ∃x,x= ((w.alloc (.cells #[.slice H.G.a H.G.l H.G.c, .slice H.O.a H.O.l H.O.c] 29)).alloc (.cells #[.slice none 0 0, .slice none 0 0] 29)) := ⟨_,rfl⟩
 have au : aB w0 (w.heap.size) [.slice H.G.a H.G.l H.G.c, .slice H.O.a H.O.l H.O.c]:=by
  rw [hW0]
  exact aB.alloc aB.nw _
 have ah : aB w0 (w.heap.size+1) [.slice none 0 0, .slice none 0 0]:=by
  rw [hW0]
  exact aB.nw
 have hB : Below w.heap.size w w0:=by
  rw [hW0]
  exact dJ
 go_enter Tryz.func97,Tryz.ntmps97
 go_wp2_with fail
 rw [←hW0]
 clear hW0
 have g_:=au.lt
 have iB:=ah.lt
 obtain⟨aD,aF,aL,aQ⟩ :=au.f2
 obtain⟨aj,ak,ay,aI⟩ :=ah.f2
 refine(kL _ H x (eZ h hB) hs).mono ?_
 rintro e w1 ⟨aA,rfl,aP,l_c,hb⟩
 have u_c:=aP.lt
 replace au:=au.below hb
 replace ah:=ah.below hb
 replace hB:=hB.trans (hb.mono hB.size)
 have sz:=hb.size
 clear hb
 clear aD aF aL aQ
 obtain⟨aD,aF,aL,aQ⟩ :=au.f2
 clear aj ak ay aI
 obtain⟨aj,ak,ay,aI⟩ :=ah.f2
 obtain⟨⟨A1,n1,p1⟩,T1, ⟨A2,n2,p2⟩,T2⟩ :=aA
 obtain⟨g1,c1,hv1,hg1⟩ :=dR.jV (v:= .slice A1 n1 p1) aP.G (by rw [H3.out];decide)
 obtain⟨g2,c2,hv2,hg2⟩ :=dR.jV (v:= .slice A2 n2 p2) aP.O (by rw [H9.out];decide)
 injection hv1 with i1 i2 i3
 injection hv2 with j1 j2 j3
 subst i1 i2 i3 j1 j2 j3
 have oZ : g1∈aZ.foot ⟨⟨some ⟨g1,0,none⟩,x.G.length,p1⟩,T1, ⟨some ⟨g2,0,none⟩,x.O.length,p2⟩,T2⟩ :=aZ.aX.2 (.inl (cZ.2 (.inl rfl)))
 have o7 : g2∈aZ.foot ⟨⟨some ⟨g1,0,none⟩,x.G.length,p1⟩,T1, ⟨some ⟨g2,0,none⟩,x.O.length,p2⟩,T2⟩ :=aZ.aX.2 (.inr (cZ.2 (.inl rfl)))
 have CQ:=l_c _ oZ
 have Eh:=l_c _ o7
 clear oZ o7
 go_wp2_with (go_at_call 159;refine(hoa _).mono ?_;rintro e wv ⟨rfl,rfl⟩)
 clear hoa
 generalize hO : Obj.cells #[.slice (some ⟨g1,0,none⟩) x.G.length p1, .slice (some ⟨g2,0,none⟩) x.O.length p2] 29=O_
 replace au:=au.alloc O_
 replace ah:=ah.alloc O_
 replace aP:=aP.aH O_
 replace hB:=hB.alloc hB.size O_
 have aN : aB (w1.alloc O_) w1.heap.size [.slice (some ⟨g1,0,none⟩) x.G.length p1, .slice (some ⟨g2,0,none⟩) x.O.length p2]:=hO ▸ aB.new _ _ _
 have gy:=aN.lt
 have sz : w1.heap.size≤ (w1.alloc O_).heap.size:=Nat.le_of_lt aN.lt
 generalize hG : (w1.alloc O_) =w2 at au ah aP hB aN gy sz⊢
 clear hG hO O_
 clear aD aF aL aQ
 obtain⟨aD,aF,aL,aQ⟩ :=au.f2
 clear aj ak ay aI
 obtain⟨aj,ak,ay,aI⟩ :=ah.f2
 obtain⟨aV,aW,bq,bN⟩ :=aN.f2
 refine(oI _ H x (eZ h hB)).mono ?_
 rw [hok]
 rintro e w3 ⟨rfl,hb⟩
 replace au:=au.below hb
 replace ah:=ah.below hb
 replace aN:=aN.below hb
 have aP:=aP.step0 hb
 replace hB:=hB.trans (hb.mono hB.size)
 have sz:=hb.size
 clear hb
 clear aD aF aL aQ
 obtain⟨aD,aF,aL,aQ⟩ :=au.f2
 clear aj ak ay aI
 obtain⟨aj,ak,ay,aI⟩ :=ah.f2
 clear aV aW bq bN
 obtain⟨aV,aW,bq,bN⟩ :=aN.f2
 clear hok
 obtain⟨so,jU⟩ : ∃q,T2[k]? =some q:= ⟨_,List.getElem?_eq_getElem (by rw [aP.O.len];exact mg.out)⟩
 have ino:=aP.O.inner k so _ jU HR.out
 have po:=aP.O.outer.cell_ (j:=0) jU (by decide)
 simp only [FS,Nat.mul_one,Nat.add_zero] at po
 have ff:=aP.O.outer.eD k
 have HV:=Hid.aT jU
 have hkk : k<x.O.length:=mg.out
 have yP : g2≠w.heap.size:=by omega
 have yQ : w.heap.size≠g2:=by omega
 have xI : g2≠w.heap.size+1:=by omega
 have xJ : w.heap.size+1≠g2:=by omega
 have AZ : g2≠w1.heap.size:=by omega
 have A8 : w1.heap.size≠g2:=by omega
 obtain⟨Ao,co,qo,_⟩ :=ino.rd'
 obtain⟨ao,no,bo⟩ :=so
 injection qo with k1 k2 k3
 subst k1 k2 k3
 have qR : _=some (Value.slice ao 0 bo) :=po
 clear po
 have hq:=G6 w3 g2 k bo ao qR
 go_wp2_with (first| (go_at_call 160;refine hq.mono ?_;rintro e wv ⟨rfl,rfl⟩))
 refine bodyPost_ret (v:= .tuple #[.agg #[.slice (some ⟨g1,0,none⟩) x.G.length p1, .slice (some ⟨g2,0,none⟩) x.O.length p2], .int .i64 (-1)]) (by simp [results,Tryz.results97,go_sem,aj,ak]) rfl ⟨⟨⟨some ⟨g1,0,none⟩,x.G.length,p1⟩,T1, ⟨some ⟨g2,0,none⟩,x.O.length,p2⟩,T2⟩,rfl,aP.aM (F:= [w.heap.size+1]) bW (fun g hg hm=>by simp only [List.mem_cons,List.not_mem_nil,or_false] at hm;have:=l_c g hg;have:=u_c g hg;omega),fun g hg=>by have:=l_c g hg;omega,Below.trans hB dQ⟩
set_option maxRecDepth 100000 in
set_option maxHeartbeats 4000000 in
theorem y5 (w : World)(H : aZ)(x : Lists)(c : Nat)(l : List Int)(s : Int)(h : iC w w.heap.size H x)(hs : bX x≤536870912)(hok : fU x=true)(hc : c<3)(hrow : x.G[c]? =some (l++ [s])) :
  Calls Tryz.prog 98 #[.agg #[.slice H.G.a H.G.l H.G.c, .slice H.O.a H.O.l H.O.c], .int .i64 c] w fun e w'=> ∃H' : aZ,e= .returned (.tuple #[.agg #[.slice H'.G.a H'.G.l H'.G.c, .slice H'.O.a H'.O.l H'.O.c], .int .i64 s]) ∧jr w' H' {x with G:=x.G.set c l}∧ (∀g∈H'.foot,w.heap.size≤g) ∧Below w.heap.size w w':=by
 obtain⟨hl3,mW⟩ :=kD hok
 have H3:=Hid.aT hl3
 have H9:=Hid.aT mW
 have HR:=Hid.aT hrow
 have hsr : (l++ [s]).length≤536870912:=by
  have:=mK (List.mem_of_getElem? hrow)
  unfold bX at hs
  omega
 simp only [List.length_append,List.length_singleton] at hsr
 have mg:=Hid.aT (show c<x.G.length by omega)
 have BK : bO 0 2 (c : Int) =true:=bJ.2 ⟨by omega,by omega⟩
 clear hl3 mW hrow
 obtain⟨k,rfl⟩ : ∃k,k=c:= ⟨_,rfl⟩
 obtain⟨w0,hW0⟩ : ∃x,x= ((w.alloc (.cells #[.slice H.G.a H.G.l H.G.c, .slice H.O.a H.O.l H.O.c] 29)).alloc (.cells #[.slice none 0 0, .slice none 0 0] 29)) := ⟨_,rfl⟩
 have au : aB w0 (w.heap.size) [.slice H.G.a H.G.l H.G.c, .slice H.O.a H.O.l H.O.c]:=by
  rw [hW0]
  exact aB.alloc aB.nw _
 have ah : aB w0 (w.heap.size+1) [.slice none 0 0, .slice none 0 0]:=by
  rw [hW0]
  exact aB.nw
 have hB : Below w.heap.size w w0:=by
  rw [hW0]
  exact dJ
 go_enter Tryz.func98,Tryz.ntmps98
 go_wp2_with fail
 rw [←hW0]
 clear hW0
 have g_:=au.lt
 have iB:=ah.lt
 obtain⟨aD,aF,aL,aQ⟩ :=au.f2
 obtain⟨aj,ak,ay,aI⟩ :=ah.f2
 refine(kL _ H x (eZ h hB) hs).mono ?_
 rintro e w1 ⟨aA,rfl,aP,l_c,hb⟩
 have u_c:=aP.lt
 replace au:=au.below hb
 replace ah:=ah.below hb
 replace hB:=hB.trans (hb.mono hB.size)
 have sz:=hb.size
 clear hb
 clear aD aF aL aQ
 obtain⟨aD,aF,aL,aQ⟩ :=au.f2
 clear aj ak ay aI
 obtain⟨aj,ak,ay,aI⟩ :=ah.f2
 obtain⟨⟨A1,n1,p1⟩,T1, ⟨A2,n2,p2⟩,T2⟩ :=aA
 obtain⟨g1,c1,hv1,hg1⟩ :=dR.jV (v:= .slice A1 n1 p1) aP.G (by rw [H3.out];decide)
 obtain⟨g2,c2,hv2,hg2⟩ :=dR.jV (v:= .slice A2 n2 p2) aP.O (by rw [H9.out];decide)
 injection hv1 with i1 i2 i3
 injection hv2 with j1 j2 j3
 subst i1 i2 i3 j1 j2 j3
 have oZ : g1∈aZ.foot ⟨⟨some ⟨g1,0,none⟩,x.G.length,p1⟩,T1, ⟨some ⟨g2,0,none⟩,x.O.length,p2⟩,T2⟩ :=aZ.aX.2 (.inl (cZ.2 (.inl rfl)))
 have o7 : g2∈aZ.foot ⟨⟨some ⟨g1,0,none⟩,x.G.length,p1⟩,T1, ⟨some ⟨g2,0,none⟩,x.O.length,p2⟩,T2⟩ :=aZ.aX.2 (.inr (cZ.2 (.inl rfl)))
 have CQ:=l_c _ oZ
 have Eh:=l_c _ o7
 clear oZ o7
 go_wp2_with fail
 generalize hO : Obj.cells #[.slice (some ⟨g1,0,none⟩) x.G.length p1, .slice (some ⟨g2,0,none⟩) x.O.length p2] 29=O_
 replace au:=au.alloc O_
 replace ah:=ah.alloc O_
 replace aP:=aP.aH O_
 replace hB:=hB.alloc hB.size O_
 have aN : aB (w1.alloc O_) w1.heap.size [.slice (some ⟨g1,0,none⟩) x.G.length p1, .slice (some ⟨g2,0,none⟩) x.O.length p2]:=hO ▸ aB.new _ _ _
 have gy:=aN.lt
 have sz : w1.heap.size≤ (w1.alloc O_).heap.size:=Nat.le_of_lt aN.lt
 generalize hG : (w1.alloc O_) =w2 at au ah aP hB aN gy sz⊢
 clear hG hO O_
 clear aD aF aL aQ
 obtain⟨aD,aF,aL,aQ⟩ :=au.f2
 clear aj ak ay aI
 obtain⟨aj,ak,ay,aI⟩ :=ah.f2
 obtain⟨aV,aW,bq,bN⟩ :=aN.f2
 refine(oI _ H x (eZ h hB)).mono ?_
 rw [hok]
 rintro e w3 ⟨rfl,hb⟩
 replace au:=au.below hb
 replace ah:=ah.below hb
 replace aN:=aN.below hb
 have aP:=aP.step0 hb
 replace hB:=hB.trans (hb.mono hB.size)
 have sz:=hb.size
 clear hb
 clear aD aF aL aQ
 obtain⟨aD,aF,aL,aQ⟩ :=au.f2
 clear aj ak ay aI
 obtain⟨aj,ak,ay,aI⟩ :=ah.f2
 clear aV aW bq bN
 obtain⟨aV,aW,bq,bN⟩ :=aN.f2
 clear hok
 obtain⟨so,jU⟩ : ∃q,T1[k]? =some q:= ⟨_,List.getElem?_eq_getElem (by rw [aP.G.len];exact mg.out)⟩
 have ino:=aP.G.inner k so _ jU HR.out
 have po:=aP.G.outer.cell_ (j:=0) jU (by decide)
 simp only [FS,Nat.mul_one,Nat.add_zero] at po
 have ff:=aP.G.outer.eD k
 have HV:=Hid.aT jU
 have hkk : k<x.G.length:=mg.out
 have yP : g1≠w.heap.size:=by omega
 have yQ : w.heap.size≠g1:=by omega
 have xI : g1≠w.heap.size+1:=by omega
 have xJ : w.heap.size+1≠g1:=by omega
 have AZ : g1≠w1.heap.size:=by omega
 have A8 : w1.heap.size≠g1:=by omega
 obtain⟨Ao,co,qo,hq1,_⟩ :=ino.rd'
 obtain⟨ao,no,bo⟩ :=so
 injection qo with k1 k2 k3
 subst k1 k2 k3
 simp only [List.length_append,List.length_singleton] at hq1
 obtain⟨gs,cs,hvs,_⟩ :=bA.kN (v:= .slice ao (l++ [s]).length bo) ino (by simp)
 injection hvs with k1 k2 k3
 subst k1 k3
 have hcl : l.length+1≤bo:=hq1
 have qR : w3.cell? ⟨g1,k,none⟩ =some (Value.slice (some ⟨gs,0,none⟩) (l.length+1) bo) :=by simpa [SV.val] using po
 clear po
 have ce:=bA.cell_ (show bA FI 3 _ (.slice (some ⟨gs,0,none⟩) (l++ [s]).length bo) (l++ [s]) from ino) (last_at (l:=l) (s:=s)) FI.pos
 simp only [FI,Nat.mul_one,Nat.add_zero] at ce
 replace ce : _=some (Value.int .i64 s) :=ce
 have hq:=G7 w3 g1 k gs l.length bo s qR ff ce (by omega) hcl
 clear ce
 have hN:=dR.KN (s':= ⟨some ⟨gs,0,none⟩,l.length,l.length⟩) (l':=l) aP.G HV.out ⟨_, [s],ino, .inr ⟨gs,_,l.length,bo,rfl,rfl,Nat.le_refl _,by omega⟩⟩ rfl
 change nJ _ _ _ (World.setCell _ _ (.slice (some ⟨gs,0,none⟩) l.length l.length)) _ _ _ at hN
 go_wp2_with (first| (go_at_call 161;refine(rR _ _).mono ?_;rw [BK];rintro e wv ⟨rfl,rfl⟩) | (go_at_call 160;refine hq.mono ?_;rintro e wv ⟨rfl,rfl⟩))
 have hO:= (aP.O.aM (F:= [g1]) ((aY.refl _ w3).gD (g:=g1) (i:=k) (by simp) (.slice (some ⟨gs,0,none⟩) l.length l.length)) (fun b hb hm=>by simp only [List.mem_cons,List.not_mem_nil,or_false] at hm;subst hm;exact aP.iV b (cZ.2 (.inl rfl)) hb)).toW
 have hfs : dH (.slice (some ⟨g1,0,none⟩) x.G.length p1) (T1.set k ⟨some ⟨gs,0,none⟩,l.length,l.length⟩) =dH (.slice (some ⟨g1,0,none⟩) x.G.length p1) T1:=by unfold dH;rw [kG (s':= ⟨some ⟨gs,0,none⟩,l.length,l.length⟩) HV.out rfl]
 have hfm : ∀b,b∈dH (.slice (some ⟨g1,0,none⟩) x.G.length p1) (T1.set k ⟨some ⟨gs,0,none⟩,l.length,l.length⟩) →b∈dH (.slice (some ⟨g1,0,none⟩) x.G.length p1) T1:=fun b hb=>by rw [←hfs];exact hb
 refine bodyPost_ret (v:= .tuple #[.agg #[.slice (some ⟨g1,0,none⟩) x.G.length p1, .slice (some ⟨g2,0,none⟩) x.O.length p2], .int .i64 s]) (by simp [results,Tryz.results98,go_sem,aj,ak]) rfl ⟨⟨⟨some ⟨g1,0,none⟩,x.G.length,p1⟩,T1.set k ⟨some ⟨gs,0,none⟩,l.length,l.length⟩, ⟨some ⟨g2,0,none⟩,x.O.length,p2⟩,T2⟩,rfl, ⟨hN.aM (F:= [w.heap.size+1]) bW (fun b hb hm=>by simp only [List.mem_cons,List.not_mem_nil,or_false] at hm;have:=l_c b (aZ.aX.2 (.inl (hfm b hb)));omega),hO.aM (F:= [w.heap.size+1]) bW (fun b hb hm=>by simp only [List.mem_cons,List.not_mem_nil,or_false] at hm;have:=l_c b (aZ.aX.2 (.inr hb));omega),fun b hb hm=>aP.iV b (hfm b hb) hm⟩,fun b hb=> ?_,Below.trans hB dQ⟩
 rcases aZ.aX.1 hb with hb|hb
 ·have:=l_c b (aZ.aX.2 (.inl (hfm b hb)))
  omega
 ·have:=l_c b (aZ.aX.2 (.inr hb))
  omega
set_option maxRecDepth 100000 in
set_option maxHeartbeats 4000000 in
theorem tu (w : World)(H : aZ)(x : Lists)(c : Nat)(h : iC w w.heap.size H x)(hs : bX x≤536870912)(hok : fU x=true)(hc : c<3)(hrow : x.G[c]? =some ([])) :
  Calls Tryz.prog 98 #[.agg #[.slice H.G.a H.G.l H.G.c, .slice H.O.a H.O.l H.O.c], .int .i64 c] w fun e w'=> ∃H' : aZ,e= .returned (.tuple #[.agg #[.slice H'.G.a H'.G.l H'.G.c, .slice H'.O.a H'.O.l H'.O.c], .int .i64 (-1)]) ∧dZ w' H' x∧ (∀g∈H'.foot,w.heap.size≤g) ∧Below w.heap.size w w':=by
 obtain⟨hl3,mW⟩ :=kD hok
 have H3:=Hid.aT hl3
 have H9:=Hid.aT mW
 have HR:=Hid.aT hrow
 have mg:=Hid.aT (show c<x.G.length by omega)
 have BK : bO 0 2 (c : Int) =true:=bJ.2 ⟨by omega,by omega⟩
 clear hl3 mW hrow
 obtain⟨k,rfl⟩ : ∃k,k=c:= ⟨_,rfl⟩
 obtain⟨w0,hW0⟩ : ∃x,x= ((w.alloc (.cells #[.slice H.G.a H.G.l H.G.c, .slice H.O.a H.O.l H.O.c] 29)).alloc (.cells #[.slice none 0 0, .slice none 0 0] 29)) := ⟨_,rfl⟩
 have au : aB w0 (w.heap.size) [.slice H.G.a H.G.l H.G.c, .slice H.O.a H.O.l H.O.c]:=by
  rw [hW0]
  exact aB.alloc aB.nw _
 have ah : aB w0 (w.heap.size+1) [.slice none 0 0, .slice none 0 0]:=by
  rw [hW0]
  exact aB.nw
 have hB : Below w.heap.size w w0:=by
  rw [hW0]
  exact dJ
 go_enter Tryz.func98,Tryz.ntmps98
 go_wp2_with fail
 rw [←hW0]
 clear hW0
 have g_:=au.lt
 have iB:=ah.lt
 obtain⟨aD,aF,aL,aQ⟩ :=au.f2
 obtain⟨aj,ak,ay,aI⟩ :=ah.f2
 refine(kL _ H x (eZ h hB) hs).mono ?_
 rintro e w1 ⟨aA,rfl,aP,l_c,hb⟩
 have u_c:=aP.lt
 replace au:=au.below hb
 replace ah:=ah.below hb
 replace hB:=hB.trans (hb.mono hB.size)
 have sz:=hb.size
 clear hb
 clear aD aF aL aQ
 obtain⟨aD,aF,aL,aQ⟩ :=au.f2
 clear aj ak ay aI
 obtain⟨aj,ak,ay,aI⟩ :=ah.f2
 obtain⟨⟨A1,n1,p1⟩,T1, ⟨A2,n2,p2⟩,T2⟩ :=aA
 obtain⟨g1,c1,hv1,hg1⟩ :=dR.jV (v:= .slice A1 n1 p1) aP.G (by rw [H3.out];decide)
 obtain⟨g2,c2,hv2,hg2⟩ :=dR.jV (v:= .slice A2 n2 p2) aP.O (by rw [H9.out];decide)
 injection hv1 with i1 i2 i3
 injection hv2 with j1 j2 j3
 subst i1 i2 i3 j1 j2 j3
 have oZ : g1∈aZ.foot ⟨⟨some ⟨g1,0,none⟩,x.G.length,p1⟩,T1, ⟨some ⟨g2,0,none⟩,x.O.length,p2⟩,T2⟩ :=aZ.aX.2 (.inl (cZ.2 (.inl rfl)))
 have o7 : g2∈aZ.foot ⟨⟨some ⟨g1,0,none⟩,x.G.length,p1⟩,T1, ⟨some ⟨g2,0,none⟩,x.O.length,p2⟩,T2⟩ :=aZ.aX.2 (.inr (cZ.2 (.inl rfl)))
 have CQ:=l_c _ oZ
 have Eh:=l_c _ o7
 clear oZ o7
 go_wp2_with fail
 generalize hO : Obj.cells #[.slice (some ⟨g1,0,none⟩) x.G.length p1, .slice (some ⟨g2,0,none⟩) x.O.length p2] 29=O_
 replace au:=au.alloc O_
 replace ah:=ah.alloc O_
 replace aP:=aP.aH O_
 replace hB:=hB.alloc hB.size O_
 have aN : aB (w1.alloc O_) w1.heap.size [.slice (some ⟨g1,0,none⟩) x.G.length p1, .slice (some ⟨g2,0,none⟩) x.O.length p2]:=hO ▸ aB.new _ _ _
 have gy:=aN.lt
 have sz : w1.heap.size≤ (w1.alloc O_).heap.size:=Nat.le_of_lt aN.lt
 generalize hG : (w1.alloc O_) =w2 at au ah aP hB aN gy sz⊢
 clear hG hO O_
 clear aD aF aL aQ
 obtain⟨aD,aF,aL,aQ⟩ :=au.f2
 clear aj ak ay aI
 obtain⟨aj,ak,ay,aI⟩ :=ah.f2
 obtain⟨aV,aW,bq,bN⟩ :=aN.f2
 refine(oI _ H x (eZ h hB)).mono ?_
 rw [hok]
 rintro e w3 ⟨rfl,hb⟩
 replace au:=au.below hb
 replace ah:=ah.below hb
 replace aN:=aN.below hb
 have aP:=aP.step0 hb
 replace hB:=hB.trans (hb.mono hB.size)
 have sz:=hb.size
 clear hb
 clear aD aF aL aQ
 obtain⟨aD,aF,aL,aQ⟩ :=au.f2
 clear aj ak ay aI
 obtain⟨aj,ak,ay,aI⟩ :=ah.f2
 clear aV aW bq bN
 obtain⟨aV,aW,bq,bN⟩ :=aN.f2
 clear hok
 obtain⟨so,jU⟩ : ∃q,T1[k]? =some q:= ⟨_,List.getElem?_eq_getElem (by rw [aP.G.len];exact mg.out)⟩
 have ino:=aP.G.inner k so _ jU HR.out
 have po:=aP.G.outer.cell_ (j:=0) jU (by decide)
 simp only [FS,Nat.mul_one,Nat.add_zero] at po
 have ff:=aP.G.outer.eD k
 have HV:=Hid.aT jU
 have hkk : k<x.G.length:=mg.out
 have yP : g1≠w.heap.size:=by omega
 have yQ : w.heap.size≠g1:=by omega
 have xI : g1≠w.heap.size+1:=by omega
 have xJ : w.heap.size+1≠g1:=by omega
 have AZ : g1≠w1.heap.size:=by omega
 have A8 : w1.heap.size≠g1:=by omega
 obtain⟨Ao,co,qo,_⟩ :=ino.rd'
 obtain⟨ao,no,bo⟩ :=so
 injection qo with k1 k2 k3
 subst k1 k2 k3
 have qR : _=some (Value.slice ao 0 bo) :=po
 clear po
 have hq:=G6 w3 g1 k bo ao qR
 go_wp2_with (first| (go_at_call 161;refine(rR _ _).mono ?_;rw [BK];rintro e wv ⟨rfl,rfl⟩) | (go_at_call 160;refine hq.mono ?_;rintro e wv ⟨rfl,rfl⟩))
 refine bodyPost_ret (v:= .tuple #[.agg #[.slice (some ⟨g1,0,none⟩) x.G.length p1, .slice (some ⟨g2,0,none⟩) x.O.length p2], .int .i64 (-1)]) (by simp [results,Tryz.results98,go_sem,aj,ak]) rfl ⟨⟨⟨some ⟨g1,0,none⟩,x.G.length,p1⟩,T1, ⟨some ⟨g2,0,none⟩,x.O.length,p2⟩,T2⟩,rfl,aP.aM (F:= [w.heap.size+1]) bW (fun g hg hm=>by simp only [List.mem_cons,List.not_mem_nil,or_false] at hm;have:=l_c g hg;have:=u_c g hg;omega),fun g hg=>by have:=l_c g hg;omega,Below.trans hB dQ⟩
end Go.Proofs.YtkmggglljkmjoaaGreat
