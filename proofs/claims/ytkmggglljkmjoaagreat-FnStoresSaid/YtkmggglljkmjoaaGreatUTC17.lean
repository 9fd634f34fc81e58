/-
  Several texts in one: lemmas and contracts that the claim rests on.
-/
import Derived.Test.YtkmggglljkmjoaaGreatUTC1
import Derived.Deep.QuietTactic
import Derived.BigQuiet
import Derived.Deep.LoopGhost
import Derived.Deep.RegionHeld3
import Derived.Test.YtkmggglljkmjoaaGreatUTC2
import Derived.WalkSpells
import Derived.Laws.Cover3
import Derived.Test.YtkmggglljkmjoaaGreatUTC16
import Derived.Test.YtkmggglljkmjoaaGreatUTC6
import Derived.Test.YtkmggglljkmjoaaGreatUTC11
import Derived.Test.YtkmggglljkmjoaaGreatUTC15
namespace Go.Proofs.YtkmggglljkmjoaaGreat
open Go.RowKit
theorem rM {h : Heap}{c s : Int}(hok : jg h=true)(hf : jv h c s=true)(hc : bO 0 2 c=true) : bO 0 23 s=true∧aO h s=c∧bO 1 6 (dz h s) =true:=by
 unfold jv at hf
 simp only [Bool.and_eq_true,beq_iff_eq,decide_eq_true_eq] at hf
 obtain⟨h1,h2⟩ :=hf
 obtain⟨c0,c2⟩ :=bJ.1 hc
 have hn : ¬ aO h s<0:=by omega
 have ha : ¬ ig s (lU h s) <0:=fun e=>hn (by unfold aO;rw [if_pos e];decide)
 have hcl : lU h s=c:=by unfold aO at h1;rw [if_neg ha] at h1;exact h1
 rw [hcl] at ha
 have hg : bO 0 23 s=true∧bO 0 2 c=true∧s%4<cO c:=by
  by_cases hh : bO 0 23 s=true∧bO 0 2 c=true∧s%4<cO c
  ·exact hh
  ·exact absurd (by unfold ig;rw [if_neg hh];decide) ha
 obtain⟨s0,s1⟩ :=bJ.1 hg.1
 have hgen : dz h s=iF h.Y (s / 4 * 64+8+s%4 * eu c) 4:=by
  unfold dz
  rw [if_neg hn,h1]
  unfold ig
  rw [if_pos hg]
 have hst:= (uh c).1
 have hp : (s / 4).toNat<6:=by omega
 unfold jg at hok
 simp only [Bool.and_eq_true] at hok
 have hpg:=List.all_eq_true.1 hok.2 (s / 4).toNat (List.mem_range.2 hp)
 unfold lU at hcl
 unfold iR at hpg
 rw [hcl,if_neg (by omega)] at hpg
 simp only [Bool.and_eq_true] at hpg
 have hgs:=hpg.2
 unfold iG at hgs
 have:=List.all_eq_true.1 hgs (s%4).toNat (List.mem_range.2 (by omega))
 rw [show (((s / 4).toNat * 64+8+ (s%4).toNat * (eu c).toNat : Nat) : Int) =s / 4 * 64+8+s%4 * eu c by
  simp only [Int.natCast_add,Int.natCast_mul,Int.toNat_of_nonneg (show 0≤s / 4 by omega),Int.toNat_of_nonneg (show 0≤s%4 by omega),Int.toNat_of_nonneg hst]
  rfl] at this
 rw [←hgen] at this
 obtain⟨a,b⟩ :=bJ.1 this
 exact⟨hg.1,h1,bJ.2 ⟨a,h2⟩⟩
theorem BM {m : Mem}{k : Nat}{l : List Int}{s : Int}(hok : dG m=true)(hk : k<9)(hr : m.I.O[k]? =some l)(hs : s∈l) : jv m.E ((k%3 : Nat) : Int) s=true:=by
 unfold dG at hok
 simp only [Bool.and_eq_true] at hok
 have:=List.all_eq_true.1 hok.2 k (List.mem_range.2 hk)
 rw [List.getD_eq_getElem?_getD,hr] at this
 exact List.all_eq_true.1 this s hs
theorem wZ {m : Mem}{c : Nat}{l : List Int}{s : Int}(hok : dG m=true)(hc : c<3)(hr : m.I.G[c]? =some l)(hs : s∈l) : jv m.E (c : Int) s=true:=by
 unfold dG at hok
 simp only [Bool.and_eq_true] at hok
 have:=List.all_eq_true.1 hok.1.2 c (List.mem_range.2 hc)
 rw [List.getD_eq_getElem?_getD,hr] at this
 exact List.all_eq_true.1 this s hs
def mH (m : Mem)(p c : Nat) : Mem:= {E:=fI m.E p c,I:= {m.I with G:=m.I.G.set c (m.I.G.getD c []++ (d_ p (cO (c : Int)).toNat).drop 1)}}
def Jj (m : Mem)(k : Nat) : Mem:= {m with I:= {m.I with O:=m.I.O.set k (m.I.O.getD k []).dropLast}}
def El (m : Mem)(c : Nat) : Mem:= {m with I:= {m.I with G:=m.I.G.set c (m.I.G.getD c []).dropLast}}
def vN (h : Heap)(s : Int) : Int:=dz h s * 32+s
def qz (m : Mem)(w c : Nat) : Mem×Int×Int:=
 match (m.I.O.getD (w * 3+c) []).getLast? with
 |some s=> (Jj m (w * 3+c),vN m.E s,0)
 |none=>match (m.I.G.getD c []).getLast? with
  |some s=> (El m c,vN m.E s,0)
  |none=>if idxOf (fun y=>y == -1) m.E.Z<0 then (m,0,3) else
   (mH m (idxOf (fun y=>y == -1) m.E.Z).toNat c,vN (fI m.E (idxOf (fun y=>y == -1) m.E.Z).toNat c) (((idxOf (fun y=>y == -1) m.E.Z).toNat * 4 : Nat) : Int),0)
def dS (m : Mem)(w n : Int) : Mem×Int×Int:=if dG m=false∨bO 0 2 w=false then (m,0,1) else if eT n<0 then (m,0,2) else qz m w.toNat (eT n).toNat
theorem rO {m : Mem}{w n : Int}(c : dG m=false∨bO 0 2 w=false) : dS m w n= (m,0,1) :=if_pos c
theorem wN {m : Mem}{w n : Int}(c1 : dG m=true)(c2 : bO 0 2 w=true)(c3 : eT n<0) : dS m w n= (m,0,2) :=by
 unfold dS
 rw [if_neg (by rw [c1,c2];decide),if_pos c3]
theorem tY {m : Mem}{w n : Int}(c1 : dG m=true)(c2 : bO 0 2 w=true)(c3 : ¬ eT n<0) : dS m w n=qz m w.toNat (eT n).toNat:=by
 unfold dS
 rw [if_neg (by rw [c1,c2];decide),if_neg c3]
theorem vE {m : Mem}{w c : Nat}{l : List Int}{s : Int}(h : m.I.O[w * 3+c]? =some (l++ [s])) : qz m w c= ({m with I:= {m.I with O:=m.I.O.set (w * 3+c) l}},dz m.E s * 32+s,0) :=by
 unfold qz Jj vN
 rw [List.getD_eq_getElem?_getD,h]
 simp
theorem uV {m : Mem}{w c : Nat}{l : List Int}{s : Int}(h0 : m.I.O[w * 3+c]? =some [])(h : m.I.G[c]? =some (l++ [s])) : qz m w c= ({m with I:= {m.I with G:=m.I.G.set c l}},dz m.E s * 32+s,0) :=by
 unfold qz El vN
 rw [List.getD_eq_getElem?_getD,h0,List.getD_eq_getElem?_getD,h]
 simp
theorem w_ {m : Mem}{w c : Nat}(h0 : m.I.O[w * 3+c]? =some [])(h : m.I.G[c]? =some [])(hp : idxOf (fun y=>y == -1) m.E.Z= -1) : qz m w c= (m,0,3) :=by
 unfold qz
 rw [List.getD_eq_getElem?_getD,h0,List.getD_eq_getElem?_getD,h,hp]
 simp
theorem qA {m : Mem}{w c p : Nat}(h0 : m.I.O[w * 3+c]? =some [])(h : m.I.G[c]? =some [])(hp : idxOf (fun y=>y == -1) m.E.Z= (p : Int)) : qz m w c= (mH m p c,dz (fI m.E p c) ((p * 4 : Nat) : Int) * 32+ ((p * 4 : Nat) : Int),0) :=by
 unfold qz vN
 rw [List.getD_eq_getElem?_getD,h0,List.getD_eq_getElem?_getD,h,hp]
 simp only [Option.getD_some,List.getLast?_nil,Int.toNat_natCast]
 rw [if_neg (by omega)]
end Go.Proofs.YtkmggglljkmjoaaGreat
namespace Go.Proofs.YtkmggglljkmjoaaGreat
open Go.RowKit
theorem vF {c : Int}(hc : bO 0 2 c=true) : 1≤cO c:=by
 rcases cls hc with rfl|rfl|rfl<;>decide
theorem qB {c : Int}(hc : bO 0 2 c=true) : 4≤ (eu c).toNat:=by
 rcases cls hc with rfl|rfl|rfl<;>decide
theorem FM {b : List Int}{p : Nat}{c : Int}(hb : b.all (bO 0 255) =true)(hc : bO 0 2 c=true) : ∀i, (jH b p c i).all (bO 0 255) =true
 |0=>by
  unfold jH
  refine zN hb ?_
  rcases cls hc with rfl|rfl|rfl<;>decide
 |i+1=>by
  unfold jH
  exact zN (FM hb hc i) (xE 4 1)
theorem CS {b : List Int}{p : Nat}{c : Int}(hb : b.length=384)(hp : p<6)(hc : bO 0 2 c=true)(j : Nat)(hj : j<4) : ∀i,i+1≤ (cO c).toNat→ (jH b p c (i+1))[p * 64+8+j]? = (fQ 4 1)[j]?
 |0,hi=>by
  unfold jH
  rw [show p * 64+8+0 * (eu c).toNat=p * 64+8 by omega]
  exact vZ (by rw [oh hb hp hc 0 (by omega),jq];omega) (by rw [jq];exact hj)
 |i+1,hi=>by
  have hr:=nQ hc (i:=i+1) (by omega)
  have hs:=qB hc
  have hm : (eu c).toNat≤ (i+1) * (eu c).toNat:=Nat.le_mul_of_pos_left _ (by omega)
  rw [show jH b p c (i+1+1) =putAt (jH b p c (i+1)) (p * 64+8+ (i+1) * (eu c).toNat) (fQ 4 1) from rfl,uS (by rw [oh hb hp hc (i+1) (by omega),jq];omega) (.inl (by omega))]
  exact CS hb hp hc j hj i (by omega)
theorem xg {h : Heap}{p c : Nat}(hs : gI h=true)(hp : p<6)(hc : c<3) : gI (fI h p c) =true∧aO (fI h p c) ((p * 4 : Nat) : Int) =c∧dz (fI h p c) ((p * 4 : Nat) : Int) =1:=by
 have hcl : bO 0 2 (c : Int) =true:=bJ.2 ⟨by omega,by omega⟩
 have sh:=iA hs
 have hlen:=oh (b:=h.Y) (p:=p) (c:= (c : Int)) sh.bl hp hcl (cO (c : Int)).toNat (Nat.le_refl _)
 have hpp:=vF hcl
 have hca : lU (fI h p c) ((p * 4 : Nat) : Int) =c:=by
  unfold lU fI
  rw [show ((((p * 4 : Nat) : Int) / 4).toNat) =p by omega,List.getD_eq_getElem?_getD,List.getElem?_set_self (by rw [sh.cl];exact hp)]
  rfl
 have hga : ig ((p * 4 : Nat) : Int) c= ((p * 64+8 : Nat) : Int) :=by
  unfold ig
  have hm : ((p * 4 : Nat) : Int) %4=0:=by omega
  rw [if_pos ⟨bJ.2 ⟨by omega,by omega⟩,hcl,by omega⟩,hm]
  omega
 have hci : aO (fI h p c) ((p * 4 : Nat) : Int) =c:=by
  unfold aO
  rw [hca,if_neg (by rw [hga];omega)]
 refine⟨?_,hci, ?_⟩
 ·unfold gI kU at hs⊢
  simp only [Bool.and_eq_true,beq_iff_eq] at hs⊢
  refine⟨⟨⟨hlen, ?_⟩, ?_, ?_⟩, ?_⟩
  ·unfold fI
   rw [List.length_set]
   exact hs.1.1.2
  ·unfold fI
   simp only []
   rw [hlen]
   decide
  ·exact FM hs.1.2.2 hcl _
  ·refine List.all_eq_true.2 fun y hy=> ?_
   unfold fI at hy
   rcases List.mem_or_eq_of_mem_set hy with hy|rfl
   ·exact List.all_eq_true.1 hs.2 y hy
   ·exact bJ.2 ⟨by omega,by omega⟩
 ·unfold dz
  rw [hci,if_neg (by omega),hga]
  unfold iF
  obtain⟨k,hk⟩ : ∃k, (cO (c : Int)).toNat=k+1:= ⟨(cO (c : Int)).toNat - 1,by omega⟩
  have hf:=fun j hj=>CS (b:=h.Y) sh.bl hp hcl j hj k (by omega)
  rw [show (((p * 64+8 : Nat) : Int)).toNat=p * 64+8 by omega,show (4 : Int).toNat=4 from rfl]
  unfold fI
  simp only []
  rw [hk]
  have f0:=hf 0 (by decide)
  have f1:=hf 1 (by decide)
  have f2:=hf 2 (by decide)
  have f3:=hf 3 (by decide)
  simp only [iJ,List.getD_eq_getElem?_getD,f0,f1,f2,f3]
  decide
end Go.Proofs.YtkmggglljkmjoaaGreat
namespace Go.Proofs.YtkmggglljkmjoaaGreat
open Go.RowKit
theorem aY.Em {F : List Nat}{a b c d : World}{g r : Nat}(h : aY F a b)(h2 : aY F b c)(_hg : g∈F)(h3 : aY [g,r] c d)(_hr : a.heap.size≤r) : aY F a d:=
 ⟨h3.os.trans (h2.os.trans h.os),h3.tape.trans (h2.tape.trans h.tape),h3.output.trans (h2.output.trans h.output),Nat.le_trans h.size (Nat.le_trans h2.size h3.size),fun k hk hn=>by
  have h4:=Nat.lt_of_lt_of_le hk h.size
  have h5:=Nat.lt_of_lt_of_le h4 h2.size
  rw [h3.block k h5 (by simp only [List.mem_cons,List.not_mem_nil,or_false];intro hh;rcases hh with rfl|rfl;exact hn _hg;omega),h2.block k h4 hn,h.block k hk hn]⟩
set_option maxRecDepth 100000 in
set_option maxHeartbeats 4000000 in
theorem A_ (w : World)(H : aZ)(x : Lists)(wk c : Nat)(s : Int)(h : dZ w H x)(hs : bX x≤536870912)(hok : x.G.length=3∧x.O.length=9)(hw : wk<3)(hc : c<3) :
  Calls Tryz.prog 168 #[.agg #[.slice H.G.a H.G.l H.G.c, .slice H.O.a H.O.l H.O.c], .int .i64 wk, .int .i64 c, .int .i64 s] w fun e w'=> ∃H' : aZ,e= .returned (.agg #[.slice H'.G.a H'.G.l H'.G.c, .slice H'.O.a H'.O.l H'.O.c]) ∧dZ w' H' (nI x (wk * 3+c) c s) ∧ (∀g∈H'.foot,g∈H.foot∨w.heap.size≤g) ∧aY H.foot w w':=by
 obtain⟨hl3,mW⟩ :=hok
 have H3:=Hid.aT hl3
 have H9:=Hid.aT mW
 have CP:=Hid.aT (show ∀l,l∈x.O∨l∈x.G→l.length≤536870912 from fun l hl=>by
  unfold bX at hs
  rcases hl with hl|hl
  ·have:=mK hl
   omega
  ·have:=mK hl
   omega)
 obtain⟨lo,hlo⟩ : ∃l,x.O[wk * 3+c]? =some l:= ⟨_,List.getElem?_eq_getElem (by omega)⟩
 obtain⟨lg,sI⟩ : ∃l,x.G[c]? =some l:= ⟨_,List.getElem?_eq_getElem (by omega)⟩
 have HO:=Hid.aT hlo
 have HG:=Hid.aT sI
 have hso:=CP.out lo (.inl (List.mem_of_getElem? hlo))
 have hsg:=CP.out lg (.inr (List.mem_of_getElem? sI))
 have hoa:=fun W=>qI wk c hw hc W
 have Eb : wk * 3+c<x.O.length:=by omega
 have hc3 : c<x.G.length:=by omega
 have mg:=Hid.aT Eb
 have Ji:=Hid.aT hc3
 clear hl3 mW hlo sI Eb hc3 CP
 obtain⟨k,hk⟩ : ∃k,k=wk * 3+c:= ⟨_,rfl⟩
 rw [←hk] at hoa HO mg⊢
 clear hk
 obtain⟨⟨A1,n1,p1⟩,T1, ⟨A2,n2,p2⟩,T2⟩ :=H
 obtain⟨g1,c1,hv1,hg1⟩ :=dR.jV (v:= .slice A1 n1 p1) h.G (by rw [H3.out];decide)
 obtain⟨g2,c2,hv2,hg2⟩ :=dR.jV (v:= .slice A2 n2 p2) h.O (by rw [H9.out];decide)
 injection hv1 with i1 i2 i3
 injection hv2 with j1 j2 j3
 subst i1 i2 i3 j1 j2 j3
 have u_c:=h.lt
 have aP:=h
 clear h
 show Calls Tryz.prog 168 #[.agg #[.slice (some ⟨g1,0,none⟩) x.G.length p1, .slice (some ⟨g2,0,none⟩) x.O.length p2], .int .i64 wk, .int .i64 c, .int .i64 s] _ _
 replace aP:= (aP.aH (.cells #[.slice (some ⟨g1,0,none⟩) x.G.length p1, .slice (some ⟨g2,0,none⟩) x.O.length p2] 29)).aH (.cells #[.slice none 0 0, .slice none 0 0] 29)
 have au : aB ((w.alloc (.cells #[.slice (some ⟨g1,0,none⟩) x.G.length p1, .slice (some ⟨g2,0,none⟩) x.O.length p2] 29)).alloc (.cells #[.slice none 0 0, .slice none 0 0] 29)) w.heap.size [.slice (some ⟨g1,0,none⟩) x.G.length p1, .slice (some ⟨g2,0,none⟩) x.O.length p2]:= (aB.new w #[.slice (some ⟨g1,0,none⟩) x.G.length p1, .slice (some ⟨g2,0,none⟩) x.O.length p2] _).alloc _
 have ah : aB ((w.alloc (.cells #[.slice (some ⟨g1,0,none⟩) x.G.length p1, .slice (some ⟨g2,0,none⟩) x.O.length p2] 29)).alloc (.cells #[.slice none 0 0, .slice none 0 0] 29)) (w.heap.size+1) [.slice none 0 0, .slice none 0 0]:=by
  have hb:=aB.new (w.alloc (.cells #[.slice (some ⟨g1,0,none⟩) x.G.length p1, .slice (some ⟨g2,0,none⟩) x.O.length p2] 29)) #[.slice none 0 0, .slice none 0 0] 29
  rw [World.size_alloc] at hb
  exact hb
 have hB : aY (aZ.foot ⟨⟨some ⟨g1,0,none⟩,x.G.length,p1⟩,T1, ⟨some ⟨g2,0,none⟩,x.O.length,p2⟩,T2⟩) w ((w.alloc (.cells #[.slice (some ⟨g1,0,none⟩) x.G.length p1, .slice (some ⟨g2,0,none⟩) x.O.length p2] 29)).alloc (.cells #[.slice none 0 0, .slice none 0 0] 29)) := ((aY.refl _ _).aH _).aH _
 by_cases hlen : lo.length<2
 ·have HLEN:=Hid.aT hlen
  go_enter Tryz.func168,Tryz.ntmps168
  go_wp2_with fail
  generalize hW0 : ((w.alloc (.cells #[.slice (some ⟨g1,0,none⟩) x.G.length p1, .slice (some ⟨g2,0,none⟩) x.O.length p2] 29)).alloc (.cells #[.slice none 0 0, .slice none 0 0] 29)) =w0 at aP au ah hB⊢
  clear hW0
  refine(hoa _).mono ?_
  rintro e wv ⟨rfl,rfl⟩
  clear hoa
  have HZ0:=Hid.aT (show w.heap.size+1<w0.heap.size from ah.lt)
  obtain⟨aD,aF,aL,aQ⟩ :=au.f2
  obtain⟨aj,ak,ay,aI⟩ :=ah.f2
  obtain⟨so,jU⟩ : ∃q,T2[k]? =some q:= ⟨_,List.getElem?_eq_getElem (by rw [aP.O.len];exact mg.out)⟩
  have ino:=aP.O.inner k so _ jU HO.out
  have po:=aP.O.outer.cell_ (j:=0) jU (by decide)
  simp only [FS,Nat.mul_one,Nat.add_zero] at po
  obtain⟨Ao,co,qo,_⟩ :=ino.rd'
  obtain⟨ao,no,bo⟩ :=so
  injection qo with k1 k2 k3
  subst k1 k2 k3
  have qR : _=some (Value.slice ao lo.length bo) :=po
  clear po
  have ff:=aP.O.outer.eD k
  have HV:=Hid.aT jU
  have p9:=Hid.aT (dR.head_ne (g:=g2) (n:=x.O.length) (c:=p2) aP.O jU)
  have hkk : k<x.O.length:=mg.out
  have qU : g2<w0.heap.size:=Nat.lt_of_lt_of_le hg2 hB.size
  have yP : g2≠w.heap.size:=by omega
  have yQ : w.heap.size≠g2:=by omega
  have xI : g2≠w.heap.size+1:=by omega
  have xJ : w.heap.size+1≠g2:=by omega
  have oP:=Hid.aT (show ∀b∈cu (SV.val ⟨ao,lo.length,bo⟩),b∈dH (.slice (some ⟨g2,0,none⟩) x.O.length p2) T2 from fun b hb=>cZ.2 (.inr ⟨_,List.mem_of_getElem? HV.out,bV.1 hb⟩))
  have jX:=Hid.aT (show ∀b∈cu (SV.val ⟨ao,lo.length,bo⟩),b∈aZ.foot ⟨⟨some ⟨g1,0,none⟩,x.G.length,p1⟩,T1, ⟨some ⟨g2,0,none⟩,x.O.length,p2⟩,T2⟩ from fun b hb=>aZ.aX.2 (.inr (oP.out b hb)))
  have Jk : ((w0.alloc (.cells #[.int .i64 s] 3)).drew).heap.size=w0.heap.size+1:=by simp
  have HQ:=Hid.aT Jk
  clear Jk
  have hrow : bA FI 3 ((w0.alloc (.cells #[.int .i64 s] 3)).drew) (.slice ao lo.length bo) lo:=bA.keep (bA.aH (show bA FI 3 w0 (.slice ao lo.length bo) lo from ino) _) (fun _ _=>rfl)
  have hlit : fE FI ((w0.alloc (.cells #[.int .i64 s] 3)).drew) ((w0.alloc (.cells #[.int .i64 s] 3)).drew).heap.size (.slice (some ⟨w0.heap.size,0,none⟩) 1 1) [s]:= ((bA.lit FI [s] #[.int .i64 s] rfl (by simp [maxLen]) w0 3).keep (w':= ((w0.alloc (.cells #[.int .i64 s] 3)).drew)) (fun _ _=>rfl)).rd'
  go_wp2_with fail
  go_region_law (refine jo Tryz.stInt rfl (.tmp 29) (.tmp 31) rfl (v:= .slice ao lo.length bo) (y:= .slice (some ⟨w0.heap.size,0,none⟩) 1 1) (l:=lo) (m:= [s]) (by simp [Act.eval]) (by simp [Act.eval]) hrow hlit (by simp;omega) ?_;intro v9 w9 qp qw lD;obtain⟨A9,c9,qy,_⟩ :=qp.rd';simp only [List.length_append,List.length_cons,List.length_nil] at qy;subst qy;have hx:=aY.jP qw;have FH:= (hx.frozen g2 k (by simp;omega) p9.out).trans ((kP w0 _ g2 k qU).trans ff);have FJ:= (hx.cell g2 k (by simp;omega) p9.out).trans ((nE w0 _ g2 k qU).trans qR);replace au:= (au.alloc (.cells #[.int .i64 s] 3)).drew.aM hx (fun hm=>by have:=u_c _ (jX.out _ hm);omega);clear aD aF aL aQ;obtain⟨aD,aF,aL,aQ⟩ :=au.f2;replace ah:= (ah.alloc (.cells #[.int .i64 s] 3)).drew.aM hx (fun hm=>by have:=u_c _ (jX.out _ hm);omega);clear aj ak ay aI;obtain⟨aj,ak,ay,aI⟩ :=ah.f2)
  all_goals
   have oD : dZ ((w0.alloc (.cells #[.int .i64 s] 3)).drew) ⟨⟨some ⟨g1,0,none⟩,x.G.length,p1⟩,T1, ⟨some ⟨g2,0,none⟩,x.O.length,p2⟩,T2⟩ x:= (aP.aH (.cells #[.int .i64 s] 3)).keep (fun _ _=>rfl)
   have hN:=dR.nM (s':= ⟨A9,lo.length+ (0+1),c9⟩) oD.O HV.out qp qw lD
   change dR _ _ _ (World.setCell _ _ (.slice A9 (lo.length+ (0+1)) c9)) _ _ _ at hN
   have pY:=fun b (hb : b∈dH (.slice (some ⟨g2,0,none⟩) x.O.length p2) (T2.set k ⟨A9,lo.length+ (0+1),c9⟩)) => (show b∈aZ.foot ⟨⟨some ⟨g1,0,none⟩,x.G.length,p1⟩,T1, ⟨some ⟨g2,0,none⟩,x.O.length,p2⟩,T2⟩ ∨w.heap.size≤b by rcases iU hb with hb|hb; (exact .inl (aZ.aX.2 (.inr hb))); (rcases iy lD b hb with hb|hb; (exact .inl (jX.out b hb)); (right;have:=hB.size;rw [hb,HQ.out];omega)))
   have hO : dR FI 3 94 _ _ _ x.G:= (oD.G.aM hx (fun b hb hm=>aP.iV b hb (oP.out b hm))).aM (F:= [g2]) ((aY.refl _ w9).gD (g:=g2) (i:=k) (by simp) (.slice A9 (lo.length+ (0+1)) c9)) (fun b hb hm=>by simp only [List.mem_cons,List.not_mem_nil,or_false] at hm;subst hm;exact aP.iV b hb (cZ.2 (.inl rfl)))
   have uO:= (oD.G).lt
   have uN : ∀b∈dH (.slice (some ⟨g2,0,none⟩) x.O.length p2) (T2.set k ⟨A9,lo.length+ (0+1),c9⟩),b≠w.heap.size+1:=fun b hb e=>by subst e;rcases iU hb with hb|hb; (have:=u_c _ (aZ.aX.2 (.inr hb));omega); (rcases iy lD _ hb with hb|hb; (have:=u_c _ (jX.out _ hb);omega); (have:=aI;rw [HQ.out] at hb;have:=HZ0.out;omega))
   go_wp2_with fail
   refine bodyPost_ret (v:= .agg #[.slice (some ⟨g1,0,none⟩) x.G.length p1, .slice (some ⟨g2,0,none⟩) x.O.length p2]) (by simp [results,Tryz.results168,go_sem,aj,ak]) rfl ⟨⟨⟨some ⟨g1,0,none⟩,x.G.length,p1⟩,T1, ⟨some ⟨g2,0,none⟩,x.O.length,p2⟩,T2.set k ⟨A9,lo.length+ (0+1),c9⟩⟩,rfl,by rw [uJ HO.out HLEN.out];exact⟨hO.aM (F:= [w.heap.size+1]) bW (fun b hb hm=>by simp only [List.mem_cons,List.not_mem_nil,or_false] at hm;have:=u_c b (aZ.aX.2 (.inl hb));omega),hN.aM (F:= [w.heap.size+1]) bW (fun b hb hm=>by simp only [List.mem_cons,List.not_mem_nil,or_false] at hm;exact uN b hb hm),fun b hb hm=>by rcases iU hm with hm|hm; (exact aP.iV b hb hm); (rcases iy lD b hm with hm|hm; (exact aP.iV b hb (oP.out b hm)); (have:=uO b hb;omega))⟩,fun b hb=> ?_, ?_⟩
   ·rcases aZ.aX.1 hb with hb|hb
    ·exact .inl (aZ.aX.2 (.inl hb))
    ·exact pY b hb
   ·exact hB.Em (aY.trans ((aY.refl _ w0).aH (.cells #[.int .i64 s] 3)).bf (hx.mono jX.out)) (aZ.aX.2 (.inr (cZ.2 (.inl rfl)))) (r:=w.heap.size+1) bW (by omega)
 ·have HLEN:=Hid.aT hlen
  go_enter Tryz.func168,Tryz.ntmps168
  go_wp2_with fail
  generalize hW0 : ((w.alloc (.cells #[.slice (some ⟨g1,0,none⟩) x.G.length p1, .slice (some ⟨g2,0,none⟩) x.O.length p2] 29)).alloc (.cells #[.slice none 0 0, .slice none 0 0] 29)) =w0 at aP au ah hB⊢
  clear hW0
  refine(hoa _).mono ?_
  rintro e wv ⟨rfl,rfl⟩
  clear hoa
  have HZ0:=Hid.aT (show w.heap.size+1<w0.heap.size from ah.lt)
  obtain⟨aD,aF,aL,aQ⟩ :=au.f2
  obtain⟨aj,ak,ay,aI⟩ :=ah.f2
  obtain⟨so,jU⟩ : ∃q,T2[k]? =some q:= ⟨_,List.getElem?_eq_getElem (by rw [aP.O.len];exact mg.out)⟩
  have ino:=aP.O.inner k so _ jU HO.out
  have po:=aP.O.outer.cell_ (j:=0) jU (by decide)
  simp only [FS,Nat.mul_one,Nat.add_zero] at po
  obtain⟨Ao,co,qo,_⟩ :=ino.rd'
  obtain⟨ao,no,bo⟩ :=so
  injection qo with k1 k2 k3
  subst k1 k2 k3
  have qR : _=some (Value.slice ao lo.length bo) :=po
  clear po
  obtain⟨sg,pz⟩ : ∃q,T1[c]? =some q:= ⟨_,List.getElem?_eq_getElem (by rw [aP.G.len];exact Ji.out)⟩
  have ing:=aP.G.inner c sg _ pz HG.out
  have pg:=aP.G.outer.cell_ (j:=0) pz (by decide)
  simp only [FS,Nat.mul_one,Nat.add_zero] at pg
  obtain⟨Ag,cg,FK,_⟩ :=ing.rd'
  obtain⟨ag,ng,bg⟩ :=sg
  injection FK with k1 k2 k3
  subst k1 k2 k3
  have zR : _=some (Value.slice ag lg.length bg) :=pg
  clear pg
  have ff:=aP.G.outer.eD c
  have HV:=Hid.aT pz
  have p9:=Hid.aT (dR.head_ne (g:=g1) (n:=x.G.length) (c:=p1) aP.G pz)
  have hkk : c<x.G.length:=Ji.out
  have qU : g1<w0.heap.size:=Nat.lt_of_lt_of_le hg1 hB.size
  have yP : g1≠w.heap.size:=by omega
  have yQ : w.heap.size≠g1:=by omega
  have xI : g1≠w.heap.size+1:=by omega
  have xJ : w.heap.size+1≠g1:=by omega
  have oP:=Hid.aT (show ∀b∈cu (SV.val ⟨ag,lg.length,bg⟩),b∈dH (.slice (some ⟨g1,0,none⟩) x.G.length p1) T1 from fun b hb=>cZ.2 (.inr ⟨_,List.mem_of_getElem? HV.out,bV.1 hb⟩))
  have jX:=Hid.aT (show ∀b∈cu (SV.val ⟨ag,lg.length,bg⟩),b∈aZ.foot ⟨⟨some ⟨g1,0,none⟩,x.G.length,p1⟩,T1, ⟨some ⟨g2,0,none⟩,x.O.length,p2⟩,T2⟩ from fun b hb=>aZ.aX.2 (.inl (oP.out b hb)))
  have Jk : ((w0.alloc (.cells #[.int .i64 s] 3)).drew).heap.size=w0.heap.size+1:=by simp
  have HQ:=Hid.aT Jk
  clear Jk
  have hrow : bA FI 3 ((w0.alloc (.cells #[.int .i64 s] 3)).drew) (.slice ag lg.length bg) lg:=bA.keep (bA.aH (show bA FI 3 w0 (.slice ag lg.length bg) lg from ing) _) (fun _ _=>rfl)
  have hlit : fE FI ((w0.alloc (.cells #[.int .i64 s] 3)).drew) ((w0.alloc (.cells #[.int .i64 s] 3)).drew).heap.size (.slice (some ⟨w0.heap.size,0,none⟩) 1 1) [s]:= ((bA.lit FI [s] #[.int .i64 s] rfl (by simp [maxLen]) w0 3).keep (w':= ((w0.alloc (.cells #[.int .i64 s] 3)).drew)) (fun _ _=>rfl)).rd'
  go_wp2_with fail
  go_region_law (refine jo Tryz.stInt rfl (.tmp 43) (.tmp 45) rfl (v:= .slice ag lg.length bg) (y:= .slice (some ⟨w0.heap.size,0,none⟩) 1 1) (l:=lg) (m:= [s]) (by simp [Act.eval]) (by simp [Act.eval]) hrow hlit (by simp;omega) ?_;intro v9 w9 qp qw lD;obtain⟨A9,c9,qy,_⟩ :=qp.rd';simp only [List.length_append,List.length_cons,List.length_nil] at qy;subst qy;have hx:=aY.jP qw;have FH:= (hx.frozen g1 c (by simp;omega) p9.out).trans ((kP w0 _ g1 c qU).trans ff);have FJ:= (hx.cell g1 c (by simp;omega) p9.out).trans ((nE w0 _ g1 c qU).trans zR);replace au:= (au.alloc (.cells #[.int .i64 s] 3)).drew.aM hx (fun hm=>by have:=u_c _ (jX.out _ hm);omega);clear aD aF aL aQ;obtain⟨aD,aF,aL,aQ⟩ :=au.f2;replace ah:= (ah.alloc (.cells #[.int .i64 s] 3)).drew.aM hx (fun hm=>by have:=u_c _ (jX.out _ hm);omega);clear aj ak ay aI;obtain⟨aj,ak,ay,aI⟩ :=ah.f2)
  all_goals
   have oD : dZ ((w0.alloc (.cells #[.int .i64 s] 3)).drew) ⟨⟨some ⟨g1,0,none⟩,x.G.length,p1⟩,T1, ⟨some ⟨g2,0,none⟩,x.O.length,p2⟩,T2⟩ x:= (aP.aH (.cells #[.int .i64 s] 3)).keep (fun _ _=>rfl)
   have hN:=dR.nM (s':= ⟨A9,lg.length+ (0+1),c9⟩) oD.G HV.out qp qw lD
   change dR _ _ _ (World.setCell _ _ (.slice A9 (lg.length+ (0+1)) c9)) _ _ _ at hN
   have pY:=fun b (hb : b∈dH (.slice (some ⟨g1,0,none⟩) x.G.length p1) (T1.set c ⟨A9,lg.length+ (0+1),c9⟩)) => (show b∈aZ.foot ⟨⟨some ⟨g1,0,none⟩,x.G.length,p1⟩,T1, ⟨some ⟨g2,0,none⟩,x.O.length,p2⟩,T2⟩ ∨w.heap.size≤b by rcases iU hb with hb|hb; (exact .inl (aZ.aX.2 (.inl hb))); (rcases iy lD b hb with hb|hb; (exact .inl (jX.out b hb)); (right;have:=hB.size;rw [hb,HQ.out];omega)))
   have hO : dR FI 3 94 _ _ _ x.O:= (oD.O.aM hx (fun b hb hm=>aP.iV b (oP.out b hm) hb)).aM (F:= [g1]) ((aY.refl _ w9).gD (g:=g1) (i:=c) (by simp) (.slice A9 (lg.length+ (0+1)) c9)) (fun b hb hm=>by simp only [List.mem_cons,List.not_mem_nil,or_false] at hm;subst hm;exact aP.iV b (cZ.2 (.inl rfl)) hb)
   have uO:= (oD.O).lt
   have uN : ∀b∈dH (.slice (some ⟨g1,0,none⟩) x.G.length p1) (T1.set c ⟨A9,lg.length+ (0+1),c9⟩),b≠w.heap.size+1:=fun b hb e=>by subst e;rcases iU hb with hb|hb; (have:=u_c _ (aZ.aX.2 (.inl hb));omega); (rcases iy lD _ hb with hb|hb; (have:=u_c _ (jX.out _ hb);omega); (have:=aI;rw [HQ.out] at hb;have:=HZ0.out;omega))
   go_wp2_with fail
   refine bodyPost_ret (v:= .agg #[.slice (some ⟨g1,0,none⟩) x.G.length p1, .slice (some ⟨g2,0,none⟩) x.O.length p2]) (by simp [results,Tryz.results168,go_sem,aj,ak]) rfl ⟨⟨⟨some ⟨g1,0,none⟩,x.G.length,p1⟩,T1.set c ⟨A9,lg.length+ (0+1),c9⟩, ⟨some ⟨g2,0,none⟩,x.O.length,p2⟩,T2⟩,rfl,by rw [yA HO.out HLEN.out HG.out];exact⟨hN.aM (F:= [w.heap.size+1]) bW (fun b hb hm=>by simp only [List.mem_cons,List.not_mem_nil,or_false] at hm;exact uN b hb hm),hO.aM (F:= [w.heap.size+1]) bW (fun b hb hm=>by simp only [List.mem_cons,List.not_mem_nil,or_false] at hm;have:=u_c b (aZ.aX.2 (.inr hb));omega),fun b hb hm=>by rcases iU hb with hb|hb; (exact aP.iV b hb hm); (rcases iy lD b hb with hb|hb; (exact aP.iV b (oP.out b hb) hm); (have:=uO b hm;omega))⟩,fun b hb=> ?_, ?_⟩
   ·rcases aZ.aX.1 hb with hb|hb
    ·exact pY b hb
    ·exact .inl (aZ.aX.2 (.inr hb))
   ·exact hB.Em (aY.trans ((aY.refl _ w0).aH (.cells #[.int .i64 s] 3)).bf (hx.mono jX.out)) (aZ.aX.2 (.inl (cZ.2 (.inl rfl)))) (r:=w.heap.size+1) bW (by omega)
end Go.Proofs.YtkmggglljkmjoaaGreat
namespace Go.Proofs.YtkmggglljkmjoaaGreat
open Go.RowKit
theorem state3 {m : Mem}{s : Int}(h : jw m s=3) : ¬ aO m.E s<0∧kZ m.I s=false∧dz m.E s≤6:=by
 unfold jw at h
 by_cases k1 : aO m.E s<0
 ·rw [if_pos k1] at h
  exact absurd h (by decide)
 ·rw [if_neg k1] at h
  by_cases k2 : kZ m.I s=true
  ·rw [if_pos k2] at h
   exact absurd h (by decide)
  ·rw [if_neg k2] at h
   by_cases k3 : 6<dz m.E s
   ·rw [if_pos k3] at h
    exact absurd h (by decide)
   ·exact⟨k1, (Bool.not_eq_true _).mp k2,by omega⟩
theorem Jl {h : Heap}{s : Int}(sh : Shape h)(k : ¬ aO h s<0) : 0≤aO h s∧aO h s≤2:=by
 have:=Dw sh s
 rcases nD h s with ⟨e,_⟩ | ⟨e,_⟩ <;>omega
theorem En {m : Mem}{wk c : Nat}{s g : Int}(hc : aO m.E s= (c : Int))(hg : dz m.E s=g) : qm m wk s= ⟨l6 m.E s (g+1),if g+1≤6 then nI m.I (wk * 3+c) c s else m.I⟩ :=by
 unfold qm
 rw [hc,hg,Int.toNat_natCast]
set_option maxRecDepth 100000 in
set_option maxHeartbeats 8000000 in
theorem Ia (w : World)(H : bP)(x : Mem)(wk : Nat)(a : Int)(h : gJ w w.heap.size H x)(hs : dx x≤536870912)(c1 : dG x=true)(hw : wk<3)(c3 : gM x a=true) :
  Calls Tryz.prog 110 #[.agg #[.slice H.E.Y.a H.E.Y.l H.E.Y.c, .slice H.E.Z.a H.E.Z.l H.E.Z.c, .slice H.I.G.a H.I.G.l H.I.G.c, .slice H.I.O.a H.I.O.l H.I.O.c], .int .i64 wk, .int .i64 a] w fun e w'=> ∃H' : bP,e= .returned (.agg #[.slice H'.E.Y.a H'.E.Y.l H'.E.Y.c, .slice H'.E.Z.a H'.E.Z.l H'.E.Z.c, .slice H'.I.G.a H'.I.G.l H'.I.G.c, .slice H'.I.O.a H'.I.O.l H'.I.O.c]) ∧d9 w' H' (qm x wk (a%32)) ∧ (∀g∈H'.foot,w.heap.size≤g) ∧Below w.heap.size w w':=by
 obtain⟨l1,l2,l3⟩ :=kR c3
 obtain⟨e1,e2,_,e4,_,_⟩ :=kX l1
 obtain⟨k1,k2,k3⟩ :=state3 l2
 have hsh:=jd c1
 obtain⟨d1,d2⟩ :=Jl (iA hsh) k1
 obtain⟨c,hc⟩ : ∃c : Nat,aO x.E (a%32) = (c : Int) := ⟨(aO x.E (a%32)).toNat,by omega⟩
 have hcn : c<3:=by omega
 have HE:=Hid.aT (En (wk:=wk) hc l3)
 have jT : iE x.E≤536870912∧bX x.I≤536870912:=by unfold dx at hs;omega
 have hsg:=fun (W : World) (hW : Below w.heap.size w W) =>H8 W H.E x.E (a%32) (a / 32+1) (dW h.E hW) jT.1 hsh k1 (by omega) (by omega)
 have hcl:=fun (W : World) (hW : Below w.heap.size w W) =>kL W H.I x.I (eZ h.I hW) jT.2
 have hci:=fun (W : World) (hW : Below w.heap.size w W) =>ql W H.E x.E (a%32) (dW h.E hW) hsh
 rw [hc] at hci
 have hgv:=fun (W : World) (hW : Below w.heap.size w W) =>JZ W H.I x.I wk c (a%32) (eZ h.I hW) jT.2 (jC c1) hw hcn e4 k2
 clear l1 l2 l3 e4 k1 k2 k3 hsh d1 d2 hc jT hs c1 c3
 obtain⟨w0,hW0⟩ : ∃x,x= ((w.alloc (.cells #[.slice H.E.Y.a H.E.Y.l H.E.Y.c, .slice H.E.Z.a H.E.Z.l H.E.Z.c, .slice H.I.G.a H.I.G.l H.I.G.c, .slice H.I.O.a H.I.O.l H.I.O.c] 31)).alloc (.cells #[.slice none 0 0, .slice none 0 0, .slice none 0 0, .slice none 0 0] 31)) := ⟨_,rfl⟩
 have au : aB w0 (w.heap.size) [.slice H.E.Y.a H.E.Y.l H.E.Y.c, .slice H.E.Z.a H.E.Z.l H.E.Z.c, .slice H.I.G.a H.I.G.l H.I.G.c, .slice H.I.O.a H.I.O.l H.I.O.c]:=by
  rw [hW0]
  exact aB.alloc aB.nw _
 have ah : aB w0 (w.heap.size+1) [.slice none 0 0, .slice none 0 0, .slice none 0 0, .slice none 0 0]:=by
  rw [hW0]
  exact aB.nw
 have hB : Below w.heap.size w w0:=by
  rw [hW0]
  exact dJ
 go_enter Tryz.func110,Tryz.ntmps110
 go_wp2_with fail
 rw [←hW0]
 clear hW0
 have g_:=au.lt
 have iB:=ah.lt
 obtain⟨aD,aF,aR,aS,aL,aQ⟩ :=au.f4
 obtain⟨aj,ak,aJ,aK,ay,aI⟩ :=ah.f4
 refine(hsg _ hB).mono ?_
 rintro e w1 ⟨fZ,rfl,iX,u_,hb⟩
 have vg:=iX.lt
 replace au:=au.below hb
 replace ah:=ah.below hb
 replace hB:=hB.trans (hb.mono hB.size)
 have sz:=hb.size
 clear hb
 clear aD aF aR aS aL aQ
 obtain⟨aD,aF,aR,aS,aL,aQ⟩ :=au.f4
 clear aj ak aJ aK ay aI
 obtain⟨aj,ak,aJ,aK,ay,aI⟩ :=ah.f4
 clear hsg
 go_upto_region 3 with (fail)
 generalize hO : Obj.cells #[.slice fZ.Y.a fZ.Y.l fZ.Y.c, .slice fZ.Z.a fZ.Z.l fZ.Z.c] 26=O_
 replace au:=au.alloc O_
 replace ah:=ah.alloc O_
 replace iX:=iX.aH O_
 replace hB:=hB.alloc hB.size O_
 have cB : aB (w1.alloc O_) w1.heap.size [.slice fZ.Y.a fZ.Y.l fZ.Y.c, .slice fZ.Z.a fZ.Z.l fZ.Z.c]:=hO ▸ aB.new _ _ _
 have oo:=cB.lt
 have sz : w1.heap.size≤ (w1.alloc O_).heap.size:=Nat.le_of_lt cB.lt
 generalize hG : (w1.alloc O_) =w2 at au ah iX hB cB oo sz⊢
 clear hG hO O_
 clear aD aF aR aS aL aQ
 obtain⟨aD,aF,aR,aS,aL,aQ⟩ :=au.f4
 clear aj ak aJ aK ay aI
 obtain⟨aj,ak,aJ,aK,ay,aI⟩ :=ah.f4
 obtain⟨dK,dL,eB,fP⟩ :=cB.f2
 go_upto_region 3 with (fail)
 go_cut [11] from 11 to 29 (fun v11 wx=> ∃ (go : Nat) (jM : aZ),v11= .pointer (some ⟨go,0,none⟩) ∧aB wx (w.heap.size) [.slice H.E.Y.a H.E.Y.l H.E.Y.c, .slice H.E.Z.a H.E.Z.l H.E.Z.c, .slice H.I.G.a H.I.G.l H.I.G.c, .slice H.I.O.a H.I.O.l H.I.O.c]∧aB wx (w.heap.size+1) [.slice none 0 0, .slice none 0 0, .slice none 0 0, .slice none 0 0]∧aB wx (w1.heap.size) [.slice fZ.Y.a fZ.Y.l fZ.Y.c, .slice fZ.Z.a fZ.Z.l fZ.Z.c]∧aB wx go [.slice fZ.Y.a fZ.Y.l fZ.Y.c, .slice fZ.Z.a fZ.Z.l fZ.Z.c, .slice jM.G.a jM.G.l jM.G.c, .slice jM.O.a jM.O.l jM.O.c]∧fA wx fZ (l6 x.E (a%32) (a / 32+1)) ∧dZ wx jM x.I∧ (∀g∈jM.foot,w2.heap.size≤g∧g≠go) ∧w2.heap.size≤go∧Below w.heap.size w wx∧w2.heap.size≤wx.heap.size)
 case first=>
  go_region_with (first| (go_at_call 153; (first| ((with_reducible refine(hcl _ hB).mono ?_);rintro e wq ⟨jM,rfl,bQ,fJ,hb⟩;have iD:=bQ.lt;replace au:=au.below hb;replace ah:=ah.below hb;replace cB:=cB.below hb;replace iX:=iX.step0 hb;replace hB:=hB.trans (hb.mono hB.size);have sz:=hb.size; (try replace aN:=aN.below hb); (try replace aV:=aN.cell 0 _ rfl); (try replace aW:=aN.cell 1 _ rfl); (try replace bG:=aN.cell 2 _ rfl); (try replace bH:=aN.cell 3 _ rfl); (try replace bq:=aN.dn); (try replace bN:=aN.lt);clear hb;clear aD aF aR aS aL aQ;obtain⟨aD,aF,aR,aS,aL,aQ⟩ :=au.f4;clear aj ak aJ aK ay aI;obtain⟨aj,ak,aJ,aK,ay,aI⟩ :=ah.f4;clear dK dL eB fP;obtain⟨dK,dL,eB,fP⟩ :=cB.f2) | ((with_reducible refine(hcl _ hB.drew).mono ?_);rintro e wq ⟨jM,rfl,bQ,fJ,hb⟩;replace hb:=gq hb;replace fJ:=ji fJ;have iD:=bQ.lt;replace au:=au.below hb;replace ah:=ah.below hb;replace cB:=cB.below hb;replace iX:=iX.step0 hb;replace hB:=hB.trans (hb.mono hB.size);have sz:=hb.size; (try replace aN:=aN.below hb); (try replace aV:=aN.cell 0 _ rfl); (try replace aW:=aN.cell 1 _ rfl); (try replace bG:=aN.cell 2 _ rfl); (try replace bH:=aN.cell 3 _ rfl); (try replace bq:=aN.dn); (try replace bN:=aN.lt);clear hb;clear aD aF aR aS aL aQ;obtain⟨aD,aF,aR,aS,aL,aQ⟩ :=au.f4;clear aj ak aJ aK ay aI;obtain⟨aj,ak,aJ,aK,ay,aI⟩ :=ah.f4;clear dK dL eB fP;obtain⟨dK,dL,eB,fP⟩ :=cB.f2) | ((with_reducible refine(hcl _ (hB.alloc hB.size _)).mono ?_);rintro e wq ⟨jM,rfl,bQ,fJ,hb⟩;simp only [World.size_alloc] at fJ;have iD:=bQ.lt;replace au:= (au.alloc _).below hb;replace ah:= (ah.alloc _).below hb;replace cB:= (cB.alloc _).below hb;replace iX:=iX.step hb;replace hB:=eX hB hb hB.size;have sz:=hb.size;simp only [World.size_alloc] at sz;have aN:=aB.below (aB.new _ #[.slice none 0 0, .slice none 0 0, .slice none 0 0, .slice none 0 0] 31) hb;obtain⟨aV,aW,bG,bH,bq,bN⟩ :=aN.f4;clear hb;clear aD aF aR aS aL aQ;obtain⟨aD,aF,aR,aS,aL,aQ⟩ :=au.f4;clear aj ak aJ aK ay aI;obtain⟨aj,ak,aJ,aK,ay,aI⟩ :=ah.f4;clear dK dL eB fP;obtain⟨dK,dL,eB,fP⟩ :=cB.f2) | ((with_reducible refine(hcl _ (hB.alloc hB.size _).drew).mono ?_);rintro e wq ⟨jM,rfl,bQ,fJ,hb⟩;replace hb:=gq hb;replace fJ:=ji fJ;simp only [World.size_alloc] at fJ;have iD:=bQ.lt;replace au:= (au.alloc _).below hb;replace ah:= (ah.alloc _).below hb;replace cB:= (cB.alloc _).below hb;replace iX:=iX.step hb;replace hB:=eX hB hb hB.size;have sz:=hb.size;simp only [World.size_alloc] at sz;have aN:=aB.below (aB.new _ #[.slice none 0 0, .slice none 0 0, .slice none 0 0, .slice none 0 0] 31) hb;obtain⟨aV,aW,bG,bH,bq,bN⟩ :=aN.f4;clear hb;clear aD aF aR aS aL aQ;obtain⟨aD,aF,aR,aS,aL,aQ⟩ :=au.f4;clear aj ak aJ aK ay aI;obtain⟨aj,ak,aJ,aK,ay,aI⟩ :=ah.f4;clear dK dL eB fP;obtain⟨dK,dL,eB,fP⟩ :=cB.f2))))
  all_goals
   go_wp2_with fail
   go_meet
   first|exact⟨_,jM,rfl,au.alloc _,ah.alloc _,cB.alloc _,aB.new _ _ _,iX.aH _,bQ.aH _,fun g hg=> ⟨by have:=fJ g hg;omega,by have:=iD g hg;omega⟩,by omega,hB.alloc hB.size _,by simp<;>omega⟩ | (obtain⟨go,hgo,og⟩ :=aN.ad;rw [←hgo];exact⟨go,jM,rfl, ((((au.other (by omega) _).other (by omega) _).other (by omega) _).other (by omega) _), ((((ah.other (by omega) _).other (by omega) _).other (by omega) _).other (by omega) _), ((((cB.other (by omega) _).other (by omega) _).other (by omega) _).other (by omega) _), ((((og.set 0 _).set 1 _).set 2 _).set 3 _),iX.aM (F:= [go]) bW (fun g hg hm=>by simp only [List.mem_cons,List.not_mem_nil,or_false] at hm;have:=u_ g hg;have:=vg g hg;omega),bQ.aM (F:= [go]) bW (fun g hg hm=>by simp only [List.mem_cons,List.not_mem_nil,or_false] at hm;have:=fJ g hg;have:=iD g hg;omega),fun g hg=> ⟨by have:=fJ g hg;omega,by have:=fJ g hg;have:=iD g hg;omega⟩,by omega,Below.trans hB dQ,by simp<;>omega⟩)
 case rest=>
  clear au aL aQ aD aF aR aS
  clear ah ay aI aj ak aJ aK
  clear cB eB fP dK dL
  clear iX
  clear hB
  obtain⟨go,jM,rfl,au,ah,cB,aN,iX,bQ,wB,H_,hB,sz⟩ :=hcut
  have fJ:=fun g hg=> (wB g hg).1
  have rz:=fun g hg=> (wB g hg).2
  have iD:=bQ.lt
  clear wB
  have gy:=aN.lt
  obtain⟨aD,aF,aR,aS,aL,aQ⟩ :=au.f4
  obtain⟨aj,ak,aJ,aK,ay,aI⟩ :=ah.f4
  obtain⟨dK,dL,eB,fP⟩ :=cB.f2
  obtain⟨aV,aW,bG,bH,bq,bN⟩ :=aN.f4
  clear hcl
  by_cases kg : a / 32+1≤6
  case pos=>
   have HF : Hid (qm x wk (a%32) = ⟨l6 x.E (a%32) (a / 32+1),nI x.I (wk * 3+c) c (a%32)⟩) :=by rw [HE.out,if_pos kg];exact rfl
   go_wp2_with fail
   go_region_with (first| (go_at_call 54; (first| ((with_reducible refine(hci _ hB).mono ?_);rintro e wq ⟨rfl,hb⟩;replace au:=au.below hb;replace ah:=ah.below hb;replace cB:=cB.below hb;replace aN:=aN.below hb;replace iX:=iX.step0 hb;replace bQ:=bQ.step0 hb; (try replace bZ:=bZ.step0 hb);replace hB:=hB.trans (hb.mono hB.size);have sz:=hb.size;clear hb;clear aD aF aR aS aL aQ;obtain⟨aD,aF,aR,aS,aL,aQ⟩ :=au.f4;clear aj ak aJ aK ay aI;obtain⟨aj,ak,aJ,aK,ay,aI⟩ :=ah.f4;clear dK dL eB fP;obtain⟨dK,dL,eB,fP⟩ :=cB.f2;clear aV aW bG bH bq bN;obtain⟨aV,aW,bG,bH,bq,bN⟩ :=aN.f4) | ((with_reducible refine(hci _ hB.drew).mono ?_);rintro e wq ⟨rfl,hb⟩;replace hb:=gq hb;replace au:=au.below hb;replace ah:=ah.below hb;replace cB:=cB.below hb;replace aN:=aN.below hb;replace iX:=iX.step0 hb;replace bQ:=bQ.step0 hb; (try replace bZ:=bZ.step0 hb);replace hB:=hB.trans (hb.mono hB.size);have sz:=hb.size;clear hb;clear aD aF aR aS aL aQ;obtain⟨aD,aF,aR,aS,aL,aQ⟩ :=au.f4;clear aj ak aJ aK ay aI;obtain⟨aj,ak,aJ,aK,ay,aI⟩ :=ah.f4;clear dK dL eB fP;obtain⟨dK,dL,eB,fP⟩ :=cB.f2;clear aV aW bG bH bq bN;obtain⟨aV,aW,bG,bH,bq,bN⟩ :=aN.f4))) | (go_at_call 167; (first| ((with_reducible refine(hgv _ hB).mono ?_);rintro e wq ⟨aG,rfl,bZ,dY,hb⟩;have u_n:=bZ.lt;replace au:=au.below hb;replace ah:=ah.below hb;replace cB:=cB.below hb;replace aN:=aN.below hb;replace iX:=iX.step0 hb;replace bQ:=bQ.step0 hb;replace hB:=hB.trans (hb.mono hB.size);have sz:=hb.size;clear hb;clear aD aF aR aS aL aQ;obtain⟨aD,aF,aR,aS,aL,aQ⟩ :=au.f4;clear aj ak aJ aK ay aI;obtain⟨aj,ak,aJ,aK,ay,aI⟩ :=ah.f4;clear dK dL eB fP;obtain⟨dK,dL,eB,fP⟩ :=cB.f2;clear aV aW bG bH bq bN;obtain⟨aV,aW,bG,bH,bq,bN⟩ :=aN.f4) | ((with_reducible refine(hgv _ hB.drew).mono ?_);rintro e wq ⟨aG,rfl,bZ,dY,hb⟩;replace hb:=gq hb;replace dY:=ji dY;have u_n:=bZ.lt;replace au:=au.below hb;replace ah:=ah.below hb;replace cB:=cB.below hb;replace aN:=aN.below hb;replace iX:=iX.step0 hb;replace bQ:=bQ.step0 hb;replace hB:=hB.trans (hb.mono hB.size);have sz:=hb.size;clear hb;clear aD aF aR aS aL aQ;obtain⟨aD,aF,aR,aS,aL,aQ⟩ :=au.f4;clear aj ak aJ aK ay aI;obtain⟨aj,ak,aJ,aK,ay,aI⟩ :=ah.f4;clear dK dL eB fP;obtain⟨dK,dL,eB,fP⟩ :=cB.f2;clear aV aW bG bH bq bN;obtain⟨aV,aW,bG,bH,bq,bN⟩ :=aN.f4))))
   all_goals
    go_wp2_with fail
    refine bodyPost_ret (v:= .agg #[.slice fZ.Y.a fZ.Y.l fZ.Y.c, .slice fZ.Z.a fZ.Z.l fZ.Z.c, .slice aG.G.a aG.G.l aG.G.c, .slice aG.O.a aG.O.l aG.O.c]) (by simp [results,Tryz.results110,go_sem,aj,ak,aJ,aK]) rfl ⟨⟨fZ,aG⟩,rfl,by rw [HF.out];exact⟨iX.aM (F:= [w.heap.size+1,go]) bW (fun g hg hm=>by simp only [List.mem_cons,List.not_mem_nil,or_false] at hm;have:=u_ g hg;have:=vg g hg;omega),bZ.aM (F:= [w.heap.size+1,go]) bW (fun g hg hm=>by simp only [List.mem_cons,List.not_mem_nil,or_false] at hm;have:=dY g hg;have:=u_n g hg;omega),fun b hb hm=>by have:=vg b hb;have:=u_ b hb;have:=u_n b hm;have:=dY b hm;omega⟩,fun b hb=>by rcases bP.aX.1 hb with hb|hb; (have:=u_ b hb;omega); (have:=dY b hb;omega),Below.trans hB dQ⟩
  case neg=>
   have HF : Hid (qm x wk (a%32) = ⟨l6 x.E (a%32) (a / 32+1),x.I⟩) :=by rw [HE.out,if_neg kg];exact rfl
   go_wp2_with fail
   refine bodyPost_ret (v:= .agg #[.slice fZ.Y.a fZ.Y.l fZ.Y.c, .slice fZ.Z.a fZ.Z.l fZ.Z.c, .slice jM.G.a jM.G.l jM.G.c, .slice jM.O.a jM.O.l jM.O.c]) (by simp [results,Tryz.results110,go_sem,aj,ak,aJ,aK]) rfl ⟨⟨fZ,jM⟩,rfl,by rw [HF.out];exact⟨iX.aM (F:= [w.heap.size+1]) bW (fun g hg hm=>by simp only [List.mem_cons,List.not_mem_nil,or_false] at hm;have:=u_ g hg;have:=vg g hg;omega),bQ.aM (F:= [w.heap.size+1]) bW (fun g hg hm=>by simp only [List.mem_cons,List.not_mem_nil,or_false] at hm;have:=fJ g hg;have:=iD g hg;omega),fun b hb hm=>by have:=vg b hb;have:=u_ b hb;have:=iD b hm;have:=fJ b hm;omega⟩,fun b hb=>by rcases bP.aX.1 hb with hb|hb; (have:=u_ b hb;omega); (have:=fJ b hb;omega),Below.trans hB dQ⟩
end Go.Proofs.YtkmggglljkmjoaaGreat
