/-
  Several texts in one: lemmas and contracts that the claim rests on.
-/
import Derived.Test.YtkmggglljkmjoaaGreatUTC1
import Derived.Deep.QuietTactic
import Derived.BigQuiet
import Derived.Deep.LoopGhost
import Derived.Deep.RegionHeld3
import Derived.Test.YtkmggglljkmjoaaGreatUTC2
import Derived.WalkSpells
import Derived.Laws.Cover3
import Derived.Test.YtkmggglljkmjoaaGreatUTC19
import Derived.Test.YtkmggglljkmjoaaGreatUTC20
import Derived.Test.YtkmggglljkmjoaaGreatUTC17
namespace Go.Proofs.YtkmggglljkmjoaaGreat
open Go.RowKit
theorem xu (n : Int) : eT n<3∧ (eT n<0∨ ∃c : Nat,c<3∧eT n= (c : Int)) :=by
 unfold eT
 repeat' split
 ·exact⟨by decide, .inl (by decide)⟩
 ·exact⟨by decide, .inr ⟨0,by decide,rfl⟩⟩
 ·exact⟨by decide, .inr ⟨1,by decide,rfl⟩⟩
 ·exact⟨by decide, .inr ⟨2,by decide,rfl⟩⟩
 ·exact⟨by decide, .inl (by decide)⟩
theorem Ev (l : List Int) : l= []∨ ∃r s,l=r++ [s]:=by
 rcases List.eq_nil_or_concat l with e| ⟨r,s,e⟩
 ·exact .inl e
 ·exact .inr ⟨r,s,by simpa using e⟩
theorem yD {m : Mem}{w n : Int}(p : jD m)(hw : bO 0 2 w=true){c : Nat}(hc : c<3)(hn : eT n= (c : Int)) :
  (∃l s,m.I.O[w.toNat * 3+c]? =some (l++ [s]) ∧dS m w n= ({m with I:= {m.I with O:=m.I.O.set (w.toNat * 3+c) l}},dz m.E s * 32+s,0)) ∨
  (m.I.O[w.toNat * 3+c]? =some []∧ ∃l s,m.I.G[c]? =some (l++ [s]) ∧dS m w n= ({m with I:= {m.I with G:=m.I.G.set c l}},dz m.E s * 32+s,0)) ∨
  (m.I.O[w.toNat * 3+c]? =some []∧m.I.G[c]? =some []∧ ((∃q : Nat,q<6∧m.E.Z.getD q (-1) = -1∧idxOf (fun y=>y == -1) m.E.Z= (q : Int) ∧dS m w n= (mH m q c,dz (fI m.E q c) ((q * 4 : Nat) : Int) * 32+ ((q * 4 : Nat) : Int),0)) ∨ (idxOf (fun y=>y == -1) m.E.Z= -1∧dS m w n= (m,0,3)))) :=by
 obtain⟨w0,w2⟩ :=bJ.1 hw
 have sh:=iA (lu.1 p.heap).1
 have hgo : dS m w n=qz m w.toNat c:=by rw [tY (mQ p) hw (by omega),hn,Int.toNat_natCast]
 have hr : m.I.O[w.toNat * 3+c]? =some (m.I.O[w.toNat * 3+c]'(by rw [p.ow];omega)) :=List.getElem?_eq_getElem _
 have hr2 : m.I.G[c]? =some (m.I.G[c]'(by rw [p.gl];omega)) :=List.getElem?_eq_getElem _
 generalize m.I.O[w.toNat * 3+c]'(by rw [p.ow];omega) =row at hr
 generalize m.I.G[c]'(by rw [p.gl];omega) =DF at hr2
 rcases Ev row with rfl| ⟨l,s,rfl⟩
 ·rcases Ev DF with rfl| ⟨l,s,rfl⟩
  ·refine .inr (.inr ⟨hr,hr2, ?_⟩)
   rcases FX m.E.Z (-1) with hi| ⟨q,hi⟩
   ·exact .inr ⟨hi,hgo.trans (w_ hr hr2 hi)⟩
   ·obtain⟨hq,e⟩ :=KQ hi
    exact .inl ⟨q,by rw [←sh.cl];exact hq,by rw [getD_at hq];exact e,hi,hgo.trans (qA hr hr2 hi)⟩
  ·exact .inr (.inl ⟨hr,l,s,hr2,hgo.trans (uV hr hr2)⟩)
 ·exact .inl ⟨l,s,hr,hgo.trans (vE hr)⟩
theorem Ew {m : Mem}{L : Lists}{s : Int}(hm : ∀t,t∈iT m.I↔t=s∨t∈iT L) : Keeps m {m with I:=L} s:=
 ⟨fun _ _ _=>rfl,fun _ _ _=>rfl,fun t hn _=> ⟨fun h=> (hm t).2 (.inr h),fun h=> ((hm t).1 h).resolve_left hn⟩,fun _ _ _ _ _=>rfl⟩
theorem B_ {m : Mem}{w n : Int}(h : (dS m w n).2.2=0) : dG m=true∧bO 0 2 w=true∧ ∃c : Nat,c<3∧eT n= (c : Int) :=by
 by_cases c1 : dG m=false∨bO 0 2 w=false
 ·rw [rO c1] at h;exact absurd h (by simp)
 ·have c1' : dG m=true∧bO 0 2 w=true:=by
   constructor
   ·cases e : dG m with
    |true=>rfl
    |false=>exact absurd (.inl e) c1
   ·cases e : bO 0 2 w with
    |true=>rfl
    |false=>exact absurd (.inr e) c1
  rcases(xu n).2 with hb|hb
  ·rw [wN c1'.1 c1'.2 hb] at h;exact absurd h (by simp)
  ·exact⟨c1'.1,c1'.2,hb⟩
theorem Ab {m : Mem}{w n : Int}(h : (dS m w n).2.2=0) : ∃s : Int,jD m∧jD (dS m w n).1∧ (dS m w n).2.1=dz (dS m w n).1.E s * 32+s∧bO 0 23 s=true∧bO 1 6 (dz (dS m w n).1.E s) =true∧aO (dS m w n).1.E s=eT n∧s∉iT (dS m w n).1.I∧
  (aO m.E s<0∨ (s∈iT m.I∧aO (dS m w n).1.E s=aO m.E s∧dz (dS m w n).1.E s=dz m.E s)) ∧Keeps m (dS m w n).1 s:=by
 obtain⟨ok,hw,c,hc,hn⟩ :=B_ h
 have p:=xK ok
 have hci : bO 0 2 (c : Int) =true:=bJ.2 ⟨by omega,by omega⟩
 obtain⟨w0,w2⟩ :=bJ.1 hw
 rcases yD p hw hc hn with ⟨l,s,hr,e⟩ | ⟨_,l,s,hr,e⟩ | ⟨_,hr, ⟨q,hq,hcl,hidx,e⟩ | ⟨_,e⟩⟩
 ·have hf:=p.fo _ _ s hr (List.mem_append.2 (.inr (List.mem_singleton_self s)))
  rw [show (w.toNat * 3+c) %3=c by omega] at hf
  obtain⟨f1,f2,f3⟩ :=rM p.heap hf hci
  obtain⟨p2,hm,hnm⟩ :=zX p hr
  rw [e,hn]
  exact⟨s,p,p2,rfl,f1,f3,f2,hnm, .inr ⟨(hm s).2 (.inl rfl),rfl,rfl⟩,Ew hm⟩
 ·have hf:=p.fg _ _ s hr (List.mem_append.2 (.inr (List.mem_singleton_self s)))
  obtain⟨f1,f2,f3⟩ :=rM p.heap hf hci
  obtain⟨p2,hm,hnm⟩ :=CU p hr
  rw [e,hn]
  exact⟨s,p,p2,rfl,f1,f3,f2,hnm, .inr ⟨(hm s).2 (.inl rfl),rfl,rfl⟩,Ew hm⟩
 ·have hs:= (lu.1 p.heap).1
  have hpp:=vF hci
  have Qp:= (qG (c : Int)).2
  have hg:=fun i hi=>yC (h:=m.E) (p:=q) (c:=c) (i:=i) hs hq hc hi
  have hg0:=hg 0 (by omega)
  rw [Nat.add_zero] at hg0
  have hk:=fun t kt=>GA (m:=m) (p:=q) (c:=c) (t:=t) p.heap hq hc hcl kt
  have hlist : ∀t∈iT m.I, ¬ aO m.E t<0:=fun t ht=>by
   obtain⟨d,hd,hf⟩ :=Bb p ht
   rw [(nU.1 hf).1]
   omega
  have p1 : jD {m with E:=fI m.E q c}:=zW p (Ih p.heap hq hc hcl) (fun t ht=> ⟨(hk t (hlist t ht)).1,fun hb=>by rw [(hk t (hlist t ht)).2.1];exact hb⟩)
  have KU : ∀t∈ (d_ q (cO (c : Int)).toNat).drop 1, ∃i< (cO (c : Int)).toNat,t= ((q * 4+i : Nat) : Int) :=fun t ht=>GD.1 (List.mem_of_mem_drop ht)
  have Ka:=EL q (cO (c : Int)).toNat
  rw [FY (p:=q) (k:= (cO (c : Int)).toNat) (by omega),List.nodup_cons] at Ka
  have hout : ∀i<4, ((q * 4+i : Nat) : Int) ∉iT m.I:=fun i hi hm=>hlist _ hm (zY hcl hi)
  have hnd : ((d_ q (cO (c : Int)).toNat).drop 1++iT m.I).Nodup:=by
   rw [List.nodup_append]
   refine⟨Ka.2,p.nd,fun a ha b hb e=> ?_⟩
   obtain⟨i,hi,rfl⟩ :=KU a ha
   exact hout i (by omega) (e ▸ hb)
  have p2:=wP p1 hr (r:= (d_ q (cO (c : Int)).toNat).drop 1) (fun t ht=>by obtain⟨i,hi,rfl⟩ :=KU t ht;exact bJ.2 ⟨by omega,by omega⟩) hnd (fun t ht=>by
   obtain⟨i,hi,rfl⟩ :=KU t ht
   obtain⟨g1,g2⟩ :=hg i hi
   exact nU.2 ⟨g1,by rw [g2];decide⟩)
  have hperm:=uE (x:=m.I) ((d_ q (cO (c : Int)).toNat).drop 1) hr
  have O7 : mH m q c= {E:=fI m.E q c,I:= {m.I with G:=m.I.G.set c ([]++ (d_ q (cO (c : Int)).toNat).drop 1)}}:=by
   unfold mH
   rw [List.getD_eq_getElem?_getD,hr]
   rfl
  rw [e,hn]
  simp only
  rw [O7]
  refine⟨((q * 4 : Nat) : Int),p,p2,rfl,bJ.2 ⟨by omega,by omega⟩,by rw [hg0.2];decide,hg0.1, ?_, .inl (by have:=zY (i:=0) hcl (by omega);rwa [Nat.add_zero] at this), ?_⟩
  ·intro hm
   rcases List.mem_append.1 (hperm.mem_iff.1 hm) with hm|hm
   ·exact Ka.1 hm
   ·have:=hout 0 (by omega)
    rw [Nat.add_zero] at this
    exact this hm
  ·refine⟨fun t _ kt=> (hk t kt).1,fun t _ kt=> (hk t kt).2.1,fun t _ kt=> ⟨fun hm=> ?_,fun hm=>hperm.mem_iff.2 (List.mem_append.2 (.inr hm))⟩,fun t _ kt=> (hk t kt).2.2.1⟩
   rcases List.mem_append.1 (hperm.mem_iff.1 hm) with hm|hm
   ·obtain⟨i,hi,e⟩ :=KU t hm
    exact absurd e ((hk t kt).2.2.2 i (by omega))
   ·exact hm
 ·rw [e] at h;exact absurd h (by simp)
theorem yE {m : Mem}{w n : Int}(h : (dS m w n).2.2≠0) : (dS m w n).1=m∧ (dS m w n).2.1=0:=by
 by_cases c1 : dG m=false∨bO 0 2 w=false
 ·rw [rO c1];exact⟨rfl,rfl⟩
 have c1' : dG m=true∧bO 0 2 w=true:=by
  constructor
  ·cases e : dG m with
   |true=>rfl
   |false=>exact absurd (.inl e) c1
  ·cases e : bO 0 2 w with
   |true=>rfl
   |false=>exact absurd (.inr e) c1
 rcases(xu n).2 with hb| ⟨c,hc,hn⟩
 ·rw [wN c1'.1 c1'.2 hb];exact⟨rfl,rfl⟩
 ·rcases yD (xK c1'.1) c1'.2 hc hn with ⟨l,s,hr,e⟩ | ⟨_,l,s,hr,e⟩ | ⟨_,hr, ⟨q,hq,hcl,hidx,e⟩ | ⟨_,e⟩⟩
  ·rw [e] at h;exact absurd rfl h
  ·rw [e] at h;exact absurd rfl h
  ·rw [e] at h;exact absurd rfl h
  ·rw [e];exact⟨rfl,rfl⟩
theorem Hf {m : Mem}{w h : Int}(k : (iw m w h).2=0) : dG m=true∧bO 0 2 w=true∧gM m h=true:=by
 by_cases c1 : dG m=false∨bO 0 2 w=false
 ·rw [wh c1] at k;exact absurd k (by simp)
 have c1' : dG m=true∧bO 0 2 w=true:=by
  constructor
  ·cases e : dG m with
   |true=>rfl
   |false=>exact absurd (.inl e) c1
  ·cases e : bO 0 2 w with
   |true=>rfl
   |false=>exact absurd (.inr e) c1
 cases e : gM m h with
 |true=>exact⟨c1'.1,c1'.2,rfl⟩
 |false=>rw [wm c1'.1 c1'.2 e] at k;exact absurd k (by simp)
theorem Ey {m : Mem}{w h : Int}(k : (iw m w h).2≠0) : (iw m w h).1=m:=by
 unfold iw at k⊢
 split
 ·rfl
 ·rename_i c1
  rw [if_neg c1] at k
  split
  ·rfl
  ·rename_i c2
   rw [if_neg c2] at k
   exact absurd rfl k
theorem Jv (g : Int)(h0 : 0≤g)(h1 : g≤7) : ∀ (b : List Int) (a : Nat),a+4≤b.length→iJ (putAt b a (fQ 4 g)) a 4=g:=fun b a hl=>
 vD 4 g _ _ (fun j hj=>vG (by rw [jq];exact hl) (by rw [jq];exact hj)) h0 (by have : (256 : Int) ^ 4=4294967296:= (by decide);omega)
theorem yF {m : Mem}{w h : Int}(k : (iw m w h).2=0) : jD m∧gM m h=true∧jD (iw m w h).1∧dz (iw m w h).1.E (h%32) =h / 32+1∧ (∀t,aO (iw m w h).1.E t=aO m.E t) ∧Keeps m (iw m w h).1 (h%32) ∧
  (∀t,t∈iT (iw m w h).1.I→t=h%32∨t∈iT m.I) ∧ (iw m w h).1.I= (if h / 32+1≤6 then nI m.I (w.toNat * 3+ (aO m.E (h%32)).toNat) (aO m.E (h%32)).toNat (h%32) else m.I) :=by
 obtain⟨ok,hw,hl⟩ :=Hf k
 have p:=xK ok
 obtain⟨hok,hcn,hnl,hge⟩ :=mU.1 hl
 obtain⟨w0,w2⟩ :=bJ.1 hw
 have O8:=kX hok
 obtain⟨P,I,hP,G9,es,hcl,hI,hct,Jw,_⟩ :=pE hcn
 have sh:=iA (lu.1 p.heap).1
 have hss:=uD hcl
 obtain⟨i1,i2⟩ :=qJ (P:=P) hcl hI
 have h4:=qB hcl
 rw [tX ok hw hl]
 generalize h%32=s at *
 have hgb:=FU p.heap hcn
 rw [hge] at hgb
 have hg0 : 0≤h / 32+1:=by omega
 have LY : h / 32+1≤7:=by omega
 have eH : l6 m.E s (dz m.E s+1) = {m.E with Y:=putAt m.E.Y (iK P I (aO m.E s)) (fQ 4 (h / 32+1))}:=by
  unfold l6
  rw [hge,Jw,Int.toNat_natCast]
 have hlen : iK P I (aO m.E s) +4≤m.E.Y.length:=by rw [sh.bl];omega
 have hload:=Jv (h / 32+1) hg0 LY m.E.Y (iK P I (aO m.E s)) hlen
 have Ml : jg {m.E with Y:=putAt m.E.Y (iK P I (aO m.E s)) (fQ 4 (h / 32+1))}=true:=
  heap_put p.heap hcn hP hI hct hcl (xE 4 _) (Nat.le_refl _) (by rw [jq];omega) (by rw [hload];exact bJ.2 ⟨by omega,by omega⟩)
 have hgs : dz {m.E with Y:=putAt m.E.Y (iK P I (aO m.E s)) (fQ 4 (h / 32+1))} s=h / 32+1:=
  (pF (h:= {m.E with Y:=putAt m.E.Y (iK P I (aO m.E s)) (fQ 4 (h / 32+1))}) (P:=P) (I:=I) hcn Jw).trans hload
 have hgo : ∀t,t≠s→dz {m.E with Y:=putAt m.E.Y (iK P I (aO m.E s)) (fQ 4 (h / 32+1))} t=dz m.E t:=fun t ht=>
  yR sh hcn ht es G9 hP hI hct hcl (Nat.le_refl _) (by rw [jq];omega)
 have p1 : jD {m with E:= {m.E with Y:=putAt m.E.Y (iK P I (aO m.E s)) (fQ 4 (h / 32+1))}}:=zW p Ml (fun t ht=> ⟨rfl,fun hb=>by rw [hgo t (fun e=>hnl (e ▸ ht))];exact hb⟩)
 have Kc : ∀t,t≠s→ ¬ aO m.E t<0→ ∀j< (gF (aO m.E t)).toNat, (putAt m.E.Y (iK P I (aO m.E s)) (fQ 4 (h / 32+1))).getD ((gH t (aO m.E t)).toNat+j) 0=m.E.Y.getD ((gH t (aO m.E t)).toNat+j) 0:=fun t ht kt j hj=>by
  obtain⟨Q,J,hQ,G8,et,yB,hJ,NQ,_,est⟩ :=pE kt
  have:=Er (a:=iK P I (aO m.E s)) (ds:=fQ 4 (h / 32+1)) sh hcn kt ht es G9 hP hI hct hcl (Nat.le_refl _) (by rw [jq];omega) Q J et G8 hJ NQ yB (4+j) (by rw [uD yB];omega)
  rw [est,Int.toNat_natCast,Nat.add_assoc]
  exact this
 unfold qm
 rw [eH,hge]
 by_cases h6 : h / 32+1≤6
 case neg=>
  rw [if_neg h6]
  exact⟨p,hl,p1,hgs,fun _=>rfl, ⟨fun _ _ _=>rfl,fun t ht _=>hgo t ht,fun _ _ _=>Iff.rfl,Kc⟩,fun t ht=> .inr ht,rfl⟩
 rw [if_pos h6]
 obtain⟨c,hc,ec⟩ : ∃c : Nat,c<3∧aO m.E s= (c : Int) := ⟨(aO m.E s).toNat,by have:=bJ.1 hcl;omega,by have:=bJ.1 hcl;omega⟩
 have hfit : ∀d : Int,d=aO m.E s→jv {m.E with Y:=putAt m.E.Y (iK P I (aO m.E s)) (fQ 4 (h / 32+1))} d s=true:=fun d e=>nU.2 ⟨e.symm,by rw [hgs];exact h6⟩
 have hr : m.I.O[w.toNat * 3+c]? =some (m.I.O[w.toNat * 3+c]'(by rw [p.ow];omega)) :=List.getElem?_eq_getElem _
 have hr2 : m.I.G[c]? =some (m.I.G[c]'(by rw [p.gl];omega)) :=List.getElem?_eq_getElem _
 generalize m.I.O[w.toNat * 3+c]'(by rw [p.ow];omega) =row at hr
 generalize m.I.G[c]'(by rw [p.gl];omega) =DF at hr2
 have Mq : bO 0 23 s=true:=O8.2.2.2.1
 rw [show (aO m.E s).toNat=c by omega]
 by_cases hlt : row.length<2
 ·have eg:=uJ (c:=c) (s:=s) hr hlt
  have p2:=FW p1 hr hlt Mq hnl (hfit _ (by rw [show (w.toNat * 3+c) %3=c by omega];exact ec.symm))
  have hp:=BP (x:=m.I) [s] hr
  rw [eg]
  refine⟨p,hl,p2,hgs,fun _=>rfl, ⟨fun _ _ _=>rfl,fun t ht _=>hgo t ht,fun t ht _=> ?_,Kc⟩,fun t ht=> ?_,rfl⟩
  ·have:=hp.mem_iff (a:=t)
   simp only [List.cons_append,List.nil_append,List.mem_cons] at this
   exact⟨fun hm=> (this.1 hm).resolve_left ht,fun hm=>this.2 (.inr hm)⟩
  ·have:=hp.mem_iff (a:=t)
   simp only [List.cons_append,List.nil_append,List.mem_cons] at this
   exact this.1 ht
 ·have eg:=yA (s:=s) hr hlt hr2
  have p2:=wP p1 hr2 (r:= [s]) (fun t ht=>by rw [List.mem_singleton.1 ht];exact Mq) (List.nodup_cons.2 ⟨hnl,p.nd⟩) (fun t ht=>by rw [List.mem_singleton.1 ht];exact hfit _ ec.symm)
  have hp:=uE (x:=m.I) [s] hr2
  rw [eg]
  refine⟨p,hl,p2,hgs,fun _=>rfl, ⟨fun _ _ _=>rfl,fun t ht _=>hgo t ht,fun t ht _=> ?_,Kc⟩,fun t ht=> ?_,rfl⟩
  ·have:=hp.mem_iff (a:=t)
   simp only [List.cons_append,List.nil_append,List.mem_cons] at this
   exact⟨fun hm=> (this.1 hm).resolve_left ht,fun hm=>this.2 (.inr hm)⟩
  ·have:=hp.mem_iff (a:=t)
   simp only [List.cons_append,List.nil_append,List.mem_cons] at this
   exact this.1 ht
theorem Ez {m : Mem}{h a k n : Int}(hc : (gL m h a k n).2=0) : jD m∧gM m h=true∧jD (gL m h a k n).1∧ko (gL m h a k n).1 h a k= (n,0) ∧ (gL (gL m h a k n).1 h (gF (aO m.E (h%32)) - k+1) k n).2=2∧ (gL m h a k n).1.I=m.I∧
  (gL m h a k n).1.E.Y.length=384∧1≤k∧k≤7∧0≤a∧0≤gH (h%32) (aO m.E (h%32)) ∧ (∀i : Nat, (i : Int) <gH (h%32) (aO m.E (h%32)) +a∨gH (h%32) (aO m.E (h%32)) +a+k≤i→ (gL m h a k n).1.E.Y.getD i 0=m.E.Y.getD i 0) :=by
 by_cases c : (gQ m h a k).2=0
 case neg=>rw [uI c] at hc;exact absurd hc c
 by_cases f : nk n k=true
 case neg=>rw [wL c ((Bool.not_eq_true _).mp f)] at hc;exact absurd hc (by simp)
 obtain⟨ok,k1,k7,hl,p0,p1,hin,ep⟩ :=wI c
 obtain⟨_,_,n0,n1⟩ :=wK f
 have p:=xK ok
 obtain⟨hok,hcn,hnl,hge⟩ :=mU.1 hl
 obtain⟨P,I,hP,G9,es,hcl,hI,hct,Jw,est⟩ :=pE hcn
 have sh:=iA (lu.1 p.heap).1
 have hss:=uD hcl
 have hsz:=mh (aO m.E (h%32))
 obtain⟨i1,i2⟩ :=qJ (P:=P) hcl hI
 obtain⟨a0,a1⟩ :=bJ.1 hin
 have kI : bO 1 7 k=true:=bJ.2 ⟨k1,k7⟩
 rw [wM c f]
 obtain⟨K,rfl⟩ :=Int.eq_ofNat_of_zero_le (show 0≤k by omega)
 obtain⟨A,rfl⟩ :=Int.eq_ofNat_of_zero_le a0
 have eq : (gQ m h (A : Int) (K : Int)).1= ((iK P I (aO m.E (h%32)) +4+A : Nat) : Int) :=by rw [ep,est];omega
 unfold Fq
 rw [eq,Int.toNat_natCast,Int.toNat_natCast]
 rw [Int.toNat_natCast] at n1
 rw [est]
 generalize hcls : aO m.E (h%32) =C at *
 have hdl : (fQ K n).length=K:=jq K n
 have hlen : iK P I C+4+A+ (fQ K n).length≤m.E.Y.length:=by rw [sh.bl,hdl];omega
 have KV : iJ (putAt m.E.Y (iK P I C+4+A) (fQ K n)) (iK P I C) 4=iJ m.E.Y (iK P I C) 4:=mo 4 (fun j hj=>kY hlen (.inl (by omega)))
 have Ik:=pF (h:=m.E) (s:=h%32) (P:=P) (I:=I) (by rw [hcls];exact hcn) (by rw [hcls];exact Jw)
 rw [hcls] at Ik
 have hgb:=FU p.heap (s:=h%32) (by rw [hcls];exact hcn)
 have Ml : jg {m.E with Y:=putAt m.E.Y (iK P I C+4+A) (fQ K n)}=true:=by
  subst hcls
  exact heap_put p.heap hcn hP hI hct hcl (xE K n) (by omega) (by rw [hdl];omega) (by rw [KV, ←Ik];exact bJ.2 hgb)
 have KW : ∀t,dz {m.E with Y:=putAt m.E.Y (iK P I C+4+A) (fQ K n)} t=dz m.E t:=fun t=>by
  by_cases e : t=h%32
  ·subst e
   have:=pF (h:= {m.E with Y:=putAt m.E.Y (iK P I C+4+A) (fQ K n)}) (s:=h%32) (P:=P) (I:=I) (by show ¬ aO m.E (h%32) <0;rw [hcls];exact hcn) (by show ig (h%32) (aO m.E (h%32)) = ((iK P I (aO m.E (h%32)) : Nat) : Int);rw [hcls];exact Jw)
   rw [Ik,this]
   show iJ _ (iK P I (aO m.E (h%32))) 4=_
   rw [hcls]
   exact KV
  ·subst hcls
   exact yR sh hcn e es G9 hP hI hct hcl (by omega) (by rw [hdl];omega)
 have p1 : jD {m with E:= {m.E with Y:=putAt m.E.Y (iK P I C+4+A) (fQ K n)}}:=zW p Ml (fun t _=> ⟨rfl,fun hb=>by rw [KW t];exact hb⟩)
 have hl1 : gM {m with E:= {m.E with Y:=putAt m.E.Y (iK P I C+4+A) (fQ K n)}} h=true:=mU.2 ⟨hok,by show ¬ aO m.E (h%32) <0;rw [hcls];exact hcn,hnl,by rw [KW];exact hge⟩
 have ok1:=mQ p1
 have yS : aO ({m with E:= {m.E with Y:=putAt m.E.Y (iK P I C+4+A) (fQ K n)}} : Mem).E (h%32) =C:=hcls
 refine⟨p,hl,p1, ?_, ?_,rfl, ?_,k1,k7,a0,by omega,fun i hi=> ?_⟩
 ·have e1:=tT ok1 kI hl1 (a:= (A : Int)) (by rw [yS];exact hin)
  rw [yS,est] at e1
  rw [tV e1]
  unfold iF
  rw [show (((iK P I C+4 : Nat) : Int) + (A : Int)).toNat=iK P I C+4+A by omega,Int.toNat_natCast]
  rw [vD K n _ _ (fun j hj=>vG hlen (by rw [hdl];exact hj)) n0 n1]
 ·have e1:=yh ok1 kI hl1 (a:=gF C - (K : Int) +1) (by
   rw [yS]
   cases e : bO 0 (gF C - (K : Int)) (gF C - (K : Int) +1) with
   |false=>rfl
   |true=>have:=bJ.1 e;omega)
  rw [uI (by rw [e1];decide),e1]
 ·show (putAt m.E.Y (iK P I C+4+A) (fQ K n)).length=384
  rw [nT hlen]
  exact sh.bl
 ·exact kY hlen (by rw [hdl];omega)
end Go.Proofs.YtkmggglljkmjoaaGreat
namespace Go.Proofs.YtkmggglljkmjoaaGreat
open Go.RowKit
theorem Ac {g s : Int}(hs : bO 0 23 s=true)(hg : bO 1 6 g=true) : eY (g * 32+s) =true∧ (g * 32+s) %32=s∧ (g * 32+s) / 32=g:=by
 obtain⟨a,b⟩ :=bJ.1 hs
 obtain⟨c,d⟩ :=bJ.1 hg
 refine⟨?_,by omega,by omega⟩
 unfold eY
 simp only [Bool.and_eq_true,decide_eq_true_eq]
 omega
theorem sO {m : Mem}{h : Int}(p : jD m) : oL m h=gM m h:=by
 unfold oL
 rw [mQ p]
 rfl
theorem CX {m : Mem}{w n : Int}(h : (dS m w n).2.2=0) : jD m∧jD (dS m w n).1∧eY (dS m w n).2.1=true∧gM (dS m w n).1 (dS m w n).2.1=true∧aO (dS m w n).1.E ((dS m w n).2.1%32) =eT n∧jw (dS m w n).1 ((dS m w n).2.1%32) =3∧jw m ((dS m w n).2.1%32) ≠3∧gM m (dS m w n).2.1=false∧Keeps m (dS m w n).1 ((dS m w n).2.1%32) ∧
  (¬ aO m.E ((dS m w n).2.1%32) <0→aO (dS m w n).1.E ((dS m w n).2.1%32) =aO m.E ((dS m w n).2.1%32) ∧dz (dS m w n).1.E ((dS m w n).2.1%32) =dz m.E ((dS m w n).2.1%32)) ∧dz (dS m w n).1.E ((dS m w n).2.1%32) = (dS m w n).2.1 / 32:=by
 obtain⟨s,p,p2,eh,hs,hg,hc,hnl,hor,hk⟩ :=Ab h
 obtain⟨_,_,c,hc3,hn⟩ :=B_ h
 obtain⟨h1,h2,h3⟩ :=Ac hs hg
 rw [←eh] at h1 h2 h3
 have hcn : ¬ aO (dS m w n).1.E s<0:=by rw [hc,hn];omega
 have hl : gM (dS m w n).1 (dS m w n).2.1=true:=mU.2 ⟨h1,by rw [h2];exact hcn,by rw [h2];exact hnl,by rw [h2,h3]⟩
 have hst : jw m s≠3:=fun e=>by
  obtain⟨a,b,_⟩ :=state3 e
  rcases hor with ho| ⟨ho,_⟩
  ·exact a ho
  ·exact(Ap.1 b) ho
 refine⟨p,p2,h1,hl,by rw [h2];exact hc, (kR hl).2.1,by rw [h2];exact hst, ?_,by rw [h2];exact hk,fun hn0=> ?_,by rw [h2,h3]⟩
 ·cases e : gM m (dS m w n).2.1 with
  |false=>rfl
  |true=>have:= (kR e).2.1;rw [h2] at this;exact absurd this hst
 ·rw [h2] at hn0⊢
  rcases hor with ho| ⟨_,a,b⟩
  ·exact absurd ho hn0
  ·exact⟨a,b⟩
structure NR (m : Mem)(all gone live : List Int) : Prop where
 ok : jD m
 nd : live.Nodup
 lv : ∀h∈live,gM m h=true
 gn : ∀h∈gone,eY h=true∧ ¬ aO m.E (h%32) <0∧h / 32<dz m.E (h%32)
 al : ∀h∈all,h∈live∨h∈gone
theorem NR.alloc {m : Mem}{all gone live : List Int}(k : NR m all gone live){w n : Int}(h : (dS m w n).2.2=0) : (dS m w n).2.1∉all∧eY (dS m w n).2.1=true∧NR (dS m w n).1 (all++ [(dS m w n).2.1]) gone (live++ [(dS m w n).2.1]) :=by
 obtain⟨p,p2,h1,hl,_,_,hst,hnl,hk,hsm,hge⟩ :=CX h
 generalize (dS m w n).2.1=y at *
 generalize (dS m w n).1=x at *
 have hlv : ∀q∈live,q%32≠y%32:=fun q hq e=>hst (by rw [←e];exact(kR (k.lv q hq)).2.1)
 have Jy : y∉live:=fun hm=>hlv y hm rfl
 have Mr : y∉gone:=fun hm=>by
  obtain⟨_,b,c⟩ :=k.gn y hm
  have:= (hsm b).2
  omega
 refine⟨fun hm=> (k.al y hm).elim Jy Mr,h1,p2,Ct.2 ⟨k.nd,Jy⟩,fun q hq=> ?_,fun q hq=> ?_,fun q hq=> ?_⟩
 ·rcases List.mem_append.1 hq with hq|hq
  ·exact hk.live (hlv q hq) (k.lv q hq)
  ·rw [List.mem_singleton.1 hq];exact hl
 ·obtain⟨a,b,c⟩ :=k.gn q hq
  by_cases e : q%32=y%32
  ·rw [e] at b c⊢
   obtain⟨e1,e2⟩ :=hsm b
   exact⟨a,by rw [e1];exact b,by rw [e2];exact c⟩
  ·exact⟨a,by rw [hk.kc _ e b];exact b,by rw [hk.kg _ e b];exact c⟩
 ·rcases List.mem_append.1 hq with hq|hq
  ·rcases k.al q hq with h|h
   ·exact .inl (List.mem_append.2 (.inl h))
   ·exact .inr h
  ·exact .inl (List.mem_append.2 (.inr hq))
theorem Il {m : Mem}{a b : Int}(ha : gM m a=true)(hb : gM m b=true)(e : a%32=b%32) : a=b:=by
 have h1:= (kR ha).2.2
 have h2:= (kR hb).2.2
 rw [e] at h1
 have h3 : a / 32=b / 32:=h1.symm.trans h2
 omega
theorem NR.free {m : Mem}{all gone live : List Int}(k : NR m all gone live){w : Int}(hw : bO 0 2 w=true){i : Nat}(hi : i<live.length) : (iw m w live[i]).2=0∧NR (iw m w live[i]).1 all (gone++ [live[i]]) (live.take i++live.drop (i+1)) :=by
 have hm:=List.getElem_mem hi
 have hl:=k.lv _ hm
 have h0 : (iw m w live[i]).2=0:=by rw [tX (mQ k.ok) hw hl]
 have hsp : live=live.take i++ (live[i]::live.drop (i+1)) :=by rw [←List.drop_eq_getElem_cons hi,List.take_append_drop]
 have hperm : live.Perm (live[i]:: (live.take i++live.drop (i+1))) :=by
  conv=>lhs;rw [hsp]
  exact List.perm_middle
 have hnd:=List.nodup_cons.1 (hperm.nodup_iff.1 k.nd)
 have hmem : ∀q,q∈live↔q=live[i]∨q∈live.take i++live.drop (i+1) :=fun q=>by rw [hperm.mem_iff,List.mem_cons]
 refine⟨h0, ?_⟩
 obtain⟨p,_,p2,hg,hc,hk,_,_⟩ :=yF h0
 generalize live.take i++live.drop (i+1) =rest at *
 generalize live[i]=y at *
 generalize (iw m w y).1=x at *
 have O9:= (mU.1 hl).2.1
 have hyg:= (kR hl).2.2
 refine⟨p2,hnd.2,fun q hq=> ?_,fun q hq=> ?_,fun q hq=> ?_⟩
 ·have Cv:=k.lv q ((hmem q).2 (.inr hq))
  exact hk.live (fun e=>hnd.1 (Il Cv hl e ▸ hq)) Cv
 ·rcases List.mem_append.1 hq with hq|hq
  ·obtain⟨a,b,c⟩ :=k.gn q hq
   refine⟨a,by rw [hc];exact b, ?_⟩
   by_cases e : q%32=y%32
   ·rw [e] at c⊢
    omega
   ·rw [hk.kg _ e b];exact c
  ·rw [List.mem_singleton.1 hq]
   exact⟨(mU.1 hl).1,by rw [hc];exact O9,by omega⟩
 ·rcases k.al q hq with h|h
  ·rcases(hmem q).1 h with rfl|h
   ·exact .inr (List.mem_append.2 (.inr (List.mem_singleton_self _)))
   ·exact .inl h
  ·exact .inr (List.mem_append.2 (.inl h))
theorem NR.stale {m : Mem}{all gone live : List Int}(k : NR m all gone live){h : Int}(hm : h∈gone) : gM m h=false∧oL m h=false∧ (iw m 0 h).2=4:=by
 obtain⟨a,b,c⟩ :=k.gn h hm
 have hl : gM m h=false:=by
  cases e : gM m h with
  |false=>rfl
  |true=>have:= (kR e).2.2;omega
 exact⟨hl,by rw [sO k.ok];exact hl,by rw [wm (mQ k.ok) (by decide) hl]⟩
theorem NR.valid {m : Mem}{all gone live : List Int}(k : NR m all gone live){h : Int}(hm : h∈live) : oL m h=true:=by
 rw [sO k.ok]
 exact k.lv h hm
theorem Ad : jD lN:=xK (by decide+kernel)
theorem NR.new : NR lN [] [] []:= ⟨Ad,List.nodup_nil,fun _ h=>absurd h (by simp),fun _ h=>absurd h (by simp),fun _ h=>absurd h (by simp)⟩
theorem Jz {w n : Int}(hw : bO 0 2 w=true)(h1 : 1≤n)(h2 : n≤40) : (dS lN w n).2.2=0:=by
 have hc : ∃c : Nat,c<3∧eT n= (c : Int) :=by
  rcases(xu n).2 with h|h
  ·exfalso
   unfold eT at h
   rw [if_neg (by omega)] at h
   split at h
   ·omega
   ·split at h
    ·omega
    ·omega
  ·exact h
 obtain⟨c,hc,hn⟩ :=hc
 rcases yD Ad hw hc hn with ⟨l,s,hr,e⟩ | ⟨_,l,s,hr,e⟩ | ⟨_,_, ⟨q,_,_,_,e⟩ | ⟨hi,_⟩⟩
 ·rw [e]
 ·rw [e]
 ·rw [e]
 ·exact absurd hi (by decide)
structure Im (m : Mem)(i : Nat)(row : List Int) : Prop where
 ok : jD m
 own : m.I.O[2]? =some row
 KX : m.I.G[2]? =some []
 gen : dz m.E 0= (i : Int)
 cls : aO m.E 0=2
 cl : m.E.Z= [2, -1, -1, -1, -1, -1]
theorem Ke {m : Mem}{i : Nat}(k : Im m i [])(h1 : 1≤i)(h6 : i≤6)(hnl : (0 : Int) ∉iT m.I) : (iw m 0 ((i * 32 : Nat) : Int)).2=0∧Im (iw m 0 ((i * 32 : Nat) : Int)).1 (i+1) (if i+1≤6 then [0] else []) :=by
 have e0 : ((i * 32 : Nat) : Int) %32=0:=by omega
 have e1 : ((i * 32 : Nat) : Int) / 32= (i : Int) :=by omega
 have hl : gM m ((i * 32 : Nat) : Int) =true:=mU.2 ⟨by unfold eY;simp only [Bool.and_eq_true,decide_eq_true_eq];omega,by rw [e0,k.cls];decide,by rw [e0];exact hnl,by rw [e0,e1];exact k.gen⟩
 have h0 : (iw m 0 ((i * 32 : Nat) : Int)).2=0:=by rw [tX (mQ k.ok) (by decide) hl]
 have hx : (iw m 0 ((i * 32 : Nat) : Int)).1.E.Z=m.E.Z:=by
  rw [tX (mQ k.ok) (by decide) hl]
  rfl
 obtain⟨_,_,p2,hg,hc,_,_,Kg⟩ :=yF h0
 rw [e0,e1] at hg
 rw [e0,e1,k.cls] at Kg
 refine⟨h0,p2, ?_, ?_,by rw [hg];omega,by rw [hc];exact k.cls,by rw [hx];exact k.cl⟩
 ·rw [Kg]
  by_cases h : i+1≤6
  ·rw [if_pos h,if_pos (by omega)]
   have hgv : nI m.I ((0 : Int).toNat * 3+ (2 : Int).toNat) (2 : Int).toNat 0= {m.I with O:=m.I.O.set 2 ([]++ [0])}:=uJ k.own (by decide)
   rw [hgv]
   exact sJ k.own _
  ·rw [if_neg h,if_neg (by omega)]
   exact k.own
 ·rw [Kg]
  split
  ·have hgv : nI m.I ((0 : Int).toNat * 3+ (2 : Int).toNat) (2 : Int).toNat 0= {m.I with O:=m.I.O.set 2 ([]++ [0])}:=uJ k.own (by decide)
   rw [hgv]
   exact k.KX
  ·exact k.KX
def uW (m : Mem)(i : Nat) : Prop:= (i=1∧m=lN) ∨ (2≤i∧i≤7∧Im m i (if i≤6 then [0] else []))
theorem EA {m : Mem}{i : Nat}(k : uW m i)(h6 : i≤6) : (dS m 0 40).2.1= ((i * 32 : Nat) : Int) ∧ (dS m 0 40).2.2=0∧Im (dS m 0 40).1 i []∧ (0 : Int) ∉iT (dS m 0 40).1.I:=by
 rcases k with ⟨rfl,rfl⟩ | ⟨h2,h7,k⟩
 ·have h0:=Jz (w:=0) (n:=40) (by decide) (by decide) (by decide)
  obtain⟨s,_,p2,eh,hs,hg,hc,hnl,hor,hk⟩ :=Ab h0
  have e : dS lN 0 40= (mH lN 0 2,dz (fI lN.E 0 2) 0 * 32+0,0) :=by
   rw [tY (mQ Ad) (by decide) (by decide)]
   exact qA (w:=0) (c:=2) (p:=0) rfl rfl (by decide)
  have hgs:=yC (h:=lN.E) (p:=0) (c:=2) (i:=0) (by decide+kernel) (by decide) (by decide) (by decide)
  have h00 : (((0 * 4+0 : Nat) : Int)) =0:=rfl
  rw [h00] at hgs
  have DT : dz (fI lN.E 0 2) 0=1:=hgs.2
  have hs0 : s=0:=by
   have a:=eh
   rw [e] at a
   simp only [DT] at a
   obtain⟨q1,q2⟩ :=bJ.1 hs
   omega
  subst hs0
  rw [e] at p2 hnl⊢
  exact⟨by simp only [DT];decide,rfl, ⟨p2,rfl,rfl,DT,hgs.1,rfl⟩,hnl⟩
 ·rw [if_pos h6] at k
  have e : dS m 0 40= ({m with I:= {m.I with O:=m.I.O.set 2 []}},dz m.E 0 * 32+0,0) :=by
   rw [tY (mQ k.ok) (by decide) (by decide)]
   exact vE (w:=0) (c:=2) (l:= []) k.own
  obtain⟨p2,_,hn⟩ :=zX (l:= []) k.ok k.own
  rw [e,k.gen]
  exact⟨by simp only;omega,rfl, ⟨p2,sJ k.own _,k.KX,k.gen,k.cls,k.cl⟩,hn⟩
theorem Kh {m : Mem}{i : Nat}(k : uW m i)(h1 : 1≤i)(h6 : i≤6) : (iw (dS m 0 40).1 0 ((i * 32 : Nat) : Int)).2=0∧uW (iw (dS m 0 40).1 0 ((i * 32 : Nat) : Int)).1 (i+1) :=by
 obtain⟨_,_,k2,hn⟩ :=EA k h6
 obtain⟨a,b⟩ :=Ke k2 h1 h6 hn
 exact⟨a, .inr ⟨by omega,by omega,b⟩⟩
theorem run_end {m : Mem}(k : uW m 7) : kM m 0=2∧ (dS m 0 40).2.2=0∧eY (dS m 0 40).2.1=true∧ (dS m 0 40).2.1%32=4:=by
 rcases k with ⟨h,_⟩ | ⟨_,_,k⟩
 ·exact absurd h (by decide)
 rw [if_neg (by decide)] at k
 have hidx : idxOf (fun y=>y == -1) m.E.Z= ((1 : Nat) : Int) :=by rw [k.cl];decide
 have e : dS m 0 40= (mH m 1 2,dz (fI m.E 1 2) ((1 * 4 : Nat) : Int) * 32+ ((1 * 4 : Nat) : Int),0) :=by
  rw [tY (mQ k.ok) (by decide) (by decide)]
  exact qA (w:=0) (c:=2) (p:=1) k.own k.KX hidx
 have hgs:=yC (h:=m.E) (p:=1) (c:=2) (i:=0) (lu.1 k.ok.heap).1 (by decide) (by decide) (by decide)
 have DT : dz (fI m.E 1 2) ((1 * 4 : Nat) : Int) =1:=hgs.2
 refine⟨?_,by rw [e], ?_, ?_⟩
 ·unfold kM
  rw [mQ k.ok,if_pos rfl]
  unfold jw
  rw [k.cls,k.gen,if_neg (by decide),if_neg,if_pos (by decide)]
  intro hm
  obtain⟨c,_,hf⟩ :=Bb k.ok (Lb.1 hm)
  have:= (nU.1 hf).2
  rw [k.gen] at this
  exact absurd this (by decide)
 ·rw [e]
  simp only [DT]
  decide
 ·rw [e]
  simp only [DT]
  decide
end Go.Proofs.YtkmggglljkmjoaaGreat
namespace Go.Proofs.YtkmggglljkmjoaaGreat
open Go.RowKit
set_option maxRecDepth 100000 in
set_option maxHeartbeats 8000000 in
theorem Io (w : World)(H : bP)(x : Mem)(c : Nat)(h : gJ w w.heap.size H x)(hs : dx x≤536870912)(hok : dG x=true)(hc : c<3)(hp : idxOf (fun y=>y == -1) x.E.Z= -1) :
  Calls Tryz.prog 99 #[.agg #[.slice H.E.Y.a H.E.Y.l H.E.Y.c, .slice H.E.Z.a H.E.Z.l H.E.Z.c, .slice H.I.G.a H.I.G.l H.I.G.c, .slice H.I.O.a H.I.O.l H.I.O.c], .int .i64 c] w fun e w'=> ∃H' : bP,e= .returned (.tuple #[.agg #[.slice H'.E.Y.a H'.E.Y.l H'.E.Y.c, .slice H'.E.Z.a H'.E.Z.l H'.E.Z.c, .slice H'.I.G.a H'.I.G.l H'.I.G.c, .slice H'.I.O.a H'.I.O.l H'.I.O.c], .int .i64 (-1)]) ∧d9 w' H' (x) ∧ (∀g∈H'.foot,w.heap.size≤g) ∧Below w.heap.size w w':=by
 have jT : iE x.E≤536870912∧bX x.I≤536870912:=by unfold dx at hs;omega
 have hgr:=fun (W : World) (hW : Below w.heap.size w W) =>JY W H.E x.E c (dW h.E hW) jT.1 (o_ hok) hc hp
 have hcl:=fun (W : World) (hW : Below w.heap.size w W) =>kL W H.I x.I (eZ h.I hW) jT.2
 obtain⟨w0,hW0⟩ : ∃x,x= ((w.alloc (.cells #[.slice H.E.Y.a H.E.Y.l H.E.Y.c, .slice H.E.Z.a H.E.Z.l H.E.Z.c, .slice H.I.G.a H.I.G.l H.I.G.c, .slice H.I.O.a H.I.O.l H.I.O.c] 31)).alloc (.cells #[.slice none 0 0, .slice none 0 0, .slice none 0 0, .slice none 0 0] 31)) := ⟨_,rfl⟩
 have au : aB w0 (w.heap.size) [.slice H.E.Y.a H.E.Y.l H.E.Y.c, .slice H.E.Z.a H.E.Z.l H.E.Z.c, .slice H.I.G.a H.I.G.l H.I.G.c, .slice H.I.O.a H.I.O.l H.I.O.c]:=by
  rw [hW0]
  exact aB.alloc aB.nw _
 have ah : aB w0 (w.heap.size+1) [.slice none 0 0, .slice none 0 0, .slice none 0 0, .slice none 0 0]:=by
  rw [hW0]
  exact aB.nw
 have hB : Below w.heap.size w w0:=by
  rw [hW0]
  exact dJ
 go_enter Tryz.func99,Tryz.ntmps99
 go_wp2_with fail
 rw [←hW0]
 clear hW0
 have g_:=au.lt
 have iB:=ah.lt
 obtain⟨aD,aF,aR,aS,aL,aQ⟩ :=au.f4
 obtain⟨aj,ak,aJ,aK,ay,aI⟩ :=ah.f4
 clear jT hs hok hp
 refine(hgr _ hB).mono ?_
 rintro e w1 ⟨fZ,Pb,Pf,rfl,iX,u_,hb⟩
 have vg:=iX.lt
 replace au:=au.below hb
 replace ah:=ah.below hb
 replace hB:=hB.trans (hb.mono hB.size)
 have sz:=hb.size
 clear hb
 clear aD aF aR aS aL aQ
 obtain⟨aD,aF,aR,aS,aL,aQ⟩ :=au.f4
 clear aj ak aJ aK ay aI
 obtain⟨aj,ak,aJ,aK,ay,aI⟩ :=ah.f4
 clear hgr
 go_upto_region 2 with (fail)
 generalize hO : Obj.cells #[.slice fZ.Y.a fZ.Y.l fZ.Y.c, .slice fZ.Z.a fZ.Z.l fZ.Z.c] 26=O_
 replace au:=au.alloc O_
 replace ah:=ah.alloc O_
 replace iX:=iX.aH O_
 replace hB:=hB.alloc hB.size O_
 have cB : aB (w1.alloc O_) w1.heap.size [.slice fZ.Y.a fZ.Y.l fZ.Y.c, .slice fZ.Z.a fZ.Z.l fZ.Z.c]:=hO ▸ aB.new _ _ _
 have oo:=cB.lt
 have sz : w1.heap.size≤ (w1.alloc O_).heap.size:=Nat.le_of_lt cB.lt
 generalize hG : (w1.alloc O_) =w2 at au ah iX hB cB oo sz⊢
 clear hG hO O_
 clear aD aF aR aS aL aQ
 obtain⟨aD,aF,aR,aS,aL,aQ⟩ :=au.f4
 clear aj ak aJ aK ay aI
 obtain⟨aj,ak,aJ,aK,ay,aI⟩ :=ah.f4
 obtain⟨dK,dL,eB,fP⟩ :=cB.f2
 go_upto_region 2 with (fail)
 go_cut [8] from 8 to 20 (fun v8 wx=> ∃ (go : Nat) (jM : aZ),v8= .pointer (some ⟨go,0,none⟩) ∧aB wx (w.heap.size) [.slice H.E.Y.a H.E.Y.l H.E.Y.c, .slice H.E.Z.a H.E.Z.l H.E.Z.c, .slice H.I.G.a H.I.G.l H.I.G.c, .slice H.I.O.a H.I.O.l H.I.O.c]∧aB wx (w.heap.size+1) [.slice none 0 0, .slice none 0 0, .slice none 0 0, .slice none 0 0]∧aB wx (w1.heap.size) [.slice fZ.Y.a fZ.Y.l fZ.Y.c, .slice fZ.Z.a fZ.Z.l fZ.Z.c]∧aB wx go [.slice fZ.Y.a fZ.Y.l fZ.Y.c, .slice fZ.Z.a fZ.Z.l fZ.Z.c, .slice jM.G.a jM.G.l jM.G.c, .slice jM.O.a jM.O.l jM.O.c]∧fA wx fZ x.E∧dZ wx jM x.I∧ (∀g∈jM.foot,w2.heap.size≤g∧g≠go) ∧w2.heap.size≤go∧Below w.heap.size w wx∧w2.heap.size≤wx.heap.size)
 case first=>
  go_region_with (first| (go_at_call 153; (first| ((with_reducible refine(hcl _ hB).mono ?_);rintro e wq ⟨jM,rfl,bQ,fJ,hb⟩;have iD:=bQ.lt;replace au:=au.below hb;replace ah:=ah.below hb;replace cB:=cB.below hb;replace iX:=iX.step0 hb;replace hB:=hB.trans (hb.mono hB.size);have sz:=hb.size; (try replace aN:=aN.below hb); (try replace aV:=aN.cell 0 _ rfl); (try replace aW:=aN.cell 1 _ rfl); (try replace bG:=aN.cell 2 _ rfl); (try replace bH:=aN.cell 3 _ rfl); (try replace bq:=aN.dn); (try replace bN:=aN.lt);clear hb;clear aD aF aR aS aL aQ;obtain⟨aD,aF,aR,aS,aL,aQ⟩ :=au.f4;clear aj ak aJ aK ay aI;obtain⟨aj,ak,aJ,aK,ay,aI⟩ :=ah.f4;clear dK dL eB fP;obtain⟨dK,dL,eB,fP⟩ :=cB.f2) | ((with_reducible refine(hcl _ hB.drew).mono ?_);rintro e wq ⟨jM,rfl,bQ,fJ,hb⟩;replace hb:=gq hb;replace fJ:=ji fJ;have iD:=bQ.lt;replace au:=au.below hb;replace ah:=ah.below hb;replace cB:=cB.below hb;replace iX:=iX.step0 hb;replace hB:=hB.trans (hb.mono hB.size);have sz:=hb.size; (try replace aN:=aN.below hb); (try replace aV:=aN.cell 0 _ rfl); (try replace aW:=aN.cell 1 _ rfl); (try replace bG:=aN.cell 2 _ rfl); (try replace bH:=aN.cell 3 _ rfl); (try replace bq:=aN.dn); (try replace bN:=aN.lt);clear hb;clear aD aF aR aS aL aQ;obtain⟨aD,aF,aR,aS,aL,aQ⟩ :=au.f4;clear aj ak aJ aK ay aI;obtain⟨aj,ak,aJ,aK,ay,aI⟩ :=ah.f4;clear dK dL eB fP;obtain⟨dK,dL,eB,fP⟩ :=cB.f2) | ((with_reducible refine(hcl _ (hB.alloc hB.size _)).mono ?_);rintro e wq ⟨jM,rfl,bQ,fJ,hb⟩;simp only [World.size_alloc] at fJ;have iD:=bQ.lt;replace au:= (au.alloc _).below hb;replace ah:= (ah.alloc _).below hb;replace cB:= (cB.alloc _).below hb;replace iX:=iX.step hb;replace hB:=eX hB hb hB.size;have sz:=hb.size;simp only [World.size_alloc] at sz;have aN:=aB.below (aB.new _ #[.slice none 0 0, .slice none 0 0, .slice none 0 0, .slice none 0 0] 31) hb;obtain⟨aV,aW,bG,bH,bq,bN⟩ :=aN.f4;clear hb;clear aD aF aR aS aL aQ;obtain⟨aD,aF,aR,aS,aL,aQ⟩ :=au.f4;clear aj ak aJ aK ay aI;obtain⟨aj,ak,aJ,aK,ay,aI⟩ :=ah.f4;clear dK dL eB fP;obtain⟨dK,dL,eB,fP⟩ :=cB.f2) | ((with_reducible refine(hcl _ (hB.alloc hB.size _).drew).mono ?_);rintro e wq ⟨jM,rfl,bQ,fJ,hb⟩;replace hb:=gq hb;replace fJ:=ji fJ;simp only [World.size_alloc] at fJ;have iD:=bQ.lt;replace au:= (au.alloc _).below hb;replace ah:= (ah.alloc _).below hb;replace cB:= (cB.alloc _).below hb;replace iX:=iX.step hb;replace hB:=eX hB hb hB.size;have sz:=hb.size;simp only [World.size_alloc] at sz;have aN:=aB.below (aB.new _ #[.slice none 0 0, .slice none 0 0, .slice none 0 0, .slice none 0 0] 31) hb;obtain⟨aV,aW,bG,bH,bq,bN⟩ :=aN.f4;clear hb;clear aD aF aR aS aL aQ;obtain⟨aD,aF,aR,aS,aL,aQ⟩ :=au.f4;clear aj ak aJ aK ay aI;obtain⟨aj,ak,aJ,aK,ay,aI⟩ :=ah.f4;clear dK dL eB fP;obtain⟨dK,dL,eB,fP⟩ :=cB.f2))))
  all_goals
   go_wp2_with fail
   go_meet
   first|exact⟨_,jM,rfl,au.alloc _,ah.alloc _,cB.alloc _,aB.new _ _ _,iX.aH _,bQ.aH _,fun g hg=> ⟨by have:=fJ g hg;omega,by have:=iD g hg;omega⟩,by omega,hB.alloc hB.size _,by simp<;>omega⟩ | (obtain⟨go,hgo,og⟩ :=aN.ad;rw [←hgo];exact⟨go,jM,rfl, ((((au.other (by omega) _).other (by omega) _).other (by omega) _).other (by omega) _), ((((ah.other (by omega) _).other (by omega) _).other (by omega) _).other (by omega) _), ((((cB.other (by omega) _).other (by omega) _).other (by omega) _).other (by omega) _), ((((og.set 0 _).set 1 _).set 2 _).set 3 _),iX.aM (F:= [go]) bW (fun g hg hm=>by simp only [List.mem_cons,List.not_mem_nil,or_false] at hm;have:=u_ g hg;have:=vg g hg;omega),bQ.aM (F:= [go]) bW (fun g hg hm=>by simp only [List.mem_cons,List.not_mem_nil,or_false] at hm;have:=fJ g hg;have:=iD g hg;omega),fun g hg=> ⟨by have:=fJ g hg;omega,by have:=fJ g hg;have:=iD g hg;omega⟩,by omega,Below.trans hB dQ,by simp<;>omega⟩)
 case rest=>
  clear au aL aQ aD aF aR aS
  clear ah ay aI aj ak aJ aK
  clear cB eB fP dK dL
  clear iX
  clear hB
  obtain⟨go,jM,rfl,au,ah,cB,aN,iX,bQ,wB,H_,hB,sz⟩ :=hcut
  have fJ:=fun g hg=> (wB g hg).1
  have rz:=fun g hg=> (wB g hg).2
  have iD:=bQ.lt
  clear wB
  have gy:=aN.lt
  obtain⟨aD,aF,aR,aS,aL,aQ⟩ :=au.f4
  obtain⟨aj,ak,aJ,aK,ay,aI⟩ :=ah.f4
  obtain⟨dK,dL,eB,fP⟩ :=cB.f2
  obtain⟨aV,aW,bG,bH,bq,bN⟩ :=aN.f4
  clear hcl
  go_wp2_with fail
  refine bodyPost_ret (v:= .tuple #[.agg #[.slice fZ.Y.a fZ.Y.l fZ.Y.c, .slice fZ.Z.a fZ.Z.l fZ.Z.c, .slice jM.G.a jM.G.l jM.G.c, .slice jM.O.a jM.O.l jM.O.c], .int .i64 (-1)]) (by simp [results,Tryz.results99,go_sem,aj,ak,aJ,aK]) rfl ⟨⟨fZ,jM⟩,rfl, ⟨iX.aM (F:= [w.heap.size+1]) bW (fun g hg hm=>by simp only [List.mem_cons,List.not_mem_nil,or_false] at hm;have:=u_ g hg;have:=vg g hg;omega),bQ.aM (F:= [w.heap.size+1]) bW (fun g hg hm=>by simp only [List.mem_cons,List.not_mem_nil,or_false] at hm;have:=fJ g hg;have:=iD g hg;omega),fun b hb hm=>by have:=vg b hb;have:=u_ b hb;have:=iD b hm;have:=fJ b hm;omega⟩,fun b hb=>by rcases bP.aX.1 hb with hb|hb; (have:=u_ b hb;omega); (have:=fJ b hb;omega),Below.trans hB dQ⟩
end Go.Proofs.YtkmggglljkmjoaaGreat
