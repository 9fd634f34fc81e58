/- m -/
import Derived.Test.YtkmggglljkmjoaaGreatUHRanges26
namespace Go.Proofs.YtkmggglljkmjoaaGreat
open Go.RowKit
theorem lQ {b ds : List Int}{a i : Nat}(h : a+ds.length≤b.length)(hi : i<a∨a+ds.length≤i) : (putAt b a ds).getD i 0=b.getD i 0:=by
 rw [XY,XY,vM h hi]
theorem wh {b ds : List Int}{a j : Nat}(h : a+ds.length≤b.length)(hj : j<ds.length) : (putAt b a ds).getD (a+j) 0=ds.getD j 0:=by
 rw [XY,XY,wP h hj]
theorem oP {b b' : List Int}{a : Nat} : ∀k, (∀j<k,b'.getD (a+j) 0=b.getD (a+j) 0) →iH b' a k=iH b a k
 |0,_=>rfl
 |k+1,h=>by
  unfold iH;rw [oP k (fun j hj=>h j (by omega)),h k (by omega)]
theorem xL {b : List Int}{lo n : Nat} : jK ((b.drop lo).take n) =true↔ ∀j<n,b.getD (lo+j) 0=0:=by
 unfold jK;rw [X5];constructor
 ·intro h j hj
  by_cases hl : lo+j<b.length
  ·have hm : b[lo+j]∈ (b.drop lo).take n:=List.mem_iff_getElem?.2 ⟨j,by rw [List.getElem?_take,if_pos hj,List.getElem?_drop,XL hl]⟩
   have:=h _ hm;rw [getD_at hl];simpa using this
  ·exact CZ (by omega)
 ·intro h x hx
  obtain⟨j,hj⟩ :=List.mem_iff_getElem?.1 hx;rw [List.getElem?_take] at hj;split at hj
  ·rename_i hjn
   rw [List.getElem?_drop] at hj;have:=h j hjn;rw [XY,hj] at this;simpa using this
  ·cases hj
def iM (P I : Nat)(c : Int) : Nat:=P * 64+8+I * (d_ c).toNat
theorem uU {c : Int}(hc : bG 0 2 c=true) : (d_ c).toNat=4+ (iA c).toNat:=by
 rcases cls hc with rfl|rfl|rfl<;>decide
theorem rG {P I : Nat}{c : Int}(hc : bG 0 2 c=true)(hI : I< (bS c).toNat) : P * 64+8≤iM P I c∧iM P I c+ (d_ c).toNat≤P * 64+64:=by
 unfold iM;rcases cls hc with rfl|rfl|rfl<;>simp [bS,d_] at * <;>omega
theorem Dp {P I J : Nat}{c : Int}(hc : bG 0 2 c=true)(h : I≠J) : iM P I c+ (d_ c).toNat≤iM P J c∨iM P J c+ (d_ c).toNat≤iM P I c:=by
 unfold iM;rcases cls hc with rfl|rfl|rfl<;>simp [d_] at * <;>omega
theorem rH {h : Heap}{s : Int}(k : ¬ aG h s<0) : ∃P I : Nat,P<6∧I<4∧s= ((P * 4+I : Nat) : Int) ∧bG 0 2 (aG h s) =true∧I< (bS (aG h s)).toNat∧h.Z.getD P (-1) =aG h s∧gP s (aG h s) = ((iM P I (aG h s) : Nat) : Int) ∧iN s (aG h s) = ((iM P I (aG h s) +4 : Nat) : Int) :=by
 rcases lT h s with ⟨e,_⟩ | ⟨e,k1,k2,k3,k4⟩
 ·exact absurd k (by rw [e];decide)
 ·have hg:=Am.1 (show 0≤gP s (mY h s) by omega)
  rw [←e] at hg k1 k2 k4;obtain⟨s0,s1⟩ :=bH.1 k3;have hpp:= (qj (aG h s)).2;have hst:= (uQ (aG h s)).1;have hga : gP s (aG h s) = ((iM (s / 4).toNat (s%4).toNat (aG h s) : Nat) : Int) :=by
   rw [qO k3 k4 hg.2.2];unfold iM;simp only [Int.natCast_add,Int.natCast_mul,Int.toNat_of_nonneg (show 0≤s / 4 by omega),Int.toNat_of_nonneg (show 0≤s%4 by omega),Int.toNat_of_nonneg hst];rfl
  refine⟨(s / 4).toNat, (s%4).toNat,by omega,by omega,by omega,k4,by omega, ?_,hga, ?_⟩
  ·rw [e];rfl
  ·unfold iN
   rw [if_neg (by omega),hga];omega
theorem qp {h : Heap}{P I : Nat}{s : Int}(k : ¬ aG h s<0)(e : gP s (aG h s) = ((iM P I (aG h s) : Nat) : Int)) : dK h s=iH h.Y (iM P I (aG h s)) 4:=by
 unfold dK;rw [if_neg k,e];rfl
theorem Gb {h h' : Heap}{p : Nat}(hc : h'.Z.getD p (-1) =h.Z.getD p (-1))(ok : iV h p=true)(hn : h.Z.getD p (-1) <0→ ∀j<64,h'.Y.getD (p * 64+j) 0=h.Y.getD (p * 64+j) 0)
  (hh : 0≤h.Z.getD p (-1) → ∀j<8,h'.Y.getD (p * 64+j) 0=h.Y.getD (p * 64+j) 0)
  (hg : 0≤h.Z.getD p (-1) → ∀i< (bS (h.Z.getD p (-1))).toNat,bG 1 7 (iH h.Y (iM p i (h.Z.getD p (-1))) 4) =true→bG 1 7 (iH h'.Y (iM p i (h.Z.getD p (-1))) 4) =true) : iV h' p=true:=by
 unfold iV at ok⊢;rw [hc];by_cases k : h.Z.getD p (-1) <0
 ·rw [if_pos k] at ok⊢
  rw [xL] at ok⊢;exact fun j hj=>by rw [hn k j hj];exact ok j hj
 ·rw [if_neg k] at ok⊢
  have k0 : 0≤h.Z.getD p (-1) :=by omega
  have h0:=hh k0 0 (by omega);have h1:=hh k0 1 (by omega);have h2:=hh k0 2 (by omega);rw [Nat.add_zero] at h0;simp only [X4] at ok⊢;obtain⟨⟨⟨⟨a,b⟩,c⟩,d⟩,e⟩ :=ok;rw [h0,h1,h2];refine⟨⟨⟨⟨a,b⟩,c⟩, ?_⟩, ?_⟩
  ·rw [xL] at d⊢
   intro j hj;have:=hh k0 (3+j) (by omega);have dj:=d j hj;rw [Nat.add_assoc] at dj⊢;rw [this];exact dj
  ·unfold iE at e⊢
   rw [X5] at e⊢;intro i hi;exact hg k0 i (List.mem_range.1 hi) (e i hi)
theorem jd {h : Heap} : jD h=true↔fJ h=true∧ ∀p<6,iV h p=true:=by
 unfold jD;simp [List.all_eq_true]
theorem Nq {h : Heap}{a : Nat}{ds : List Int}(hs : fJ h=true)(hd : ds.all (bG 0 255) =true)(hl : a+ds.length≤384) : fJ {h with Y:=putAt h.Y a ds}=true:=by
 unfold fJ lq at hs⊢;simp only [X4,beq_iff_eq,decide_eq_true_eq] at hs⊢;obtain⟨⟨⟨h1,h2⟩,h3,h4⟩,h5⟩ :=hs;have e : (putAt h.Y a ds).length=h.Y.length:=u_ (by omega);rw [e];exact⟨⟨⟨h1,h2⟩,h3,Aq h4 hd⟩,h5⟩
theorem heap_put {h : Heap}{s : Int}{P I a : Nat}{ds : List Int}(ok : jD h=true)(k : ¬ aG h s<0)(hP : P<6)(hI : I< (bS (aG h s)).toNat)(hc : h.Z.getD P (-1) =aG h s)(hcl : bG 0 2 (aG h s) =true)
  (hd : ds.all (bG 0 255) =true) (h1 : iM P I (aG h s) ≤a) (h2 : a+ds.length≤iM P I (aG h s) + (d_ (aG h s)).toNat)
  (hg : bG 1 7 (iH (putAt h.Y a ds) (iM P I (aG h s)) 4) =true) : jD {h with Y:=putAt h.Y a ds}=true:=by
 obtain⟨hs,hp⟩ :=jd.1 ok;have sh:=jr hs;obtain⟨i1,i2⟩ :=rG (P:=P) hcl hI;have hl : a+ds.length≤h.Y.length:=by rw [sh.bl];omega
 refine jd.2 ⟨Nq hs hd (by omega),fun p IV=> ?_⟩;have c0:= (bH.1 hcl).1;refine Gb (h:=h) rfl (hp p IV) ?_ ?_ ?_
 ·intro hneg j hj
  have : p≠P:=fun e=>by rw [e,hc] at hneg;omega
  exact lQ hl (by omega)
 ·intro _ j hj
  exact lQ hl (by omega)
 ·intro hpos i hi hold
  by_cases e : p=P
  ·subst e
   rw [hc] at hold hi⊢;by_cases ei : i=I
   ·rw [ei];exact hg
   ·have hsp:=Dp (P:=p) hcl ei
    have h4:=qW hcl;rw [oP 4 (fun j hj=>lQ hl (by omega))];exact hold
  ·have hcl' : bG 0 2 (h.Z.getD p (-1)) =true:=bH.2 ⟨hpos, (sh.cs p).2⟩
   obtain⟨j1,j2⟩ :=rG (P:=p) hcl' hi;have h4:=qW hcl';rw [oP 4 (fun j hj=>lQ hl (by omega))];exact hold
theorem Nr {h : Heap}{s : Int}(ok : jD h=true)(k : ¬ aG h s<0) : 1≤dK h s∧dK h s≤7:=by
 obtain⟨P,I,hP,_,_,hcl,hI,hc,e,_⟩ :=rH k;rw [qp k e];obtain⟨_,hp⟩ :=jd.1 ok;have:=hp P hP;unfold iV at this;rw [hc,if_neg k] at this;simp only [X4] at this;have g:=this.2;unfold iE at g;exact bH.1 (X5.1 g I (List.mem_range.2 hI))
theorem L9 {h : Heap}{s t : Int}{P I Q J : Nat}(hcl : bG 0 2 (aG h s) =true)(hcl' : bG 0 2 (aG h t) =true)(hI : I< (bS (aG h s)).toNat)(hJ : J< (bS (aG h t)).toNat)(hc : h.Z.getD P (-1) =aG h s)(hc' : h.Z.getD Q (-1) =aG h t)(hn : ¬ (P=Q∧I=J)) :
  iM P I (aG h s) + (d_ (aG h s)).toNat≤iM Q J (aG h t) ∨iM Q J (aG h t) + (d_ (aG h t)).toNat≤iM P I (aG h s) :=by
 by_cases e : P=Q
 ·subst e
  have ec : aG h s=aG h t:=by rw [←hc, ←hc']
  rw [ec];exact Dp hcl' (fun ei=>hn ⟨rfl,ei⟩)
 ·obtain⟨i1,i2⟩ :=rG (P:=P) hcl hI
  obtain⟨j1,j2⟩ :=rG (P:=Q) hcl' hJ;omega
theorem Gc {h : Heap}{s t : Int}{a : Nat}{ds : List Int}{P I : Nat}(sh : Shape h)(_k : ¬ aG h s<0)(_kt : ¬ aG h t<0)(hst : t≠s)(es : s= ((P * 4+I : Nat) : Int))(_hI4 : I<4)(hP : P<6)(hI : I< (bS (aG h s)).toNat)(hc : h.Z.getD P (-1) =aG h s)(hcl : bG 0 2 (aG h s) =true)
  (h1 : iM P I (aG h s) ≤a) (h2 : a+ds.length≤iM P I (aG h s) + (d_ (aG h s)).toNat) :
  ∀Q J : Nat,t= ((Q * 4+J : Nat) : Int) →J<4→J< (bS (aG h t)).toNat→h.Z.getD Q (-1) =aG h t→bG 0 2 (aG h t) =true→ ∀j< (d_ (aG h t)).toNat, (putAt h.Y a ds).getD (iM Q J (aG h t) +j) 0=h.Y.getD (iM Q J (aG h t) +j) 0:=by
 intro Q J et Lf hJ hc' hcl' j hj;obtain⟨i1,i2⟩ :=rG (P:=P) hcl hI;have hl : a+ds.length≤h.Y.length:=by rw [sh.bl];omega
 have hn : ¬ (P=Q∧I=J) :=fun ⟨e1,e2⟩ =>hst (by rw [et,es,e1,e2]);have:=L9 hcl hcl' hI hJ hc hc' hn;exact lQ hl (by omega)
theorem zQ {h : Heap}{s t : Int}{a : Nat}{ds : List Int}{P I : Nat}(sh : Shape h)(k : ¬ aG h s<0)(hst : t≠s)(es : s= ((P * 4+I : Nat) : Int))(Lg : I<4)(hP : P<6)(hI : I< (bS (aG h s)).toNat)(hc : h.Z.getD P (-1) =aG h s)(hcl : bG 0 2 (aG h s) =true)
  (h1 : iM P I (aG h s) ≤a) (h2 : a+ds.length≤iM P I (aG h s) + (d_ (aG h s)).toNat) : dK {h with Y:=putAt h.Y a ds} t=dK h t:=by
 by_cases kt : aG h t<0
 ·have Uv : aG {h with Y:=putAt h.Y a ds} t<0:=kt
  unfold dK;rw [if_pos kt,if_pos Uv]
 ·obtain⟨Q,J,hQ,Lf,et,zh,hJ,hct,e,_⟩ :=rH kt
  have ho:=Gc sh k kt hst es Lg hP hI hc hcl h1 h2 Q J et Lf hJ hct zh;have h4:=qW zh;rw [qp (h:= {h with Y:=putAt h.Y a ds}) (P:=Q) (I:=J) kt e,qp kt e];exact oP 4 (fun j hj=>ho j (by omega))
structure jB (m : Mem) : Prop where
 heap : jD m.E=true
 gl : m.I.G.length=3
 ow : m.I.O.length=9
 short : ∀l∈m.I.O,l.length≤2
 rng : ∀s∈iR m.I,bG 0 23 s=true
 nd : (iR m.I).Nodup
 fg : ∀ (c : Nat) (l : List Int) (s : Int),m.I.G[c]? =some l→s∈l→jw m.E (c : Int) s=true
 fo : ∀ (k : Nat) (l : List Int) (s : Int),m.I.O[k]? =some l→s∈l→jw m.E ((k%3 : Nat) : Int) s=true
theorem wN {m : Mem}(k : d9 m=true) : jB m:=by
 have hl:=nT k;unfold gF kX at hl;simp only [X4,beq_iff_eq,decide_eq_true_eq] at hl;obtain⟨⟨⟨h1,h2⟩,h3⟩,h4,h5⟩ :=hl;refine⟨yY k,h1,h2,fun l hl=> ?_,fun s hs=>X5.1 h4 s hs,h5,fun c l s hr hs=> ?_,fun q l s hr hs=> ?_⟩
 ·have:=X5.1 h3 l hl
  simpa [nS] using this
 ·exact Ct k (by have:= (XW.1 hr).1;omega) hr hs
 ·exact IL k (by have:= (XW.1 hr).1;omega) hr hs
theorem yF {m : Mem}(p : jB m) : d9 m=true:=by
 unfold d9 gF kX;simp only [X4,beq_iff_eq,decide_eq_true_eq];refine⟨⟨⟨p.heap, ⟨⟨p.gl,p.ow⟩, ?_⟩, ?_,p.nd⟩, ?_⟩, ?_⟩
 ·exact X5.2 fun l hl=>by simpa [nS] using p.short l hl
 ·exact X5.2 p.rng
 ·refine X5.2 fun c hc=>X5.2 fun s hs=> ?_
  have hc3:=List.mem_range.1 hc;have hr : m.I.G[c]? =some (m.I.G[c]'(by rw [p.gl];exact hc3)) :=XL _;rw [XY,hr] at hs;exact p.fg c _ s hr hs
 ·refine X5.2 fun k hk=>X5.2 fun s hs=> ?_
  have AJ:=List.mem_range.1 hk;have hr : m.I.O[k]? =some (m.I.O[k]'(by rw [p.ow];exact AJ)) :=XL _;rw [XY,hr] at hs;exact p.fo k _ s hr hs
theorem Fu {x : Lists}{s : Int} : mP x s=false↔s∉iR x:=by
 rw [Cn,yU,decide_eq_false_iff_not]
theorem yh {m : Mem}(p : jB m){s : Int}(h : s∈iR m.I) : ∃c : Nat,c<3∧jw m.E (c : Int) s=true:=by
 unfold iR at h;rcases XT.1 h with h|h
 ·obtain⟨l,hl,hs⟩ :=List.mem_flatten.1 h
  obtain⟨c,hc⟩ :=List.mem_iff_getElem?.1 hl;have:= (XW.1 hc).1;exact⟨c,by rw [p.gl] at this;exact this,p.fg c l s hc hs⟩
 ·obtain⟨l,hl,hs⟩ :=List.mem_flatten.1 h
  obtain⟨k,hk⟩ :=List.mem_iff_getElem?.1 hl;exact⟨k%3,by omega,p.fo k l s hk hs⟩
theorem ou {h : Heap}{c s : Int} : jw h c s=true↔aG h s=c∧dK h s≤6:=by
 unfold jw;simp only [X4,beq_iff_eq,decide_eq_true_eq]
theorem xM {m : Mem}{h' : Heap}(p : jB m)(ok : jD h'=true)(hf : ∀s∈iR m.I,aG h' s=aG m.E s∧ (dK m.E s≤6→dK h' s≤6)) : jB {m with E:=h'}:=by
 refine⟨ok,p.gl,p.ow,p.short,p.rng,p.nd,fun c l s hr hs=> ?_,fun k l s hr hs=> ?_⟩
 ·have hm : s∈iR m.I:=XT.2 (.inl (List.mem_flatten.2 ⟨l,XV hr,hs⟩))
  obtain⟨e1,e2⟩ :=hf s hm;have:=ou.1 (p.fg c l s hr hs);exact ou.2 ⟨e1.trans this.1,e2 this.2⟩
 ·have hm : s∈iR m.I:=XT.2 (.inr (List.mem_flatten.2 ⟨l,XV hr,hs⟩))
  obtain⟨e1,e2⟩ :=hf s hm;have:=ou.1 (p.fo k l s hr hs);exact ou.2 ⟨e1.trans this.1,e2 this.2⟩
theorem Fv {α : Type}{ll : List (List α)}{k : Nat}{l : List α}(r : List α)(hl : ll[k]? =some l) : (ll.set k (l++r)).flatten.Perm (r++ll.flatten) :=by
 induction ll generalizing k with
 |nil=>simp at hl
 |cons x xs ih=>
  cases k with
  |zero=>
   simp only [List.getElem?_cons_zero,Option.some.injEq] at hl;subst hl;simp only [List.set_cons_zero,List.flatten_cons];rw [←List.append_assoc];exact List.perm_append_comm.append_right _
  |succ k=>
   simp only [List.getElem?_cons_succ] at hl;simp only [List.set_cons_succ,List.flatten_cons];refine((ih hl).append_left x).trans ?_;rw [←List.append_assoc, ←List.append_assoc];exact List.perm_append_comm.append_right _
theorem Dq {x : Lists}{k : Nat}{l : List Int}(r : List Int)(hl : x.O[k]? =some l) : (iR {x with O:=x.O.set k (l++r)}).Perm (r++iR x) :=by
 unfold iR;simp only;refine((Fv r hl).append_left _).trans ?_;rw [←List.append_assoc, ←List.append_assoc];exact List.perm_append_comm.append_right _
theorem r_ {x : Lists}{k : Nat}{l : List Int}(r : List Int)(hl : x.G[k]? =some l) : (iR {x with G:=x.G.set k (l++r)}).Perm (r++iR x) :=by
 unfold iR;simp only;refine((Fv r hl).append_right _).trans ?_;rw [List.append_assoc]
theorem IW {α : Type}{ll : List α}{k : Nat}{a : α}(h : ll[k]? =some a)(b : α) : (ll.set k b).set k a=ll:=by
 rw [List.set_set];apply List.ext_getElem?;intro j;by_cases e : k=j
 ·subst e
  rw [X9 (XW.1 h).1,h]
 ·rw [List.getElem?_set_ne e]
theorem A8 {α : Type}{ll : List α}{k : Nat}{a : α}(h : ll[k]? =some a)(b : α) : (ll.set k b)[k]? =some b:=X9 (XW.1 h).1
theorem BZ {α : Type}{ll : List α}{k j : Nat}{b : α}{l : α}(h : (ll.set k b)[j]? =some l) : (j=k∧l=b) ∨ll[j]? =some l:=by
 by_cases e : k=j
 ·subst e
  have hk : k<ll.length:=by have:= (XW.1 h).1;simpa using this
  rw [X9 hk] at h;exact .inl ⟨rfl,by cases h;rfl⟩
 ·rw [List.getElem?_set_ne e] at h
  exact .inr h
theorem IX {m : Mem}(p : jB m){k : Nat}{l : List Int}{s : Int}(hl : m.I.O[k]? =some l)(h2 : l.length<2)(hs : bG 0 23 s=true)(hn : s∉iR m.I)(hf : jw m.E ((k%3 : Nat) : Int) s=true) : jB {m with I:= {m.I with O:=m.I.O.set k (l++ [s])}}:=by
 have hp:=Dq [s] hl;refine⟨p.heap,p.gl,by rw [X8];exact p.ow,fun q hq=> ?_,fun t ht=> ?_, ?_,p.fg,fun j q t hr ht=> ?_⟩
 ·rcases List.mem_or_eq_of_mem_set hq with hq|rfl
  ·exact p.short q hq
  ·simp;omega
 ·rcases XT.1 (hp.mem_iff.1 ht) with ht|ht
  ·rw [List.mem_singleton.1 ht];exact hs
  ·exact p.rng t ht
 ·exact hp.nodup_iff.2 (List.nodup_cons.2 ⟨hn,p.nd⟩)
 ·rcases BZ hr with ⟨rfl,rfl⟩ |hr
  ·rcases XT.1 ht with ht|ht
   ·exact p.fo j l t hl ht
   ·rw [List.mem_singleton.1 ht];exact hf
  ·exact p.fo j q t hr ht
theorem tZ {m : Mem}(p : jB m){k : Nat}{l r : List Int}(hl : m.I.G[k]? =some l)(hs : ∀s∈r,bG 0 23 s=true)(hn : (r++iR m.I).Nodup)(hf : ∀s∈r,jw m.E (k : Int) s=true) : jB {m with I:= {m.I with G:=m.I.G.set k (l++r)}}:=by
 have hp:=r_ r hl;refine⟨p.heap,by rw [X8];exact p.gl,p.ow,p.short,fun t ht=> ?_,hp.nodup_iff.2 hn,fun j q t hr ht=> ?_,p.fo⟩
 ·rcases XT.1 (hp.mem_iff.1 ht) with ht|ht
  ·exact hs t ht
  ·exact p.rng t ht
 ·rcases BZ hr with ⟨rfl,rfl⟩ |hr
  ·rcases XT.1 ht with ht|ht
   ·exact p.fg j l t hl ht
   ·exact hf t ht
  ·exact p.fg j q t hr ht
theorem wZ {m : Mem}(p : jB m){k : Nat}{l : List Int}{s : Int}(hl : m.I.O[k]? =some (l++ [s])) : jB {m with I:= {m.I with O:=m.I.O.set k l}}∧ (∀t,t∈iR m.I↔t=s∨t∈iR {m.I with O:=m.I.O.set k l}) ∧s∉iR {m.I with O:=m.I.O.set k l}:=by
 have hp:=Dq (x:= {m.I with O:=m.I.O.set k l}) [s] (A8 hl l);simp only [IW hl] at hp;have hnd:=List.nodup_cons.1 (hp.nodup_iff.1 p.nd);have hm : ∀t,t∈iR m.I↔t=s∨t∈iR {m.I with O:=m.I.O.set k l}:=fun t=>by
  have:=hp.mem_iff (a:=t);simp only [List.cons_append,List.nil_append,Pe] at this;exact this
 refine⟨⟨p.heap,p.gl,by rw [X8];exact p.ow,fun q hq=> ?_,fun t ht=>p.rng t ((hm t).2 (.inr ht)),hnd.2,p.fg,fun j q t hr ht=> ?_⟩,hm,hnd.1⟩
 ·rcases List.mem_or_eq_of_mem_set hq with hq|rfl
  ·exact p.short q hq
  ·have:=p.short _ (XV hl)
   simp at this;omega
 ·rcases BZ hr with ⟨rfl,rfl⟩ |hr
  ·exact p.fo j _ t hl (XT.2 (.inl ht))
  ·exact p.fo j q t hr ht
theorem qK {m : Mem}(p : jB m){k : Nat}{l : List Int}{s : Int}(hl : m.I.G[k]? =some (l++ [s])) : jB {m with I:= {m.I with G:=m.I.G.set k l}}∧ (∀t,t∈iR m.I↔t=s∨t∈iR {m.I with G:=m.I.G.set k l}) ∧s∉iR {m.I with G:=m.I.G.set k l}:=by
 have hp:=r_ (x:= {m.I with G:=m.I.G.set k l}) [s] (A8 hl l);simp only [IW hl] at hp;have hnd:=List.nodup_cons.1 (hp.nodup_iff.1 p.nd);have hm : ∀t,t∈iR m.I↔t=s∨t∈iR {m.I with G:=m.I.G.set k l}:=fun t=>by
  have:=hp.mem_iff (a:=t);simp only [List.cons_append,List.nil_append,Pe] at this;exact this
 refine⟨⟨p.heap,by rw [X8];exact p.gl,p.ow,p.short,fun t ht=>p.rng t ((hm t).2 (.inr ht)),hnd.2,fun j q t hr ht=> ?_,p.fo⟩,hm,hnd.1⟩;rcases BZ hr with ⟨rfl,rfl⟩ |hr
 ·exact p.fg j _ t hl (XT.2 (.inl ht))
 ·exact p.fg j q t hr ht
theorem IY {L : List Int}(h : L.Nodup)(hr : ∀s∈L,bG 0 23 s=true) : L.length≤24:=by
 have : L.length≤ ((List.range 24).map fun n : Nat=> (n : Int)).length:=by
  refine h.length_le_of_subset fun s hs=> ?_;obtain⟨a,b⟩ :=bH.1 (hr s hs);exact List.mem_map.2 ⟨s.toNat,List.mem_range.2 (by omega),by omega⟩
 simpa using this
theorem nH {m : Mem}(p : jB m) : eF m≤450:=by
 have sh:=jr (jd.1 p.heap).1;have hn:=IY p.nd p.rng;unfold iR at hn;rw [XU,List.length_flatten,List.length_flatten] at hn;unfold eF kE bX fO;rw [sh.bl,sh.cl,p.gl,p.ow];omega
theorem lY {m : Mem}{h : Int} : gM m h=true↔dO h=true∧ ¬ aG m.E (h%32) <0∧ (h%32) ∉iR m.I∧dK m.E (h%32) =h / 32:=by
 constructor
 ·intro k
  obtain⟨a,b,c⟩ :=nR k;obtain⟨b1,b2,_⟩ :=state3 b;exact⟨a,b1,Fu.1 b2,c⟩
 ·rintro⟨a,b,c,d⟩
  have hb:=oM a;unfold gM iI;rw [if_neg b,Fu.2 c,d,a];simp;omega
structure Keeps (m x : Mem)(s : Int) : Prop where
 kc : ∀t,t≠s→ ¬ aG m.E t<0→aG x.E t=aG m.E t
 kg : ∀t,t≠s→ ¬ aG m.E t<0→dK x.E t=dK m.E t
 kl : ∀t,t≠s→ ¬ aG m.E t<0→ (t∈iR x.I↔t∈iR m.I)
 kb : ∀t,t≠s→ ¬ aG m.E t<0→ ∀j< (iA (aG m.E t)).toNat,x.E.Y.getD ((iN t (aG m.E t)).toNat+j) 0=m.E.Y.getD ((iN t (aG m.E t)).toNat+j) 0
theorem Keeps.live {m x : Mem}{s h : Int}(k : Keeps m x s)(hn : h%32≠s)(hl : gM m h=true) : gM x h=true:=by
 obtain⟨a,b,c,d⟩ :=lY.1 hl;exact lY.2 ⟨a,by rw [k.kc _ hn b];exact b,fun hm=>c ((k.kl _ hn b).1 hm),by rw [k.kg _ hn b];exact d⟩
theorem L_ {l : List Int}{x : Int}{p : Nat}(h : idxOf (fun y=>y == x) l= (p : Int)) : ∃hp : p<l.length,l[p]=x:=by
 unfold idxOf at h;cases hx : l.findIdx? (fun y=>y == x) with
 |none=>rw [hx] at h;simp at h
 |some i=>
  rw [hx] at h;simp at h;obtain rfl : i=p:=by omega
  obtain⟨h1,h2,_⟩ :=List.findIdx?_eq_some_iff_getElem.1 hx;exact⟨h1,by simpa using h2⟩
theorem Dr (l : List Int)(x : Int) : idxOf (fun y=>y == x) l= -1∨ ∃p : Nat,idxOf (fun y=>y == x) l= (p : Int) :=by
 unfold idxOf;cases l.findIdx? (fun y=>y == x) with
 |none=>exact .inl rfl
 |some i=>exact .inr ⟨i,rfl⟩
theorem Dt {b : List Int}{p : Nat}{c : Int}(hb : b.length=384)(hp : p<6)(hc : bG 0 2 c=true)(a : Nat)(ha : a<p * 64∨p * 64+64≤a) : ∀k,k≤ (bS c).toNat→ (kU b p c k).getD a 0=b.getD a 0
 |0,_=>by
  unfold kU;exact lQ (by simp;omega) (by simp;omega)
 |k+1,hk=>by
  have h1:=qd hc (i:=k) (by omega);unfold kU;rw [lQ (by rw [qm hb hp hc k (by omega),jO];omega) (by rw [jO];omega)];exact Dt hb hp hc a ha k (by omega)
theorem Gd {b : List Int}{p : Nat}{c : Int}(hb : b.length=384)(hp : p<6)(hc : bG 0 2 c=true)(j : Nat)(hj : j<8) : ∀k,k≤ (bS c).toNat→ (kU b p c k).getD (p * 64+j) 0= (putAt b (p * 64) [171,c,bS c]).getD (p * 64+j) 0
 |0,_=>rfl
 |k+1,hk=>by
  have h1:=qd hc (i:=k) (by omega);rw [show kU b p c (k+1) =putAt (kU b p c k) (p * 64+8+k * (d_ c).toNat) (iZ 4 1) from rfl,lQ (by rw [qm hb hp hc k (by omega),jO];omega) (.inl (by omega))];exact Gd hb hp hc j hj k (by omega)
theorem Du {b : List Int}{p : Nat}{c : Int}(hb : b.length=384)(hp : p<6)(hc : bG 0 2 c=true) : ∀k,k≤ (bS c).toNat→ ∀i<k,iH (kU b p c k) (iM p i c) 4=1
 |0,_,i,hi=>absurd hi (by omega)
 |k+1,hk,i,hi=>by
  have h1:=qd hc (i:=k) (by omega);have hlen:=qm hb hp hc k (by omega);have hl : p * 64+8+k * (d_ c).toNat+ (iZ 4 1).length≤ (kU b p c k).length:=by rw [hlen,jO];omega
  by_cases e : i=k
  ·subst e
   refine vW 4 1 _ _ (fun j hj=> ?_) (by decide) (by decide);exact wh hl (by rw [jO];exact hj)
  ·have hsep:=Dp (P:=p) (I:=i) (J:=k) hc e
   have h4:=qW hc;have hk2 : iM p k c=p * 64+8+k * (d_ c).toNat:=rfl;rw [show kU b p c (k+1) =putAt (kU b p c k) (p * 64+8+k * (d_ c).toNat) (iZ 4 1) from rfl,oP 4 (fun j hj=>lQ hl (by rw [jO];omega))];exact Du hb hp hc k (by omega) i (by omega)
theorem getD_set_ne {α : Type}{l : List α}{i j : Nat}{v d : α}(h : i≠j) : (l.set i v).getD j d=l.getD j d:=by
 rw [XY,XY,List.getElem?_set_ne h]
theorem Cv {α : Type}{l : List α}{i : Nat}{v d : α}(h : i<l.length) : (l.set i v).getD i d=v:=by
 rw [XY,X9 h];rfl
theorem Kq {h : Heap}{p c : Nat}(hs : fJ h=true)(hp : p<6)(hc : c<3) : fJ (fU h p c) =true:= (yg hs hp hc).1
theorem Ee {h : Heap}{p c : Nat}(ok : jD h=true)(hp : p<6)(hc : c<3)(hcl : h.Z.getD p (-1) = -1) : jD (fU h p c) =true:=by
 obtain⟨hs,hpg⟩ :=jd.1 ok;have sh:=jr hs;have hci : bG 0 2 (c : Int) =true:=bH.2 ⟨by omega,by omega⟩;have hpl : p<h.Z.length:=by rw [sh.cl];exact hp
 refine jd.2 ⟨Kq hs hp hc,fun q hq=> ?_⟩;by_cases e : p=q
 ·subst e
  have hz:=hpg p hp;unfold iV at hz;rw [hcl,if_pos (by decide),xL] at hz;have zR : (fU h p c).Z.getD p (-1) = (c : Int) :=by
   unfold fU;exact Cv hpl
  unfold iV;rw [zR,if_neg (by omega)];have hh:=fun j hj=>Gd (b:=h.Y) sh.bl hp hci j hj (bS (c : Int)).toNat (XQ _);have hin:=fun j (hj : j<3) =>wh (b:=h.Y) (a:=p * 64) (ds:= [171, (c : Int),bS (c : Int)]) (j:=j) (by rw [sh.bl];simp;omega) (by simpa using hj);have hb : ∀j, (fU h p c).Y.getD j 0= (kU h.Y p c (bS (c : Int)).toNat).getD j 0:=fun _=>rfl;have g0:= (hh 0 (by omega)).trans (hin 0 (by omega));have g1:= (hh 1 (by omega)).trans (hin 1 (by omega));have g2:= (hh 2 (by omega)).trans (hin 2 (by omega));rw [Nat.add_zero] at g0;simp only [X4];refine⟨⟨⟨⟨?_, ?_⟩, ?_⟩, ?_⟩, ?_⟩
  ·rw [hb,g0];rfl
  ·rw [hb,g1];simp
  ·rw [hb,g2];simp
  ·rw [xL]
   intro j hj;rw [hb,Nat.add_assoc,hh (3+j) (by omega),lQ (by rw [sh.bl];simp;omega) (by simp<;>omega)];exact hz (3+j) (by omega)
  ·unfold iE
   refine X5.2 fun i hi=> ?_;have:=Du (b:=h.Y) sh.bl hp hci (bS (c : Int)).toNat (XQ _) i (List.mem_range.1 hi);show bG 1 7 (iH (kU h.Y p c (bS (c : Int)).toNat) (iM p i c) 4) =true;rw [this];decide
 ·have zR : (fU h p c).Z.getD q (-1) =h.Z.getD q (-1) :=by
   unfold fU;exact getD_set_ne e
  have ho : ∀a, (a<p * 64∨p * 64+64≤a) → (fU h p c).Y.getD a 0=h.Y.getD a 0:=fun a ha=>Dt sh.bl hp hci a ha _ (XQ _);refine Gb zR (hpg q hq) (fun _ j hj=>ho _ (by omega)) (fun _ j hj=>ho _ (by omega)) (fun hpos i hi hold=> ?_);have hcl' : bG 0 2 (h.Z.getD q (-1)) =true:=bH.2 ⟨hpos, (sh.cs q).2⟩;obtain⟨j1,j2⟩ :=rG (P:=q) hcl' hi;have h4:=qW hcl';rw [oP 4 (fun j hj=>ho _ (by omega))];exact hold
theorem Dv {P I : Nat}(hI : I<4) : (((P * 4+I : Nat) : Int) / 4).toNat=P:=by omega
theorem Ef {h : Heap}{p c i : Nat}(hs : fJ h=true)(hp : p<6)(hc : c<3)(hi : i< (bS (c : Int)).toNat) : aG (fU h p c) ((p * 4+i : Nat) : Int) =c∧dK (fU h p c) ((p * 4+i : Nat) : Int) =1:=by
 have sh:=jr hs;have hci : bG 0 2 (c : Int) =true:=bH.2 ⟨by omega,by omega⟩;have hpp:=qj (c : Int);have hca : mY (fU h p c) ((p * 4+i : Nat) : Int) =c:=by
  unfold mY;rw [Dv (by omega)];unfold fU;exact Cv (by rw [sh.cl];exact hp)
 have hga : gP ((p * 4+i : Nat) : Int) (c : Int) = ((iM p i c : Nat) : Int) :=by
  have hst:= (uQ (c : Int)).1;rw [qO (bH.2 ⟨by omega,by omega⟩) hci (by omega),show ((p * 4+i : Nat) : Int) / 4= (p : Int) by omega,show ((p * 4+i : Nat) : Int) %4= (i : Int) by omega];unfold iM;simp only [Int.natCast_add,Int.natCast_mul,Int.toNat_of_nonneg hst];rfl
 have hcl : aG (fU h p c) ((p * 4+i : Nat) : Int) =c:=by
  unfold aG;rw [hca,if_neg (by rw [hga];omega)]
 refine⟨hcl, ?_⟩;rw [qp (P:=p) (I:=i) (by rw [hcl];omega) (by rw [hcl];exact hga),hcl];exact Du sh.bl hp hci _ (XQ _) i hi
theorem vB {h : Heap}{p i : Nat}(hcl : h.Z.getD p (-1) = -1)(hi : i<4) : aG h ((p * 4+i : Nat) : Int) <0:=by
 unfold aG mY;rw [Dv hi,hcl];split<;>decide
theorem Cw {m : Mem}{p c : Nat}(ok : jD m.E=true)(hp : p<6)(hc : c<3)(hcl : m.E.Z.getD p (-1) = -1){t : Int}(kt : ¬ aG m.E t<0) : aG (fU m.E p c) t=aG m.E t∧dK (fU m.E p c) t=dK m.E t∧ (∀j< (iA (aG m.E t)).toNat, (fU m.E p c).Y.getD ((iN t (aG m.E t)).toNat+j) 0=m.E.Y.getD ((iN t (aG m.E t)).toNat+j) 0) ∧ ∀i<4,t≠ ((p * 4+i : Nat) : Int) :=by
 have sh:=jr (jd.1 ok).1;have hci : bG 0 2 (c : Int) =true:=bH.2 ⟨by omega,by omega⟩;obtain⟨Q,J,hQ,Lf,et,zh,hJ,hct,e,est⟩ :=rH kt;have hne : p≠Q:=fun e=>by subst e;rw [hcl] at hct;have:= (bH.1 zh).1;omega
 have ho : ∀a, (a<p * 64∨p * 64+64≤a) → (fU m.E p c).Y.getD a 0=m.E.Y.getD a 0:=fun a ha=>Dt sh.bl hp hci a ha _ (XQ _);obtain⟨j1,j2⟩ :=rG (P:=Q) zh hJ;have hss:=uU zh;have zR : aG (fU m.E p c) t=aG m.E t:=by
  unfold aG mY;rw [et,Dv Lf,show (fU m.E p c).Z.getD Q (-1) =m.E.Z.getD Q (-1) from getD_set_ne hne]
 refine⟨zR, ?_,fun j hj=> ?_,fun i hi e=>kt (by rw [e];exact vB hcl hi)⟩
 ·rw [qp (P:=Q) (I:=J) (by rw [zR];exact kt) (by rw [zR];exact e),qp kt e,zR]
  exact oP 4 (fun j hj=>ho _ (by omega))
 ·rw [est,X6]
  exact ho _ (by omega)
theorem Cx {p k : Nat}{t : Int} : t∈eT p k↔ ∃i<k,t= ((p * 4+i : Nat) : Int) :=by
 unfold eT;rw [List.mem_map];constructor
 ·rintro⟨i,hi,rfl⟩
  exact⟨i,List.mem_range.1 hi,rfl⟩
 ·rintro⟨i,hi,rfl⟩
  exact⟨i,List.mem_range.2 hi,rfl⟩
theorem zS (p k : Nat) : (eT p k).Nodup:=by
 unfold eT;rw [List.nodup_iff_pairwise_ne,List.pairwise_map];exact(List.nodup_iff_pairwise_ne.1 List.nodup_range).imp fun h e=>h (by omega)
theorem A_ {p k : Nat}(hk : 0<k) : eT p k= ((p * 4 : Nat) : Int) :: (eT p k).drop 1:=by
 obtain⟨q,rfl⟩ : ∃q,k=q+1:= ⟨k - 1,by omega⟩;unfold eT;rw [List.range_succ_eq_map];simp
theorem Cy (n : Int) : fG n<3∧ (fG n<0∨ ∃c : Nat,c<3∧fG n= (c : Int)) :=by
 unfold fG
 repeat' split
 ·exact⟨by decide, .inl (by decide)⟩
 ·exact⟨by decide, .inr ⟨0,by decide,rfl⟩⟩
 ·exact⟨by decide, .inr ⟨1,by decide,rfl⟩⟩
 ·exact⟨by decide, .inr ⟨2,by decide,rfl⟩⟩
 ·exact⟨by decide, .inl (by decide)⟩
theorem Gf (l : List Int) : l= []∨ ∃r s,l=r++ [s]:=by
 rcases List.eq_nil_or_concat l with e| ⟨r,s,e⟩
 ·exact .inl e
 ·exact .inr ⟨r,s,by simpa using e⟩
theorem Eh {m : Mem}{w n : Int}(p : jB m)(hw : bG 0 2 w=true){c : Nat}(hc : c<3)(hn : fG n= (c : Int)) :
  (∃l s,m.I.O[w.toNat * 3+c]? =some (l++ [s]) ∧fH m w n= ({m with I:= {m.I with O:=m.I.O.set (w.toNat * 3+c) l}},dK m.E s * 32+s,0)) ∨
  (m.I.O[w.toNat * 3+c]? =some []∧ ∃l s,m.I.G[c]? =some (l++ [s]) ∧fH m w n= ({m with I:= {m.I with G:=m.I.G.set c l}},dK m.E s * 32+s,0)) ∨
  (m.I.O[w.toNat * 3+c]? =some []∧m.I.G[c]? =some []∧ ((∃q : Nat,q<6∧m.E.Z.getD q (-1) = -1∧idxOf (fun y=>y == -1) m.E.Z= (q : Int) ∧fH m w n= (lI m q c,dK (fU m.E q c) ((q * 4 : Nat) : Int) * 32+ ((q * 4 : Nat) : Int),0)) ∨ (idxOf (fun y=>y == -1) m.E.Z= -1∧fH m w n= (m,0,3)))) :=by
 obtain⟨w0,w2⟩ :=bH.1 hw;have sh:=jr (jd.1 p.heap).1;have hgo : fH m w n=qV m w.toNat c:=by rw [IQ (yF p) hw (by omega),hn,X6]
 have hr : m.I.O[w.toNat * 3+c]? =some (m.I.O[w.toNat * 3+c]'(by rw [p.ow];omega)) :=XL _;have hr2 : m.I.G[c]? =some (m.I.G[c]'(by rw [p.gl];omega)) :=XL _;generalize m.I.O[w.toNat * 3+c]'(by rw [p.ow];omega) =row at hr;generalize m.I.G[c]'(by rw [p.gl];omega) =Fj at hr2;rcases Gf row with rfl| ⟨l,s,rfl⟩
 ·rcases Gf Fj with rfl| ⟨l,s,rfl⟩
  ·refine .inr (.inr ⟨hr,hr2, ?_⟩)
   rcases Dr m.E.Z (-1) with hi| ⟨q,hi⟩
   ·exact .inr ⟨hi,hgo.trans (Cu hr hr2 hi)⟩
   ·obtain⟨hq,e⟩ :=L_ hi
    exact .inl ⟨q,by rw [←sh.cl];exact hq,by rw [getD_at hq];exact e,hi,hgo.trans (AZ hr hr2 hi)⟩
  ·exact .inr (.inl ⟨hr,l,s,hr2,hgo.trans (zP hr hr2)⟩)
 ·exact .inl ⟨l,s,hr,hgo.trans (Ec hr)⟩
theorem xO {m : Mem}{L : Lists}{s : Int}(hm : ∀t,t∈iR m.I↔t=s∨t∈iR L) : Keeps m {m with I:=L} s:=
 ⟨fun _ _ _=>rfl,fun _ _ _=>rfl,fun t hn _=> ⟨fun h=> (hm t).2 (.inr h),fun h=> ((hm t).1 h).resolve_left hn⟩,fun _ _ _ _ _=>rfl⟩
theorem IZ {m : Mem}{w n : Int}(h : (fH m w n).2.2=0) : d9 m=true∧bG 0 2 w=true∧ ∃c : Nat,c<3∧fG n= (c : Int) :=by
 by_cases c1 : d9 m=false∨bG 0 2 w=false
 ·rw [xK c1] at h;exact absurd h (by simp)
 ·have c1' : d9 m=true∧bG 0 2 w=true:=by
   constructor
   ·cases e : d9 m with
    |true=>rfl
    |false=>exact absurd (.inl e) c1
   ·cases e : bG 0 2 w with
    |true=>rfl
    |false=>exact absurd (.inr e) c1
  rcases(Cy n).2 with hb|hb
  ·rw [AY c1'.1 c1'.2 hb] at h;exact absurd h (by simp)
  ·exact⟨c1'.1,c1'.2,hb⟩
theorem Gg {m : Mem}{w n : Int}(h : (fH m w n).2.2=0) : ∃s : Int,jB m∧jB (fH m w n).1∧ (fH m w n).2.1=dK (fH m w n).1.E s * 32+s∧bG 0 23 s=true∧bG 1 6 (dK (fH m w n).1.E s) =true∧aG (fH m w n).1.E s=fG n∧s∉iR (fH m w n).1.I∧
  (aG m.E s<0∨ (s∈iR m.I∧aG (fH m w n).1.E s=aG m.E s∧dK (fH m w n).1.E s=dK m.E s)) ∧Keeps m (fH m w n).1 s:=by
 obtain⟨ok,hw,c,hc,hn⟩ :=IZ h;have p:=wN ok;have hci : bG 0 2 (c : Int) =true:=bH.2 ⟨by omega,by omega⟩;obtain⟨w0,w2⟩ :=bH.1 hw;rcases Eh p hw hc hn with ⟨l,s,hr,e⟩ | ⟨_,l,s,hr,e⟩ | ⟨_,hr, ⟨q,hq,hcl,hidx,e⟩ | ⟨_,e⟩⟩
 ·have hf:=p.fo _ _ s hr (XT.2 (.inr (List.mem_singleton_self s)))
  rw [show (w.toNat * 3+c) %3=c by omega] at hf;obtain⟨f1,f2,f3⟩ :=vw p.heap hf hci;obtain⟨p2,hm,hnm⟩ :=wZ p hr;rw [e,hn];exact⟨s,p,p2,rfl,f1,f3,f2,hnm, .inr ⟨(hm s).2 (.inl rfl),rfl,rfl⟩,xO hm⟩
 ·have hf:=p.fg _ _ s hr (XT.2 (.inr (List.mem_singleton_self s)))
  obtain⟨f1,f2,f3⟩ :=vw p.heap hf hci;obtain⟨p2,hm,hnm⟩ :=qK p hr;rw [e,hn];exact⟨s,p,p2,rfl,f1,f3,f2,hnm, .inr ⟨(hm s).2 (.inl rfl),rfl,rfl⟩,xO hm⟩
 ·have hs:= (jd.1 p.heap).1
  have hpp:=vZ hci;have TF:= (qj (c : Int)).2;have hg:=fun i hi=>Ef (h:=m.E) (p:=q) (c:=c) (i:=i) hs hq hc hi;have hg0:=hg 0 (by omega);rw [Nat.add_zero] at hg0;have hk:=fun t kt=>Cw (m:=m) (p:=q) (c:=c) (t:=t) p.heap hq hc hcl kt;have hlist : ∀t∈iR m.I, ¬ aG m.E t<0:=fun t ht=>by
   obtain⟨d,hd,hf⟩ :=yh p ht;rw [(ou.1 hf).1];omega
  have p1 : jB {m with E:=fU m.E q c}:=xM p (Ee p.heap hq hc hcl) (fun t ht=> ⟨(hk t (hlist t ht)).1,fun hb=>by rw [(hk t (hlist t ht)).2.1];exact hb⟩);have Ei : ∀t∈ (eT q (bS (c : Int)).toNat).drop 1, ∃i< (bS (c : Int)).toNat,t= ((q * 4+i : Nat) : Int) :=fun t ht=>Cx.1 (List.mem_of_mem_drop ht);have Fw:=zS q (bS (c : Int)).toNat;rw [A_ (p:=q) (k:= (bS (c : Int)).toNat) (by omega),List.nodup_cons] at Fw;have hout : ∀i<4, ((q * 4+i : Nat) : Int) ∉iR m.I:=fun i hi hm=>hlist _ hm (vB hcl hi);have hnd : ((eT q (bS (c : Int)).toNat).drop 1++iR m.I).Nodup:=by
   rw [List.nodup_append];refine⟨Fw.2,p.nd,fun a ha b hb e=> ?_⟩;obtain⟨i,hi,rfl⟩ :=Ei a ha;exact hout i (by omega) (e ▸ hb)
  have p2:=tZ p1 hr (r:= (eT q (bS (c : Int)).toNat).drop 1) (fun t ht=>by obtain⟨i,hi,rfl⟩ :=Ei t ht;exact bH.2 ⟨by omega,by omega⟩) hnd (fun t ht=>by
   obtain⟨i,hi,rfl⟩ :=Ei t ht;obtain⟨g1,g2⟩ :=hg i hi;exact ou.2 ⟨g1,by rw [g2];decide⟩)
  have hperm:=r_ (x:=m.I) ((eT q (bS (c : Int)).toNat).drop 1) hr;have QH : lI m q c= {E:=fU m.E q c,I:= {m.I with G:=m.I.G.set c ([]++ (eT q (bS (c : Int)).toNat).drop 1)}}:=by
   unfold lI;rw [XY,hr];rfl
  rw [e,hn];simp only;rw [QH];refine⟨((q * 4 : Nat) : Int),p,p2,rfl,bH.2 ⟨by omega,by omega⟩,by rw [hg0.2];decide,hg0.1, ?_, .inl (by have:=vB (i:=0) hcl (by omega);rwa [Nat.add_zero] at this), ?_⟩
  ·intro hm
   rcases XT.1 (hperm.mem_iff.1 hm) with hm|hm
   ·exact Fw.1 hm
   ·have:=hout 0 (by omega)
    rw [Nat.add_zero] at this;exact this hm
  ·refine⟨fun t _ kt=> (hk t kt).1,fun t _ kt=> (hk t kt).2.1,fun t _ kt=> ⟨fun hm=> ?_,fun hm=>hperm.mem_iff.2 (XT.2 (.inr hm))⟩,fun t _ kt=> (hk t kt).2.2.1⟩
   rcases XT.1 (hperm.mem_iff.1 hm) with hm|hm
   ·obtain⟨i,hi,e⟩ :=Ei t hm
    exact absurd e ((hk t kt).2.2.2 i (by omega))
   ·exact hm
 ·rw [e] at h;exact absurd h (by simp)
theorem Ma {m : Mem}{w n : Int}(h : (fH m w n).2.2≠0) : (fH m w n).1=m∧ (fH m w n).2.1=0:=by
 by_cases c1 : d9 m=false∨bG 0 2 w=false
 ·rw [xK c1];exact⟨rfl,rfl⟩
 have c1' : d9 m=true∧bG 0 2 w=true:=by
  constructor
  ·cases e : d9 m with
   |true=>rfl
   |false=>exact absurd (.inl e) c1
  ·cases e : bG 0 2 w with
   |true=>rfl
   |false=>exact absurd (.inr e) c1
 rcases(Cy n).2 with hb| ⟨c,hc,hn⟩
 ·rw [AY c1'.1 c1'.2 hb];exact⟨rfl,rfl⟩
 ·rcases Eh (wN c1'.1) c1'.2 hc hn with ⟨l,s,hr,e⟩ | ⟨_,l,s,hr,e⟩ | ⟨_,hr, ⟨q,hq,hcl,hidx,e⟩ | ⟨_,e⟩⟩
  ·rw [e] at h;exact absurd rfl h
  ·rw [e] at h;exact absurd rfl h
  ·rw [e] at h;exact absurd rfl h
  ·rw [e];exact⟨rfl,rfl⟩
theorem Qa {m : Mem}{w h : Int}(k : (mX m w h).2=0) : d9 m=true∧bG 0 2 w=true∧gM m h=true:=by
 by_cases c1 : d9 m=false∨bG 0 2 w=false
 ·rw [Dm c1] at k;exact absurd k (by simp)
 have c1' : d9 m=true∧bG 0 2 w=true:=by
  constructor
  ·cases e : d9 m with
   |true=>rfl
   |false=>exact absurd (.inl e) c1
  ·cases e : bG 0 2 w with
   |true=>rfl
   |false=>exact absurd (.inr e) c1
 cases e : gM m h with
 |true=>exact⟨c1'.1,c1'.2,rfl⟩
 |false=>rw [IK c1'.1 c1'.2 e] at k;exact absurd k (by simp)
theorem Ns {m : Mem}{w h : Int}(k : (mX m w h).2≠0) : (mX m w h).1=m:=by
 unfold mX at k⊢;split
 ·rfl
 ·rename_i c1
  rw [if_neg c1] at k;split
  ·rfl
  ·rename_i c2
   rw [if_neg c2] at k;exact absurd rfl k
theorem Nt (g : Int)(h0 : 0≤g)(h1 : g≤7) : ∀ (b : List Int) (a : Nat),a+4≤b.length→iH (putAt b a (iZ 4 g)) a 4=g:=fun b a hl=>
 vW 4 g _ _ (fun j hj=>wh (by rw [jO];exact hl) (by rw [jO];exact hj)) h0 (by have : (256 : Int) ^ 4=4294967296:= (by decide);omega)
theorem Dw {m : Mem}{w h : Int}(k : (mX m w h).2=0) : jB m∧gM m h=true∧jB (mX m w h).1∧dK (mX m w h).1.E (h%32) =h / 32+1∧ (∀t,aG (mX m w h).1.E t=aG m.E t) ∧Keeps m (mX m w h).1 (h%32) ∧
  (∀t,t∈iR (mX m w h).1.I→t=h%32∨t∈iR m.I) ∧ (mX m w h).1.I= (if h / 32+1≤6 then qI m.I (w.toNat * 3+ (aG m.E (h%32)).toNat) (aG m.E (h%32)).toNat (h%32) else m.I) :=by
 obtain⟨ok,hw,hl⟩ :=Qa k;have p:=wN ok;obtain⟨hok,hcn,hnl,hge⟩ :=lY.1 hl;obtain⟨w0,w2⟩ :=bH.1 hw;have Uw:=oM hok;obtain⟨P,I,hP,Lg,es,hcl,hI,hct,Nu,_⟩ :=rH hcn;have sh:=jr (jd.1 p.heap).1;have hss:=uU hcl;obtain⟨i1,i2⟩ :=rG (P:=P) hcl hI;have h4:=qW hcl;rw [za ok hw hl];generalize h%32=s at *
 have hgb:=Nr p.heap hcn;rw [hge] at hgb;have hg0 : 0≤h / 32+1:=by omega
 have QI : h / 32+1≤7:=by omega
 have eH : rF m.E s (dK m.E s+1) = {m.E with Y:=putAt m.E.Y (iM P I (aG m.E s)) (iZ 4 (h / 32+1))}:=by
  unfold rF;rw [hge,Nu,X6]
 have hlen : iM P I (aG m.E s) +4≤m.E.Y.length:=by rw [sh.bl];omega
 have hload:=Nt (h / 32+1) hg0 QI m.E.Y (iM P I (aG m.E s)) hlen
 have QJ : jD {m.E with Y:=putAt m.E.Y (iM P I (aG m.E s)) (iZ 4 (h / 32+1))}=true:=
  heap_put p.heap hcn hP hI hct hcl (BU 4 _) (XQ _) (by rw [jO];omega) (by rw [hload];exact bH.2 ⟨by omega,by omega⟩)
 have hgs : dK {m.E with Y:=putAt m.E.Y (iM P I (aG m.E s)) (iZ 4 (h / 32+1))} s=h / 32+1:=
  (qp (h:= {m.E with Y:=putAt m.E.Y (iM P I (aG m.E s)) (iZ 4 (h / 32+1))}) (P:=P) (I:=I) hcn Nu).trans hload
 have hgo : ∀t,t≠s→dK {m.E with Y:=putAt m.E.Y (iM P I (aG m.E s)) (iZ 4 (h / 32+1))} t=dK m.E t:=fun t ht=>
  zQ sh hcn ht es Lg hP hI hct hcl (XQ _) (by rw [jO];omega)
 have p1 : jB {m with E:= {m.E with Y:=putAt m.E.Y (iM P I (aG m.E s)) (iZ 4 (h / 32+1))}}:=xM p QJ (fun t ht=> ⟨rfl,fun hb=>by rw [hgo t (fun e=>hnl (e ▸ ht))];exact hb⟩);have OI : ∀t,t≠s→ ¬ aG m.E t<0→ ∀j< (iA (aG m.E t)).toNat, (putAt m.E.Y (iM P I (aG m.E s)) (iZ 4 (h / 32+1))).getD ((iN t (aG m.E t)).toNat+j) 0=m.E.Y.getD ((iN t (aG m.E t)).toNat+j) 0:=fun t ht kt j hj=>by
  obtain⟨Q,J,hQ,Lf,et,zh,hJ,TG,_,est⟩ :=rH kt;have:=Gc (a:=iM P I (aG m.E s)) (ds:=iZ 4 (h / 32+1)) sh hcn kt ht es Lg hP hI hct hcl (XQ _) (by rw [jO];omega) Q J et Lf hJ TG zh (4+j) (by rw [uU zh];omega);rw [est,X6,Nat.add_assoc];exact this
 unfold pW;rw [eH,hge];by_cases h6 : h / 32+1≤6
 case neg=>
  rw [if_neg h6];exact⟨p,hl,p1,hgs,fun _=>rfl, ⟨fun _ _ _=>rfl,fun t ht _=>hgo t ht,fun _ _ _=>Iff.rfl,OI⟩,fun t ht=> .inr ht,rfl⟩
 rw [if_pos h6];obtain⟨c,hc,ec⟩ : ∃c : Nat,c<3∧aG m.E s= (c : Int) := ⟨(aG m.E s).toNat,by have:=bH.1 hcl;omega,by have:=bH.1 hcl;omega⟩;have hfit : ∀d : Int,d=aG m.E s→jw {m.E with Y:=putAt m.E.Y (iM P I (aG m.E s)) (iZ 4 (h / 32+1))} d s=true:=fun d e=>ou.2 ⟨e.symm,by rw [hgs];exact h6⟩;have hr : m.I.O[w.toNat * 3+c]? =some (m.I.O[w.toNat * 3+c]'(by rw [p.ow];omega)) :=XL _;have hr2 : m.I.G[c]? =some (m.I.G[c]'(by rw [p.gl];omega)) :=XL _;generalize m.I.O[w.toNat * 3+c]'(by rw [p.ow];omega) =row at hr;generalize m.I.G[c]'(by rw [p.gl];omega) =Fj at hr2;have QK : bG 0 23 s=true:=Uw.2.2.2.1;rw [show (aG m.E s).toNat=c by omega];by_cases hlt : row.length<2
 ·have eg:=F9 (c:=c) (s:=s) hr hlt
  have p2:=IX p1 hr hlt QK hnl (hfit _ (by rw [show (w.toNat * 3+c) %3=c by omega];exact ec.symm));have hp:=Dq (x:=m.I) [s] hr;rw [eg];refine⟨p,hl,p2,hgs,fun _=>rfl, ⟨fun _ _ _=>rfl,fun t ht _=>hgo t ht,fun t ht _=> ?_,OI⟩,fun t ht=> ?_,rfl⟩
  ·have:=hp.mem_iff (a:=t)
   simp only [List.cons_append,List.nil_append,Pe] at this;exact⟨fun hm=> (this.1 hm).resolve_left ht,fun hm=>this.2 (.inr hm)⟩
  ·have:=hp.mem_iff (a:=t)
   simp only [List.cons_append,List.nil_append,Pe] at this;exact this.1 ht
 ·have eg:=Ea (s:=s) hr hlt hr2
  have p2:=tZ p1 hr2 (r:= [s]) (fun t ht=>by rw [List.mem_singleton.1 ht];exact QK) (List.nodup_cons.2 ⟨hnl,p.nd⟩) (fun t ht=>by rw [List.mem_singleton.1 ht];exact hfit _ ec.symm);have hp:=r_ (x:=m.I) [s] hr2;rw [eg];refine⟨p,hl,p2,hgs,fun _=>rfl, ⟨fun _ _ _=>rfl,fun t ht _=>hgo t ht,fun t ht _=> ?_,OI⟩,fun t ht=> ?_,rfl⟩
  ·have:=hp.mem_iff (a:=t)
   simp only [List.cons_append,List.nil_append,Pe] at this;exact⟨fun hm=> (this.1 hm).resolve_left ht,fun hm=>this.2 (.inr hm)⟩
  ·have:=hp.mem_iff (a:=t)
   simp only [List.cons_append,List.nil_append,Pe] at this;exact this.1 ht
theorem Gh {m : Mem}{h a k n : Int}(hc : (jE m h a k n).2=0) : jB m∧gM m h=true∧jB (jE m h a k n).1∧Fq (jE m h a k n).1 h a k= (n,0) ∧ (jE (jE m h a k n).1 h (iA (aG m.E (h%32)) - k+1) k n).2=2∧ (jE m h a k n).1.I=m.I∧
  (jE m h a k n).1.E.Y.length=384∧1≤k∧k≤7∧0≤a∧0≤iN (h%32) (aG m.E (h%32)) ∧ (∀i : Nat, (i : Int) <iN (h%32) (aG m.E (h%32)) +a∨iN (h%32) (aG m.E (h%32)) +a+k≤i→ (jE m h a k n).1.E.Y.getD i 0=m.E.Y.getD i 0) :=by
 by_cases c : (jT m h a k).2=0
 case neg=>rw [AU c] at hc;exact absurd hc c
 by_cases f : rE n k=true
 case neg=>rw [F7 c ((XM _).mp f)] at hc;exact absurd hc (by simp)
 obtain⟨ok,k1,k7,hl,p0,p1,hin,ep⟩ :=FZ c;obtain⟨_,_,n0,n1⟩ :=F3 f;have p:=wN ok;obtain⟨hok,hcn,hnl,hge⟩ :=lY.1 hl;obtain⟨P,I,hP,Lg,es,hcl,hI,hct,Nu,est⟩ :=rH hcn;have sh:=jr (jd.1 p.heap).1;have hss:=uU hcl;have hsz:=ql (aG m.E (h%32));obtain⟨i1,i2⟩ :=rG (P:=P) hcl hI;obtain⟨a0,a1⟩ :=bH.1 hin;have kI : bG 1 7 k=true:=bH.2 ⟨k1,k7⟩;rw [F8 c f];obtain⟨K,rfl⟩ :=XP (show 0≤k by omega);obtain⟨A,rfl⟩ :=XP a0;have eq : (jT m h (A : Int) (K : Int)).1= ((iM P I (aG m.E (h%32)) +4+A : Nat) : Int) :=by rw [ep,est];omega
 unfold LV;rw [eq,X6,X6];rw [X6] at n1;rw [est];generalize hcls : aG m.E (h%32) =C at *
 have hdl : (iZ K n).length=K:=jO K n;have hlen : iM P I C+4+A+ (iZ K n).length≤m.E.Y.length:=by rw [sh.bl,hdl];omega
 have Pq : iH (putAt m.E.Y (iM P I C+4+A) (iZ K n)) (iM P I C) 4=iH m.E.Y (iM P I C) 4:=oP 4 (fun j hj=>lQ hlen (.inl (by omega)));have Mc:=qp (h:=m.E) (s:=h%32) (P:=P) (I:=I) (by rw [hcls];exact hcn) (by rw [hcls];exact Nu);rw [hcls] at Mc;have hgb:=Nr p.heap (s:=h%32) (by rw [hcls];exact hcn);have QJ : jD {m.E with Y:=putAt m.E.Y (iM P I C+4+A) (iZ K n)}=true:=by
  subst hcls;exact heap_put p.heap hcn hP hI hct hcl (BU K n) (by omega) (by rw [hdl];omega) (by rw [Pq, ←Mc];exact bH.2 hgb)
 have Pt : ∀t,dK {m.E with Y:=putAt m.E.Y (iM P I C+4+A) (iZ K n)} t=dK m.E t:=fun t=>by
  by_cases e : t=h%32
  ·subst e
   have:=qp (h:= {m.E with Y:=putAt m.E.Y (iM P I C+4+A) (iZ K n)}) (s:=h%32) (P:=P) (I:=I) (by show ¬ aG m.E (h%32) <0;rw [hcls];exact hcn) (by show gP (h%32) (aG m.E (h%32)) = ((iM P I (aG m.E (h%32)) : Nat) : Int);rw [hcls];exact Nu);rw [Mc,this];show iH _ (iM P I (aG m.E (h%32))) 4=_;rw [hcls];exact Pq
  ·subst hcls
   exact zQ sh hcn e es Lg hP hI hct hcl (by omega) (by rw [hdl];omega)
 have p1 : jB {m with E:= {m.E with Y:=putAt m.E.Y (iM P I C+4+A) (iZ K n)}}:=xM p QJ (fun t _=> ⟨rfl,fun hb=>by rw [Pt t];exact hb⟩);have hl1 : gM {m with E:= {m.E with Y:=putAt m.E.Y (iM P I C+4+A) (iZ K n)}} h=true:=lY.2 ⟨hok,by show ¬ aG m.E (h%32) <0;rw [hcls];exact hcn,hnl,by rw [Pt];exact hge⟩;have ok1:=yF p1;have zR : aG ({m with E:= {m.E with Y:=putAt m.E.Y (iM P I C+4+A) (iZ K n)}} : Mem).E (h%32) =C:=hcls;refine⟨p,hl,p1, ?_, ?_,rfl, ?_,k1,k7,a0,by omega,fun i hi=> ?_⟩
 ·have e1:=Dk ok1 kI hl1 (a:= (A : Int)) (by rw [zR];exact hin)
  rw [zR,est] at e1;rw [OC e1];unfold jc;rw [show (((iM P I C+4 : Nat) : Int) + (A : Int)).toNat=iM P I C+4+A by omega,X6];rw [vW K n _ _ (fun j hj=>wh hlen (by rw [hdl];exact hj)) n0 n1]
 ·have e1:=Di ok1 kI hl1 (a:=iA C - (K : Int) +1) (by
   rw [zR];cases e : bG 0 (iA C - (K : Int)) (iA C - (K : Int) +1) with
   |false=>rfl
   |true=>have:=bH.1 e;omega)
  rw [AU (by rw [e1];decide),e1]
 ·show (putAt m.E.Y (iM P I C+4+A) (iZ K n)).length=384
  rw [u_ hlen];exact sh.bl
 ·exact lQ hlen (by rw [hdl];omega)
theorem I4 {g s : Int}(hs : bG 0 23 s=true)(hg : bG 1 6 g=true) : dO (g * 32+s) =true∧ (g * 32+s) %32=s∧ (g * 32+s) / 32=g:=by
 obtain⟨a,b⟩ :=bH.1 hs;obtain⟨c,d⟩ :=bH.1 hg;refine⟨?_,by omega,by omega⟩;unfold dO;simp only [X4,decide_eq_true_eq];omega
theorem Md {m : Mem}{h : Int}(p : jB m) : Ip m h=gM m h:=by
 unfold Ip;rw [yF p];rfl
theorem Me {m : Mem}{w n : Int}(h : (fH m w n).2.2=0) : jB m∧jB (fH m w n).1∧dO (fH m w n).2.1=true∧gM (fH m w n).1 (fH m w n).2.1=true∧aG (fH m w n).1.E ((fH m w n).2.1%32) =fG n∧iI (fH m w n).1 ((fH m w n).2.1%32) =3∧iI m ((fH m w n).2.1%32) ≠3∧gM m (fH m w n).2.1=false∧Keeps m (fH m w n).1 ((fH m w n).2.1%32) ∧
  (¬ aG m.E ((fH m w n).2.1%32) <0→aG (fH m w n).1.E ((fH m w n).2.1%32) =aG m.E ((fH m w n).2.1%32) ∧dK (fH m w n).1.E ((fH m w n).2.1%32) =dK m.E ((fH m w n).2.1%32)) ∧dK (fH m w n).1.E ((fH m w n).2.1%32) = (fH m w n).2.1 / 32:=by
 obtain⟨s,p,p2,eh,hs,hg,hc,hnl,hor,hk⟩ :=Gg h;obtain⟨_,_,c,hc3,hn⟩ :=IZ h;obtain⟨h1,h2,h3⟩ :=I4 hs hg;rw [←eh] at h1 h2 h3;have hcn : ¬ aG (fH m w n).1.E s<0:=by rw [hc,hn];omega
 have hl : gM (fH m w n).1 (fH m w n).2.1=true:=lY.2 ⟨h1,by rw [h2];exact hcn,by rw [h2];exact hnl,by rw [h2,h3]⟩;have hst : iI m s≠3:=fun e=>by
  obtain⟨a,b,_⟩ :=state3 e;rcases hor with ho| ⟨ho,_⟩
  ·exact a ho
  ·exact(Fu.1 b) ho
 refine⟨p,p2,h1,hl,by rw [h2];exact hc, (nR hl).2.1,by rw [h2];exact hst, ?_,by rw [h2];exact hk,fun hn0=> ?_,by rw [h2,h3]⟩
 ·cases e : gM m (fH m w n).2.1 with
  |false=>rfl
  |true=>have:= (nR e).2.1;rw [h2] at this;exact absurd this hst
 ·rw [h2] at hn0⊢
  rcases hor with ho| ⟨_,a,b⟩
  ·exact absurd ho hn0
  ·exact⟨a,b⟩
structure NR (m : Mem)(all gone live : List Int) : Prop where
 ok : jB m
 nd : live.Nodup
 lv : ∀h∈live,gM m h=true
 gn : ∀h∈gone,dO h=true∧ ¬ aG m.E (h%32) <0∧h / 32<dK m.E (h%32)
 al : ∀h∈all,h∈live∨h∈gone
theorem NR.alloc {m : Mem}{all gone live : List Int}(k : NR m all gone live){w n : Int}(h : (fH m w n).2.2=0) : (fH m w n).2.1∉all∧dO (fH m w n).2.1=true∧NR (fH m w n).1 (all++ [(fH m w n).2.1]) gone (live++ [(fH m w n).2.1]) :=by
 obtain⟨p,p2,h1,hl,_,_,hst,hnl,hk,hsm,hge⟩ :=Me h;generalize (fH m w n).2.1=y at *
 generalize (fH m w n).1=x at *
 have hlv : ∀q∈live,q%32≠y%32:=fun q hq e=>hst (by rw [←e];exact(nR (k.lv q hq)).2.1);have Nv : y∉live:=fun hm=>hlv y hm rfl;have QL : y∉gone:=fun hm=>by
  obtain⟨_,b,c⟩ :=k.gn y hm;have:= (hsm b).2;omega
 refine⟨fun hm=> (k.al y hm).elim Nv QL,h1,p2,DY.2 ⟨k.nd,Nv⟩,fun q hq=> ?_,fun q hq=> ?_,fun q hq=> ?_⟩
 ·rcases XT.1 hq with hq|hq
  ·exact hk.live (hlv q hq) (k.lv q hq)
  ·rw [List.mem_singleton.1 hq];exact hl
 ·obtain⟨a,b,c⟩ :=k.gn q hq
  by_cases e : q%32=y%32
  ·rw [e] at b c⊢
   obtain⟨e1,e2⟩ :=hsm b;exact⟨a,by rw [e1];exact b,by rw [e2];exact c⟩
  ·exact⟨a,by rw [hk.kc _ e b];exact b,by rw [hk.kg _ e b];exact c⟩
 ·rcases XT.1 hq with hq|hq
  ·rcases k.al q hq with h|h
   ·exact .inl (XT.2 (.inl h))
   ·exact .inr h
  ·exact .inl (XT.2 (.inr hq))
theorem Mf {m : Mem}{a b : Int}(ha : gM m a=true)(hb : gM m b=true)(e : a%32=b%32) : a=b:=by
 have h1:= (nR ha).2.2;have h2:= (nR hb).2.2;rw [e] at h1;have h3 : a / 32=b / 32:=h1.symm.trans h2;omega
theorem NR.free {m : Mem}{all gone live : List Int}(k : NR m all gone live){w : Int}(hw : bG 0 2 w=true){i : Nat}(hi : i<live.length) : (mX m w live[i]).2=0∧NR (mX m w live[i]).1 all (gone++ [live[i]]) (live.take i++live.drop (i+1)) :=by
 have hm:=X0 hi;have hl:=k.lv _ hm;have h0 : (mX m w live[i]).2=0:=by rw [za (yF k.ok) hw hl]
 have hsp : live=live.take i++ (live[i]::live.drop (i+1)) :=by rw [←List.drop_eq_getElem_cons hi,List.take_append_drop]
 have hperm : live.Perm (live[i]:: (live.take i++live.drop (i+1))) :=by
  conv=>lhs;rw [hsp]
  exact List.perm_middle
 have hnd:=List.nodup_cons.1 (hperm.nodup_iff.1 k.nd);have hmem : ∀q,q∈live↔q=live[i]∨q∈live.take i++live.drop (i+1) :=fun q=>by rw [hperm.mem_iff,Pe]
 refine⟨h0, ?_⟩;obtain⟨p,_,p2,hg,hc,hk,_,_⟩ :=Dw h0;generalize live.take i++live.drop (i+1) =rest at *
 generalize live[i]=y at *
 generalize (mX m w y).1=x at *
 have Ux:= (lY.1 hl).2.1;have hyg:= (nR hl).2.2;refine⟨p2,hnd.2,fun q hq=> ?_,fun q hq=> ?_,fun q hq=> ?_⟩
 ·have D5:=k.lv q ((hmem q).2 (.inr hq))
  exact hk.live (fun e=>hnd.1 (Mf D5 hl e ▸ hq)) D5
 ·rcases XT.1 hq with hq|hq
  ·obtain⟨a,b,c⟩ :=k.gn q hq
   refine⟨a,by rw [hc];exact b, ?_⟩;by_cases e : q%32=y%32
   ·rw [e] at c⊢
    omega
   ·rw [hk.kg _ e b];exact c
  ·rw [List.mem_singleton.1 hq]
   exact⟨(lY.1 hl).1,by rw [hc];exact Ux,by omega⟩
 ·rcases k.al q hq with h|h
  ·rcases(hmem q).1 h with rfl|h
   ·exact .inr (XT.2 (.inr (List.mem_singleton_self _)))
   ·exact .inl h
  ·exact .inr (XT.2 (.inl h))
theorem NR.valid {m : Mem}{all gone live : List Int}(k : NR m all gone live){h : Int}(hm : h∈live) : Ip m h=true:=by
 rw [Md k.ok];exact k.lv h hm
theorem I5 : jB w_:=wN (by decide+kernel)
theorem NR.new : NR w_ [] [] []:= ⟨I5,List.nodup_nil,fun _ h=>absurd h (by simp),fun _ h=>absurd h (by simp),fun _ h=>absurd h (by simp)⟩
theorem rows_nodup {L : List fP}(h : Lim.lZ L L.length=true) : (L.map fun r=>r.Handle%32).Nodup:=by
 unfold List.Nodup;rw [List.pairwise_iff_getElem];intro i j hi hj hij e;rw [List.length_map] at hi hj;rw [List.getElem_map,List.getElem_map] at e;unfold Lim.lZ at h;rw [X5] at h;have hjr:=h j (List.mem_range.2 hj);rw [XL hj] at hjr;simp only [Lim.nY,X4,Bool.not_eq_true',List.any_eq_false,beq_iff_eq] at hjr;refine hjr.2 (L[i].Handle%32) ?_ e;unfold Lim.eT;exact List.mem_map.2 ⟨L[i],List.mem_take_iff_getElem.2 ⟨i,by omega,rfl⟩,rfl⟩
theorem Ca {α : Type} : ∀ (L : List (List α)) (k : Nat) (l : List α),L[k]? =some l→ ∀m, (L.set k m).flatten.Perm (m++ (L.set k []).flatten)
 | [],_,_,h,_=>by simp at h
 |a::L,0,_,_,m=>by simp
 |a::L,k+1,l,h,m=>by
  have ih:=Ca L k l (by simpa using h) m;simp only [List.set_cons_succ,List.flatten_cons];refine(List.Perm.append_left a ih).trans ?_;rw [←List.append_assoc, ←List.append_assoc];exact List.Perm.append_right _ List.perm_append_comm
theorem ND {α : Type}{L : List (List α)}{k : Nat}{l : List α}(h : L[k]? =some l) : L.flatten.Perm (l++ (L.set k []).flatten) :=by
 have e:=Ca L k l h l;have hk:=XW.1 h;obtain⟨hlt,hv⟩ :=hk;rw [←hv,List.set_getElem_self] at e;rw [←hv];exact e
structure BInv (x : Base) : Prop where
 mem : jB x.Mem
 pins : x.Clock.aK.length=3
 ep : dV x.Clock.Epoch
 lim : x.aB.length=3
 haz : x.bf.length=3
 live : ∀r∈x.aB.flatten,gM x.Mem r.Handle=true
 nd : (x.aB.flatten.map fun r=>r.Handle%32).Nodup
theorem BInv.of {x : Base}(h : gT x=true) : BInv x:=by
 unfold gT at h;simp only [X4] at h;obtain⟨⟨⟨⟨a,b⟩,c⟩,d⟩,e⟩ :=h;have c':=c;unfold Lim.gX at c';simp only [X4,beq_iff_eq,decide_eq_true_eq] at c';unfold Lim.mE at d;simp only [X4,beq_iff_eq] at d;refine⟨wN a,Clk.uV b,by have:=Clk.zk b;unfold dV;omega,c'.1.1,d.1,fun r hr=> ?_,rows_nodup c'.2⟩;obtain⟨l,hl,hr'⟩ :=List.mem_flatten.1 hr;have k:=X5.1 (X5.1 e l hl) r hr';unfold nD at k;rw [X4] at k;exact k.1
theorem BInv.keep {x : Base}{y : Mem}{s : Int}(b : BInv x)(p : jB y)(k : Keeps x.Mem y s)(hs : ∀r∈x.aB.flatten,r.Handle%32≠s) : BInv {x with Mem:=y}:=
 ⟨p,b.pins,b.ep,b.lim,b.haz,fun r hr=>k.live (hs r hr) (b.live r hr),b.nd⟩
theorem BInv.Fz {x : Base}(b : BInv x){k : Nat}{l : List Int}{s : Int}(hr : x.Mem.I.O[k]? =some (l++ [s])) : BInv {x with Mem:= {x.Mem with I:= {x.Mem.I with O:=x.Mem.I.O.set k l}}}:=by
 obtain⟨p2,hm,_⟩ :=wZ b.mem hr;exact b.keep p2 (xO hm) (fun r hr e=> (lY.1 (b.live r hr)).2.2.1 (e ▸ (hm s).2 (.inl rfl)))
theorem BInv.uh {x : Base}(b : BInv x){k : Nat}{l : List Int}{s : Int}(hr : x.Mem.I.G[k]? =some (l++ [s])) : BInv {x with Mem:= {x.Mem with I:= {x.Mem.I with G:=x.Mem.I.G.set k l}}}:=by
 obtain⟨p2,hm,_⟩ :=qK b.mem hr;exact b.keep p2 (xO hm) (fun r hr e=> (lY.1 (b.live r hr)).2.2.1 (e ▸ (hm s).2 (.inl rfl)))
theorem BInv.grant {x : Base}(b : BInv x){q c : Nat}(hq : q<6)(hc : c<3)(hcl : x.Mem.E.Z.getD q (-1) = -1){l : List Int}(hr : x.Mem.I.G[c]? =some l) : BInv {x with Mem:=lI x.Mem q c}:=by
 have p:=b.mem;have hci : bG 0 2 (c : Int) =true:=bH.2 ⟨by omega,by omega⟩;have hs:= (jd.1 p.heap).1;have hpp:=vZ hci;have TF:= (qj (c : Int)).2;have hg:=fun i hi=>Ef (h:=x.Mem.E) (p:=q) (c:=c) (i:=i) hs hq hc hi;have hk:=fun t kt=>Cw (m:=x.Mem) (p:=q) (c:=c) (t:=t) p.heap hq hc hcl kt;have hlist : ∀t∈iR x.Mem.I, ¬ aG x.Mem.E t<0:=fun t ht=>by
  obtain⟨d,hd,hf⟩ :=yh p ht;rw [(ou.1 hf).1];omega
 have p1 : jB {x.Mem with E:=fU x.Mem.E q c}:=xM p (Ee p.heap hq hc hcl) (fun t ht=> ⟨(hk t (hlist t ht)).1,fun hb=>by rw [(hk t (hlist t ht)).2.1];exact hb⟩);have Ei : ∀t∈ (eT q (bS (c : Int)).toNat).drop 1, ∃i< (bS (c : Int)).toNat,t= ((q * 4+i : Nat) : Int) :=fun t ht=>Cx.1 (List.mem_of_mem_drop ht);have Fw:=zS q (bS (c : Int)).toNat;rw [A_ (p:=q) (k:= (bS (c : Int)).toNat) (by omega),List.nodup_cons] at Fw;have hout : ∀i<4, ((q * 4+i : Nat) : Int) ∉iR x.Mem.I:=fun i hi hm=>hlist _ hm (vB hcl hi);have hnd : ((eT q (bS (c : Int)).toNat).drop 1++iR x.Mem.I).Nodup:=by
  rw [List.nodup_append];refine⟨Fw.2,p.nd,fun a ha b hb e=> ?_⟩;obtain⟨i,hi,rfl⟩ :=Ei a ha;exact hout i (by omega) (e ▸ hb)
 have p2:=tZ p1 hr (r:= (eT q (bS (c : Int)).toNat).drop 1) (fun t ht=>by obtain⟨i,hi,rfl⟩ :=Ei t ht;exact bH.2 ⟨by omega,by omega⟩) hnd (fun t ht=>by
  obtain⟨i,hi,rfl⟩ :=Ei t ht;obtain⟨g1,g2⟩ :=hg i hi;exact ou.2 ⟨g1,by rw [g2];decide⟩)
 have hperm:=r_ (x:=x.Mem.I) ((eT q (bS (c : Int)).toNat).drop 1) hr;have QH : lI x.Mem q c= {E:=fU x.Mem.E q c,I:= {x.Mem.I with G:=x.Mem.I.G.set c (l++ (eT q (bS (c : Int)).toNat).drop 1)}}:=by
  unfold lI;rw [XY,hr];rfl
 rw [QH];refine b.keep (s:= ((q * 4 : Nat) : Int)) p2 ⟨fun t _ kt=> (hk t kt).1,fun t _ kt=> (hk t kt).2.1,fun t _ kt=> ⟨fun hm=> ?_,fun hm=>hperm.mem_iff.2 (XT.2 (.inr hm))⟩,fun t _ kt=> (hk t kt).2.2.1⟩ (fun r hrr e=> ?_)
 ·rcases XT.1 (hperm.mem_iff.1 hm) with hm|hm
  ·obtain⟨i,hi,e⟩ :=Ei t hm
   exact absurd e ((hk t kt).2.2.2 i (by omega))
  ·exact hm
 ·have k:= (lY.1 (b.live r hrr)).2.1
  rw [e] at k;have:=vB (i:=0) hcl (by omega);rw [Nat.add_zero] at this;exact k this
theorem BInv.retire {x : Base}(b : BInv x){k : Nat}{l : List fP}{h e : Int}(hl : x.aB[k]? =some l)(hlv : gM x.Mem h=true)(hn : Lim.nC x.aB (h%32) =false) : BInv {x with aB:=x.aB.set k (l++ [⟨h,e⟩])}:=by
 have hp : (x.aB.set k (l++ [⟨h,e⟩])).flatten.Perm (⟨h,e⟩ ::x.aB.flatten) :=by
  refine(Ca x.aB k l hl _).trans ?_;refine(List.Perm.append_right _ List.perm_append_comm).trans ?_;exact List.Perm.cons _ (ND hl).symm
 refine⟨b.mem,b.pins,b.ep,by simp only [X8];exact b.lim,b.haz,fun r hr=> ?_, ?_⟩
 ·rcases Pe.1 (hp.mem_iff.1 hr) with rfl|hr
  ·exact hlv
  ·exact b.live r hr
 ·refine((hp.map _).nodup_iff).2 ?_
  rw [List.map_cons,List.nodup_cons];refine⟨fun hm=> ?_,b.nd⟩;obtain⟨r,hr,er⟩ :=List.mem_map.1 hm;obtain⟨l',hl',hr'⟩ :=List.mem_flatten.1 hr;have hk:= (lY.1 (b.live r hr)).1;unfold Lim.nC at hn;rw [List.any_eq_false] at hn;have:=hn l' hl';rw [List.any_eq_true] at this;refine this ⟨r,hr', ?_⟩;unfold Lim.oh;rw [X4,beq_iff_eq];exact⟨hk,er⟩
theorem BInv.drop {x : Base}(b : BInv x){k i wk : Nat}{l : List fP}(hl : x.aB[k]? =some l)(hi : i<l.length)(hw : wk<3) : BInv {x with Mem:=pW x.Mem wk (l[i].Handle%32),aB:=x.aB.set k (l.take i++l.drop (i+1))}:=by
 have hp : x.aB.flatten.Perm (l[i]:: (x.aB.set k (l.take i++l.drop (i+1))).flatten) :=by
  refine(ND hl).trans ?_;refine List.Perm.trans ?_ (List.Perm.cons _ (Ca x.aB k l hl _).symm);rw [←List.cons_append];refine List.Perm.append_right _ ?_;have e : l=l.take i++l[i]::l.drop (i+1) :=by rw [←List.drop_eq_getElem_cons hi,List.take_append_drop]
  conv=>lhs;rw [e]
  exact List.perm_middle
 have hnd:= ((hp.map fun r : fP=>r.Handle%32).nodup_iff).1 b.nd;rw [List.map_cons,List.nodup_cons] at hnd;have hlv : gM x.Mem l[i].Handle=true:=b.live _ (hp.mem_iff.2 (List.mem_cons_self ..));have hwi : bG 0 2 (wk : Int) =true:=bH.2 ⟨by omega,by omega⟩;have ef:=za (yF b.mem) hwi hlv;rw [X6] at ef;have fl:=Dw (m:=x.Mem) (w:= (wk : Int)) (h:=l[i].Handle) (by rw [ef]);rw [ef] at fl;obtain⟨_,_,p2,_,_,hk,_⟩ :=fl;refine⟨p2,b.pins,b.ep,by simp only [X8];exact b.lim,b.haz,fun r hr=> ?_,hnd.2⟩;refine hk.live (fun e=>hnd.1 (List.mem_map.2 ⟨r,hr,e⟩)) (b.live r (hp.mem_iff.2 (List.mem_cons_of_mem _ hr)))
theorem BInv.rows {x : Base}(b : BInv x) : x.aB.flatten.length≤24:=by
 have e:=IY b.nd (fun t ht=> ?_)
 ·rwa [List.length_map] at e
 ·obtain⟨r,hr,rfl⟩ :=List.mem_map.1 ht
  have k:=oM (lY.1 (b.live r hr)).1;exact bH.2 ⟨by omega,by omega⟩
theorem qw {x : Base}(b : BInv x){c : Clock}(hp : c.aK.length=3)(he : dV c.Epoch) : BInv {x with Clock:=c}:= ⟨b.mem,hp,he,b.lim,b.haz,b.live,b.nd⟩
theorem zn (x : Clock)(wk e : Int) : (Clk.kZ x wk e).1.aK.length=x.aK.length∧ (Clk.kZ x wk e).1.Epoch=x.Epoch:=by
 unfold Clk.kZ
 repeat' split
 all_goals simp
theorem CF (x : Clock)(wk e : Int) : (Clk.mU x wk e).1.aK.length=x.aK.length∧ (Clk.mU x wk e).1.Epoch=x.Epoch:=by
 unfold Clk.mU;split<;>simp
theorem Kw (x : Clock)(wk : Int) : (Clk.p8 x wk).1.aK.length=x.aK.length∧ (Clk.p8 x wk).1.Epoch=x.Epoch:=by
 unfold Clk.p8;split<;>simp
theorem En {x : Clock}(h : dV x.Epoch)(e : Int) : (Clk.pq x e).1.aK.length=x.aK.length∧dV (Clk.pq x e).1.Epoch:=by
 unfold Clk.pq;split
 ·rename_i c
  have:=Clk.zk c.1;refine⟨rfl, ?_⟩;unfold dV;simp only;omega
 ·exact⟨rfl,h⟩
theorem xq {w : World}{H : aA}{x : Base}(h : dz w H x){K : fV}{c : Clock}(o : iO w K c)(hf : ∀g∈K.foot,g∉H.Mem.foot∧g∉bT H.aB.val H.jk∧g∉bq H.bf.val) : dz w {H with Clock:=K} {x with Clock:=c}:=
 ⟨h.Mem,o,h.aB,h.bf,fun g hg hk=> (hf g hk).1 hg,h.IB,h.K8,fun g hg=> (hf g hg).2.1,fun g hg=> (hf g hg).2.2,h.La⟩
theorem Eo {w : World}{H : aA}{x : Base}(h : dz w H x){K : bV}{m : Mem}(o : fq w K m)(hf : ∀g∈K.foot,g∉H.Clock.foot∧g∉bT H.aB.val H.jk∧g∉bq H.bf.val) : dz w {H with Mem:=K} {x with Mem:=m}:=
 ⟨o,h.Clock,h.aB,h.bf,fun g hg=> (hf g hg).1,fun g hg=> (hf g hg).2.1,fun g hg=> (hf g hg).2.2,h.K_,h.Nj,h.La⟩
theorem Jc {w : World}{H : aA}{x : Base}(h : dz w H x){K : SV}{T : List SV}{l : List (List fP)}(o : dF gZ 83 123 w K.val T l)(hf : ∀g∈bT K.val T,g∉H.Mem.foot∧g∉H.Clock.foot∧g∉bq H.bf.val) : dz w {H with aB:=K,jk:=T} {x with aB:=l}:=
 ⟨h.Mem,h.Clock,o,h.bf,h.jy,fun g hg hk=> (hf g hk).1 hg,h.K8,fun g hg hk=> (hf g hk).2.1 hg,h.Nj,fun g hg=> (hf g hg).2.2⟩
theorem dz.Cb {w : World}{H : aA}{x : Base}{F : List Nat}(h : dz w H x)(hF : ∀g∈F,w.heap.size≤g) : ∀g∈F,g∉H.Mem.foot∧g∉H.Clock.foot∧g∉bT H.aB.val H.jk∧g∉bq H.bf.val:=fun g hg=>by
 have k:=hF g hg;have l:=h.lt;refine⟨fun e=> ?_,fun e=> ?_,fun e=> ?_,fun e=> ?_⟩
 ·have:=l g (aA.aI.2 (.inl e));omega
 ·have:=l g (aA.aI.2 (.inr (.inl e)));omega
 ·have:=l g (aA.aI.2 (.inr (.inr (.inl e))));omega
 ·have:=l g (aA.aI.2 (.inr (.inr (.inr e))));omega
structure aO where
 k : Int
 a : Int
 p : Int
 e : Int
 r : Int
 b : Int
 h : Int
 o : Int
 c : Int
 d : Bool
@[reducible] def aO.row (s : aO) : List Value:= [.int .i64 s.k, .int .i64 s.a, .int .i64 s.p, .int .i64 s.e, .int .i64 s.r, .int .i64 s.b, .int .i64 s.h, .int .i64 s.o, .int .i64 s.c, .bool s.d]
@[reducible] def aO.val (s : aO) : Value:= .agg #[.int .i64 s.k, .int .i64 s.a, .int .i64 s.p, .int .i64 s.e, .int .i64 s.r, .int .i64 s.b, .int .i64 s.h, .int .i64 s.o, .int .i64 s.c, .bool s.d]
@[reducible] def aA.row (H : aA) (x : Base) : List Value:= [.slice H.Mem.E.Y.a H.Mem.E.Y.l H.Mem.E.Y.c, .slice H.Mem.E.Z.a H.Mem.E.Z.l H.Mem.E.Z.c, .slice H.Mem.I.G.a H.Mem.I.G.l H.Mem.I.G.c, .slice H.Mem.I.O.a H.Mem.I.O.l H.Mem.I.O.c, .int .i64 x.Clock.Epoch, .slice H.Clock.aK.a H.Clock.aK.l H.Clock.aK.c, .slice H.aB.a H.aB.l H.aB.c, .slice H.bf.a H.bf.l H.bf.c]
@[reducible] def wm : List Value:= [.slice none 0 0, .slice none 0 0, .slice none 0 0, .slice none 0 0, .int .i64 0, .slice none 0 0, .slice none 0 0, .slice none 0 0]
@[reducible] def Mj : List Value:= [.int .i64 0, .int .i64 0, .int .i64 0, .int .i64 0, .int .i64 0, .int .i64 0, .int .i64 0, .int .i64 0, .int .i64 0, .bool false]
theorem aJ.f8 {w : World}{g : Nat}{a b c d e f h i : Value}(x : aJ w g [a,b,c,d,e,f,h,i]) : (w.cell? ⟨g,0,none⟩ =some a∧w.cell? ⟨g,1,none⟩ =some b∧w.cell? ⟨g,2,none⟩ =some c∧w.cell? ⟨g,3,none⟩ =some d∧w.cell? ⟨g,4,none⟩ =some e∧w.cell? ⟨g,5,none⟩ =some f∧w.cell? ⟨g,6,none⟩ =some h∧w.cell? ⟨g,7,none⟩ =some i) ∧ (∀j,w.frozen? ⟨g,j,none⟩ =false) ∧g<w.heap.size:= ⟨⟨x.cell 0 a rfl,x.cell 1 b rfl,x.cell 2 c rfl,x.cell 3 d rfl,x.cell 4 e rfl,x.cell 5 f rfl,x.cell 6 h rfl,x.cell 7 i rfl⟩,x.dN,x.lt⟩
theorem aJ.f10 {w : World}{g : Nat}{a b c d e f h i j k : Value}(x : aJ w g [a,b,c,d,e,f,h,i,j,k]) : (w.cell? ⟨g,0,none⟩ =some a∧w.cell? ⟨g,1,none⟩ =some b∧w.cell? ⟨g,2,none⟩ =some c∧w.cell? ⟨g,3,none⟩ =some d∧w.cell? ⟨g,4,none⟩ =some e∧w.cell? ⟨g,5,none⟩ =some f∧w.cell? ⟨g,6,none⟩ =some h∧w.cell? ⟨g,7,none⟩ =some i∧w.cell? ⟨g,8,none⟩ =some j∧w.cell? ⟨g,9,none⟩ =some k) ∧ (∀j,w.frozen? ⟨g,j,none⟩ =false) ∧g<w.heap.size:= ⟨⟨x.cell 0 a rfl,x.cell 1 b rfl,x.cell 2 c rfl,x.cell 3 d rfl,x.cell 4 e rfl,x.cell 5 f rfl,x.cell 6 h rfl,x.cell 7 i rfl,x.cell 8 j rfl,x.cell 9 k rfl⟩,x.dN,x.lt⟩
structure aQ (w W : World)(H K : aA)(y : Base) : Prop where
 o : dz W K y
 fo : ∀g∈K.foot, (g<w.heap.size∧g∈H.foot) ∨w.heap.size+4≤g
 C : bn H.foot w W
 sz : w.heap.size+4≤W.heap.size
theorem aQ.of {w W V : World}{H K : aA}{y : Base}(h : aQ w W H K y){F : List Nat}(c : bn F W V)(hF : ∀g∈F,w.heap.size≤g∧g<w.heap.size+4) : aQ w V H K y:=by
 refine⟨h.o.aM c (fun g hg hm=> ?_),h.fo, ⟨c.os.trans h.C.os,c.tape.trans h.C.tape,c.output.trans h.C.output,XR h.C.size c.size,fun k hk hn=> ?_⟩,XR h.sz c.size⟩
 ·have:=hF g hm
  rcases h.fo g hg with ⟨a,_⟩ |a<;>omega
 ·rw [c.block k (XO hk h.C.size) (fun hm=>by have:=hF k hm;omega)]
  exact h.C.block k hk hn
theorem aQ.below {w W V : World}{H K : aA}{y : Base}(h : aQ w W H K y)(b : Below W.heap.size W V) : aQ w V H K y:=h.of (F:= []) (bn.of_below b) (fun _ hm=>by cases hm)
theorem aQ.bZ {w W : World}{H K : aA}{y : Base}(h : aQ w W H K y)(os : List Obj)(d : Nat) : aQ w (grow W os d) H K y:=h.below (below_grow _ _ _)
theorem aQ.av {w W : World}{H K : aA}{y : Base}(h : aQ w W H K y)(o : Obj) : aQ w (W.alloc o) H K y:=h.below ((Below.refl _ _).alloc (XQ _) _)
theorem aQ.aY {w W : World}{H K : aA}{y : Base}(h : aQ w W H K y) : aQ w W.drew H K y:=h.below (Below.refl _ _).drew
theorem aQ.qZ {w W : World}{H K : aA}{y : Base}(h : aQ w W H K y)(n : Nat) : aQ w (W.drewN n) H K y:=h.below (below_drewN (Below.refl _ _) n)
theorem aQ.dG {w W : World}{H K : aA}{y : Base}(h : aQ w W H K y){g i : Nat}(hg : w.heap.size≤g∧g<w.heap.size+4)(v : Value) : aQ w (W.setCell ⟨g,i,none⟩ v) H K y:=h.of (F:= [g]) ((bn.refl _ _).dG (by simp) _) (fun b hb=>by simp only [Pe,Pd,XK] at hb;omega)
theorem aQ.clock {w W V : World}{H K : aA}{y : Base}(h : aQ w W H K y){J : fV}{c : Clock}(b : Below W.heap.size W V)(o : iO V J c)(l : ∀g∈J.foot,W.heap.size≤g) : aQ w V H {K with Clock:=J} {y with Clock:=c}:=by
 have h':=h.below b;refine⟨xq h'.o o (fun g hg=> ?_),fun g hg=> ?_,h'.C,h'.sz⟩
 ·have:=h.o.Cb l g hg
  exact⟨this.1,this.2.2⟩
 ·rcases aA.aI.1 hg with e|e|e|e
  ·exact h.fo g (aA.aI.2 (.inl e))
  ·exact .inr (XR h.sz (l g e))
  ·exact h.fo g (aA.aI.2 (.inr (.inr (.inl e))))
  ·exact h.fo g (aA.aI.2 (.inr (.inr (.inr e))))
theorem aQ.mem {w W V : World}{H K : aA}{y : Base}(h : aQ w W H K y){J : bV}{m : Mem}(b : bn K.Mem.foot W V)(o : fq V J m)(l : ∀g∈J.foot,g∈K.Mem.foot∨W.heap.size≤g) : aQ w V H {K with Mem:=J} {y with Mem:=m}:=by
 have up : ∀g,g∈K.foot→g∉K.Mem.foot→V.heap[g]? =W.heap[g]? :=fun g hg hn=>b.block g (h.o.lt g hg) hn;have d1 : ∀g,g∈K.Clock.foot→g∉K.Mem.foot:=fun g hg hm=>h.o.jy g hm hg;have d2 : ∀g,g∈bT K.aB.val K.jk→g∉K.Mem.foot:=fun g hg hm=>h.o.IB g hm hg;have d3 : ∀g,g∈bq K.bf.val→g∉K.Mem.foot:=fun g hg hm=>h.o.K8 g hm hg;have lt:=h.o.lt;refine⟨⟨o,h.o.Clock.keep (fun g hg=>up g (aA.aI.2 (.inr (.inl hg))) (d1 g hg)),h.o.aB.keep (fun g hg=>up g (aA.aI.2 (.inr (.inr (.inl hg)))) (d2 g hg)),h.o.bf.keep (fun g hg=>up g (aA.aI.2 (.inr (.inr (.inr (aS.2 hg))))) (d3 g (aS.2 hg))),fun g hg hm=> ?_,fun g hg hm=> ?_,fun g hg hm=> ?_,h.o.K_,h.o.Nj,h.o.La⟩,fun g hg=> ?_, ⟨b.os.trans h.C.os,b.tape.trans h.C.tape,b.output.trans h.C.output,XR h.C.size b.size,fun k hk hn=> ?_⟩,XR h.sz b.size⟩
 ·rcases l g hg with e|e
  ·exact h.o.jy g e hm
  ·have:=lt g (aA.aI.2 (.inr (.inl hm)));omega
 ·rcases l g hg with e|e
  ·exact h.o.IB g e hm
  ·have:=lt g (aA.aI.2 (.inr (.inr (.inl hm))));omega
 ·rcases l g hg with e|e
  ·exact h.o.K8 g e hm
  ·have:=lt g (aA.aI.2 (.inr (.inr (.inr hm))));omega
 ·rcases aA.aI.1 hg with e|e|e|e
  ·rcases l g e with e|e
   ·exact h.fo g (aA.aI.2 (.inl e))
   ·exact .inr (XR h.sz e)
  ·exact h.fo g (aA.aI.2 (.inr (.inl e)))
  ·exact h.fo g (aA.aI.2 (.inr (.inr (.inl e))))
  ·exact h.fo g (aA.aI.2 (.inr (.inr (.inr e))))
 ·rw [b.block k (XO hk h.C.size) (fun hm=> ?_)]
  ·exact h.C.block k hk hn
  ·rcases h.fo k (aA.aI.2 (.inl hm)) with e|e
   ·exact hn e.2
   ·omega
theorem aQ.wu {w W V : World}{H K : aA}{y : Base}(h : aQ w W H K y){J : SV}{T : List SV}{l : List (List fP)}(b : bn (bT K.aB.val K.jk) W V)(o : dF gZ 83 123 V J.val T l)(hl : ∀g∈bT J.val T,g∈bT K.aB.val K.jk∨W.heap.size≤g) : aQ w V H {K with aB:=J,jk:=T} {y with aB:=l}:=by
 have up : ∀g,g∈K.foot→g∉bT K.aB.val K.jk→V.heap[g]? =W.heap[g]? :=fun g hg hn=>b.block g (h.o.lt g hg) hn;have lt:=h.o.lt;refine⟨⟨h.o.Mem.keep (fun g hg=>up g (aA.aI.2 (.inl hg)) (fun hm=>h.o.IB g hg hm)),h.o.Clock.keep (fun g hg=>up g (aA.aI.2 (.inr (.inl hg))) (fun hm=>h.o.K_ g hg hm)),o,h.o.bf.keep (fun g hg=>up g (aA.aI.2 (.inr (.inr (.inr (aS.2 hg))))) (fun hm=>h.o.La g hm (aS.2 hg))),h.o.jy,fun g hg hm=> ?_,h.o.K8,fun g hg hm=> ?_,h.o.Nj,fun g hg hm=> ?_⟩,fun g hg=> ?_, ⟨b.os.trans h.C.os,b.tape.trans h.C.tape,b.output.trans h.C.output,XR h.C.size b.size,fun k hk hn=> ?_⟩,XR h.sz b.size⟩
 ·rcases hl g hm with e|e
  ·exact h.o.IB g hg e
  ·have:=lt g (aA.aI.2 (.inl hg));omega
 ·rcases hl g hm with e|e
  ·exact h.o.K_ g hg e
  ·have:=lt g (aA.aI.2 (.inr (.inl hg)));omega
 ·rcases hl g hg with e|e
  ·exact h.o.La g e hm
  ·have:=lt g (aA.aI.2 (.inr (.inr (.inr hm))));omega
 ·rcases aA.aI.1 hg with e|e|e|e
  ·exact h.fo g (aA.aI.2 (.inl e))
  ·exact h.fo g (aA.aI.2 (.inr (.inl e)))
  ·rcases hl g e with e|e
   ·exact h.fo g (aA.aI.2 (.inr (.inr (.inl e))))
   ·exact .inr (XR h.sz e)
  ·exact h.fo g (aA.aI.2 (.inr (.inr (.inr e))))
 ·rw [b.block k (XO hk h.C.size) (fun hm=> ?_)]
  ·exact h.C.block k hk hn
  ·rcases h.fo k (aA.aI.2 (.inr (.inr (.inl hm)))) with e|e
   ·exact hn e.2
   ·omega
def gQ (w : World)(H : aA)(e : Ending)(w' : World) : Prop:= ∃ (K : aA) (y : Base) (t : aO),e= .returned (.tuple #[K.val y,t.val]) ∧dV t.e∧dz w' K y∧BInv y∧ (∀g∈K.foot,g∈H.foot∨w.heap.size≤g) ∧bn H.foot w w'
theorem aQ.fin {w W : World}{H K : aA}{y : Base}(h : aQ w W H K y)(b : BInv y)(t : aO)(he : dV t.e) : gQ w H (.returned (.tuple #[K.val y,t.val])) W:=
 ⟨K,y,t,rfl,he,h.o,b,fun g hg=> (h.fo g hg).elim (fun e=> .inl e.2) (fun e=> .inr (by omega)),h.C⟩
structure Four (w W : World)(H : aA)(x : Base)(s : aO) : Prop where
 b : aJ W w.heap.size (H.row x)
 s : aJ W (w.heap.size+1) s.row
 r : aJ W (w.heap.size+2) wm
 t : aJ W (w.heap.size+3) Mj
theorem Four.below {w W V : World}{H : aA}{x : Base}{s : aO}(f : Four w W H x s)(b : Below W.heap.size W V) : Four w V H x s:= ⟨f.b.below b,f.s.below b,f.r.below b,f.t.below b⟩
theorem Four.bZ {w W : World}{H : aA}{x : Base}{s : aO}(f : Four w W H x s)(os : List Obj)(d : Nat) : Four w (grow W os d) H x s:=f.below (below_grow _ _ _)
theorem Four.aY {w W : World}{H : aA}{x : Base}{s : aO}(f : Four w W H x s) : Four w W.drew H x s:=f.below (Below.refl _ _).drew
theorem Four.xu {w W : World}{H : aA}{x : Base}{s : aO}(f : Four w W H x s){g i : Nat}(hg : g<w.heap.size)(v : Value) : Four w (W.setCell ⟨g,i,none⟩ v) H x s:= ⟨f.b.other (by omega) v,f.s.other (by omega) v,f.r.other (by omega) v,f.t.other (by omega) v⟩
theorem aJ.new2 (w : World)(vs : Array Value)(ty : TypeId){n : Nat}(h : w.heap.size=n) : aJ (w.alloc (.cells vs ty)) n vs.toList:=h ▸ aJ.new w vs ty
def w4 (w : World)(H : aA)(x : Base)(s : aO) : World:= (((w.alloc (.cells #[.slice H.Mem.E.Y.a H.Mem.E.Y.l H.Mem.E.Y.c, .slice H.Mem.E.Z.a H.Mem.E.Z.l H.Mem.E.Z.c, .slice H.Mem.I.G.a H.Mem.I.G.l H.Mem.I.G.c, .slice H.Mem.I.O.a H.Mem.I.O.l H.Mem.I.O.c, .int .i64 x.Clock.Epoch, .slice H.Clock.aK.a H.Clock.aK.l H.Clock.aK.c, .slice H.aB.a H.aB.l H.aB.c, .slice H.bf.a H.bf.l H.bf.c] 37)).alloc (.cells #[.int .i64 s.k, .int .i64 s.a, .int .i64 s.p, .int .i64 s.e, .int .i64 s.r, .int .i64 s.b, .int .i64 s.h, .int .i64 s.o, .int .i64 s.c, .bool s.d] 155)).alloc (.cells #[.slice none 0 0, .slice none 0 0, .slice none 0 0, .slice none 0 0, .int .i64 0, .slice none 0 0, .slice none 0 0, .slice none 0 0] 37)).alloc (.cells #[.int .i64 0, .int .i64 0, .int .i64 0, .int .i64 0, .int .i64 0, .int .i64 0, .int .i64 0, .int .i64 0, .int .i64 0, .bool false] 155)
theorem four (w : World)(H : aA)(x : Base)(s : aO)(h : dz w H x) : ∃W,W=w4 w H x s∧aQ w W H H x∧Four w W H x s:=by
 refine⟨w4 w H x s,rfl, ⟨?_,fun g hg=> .inl ⟨h.lt g hg,hg⟩, ?_,by simp [w4]⟩, ?_, ?_, ?_, ?_⟩
 ·exact h.aM (F:= []) (((((bn.refl _ _).av _).av _).av _).av _) (fun _ _ hm=>by cases hm)
 ·exact((((bn.refl _ _).av _).av _).av _).av _
 ·exact(((aJ.new w _ _).alloc _).alloc _).alloc _
 ·exact aJ.alloc (aJ.alloc (aJ.new2 _ _ _ (by simp)) _) _
 ·exact aJ.alloc (aJ.new2 _ _ _ (by simp)) _
 ·exact aJ.new2 _ _ _ (by simp)
@[reducible] def bR (w : World) (g : Nat) (H : aA) (x : Base) : Prop:=w.cell? ⟨g,0,none⟩ =some (.slice H.Mem.E.Y.a H.Mem.E.Y.l H.Mem.E.Y.c) ∧w.cell? ⟨g,1,none⟩ =some (.slice H.Mem.E.Z.a H.Mem.E.Z.l H.Mem.E.Z.c) ∧w.cell? ⟨g,2,none⟩ =some (.slice H.Mem.I.G.a H.Mem.I.G.l H.Mem.I.G.c) ∧w.cell? ⟨g,3,none⟩ =some (.slice H.Mem.I.O.a H.Mem.I.O.l H.Mem.I.O.c) ∧w.cell? ⟨g,4,none⟩ =some (.int .i64 x.Clock.Epoch) ∧w.cell? ⟨g,5,none⟩ =some (.slice H.Clock.aK.a H.Clock.aK.l H.Clock.aK.c) ∧w.cell? ⟨g,6,none⟩ =some (.slice H.aB.a H.aB.l H.aB.c) ∧w.cell? ⟨g,7,none⟩ =some (.slice H.bf.a H.bf.l H.bf.c)
@[reducible] def bW (w : World) (g : Nat) (s : aO) : Prop:=w.cell? ⟨g,0,none⟩ =some (.int .i64 s.k) ∧w.cell? ⟨g,1,none⟩ =some (.int .i64 s.a) ∧w.cell? ⟨g,2,none⟩ =some (.int .i64 s.p) ∧w.cell? ⟨g,3,none⟩ =some (.int .i64 s.e) ∧w.cell? ⟨g,4,none⟩ =some (.int .i64 s.r) ∧w.cell? ⟨g,5,none⟩ =some (.int .i64 s.b) ∧w.cell? ⟨g,6,none⟩ =some (.int .i64 s.h) ∧w.cell? ⟨g,7,none⟩ =some (.int .i64 s.o) ∧w.cell? ⟨g,8,none⟩ =some (.int .i64 s.c) ∧w.cell? ⟨g,9,none⟩ =some (.bool s.d)
theorem bR.up {w w' : World}{g : Nat}{H : aA}{x : Base}(h : bR w g H x)(e : w'.heap[g]? =w.heap[g]?) : bR w' g H x:=by
 have k : ∀i,w'.cell? ⟨g,i,none⟩ =w.cell? ⟨g,i,none⟩ :=fun i=>by simp only [World.cell?,e]
 obtain⟨c0,c1,c2,c3,c4,c5,c6,c7⟩ :=h;exact⟨(k _).trans c0, (k _).trans c1, (k _).trans c2, (k _).trans c3, (k _).trans c4, (k _).trans c5, (k _).trans c6, (k _).trans c7⟩
theorem bR.kH {w : World}{g : Nat}{H : aA}{x : Base}(h : bR w g H x){g' i : Nat}(hn : g'≠g)(v : Value) : bR (w.setCell ⟨g',i,none⟩ v) g H x:=h.up (j5 w v hn)
theorem bR.bZ {w : World}{g : Nat}{H : aA}{x : Base}(h : bR w g H x)(hg : g<w.heap.size)(os : List Obj)(d : Nat) : bR (grow w os d) g H x:=h.up (pJ w os d g hg)
theorem bR.aY {w : World}{g : Nat}{H : aA}{x : Base}(h : bR w g H x) : bR w.drew g H x:=h
theorem bW.up {w w' : World}{g : Nat}{s : aO}(h : bW w g s)(e : w'.heap[g]? =w.heap[g]?) : bW w' g s:=by
 have k : ∀i,w'.cell? ⟨g,i,none⟩ =w.cell? ⟨g,i,none⟩ :=fun i=>by simp only [World.cell?,e]
 obtain⟨c0,c1,c2,c3,c4,c5,c6,c7,c8,c9⟩ :=h;exact⟨(k _).trans c0, (k _).trans c1, (k _).trans c2, (k _).trans c3, (k _).trans c4, (k _).trans c5, (k _).trans c6, (k _).trans c7, (k _).trans c8, (k _).trans c9⟩
theorem bW.kH {w : World}{g : Nat}{s : aO}(h : bW w g s){g' i : Nat}(hn : g'≠g)(v : Value) : bW (w.setCell ⟨g',i,none⟩ v) g s:=h.up (j5 w v hn)
theorem bW.bZ {w : World}{g : Nat}{s : aO}(h : bW w g s)(hg : g<w.heap.size)(os : List Obj)(d : Nat) : bW (grow w os d) g s:=h.up (pJ w os d g hg)
theorem bW.aY {w : World}{g : Nat}{s : aO}(h : bW w g s) : bW w.drew g s:=h
end Go.Proofs.YtkmggglljkmjoaaGreat
