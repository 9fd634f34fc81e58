/-
  Several texts in one: lemmas and contracts that the claim rests on.
-/
import Derived.Test.YtkmggglljkmjoaaGreatUTC1
import Derived.Deep.QuietTactic
import Derived.BigQuiet
import Derived.Deep.LoopGhost
import Derived.Deep.RegionHeld3
import Derived.Test.YtkmggglljkmjoaaGreatUTC2
import Derived.WalkSpells
import Derived.Laws.Cover3
import Derived.Test.YtkmggglljkmjoaaGreatUTC17
import Derived.Test.YtkmggglljkmjoaaGreatUTC12
namespace Go.Proofs.YtkmggglljkmjoaaGreat
open Go.RowKit
theorem kY {b ds : List Int}{a i : Nat}(h : a+ds.length≤b.length)(hi : i<a∨a+ds.length≤i) : (putAt b a ds).getD i 0=b.getD i 0:=by
 rw [List.getD_eq_getElem?_getD,List.getD_eq_getElem?_getD,uS h hi]
theorem vG {b ds : List Int}{a j : Nat}(h : a+ds.length≤b.length)(hj : j<ds.length) : (putAt b a ds).getD (a+j) 0=ds.getD j 0:=by
 rw [List.getD_eq_getElem?_getD,List.getD_eq_getElem?_getD,vZ h hj]
theorem mo {b b' : List Int}{a : Nat} : ∀k, (∀j<k,b'.getD (a+j) 0=b.getD (a+j) 0) →iJ b' a k=iJ b a k
 |0,_=>rfl
 |k+1,h=>by
  unfold iJ
  rw [mo k (fun j hj=>h j (by omega)),h k (by omega)]
theorem wO {b : List Int}{lo n : Nat} : jN ((b.drop lo).take n) =true↔ ∀j<n,b.getD (lo+j) 0=0:=by
 unfold jN
 rw [List.all_eq_true]
 constructor
 ·intro h j hj
  by_cases hl : lo+j<b.length
  ·have hm : b[lo+j]∈ (b.drop lo).take n:=List.mem_iff_getElem?.2 ⟨j,by rw [List.getElem?_take,if_pos hj,List.getElem?_drop,List.getElem?_eq_getElem hl]⟩
   have:=h _ hm
   rw [getD_at hl]
   simpa using this
  ·exact Bq (by omega)
 ·intro h x hx
  obtain⟨j,hj⟩ :=List.mem_iff_getElem?.1 hx
  rw [List.getElem?_take] at hj
  split at hj
  ·rename_i hjn
   rw [List.getElem?_drop] at hj
   have:=h j hjn
   rw [List.getD_eq_getElem?_getD,hj] at this
   simpa using this
  ·cases hj
def iK (P I : Nat)(c : Int) : Nat:=P * 64+8+I * (eu c).toNat
theorem uD {c : Int}(hc : bO 0 2 c=true) : (eu c).toNat=4+ (gF c).toNat:=by
 rcases cls hc with rfl|rfl|rfl<;>decide
theorem qJ {P I : Nat}{c : Int}(hc : bO 0 2 c=true)(hI : I< (cO c).toNat) : P * 64+8≤iK P I c∧iK P I c+ (eu c).toNat≤P * 64+64:=by
 unfold iK
 rcases cls hc with rfl|rfl|rfl<;>simp [cO,eu] at * <;>omega
theorem BO {P I J : Nat}{c : Int}(hc : bO 0 2 c=true)(h : I≠J) : iK P I c+ (eu c).toNat≤iK P J c∨iK P J c+ (eu c).toNat≤iK P I c:=by
 unfold iK
 rcases cls hc with rfl|rfl|rfl<;>simp [eu] at * <;>omega
theorem pE {h : Heap}{s : Int}(k : ¬ aO h s<0) : ∃P I : Nat,P<6∧I<4∧s= ((P * 4+I : Nat) : Int) ∧bO 0 2 (aO h s) =true∧I< (cO (aO h s)).toNat∧h.Z.getD P (-1) =aO h s∧ig s (aO h s) = ((iK P I (aO h s) : Nat) : Int) ∧gH s (aO h s) = ((iK P I (aO h s) +4 : Nat) : Int) :=by
 rcases nD h s with ⟨e,_⟩ | ⟨e,k1,k2,k3,k4⟩
 ·exact absurd k (by rw [e];decide)
 ·have hg:=zn.1 (show 0≤ig s (lU h s) by omega)
  rw [←e] at hg k1 k2 k4
  obtain⟨s0,s1⟩ :=bJ.1 k3
  have hpp:= (qG (aO h s)).2
  have hst:= (uh (aO h s)).1
  have hga : ig s (aO h s) = ((iK (s / 4).toNat (s%4).toNat (aO h s) : Nat) : Int) :=by
   rw [qj k3 k4 hg.2.2]
   unfold iK
   simp only [Int.natCast_add,Int.natCast_mul,Int.toNat_of_nonneg (show 0≤s / 4 by omega),Int.toNat_of_nonneg (show 0≤s%4 by omega),Int.toNat_of_nonneg hst]
   rfl
  refine⟨(s / 4).toNat, (s%4).toNat,by omega,by omega,by omega,k4,by omega, ?_,hga, ?_⟩
  ·rw [e];rfl
  ·unfold gH
   rw [if_neg (by omega),hga]
   omega
theorem pF {h : Heap}{P I : Nat}{s : Int}(k : ¬ aO h s<0)(e : ig s (aO h s) = ((iK P I (aO h s) : Nat) : Int)) : dz h s=iJ h.Y (iK P I (aO h s)) 4:=by
 unfold dz
 rw [if_neg k,e]
 rfl
theorem Ep {h h' : Heap}{p : Nat}(hc : h'.Z.getD p (-1) =h.Z.getD p (-1))(ok : iR h p=true)(hn : h.Z.getD p (-1) <0→ ∀j<64,h'.Y.getD (p * 64+j) 0=h.Y.getD (p * 64+j) 0)
  (hh : 0≤h.Z.getD p (-1) → ∀j<8,h'.Y.getD (p * 64+j) 0=h.Y.getD (p * 64+j) 0)
  (hg : 0≤h.Z.getD p (-1) → ∀i< (cO (h.Z.getD p (-1))).toNat,bO 1 7 (iJ h.Y (iK p i (h.Z.getD p (-1))) 4) =true→bO 1 7 (iJ h'.Y (iK p i (h.Z.getD p (-1))) 4) =true) : iR h' p=true:=by
 unfold iR at ok⊢
 rw [hc]
 by_cases k : h.Z.getD p (-1) <0
 ·rw [if_pos k] at ok⊢
  rw [wO] at ok⊢
  exact fun j hj=>by rw [hn k j hj];exact ok j hj
 ·rw [if_neg k] at ok⊢
  have k0 : 0≤h.Z.getD p (-1) :=by omega
  have h0:=hh k0 0 (by omega)
  have h1:=hh k0 1 (by omega)
  have h2:=hh k0 2 (by omega)
  rw [Nat.add_zero] at h0
  simp only [Bool.and_eq_true] at ok⊢
  obtain⟨⟨⟨⟨a,b⟩,c⟩,d⟩,e⟩ :=ok
  rw [h0,h1,h2]
  refine⟨⟨⟨⟨a,b⟩,c⟩, ?_⟩, ?_⟩
  ·rw [wO] at d⊢
   intro j hj
   have:=hh k0 (3+j) (by omega)
   have dj:=d j hj
   rw [Nat.add_assoc] at dj⊢
   rw [this]
   exact dj
  ·unfold iG at e⊢
   rw [List.all_eq_true] at e⊢
   intro i hi
   exact hg k0 i (List.mem_range.1 hi) (e i hi)
theorem lu {h : Heap} : jg h=true↔gI h=true∧ ∀p<6,iR h p=true:=by
 unfold jg
 simp [List.all_eq_true]
theorem Jq {h : Heap}{a : Nat}{ds : List Int}(hs : gI h=true)(hd : ds.all (bO 0 255) =true)(hl : a+ds.length≤384) : gI {h with Y:=putAt h.Y a ds}=true:=by
 unfold gI kU at hs⊢
 simp only [Bool.and_eq_true,beq_iff_eq,decide_eq_true_eq] at hs⊢
 obtain⟨⟨⟨h1,h2⟩,h3,h4⟩,h5⟩ :=hs
 have e : (putAt h.Y a ds).length=h.Y.length:=nT (by omega)
 rw [e]
 exact⟨⟨⟨h1,h2⟩,h3,zN h4 hd⟩,h5⟩
theorem heap_put {h : Heap}{s : Int}{P I a : Nat}{ds : List Int}(ok : jg h=true)(k : ¬ aO h s<0)(hP : P<6)(hI : I< (cO (aO h s)).toNat)(hc : h.Z.getD P (-1) =aO h s)(hcl : bO 0 2 (aO h s) =true)
  (hd : ds.all (bO 0 255) =true) (h1 : iK P I (aO h s) ≤a) (h2 : a+ds.length≤iK P I (aO h s) + (eu (aO h s)).toNat)
  (hg : bO 1 7 (iJ (putAt h.Y a ds) (iK P I (aO h s)) 4) =true) : jg {h with Y:=putAt h.Y a ds}=true:=by
 obtain⟨hs,hp⟩ :=lu.1 ok
 have sh:=iA hs
 obtain⟨i1,i2⟩ :=qJ (P:=P) hcl hI
 have hl : a+ds.length≤h.Y.length:=by rw [sh.bl];omega
 refine lu.2 ⟨Jq hs hd (by omega),fun p xG=> ?_⟩
 have c0:= (bJ.1 hcl).1
 refine Ep (h:=h) rfl (hp p xG) ?_ ?_ ?_
 ·intro hneg j hj
  have : p≠P:=fun e=>by rw [e,hc] at hneg;omega
  exact kY hl (by omega)
 ·intro _ j hj
  exact kY hl (by omega)
 ·intro hpos i hi hold
  by_cases e : p=P
  ·subst e
   rw [hc] at hold hi⊢
   by_cases ei : i=I
   ·rw [ei];exact hg
   ·have hsp:=BO (P:=p) hcl ei
    have h4:=qB hcl
    rw [mo 4 (fun j hj=>kY hl (by omega))]
    exact hold
  ·have hcl' : bO 0 2 (h.Z.getD p (-1)) =true:=bJ.2 ⟨hpos, (sh.cs p).2⟩
   obtain⟨j1,j2⟩ :=qJ (P:=p) hcl' hi
   have h4:=qB hcl'
   rw [mo 4 (fun j hj=>kY hl (by omega))]
   exact hold
theorem FU {h : Heap}{s : Int}(ok : jg h=true)(k : ¬ aO h s<0) : 1≤dz h s∧dz h s≤7:=by
 obtain⟨P,I,hP,_,_,hcl,hI,hc,e,_⟩ :=pE k
 rw [pF k e]
 obtain⟨_,hp⟩ :=lu.1 ok
 have:=hp P hP
 unfold iR at this
 rw [hc,if_neg k] at this
 simp only [Bool.and_eq_true] at this
 have g:=this.2
 unfold iG at g
 exact bJ.1 (List.all_eq_true.1 g I (List.mem_range.2 hI))
theorem Ig {h : Heap}{s t : Int}{P I Q J : Nat}(hcl : bO 0 2 (aO h s) =true)(hcl' : bO 0 2 (aO h t) =true)(hI : I< (cO (aO h s)).toNat)(hJ : J< (cO (aO h t)).toNat)(hc : h.Z.getD P (-1) =aO h s)(hc' : h.Z.getD Q (-1) =aO h t)(hn : ¬ (P=Q∧I=J)) :
  iK P I (aO h s) + (eu (aO h s)).toNat≤iK Q J (aO h t) ∨iK Q J (aO h t) + (eu (aO h t)).toNat≤iK P I (aO h s) :=by
 by_cases e : P=Q
 ·subst e
  have ec : aO h s=aO h t:=by rw [←hc, ←hc']
  rw [ec]
  exact BO hcl' (fun ei=>hn ⟨rfl,ei⟩)
 ·obtain⟨i1,i2⟩ :=qJ (P:=P) hcl hI
  obtain⟨j1,j2⟩ :=qJ (P:=Q) hcl' hJ
  omega
theorem Er {h : Heap}{s t : Int}{a : Nat}{ds : List Int}{P I : Nat}(sh : Shape h)(_k : ¬ aO h s<0)(_kt : ¬ aO h t<0)(hst : t≠s)(es : s= ((P * 4+I : Nat) : Int))(_hI4 : I<4)(hP : P<6)(hI : I< (cO (aO h s)).toNat)(hc : h.Z.getD P (-1) =aO h s)(hcl : bO 0 2 (aO h s) =true)
  (h1 : iK P I (aO h s) ≤a) (h2 : a+ds.length≤iK P I (aO h s) + (eu (aO h s)).toNat) :
  ∀Q J : Nat,t= ((Q * 4+J : Nat) : Int) →J<4→J< (cO (aO h t)).toNat→h.Z.getD Q (-1) =aO h t→bO 0 2 (aO h t) =true→ ∀j< (eu (aO h t)).toNat, (putAt h.Y a ds).getD (iK Q J (aO h t) +j) 0=h.Y.getD (iK Q J (aO h t) +j) 0:=by
 intro Q J et G8 hJ hc' hcl' j hj
 obtain⟨i1,i2⟩ :=qJ (P:=P) hcl hI
 have hl : a+ds.length≤h.Y.length:=by rw [sh.bl];omega
 have hn : ¬ (P=Q∧I=J) :=fun ⟨e1,e2⟩ =>hst (by rw [et,es,e1,e2])
 have:=Ig hcl hcl' hI hJ hc hc' hn
 exact kY hl (by omega)
theorem yR {h : Heap}{s t : Int}{a : Nat}{ds : List Int}{P I : Nat}(sh : Shape h)(k : ¬ aO h s<0)(hst : t≠s)(es : s= ((P * 4+I : Nat) : Int))(G9 : I<4)(hP : P<6)(hI : I< (cO (aO h s)).toNat)(hc : h.Z.getD P (-1) =aO h s)(hcl : bO 0 2 (aO h s) =true)
  (h1 : iK P I (aO h s) ≤a) (h2 : a+ds.length≤iK P I (aO h s) + (eu (aO h s)).toNat) : dz {h with Y:=putAt h.Y a ds} t=dz h t:=by
 by_cases kt : aO h t<0
 ·have OQ : aO {h with Y:=putAt h.Y a ds} t<0:=kt
  unfold dz
  rw [if_pos kt,if_pos OQ]
 ·obtain⟨Q,J,hQ,G8,et,yB,hJ,hct,e,_⟩ :=pE kt
  have ho:=Er sh k kt hst es G9 hP hI hc hcl h1 h2 Q J et G8 hJ hct yB
  have h4:=qB yB
  rw [pF (h:= {h with Y:=putAt h.Y a ds}) (P:=Q) (I:=J) kt e,pF kt e]
  exact mo 4 (fun j hj=>ho j (by omega))
end Go.Proofs.YtkmggglljkmjoaaGreat
namespace Go.Proofs.YtkmggglljkmjoaaGreat
open Go.RowKit
structure jD (m : Mem) : Prop where
 heap : jg m.E=true
 gl : m.I.G.length=3
 ow : m.I.O.length=9
 short : ∀l∈m.I.O,l.length≤2
 rng : ∀s∈iT m.I,bO 0 23 s=true
 nd : (iT m.I).Nodup
 fg : ∀ (c : Nat) (l : List Int) (s : Int),m.I.G[c]? =some l→s∈l→jv m.E (c : Int) s=true
 fo : ∀ (k : Nat) (l : List Int) (s : Int),m.I.O[k]? =some l→s∈l→jv m.E ((k%3 : Nat) : Int) s=true
theorem xK {m : Mem}(k : dG m=true) : jD m:=by
 have hl:=jC k
 unfold fU kQ at hl
 simp only [Bool.and_eq_true,beq_iff_eq,decide_eq_true_eq] at hl
 obtain⟨⟨⟨h1,h2⟩,h3⟩,h4,h5⟩ :=hl
 refine⟨o_ k,h1,h2,fun l hl=> ?_,fun s hs=>List.all_eq_true.1 h4 s hs,h5,fun c l s hr hs=> ?_,fun q l s hr hs=> ?_⟩
 ·have:=List.all_eq_true.1 h3 l hl
  simpa [mE] using this
 ·exact wZ k (by have:= (List.getElem?_eq_some_iff.1 hr).1;omega) hr hs
 ·exact BM k (by have:= (List.getElem?_eq_some_iff.1 hr).1;omega) hr hs
theorem mQ {m : Mem}(p : jD m) : dG m=true:=by
 unfold dG fU kQ
 simp only [Bool.and_eq_true,beq_iff_eq,decide_eq_true_eq]
 refine⟨⟨⟨p.heap, ⟨⟨p.gl,p.ow⟩, ?_⟩, ?_,p.nd⟩, ?_⟩, ?_⟩
 ·exact List.all_eq_true.2 fun l hl=>by simpa [mE] using p.short l hl
 ·exact List.all_eq_true.2 p.rng
 ·refine List.all_eq_true.2 fun c hc=>List.all_eq_true.2 fun s hs=> ?_
  have hc3:=List.mem_range.1 hc
  have hr : m.I.G[c]? =some (m.I.G[c]'(by rw [p.gl];exact hc3)) :=List.getElem?_eq_getElem _
  rw [List.getD_eq_getElem?_getD,hr] at hs
  exact p.fg c _ s hr hs
 ·refine List.all_eq_true.2 fun k hk=>List.all_eq_true.2 fun s hs=> ?_
  have Eb:=List.mem_range.1 hk
  have hr : m.I.O[k]? =some (m.I.O[k]'(by rw [p.ow];exact Eb)) :=List.getElem?_eq_getElem _
  rw [List.getD_eq_getElem?_getD,hr] at hs
  exact p.fo k _ s hr hs
theorem Lb {x : Lists}{s : Int} : kZ x s=true↔s∈iT x:=by
 rw [wW,vw,decide_eq_true_eq]
theorem Ap {x : Lists}{s : Int} : kZ x s=false↔s∉iT x:=by
 rw [wW,vw,decide_eq_false_iff_not]
theorem Bb {m : Mem}(p : jD m){s : Int}(h : s∈iT m.I) : ∃c : Nat,c<3∧jv m.E (c : Int) s=true:=by
 unfold iT at h
 rcases List.mem_append.1 h with h|h
 ·obtain⟨l,hl,hs⟩ :=List.mem_flatten.1 h
  obtain⟨c,hc⟩ :=List.mem_iff_getElem?.1 hl
  have:= (List.getElem?_eq_some_iff.1 hc).1
  exact⟨c,by rw [p.gl] at this;exact this,p.fg c l s hc hs⟩
 ·obtain⟨l,hl,hs⟩ :=List.mem_flatten.1 h
  obtain⟨k,hk⟩ :=List.mem_iff_getElem?.1 hl
  exact⟨k%3,by omega,p.fo k l s hk hs⟩
theorem nU {h : Heap}{c s : Int} : jv h c s=true↔aO h s=c∧dz h s≤6:=by
 unfold jv
 simp only [Bool.and_eq_true,beq_iff_eq,decide_eq_true_eq]
theorem zW {m : Mem}{h' : Heap}(p : jD m)(ok : jg h'=true)(hf : ∀s∈iT m.I,aO h' s=aO m.E s∧ (dz m.E s≤6→dz h' s≤6)) : jD {m with E:=h'}:=by
 refine⟨ok,p.gl,p.ow,p.short,p.rng,p.nd,fun c l s hr hs=> ?_,fun k l s hr hs=> ?_⟩
 ·have hm : s∈iT m.I:=List.mem_append.2 (.inl (List.mem_flatten.2 ⟨l,List.mem_of_getElem? hr,hs⟩))
  obtain⟨e1,e2⟩ :=hf s hm
  have:=nU.1 (p.fg c l s hr hs)
  exact nU.2 ⟨e1.trans this.1,e2 this.2⟩
 ·have hm : s∈iT m.I:=List.mem_append.2 (.inr (List.mem_flatten.2 ⟨l,List.mem_of_getElem? hr,hs⟩))
  obtain⟨e1,e2⟩ :=hf s hm
  have:=nU.1 (p.fo k l s hr hs)
  exact nU.2 ⟨e1.trans this.1,e2 this.2⟩
theorem DR {α : Type}{ll : List (List α)}{k : Nat}{l : List α}(r : List α)(hl : ll[k]? =some l) : (ll.set k (l++r)).flatten.Perm (r++ll.flatten) :=by
 induction ll generalizing k with
 |nil=>simp at hl
 |cons x xs ih=>
  cases k with
  |zero=>
   simp only [List.getElem?_cons_zero,Option.some.injEq] at hl
   subst hl
   simp only [List.set_cons_zero,List.flatten_cons]
   rw [←List.append_assoc]
   exact List.perm_append_comm.append_right _
  |succ k=>
   simp only [List.getElem?_cons_succ] at hl
   simp only [List.set_cons_succ,List.flatten_cons]
   refine((ih hl).append_left x).trans ?_
   rw [←List.append_assoc, ←List.append_assoc]
   exact List.perm_append_comm.append_right _
theorem BP {x : Lists}{k : Nat}{l : List Int}(r : List Int)(hl : x.O[k]? =some l) : (iT {x with O:=x.O.set k (l++r)}).Perm (r++iT x) :=by
 unfold iT
 simp only
 refine((DR r hl).append_left _).trans ?_
 rw [←List.append_assoc, ←List.append_assoc]
 exact List.perm_append_comm.append_right _
theorem uE {x : Lists}{k : Nat}{l : List Int}(r : List Int)(hl : x.G[k]? =some l) : (iT {x with G:=x.G.set k (l++r)}).Perm (r++iT x) :=by
 unfold iT
 simp only
 refine((DR r hl).append_right _).trans ?_
 rw [List.append_assoc]
theorem FV {α : Type}{ll : List α}{k : Nat}{a : α}(h : ll[k]? =some a)(b : α) : (ll.set k b).set k a=ll:=by
 rw [List.set_set]
 apply List.ext_getElem?
 intro j
 by_cases e : k=j
 ·subst e
  rw [List.getElem?_set_self (List.getElem?_eq_some_iff.1 h).1,h]
 ·rw [List.getElem?_set_ne e]
theorem sJ {α : Type}{ll : List α}{k : Nat}{a : α}(h : ll[k]? =some a)(b : α) : (ll.set k b)[k]? =some b:=List.getElem?_set_self (List.getElem?_eq_some_iff.1 h).1
theorem Aq {α : Type}{ll : List α}{k j : Nat}{b : α}{l : α}(h : (ll.set k b)[j]? =some l) : (j=k∧l=b) ∨ll[j]? =some l:=by
 by_cases e : k=j
 ·subst e
  have hk : k<ll.length:=by have:= (List.getElem?_eq_some_iff.1 h).1;simpa using this
  rw [List.getElem?_set_self hk] at h
  exact .inl ⟨rfl,by cases h;rfl⟩
 ·rw [List.getElem?_set_ne e] at h
  exact .inr h
theorem FW {m : Mem}(p : jD m){k : Nat}{l : List Int}{s : Int}(hl : m.I.O[k]? =some l)(h2 : l.length<2)(hs : bO 0 23 s=true)(hn : s∉iT m.I)(hf : jv m.E ((k%3 : Nat) : Int) s=true) : jD {m with I:= {m.I with O:=m.I.O.set k (l++ [s])}}:=by
 have hp:=BP [s] hl
 refine⟨p.heap,p.gl,by rw [List.length_set];exact p.ow,fun q hq=> ?_,fun t ht=> ?_, ?_,p.fg,fun j q t hr ht=> ?_⟩
 ·rcases List.mem_or_eq_of_mem_set hq with hq|rfl
  ·exact p.short q hq
  ·simp;omega
 ·rcases List.mem_append.1 (hp.mem_iff.1 ht) with ht|ht
  ·rw [List.mem_singleton.1 ht];exact hs
  ·exact p.rng t ht
 ·exact hp.nodup_iff.2 (List.nodup_cons.2 ⟨hn,p.nd⟩)
 ·rcases Aq hr with ⟨rfl,rfl⟩ |hr
  ·rcases List.mem_append.1 ht with ht|ht
   ·exact p.fo j l t hl ht
   ·rw [List.mem_singleton.1 ht];exact hf
  ·exact p.fo j q t hr ht
theorem wP {m : Mem}(p : jD m){k : Nat}{l r : List Int}(hl : m.I.G[k]? =some l)(hs : ∀s∈r,bO 0 23 s=true)(hn : (r++iT m.I).Nodup)(hf : ∀s∈r,jv m.E (k : Int) s=true) : jD {m with I:= {m.I with G:=m.I.G.set k (l++r)}}:=by
 have hp:=uE r hl
 refine⟨p.heap,by rw [List.length_set];exact p.gl,p.ow,p.short,fun t ht=> ?_,hp.nodup_iff.2 hn,fun j q t hr ht=> ?_,p.fo⟩
 ·rcases List.mem_append.1 (hp.mem_iff.1 ht) with ht|ht
  ·exact hs t ht
  ·exact p.rng t ht
 ·rcases Aq hr with ⟨rfl,rfl⟩ |hr
  ·rcases List.mem_append.1 ht with ht|ht
   ·exact p.fg j l t hl ht
   ·exact hf t ht
  ·exact p.fg j q t hr ht
theorem zX {m : Mem}(p : jD m){k : Nat}{l : List Int}{s : Int}(hl : m.I.O[k]? =some (l++ [s])) : jD {m with I:= {m.I with O:=m.I.O.set k l}}∧ (∀t,t∈iT m.I↔t=s∨t∈iT {m.I with O:=m.I.O.set k l}) ∧s∉iT {m.I with O:=m.I.O.set k l}:=by
 have hp:=BP (x:= {m.I with O:=m.I.O.set k l}) [s] (sJ hl l)
 simp only [FV hl] at hp
 have hnd:=List.nodup_cons.1 (hp.nodup_iff.1 p.nd)
 have hm : ∀t,t∈iT m.I↔t=s∨t∈iT {m.I with O:=m.I.O.set k l}:=fun t=>by
  have:=hp.mem_iff (a:=t)
  simp only [List.cons_append,List.nil_append,List.mem_cons] at this
  exact this
 refine⟨⟨p.heap,p.gl,by rw [List.length_set];exact p.ow,fun q hq=> ?_,fun t ht=>p.rng t ((hm t).2 (.inr ht)),hnd.2,p.fg,fun j q t hr ht=> ?_⟩,hm,hnd.1⟩
 ·rcases List.mem_or_eq_of_mem_set hq with hq|rfl
  ·exact p.short q hq
  ·have:=p.short _ (List.mem_of_getElem? hl)
   simp at this
   omega
 ·rcases Aq hr with ⟨rfl,rfl⟩ |hr
  ·exact p.fo j _ t hl (List.mem_append.2 (.inl ht))
  ·exact p.fo j q t hr ht
theorem CU {m : Mem}(p : jD m){k : Nat}{l : List Int}{s : Int}(hl : m.I.G[k]? =some (l++ [s])) : jD {m with I:= {m.I with G:=m.I.G.set k l}}∧ (∀t,t∈iT m.I↔t=s∨t∈iT {m.I with G:=m.I.G.set k l}) ∧s∉iT {m.I with G:=m.I.G.set k l}:=by
 have hp:=uE (x:= {m.I with G:=m.I.G.set k l}) [s] (sJ hl l)
 simp only [FV hl] at hp
 have hnd:=List.nodup_cons.1 (hp.nodup_iff.1 p.nd)
 have hm : ∀t,t∈iT m.I↔t=s∨t∈iT {m.I with G:=m.I.G.set k l}:=fun t=>by
  have:=hp.mem_iff (a:=t)
  simp only [List.cons_append,List.nil_append,List.mem_cons] at this
  exact this
 refine⟨⟨p.heap,by rw [List.length_set];exact p.gl,p.ow,p.short,fun t ht=>p.rng t ((hm t).2 (.inr ht)),hnd.2,fun j q t hr ht=> ?_,p.fo⟩,hm,hnd.1⟩
 rcases Aq hr with ⟨rfl,rfl⟩ |hr
 ·exact p.fg j _ t hl (List.mem_append.2 (.inl ht))
 ·exact p.fg j q t hr ht
theorem J5 {L : List Int}(h : L.Nodup)(hr : ∀s∈L,bO 0 23 s=true) : L.length≤24:=by
 have : L.length≤ ((List.range 24).map fun n : Nat=> (n : Int)).length:=by
  refine h.length_le_of_subset fun s hs=> ?_
  obtain⟨a,b⟩ :=bJ.1 (hr s hs)
  exact List.mem_map.2 ⟨s.toNat,List.mem_range.2 (by omega),by omega⟩
 simpa using this
theorem o8 {m : Mem}(p : jD m) : dx m≤450:=by
 have sh:=iA (lu.1 p.heap).1
 have hn:=J5 p.nd p.rng
 unfold iT at hn
 rw [List.length_append,List.length_flatten,List.length_flatten] at hn
 unfold dx iE bX jh
 rw [sh.bl,sh.cl,p.gl,p.ow]
 omega
theorem mU {m : Mem}{h : Int} : gM m h=true↔eY h=true∧ ¬ aO m.E (h%32) <0∧ (h%32) ∉iT m.I∧dz m.E (h%32) =h / 32:=by
 constructor
 ·intro k
  obtain⟨a,b,c⟩ :=kR k
  obtain⟨b1,b2,_⟩ :=state3 b
  exact⟨a,b1,Ap.1 b2,c⟩
 ·rintro⟨a,b,c,d⟩
  have hb:=kX a
  unfold gM jw
  rw [if_neg b,Ap.2 c,d,a]
  simp
  omega
end Go.Proofs.YtkmggglljkmjoaaGreat
namespace Go.Proofs.YtkmggglljkmjoaaGreat
open Go.RowKit
structure Keeps (m x : Mem)(s : Int) : Prop where
 kc : ∀t,t≠s→ ¬ aO m.E t<0→aO x.E t=aO m.E t
 kg : ∀t,t≠s→ ¬ aO m.E t<0→dz x.E t=dz m.E t
 kl : ∀t,t≠s→ ¬ aO m.E t<0→ (t∈iT x.I↔t∈iT m.I)
 kb : ∀t,t≠s→ ¬ aO m.E t<0→ ∀j< (gF (aO m.E t)).toNat,x.E.Y.getD ((gH t (aO m.E t)).toNat+j) 0=m.E.Y.getD ((gH t (aO m.E t)).toNat+j) 0
theorem Keeps.live {m x : Mem}{s h : Int}(k : Keeps m x s)(hn : h%32≠s)(hl : gM m h=true) : gM x h=true:=by
 obtain⟨a,b,c,d⟩ :=mU.1 hl
 exact mU.2 ⟨a,by rw [k.kc _ hn b];exact b,fun hm=>c ((k.kl _ hn b).1 hm),by rw [k.kg _ hn b];exact d⟩
theorem Keeps.load {m x : Mem}{s h : Int}(k : Keeps m x s)(ok : dG m=true)(ok' : dG x=true)(hn : h%32≠s)(hl : gM m h=true) : ko x h 0 4=ko m h 0 4∧ (ko m h 0 4).2=0:=by
 have hl':=k.live hn hl
 have hb:=vY hl
 have ec:=k.kc _ hn hb
 obtain⟨P,I,_,_,_,hcl,_,_,_,est⟩ :=pE hb
 have hsz : 8≤gF (aO m.E (h%32)) :=by rcases cls hcl with e|e|e<;>rw [e]<;>decide
 have hin : bO 0 (gF (aO m.E (h%32)) - 4) 0=true:=bJ.2 ⟨by omega,by omega⟩
 have e1:=tT (m:=m) (h:=h) (a:=0) (k:=4) ok (by decide) hl hin
 have e2:=tT (m:=x) (h:=h) (a:=0) (k:=4) ok' (by decide) hl' (by rw [ec];exact hin)
 rw [tV e1,tV e2,ec,Int.add_zero]
 refine⟨?_,rfl⟩
 have : iF x.E.Y (gH (h%32) (aO m.E (h%32))) 4=iF m.E.Y (gH (h%32) (aO m.E (h%32))) 4:=by
  unfold iF
  exact mo 4 (fun j hj=>k.kb _ hn hb j (by omega))
 rw [this]
theorem KQ {l : List Int}{x : Int}{p : Nat}(h : idxOf (fun y=>y == x) l= (p : Int)) : ∃hp : p<l.length,l[p]=x:=by
 unfold idxOf at h
 cases hx : l.findIdx? (fun y=>y == x) with
 |none=>rw [hx] at h;simp at h
 |some i=>
  rw [hx] at h
  simp at h
  obtain rfl : i=p:=by omega
  obtain⟨h1,h2,_⟩ :=List.findIdx?_eq_some_iff_getElem.1 hx
  exact⟨h1,by simpa using h2⟩
theorem FX (l : List Int)(x : Int) : idxOf (fun y=>y == x) l= -1∨ ∃p : Nat,idxOf (fun y=>y == x) l= (p : Int) :=by
 unfold idxOf
 cases l.findIdx? (fun y=>y == x) with
 |none=>exact .inl rfl
 |some i=>exact .inr ⟨i,rfl⟩
theorem BQ {b : List Int}{p : Nat}{c : Int}(hb : b.length=384)(hp : p<6)(hc : bO 0 2 c=true)(a : Nat)(ha : a<p * 64∨p * 64+64≤a) : ∀k,k≤ (cO c).toNat→ (jH b p c k).getD a 0=b.getD a 0
 |0,_=>by
  unfold jH
  exact kY (by simp;omega) (by simp;omega)
 |k+1,hk=>by
  have h1:=nQ hc (i:=k) (by omega)
  unfold jH
  rw [kY (by rw [oh hb hp hc k (by omega),jq];omega) (by rw [jq];omega)]
  exact BQ hb hp hc a ha k (by omega)
theorem Es {b : List Int}{p : Nat}{c : Int}(hb : b.length=384)(hp : p<6)(hc : bO 0 2 c=true)(j : Nat)(hj : j<8) : ∀k,k≤ (cO c).toNat→ (jH b p c k).getD (p * 64+j) 0= (putAt b (p * 64) [171,c,cO c]).getD (p * 64+j) 0
 |0,_=>rfl
 |k+1,hk=>by
  have h1:=nQ hc (i:=k) (by omega)
  rw [show jH b p c (k+1) =putAt (jH b p c k) (p * 64+8+k * (eu c).toNat) (fQ 4 1) from rfl,kY (by rw [oh hb hp hc k (by omega),jq];omega) (.inl (by omega))]
  exact Es hb hp hc j hj k (by omega)
theorem BR {b : List Int}{p : Nat}{c : Int}(hb : b.length=384)(hp : p<6)(hc : bO 0 2 c=true) : ∀k,k≤ (cO c).toNat→ ∀i<k,iJ (jH b p c k) (iK p i c) 4=1
 |0,_,i,hi=>absurd hi (by omega)
 |k+1,hk,i,hi=>by
  have h1:=nQ hc (i:=k) (by omega)
  have hlen:=oh hb hp hc k (by omega)
  have hl : p * 64+8+k * (eu c).toNat+ (fQ 4 1).length≤ (jH b p c k).length:=by rw [hlen,jq];omega
  by_cases e : i=k
  ·subst e
   refine vD 4 1 _ _ (fun j hj=> ?_) (by decide) (by decide)
   exact vG hl (by rw [jq];exact hj)
  ·have hsep:=BO (P:=p) (I:=i) (J:=k) hc e
   have h4:=qB hc
   have hk2 : iK p k c=p * 64+8+k * (eu c).toNat:=rfl
   rw [show jH b p c (k+1) =putAt (jH b p c k) (p * 64+8+k * (eu c).toNat) (fQ 4 1) from rfl,mo 4 (fun j hj=>kY hl (by rw [jq];omega))]
   exact BR hb hp hc k (by omega) i (by omega)
theorem getD_set_ne {α : Type}{l : List α}{i j : Nat}{v d : α}(h : i≠j) : (l.set i v).getD j d=l.getD j d:=by
 rw [List.getD_eq_getElem?_getD,List.getD_eq_getElem?_getD,List.getElem?_set_ne h]
theorem Bc {α : Type}{l : List α}{i : Nat}{v d : α}(h : i<l.length) : (l.set i v).getD i d=v:=by
 rw [List.getD_eq_getElem?_getD,List.getElem?_set_self h]
 rfl
theorem Gz {h : Heap}{p c : Nat}(hs : gI h=true)(hp : p<6)(hc : c<3) : gI (fI h p c) =true:= (xg hs hp hc).1
theorem Ih {h : Heap}{p c : Nat}(ok : jg h=true)(hp : p<6)(hc : c<3)(hcl : h.Z.getD p (-1) = -1) : jg (fI h p c) =true:=by
 obtain⟨hs,hpg⟩ :=lu.1 ok
 have sh:=iA hs
 have hci : bO 0 2 (c : Int) =true:=bJ.2 ⟨by omega,by omega⟩
 have hpl : p<h.Z.length:=by rw [sh.cl];exact hp
 refine lu.2 ⟨Gz hs hp hc,fun q hq=> ?_⟩
 by_cases e : p=q
 ·subst e
  have hz:=hpg p hp
  unfold iR at hz
  rw [hcl,if_pos (by decide),wO] at hz
  have yS : (fI h p c).Z.getD p (-1) = (c : Int) :=by
   unfold fI
   exact Bc hpl
  unfold iR
  rw [yS,if_neg (by omega)]
  have hh:=fun j hj=>Es (b:=h.Y) sh.bl hp hci j hj (cO (c : Int)).toNat (Nat.le_refl _)
  have hin:=fun j (hj : j<3) =>vG (b:=h.Y) (a:=p * 64) (ds:= [171, (c : Int),cO (c : Int)]) (j:=j) (by rw [sh.bl];simp;omega) (by simpa using hj)
  have hb : ∀j, (fI h p c).Y.getD j 0= (jH h.Y p c (cO (c : Int)).toNat).getD j 0:=fun _=>rfl
  have g0:= (hh 0 (by omega)).trans (hin 0 (by omega))
  have g1:= (hh 1 (by omega)).trans (hin 1 (by omega))
  have g2:= (hh 2 (by omega)).trans (hin 2 (by omega))
  rw [Nat.add_zero] at g0
  simp only [Bool.and_eq_true]
  refine⟨⟨⟨⟨?_, ?_⟩, ?_⟩, ?_⟩, ?_⟩
  ·rw [hb,g0];rfl
  ·rw [hb,g1];simp
  ·rw [hb,g2];simp
  ·rw [wO]
   intro j hj
   rw [hb,Nat.add_assoc,hh (3+j) (by omega),kY (by rw [sh.bl];simp;omega) (by simp<;>omega)]
   exact hz (3+j) (by omega)
  ·unfold iG
   refine List.all_eq_true.2 fun i hi=> ?_
   have:=BR (b:=h.Y) sh.bl hp hci (cO (c : Int)).toNat (Nat.le_refl _) i (List.mem_range.1 hi)
   show bO 1 7 (iJ (jH h.Y p c (cO (c : Int)).toNat) (iK p i c) 4) =true
   rw [this]
   decide
 ·have yS : (fI h p c).Z.getD q (-1) =h.Z.getD q (-1) :=by
   unfold fI
   exact getD_set_ne e
  have ho : ∀a, (a<p * 64∨p * 64+64≤a) → (fI h p c).Y.getD a 0=h.Y.getD a 0:=fun a ha=>BQ sh.bl hp hci a ha _ (Nat.le_refl _)
  refine Ep yS (hpg q hq) (fun _ j hj=>ho _ (by omega)) (fun _ j hj=>ho _ (by omega)) (fun hpos i hi hold=> ?_)
  have hcl' : bO 0 2 (h.Z.getD q (-1)) =true:=bJ.2 ⟨hpos, (sh.cs q).2⟩
  obtain⟨j1,j2⟩ :=qJ (P:=q) hcl' hi
  have h4:=qB hcl'
  rw [mo 4 (fun j hj=>ho _ (by omega))]
  exact hold
theorem BS {P I : Nat}(hI : I<4) : (((P * 4+I : Nat) : Int) / 4).toNat=P:=by omega
theorem yC {h : Heap}{p c i : Nat}(hs : gI h=true)(hp : p<6)(hc : c<3)(hi : i< (cO (c : Int)).toNat) : aO (fI h p c) ((p * 4+i : Nat) : Int) =c∧dz (fI h p c) ((p * 4+i : Nat) : Int) =1:=by
 have sh:=iA hs
 have hci : bO 0 2 (c : Int) =true:=bJ.2 ⟨by omega,by omega⟩
 have hpp:=qG (c : Int)
 have hca : lU (fI h p c) ((p * 4+i : Nat) : Int) =c:=by
  unfold lU
  rw [BS (by omega)]
  unfold fI
  exact Bc (by rw [sh.cl];exact hp)
 have hga : ig ((p * 4+i : Nat) : Int) (c : Int) = ((iK p i c : Nat) : Int) :=by
  have hst:= (uh (c : Int)).1
  rw [qj (bJ.2 ⟨by omega,by omega⟩) hci (by omega),show ((p * 4+i : Nat) : Int) / 4= (p : Int) by omega,show ((p * 4+i : Nat) : Int) %4= (i : Int) by omega]
  unfold iK
  simp only [Int.natCast_add,Int.natCast_mul,Int.toNat_of_nonneg hst]
  rfl
 have hcl : aO (fI h p c) ((p * 4+i : Nat) : Int) =c:=by
  unfold aO
  rw [hca,if_neg (by rw [hga];omega)]
 refine⟨hcl, ?_⟩
 rw [pF (P:=p) (I:=i) (by rw [hcl];omega) (by rw [hcl];exact hga),hcl]
 exact BR sh.bl hp hci _ (Nat.le_refl _) i hi
theorem zY {h : Heap}{p i : Nat}(hcl : h.Z.getD p (-1) = -1)(hi : i<4) : aO h ((p * 4+i : Nat) : Int) <0:=by
 unfold aO lU
 rw [BS hi,hcl]
 split<;>decide
theorem GA {m : Mem}{p c : Nat}(ok : jg m.E=true)(hp : p<6)(hc : c<3)(hcl : m.E.Z.getD p (-1) = -1){t : Int}(kt : ¬ aO m.E t<0) : aO (fI m.E p c) t=aO m.E t∧dz (fI m.E p c) t=dz m.E t∧ (∀j< (gF (aO m.E t)).toNat, (fI m.E p c).Y.getD ((gH t (aO m.E t)).toNat+j) 0=m.E.Y.getD ((gH t (aO m.E t)).toNat+j) 0) ∧ ∀i<4,t≠ ((p * 4+i : Nat) : Int) :=by
 have sh:=iA (lu.1 ok).1
 have hci : bO 0 2 (c : Int) =true:=bJ.2 ⟨by omega,by omega⟩
 obtain⟨Q,J,hQ,G8,et,yB,hJ,hct,e,est⟩ :=pE kt
 have hne : p≠Q:=fun e=>by subst e;rw [hcl] at hct;have:= (bJ.1 yB).1;omega
 have ho : ∀a, (a<p * 64∨p * 64+64≤a) → (fI m.E p c).Y.getD a 0=m.E.Y.getD a 0:=fun a ha=>BQ sh.bl hp hci a ha _ (Nat.le_refl _)
 obtain⟨j1,j2⟩ :=qJ (P:=Q) yB hJ
 have hss:=uD yB
 have yS : aO (fI m.E p c) t=aO m.E t:=by
  unfold aO lU
  rw [et,BS G8,show (fI m.E p c).Z.getD Q (-1) =m.E.Z.getD Q (-1) from getD_set_ne hne]
 refine⟨yS, ?_,fun j hj=> ?_,fun i hi e=>kt (by rw [e];exact zY hcl hi)⟩
 ·rw [pF (P:=Q) (I:=J) (by rw [yS];exact kt) (by rw [yS];exact e),pF kt e,yS]
  exact mo 4 (fun j hj=>ho _ (by omega))
 ·rw [est,Int.toNat_natCast]
  exact ho _ (by omega)
theorem GD {p k : Nat}{t : Int} : t∈d_ p k↔ ∃i<k,t= ((p * 4+i : Nat) : Int) :=by
 unfold d_
 rw [List.mem_map]
 constructor
 ·rintro⟨i,hi,rfl⟩
  exact⟨i,List.mem_range.1 hi,rfl⟩
 ·rintro⟨i,hi,rfl⟩
  exact⟨i,List.mem_range.2 hi,rfl⟩
theorem EL (p k : Nat) : (d_ p k).Nodup:=by
 unfold d_
 rw [List.nodup_iff_pairwise_ne,List.pairwise_map]
 exact(List.nodup_iff_pairwise_ne.1 List.nodup_range).imp fun h e=>h (by omega)
theorem FY {p k : Nat}(hk : 0<k) : d_ p k= ((p * 4 : Nat) : Int) :: (d_ p k).drop 1:=by
 obtain⟨q,rfl⟩ : ∃q,k=q+1:= ⟨k - 1,by omega⟩
 unfold d_
 rw [List.range_succ_eq_map]
 simp
end Go.Proofs.YtkmggglljkmjoaaGreat
