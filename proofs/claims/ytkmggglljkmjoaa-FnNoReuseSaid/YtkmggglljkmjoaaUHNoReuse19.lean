/-
  Several texts in one: lemmas and contracts that the claim rests on.
-/
import Derived.Test.YtkmggglljkmjoaaUHNoReuse2
import Derived.Test.YtkmggglljkmjoaaUHNoReuse1
import Derived.Deep.QuietTactic
import Derived.BigQuiet
import Derived.Deep.LoopGhost
import Derived.Deep.RegionHeld3
import Derived.WalkSpells
import Derived.Laws.Cover3
import Derived.Test.YtkmggglljkmjoaaUHNoReuse18
import Derived.Test.YtkmggglljkmjoaaUHNoReuse13
namespace Go.Proofs.Ytkmggglljkmjoaa
open Go.RowKit
theorem iI {b ds : List Int}{a i : Nat}(h : a+ds.length≤b.length)(hi : i<a∨a+ds.length≤i) : (putAt b a ds).getD i 0=b.getD i 0:=by
 rw [List.getD_eq_getElem?_getD,List.getD_eq_getElem?_getD,pW h hi]
theorem pO {b ds : List Int}{a j : Nat}(h : a+ds.length≤b.length)(hj : j<ds.length) : (putAt b a ds).getD (a+j) 0=ds.getD j 0:=by
 rw [List.getD_eq_getElem?_getD,List.getD_eq_getElem?_getD,qy h hj]
theorem jD {b b' : List Int}{a : Nat} : ∀k, (∀j<k,b'.getD (a+j) 0=b.getD (a+j) 0) →eB b' a k=eB b a k
 |0,_=>rfl
 |k+1,h=>by
  unfold eB
  rw [jD k (fun j hj=>h j (by omega)),h k (by omega)]
theorem nQ {b : List Int}{lo n : Nat} : fT ((b.drop lo).take n) =true↔ ∀j<n,b.getD (lo+j) 0=0:=by
 unfold fT
 rw [List.all_eq_true]
 constructor
 ·intro h j hj
  by_cases hl : lo+j<b.length
  ·have hm : b[lo+j]∈ (b.drop lo).take n:=List.mem_iff_getElem?.2 ⟨j,by rw [List.getElem?_take,if_pos hj,List.getElem?_drop,List.getElem?_eq_getElem hl]⟩
   have:=h _ hm
   rw [getD_at hl]
   simpa using this
  ·exact r9 (by omega)
 ·intro h x hx
  obtain⟨j,hj⟩ :=List.mem_iff_getElem?.1 hx
  rw [List.getElem?_take] at hj
  split at hj
  ·rename_i hjn
   rw [List.getElem?_drop] at hj
   have:=h j hjn
   rw [List.getD_eq_getElem?_getD,hj] at this
   simpa using this
  ·cases hj
def fU (P I : Nat)(c : Int) : Nat:=P * 64+8+I * (bS c).toNat
theorem nZ {c : Int}(hc : aW 0 2 c=true) : (bS c).toNat=4+ (iQ c).toNat:=by
 rcases cls hc with rfl|rfl|rfl<;>decide
theorem lq {P I : Nat}{c : Int}(hc : aW 0 2 c=true)(hI : I< (bq c).toNat) : P * 64+8≤fU P I c∧fU P I c+ (bS c).toNat≤P * 64+64:=by
 unfold fU
 rcases cls hc with rfl|rfl|rfl<;>simp [bq,bS] at * <;>omega
theorem sO {P I J : Nat}{c : Int}(hc : aW 0 2 c=true)(h : I≠J) : fU P I c+ (bS c).toNat≤fU P J c∨fU P J c+ (bS c).toNat≤fU P I c:=by
 unfold fU
 rcases cls hc with rfl|rfl|rfl<;>simp [bS] at * <;>omega
theorem lT {h : Heap}{s : Int}(k : ¬ ak h s<0) : ∃P I : Nat,P<6∧I<4∧s= ((P * 4+I : Nat) : Int) ∧aW 0 2 (ak h s) =true∧I< (bq (ak h s)).toNat∧h.Z.getD P (-1) =ak h s∧fq s (ak h s) = ((fU P I (ak h s) : Nat) : Int) ∧kY s (ak h s) = ((fU P I (ak h s) +4 : Nat) : Int) :=by
 rcases jH h s with ⟨e,_⟩ | ⟨e,k1,k2,k3,k4⟩
 ·exact absurd k (by rw [e];decide)
 ·have hg:=qo.1 (show 0≤fq s (iL h s) by omega)
  rw [←e] at hg k1 k2 k4
  obtain⟨s0,s1⟩ :=bD.1 k3
  have hpp:= (lF (ak h s)).2
  have hst:= (l8 (ak h s)).1
  have hga : fq s (ak h s) = ((fU (s / 4).toNat (s%4).toNat (ak h s) : Nat) : Int) :=by
   rw [j5 k3 k4 hg.2.2]
   unfold fU
   simp only [Int.natCast_add,Int.natCast_mul,Int.toNat_of_nonneg (show 0≤s / 4 by omega),Int.toNat_of_nonneg (show 0≤s%4 by omega),Int.toNat_of_nonneg hst]
   rfl
  refine⟨(s / 4).toNat, (s%4).toNat,by omega,by omega,by omega,k4,by omega, ?_,hga, ?_⟩
  ·rw [e];rfl
  ·unfold kY
   rw [if_neg (by omega),hga]
   omega
theorem kW {h : Heap}{P I : Nat}{s : Int}(k : ¬ ak h s<0)(e : fq s (ak h s) = ((fU P I (ak h s) : Nat) : Int)) : bK h s=eB h.Y (fU P I (ak h s)) 4:=by
 unfold bK
 rw [if_neg k,e]
 rfl
theorem vH {h h' : Heap}{p : Nat}(hc : h'.Z.getD p (-1) =h.Z.getD p (-1))(ok : eu h p=true)(hn : h.Z.getD p (-1) <0→ ∀j<64,h'.Y.getD (p * 64+j) 0=h.Y.getD (p * 64+j) 0)
  (hh : 0≤h.Z.getD p (-1) → ∀j<8,h'.Y.getD (p * 64+j) 0=h.Y.getD (p * 64+j) 0)
  (hg : 0≤h.Z.getD p (-1) → ∀i< (bq (h.Z.getD p (-1))).toNat,aW 1 7 (eB h.Y (fU p i (h.Z.getD p (-1))) 4) =true→aW 1 7 (eB h'.Y (fU p i (h.Z.getD p (-1))) 4) =true) : eu h' p=true:=by
 unfold eu at ok⊢
 rw [hc]
 by_cases k : h.Z.getD p (-1) <0
 ·rw [if_pos k] at ok⊢
  rw [nQ] at ok⊢
  exact fun j hj=>by rw [hn k j hj];exact ok j hj
 ·rw [if_neg k] at ok⊢
  have k0 : 0≤h.Z.getD p (-1) :=by omega
  have h0:=hh k0 0 (by omega)
  have h1:=hh k0 1 (by omega)
  have h2:=hh k0 2 (by omega)
  rw [Nat.add_zero] at h0
  simp only [Bool.and_eq_true] at ok⊢
  obtain⟨⟨⟨⟨a,b⟩,c⟩,d⟩,e⟩ :=ok
  rw [h0,h1,h2]
  refine⟨⟨⟨⟨a,b⟩,c⟩, ?_⟩, ?_⟩
  ·rw [nQ] at d⊢
   intro j hj
   have:=hh k0 (3+j) (by omega)
   have dj:=d j hj
   rw [Nat.add_assoc] at dj⊢
   rw [this]
   exact dj
  ·unfold dU at e⊢
   rw [List.all_eq_true] at e⊢
   intro i hi
   exact hg k0 i (List.mem_range.1 hi) (e i hi)
theorem iU {h : Heap} : fH h=true↔d_ h=true∧ ∀p<6,eu h p=true:=by
 unfold fH
 simp [List.all_eq_true]
theorem z_ {h : Heap}{a : Nat}{ds : List Int}(hs : d_ h=true)(hd : ds.all (aW 0 255) =true)(hl : a+ds.length≤384) : d_ {h with Y:=putAt h.Y a ds}=true:=by
 unfold d_ gY at hs⊢
 simp only [Bool.and_eq_true,beq_iff_eq,decide_eq_true_eq] at hs⊢
 obtain⟨⟨⟨h1,h2⟩,h3,h4⟩,h5⟩ :=hs
 have e : (putAt h.Y a ds).length=h.Y.length:=j6 (by omega)
 rw [e]
 exact⟨⟨⟨h1,h2⟩,h3,qw h4 hd⟩,h5⟩
theorem heap_put {h : Heap}{s : Int}{P I a : Nat}{ds : List Int}(ok : fH h=true)(k : ¬ ak h s<0)(hP : P<6)(hI : I< (bq (ak h s)).toNat)(hc : h.Z.getD P (-1) =ak h s)(hcl : aW 0 2 (ak h s) =true)
  (hd : ds.all (aW 0 255) =true) (h1 : fU P I (ak h s) ≤a) (h2 : a+ds.length≤fU P I (ak h s) + (bS (ak h s)).toNat)
  (hg : aW 1 7 (eB (putAt h.Y a ds) (fU P I (ak h s)) 4) =true) : fH {h with Y:=putAt h.Y a ds}=true:=by
 obtain⟨hs,hp⟩ :=iU.1 ok
 have sh:=gQ hs
 obtain⟨i1,i2⟩ :=lq (P:=P) hcl hI
 have hl : a+ds.length≤h.Y.length:=by rw [sh.bl];omega
 refine iU.2 ⟨z_ hs hd (by omega),fun p wX=> ?_⟩
 have c0:= (bD.1 hcl).1
 refine vH (h:=h) rfl (hp p wX) ?_ ?_ ?_
 ·intro hneg j hj
  have : p≠P:=fun e=>by rw [e,hc] at hneg;omega
  exact iI hl (by omega)
 ·intro _ j hj
  exact iI hl (by omega)
 ·intro hpos i hi hold
  by_cases e : p=P
  ·subst e
   rw [hc] at hold hi⊢
   by_cases ei : i=I
   ·rw [ei];exact hg
   ·have hsp:=sO (P:=p) hcl ei
    have h4:=kr hcl
    rw [jD 4 (fun j hj=>iI hl (by omega))]
    exact hold
  ·have hcl' : aW 0 2 (h.Z.getD p (-1)) =true:=bD.2 ⟨hpos, (sh.cs p).2⟩
   obtain⟨j1,j2⟩ :=lq (P:=p) hcl' hi
   have h4:=kr hcl'
   rw [jD 4 (fun j hj=>iI hl (by omega))]
   exact hold
theorem CB {h : Heap}{s : Int}(ok : fH h=true)(k : ¬ ak h s<0) : 1≤bK h s∧bK h s≤7:=by
 obtain⟨P,I,hP,_,_,hcl,hI,hc,e,_⟩ :=lT k
 rw [kW k e]
 obtain⟨_,hp⟩ :=iU.1 ok
 have:=hp P hP
 unfold eu at this
 rw [hc,if_neg k] at this
 simp only [Bool.and_eq_true] at this
 have g:=this.2
 unfold dU at g
 exact bD.1 (List.all_eq_true.1 g I (List.mem_range.2 hI))
theorem y9 {h : Heap}{s t : Int}{P I Q J : Nat}(hcl : aW 0 2 (ak h s) =true)(hcl' : aW 0 2 (ak h t) =true)(hI : I< (bq (ak h s)).toNat)(hJ : J< (bq (ak h t)).toNat)(hc : h.Z.getD P (-1) =ak h s)(hc' : h.Z.getD Q (-1) =ak h t)(hn : ¬ (P=Q∧I=J)) :
  fU P I (ak h s) + (bS (ak h s)).toNat≤fU Q J (ak h t) ∨fU Q J (ak h t) + (bS (ak h t)).toNat≤fU P I (ak h s) :=by
 by_cases e : P=Q
 ·subst e
  have ec : ak h s=ak h t:=by rw [←hc, ←hc']
  rw [ec]
  exact sO hcl' (fun ei=>hn ⟨rfl,ei⟩)
 ·obtain⟨i1,i2⟩ :=lq (P:=P) hcl hI
  obtain⟨j1,j2⟩ :=lq (P:=Q) hcl' hJ
  omega
theorem vI {h : Heap}{s t : Int}{a : Nat}{ds : List Int}{P I : Nat}(sh : Shape h)(_k : ¬ ak h s<0)(_kt : ¬ ak h t<0)(hst : t≠s)(es : s= ((P * 4+I : Nat) : Int))(_hI4 : I<4)(hP : P<6)(hI : I< (bq (ak h s)).toNat)(hc : h.Z.getD P (-1) =ak h s)(hcl : aW 0 2 (ak h s) =true)
  (h1 : fU P I (ak h s) ≤a) (h2 : a+ds.length≤fU P I (ak h s) + (bS (ak h s)).toNat) :
  ∀Q J : Nat,t= ((Q * 4+J : Nat) : Int) →J<4→J< (bq (ak h t)).toNat→h.Z.getD Q (-1) =ak h t→aW 0 2 (ak h t) =true→ ∀j< (bS (ak h t)).toNat, (putAt h.Y a ds).getD (fU Q J (ak h t) +j) 0=h.Y.getD (fU Q J (ak h t) +j) 0:=by
 intro Q J et yI hJ hc' hcl' j hj
 obtain⟨i1,i2⟩ :=lq (P:=P) hcl hI
 have hl : a+ds.length≤h.Y.length:=by rw [sh.bl];omega
 have hn : ¬ (P=Q∧I=J) :=fun ⟨e1,e2⟩ =>hst (by rw [et,es,e1,e2])
 have:=y9 hcl hcl' hI hJ hc hc' hn
 exact iI hl (by omega)
theorem vV {h : Heap}{s t : Int}{a : Nat}{ds : List Int}{P I : Nat}(sh : Shape h)(k : ¬ ak h s<0)(hst : t≠s)(es : s= ((P * 4+I : Nat) : Int))(BA : I<4)(hP : P<6)(hI : I< (bq (ak h s)).toNat)(hc : h.Z.getD P (-1) =ak h s)(hcl : aW 0 2 (ak h s) =true)
  (h1 : fU P I (ak h s) ≤a) (h2 : a+ds.length≤fU P I (ak h s) + (bS (ak h s)).toNat) : bK {h with Y:=putAt h.Y a ds} t=bK h t:=by
 by_cases kt : ak h t<0
 ·have E5 : ak {h with Y:=putAt h.Y a ds} t<0:=kt
  unfold bK
  rw [if_pos kt,if_pos E5]
 ·obtain⟨Q,J,hQ,yI,et,pQ,hJ,hct,e,_⟩ :=lT kt
  have ho:=vI sh k kt hst es BA hP hI hc hcl h1 h2 Q J et yI hJ hct pQ
  have h4:=kr pQ
  rw [kW (h:= {h with Y:=putAt h.Y a ds}) (P:=Q) (I:=J) kt e,kW kt e]
  exact jD 4 (fun j hj=>ho j (by omega))
end Go.Proofs.Ytkmggglljkmjoaa
namespace Go.Proofs.Ytkmggglljkmjoaa
open Go.RowKit
structure jd (m : Mem) : Prop where
 heap : fH m.E=true
 gl : m.I.G.length=3
 ow : m.I.O.length=9
 short : ∀l∈m.I.O,l.length≤2
 rng : ∀s∈fB m.I,aW 0 23 s=true
 nd : (fB m.I).Nodup
 fg : ∀ (c : Nat) (l : List Int) (s : Int),m.I.G[c]? =some l→s∈l→fF m.E (c : Int) s=true
 fo : ∀ (k : Nat) (l : List Int) (s : Int),m.I.O[k]? =some l→s∈l→fF m.E ((k%3 : Nat) : Int) s=true
theorem qY {m : Mem}(k : bX m=true) : jd m:=by
 have hl:=iX k
 unfold dM gT at hl
 simp only [Bool.and_eq_true,beq_iff_eq,decide_eq_true_eq] at hl
 obtain⟨⟨⟨h1,h2⟩,h3⟩,h4,h5⟩ :=hl
 refine⟨l5 k,h1,h2,fun l hl=> ?_,fun s hs=>List.all_eq_true.1 h4 s hs,h5,fun c l s hr hs=> ?_,fun q l s hr hs=> ?_⟩
 ·have:=List.all_eq_true.1 h3 l hl
  simpa [iW] using this
 ·exact rT k (by have:= (List.getElem?_eq_some_iff.1 hr).1;omega) hr hs
 ·exact wZ k (by have:= (List.getElem?_eq_some_iff.1 hr).1;omega) hr hs
theorem oz {m : Mem}(p : jd m) : bX m=true:=by
 unfold bX dM gT
 simp only [Bool.and_eq_true,beq_iff_eq,decide_eq_true_eq]
 refine⟨⟨⟨p.heap, ⟨⟨p.gl,p.ow⟩, ?_⟩, ?_,p.nd⟩, ?_⟩, ?_⟩
 ·exact List.all_eq_true.2 fun l hl=>by simpa [iW] using p.short l hl
 ·exact List.all_eq_true.2 p.rng
 ·refine List.all_eq_true.2 fun c hc=>List.all_eq_true.2 fun s hs=> ?_
  have hc3:=List.mem_range.1 hc
  have hr : m.I.G[c]? =some (m.I.G[c]'(by rw [p.gl];exact hc3)) :=List.getElem?_eq_getElem _
  rw [List.getD_eq_getElem?_getD,hr] at hs
  exact p.fg c _ s hr hs
 ·refine List.all_eq_true.2 fun k hk=>List.all_eq_true.2 fun s hs=> ?_
  have zL:=List.mem_range.1 hk
  have hr : m.I.O[k]? =some (m.I.O[k]'(by rw [p.ow];exact zL)) :=List.getElem?_eq_getElem _
  rw [List.getD_eq_getElem?_getD,hr] at hs
  exact p.fo k _ s hr hs
theorem uY {x : Lists}{s : Int} : iw x s=false↔s∉fB x:=by
 rw [rC,o8,decide_eq_false_iff_not]
theorem xY {m : Mem}(p : jd m){s : Int}(h : s∈fB m.I) : ∃c : Nat,c<3∧fF m.E (c : Int) s=true:=by
 unfold fB at h
 rcases List.mem_append.1 h with h|h
 ·obtain⟨l,hl,hs⟩ :=List.mem_flatten.1 h
  obtain⟨c,hc⟩ :=List.mem_iff_getElem?.1 hl
  have:= (List.getElem?_eq_some_iff.1 hc).1
  exact⟨c,by rw [p.gl] at this;exact this,p.fg c l s hc hs⟩
 ·obtain⟨l,hl,hs⟩ :=List.mem_flatten.1 h
  obtain⟨k,hk⟩ :=List.mem_iff_getElem?.1 hl
  exact⟨k%3,by omega,p.fo k l s hk hs⟩
theorem jS {h : Heap}{c s : Int} : fF h c s=true↔ak h s=c∧bK h s≤6:=by
 unfold fF
 simp only [Bool.and_eq_true,beq_iff_eq,decide_eq_true_eq]
theorem vJ {m : Mem}{h' : Heap}(p : jd m)(ok : fH h'=true)(hf : ∀s∈fB m.I,ak h' s=ak m.E s∧ (bK m.E s≤6→bK h' s≤6)) : jd {m with E:=h'}:=by
 refine⟨ok,p.gl,p.ow,p.short,p.rng,p.nd,fun c l s hr hs=> ?_,fun k l s hr hs=> ?_⟩
 ·have hm : s∈fB m.I:=List.mem_append.2 (.inl (List.mem_flatten.2 ⟨l,List.mem_of_getElem? hr,hs⟩))
  obtain⟨e1,e2⟩ :=hf s hm
  have:=jS.1 (p.fg c l s hr hs)
  exact jS.2 ⟨e1.trans this.1,e2 this.2⟩
 ·have hm : s∈fB m.I:=List.mem_append.2 (.inr (List.mem_flatten.2 ⟨l,List.mem_of_getElem? hr,hs⟩))
  obtain⟨e1,e2⟩ :=hf s hm
  have:=jS.1 (p.fo k l s hr hs)
  exact jS.2 ⟨e1.trans this.1,e2 this.2⟩
theorem yJ {α : Type}{ll : List (List α)}{k : Nat}{l : List α}(r : List α)(hl : ll[k]? =some l) : (ll.set k (l++r)).flatten.Perm (r++ll.flatten) :=by
 induction ll generalizing k with
 |nil=>simp at hl
 |cons x xs ih=>
  cases k with
  |zero=>
   simp only [List.getElem?_cons_zero,Option.some.injEq] at hl
   subst hl
   simp only [List.set_cons_zero,List.flatten_cons]
   rw [←List.append_assoc]
   exact List.perm_append_comm.append_right _
  |succ k=>
   simp only [List.getElem?_cons_succ] at hl
   simp only [List.set_cons_succ,List.flatten_cons]
   refine((ih hl).append_left x).trans ?_
   rw [←List.append_assoc, ←List.append_assoc]
   exact List.perm_append_comm.append_right _
theorem sP {x : Lists}{k : Nat}{l : List Int}(r : List Int)(hl : x.O[k]? =some l) : (fB {x with O:=x.O.set k (l++r)}).Perm (r++fB x) :=by
 unfold fB
 simp only
 refine((yJ r hl).append_left _).trans ?_
 rw [←List.append_assoc, ←List.append_assoc]
 exact List.perm_append_comm.append_right _
theorem mo {x : Lists}{k : Nat}{l : List Int}(r : List Int)(hl : x.G[k]? =some l) : (fB {x with G:=x.G.set k (l++r)}).Perm (r++fB x) :=by
 unfold fB
 simp only
 refine((yJ r hl).append_right _).trans ?_
 rw [List.append_assoc]
theorem xk {α : Type}{ll : List α}{k : Nat}{a : α}(h : ll[k]? =some a)(b : α) : (ll.set k b).set k a=ll:=by
 rw [List.set_set]
 apply List.ext_getElem?
 intro j
 by_cases e : k=j
 ·subst e
  rw [List.getElem?_set_self (List.getElem?_eq_some_iff.1 h).1,h]
 ·rw [List.getElem?_set_ne e]
theorem qQ {α : Type}{ll : List α}{k : Nat}{a : α}(h : ll[k]? =some a)(b : α) : (ll.set k b)[k]? =some b:=List.getElem?_set_self (List.getElem?_eq_some_iff.1 h).1
theorem qZ {α : Type}{ll : List α}{k j : Nat}{b : α}{l : α}(h : (ll.set k b)[j]? =some l) : (j=k∧l=b) ∨ll[j]? =some l:=by
 by_cases e : k=j
 ·subst e
  have hk : k<ll.length:=by have:= (List.getElem?_eq_some_iff.1 h).1;simpa using this
  rw [List.getElem?_set_self hk] at h
  exact .inl ⟨rfl,by cases h;rfl⟩
 ·rw [List.getElem?_set_ne e] at h
  exact .inr h
theorem xq {m : Mem}(p : jd m){k : Nat}{l : List Int}{s : Int}(hl : m.I.O[k]? =some l)(h2 : l.length<2)(hs : aW 0 23 s=true)(hn : s∉fB m.I)(hf : fF m.E ((k%3 : Nat) : Int) s=true) : jd {m with I:= {m.I with O:=m.I.O.set k (l++ [s])}}:=by
 have hp:=sP [s] hl
 refine⟨p.heap,p.gl,by rw [List.length_set];exact p.ow,fun q hq=> ?_,fun t ht=> ?_, ?_,p.fg,fun j q t hr ht=> ?_⟩
 ·rcases List.mem_or_eq_of_mem_set hq with hq|rfl
  ·exact p.short q hq
  ·simp;omega
 ·rcases List.mem_append.1 (hp.mem_iff.1 ht) with ht|ht
  ·rw [List.mem_singleton.1 ht];exact hs
  ·exact p.rng t ht
 ·exact hp.nodup_iff.2 (List.nodup_cons.2 ⟨hn,p.nd⟩)
 ·rcases qZ hr with ⟨rfl,rfl⟩ |hr
  ·rcases List.mem_append.1 ht with ht|ht
   ·exact p.fo j l t hl ht
   ·rw [List.mem_singleton.1 ht];exact hf
  ·exact p.fo j q t hr ht
theorem nR {m : Mem}(p : jd m){k : Nat}{l r : List Int}(hl : m.I.G[k]? =some l)(hs : ∀s∈r,aW 0 23 s=true)(hn : (r++fB m.I).Nodup)(hf : ∀s∈r,fF m.E (k : Int) s=true) : jd {m with I:= {m.I with G:=m.I.G.set k (l++r)}}:=by
 have hp:=mo r hl
 refine⟨p.heap,by rw [List.length_set];exact p.gl,p.ow,p.short,fun t ht=> ?_,hp.nodup_iff.2 hn,fun j q t hr ht=> ?_,p.fo⟩
 ·rcases List.mem_append.1 (hp.mem_iff.1 ht) with ht|ht
  ·exact hs t ht
  ·exact p.rng t ht
 ·rcases qZ hr with ⟨rfl,rfl⟩ |hr
  ·rcases List.mem_append.1 ht with ht|ht
   ·exact p.fg j l t hl ht
   ·exact hf t ht
  ·exact p.fg j q t hr ht
theorem xu {m : Mem}(p : jd m){k : Nat}{l : List Int}{s : Int}(hl : m.I.O[k]? =some (l++ [s])) : jd {m with I:= {m.I with O:=m.I.O.set k l}}∧ (∀t,t∈fB m.I↔t=s∨t∈fB {m.I with O:=m.I.O.set k l}) ∧s∉fB {m.I with O:=m.I.O.set k l}:=by
 have hp:=sP (x:= {m.I with O:=m.I.O.set k l}) [s] (qQ hl l)
 simp only [xk hl] at hp
 have hnd:=List.nodup_cons.1 (hp.nodup_iff.1 p.nd)
 have hm : ∀t,t∈fB m.I↔t=s∨t∈fB {m.I with O:=m.I.O.set k l}:=fun t=>by
  have:=hp.mem_iff (a:=t)
  simp only [List.cons_append,List.nil_append,List.mem_cons] at this
  exact this
 refine⟨⟨p.heap,p.gl,by rw [List.length_set];exact p.ow,fun q hq=> ?_,fun t ht=>p.rng t ((hm t).2 (.inr ht)),hnd.2,p.fg,fun j q t hr ht=> ?_⟩,hm,hnd.1⟩
 ·rcases List.mem_or_eq_of_mem_set hq with hq|rfl
  ·exact p.short q hq
  ·have:=p.short _ (List.mem_of_getElem? hl)
   simp at this
   omega
 ·rcases qZ hr with ⟨rfl,rfl⟩ |hr
  ·exact p.fo j _ t hl (List.mem_append.2 (.inl ht))
  ·exact p.fo j q t hr ht
theorem uj {m : Mem}(p : jd m){k : Nat}{l : List Int}{s : Int}(hl : m.I.G[k]? =some (l++ [s])) : jd {m with I:= {m.I with G:=m.I.G.set k l}}∧ (∀t,t∈fB m.I↔t=s∨t∈fB {m.I with G:=m.I.G.set k l}) ∧s∉fB {m.I with G:=m.I.G.set k l}:=by
 have hp:=mo (x:= {m.I with G:=m.I.G.set k l}) [s] (qQ hl l)
 simp only [xk hl] at hp
 have hnd:=List.nodup_cons.1 (hp.nodup_iff.1 p.nd)
 have hm : ∀t,t∈fB m.I↔t=s∨t∈fB {m.I with G:=m.I.G.set k l}:=fun t=>by
  have:=hp.mem_iff (a:=t)
  simp only [List.cons_append,List.nil_append,List.mem_cons] at this
  exact this
 refine⟨⟨p.heap,by rw [List.length_set];exact p.gl,p.ow,p.short,fun t ht=>p.rng t ((hm t).2 (.inr ht)),hnd.2,fun j q t hr ht=> ?_,p.fo⟩,hm,hnd.1⟩
 rcases qZ hr with ⟨rfl,rfl⟩ |hr
 ·exact p.fg j _ t hl (List.mem_append.2 (.inl ht))
 ·exact p.fg j q t hr ht
theorem AP {L : List Int}(h : L.Nodup)(hr : ∀s∈L,aW 0 23 s=true) : L.length≤24:=by
 have : L.length≤ ((List.range 24).map fun n : Nat=> (n : Int)).length:=by
  refine h.length_le_of_subset fun s hs=> ?_
  obtain⟨a,b⟩ :=bD.1 (hr s hs)
  exact List.mem_map.2 ⟨s.toNat,List.mem_range.2 (by omega),by omega⟩
 simpa using this
theorem lu {m : Mem}(p : jd m) : dS m≤450:=by
 have sh:=gQ (iU.1 p.heap).1
 have hn:=AP p.nd p.rng
 unfold fB at hn
 rw [List.length_append,List.length_flatten,List.length_flatten] at hn
 unfold dS iK eU iJ
 rw [sh.bl,sh.cl,p.gl,p.ow]
 omega
theorem l7 {m : Mem}{h : Int} : fI m h=true↔dY h=true∧ ¬ ak m.E (h%32) <0∧ (h%32) ∉fB m.I∧bK m.E (h%32) =h / 32:=by
 constructor
 ·intro k
  obtain⟨a,b,c⟩ :=jg k
  obtain⟨b1,b2,_⟩ :=state3 b
  exact⟨a,b1,uY.1 b2,c⟩
 ·rintro⟨a,b,c,d⟩
  have hb:=jV a
  unfold fI gu
  rw [if_neg b,uY.2 c,d,a]
  simp
  omega
end Go.Proofs.Ytkmggglljkmjoaa
namespace Go.Proofs.Ytkmggglljkmjoaa
open Go.RowKit
structure Keeps (m x : Mem)(s : Int) : Prop where
 kc : ∀t,t≠s→ ¬ ak m.E t<0→ak x.E t=ak m.E t
 kg : ∀t,t≠s→ ¬ ak m.E t<0→bK x.E t=bK m.E t
 kl : ∀t,t≠s→ ¬ ak m.E t<0→ (t∈fB x.I↔t∈fB m.I)
 kb : ∀t,t≠s→ ¬ ak m.E t<0→ ∀j< (iQ (ak m.E t)).toNat,x.E.Y.getD ((kY t (ak m.E t)).toNat+j) 0=m.E.Y.getD ((kY t (ak m.E t)).toNat+j) 0
theorem Keeps.live {m x : Mem}{s h : Int}(k : Keeps m x s)(hn : h%32≠s)(hl : fI m h=true) : fI x h=true:=by
 obtain⟨a,b,c,d⟩ :=l7.1 hl
 exact l7.2 ⟨a,by rw [k.kc _ hn b];exact b,fun hm=>c ((k.kl _ hn b).1 hm),by rw [k.kg _ hn b];exact d⟩
theorem Dk {l : List Int}{x : Int}{p : Nat}(h : idxOf (fun y=>y == x) l= (p : Int)) : ∃hp : p<l.length,l[p]=x:=by
 unfold idxOf at h
 cases hx : l.findIdx? (fun y=>y == x) with
 |none=>rw [hx] at h;simp at h
 |some i=>
  rw [hx] at h
  simp at h
  obtain rfl : i=p:=by omega
  obtain⟨h1,h2,_⟩ :=List.findIdx?_eq_some_iff_getElem.1 hx
  exact⟨h1,by simpa using h2⟩
theorem AQ (l : List Int)(x : Int) : idxOf (fun y=>y == x) l= -1∨ ∃p : Nat,idxOf (fun y=>y == x) l= (p : Int) :=by
 unfold idxOf
 cases l.findIdx? (fun y=>y == x) with
 |none=>exact .inl rfl
 |some i=>exact .inr ⟨i,rfl⟩
theorem sQ {b : List Int}{p : Nat}{c : Int}(hb : b.length=384)(hp : p<6)(hc : aW 0 2 c=true)(a : Nat)(ha : a<p * 64∨p * 64+64≤a) : ∀k,k≤ (bq c).toNat→ (h_ b p c k).getD a 0=b.getD a 0
 |0,_=>by
  unfold h_
  exact iI (by simp;omega) (by simp;omega)
 |k+1,hk=>by
  have h1:=jM hc (i:=k) (by omega)
  unfold h_
  rw [iI (by rw [j_ hb hp hc k (by omega),f_];omega) (by rw [f_];omega)]
  exact sQ hb hp hc a ha k (by omega)
theorem vK {b : List Int}{p : Nat}{c : Int}(hb : b.length=384)(hp : p<6)(hc : aW 0 2 c=true)(j : Nat)(hj : j<8) : ∀k,k≤ (bq c).toNat→ (h_ b p c k).getD (p * 64+j) 0= (putAt b (p * 64) [171,c,bq c]).getD (p * 64+j) 0
 |0,_=>rfl
 |k+1,hk=>by
  have h1:=jM hc (i:=k) (by omega)
  rw [show h_ b p c (k+1) =putAt (h_ b p c k) (p * 64+8+k * (bS c).toNat) (eP 4 1) from rfl,iI (by rw [j_ hb hp hc k (by omega),f_];omega) (.inl (by omega))]
  exact vK hb hp hc j hj k (by omega)
theorem sS {b : List Int}{p : Nat}{c : Int}(hb : b.length=384)(hp : p<6)(hc : aW 0 2 c=true) : ∀k,k≤ (bq c).toNat→ ∀i<k,eB (h_ b p c k) (fU p i c) 4=1
 |0,_,i,hi=>absurd hi (by omega)
 |k+1,hk,i,hi=>by
  have h1:=jM hc (i:=k) (by omega)
  have hlen:=j_ hb hp hc k (by omega)
  have hl : p * 64+8+k * (bS c).toNat+ (eP 4 1).length≤ (h_ b p c k).length:=by rw [hlen,f_];omega
  by_cases e : i=k
  ·subst e
   refine oP 4 1 _ _ (fun j hj=> ?_) (by decide) (by decide)
   exact pO hl (by rw [f_];exact hj)
  ·have hsep:=sO (P:=p) (I:=i) (J:=k) hc e
   have h4:=kr hc
   have hk2 : fU p k c=p * 64+8+k * (bS c).toNat:=rfl
   rw [show h_ b p c (k+1) =putAt (h_ b p c k) (p * 64+8+k * (bS c).toNat) (eP 4 1) from rfl,jD 4 (fun j hj=>iI hl (by rw [f_];omega))]
   exact sS hb hp hc k (by omega) i (by omega)
theorem getD_set_ne {α : Type}{l : List α}{i j : Nat}{v d : α}(h : i≠j) : (l.set i v).getD j d=l.getD j d:=by
 rw [List.getD_eq_getElem?_getD,List.getD_eq_getElem?_getD,List.getElem?_set_ne h]
theorem rW {α : Type}{l : List α}{i : Nat}{v d : α}(h : i<l.length) : (l.set i v).getD i d=v:=by
 rw [List.getD_eq_getElem?_getD,List.getElem?_set_self h]
 rfl
theorem xZ {h : Heap}{p c : Nat}(hs : d_ h=true)(hp : p<6)(hc : c<3) : d_ (dR h p c) =true:= (rV hs hp hc).1
theorem za {h : Heap}{p c : Nat}(ok : fH h=true)(hp : p<6)(hc : c<3)(hcl : h.Z.getD p (-1) = -1) : fH (dR h p c) =true:=by
 obtain⟨hs,hpg⟩ :=iU.1 ok
 have sh:=gQ hs
 have hci : aW 0 2 (c : Int) =true:=bD.2 ⟨by omega,by omega⟩
 have hpl : p<h.Z.length:=by rw [sh.cl];exact hp
 refine iU.2 ⟨xZ hs hp hc,fun q hq=> ?_⟩
 by_cases e : p=q
 ·subst e
  have hz:=hpg p hp
  unfold eu at hz
  rw [hcl,if_pos (by decide),nQ] at hz
  have vL : (dR h p c).Z.getD p (-1) = (c : Int) :=by
   unfold dR
   exact rW hpl
  unfold eu
  rw [vL,if_neg (by omega)]
  have hh:=fun j hj=>vK (b:=h.Y) sh.bl hp hci j hj (bq (c : Int)).toNat (Nat.le_refl _)
  have hin:=fun j (hj : j<3) =>pO (b:=h.Y) (a:=p * 64) (ds:= [171, (c : Int),bq (c : Int)]) (j:=j) (by rw [sh.bl];simp;omega) (by simpa using hj)
  have hb : ∀j, (dR h p c).Y.getD j 0= (h_ h.Y p c (bq (c : Int)).toNat).getD j 0:=fun _=>rfl
  have g0:= (hh 0 (by omega)).trans (hin 0 (by omega))
  have g1:= (hh 1 (by omega)).trans (hin 1 (by omega))
  have g2:= (hh 2 (by omega)).trans (hin 2 (by omega))
  rw [Nat.add_zero] at g0
  simp only [Bool.and_eq_true]
  refine⟨⟨⟨⟨?_, ?_⟩, ?_⟩, ?_⟩, ?_⟩
  ·rw [hb,g0];rfl
  ·rw [hb,g1];simp
  ·rw [hb,g2];simp
  ·rw [nQ]
   intro j hj
   rw [hb,Nat.add_assoc,hh (3+j) (by omega),iI (by rw [sh.bl];simp;omega) (by simp<;>omega)]
   exact hz (3+j) (by omega)
  ·unfold dU
   refine List.all_eq_true.2 fun i hi=> ?_
   have:=sS (b:=h.Y) sh.bl hp hci (bq (c : Int)).toNat (Nat.le_refl _) i (List.mem_range.1 hi)
   show aW 1 7 (eB (h_ h.Y p c (bq (c : Int)).toNat) (fU p i c) 4) =true
   rw [this]
   decide
 ·have vL : (dR h p c).Z.getD q (-1) =h.Z.getD q (-1) :=by
   unfold dR
   exact getD_set_ne e
  have ho : ∀a, (a<p * 64∨p * 64+64≤a) → (dR h p c).Y.getD a 0=h.Y.getD a 0:=fun a ha=>sQ sh.bl hp hci a ha _ (Nat.le_refl _)
  refine vH vL (hpg q hq) (fun _ j hj=>ho _ (by omega)) (fun _ j hj=>ho _ (by omega)) (fun hpos i hi hold=> ?_)
  have hcl' : aW 0 2 (h.Z.getD q (-1)) =true:=bD.2 ⟨hpos, (sh.cs q).2⟩
  obtain⟨j1,j2⟩ :=lq (P:=q) hcl' hi
  have h4:=kr hcl'
  rw [jD 4 (fun j hj=>ho _ (by omega))]
  exact hold
theorem sU {P I : Nat}(hI : I<4) : (((P * 4+I : Nat) : Int) / 4).toNat=P:=by omega
theorem ze {h : Heap}{p c i : Nat}(hs : d_ h=true)(hp : p<6)(hc : c<3)(hi : i< (bq (c : Int)).toNat) : ak (dR h p c) ((p * 4+i : Nat) : Int) =c∧bK (dR h p c) ((p * 4+i : Nat) : Int) =1:=by
 have sh:=gQ hs
 have hci : aW 0 2 (c : Int) =true:=bD.2 ⟨by omega,by omega⟩
 have hpp:=lF (c : Int)
 have hca : iL (dR h p c) ((p * 4+i : Nat) : Int) =c:=by
  unfold iL
  rw [sU (by omega)]
  unfold dR
  exact rW (by rw [sh.cl];exact hp)
 have hga : fq ((p * 4+i : Nat) : Int) (c : Int) = ((fU p i c : Nat) : Int) :=by
  have hst:= (l8 (c : Int)).1
  rw [j5 (bD.2 ⟨by omega,by omega⟩) hci (by omega),show ((p * 4+i : Nat) : Int) / 4= (p : Int) by omega,show ((p * 4+i : Nat) : Int) %4= (i : Int) by omega]
  unfold fU
  simp only [Int.natCast_add,Int.natCast_mul,Int.toNat_of_nonneg hst]
  rfl
 have hcl : ak (dR h p c) ((p * 4+i : Nat) : Int) =c:=by
  unfold ak
  rw [hca,if_neg (by rw [hga];omega)]
 refine⟨hcl, ?_⟩
 rw [kW (P:=p) (I:=i) (by rw [hcl];omega) (by rw [hcl];exact hga),hcl]
 exact sS sh.bl hp hci _ (Nat.le_refl _) i hi
theorem qR {h : Heap}{p i : Nat}(hcl : h.Z.getD p (-1) = -1)(hi : i<4) : ak h ((p * 4+i : Nat) : Int) <0:=by
 unfold ak iL
 rw [sU hi,hcl]
 split<;>decide
theorem x9 {m : Mem}{p c : Nat}(ok : fH m.E=true)(hp : p<6)(hc : c<3)(hcl : m.E.Z.getD p (-1) = -1){t : Int}(kt : ¬ ak m.E t<0) : ak (dR m.E p c) t=ak m.E t∧bK (dR m.E p c) t=bK m.E t∧ (∀j< (iQ (ak m.E t)).toNat, (dR m.E p c).Y.getD ((kY t (ak m.E t)).toNat+j) 0=m.E.Y.getD ((kY t (ak m.E t)).toNat+j) 0) ∧ ∀i<4,t≠ ((p * 4+i : Nat) : Int) :=by
 have sh:=gQ (iU.1 ok).1
 have hci : aW 0 2 (c : Int) =true:=bD.2 ⟨by omega,by omega⟩
 obtain⟨Q,J,hQ,yI,et,pQ,hJ,hct,e,est⟩ :=lT kt
 have hne : p≠Q:=fun e=>by subst e;rw [hcl] at hct;have:= (bD.1 pQ).1;omega
 have ho : ∀a, (a<p * 64∨p * 64+64≤a) → (dR m.E p c).Y.getD a 0=m.E.Y.getD a 0:=fun a ha=>sQ sh.bl hp hci a ha _ (Nat.le_refl _)
 obtain⟨j1,j2⟩ :=lq (P:=Q) pQ hJ
 have hss:=nZ pQ
 have vL : ak (dR m.E p c) t=ak m.E t:=by
  unfold ak iL
  rw [et,sU yI,show (dR m.E p c).Z.getD Q (-1) =m.E.Z.getD Q (-1) from getD_set_ne hne]
 refine⟨vL, ?_,fun j hj=> ?_,fun i hi e=>kt (by rw [e];exact qR hcl hi)⟩
 ·rw [kW (P:=Q) (I:=J) (by rw [vL];exact kt) (by rw [vL];exact e),kW kt e,vL]
  exact jD 4 (fun j hj=>ho _ (by omega))
 ·rw [est,Int.toNat_natCast]
  exact ho _ (by omega)
theorem yc {p k : Nat}{t : Int} : t∈dN p k↔ ∃i<k,t= ((p * 4+i : Nat) : Int) :=by
 unfold dN
 rw [List.mem_map]
 constructor
 ·rintro⟨i,hi,rfl⟩
  exact⟨i,List.mem_range.1 hi,rfl⟩
 ·rintro⟨i,hi,rfl⟩
  exact⟨i,List.mem_range.2 hi,rfl⟩
theorem vW (p k : Nat) : (dN p k).Nodup:=by
 unfold dN
 rw [List.nodup_iff_pairwise_ne,List.pairwise_map]
 exact(List.nodup_iff_pairwise_ne.1 List.nodup_range).imp fun h e=>h (by omega)
theorem xw {p k : Nat}(hk : 0<k) : dN p k= ((p * 4 : Nat) : Int) :: (dN p k).drop 1:=by
 obtain⟨q,rfl⟩ : ∃q,k=q+1:= ⟨k - 1,by omega⟩
 unfold dN
 rw [List.range_succ_eq_map]
 simp
end Go.Proofs.Ytkmggglljkmjoaa
