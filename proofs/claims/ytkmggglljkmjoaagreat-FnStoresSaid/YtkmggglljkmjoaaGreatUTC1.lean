/-
  Several texts in one: lemmas and contracts that the claim rests on.
-/
import Derived.Test.YtkmggglljkmjoaaGreatRows
import Derived.WalkKit
import Derived.WalkSpells
import Derived.WalkLawsBesides
import Derived.ProofKit
import Derived.Deep.Draws
import Derived.Deep.OwnRows
import Derived.Deep.Slices
namespace Go.Proofs.YtkmggglljkmjoaaGreat
open Go.ChangeShapes Go.WideShapes Go.ChangeAt Go.RowKit
theorem Tryz.own : ownKnob Tryz.prog.godebug=none:=by kernel_rfl
theorem Tryz.laidOut : laidOutB Tryz.prog=true:=by kernel_rfl
theorem yM {H : Type}{enc : TypeId×Value→H}{P : Program}(hl : laidOutB P=true){W W' : World}(hb : Below W.heap.size W W') :
  ∀ (ts : List TypeId) (vs : List Value) (ds : List (DataW H)) (ps : List MemPlace),
   (ts.all fun t=>P.readableRec t&&decide (t<P.types.size)) =true→ (∀x∈ps,x.block<W.heap.size) →
   DataW.TrodAll enc P W 0 (fun _=>true) true ts vs ds ps→DataW.TrodAll enc P W' 0 (fun b=>decide (b<W.heap.size)) true ts vs ds ps
 | [], [], [],_,_,_,h=>h
 |t::ts,v::vs,d::ds,ps,hr,hlt,h=>by
  obtain⟨p,q,h1,h2,rfl⟩ :=h
  simp only [List.all_cons,Bool.and_eq_true,decide_eq_true_eq] at hr
  obtain⟨⟨hr1,hr2⟩,hr3⟩ :=hr
  exact⟨p,q,Below.trod hl hr1 hr2 h1 hb (fun x hx=>hlt x (List.mem_append.2 (.inl hx))),yM hl hb ts vs ds q hr3 (fun x hx=>hlt x (List.mem_append.2 (.inr hx))) h2,rfl⟩
 | [], [],_::_,_,_,_,h=>h.elim
 | [],_::_,_,_,_,_,h=>h.elim
 |_::_, [],_,_,_,_,h=>h.elim
 |_::_,_::_, [],_,_,_,h=>h.elim
theorem trodAll_length {H : Type}{enc : TypeId×Value→H}{P : Program}{W : World}{base : Nat}{sp : Nat→Bool}{hd : Bool} :
  ∀ (ts : List TypeId) (vs : List Value) (ds : List (DataW H)) (ps : List MemPlace),DataW.TrodAll enc P W base sp hd ts vs ds ps→ds.length=ts.length∧vs.length=ts.length
 | [], [], [],_,_=> ⟨rfl,rfl⟩
 |_::ts,_::vs,_::ds,_,h=>by
  obtain⟨p,q,_,h2,_⟩ :=h
  have:=trodAll_length ts vs ds q h2
  simp [this]
 | [], [],_::_,_,h=>h.elim
 | [],_::_,_,_,h=>h.elim
 |_::_, [],_,_,h=>h.elim
 |_::_,_::_, [],_,h=>h.elim
theorem lift {C : Checked}{os : Os}{f : FuncId}{fn : Func}{s : ChangeSpec}{H : Type}{enc : TypeId×Value→H}{conds : List PathCond}{apart handsOn : Bool}(tb : TypeId)
  (own : ownKnob C.prog.godebug=none) (hlaid : laidOutB C.prog=true) (started : os.Started) (noInit : C.prog.inits.idxOf? f=none) (hfn : C.prog.funcs[f]? =some fn)
  (witness : ∃ (w : World) (tape : Tape) (i : Input),w.os=os∧ (w.forCall tape i).Shaped C.prog∧i.vars= []∧Input.okWide C.prog (w.forCall tape i) .any w.heap.size f i∧
   s.pre6 enc C.prog fn conds apart (w.forCall tape i).memory i.args∧ ({} : Assume).holds C.prog (lone (Frame.enter C.prog f i.args .normal) [] (w.forCall tape i)))
  (hvars : s.vars= []) (hres : fn.resultTypes= #[tb]) (htb : C.prog.underlying tb=some .bool)
  (hread : (fn.params.toList.all fun t=>C.prog.readableRec t&&decide (t<C.prog.types.size)) =true)
  (hspec : ∀ds : List (DataW H),ds.length=fn.params.size→s.fn H ds= {results:= [.lit (.bool true)],args:=ds})
  (contract : ∀ (W : World) (args : Array Value) (ds : List (DataW H)) (p : List MemPlace),
   (∀ (j : Nat) t v,fn.params[j]? =some t→args[j]? =some v→ ∃base,Value.okWide C.prog W .any base t v) →
   DataW.TrodAll enc C.prog W 0 (fun _=>true) true fn.params.toList args.toList ds p→
   Calls C.prog f args W fun e W'=>e= .returned (.bool true) ∧Below W.heap.size W W') :
  ReturnsInHanded {} C os f .any (s.pre6 enc C.prog fn conds apart) (s.post enc C.prog fn apart true handsOn false) :=by
 refine returnsInHanded_of_change own started noInit hfn witness ?_
 intro W base args ds gs before hval hW _ _
 have hW':=hW
 obtain⟨p,q,hA,hV,rfl,hfz,hnd⟩ :=hW
 have hV':=hV
 rw [hvars] at hV'
 obtain⟨rfl,rfl⟩ :=trodVars_none hV'
 refine(contract W args ds p (fun j t v h1 h2=> ⟨base,hval j t v h1 h2⟩) hA).mono fun e W' ⟨he,hb⟩ => ?_
 have hlen : ds.length=fn.params.size:=by
  simpa using (trodAll_length _ _ _ _ hA).1
 have hs:=hspec ds hlen
 refine⟨_,he,ds, [],p++ [], [],p, [],hW', ?_, ?_, ?_,hb.frame _,fun h=>by cases h⟩
 ·rw [List.append_nil,hs,hres]
  exact trodAll_mk1 (shut_bool htb true)
 ·rw [List.append_nil,hs]
  exact yM hlaid hb _ _ _ _ hread (fun x hx=>hW'.lt x (by simpa using hx)) hA
 ·rw [hvars,List.append_nil,hs]
  simp [DataW.TrodVars]
end Go.Proofs.YtkmggglljkmjoaaGreat
namespace Go.Proofs.YtkmggglljkmjoaaGreat
open Go.RowKit
def gZ (x : Int) : Prop:= -9223372036854775808≤x∧x≤9223372036854775807
def grow (w : World)(os : List Obj)(d : Nat) : World:= {w with heap:=w.heap++os.toArray,drawn:=d}
section
variable (w : World) (os os' : List Obj) (d d' : Nat)
@[go_sem,simp] theorem size_grow : (grow w os d).heap.size=w.heap.size+os.length:=by simp [grow]
theorem za (k : Nat)(h : k<w.heap.size) : (grow w os d).heap[k]? =w.heap[k]? :=by
 show (w.heap++os.toArray)[k]? =_
 rw [Array.getElem?_append,if_pos h]
@[go_sem] theorem cell?_grow (n i : Nat) (hn : n<w.heap.size) : (grow w os d).cell? ⟨n,i,none⟩ =w.cell? ⟨n,i,none⟩ :=by
 simp [World.cell?,za w os d n hn]
@[go_sem] theorem frozen?_grow (n i : Nat) (hn : n<w.heap.size) : (grow w os d).frozen? ⟨n,i,none⟩ =w.frozen? ⟨n,i,none⟩ :=by
 simp [World.frozen?,za w os d n hn]
@[go_sem] theorem setCell_grow (n i : Nat) (v : Value) (hn : n<w.heap.size) : (grow w os d).setCell ⟨n,i,none⟩ v=grow (w.setCell ⟨n,i,none⟩ v) os d:=by
 unfold grow World.setCell
 congr 1
 apply Array.ext_getElem?
 intro k
 simp only [Array.getElem?_modify,Array.getElem?_append,Array.size_modify]
 by_cases hk : k<w.heap.size
 ·simp [hk]
 ·have : ¬ n=k:=by omega
  simp [hk,this]
@[go_sem] theorem drew_grow : (grow w os d).drew=grow w os (d+1) :=rfl
@[go_sem] theorem MN (n : Nat) : (grow w os d).drewN n=grow w os (d+n) :=rfl
@[go_sem] theorem MV : grow w.drew os d=grow w os d:=rfl
@[go_sem] theorem MO (n : Nat) : grow (w.drewN n) os d=grow w os d:=rfl
@[go_sem,simp] theorem tape_grow : (grow w os d).tape=w.tape:=rfl
theorem below_grow : Below w.heap.size w (grow w os d) := ⟨rfl,rfl,rfl,by simp,fun k hk=>za w os d k hk⟩
end
theorem dA {B : Nat}{a w : World}(h : Below B a w)(hB : B≤w.heap.size)(os : List Obj)(d : Nat) : Below B a (grow w os d) :=
 h.trans ((below_grow w os d).mono hB)
theorem below_drewN {B : Nat}{a w : World}(h : Below B a w)(n : Nat) : Below B a (w.drewN n) :=h.trans ⟨rfl,rfl,rfl,Nat.le_refl _,fun _ _=>rfl⟩
theorem dJ {B : Nat}{a b : World}(h : Below B a b:=by repeat (first|exact Below.refl _ _|refine Below.alloc ?_ (by simp<;>omega) _|refine dA ?_ (by simp<;>omega) _ _|refine Below.drew ?_|refine below_drewN ?_ _)) : Below B a b:=h
theorem dQ {B : Nat}{a b : World}(h : Below B a b:=by repeat (first|with_reducible exact Below.refl _ _|with_reducible refine Below.setCell ?_ (by simp<;>omega) _|with_reducible refine Below.alloc ?_ (by simp<;>omega) _|with_reducible refine Below.drew ?_)) : Below B a b:=h
theorem lS {w w' : World}(h : Below w.heap.size w w') : ∃os d,w'=grow w os d:=by
 refine⟨w'.heap.toList.drop w.heap.size,w'.drawn, ?_⟩
 obtain⟨h1,h2,h3,h4,h5⟩ :=h
 have hh : w'.heap=w.heap++ (w'.heap.toList.drop w.heap.size).toArray:=by
  apply Array.ext_getElem?
  intro k
  rw [Array.getElem?_append]
  by_cases hk : k<w.heap.size
  ·rw [if_pos hk,h5 k hk]
  ·rw [if_neg hk]
   simp only [List.getElem?_toArray,List.getElem?_drop,Array.getElem?_toList]
   rw [show w.heap.size+ (k - w.heap.size) =k by omega]
 cases w'
 cases w
 simp only [grow] at *
 subst h1 h2 h3
 rw [←hh]
@[go_sem] theorem N_ (a b : Nat) : (0<a+b) ↔ (0<a∨0<b) :=by omega
@[go_sem] theorem PD (a b1 b2 : Nat) : (a<a+b1+b2) ↔ (0<b1+b2) :=by omega
@[go_sem] theorem PE (a b1 b2 : Nat) : (a+b1+b2=a) ↔ (b1+b2=0) :=by omega
@[go_sem] theorem PG (a b1 b2 : Nat) : (a=a+b1+b2) ↔ (b1+b2=0) :=by omega
@[go_sem] theorem PI (a b1 b2 b3 : Nat) : (a<a+b1+b2+b3) ↔ (0<b1+b2+b3) :=by omega
@[go_sem] theorem PK (a b1 b2 b3 : Nat) : (a+b1+b2+b3=a) ↔ (b1+b2+b3=0) :=by omega
@[go_sem] theorem PL (a b1 b2 b3 : Nat) : (a=a+b1+b2+b3) ↔ (b1+b2+b3=0) :=by omega
@[go_sem] theorem PN (a b1 b2 b3 b4 : Nat) : (a<a+b1+b2+b3+b4) ↔ (0<b1+b2+b3+b4) :=by omega
@[go_sem] theorem PO (a b1 b2 b3 b4 : Nat) : (a+b1+b2+b3+b4=a) ↔ (b1+b2+b3+b4=0) :=by omega
@[go_sem] theorem PS (a b1 b2 b3 b4 : Nat) : (a=a+b1+b2+b3+b4) ↔ (b1+b2+b3+b4=0) :=by omega
@[go_sem] theorem PU (a b1 b2 b3 b4 b5 : Nat) : (a<a+b1+b2+b3+b4+b5) ↔ (0<b1+b2+b3+b4+b5) :=by omega
@[go_sem] theorem PV (a b1 b2 b3 b4 b5 : Nat) : (a+b1+b2+b3+b4+b5=a) ↔ (b1+b2+b3+b4+b5=0) :=by omega
@[go_sem] theorem PW (a b1 b2 b3 b4 b5 : Nat) : (a=a+b1+b2+b3+b4+b5) ↔ (b1+b2+b3+b4+b5=0) :=by omega
@[go_sem] theorem PX (a b1 b2 b3 b4 b5 b6 : Nat) : (a<a+b1+b2+b3+b4+b5+b6) ↔ (0<b1+b2+b3+b4+b5+b6) :=by omega
@[go_sem] theorem PY (a b1 b2 b3 b4 b5 b6 : Nat) : (a+b1+b2+b3+b4+b5+b6=a) ↔ (b1+b2+b3+b4+b5+b6=0) :=by omega
@[go_sem] theorem PZ (a b1 b2 b3 b4 b5 b6 : Nat) : (a=a+b1+b2+b3+b4+b5+b6) ↔ (b1+b2+b3+b4+b5+b6=0) :=by omega
@[go_sem] theorem P5 (a b1 b2 b3 b4 b5 b6 b7 : Nat) : (a<a+b1+b2+b3+b4+b5+b6+b7) ↔ (0<b1+b2+b3+b4+b5+b6+b7) :=by omega
@[go_sem] theorem P6 (a b1 b2 b3 b4 b5 b6 b7 : Nat) : (a+b1+b2+b3+b4+b5+b6+b7=a) ↔ (b1+b2+b3+b4+b5+b6+b7=0) :=by omega
@[go_sem] theorem P7 (a b1 b2 b3 b4 b5 b6 b7 : Nat) : (a=a+b1+b2+b3+b4+b5+b6+b7) ↔ (b1+b2+b3+b4+b5+b6+b7=0) :=by omega
@[go_sem] theorem P8 (a b1 b2 b3 b4 b5 b6 b7 b8 : Nat) : (a<a+b1+b2+b3+b4+b5+b6+b7+b8) ↔ (0<b1+b2+b3+b4+b5+b6+b7+b8) :=by omega
@[go_sem] theorem P9 (a b1 b2 b3 b4 b5 b6 b7 b8 : Nat) : (a+b1+b2+b3+b4+b5+b6+b7+b8=a) ↔ (b1+b2+b3+b4+b5+b6+b7+b8=0) :=by omega
@[go_sem] theorem P_ (a b1 b2 b3 b4 b5 b6 b7 b8 : Nat) : (a=a+b1+b2+b3+b4+b5+b6+b7+b8) ↔ (b1+b2+b3+b4+b5+b6+b7+b8=0) :=by omega
@[go_sem] theorem Qa (a b1 b2 b3 b4 b5 b6 b7 b8 b9 : Nat) : (a<a+b1+b2+b3+b4+b5+b6+b7+b8+b9) ↔ (0<b1+b2+b3+b4+b5+b6+b7+b8+b9) :=by omega
@[go_sem] theorem Qb (a b1 b2 b3 b4 b5 b6 b7 b8 b9 : Nat) : (a+b1+b2+b3+b4+b5+b6+b7+b8+b9=a) ↔ (b1+b2+b3+b4+b5+b6+b7+b8+b9=0) :=by omega
@[go_sem] theorem Qc (a b1 b2 b3 b4 b5 b6 b7 b8 b9 : Nat) : (a=a+b1+b2+b3+b4+b5+b6+b7+b8+b9) ↔ (b1+b2+b3+b4+b5+b6+b7+b8+b9=0) :=by omega
@[go_sem] theorem Pm (a b1 b2 b3 b4 b5 b6 b7 b8 b9 b10 : Nat) : (a<a+b1+b2+b3+b4+b5+b6+b7+b8+b9+b10) ↔ (0<b1+b2+b3+b4+b5+b6+b7+b8+b9+b10) :=by omega
@[go_sem] theorem Pn (a b1 b2 b3 b4 b5 b6 b7 b8 b9 b10 : Nat) : (a+b1+b2+b3+b4+b5+b6+b7+b8+b9+b10=a) ↔ (b1+b2+b3+b4+b5+b6+b7+b8+b9+b10=0) :=by omega
@[go_sem] theorem Po (a b1 b2 b3 b4 b5 b6 b7 b8 b9 b10 : Nat) : (a=a+b1+b2+b3+b4+b5+b6+b7+b8+b9+b10) ↔ (b1+b2+b3+b4+b5+b6+b7+b8+b9+b10=0) :=by omega
@[go_sem] theorem Pp (a b1 b2 b3 b4 b5 b6 b7 b8 b9 b10 b11 : Nat) : (a<a+b1+b2+b3+b4+b5+b6+b7+b8+b9+b10+b11) ↔ (0<b1+b2+b3+b4+b5+b6+b7+b8+b9+b10+b11) :=by omega
@[go_sem] theorem Pq (a b1 b2 b3 b4 b5 b6 b7 b8 b9 b10 b11 : Nat) : (a+b1+b2+b3+b4+b5+b6+b7+b8+b9+b10+b11=a) ↔ (b1+b2+b3+b4+b5+b6+b7+b8+b9+b10+b11=0) :=by omega
@[go_sem] theorem Pt (a b1 b2 b3 b4 b5 b6 b7 b8 b9 b10 b11 : Nat) : (a=a+b1+b2+b3+b4+b5+b6+b7+b8+b9+b10+b11) ↔ (b1+b2+b3+b4+b5+b6+b7+b8+b9+b10+b11=0) :=by omega
@[go_sem] theorem Pv (a b1 b2 b3 b4 b5 b6 b7 b8 b9 b10 b11 b12 : Nat) : (a<a+b1+b2+b3+b4+b5+b6+b7+b8+b9+b10+b11+b12) ↔ (0<b1+b2+b3+b4+b5+b6+b7+b8+b9+b10+b11+b12) :=by omega
@[go_sem] theorem Pw (a b1 b2 b3 b4 b5 b6 b7 b8 b9 b10 b11 b12 : Nat) : (a+b1+b2+b3+b4+b5+b6+b7+b8+b9+b10+b11+b12=a) ↔ (b1+b2+b3+b4+b5+b6+b7+b8+b9+b10+b11+b12=0) :=by omega
@[go_sem] theorem Px (a b1 b2 b3 b4 b5 b6 b7 b8 b9 b10 b11 b12 : Nat) : (a=a+b1+b2+b3+b4+b5+b6+b7+b8+b9+b10+b11+b12) ↔ (b1+b2+b3+b4+b5+b6+b7+b8+b9+b10+b11+b12=0) :=by omega
@[go_sem] theorem Oa (a b c : Nat) (h : a<b) : (a<b+c) =True:=by simp;omega
@[go_sem] theorem Ob (a b c : Nat) (h : a≤b) : (a≤b+c) =True:=by simp;omega
@[go_sem] theorem Oc (a b c : Nat) (h : a<b) : (a=b+c) =False:=by simp;omega
@[go_sem] theorem Nu (a b c : Nat) (h : a<b) : (b+c=a) =False:=by simp;omega
@[go_sem] theorem K_ (B : Nat) (a w : World) : Below B a w.drew=Below B a w:=propext ⟨fun h=> ⟨h.os,h.tape,h.output,h.size,h.block⟩,fun h=>h.drew⟩
@[go_sem] theorem Km (B : Nat) (a w : World) (n : Nat) : Below B a (w.drewN n) =Below B a w:=propext ⟨fun h=> ⟨h.os,h.tape,h.output,h.size,h.block⟩,fun h=>below_drewN h n⟩
theorem qW {P : Program}{t e : TypeId}{len : Nat}(ht : P.underlying t=some (.array len e))(hag : ∀w, (isAgg e).run P w= .ok false w)
  (hs : (P.info? e).map (·.size) =some 1) (cs : Array Value) (i : Int) (h0 : 0≤i) (h : i<len) (v : Value) (hv : cs[i.toNat]? =some v) (w : World) :
  (Instr.index t (.agg cs) (.int .i64 i)).run P w= .ok v w:=by
 obtain⟨inf,hi,hz⟩ :=Option.map_eq_some_iff.1 hs
 simp [Instr.index,asIntOf,run_underlying ht,h0,h,sizeOf,typeInfo,hi,hz,part,hag,hv]
theorem dN {a b : Int}(h : a=b) : Ending.returned (.int .i64 a) = .returned (.int .i64 b) :=by rw [h]
theorem bK {a b : Bool}(h : a=b) : Ending.returned (.bool a) = .returned (.bool b) :=by rw [h]
theorem Hid.aT {p : Prop}(h : p) : Hid p:=h
end Go.Proofs.YtkmggglljkmjoaaGreat
namespace Go.Proofs.YtkmggglljkmjoaaGreat
open Go.RowKit
structure FT (α : Type) where
 n : Nat
 enc : α→List Value
 dflt : α
 len : ∀x, (enc x).length=n
 one : ∀x, ∀u∈enc x,u.oneCell'=true
 pos : 0<n
 small : n≤32
variable {α : Type} {T : FT α} {w w' : World} {B B' : Nat} {e : TypeId} {v : Value} {l : List α}
def flat (T : FT α)(l : List α) : List Value:=l.flatMap T.enc
theorem nu (T : FT α)(l : List α) : (flat T l).length=l.length * T.n:=by
 induction l with
 |nil=>simp [flat]
 |cons x l ih=>
  have h : flat T (x::l) =T.enc x++flat T l:=rfl
  rw [h,List.length_append,ih,T.len,List.length_cons,Nat.succ_mul]
  omega
theorem wS (T : FT α)(l m : List α) : flat T (l++m) =flat T l++flat T m:=by simp [flat]
theorem flat_get (T : FT α) : ∀ (l : List α) (k j : Nat) (x : α),l[k]? =some x→j<T.n→ (flat T l)[k * T.n+j]? = (T.enc x)[j]?
 | [],k,j,x,h,_=>by simp at h
 |y::l,0,j,x,h,hj=>by
  simp only [List.getElem?_cons_zero,Option.some.injEq] at h
  subst h
  show (T.enc y++flat T l)[0 * T.n+j]? =_
  rw [Nat.zero_mul,Nat.zero_add,List.getElem?_append,if_pos (by rw [T.len];exact hj)]
 |y::l,k+1,j,x,h,hj=>by
  simp only [List.getElem?_cons_succ] at h
  have ih:=flat_get T l k j x h hj
  show (T.enc y++flat T l)[(k+1) * T.n+j]? =_
  rw [List.getElem?_append,if_neg (by rw [T.len,Nat.succ_mul];omega),T.len, ←ih]
  congr 1
  rw [Nat.succ_mul]
  omega
theorem JM (T : FT α)(l : List α)(k j : Nat)(x y : α)(u : Value)(hx : l[k]? =some x)(hj : j<T.n)(hy : T.enc y= (T.enc x).set j u) :
  flat T (l.set k y) = (flat T l).set (k * T.n+j) u:=by
 induction l generalizing k with
 |nil=>simp at hx
 |cons z l ih=>
  cases k with
  |zero=>
   simp only [List.getElem?_cons_zero,Option.some.injEq] at hx
   subst hx
   show T.enc y++flat T l= (T.enc z++flat T l).set (0 * T.n+j) u
   rw [hy,Nat.zero_mul,Nat.zero_add,List.set_append,if_pos (by rw [T.len];exact hj)]
  |succ k=>
   simp only [List.getElem?_cons_succ] at hx
   show T.enc z++flat T (l.set k y) = (T.enc z++flat T l).set ((k+1) * T.n+j) u
   rw [List.set_append,if_neg (by rw [T.len,Nat.succ_mul];omega),T.len,ih k hx]
   congr 2
   rw [Nat.succ_mul]
   omega
def fE (T : FT α)(w : World)(B : Nat)(v : Value)(l : List α) : Prop:=
 ∃A cap,v= .slice A l.length cap∧l.length≤cap∧cap≤maxLen∧
  (l≠ []→ ∃g off,A=some ⟨g,off,none⟩ ∧g<B∧ ∀j u, (flat T l)[j]? =some u→w.cell? ⟨g,off+j,none⟩ =some u)
def bA (T : FT α)(e : TypeId)(w : World)(v : Value)(l : List α) : Prop:=w.ownsRow 0 e T.n v l.length (flat T l)
theorem fE.Dr : fE T w B (.slice none 0 0) []:= ⟨none,0,rfl,Nat.le_refl _,by simp [maxLen],fun h=>absurd rfl h⟩
theorem fE.keep (h : fE T w B v l)(hk : ∀k,k<B→w'.heap[k]? =w.heap[k]?)(hB : B≤B') : fE T w' B' v l:=by
 obtain⟨A,cap,hv,h1,h2,h3⟩ :=h
 refine⟨A,cap,hv,h1,h2,fun hl=> ?_⟩
 obtain⟨g,off,hA,hg,hc⟩ :=h3 hl
 refine⟨g,off,hA,by omega,fun j u hu=> ?_⟩
 rw [←hc j u hu]
 simp [World.cell?,hk g hg]
theorem fE.aH (h : fE T w B v l)(hB : B≤w.heap.size)(hB' : B≤B')(o : Obj) : fE T (w.alloc o) B' v l:=
 h.keep (fun k hk=>Below.heap_alloc w o k (by omega)) hB'
theorem fE.below (h : fE T w B v l)(hb : Below B w w') : fE T w' B v l:=h.keep hb.block (Nat.le_refl _)
theorem fE.at_ (h : fE T w B v l){k : Nat}{x : α}(hx : l[k]? =some x) :
  ∃g off cap,v= .slice (some ⟨g,off,none⟩) l.length cap∧g<B∧l.length≤cap∧cap≤maxLen∧ ∀j u, (T.enc x)[j]? =some u→w.cell? ⟨g,off+ (k * T.n+j),none⟩ =some u:=by
 obtain⟨A,cap,hv,h1,h2,h3⟩ :=h
 have hl : l≠ []:=by rintro rfl;simp at hx
 obtain⟨g,off,rfl,hg,hc⟩ :=h3 hl
 refine⟨g,off,cap,hv,hg,h1,h2,fun j u hu=>hc _ u ?_⟩
 have hj : j<T.n:=by
  have:= (List.getElem?_eq_some_iff.1 hu).1
  rw [T.len] at this
  exact this
 rw [flat_get T l k j x hx hj]
 exact hu
theorem bA.form (h : bA T e w v l) : (v= .slice none 0 0∧l= []) ∨ ∃g cap,v= .slice (some ⟨g,0,none⟩) l.length cap∧g<w.heap.size∧l.length≤cap∧cap≤maxLen:=by
 rcases h.2 with ⟨rfl,hn⟩ | ⟨g,cap,cur,rfl,_,hh,h1,h2,_⟩
 ·exact .inl ⟨rfl,List.eq_nil_of_length_eq_zero hn⟩
 ·refine .inr ⟨g,cap,rfl, ?_,h1,h2⟩
  rcases Nat.lt_or_ge g w.heap.size with hlt|hge
  ·exact hlt
  ·rw [Array.getElem?_eq_none hge] at hh;cases hh
theorem bA.rd (h : bA T e w v l)(hB : ∀g,v.ownBlock=some g→g<B) : fE T w B v l:=by
 rcases h.2 with ⟨rfl,hn⟩ | ⟨g,cap,cur,rfl,_,hh,h1,h2,h3,h4⟩
 ·have hl : l= []:=List.eq_nil_of_length_eq_zero hn
  subst hl
  exact fE.Dr
 ·refine⟨_,cap,rfl,h1,h2,fun _=> ⟨g,0,rfl,hB g rfl,fun j u hu=> ?_⟩⟩
  have:=h.cells (g:=g) rfl j u hu
  have e0 : ((⟨g,0,none⟩ : Addr).add j) = ⟨g,0+j,none⟩ :=by
   unfold Addr.add
   by_cases hj : j=0<;>simp [hj]
  rw [e0] at this
  exact this
theorem bA.rd' (h : bA T e w v l) : fE T w w.heap.size v l:=h.rd fun _ hg=> (World.ownsRow.lt h _ hg).2
theorem bA.keep (h : bA T e w v l)(hk : ∀g,v.ownBlock=some g→w'.heap[g]? =w.heap[g]?) : bA T e w' v l:=by
 refine⟨h.1, ?_⟩
 rcases h.2 with h2| ⟨g,cap,cur,hv,hg,hh,r⟩
 ·exact .inl h2
 ·refine .inr ⟨g,cap,cur,hv,hg, ?_,r⟩
  rw [hk g (by rw [hv];rfl)]
  exact hh
theorem bA.aH (h : bA T e w v l)(o : Obj) : bA T e (w.alloc o) v l:=
 h.keep fun g hg=>Below.heap_alloc w o g (World.ownsRow.lt h g hg).2
theorem bA.len_eq {g n c : Nat}(h : bA T e w (.slice (some ⟨g,0,none⟩) n c) l) : n=l.length:=by
 rcases h.2 with ⟨h',_⟩ | ⟨g',cap',cur,h',_⟩
 ·simp at h'
 ·injection h'
theorem bA.gD {g n c : Nat}(h : bA T e w (.slice (some ⟨g,0,none⟩) n c) l){k j : Nat}{x y : α}{u : Value}(hx : l[k]? =some x)(hj : j<T.n)(hy : T.enc y= (T.enc x).set j u) :
  bA T e (w.setCell ⟨g,k * T.n+j,none⟩ u) (.slice (some ⟨g,0,none⟩) n c) (l.set k y) :=by
 obtain rfl:=h.len_eq
 have hs:= (World.ownsRow.stored (w:=w) (g:=g) h (k * T.n+j) u).1
 rw [←JM T l k j x y u hx hj hy] at hs
 unfold bA
 rw [List.length_set]
 exact hs
theorem bA.cell_ {g n c : Nat}(h : bA T e w (.slice (some ⟨g,0,none⟩) n c) l){k j : Nat}{x : α}(hx : l[k]? =some x)(hj : j<T.n) :
  w.cell? ⟨g,k * T.n+j,none⟩ = (T.enc x)[j]? :=by
 obtain rfl:=h.len_eq
 have hk : k<l.length:= (List.getElem?_eq_some_iff.1 hx).1
 rw [World.ownsRow.cellAt (w:=w) h (k * T.n+j) (by
  calc k * T.n+j<k * T.n+T.n:=by omega
   _= (k+1) * T.n:=by rw [Nat.succ_mul]
   _≤l.length * T.n:=Nat.mul_le_mul_right _ hk),flat_get T l k j x hx hj]
theorem bA.eD {g n c : Nat}(h : bA T e w (.slice (some ⟨g,0,none⟩) n c) l)(j : Nat) : w.frozen? ⟨g,j,none⟩ =false:=by
 obtain rfl:=h.len_eq
 exact World.ownsRow.frozenAt (w:=w) h j
theorem Dt (T : FT α)(z : Array Value)(hz : z.toList=T.enc T.dflt)(n : Nat) : (madeCells z (n * T.n)).toList=flat T (List.replicate n T.dflt) :=by
 have hzs : z.size=T.n:=by rw [←Array.length_toList,hz,T.len]
 apply List.ext_getElem?
 intro i
 by_cases hi : i<n * T.n
 ·have hp:=T.pos
  have hq : i / T.n<n:=by rw [Nat.div_lt_iff_lt_mul hp];exact hi
  have hm : i%T.n<T.n:=Nat.mod_lt _ hp
  have hx : (List.replicate n T.dflt)[i / T.n]? =some T.dflt:=by simp [hq]
  have:=flat_get T (List.replicate n T.dflt) (i / T.n) (i%T.n) T.dflt hx hm
  rw [show i / T.n * T.n+i%T.n=i from by rw [Nat.mul_comm];exact Nat.div_add_mod i T.n] at this
  rw [this, ←hz]
  simp only [madeCells,Array.toList_map,Array.toList_range,List.getElem?_map,List.getElem?_range hi,Option.map_some,hzs]
  rw [getElem!_pos z (i%T.n) (by omega)]
  simp [hzs,hm]
 ·rw [List.getElem?_eq_none (by simp [size_madeCells];omega),List.getElem?_eq_none (by rw [nu,List.length_replicate];omega)]
theorem bA.made (T : FT α)(z : Array Value)(hz : z.toList=T.enc T.dflt)(n : Nat)(hn : n≤maxLen)(w : World)(e : TypeId) :
  bA T e (w.alloc (.cells (madeCells z (n * T.n)) e)) (.slice (some ⟨w.heap.size,0,none⟩) n n) (List.replicate n T.dflt) :=by
 have h:=World.ownsRow_lit (base:=0) (e:=e) (size:=T.n) w (madeCells z (n * T.n)) n (Nat.zero_le _) hn (size_madeCells _ _)
 rw [Dt T z hz n] at h
 unfold bA
 rw [List.length_replicate]
 exact h
theorem l7 {P : Program}(T : FT α)(t e : TypeId)(z : Value)(bytes : Nat)(ht : P.underlying t=some (.slice e))(hinfo : (P.info? e).map (fun i=> (i.zero,i.size,i.bytes)) =some (some z,T.n,bytes))
  (n : Nat) (hbytes : bytes * n≤281474976710656) (h63 : n≤9223372036854775807) (w : World) :
  (Instr.makeSlice t (.int .i64 (n : Int)) (.int .i64 (n : Int))).run P w= .ok (.slice (some ⟨w.heap.size,0,none⟩) n n) (w.alloc (.cells (madeCells z.cells (n * T.n)) e)) :=by
 obtain⟨i,hi,hzz⟩ :=Option.map_eq_some_iff.1 hinfo
 simp only [Prod.mk.injEq] at hzz
 obtain⟨hz,hs,hb⟩ :=hzz
 subst hb
 have hb' : (i.bytes : Int) * (n : Int) ≤281474976710656:=by
  have h : ((i.bytes * n : Nat) : Int) ≤281474976710656:=by omega
  rwa [Int.natCast_mul] at h
 have hr:=run_make (P:=P) w t e i z ht hi hz .i64 .i64 n n (by omega) (Int.le_refl _) hb' (by omega)
 simp only [Int.toNat_natCast,hs] at hr
 exact hr
end Go.Proofs.YtkmggglljkmjoaaGreat
namespace Go.Proofs.YtkmggglljkmjoaaGreat
open Go.RowKit
structure SV where
 a : Option Addr
 l : Nat
 c : Nat
def SV.val (s : SV) : Value:= .slice s.a s.l s.c
def FS : FT SV:= {n:=1,enc:=fun s=> [.slice s.a s.l s.c],dflt:= ⟨none,0,0⟩,len:=fun _=>rfl,one:=by intro x u hu;simp at hu;subst hu;rfl,pos:=by decide,small:=by decide}
variable {α : Type} {T : FT α} {w w' : World} {B B' : Nat} {e E : TypeId} {v : Value} {ll : List (List α)} {fF : List SV}
def cu (v : Value) : List Nat:=v.ownBlock.toList
def dH (v : Value)(fF : List SV) : List Nat:=cu v++fF.flatMap fun s=>cu s.val
structure jl (T : FT α)(w : World)(B : Nat)(v : Value)(fF : List SV)(ll : List (List α)) : Prop where
 len : fF.length=ll.length
 outer : fE FS w B v fF
 inner : ∀ (k : Nat) (s : SV) (l : List α),fF[k]? =some s→ll[k]? =some l→fE T w B s.val l
structure dR (T : FT α)(e E : TypeId)(w : World)(v : Value)(fF : List SV)(ll : List (List α)) : Prop where
 len : fF.length=ll.length
 outer : bA FS E w v fF
 inner : ∀ (k : Nat) (s : SV) (l : List α),fF[k]? =some s→ll[k]? =some l→bA T e w s.val l
 nodup : (dH v fF).Nodup
theorem bV {v : Value}{g : Nat} : g∈cu v↔v.ownBlock=some g:=by simp [cu,eq_comm]
theorem cZ {v : Value}{fF : List SV}{g : Nat} : g∈dH v fF↔v.ownBlock=some g∨ ∃s∈fF,s.val.ownBlock=some g:=by
 simp [dH,bV]
theorem jl.keep (h : jl T w B v fF ll)(hk : ∀k,k<B→w'.heap[k]? =w.heap[k]?)(hB : B≤B') : jl T w' B' v fF ll:=
 ⟨h.len,h.outer.keep hk hB,fun k s l h1 h2=> (h.inner k s l h1 h2).keep hk hB⟩
theorem jl.aH (h : jl T w B v fF ll)(hB : B≤w.heap.size)(hB' : B≤B')(o : Obj) : jl T (w.alloc o) B' v fF ll:=
 h.keep (fun k hk=>Below.heap_alloc w o k (by omega)) hB'
theorem jl.below (h : jl T w B v fF ll)(hb : Below B w w') : jl T w' B v fF ll:=h.keep hb.block (Nat.le_refl _)
theorem jl.Dr : jl T w B (.slice none 0 0) [] []:= ⟨rfl,fE.Dr,fun k s l h=>by simp at h⟩
theorem dR.lt (h : dR T e E w v fF ll) : ∀g∈dH v fF,g<w.heap.size:=by
 intro g hg
 rcases cZ.1 hg with h1| ⟨s,hs,h1⟩
 ·exact(World.ownsRow.lt h.outer _ h1).2
 ·obtain⟨k,hk,hks⟩ :=List.getElem_of_mem hs
  have hl : k<ll.length:=by rw [←h.len];exact hk
  exact(World.ownsRow.lt (h.inner k s ll[k] (by rw [List.getElem?_eq_getElem hk,hks]) (List.getElem?_eq_getElem hl)) _ h1).2
theorem dR.rd (h : dR T e E w v fF ll)(hB : ∀g∈dH v fF,g<B) : jl T w B v fF ll:=
 ⟨h.len,h.outer.rd fun g hg=>hB g (cZ.2 (.inl hg)),fun k s l h1 h2=> (h.inner k s l h1 h2).rd fun g hg=>hB g (cZ.2 (.inr ⟨s,List.mem_of_getElem? h1,hg⟩))⟩
theorem dR.rd' (h : dR T e E w v fF ll) : jl T w w.heap.size v fF ll:=h.rd h.lt
theorem dR.keep (h : dR T e E w v fF ll)(hk : ∀g∈dH v fF,w'.heap[g]? =w.heap[g]?) : dR T e E w' v fF ll:=
 ⟨h.len,h.outer.keep fun g hg=>hk g (cZ.2 (.inl hg)),fun k s l h1 h2=> (h.inner k s l h1 h2).keep fun g hg=>hk g (cZ.2 (.inr ⟨s,List.mem_of_getElem? h1,hg⟩)),h.nodup⟩
theorem dR.aH (h : dR T e E w v fF ll)(o : Obj) : dR T e E (w.alloc o) v fF ll:=
 h.keep fun g hg=>Below.heap_alloc w o g (h.lt g hg)
theorem Ci : ∀ {fF : List SV}, (fF.flatMap fun s=>cu s.val).Nodup→ ∀ {i k : Nat} {s s' : SV} {g : Nat},fF[i]? =some s→fF[k]? =some s'→i≠k→s.val.ownBlock=some g→s'.val.ownBlock=some g→False
 | [],_,i,k,s,s',g,hi,_,_,_,_=>by simp at hi
 |x::xs,hn,i,k,s,s',g,hi,hk,hne,hs,hs'=>by
  rw [List.flatMap_cons,List.nodup_append] at hn
  obtain⟨_,h2,h3⟩ :=hn
  cases i with
  |zero=>
   cases k with
   |zero=>exact hne rfl
   |succ k=>
    simp only [List.getElem?_cons_zero,Option.some.injEq] at hi
    subst hi
    simp only [List.getElem?_cons_succ] at hk
    exact h3 g (bV.2 hs) g (List.mem_flatMap.2 ⟨s',List.mem_of_getElem? hk,bV.2 hs'⟩) rfl
  |succ i=>
   simp only [List.getElem?_cons_succ] at hi
   cases k with
   |zero=>
    simp only [List.getElem?_cons_zero,Option.some.injEq] at hk
    subst hk
    exact h3 g (bV.2 hs') g (List.mem_flatMap.2 ⟨s,List.mem_of_getElem? hi,bV.2 hs⟩) rfl
   |succ k=>
    simp only [List.getElem?_cons_succ] at hk
    exact Ci h2 hi hk (fun e=>hne (by rw [e])) hs hs'
theorem eP {l : List α}(h : fE T w w.heap.size v l)(hb : Below w.heap.size w w') : fE T w' w'.heap.size v l:=h.keep hb.block hb.size
theorem mJ (h : jl T w w.heap.size v fF ll)(hb : Below w.heap.size w w') : jl T w' w'.heap.size v fF ll:=h.keep hb.block hb.size
structure aY (F : List Nat)(w w' : World) : Prop where
 os : w'.os=w.os
 tape : w'.tape=w.tape
 output : w'.output=w.output
 size : w.heap.size≤w'.heap.size
 block : ∀k,k<w.heap.size→k∉F→w'.heap[k]? =w.heap[k]?
theorem aY.refl (F : List Nat)(w : World) : aY F w w:= ⟨rfl,rfl,rfl,Nat.le_refl _,fun _ _ _=>rfl⟩
theorem aY.trans {F : List Nat}{a b c : World}(h : aY F a b)(k : aY F b c) : aY F a c:=
 ⟨k.os.trans h.os,k.tape.trans h.tape,k.output.trans h.output,Nat.le_trans h.size k.size,fun i hi hn=> (k.block i (Nat.lt_of_lt_of_le hi h.size) hn).trans (h.block i hi hn)⟩
theorem aY.mono {F G : List Nat}{a b : World}(h : aY F a b)(hs : ∀g∈F,g∈G) : aY G a b:=
 ⟨h.os,h.tape,h.output,h.size,fun k hk hn=>h.block k hk fun hm=>hn (hs k hm)⟩
theorem aY.of_below {F : List Nat}{a b : World}(h : Below a.heap.size a b) : aY F a b:= ⟨h.os,h.tape,h.output,h.size,fun k hk _=>h.block k hk⟩
theorem aY.jP {a b : World}{v : Value}(h : a.grownBy b v.ownBlock) : aY (cu v) a b:=
 ⟨h.os,h.tape,h.output,h.size,fun k hk hn=>h.block k hk fun e=>hn (bV.2 e.symm)⟩
theorem aY.below {F : List Nat}{a b : World}{B : Nat}(h : aY F a b)(hB : B≤a.heap.size)(hF : ∀g∈F,B≤g) : Below B a b:=
 ⟨h.os,h.tape,h.output,h.size,fun k hk=>h.block k (by omega) fun hm=>by have:=hF k hm;omega⟩
theorem bA.aM {l : List α}{F : List Nat}(h : bA T e w v l)(hc : aY F w w')(hd : ∀g∈cu v,g∉F) : bA T e w' v l:=
 h.keep fun g hg=>hc.block g (World.ownsRow.lt h _ hg).2 (hd g (bV.2 hg))
theorem dR.aM {F : List Nat}(h : dR T e E w v fF ll)(hc : aY F w w')(hd : ∀g∈dH v fF,g∉F) : dR T e E w' v fF ll:=
 h.keep fun g hg=>hc.block g (h.lt g hg) (hd g hg)
theorem fE.aM {l : List α}{F : List Nat}{B : Nat}(h : fE T w B v l)(hc : aY F w w')(hB : B≤w.heap.size)(hd : ∀g∈F,B≤g) : fE T w' B v l:=
 h.keep (fun k hk=>hc.block k (by omega) fun hm=>by have:=hd k hm;omega) (Nat.le_refl _)
theorem aY.cell {F : List Nat}(hc : aY F w w')(b o : Nat)(hb : b<w.heap.size)(hn : b∉F) : w'.cell? ⟨b,o,none⟩ =w.cell? ⟨b,o,none⟩ :=by
 simp [World.cell?,hc.block b hb hn]
theorem aY.frozen {F : List Nat}(hc : aY F w w')(b o : Nat)(hb : b<w.heap.size)(hn : b∉F) : w'.frozen? ⟨b,o,none⟩ =w.frozen? ⟨b,o,none⟩ :=by
 simp [World.frozen?,hc.block b hb hn]
theorem iQ {l : List α}(h : bA T e w v l) : ∀g∈cu v,g<w.heap.size:=fun _ hg=> (World.ownsRow.lt h _ (bV.1 hg)).2
theorem ze : ∀ {fF : List SV} {i : Nat} {s : SV}, (fF.flatMap fun s=>cu s.val).Nodup→ (∀g∈cu s.val,g∉fF.flatMap fun s=>cu s.val) → ((fF.set i s).flatMap fun s=>cu s.val).Nodup
 | [],_,_,_,_=>by simp
 |x::xs,0,s,h,hs=>by
  rw [List.flatMap_cons,List.nodup_append] at h
  simp only [List.set_cons_zero,List.flatMap_cons,List.nodup_append]
  refine⟨?_,h.2.1,fun a ha b hb e=> ?_⟩
  ·unfold cu
   cases s.val.ownBlock<;>simp
  ·subst e
   exact hs a ha (List.mem_flatMap.2 (by
    obtain⟨y,hy,hm⟩ :=List.mem_flatMap.1 hb
    exact⟨y,List.mem_cons_of_mem _ hy,hm⟩))
 |x::xs,i+1,s,h,hs=>by
  rw [List.flatMap_cons,List.nodup_append] at h
  simp only [List.set_cons_succ,List.flatMap_cons,List.nodup_append]
  refine⟨h.1,ze h.2.1 (fun g hg hm=>hs g hg ?_),fun a ha b hb e=> ?_⟩
  ·obtain⟨y,hy,hm⟩ :=List.mem_flatMap.1 hm
   exact List.mem_flatMap.2 ⟨y,List.mem_cons_of_mem _ hy,hm⟩
  ·subst e
   obtain⟨y,hy,hm⟩ :=List.mem_flatMap.1 hb
   rcases List.mem_or_eq_of_mem_set hy with hy|rfl
   ·exact h.2.2 a ha a (List.mem_flatMap.2 ⟨y,hy,hm⟩) rfl
   ·exact hs a hm (List.mem_flatMap.2 ⟨x,List.mem_cons_self ..,ha⟩)
theorem dR.IJ {g n c : Nat}(h : dR T e E w (.slice (some ⟨g,0,none⟩) n c) fF ll){i : Nat}{s0 s : SV}{l : List α}(hi : fF[i]? =some s0)(hl : bA T e w s.val l)(hf : ∀b∈cu s.val,b∉dH (.slice (some ⟨g,0,none⟩) n c) fF) :
  dR T e E (w.setCell ⟨g,i,none⟩ s.val) (.slice (some ⟨g,0,none⟩) n c) (fF.set i s) (ll.set i l) :=by
 have hn:=h.nodup
 unfold dH at hn
 rw [List.nodup_append] at hn
 obtain⟨hn1,hn2,uY⟩ :=hn
 have hg : ∀s'∈fF,s'.val.ownBlock≠some g:=fun s' hs' he=>uY g (bV.2 rfl) g (List.mem_flatMap.2 ⟨s',hs',bV.2 he⟩) rfl
 have hkeep : ∀b,b≠g→ (w.setCell ⟨g,i,none⟩ s.val).heap[b]? =w.heap[b]? :=fun b hb=>Below.heap_setCell _ _ _ _ hb
 refine⟨by rw [List.length_set,List.length_set];exact h.len, ?_,fun k s' l' hk hl'=> ?_, ?_⟩
 ·have:=h.outer.gD (j:=0) (y:=s) (u:= .slice s.a s.l s.c) hi (by decide) rfl
  rw [show i * FS.n+0=i by simp [FS]] at this
  exact this
 ·have hik:= (List.getElem?_eq_some_iff.1 hi).1
  by_cases hki : i=k
  ·subst hki
   rw [List.getElem?_set_self hik] at hk
   rw [List.getElem?_set_self (by rw [←h.len];exact hik)] at hl'
   cases hk
   cases hl'
   exact hl.keep fun b hb=>hkeep b fun e=>hf b (bV.2 hb) (cZ.2 (.inl (by rw [e];rfl)))
  ·rw [List.getElem?_set_ne hki] at hk hl'
   exact(h.inner k s' l' hk hl').keep fun b hb=>hkeep b fun e=>hg s' (List.mem_of_getElem? hk) (by rw [hb,e])
 ·unfold dH
  rw [List.nodup_append]
  refine⟨hn1,ze hn2 (fun b hb hm=>hf b hb (List.mem_append.2 (.inr hm))),fun a ha b hb e=> ?_⟩
  subst e
  obtain⟨y,hy,hm⟩ :=List.mem_flatMap.1 hb
  rcases List.mem_or_eq_of_mem_set hy with hy|rfl
  ·exact uY a ha a (List.mem_flatMap.2 ⟨y,hy,hm⟩) rfl
  ·exact hf a hm (List.mem_append.2 (.inl ha))
theorem dR.made (z : Array Value)(hz : z.toList= [.slice none 0 0])(n : Nat)(hn : n≤maxLen)(w : World)(T : FT α)(e E : TypeId) :
  dR T e E (w.alloc (.cells (madeCells z (n * 1)) E)) (.slice (some ⟨w.heap.size,0,none⟩) n n) (List.replicate n ⟨none,0,0⟩) (List.replicate n []) :=by
 refine⟨by simp,bA.made FS z hz n hn w E,fun k s l hk hl=> ?_, ?_⟩
 ·rw [List.getElem?_replicate] at hk hl
  split at hk
  ·rename_i h
   rw [if_pos h] at hl
   cases hk
   cases hl
   exact World.ownsRow_nil _ _ _ _
  ·cases hk
 ·unfold dH
  have : (List.replicate n (⟨none,0,0⟩ : SV)).flatMap (fun s=>cu s.val) = []:=by
   rw [List.flatMap_eq_nil_iff]
   intro x hx
   rw [List.eq_of_mem_replicate hx]
   rfl
  rw [this]
  simp [cu,Value.ownBlock]
theorem jl.row {wr : World}{A : Option Addr}{n c i : Nat}(h : jl T w w.heap.size (.slice A n c) fF ll)(hb : Below w.heap.size w wr)(hi : i<ll.length) :
  ∃g o A' c',A=some ⟨g,o,none⟩ ∧g<w.heap.size∧wr.cell? ⟨g,o+i,none⟩ =some (.slice A' ll[i].length c') ∧fE T w w.heap.size (.slice A' ll[i].length c') ll[i]:=by
 have hs : i<fF.length:=by rw [h.len];exact hi
 obtain⟨g,o,cap,hv,hg,_,_,hc⟩ := (h.outer.below hb).at_ (List.getElem?_eq_getElem hs)
 have r:=h.inner i _ _ (List.getElem?_eq_getElem hs) (List.getElem?_eq_getElem hi)
 obtain⟨A',c',hv',_⟩ :=id r
 injection hv with e1 _ _
 have:=hc 0 _ rfl
 refine⟨g,o,A',c',e1,hg, ?_,by rw [←hv'];exact r⟩
 rw [←hv']
 simpa [FS,SV.val] using this
theorem jl.len' {A : Option Addr}{n c : Nat}(h : jl T w B (.slice A n c) fF ll) : n=ll.length∧ll.length≤c∧c≤maxLen:=by
 obtain⟨A',c',hv,q1,q2,_⟩ :=h.outer
 injection hv with _ e2 e3
 rw [h.len] at e2 q1
 subst e3
 exact⟨e2,q1,q2⟩
theorem iU {fF : List SV}{i : Nat}{s : SV}{b : Nat}(h : b∈dH v (fF.set i s)) : b∈dH v fF∨b∈cu s.val:=by
 rcases cZ.1 h with h1| ⟨y,hy,h1⟩
 ·exact .inl (cZ.2 (.inl h1))
 ·rcases List.mem_or_eq_of_mem_set hy with hy|hy
  ·exact .inl (cZ.2 (.inr ⟨y,hy,h1⟩))
  ·rw [hy] at h1
   exact .inr (bV.2 h1)
theorem nN (B n : Nat) : ∀g∈dH (.slice (some ⟨B,0,none⟩) n n) (List.replicate n ⟨none,0,0⟩),B≤g:=by
 intro g hg
 rcases cZ.1 hg with h| ⟨y,hy,h⟩
 ·simp [Value.ownBlock] at h
  omega
 ·rw [List.eq_of_mem_replicate hy] at h
  simp [SV.val,Value.ownBlock] at h
def jh (ll : List (List α)) : Nat:=ll.length+ (ll.map List.length).sum
def mZ (ll : List (List α)) : Nat:= (ll.map List.length).sum
theorem rQ (ll : List (List α))(i : Nat)(hi : i<ll.length) : mZ (ll.take (i+1)) =mZ (ll.take i) +ll[i].length:=by
 unfold mZ
 rw [List.take_succ_eq_append_getElem hi,List.map_append,List.sum_append]
 simp only [List.map_cons,List.map_nil,List.sum_cons,List.sum_nil,Nat.add_zero]
theorem tJ (ll : List (List α)) : mZ ll=ll.flatten.length:=by unfold mZ;rw [List.length_flatten]
theorem qX (ll : List (List α))(i : Nat) : mZ (ll.take i) ≤mZ ll:=by
 unfold mZ
 conv=>rhs;rw [←List.take_append_drop i ll]
 rw [List.map_append,List.sum_append]
 omega
theorem mK {l : List α}(h : l∈ll) : l.length≤jh ll:=by
 have : l.length≤ (ll.map List.length).sum:=by
  induction ll with
  |nil=>simp at h
  |cons x xs ih=>
   rcases List.mem_cons.1 h with rfl|h
   ·simp
   ·have:=ih h
    simp;omega
 unfold jh
 omega
end Go.Proofs.YtkmggglljkmjoaaGreat
namespace Go.Proofs.YtkmggglljkmjoaaGreat
open Go.RowKit Go.ChangeShapes Go.WideShapes Go.Deep
def Opens (P : Program)(t : TypeId)(R : World→List Value→Prop) : Prop:=
 ∀ (H : Type) (enc : TypeId×Value→H) (W : World) (base : Nat) (spare : Nat→Bool) (held : Bool) (fuel : Nat) (cs : List Value) (x : DataW H×List MemPlace),DataW.trod enc P W base spare held fuel t cs=some x→R W cs
variable {P : Program} {t e : TypeId} {α : Type} {T : FT α}
theorem Opens.trod {R : World→List Value→Prop}(h : Opens P t R){H : Type}{enc : TypeId×Value→H}{W : World}{base : Nat}{spare : Nat→Bool}{held : Bool}{v : Value}{d : DataW H}{ps : List MemPlace}(ht : DataW.Trod enc P W base spare held t v d ps) : R W v.cells.toList:=by
 obtain⟨fuel,hf⟩ :=ht
 exact h H enc W base spare held fuel _ _ hf
theorem cell_spot {W : World}{a : Addr}{v : Value}(h : W.cell? a=some v) : a.spot=none:=by
 unfold World.cell? at h
 split at h
 ·split at h
  ·cases h
  ·rename_i hs
   cases hsp : a.spot with
   |none=>rfl
   |some _=>rw [hsp] at hs;simp at hs
 ·cases h
theorem Ar {R : World→List Value→Prop}{n : Nat}(ht : P.underlying t=some (.slice e))(hc : P.cellsOf e=n)(hn : 0<n)(he : Opens P e R) :
  Opens P t fun W cs=> ∃A len cap,cs= [.slice A len cap]∧len≤cap∧cap≤maxLen∧ (0<len→ ∃g off,A=some ⟨g,off,none⟩ ∧g<W.heap.size∧
   ∀i,i<len→ ∃cs',cs'.length=n∧R W cs'∧ ∀j u,cs'[j]? =some u→W.cell? ⟨g,off+ (i * n+j),none⟩ =some u) :=by
 intro H enc W base spare held fuel cs x h
 rcases open_slice ht h with ⟨rfl,_⟩ | ⟨a,len,cap,m,k,D,Pl,rfl,hb,hl,hm,hmm,_,hi⟩
 ·exact⟨none,0,0,rfl,Nat.le_refl _,by simp [maxLen],fun h=>absurd h (by omega)⟩
 ·refine⟨some a,len,cap,rfl,hl,hm,fun hpos=> ?_⟩
  have hlm : len≤m:=by rw [hmm];split<;>omega
  have hcell : ∀i,i<len→ ∃cs',cs'.length=n∧R W cs'∧ ∀j,j<n→W.cell? ((a.add (i * n)).add j) =cs'[j]? :=by
   intro i hil
   obtain⟨cs',h1,h2⟩ :=hi i (by omega)
   rw [hc] at h1
   obtain⟨_,h3,h4⟩ :=World.cells?_some h1
   exact⟨cs',h3,he H enc W base spare held k _ _ h2,h4⟩
  obtain⟨cs0,h3,_,h4⟩ :=hcell 0 hpos
  have h5:=h4 0 hn
  rw [Nat.zero_mul] at h5
  have ha0 : (a.add 0).add 0=a:=by simp [Addr.add]
  rw [ha0,List.getElem?_eq_getElem (by omega)] at h5
  have hsp:=cell_spot h5
  have hblk:=World.block_lt_of_cell? W _ h5
  obtain⟨g,off,spot⟩ :=a
  simp only at hsp
  subst hsp
  refine⟨g,off,rfl,hblk,fun i hil=> ?_⟩
  obtain⟨cs',q1,q2,q3⟩ :=hcell i hil
  refine⟨cs',q1,q2,fun j u hu=> ?_⟩
  have hj : j<n:=by
   have:= (List.getElem?_eq_some_iff.1 hu).1
   omega
  have q4:=q3 j hj
  rw [hu,Go.Deep.add_add] at q4
  rw [←q4]
  congr 1
  unfold Addr.add
  by_cases h0 : i * n+j=0
  ·rw [if_pos h0,h0];rfl
  ·rw [if_neg h0]
theorem Cj (ht : P.underlying t=some (.slice e))(hc : P.cellsOf e=T.n)(he : Opens P e fun _ cs=> ∃y,cs=T.enc y) :
  Opens P t fun W cs=> ∃v l,cs= [v]∧fE T W W.heap.size v l:=by
 intro H enc W base spare held fuel cs x h
 obtain⟨A,len,cap,rfl,h1,h2,h3⟩ :=Ar ht hc T.pos he H enc W base spare held fuel cs x h
 by_cases hpos : 0<len
 ·obtain⟨g,off,rfl,hg,hi⟩ :=h3 hpos
  have : ∃f : Nat→α, ∀i,i<len→ ∀j u, (T.enc (f i))[j]? =some u→W.cell? ⟨g,off+ (i * T.n+j),none⟩ =some u:=by
   have hex : ∀i, ∃y : α,i<len→ ∀j u, (T.enc y)[j]? =some u→W.cell? ⟨g,off+ (i * T.n+j),none⟩ =some u:=by
    intro i
    by_cases hil : i<len
    ·obtain⟨cs',_, ⟨y,rfl⟩,q⟩ :=hi i hil
     exact⟨y,fun _=>q⟩
    ·exact⟨T.dflt,fun h=>absurd h hil⟩
   exact⟨fun i=>Classical.choose (hex i),fun i hil=>Classical.choose_spec (hex i) hil⟩
  obtain⟨f,hf⟩ :=this
  refine⟨_, (List.range len).map f,rfl,some ⟨g,off,none⟩,cap,by simp,by simpa using h1,h2,fun _=> ⟨g,off,rfl,hg,fun j u hu=> ?_⟩⟩
  have hj : j<len * T.n:=by
   have:= (List.getElem?_eq_some_iff.1 hu).1
   rw [nu] at this
   simpa using this
  have hp:=T.pos
  have hq : j / T.n<len:=by rw [Nat.div_lt_iff_lt_mul hp];exact hj
  have hx : ((List.range len).map f)[j / T.n]? =some (f (j / T.n)) :=by simp [hq]
  have hfg:=flat_get T _ (j / T.n) (j%T.n) _ hx (Nat.mod_lt _ hp)
  have hjj : j / T.n * T.n+j%T.n=j:=by rw [Nat.mul_comm];exact Nat.div_add_mod j T.n
  rw [hjj] at hfg
  rw [hfg] at hu
  have:=hf _ hq _ u hu
  rw [hjj] at this
  exact this
 ·have h0 : len=0:=by omega
  subst h0
  exact⟨_, [],rfl,A,cap,rfl,h1,h2,fun hne=>absurd rfl hne⟩
end Go.Proofs.YtkmggglljkmjoaaGreat
namespace Go.Proofs.YtkmggglljkmjoaaGreat
structure zf where
 Handle : Int
 Epoch : Int
structure Pin where
 On : Bool
 Epoch : Int
 Marked : Bool
 Seen : Int
def FI : FT Int:= {n:=1,enc:=fun x=> [.int .i64 x],dflt:=0,len:=fun _=>rfl,one:=by intro x u hu;simp at hu;subst hu;rfl,pos:=by decide,small:=by decide}
def Kn : FT zf:= {n:=2,enc:=fun x=> [.int .i64 x.Handle, .int .i64 x.Epoch],dflt:= ⟨0,0⟩,len:=fun _=>rfl,one:=by(intro x u hu;simp only [List.mem_cons,List.not_mem_nil,or_false] at hu;repeat (first| (rcases hu with rfl|hu;rfl) | (subst hu;rfl))),pos:=by decide,small:=by decide}
def Lf : FT Pin:= {n:=4,enc:=fun x=> [.bool x.On, .int .i64 x.Epoch, .bool x.Marked, .int .i64 x.Seen],dflt:= ⟨false,0,false,0⟩,len:=fun _=>rfl,one:=by(intro x u hu;simp only [List.mem_cons,List.not_mem_nil,or_false] at hu;repeat (first| (rcases hu with rfl|hu;rfl) | (subst hu;rfl))),pos:=by decide,small:=by decide}
end Go.Proofs.YtkmggglljkmjoaaGreat
