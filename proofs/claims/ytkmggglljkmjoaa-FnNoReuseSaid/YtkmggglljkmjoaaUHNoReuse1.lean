/-
  Several texts in one: lemmas and contracts that the claim rests on.
-/
import Derived.Test.YtkmggglljkmjoaaRows
import Derived.WalkKit
import Derived.WalkSpells
import Derived.WalkLawsBesides
import Derived.ProofKit
import Derived.Deep.Draws
import Derived.Deep.OwnRows
namespace Go.Proofs.Ytkmggglljkmjoaa
open Go.ChangeShapes Go.WideShapes Go.ChangeAt Go.RowKit
theorem Try.own : ownKnob Try.prog.godebug=none:=by kernel_rfl
theorem Try.laidOut : laidOutB Try.prog=true:=by kernel_rfl
theorem pV {H : Type}{enc : TypeId×Value→H}{P : Program}(hl : laidOutB P=true){W W' : World}(hb : Below W.heap.size W W') :
  ∀ (ts : List TypeId) (vs : List Value) (ds : List (DataW H)) (ps : List MemPlace),
   (ts.all fun t=>P.readableRec t&&decide (t<P.types.size)) =true→ (∀x∈ps,x.block<W.heap.size) →
   DataW.TrodAll enc P W 0 (fun _=>true) true ts vs ds ps→DataW.TrodAll enc P W' 0 (fun b=>decide (b<W.heap.size)) true ts vs ds ps
 | [], [], [],_,_,_,h=>h
 |t::ts,v::vs,d::ds,ps,hr,hlt,h=>by
  obtain⟨p,q,h1,h2,rfl⟩ :=h
  simp only [List.all_cons,Bool.and_eq_true,decide_eq_true_eq] at hr
  obtain⟨⟨hr1,hr2⟩,hr3⟩ :=hr
  exact⟨p,q,Below.trod hl hr1 hr2 h1 hb (fun x hx=>hlt x (List.mem_append.2 (.inl hx))),pV hl hb ts vs ds q hr3 (fun x hx=>hlt x (List.mem_append.2 (.inr hx))) h2,rfl⟩
 | [], [],_::_,_,_,_,h=>h.elim
 | [],_::_,_,_,_,_,h=>h.elim
 |_::_, [],_,_,_,_,h=>h.elim
 |_::_,_::_, [],_,_,_,h=>h.elim
theorem trodAll_length {H : Type}{enc : TypeId×Value→H}{P : Program}{W : World}{base : Nat}{sp : Nat→Bool}{hd : Bool} :
  ∀ (ts : List TypeId) (vs : List Value) (ds : List (DataW H)) (ps : List MemPlace),DataW.TrodAll enc P W base sp hd ts vs ds ps→ds.length=ts.length∧vs.length=ts.length
 | [], [], [],_,_=> ⟨rfl,rfl⟩
 |_::ts,_::vs,_::ds,_,h=>by
  obtain⟨p,q,_,h2,_⟩ :=h
  have:=trodAll_length ts vs ds q h2
  simp [this]
 | [], [],_::_,_,h=>h.elim
 | [],_::_,_,_,h=>h.elim
 |_::_, [],_,_,h=>h.elim
 |_::_,_::_, [],_,h=>h.elim
theorem lift {C : Checked}{os : Os}{f : FuncId}{fn : Func}{s : ChangeSpec}{H : Type}{enc : TypeId×Value→H}{conds : List PathCond}{apart handsOn : Bool}(tb : TypeId)
  (own : ownKnob C.prog.godebug=none) (hlaid : laidOutB C.prog=true) (started : os.Started) (noInit : C.prog.inits.idxOf? f=none) (hfn : C.prog.funcs[f]? =some fn)
  (witness : ∃ (w : World) (tape : Tape) (i : Input),w.os=os∧ (w.forCall tape i).Shaped C.prog∧i.vars= []∧Input.okWide C.prog (w.forCall tape i) .any w.heap.size f i∧
   s.pre6 enc C.prog fn conds apart (w.forCall tape i).memory i.args∧ ({} : Assume).holds C.prog (lone (Frame.enter C.prog f i.args .normal) [] (w.forCall tape i)))
  (hvars : s.vars= []) (hres : fn.resultTypes= #[tb]) (htb : C.prog.underlying tb=some .bool)
  (hread : (fn.params.toList.all fun t=>C.prog.readableRec t&&decide (t<C.prog.types.size)) =true)
  (hspec : ∀ds : List (DataW H),ds.length=fn.params.size→s.fn H ds= {results:= [.lit (.bool true)],args:=ds})
  (contract : ∀ (W : World) (args : Array Value) (ds : List (DataW H)) (p : List MemPlace),
   (∀ (j : Nat) t v,fn.params[j]? =some t→args[j]? =some v→ ∃base,Value.okWide C.prog W .any base t v) →
   DataW.TrodAll enc C.prog W 0 (fun _=>true) true fn.params.toList args.toList ds p→
   Calls C.prog f args W fun e W'=>e= .returned (.bool true) ∧Below W.heap.size W W') :
  ReturnsInHanded {} C os f .any (s.pre6 enc C.prog fn conds apart) (s.post enc C.prog fn apart true handsOn false) :=by
 refine returnsInHanded_of_change own started noInit hfn witness ?_
 intro W base args ds gs before hval hW _ _
 have hW':=hW
 obtain⟨p,q,hA,hV,rfl,hfz,hnd⟩ :=hW
 have hV':=hV
 rw [hvars] at hV'
 obtain⟨rfl,rfl⟩ :=trodVars_none hV'
 refine(contract W args ds p (fun j t v h1 h2=> ⟨base,hval j t v h1 h2⟩) hA).mono fun e W' ⟨he,hb⟩ => ?_
 have hlen : ds.length=fn.params.size:=by
  simpa using (trodAll_length _ _ _ _ hA).1
 have hs:=hspec ds hlen
 refine⟨_,he,ds, [],p++ [], [],p, [],hW', ?_, ?_, ?_,hb.frame _,fun h=>by cases h⟩
 ·rw [List.append_nil,hs,hres]
  exact trodAll_mk1 (shut_bool htb true)
 ·rw [List.append_nil,hs]
  exact pV hlaid hb _ _ _ _ hread (fun x hx=>hW'.lt x (by simpa using hx)) hA
 ·rw [hvars,List.append_nil,hs]
  simp [DataW.TrodVars]
end Go.Proofs.Ytkmggglljkmjoaa
namespace Go.Proofs.Ytkmggglljkmjoaa
open Go.RowKit
def grow (w : World)(os : List Obj)(d : Nat) : World:= {w with heap:=w.heap++os.toArray,drawn:=d}
section
variable (w : World) (os os' : List Obj) (d d' : Nat)
@[go_sem,simp] theorem size_grow : (grow w os d).heap.size=w.heap.size+os.length:=by simp [grow]
theorem qh (k : Nat)(h : k<w.heap.size) : (grow w os d).heap[k]? =w.heap[k]? :=by
 show (w.heap++os.toArray)[k]? =_
 rw [Array.getElem?_append,if_pos h]
@[go_sem] theorem cell?_grow (n i : Nat) (hn : n<w.heap.size) : (grow w os d).cell? ⟨n,i,none⟩ =w.cell? ⟨n,i,none⟩ :=by
 simp [World.cell?,qh w os d n hn]
@[go_sem] theorem frozen?_grow (n i : Nat) (hn : n<w.heap.size) : (grow w os d).frozen? ⟨n,i,none⟩ =w.frozen? ⟨n,i,none⟩ :=by
 simp [World.frozen?,qh w os d n hn]
@[go_sem] theorem setCell_grow (n i : Nat) (v : Value) (hn : n<w.heap.size) : (grow w os d).setCell ⟨n,i,none⟩ v=grow (w.setCell ⟨n,i,none⟩ v) os d:=by
 unfold grow World.setCell
 congr 1
 apply Array.ext_getElem?
 intro k
 simp only [Array.getElem?_modify,Array.getElem?_append,Array.size_modify]
 by_cases hk : k<w.heap.size
 ·simp [hk]
 ·have : ¬ n=k:=by omega
  simp [hk,this]
@[go_sem] theorem drew_grow : (grow w os d).drew=grow w os (d+1) :=rfl
@[go_sem] theorem Df (n : Nat) : (grow w os d).drewN n=grow w os (d+n) :=rfl
@[go_sem] theorem Dp : grow w.drew os d=grow w os d:=rfl
@[go_sem] theorem Dh (n : Nat) : grow (w.drewN n) os d=grow w os d:=rfl
@[go_sem,simp] theorem tape_grow : (grow w os d).tape=w.tape:=rfl
theorem below_grow : Below w.heap.size w (grow w os d) := ⟨rfl,rfl,rfl,by simp,fun k hk=>qh w os d k hk⟩
end
theorem bE {B : Nat}{a w : World}(h : Below B a w)(hB : B≤w.heap.size)(os : List Obj)(d : Nat) : Below B a (grow w os d) :=
 h.trans ((below_grow w os d).mono hB)
theorem below_drewN {B : Nat}{a w : World}(h : Below B a w)(n : Nat) : Below B a (w.drewN n) :=h.trans ⟨rfl,rfl,rfl,Nat.le_refl _,fun _ _=>rfl⟩
theorem dn {B : Nat}{a b : World}(h : Below B a b:=by repeat (first|exact Below.refl _ _|refine Below.alloc ?_ (by simp<;>omega) _|refine bE ?_ (by simp<;>omega) _ _|refine Below.drew ?_|refine below_drewN ?_ _)) : Below B a b:=h
theorem fJ {B : Nat}{a b : World}(h : Below B a b:=by repeat (first|with_reducible exact Below.refl _ _|with_reducible refine Below.setCell ?_ (by simp<;>omega) _|with_reducible refine Below.alloc ?_ (by simp<;>omega) _|with_reducible refine Below.drew ?_)) : Below B a b:=h
theorem iR {w w' : World}(h : Below w.heap.size w w') : ∃os d,w'=grow w os d:=by
 refine⟨w'.heap.toList.drop w.heap.size,w'.drawn, ?_⟩
 obtain⟨h1,h2,h3,h4,h5⟩ :=h
 have hh : w'.heap=w.heap++ (w'.heap.toList.drop w.heap.size).toArray:=by
  apply Array.ext_getElem?
  intro k
  rw [Array.getElem?_append]
  by_cases hk : k<w.heap.size
  ·rw [if_pos hk,h5 k hk]
  ·rw [if_neg hk]
   simp only [List.getElem?_toArray,List.getElem?_drop,Array.getElem?_toList]
   rw [show w.heap.size+ (k - w.heap.size) =k by omega]
 cases w'
 cases w
 simp only [grow] at *
 subst h1 h2 h3
 rw [←hh]
@[go_sem] theorem Es (a b : Nat) : (0<a+b) ↔ (0<a∨0<b) :=by omega
@[go_sem] theorem FL (a b1 b2 : Nat) : (a<a+b1+b2) ↔ (0<b1+b2) :=by omega
@[go_sem] theorem FM (a b1 b2 : Nat) : (a+b1+b2=a) ↔ (b1+b2=0) :=by omega
@[go_sem] theorem FN (a b1 b2 : Nat) : (a=a+b1+b2) ↔ (b1+b2=0) :=by omega
@[go_sem] theorem FP (a b1 b2 b3 : Nat) : (a<a+b1+b2+b3) ↔ (0<b1+b2+b3) :=by omega
@[go_sem] theorem FQ (a b1 b2 b3 : Nat) : (a+b1+b2+b3=a) ↔ (b1+b2+b3=0) :=by omega
@[go_sem] theorem FR (a b1 b2 b3 : Nat) : (a=a+b1+b2+b3) ↔ (b1+b2+b3=0) :=by omega
@[go_sem] theorem FU (a b1 b2 b3 b4 : Nat) : (a<a+b1+b2+b3+b4) ↔ (0<b1+b2+b3+b4) :=by omega
@[go_sem] theorem FV (a b1 b2 b3 b4 : Nat) : (a+b1+b2+b3+b4=a) ↔ (b1+b2+b3+b4=0) :=by omega
@[go_sem] theorem FW (a b1 b2 b3 b4 : Nat) : (a=a+b1+b2+b3+b4) ↔ (b1+b2+b3+b4=0) :=by omega
@[go_sem] theorem FX (a b1 b2 b3 b4 b5 : Nat) : (a<a+b1+b2+b3+b4+b5) ↔ (0<b1+b2+b3+b4+b5) :=by omega
@[go_sem] theorem FY (a b1 b2 b3 b4 b5 : Nat) : (a+b1+b2+b3+b4+b5=a) ↔ (b1+b2+b3+b4+b5=0) :=by omega
@[go_sem] theorem FZ (a b1 b2 b3 b4 b5 : Nat) : (a=a+b1+b2+b3+b4+b5) ↔ (b1+b2+b3+b4+b5=0) :=by omega
@[go_sem] theorem F3 (a b1 b2 b3 b4 b5 b6 : Nat) : (a<a+b1+b2+b3+b4+b5+b6) ↔ (0<b1+b2+b3+b4+b5+b6) :=by omega
@[go_sem] theorem F4 (a b1 b2 b3 b4 b5 b6 : Nat) : (a+b1+b2+b3+b4+b5+b6=a) ↔ (b1+b2+b3+b4+b5+b6=0) :=by omega
@[go_sem] theorem F5 (a b1 b2 b3 b4 b5 b6 : Nat) : (a=a+b1+b2+b3+b4+b5+b6) ↔ (b1+b2+b3+b4+b5+b6=0) :=by omega
@[go_sem] theorem F6 (a b1 b2 b3 b4 b5 b6 b7 : Nat) : (a<a+b1+b2+b3+b4+b5+b6+b7) ↔ (0<b1+b2+b3+b4+b5+b6+b7) :=by omega
@[go_sem] theorem F7 (a b1 b2 b3 b4 b5 b6 b7 : Nat) : (a+b1+b2+b3+b4+b5+b6+b7=a) ↔ (b1+b2+b3+b4+b5+b6+b7=0) :=by omega
@[go_sem] theorem F8 (a b1 b2 b3 b4 b5 b6 b7 : Nat) : (a=a+b1+b2+b3+b4+b5+b6+b7) ↔ (b1+b2+b3+b4+b5+b6+b7=0) :=by omega
@[go_sem] theorem F9 (a b1 b2 b3 b4 b5 b6 b7 b8 : Nat) : (a<a+b1+b2+b3+b4+b5+b6+b7+b8) ↔ (0<b1+b2+b3+b4+b5+b6+b7+b8) :=by omega
@[go_sem] theorem Ga (a b1 b2 b3 b4 b5 b6 b7 b8 : Nat) : (a+b1+b2+b3+b4+b5+b6+b7+b8=a) ↔ (b1+b2+b3+b4+b5+b6+b7+b8=0) :=by omega
@[go_sem] theorem Gb (a b1 b2 b3 b4 b5 b6 b7 b8 : Nat) : (a=a+b1+b2+b3+b4+b5+b6+b7+b8) ↔ (b1+b2+b3+b4+b5+b6+b7+b8=0) :=by omega
@[go_sem] theorem Gc (a b1 b2 b3 b4 b5 b6 b7 b8 b9 : Nat) : (a<a+b1+b2+b3+b4+b5+b6+b7+b8+b9) ↔ (0<b1+b2+b3+b4+b5+b6+b7+b8+b9) :=by omega
@[go_sem] theorem Gd (a b1 b2 b3 b4 b5 b6 b7 b8 b9 : Nat) : (a+b1+b2+b3+b4+b5+b6+b7+b8+b9=a) ↔ (b1+b2+b3+b4+b5+b6+b7+b8+b9=0) :=by omega
@[go_sem] theorem Gf (a b1 b2 b3 b4 b5 b6 b7 b8 b9 : Nat) : (a=a+b1+b2+b3+b4+b5+b6+b7+b8+b9) ↔ (b1+b2+b3+b4+b5+b6+b7+b8+b9=0) :=by omega
@[go_sem] theorem Fx (a b1 b2 b3 b4 b5 b6 b7 b8 b9 b10 : Nat) : (a<a+b1+b2+b3+b4+b5+b6+b7+b8+b9+b10) ↔ (0<b1+b2+b3+b4+b5+b6+b7+b8+b9+b10) :=by omega
@[go_sem] theorem Fy (a b1 b2 b3 b4 b5 b6 b7 b8 b9 b10 : Nat) : (a+b1+b2+b3+b4+b5+b6+b7+b8+b9+b10=a) ↔ (b1+b2+b3+b4+b5+b6+b7+b8+b9+b10=0) :=by omega
@[go_sem] theorem Fz (a b1 b2 b3 b4 b5 b6 b7 b8 b9 b10 : Nat) : (a=a+b1+b2+b3+b4+b5+b6+b7+b8+b9+b10) ↔ (b1+b2+b3+b4+b5+b6+b7+b8+b9+b10=0) :=by omega
@[go_sem] theorem FC (a b1 b2 b3 b4 b5 b6 b7 b8 b9 b10 b11 : Nat) : (a<a+b1+b2+b3+b4+b5+b6+b7+b8+b9+b10+b11) ↔ (0<b1+b2+b3+b4+b5+b6+b7+b8+b9+b10+b11) :=by omega
@[go_sem] theorem FD (a b1 b2 b3 b4 b5 b6 b7 b8 b9 b10 b11 : Nat) : (a+b1+b2+b3+b4+b5+b6+b7+b8+b9+b10+b11=a) ↔ (b1+b2+b3+b4+b5+b6+b7+b8+b9+b10+b11=0) :=by omega
@[go_sem] theorem FE (a b1 b2 b3 b4 b5 b6 b7 b8 b9 b10 b11 : Nat) : (a=a+b1+b2+b3+b4+b5+b6+b7+b8+b9+b10+b11) ↔ (b1+b2+b3+b4+b5+b6+b7+b8+b9+b10+b11=0) :=by omega
@[go_sem] theorem FH (a b1 b2 b3 b4 b5 b6 b7 b8 b9 b10 b11 b12 : Nat) : (a<a+b1+b2+b3+b4+b5+b6+b7+b8+b9+b10+b11+b12) ↔ (0<b1+b2+b3+b4+b5+b6+b7+b8+b9+b10+b11+b12) :=by omega
@[go_sem] theorem FJ (a b1 b2 b3 b4 b5 b6 b7 b8 b9 b10 b11 b12 : Nat) : (a+b1+b2+b3+b4+b5+b6+b7+b8+b9+b10+b11+b12=a) ↔ (b1+b2+b3+b4+b5+b6+b7+b8+b9+b10+b11+b12=0) :=by omega
@[go_sem] theorem FK (a b1 b2 b3 b4 b5 b6 b7 b8 b9 b10 b11 b12 : Nat) : (a=a+b1+b2+b3+b4+b5+b6+b7+b8+b9+b10+b11+b12) ↔ (b1+b2+b3+b4+b5+b6+b7+b8+b9+b10+b11+b12=0) :=by omega
@[go_sem] theorem Et (a b c : Nat) (h : a<b) : (a<b+c) =True:=by simp;omega
@[go_sem] theorem Eu (a b c : Nat) (h : a≤b) : (a≤b+c) =True:=by simp;omega
@[go_sem] theorem Ev (a b c : Nat) (h : a<b) : (a=b+c) =False:=by simp;omega
@[go_sem] theorem Ee (a b c : Nat) (h : a<b) : (b+c=a) =False:=by simp;omega
@[go_sem] theorem BK (B : Nat) (a w : World) : Below B a w.drew=Below B a w:=propext ⟨fun h=> ⟨h.os,h.tape,h.output,h.size,h.block⟩,fun h=>h.drew⟩
@[go_sem] theorem Bb (B : Nat) (a w : World) (n : Nat) : Below B a (w.drewN n) =Below B a w:=propext ⟨fun h=> ⟨h.os,h.tape,h.output,h.size,h.block⟩,fun h=>below_drewN h n⟩
theorem kP {P : Program}{t e : TypeId}{len : Nat}(ht : P.underlying t=some (.array len e))(hag : ∀w, (isAgg e).run P w= .ok false w)
  (hs : (P.info? e).map (·.size) =some 1) (cs : Array Value) (i : Int) (h0 : 0≤i) (h : i<len) (v : Value) (hv : cs[i.toNat]? =some v) (w : World) :
  (Instr.index t (.agg cs) (.int .i64 i)).run P w= .ok v w:=by
 obtain⟨inf,hi,hz⟩ :=Option.map_eq_some_iff.1 hs
 simp [Instr.index,asIntOf,run_underlying ht,h0,h,sizeOf,typeInfo,hi,hz,part,hag,hv]
theorem bU {a b : Int}(h : a=b) : Ending.returned (.int .i64 a) = .returned (.int .i64 b) :=by rw [h]
theorem aS {a b : Bool}(h : a=b) : Ending.returned (.bool a) = .returned (.bool b) :=by rw [h]
theorem Hid.aD {p : Prop}(h : p) : Hid p:=h
end Go.Proofs.Ytkmggglljkmjoaa
namespace Go.Proofs.Ytkmggglljkmjoaa
open Go.RowKit
structure FT (α : Type) where
 n : Nat
 enc : α→List Value
 dflt : α
 len : ∀x, (enc x).length=n
 one : ∀x, ∀u∈enc x,u.oneCell'=true
 pos : 0<n
 small : n≤32
variable {α : Type} {T : FT α} {w w' : World} {B B' : Nat} {e : TypeId} {v : Value} {l : List α}
def flat (T : FT α)(l : List α) : List Value:=l.flatMap T.enc
theorem kG (T : FT α)(l : List α) : (flat T l).length=l.length * T.n:=by
 induction l with
 |nil=>simp [flat]
 |cons x l ih=>
  have h : flat T (x::l) =T.enc x++flat T l:=rfl
  rw [h,List.length_append,ih,T.len,List.length_cons,Nat.succ_mul]
  omega
theorem nT (T : FT α)(l m : List α) : flat T (l++m) =flat T l++flat T m:=by simp [flat]
theorem flat_get (T : FT α) : ∀ (l : List α) (k j : Nat) (x : α),l[k]? =some x→j<T.n→ (flat T l)[k * T.n+j]? = (T.enc x)[j]?
 | [],k,j,x,h,_=>by simp at h
 |y::l,0,j,x,h,hj=>by
  simp only [List.getElem?_cons_zero,Option.some.injEq] at h
  subst h
  show (T.enc y++flat T l)[0 * T.n+j]? =_
  rw [Nat.zero_mul,Nat.zero_add,List.getElem?_append,if_pos (by rw [T.len];exact hj)]
 |y::l,k+1,j,x,h,hj=>by
  simp only [List.getElem?_cons_succ] at h
  have ih:=flat_get T l k j x h hj
  show (T.enc y++flat T l)[(k+1) * T.n+j]? =_
  rw [List.getElem?_append,if_neg (by rw [T.len,Nat.succ_mul];omega),T.len, ←ih]
  congr 1
  rw [Nat.succ_mul]
  omega
theorem Am (T : FT α)(l : List α)(k j : Nat)(x y : α)(u : Value)(hx : l[k]? =some x)(hj : j<T.n)(hy : T.enc y= (T.enc x).set j u) :
  flat T (l.set k y) = (flat T l).set (k * T.n+j) u:=by
 induction l generalizing k with
 |nil=>simp at hx
 |cons z l ih=>
  cases k with
  |zero=>
   simp only [List.getElem?_cons_zero,Option.some.injEq] at hx
   subst hx
   show T.enc y++flat T l= (T.enc z++flat T l).set (0 * T.n+j) u
   rw [hy,Nat.zero_mul,Nat.zero_add,List.set_append,if_pos (by rw [T.len];exact hj)]
  |succ k=>
   simp only [List.getElem?_cons_succ] at hx
   show T.enc z++flat T (l.set k y) = (T.enc z++flat T l).set ((k+1) * T.n+j) u
   rw [List.set_append,if_neg (by rw [T.len,Nat.succ_mul];omega),T.len,ih k hx]
   congr 2
   rw [Nat.succ_mul]
   omega
def dz (T : FT α)(w : World)(B : Nat)(v : Value)(l : List α) : Prop:=
 ∃A cap,v= .slice A l.length cap∧l.length≤cap∧cap≤maxLen∧
  (l≠ []→ ∃g off,A=some ⟨g,off,none⟩ ∧g<B∧ ∀j u, (flat T l)[j]? =some u→w.cell? ⟨g,off+j,none⟩ =some u)
def bF (T : FT α)(e : TypeId)(w : World)(v : Value)(l : List α) : Prop:=w.ownsRow 0 e T.n v l.length (flat T l)
theorem dz.uH : dz T w B (.slice none 0 0) []:= ⟨none,0,rfl,Nat.le_refl _,by simp [maxLen],fun h=>absurd rfl h⟩
theorem dz.keep (h : dz T w B v l)(hk : ∀k,k<B→w'.heap[k]? =w.heap[k]?)(hB : B≤B') : dz T w' B' v l:=by
 obtain⟨A,cap,hv,h1,h2,h3⟩ :=h
 refine⟨A,cap,hv,h1,h2,fun hl=> ?_⟩
 obtain⟨g,off,hA,hg,hc⟩ :=h3 hl
 refine⟨g,off,hA,by omega,fun j u hu=> ?_⟩
 rw [←hc j u hu]
 simp [World.cell?,hk g hg]
theorem dz.aN (h : dz T w B v l)(hB : B≤w.heap.size)(hB' : B≤B')(o : Obj) : dz T (w.alloc o) B' v l:=
 h.keep (fun k hk=>Below.heap_alloc w o k (by omega)) hB'
theorem dz.below (h : dz T w B v l)(hb : Below B w w') : dz T w' B v l:=h.keep hb.block (Nat.le_refl _)
theorem dz.at_ (h : dz T w B v l){k : Nat}{x : α}(hx : l[k]? =some x) :
  ∃g off cap,v= .slice (some ⟨g,off,none⟩) l.length cap∧g<B∧l.length≤cap∧cap≤maxLen∧ ∀j u, (T.enc x)[j]? =some u→w.cell? ⟨g,off+ (k * T.n+j),none⟩ =some u:=by
 obtain⟨A,cap,hv,h1,h2,h3⟩ :=h
 have hl : l≠ []:=by rintro rfl;simp at hx
 obtain⟨g,off,rfl,hg,hc⟩ :=h3 hl
 refine⟨g,off,cap,hv,hg,h1,h2,fun j u hu=>hc _ u ?_⟩
 have hj : j<T.n:=by
  have:= (List.getElem?_eq_some_iff.1 hu).1
  rw [T.len] at this
  exact this
 rw [flat_get T l k j x hx hj]
 exact hu
theorem bF.form (h : bF T e w v l) : (v= .slice none 0 0∧l= []) ∨ ∃g cap,v= .slice (some ⟨g,0,none⟩) l.length cap∧g<w.heap.size∧l.length≤cap∧cap≤maxLen:=by
 rcases h.2 with ⟨rfl,hn⟩ | ⟨g,cap,cur,rfl,_,hh,h1,h2,_⟩
 ·exact .inl ⟨rfl,List.eq_nil_of_length_eq_zero hn⟩
 ·refine .inr ⟨g,cap,rfl, ?_,h1,h2⟩
  rcases Nat.lt_or_ge g w.heap.size with hlt|hge
  ·exact hlt
  ·rw [Array.getElem?_eq_none hge] at hh;cases hh
theorem bF.rd (h : bF T e w v l)(hB : ∀g,v.ownBlock=some g→g<B) : dz T w B v l:=by
 rcases h.2 with ⟨rfl,hn⟩ | ⟨g,cap,cur,rfl,_,hh,h1,h2,h3,h4⟩
 ·have hl : l= []:=List.eq_nil_of_length_eq_zero hn
  subst hl
  exact dz.uH
 ·refine⟨_,cap,rfl,h1,h2,fun _=> ⟨g,0,rfl,hB g rfl,fun j u hu=> ?_⟩⟩
  have:=h.cells (g:=g) rfl j u hu
  have e0 : ((⟨g,0,none⟩ : Addr).add j) = ⟨g,0+j,none⟩ :=by
   unfold Addr.add
   by_cases hj : j=0<;>simp [hj]
  rw [e0] at this
  exact this
theorem bF.rd' (h : bF T e w v l) : dz T w w.heap.size v l:=h.rd fun _ hg=> (World.ownsRow.lt h _ hg).2
theorem bF.keep (h : bF T e w v l)(hk : ∀g,v.ownBlock=some g→w'.heap[g]? =w.heap[g]?) : bF T e w' v l:=by
 refine⟨h.1, ?_⟩
 rcases h.2 with h2| ⟨g,cap,cur,hv,hg,hh,r⟩
 ·exact .inl h2
 ·refine .inr ⟨g,cap,cur,hv,hg, ?_,r⟩
  rw [hk g (by rw [hv];rfl)]
  exact hh
theorem bF.aN (h : bF T e w v l)(o : Obj) : bF T e (w.alloc o) v l:=
 h.keep fun g hg=>Below.heap_alloc w o g (World.ownsRow.lt h g hg).2
theorem bF.len_eq {g n c : Nat}(h : bF T e w (.slice (some ⟨g,0,none⟩) n c) l) : n=l.length:=by
 rcases h.2 with ⟨h',_⟩ | ⟨g',cap',cur,h',_⟩
 ·simp at h'
 ·injection h'
theorem bF.gI {g n c : Nat}(h : bF T e w (.slice (some ⟨g,0,none⟩) n c) l){k j : Nat}{x y : α}{u : Value}(hx : l[k]? =some x)(hj : j<T.n)(hy : T.enc y= (T.enc x).set j u) :
  bF T e (w.setCell ⟨g,k * T.n+j,none⟩ u) (.slice (some ⟨g,0,none⟩) n c) (l.set k y) :=by
 obtain rfl:=h.len_eq
 have hs:= (World.ownsRow.stored (w:=w) (g:=g) h (k * T.n+j) u).1
 rw [←Am T l k j x y u hx hj hy] at hs
 unfold bF
 rw [List.length_set]
 exact hs
theorem bF.cell_ {g n c : Nat}(h : bF T e w (.slice (some ⟨g,0,none⟩) n c) l){k j : Nat}{x : α}(hx : l[k]? =some x)(hj : j<T.n) :
  w.cell? ⟨g,k * T.n+j,none⟩ = (T.enc x)[j]? :=by
 obtain rfl:=h.len_eq
 have hk : k<l.length:= (List.getElem?_eq_some_iff.1 hx).1
 rw [World.ownsRow.cellAt (w:=w) h (k * T.n+j) (by
  calc k * T.n+j<k * T.n+T.n:=by omega
   _= (k+1) * T.n:=by rw [Nat.succ_mul]
   _≤l.length * T.n:=Nat.mul_le_mul_right _ hk),flat_get T l k j x hx hj]
theorem bF.iP {g n c : Nat}(h : bF T e w (.slice (some ⟨g,0,none⟩) n c) l)(j : Nat) : w.frozen? ⟨g,j,none⟩ =false:=by
 obtain rfl:=h.len_eq
 exact World.ownsRow.frozenAt (w:=w) h j
theorem uI (T : FT α)(z : Array Value)(hz : z.toList=T.enc T.dflt)(n : Nat) : (madeCells z (n * T.n)).toList=flat T (List.replicate n T.dflt) :=by
 have hzs : z.size=T.n:=by rw [←Array.length_toList,hz,T.len]
 apply List.ext_getElem?
 intro i
 by_cases hi : i<n * T.n
 ·have hp:=T.pos
  have hq : i / T.n<n:=by rw [Nat.div_lt_iff_lt_mul hp];exact hi
  have hm : i%T.n<T.n:=Nat.mod_lt _ hp
  have hx : (List.replicate n T.dflt)[i / T.n]? =some T.dflt:=by simp [hq]
  have:=flat_get T (List.replicate n T.dflt) (i / T.n) (i%T.n) T.dflt hx hm
  rw [show i / T.n * T.n+i%T.n=i from by rw [Nat.mul_comm];exact Nat.div_add_mod i T.n] at this
  rw [this, ←hz]
  simp only [madeCells,Array.toList_map,Array.toList_range,List.getElem?_map,List.getElem?_range hi,Option.map_some,hzs]
  rw [getElem!_pos z (i%T.n) (by omega)]
  simp [hzs,hm]
 ·rw [List.getElem?_eq_none (by simp [size_madeCells];omega),List.getElem?_eq_none (by rw [kG,List.length_replicate];omega)]
theorem bF.made (T : FT α)(z : Array Value)(hz : z.toList=T.enc T.dflt)(n : Nat)(hn : n≤maxLen)(w : World)(e : TypeId) :
  bF T e (w.alloc (.cells (madeCells z (n * T.n)) e)) (.slice (some ⟨w.heap.size,0,none⟩) n n) (List.replicate n T.dflt) :=by
 have h:=World.ownsRow_lit (base:=0) (e:=e) (size:=T.n) w (madeCells z (n * T.n)) n (Nat.zero_le _) hn (size_madeCells _ _)
 rw [uI T z hz n] at h
 unfold bF
 rw [List.length_replicate]
 exact h
theorem jT {P : Program}(T : FT α)(t e : TypeId)(z : Value)(bytes : Nat)(ht : P.underlying t=some (.slice e))(hinfo : (P.info? e).map (fun i=> (i.zero,i.size,i.bytes)) =some (some z,T.n,bytes))
  (n : Nat) (hbytes : bytes * n≤281474976710656) (h63 : n≤9223372036854775807) (w : World) :
  (Instr.makeSlice t (.int .i64 (n : Int)) (.int .i64 (n : Int))).run P w= .ok (.slice (some ⟨w.heap.size,0,none⟩) n n) (w.alloc (.cells (madeCells z.cells (n * T.n)) e)) :=by
 obtain⟨i,hi,hzz⟩ :=Option.map_eq_some_iff.1 hinfo
 simp only [Prod.mk.injEq] at hzz
 obtain⟨hz,hs,hb⟩ :=hzz
 subst hb
 have hb' : (i.bytes : Int) * (n : Int) ≤281474976710656:=by
  have h : ((i.bytes * n : Nat) : Int) ≤281474976710656:=by omega
  rwa [Int.natCast_mul] at h
 have hr:=run_make (P:=P) w t e i z ht hi hz .i64 .i64 n n (by omega) (Int.le_refl _) hb' (by omega)
 simp only [Int.toNat_natCast,hs] at hr
 exact hr
end Go.Proofs.Ytkmggglljkmjoaa
