/- m -/
import Derived.Test.YtkmggglljkmjoaaGreatRows
import Derived.WalkSpells
import Derived.WalkLawsBesides
import Derived.Deep.OwnRows
import Derived.Deep.AppendLies
namespace Go.Proofs.YtkmggglljkmjoaaGreat
open Go.RowKit
theorem Pd : ∀{α : Type _}{a : α}, ¬a∈([] : List α):=@List.not_mem_nil
theorem Pe : ∀{α : Type _}{b : α}{l : List α}{a : α}, a∈b::l↔a=b∨a∈l:=@List.mem_cons
theorem XK : ∀(p : Prop), (p∨False) =p:=@or_false
theorem XL : ∀{α : Type _}{l : List α}{i : Nat}(h : i<l.length), l[i]? =some l[i]:=@List.getElem?_eq_getElem
theorem XM : ∀(b : Bool), (¬b=true) = (b=false):=@Bool.not_eq_true
theorem XO : ∀{n m k : Nat}, n<m→m≤k→n<k:=@Nat.lt_of_lt_of_le
theorem XP : ∀{a : Int}, 0≤a→∃n : Nat,a=n:=@Int.eq_ofNat_of_zero_le
theorem XQ : ∀(n : Nat), n≤n:=@Nat.le_refl
theorem XR : ∀{n m k : Nat}, n≤m→m≤k→n≤k:=@Nat.le_trans
theorem XT : ∀{α : Type _}{a : α}{s t : List α}, a∈s++t↔a∈s∨a∈t:=@List.mem_append
theorem XU : ∀{α : Type _}{s t : List α}, (s++t).length=s.length+t.length:=@List.length_append
theorem XV : ∀{α : Type _}{l : List α}{i : Nat}{a : α}, l[i]? =some a→a∈l:=@List.mem_of_getElem?
theorem XW : ∀{α : Type _}{i : Nat}{a : α}{l : List α}, l[i]? =some a↔∃h : i<l.length,l[i]=a:=@List.getElem?_eq_some_iff
theorem XY : ∀{α : Type _}{l : List α}{i : Nat}{a : α}, l.getD i a= (l[i]?).getD a:=@List.getD_eq_getElem?_getD
theorem XZ : ∀{α : Type _}{i : Nat}{l : List α}(h : i<l.length), l.take (i+1) =l.take i++[l[i]]:=@List.take_succ_eq_append_getElem
theorem X0 : ∀{α : Type _}{l : List α}{n : Nat}(h : n<l.length), l[n]∈l:=@List.getElem_mem
theorem X3 : ∀(n : Nat), 0≤n:=@Nat.zero_le
theorem X4 : ∀(a b : Bool), ((a&&b) =true) = (a=true∧b=true):=@Bool.and_eq_true
theorem X5 : ∀{α : Type _}{p : α→Bool}{l : List α}, l.all p=true↔∀x, x∈l→p x=true:=@List.all_eq_true
theorem X6 : ∀(n : Nat), (n : Int).toNat=n:=@Int.toNat_natCast
theorem X7 : ∀{n m : Nat}, n<m→n≤m:=@Nat.le_of_lt
theorem X8 : ∀{α : Type _}{s : List α}{i : Nat}{a : α}, (s.set i a).length=s.length:=@List.length_set
theorem X9 : ∀{α : Type _}{l : List α}{i : Nat}{a : α}, i<l.length→(l.set i a)[i]? =some a:=@List.getElem?_set_self
theorem Ya : ∀(a : Option Addr)(l c : Nat)(b : Option Addr)(m d : Nat), (Value.slice a l c=Value.slice b m d) = (a=b∧l=m∧c=d):=@Value.slice.injEq
def dV (x : Int) : Prop:= -9223372036854775808≤x∧x≤9223372036854775807
def grow (w : World)(os : List Obj)(d : Nat) : World:= {w with heap:=w.heap++os.toArray,drawn:=d}
section
variable (w : World) (os os' : List Obj) (d d' : Nat)
@[go_sem,simp] theorem size_grow : (grow w os d).heap.size=w.heap.size+os.length:=by simp [grow]
theorem pJ (k : Nat)(h : k<w.heap.size) : (grow w os d).heap[k]? =w.heap[k]? :=by
 show (w.heap++os.toArray)[k]? =_;rw [Array.getElem?_append,if_pos h]
@[go_sem] theorem cell?_grow (n i : Nat) (hn : n<w.heap.size) : (grow w os d).cell? ⟨n,i,none⟩ =w.cell? ⟨n,i,none⟩ :=by
 simp [World.cell?,pJ w os d n hn]
@[go_sem] theorem frozen?_grow (n i : Nat) (hn : n<w.heap.size) : (grow w os d).frozen? ⟨n,i,none⟩ =w.frozen? ⟨n,i,none⟩ :=by
 simp [World.frozen?,pJ w os d n hn]
@[go_sem] theorem setCell_grow (n i : Nat) (v : Value) (hn : n<w.heap.size) : (grow w os d).setCell ⟨n,i,none⟩ v=grow (w.setCell ⟨n,i,none⟩ v) os d:=by
 unfold grow World.setCell;congr 1;apply Array.ext_getElem?;intro k;simp only [Array.getElem?_modify,Array.getElem?_append,Array.size_modify];by_cases hk : k<w.heap.size
 ·simp [hk]
 ·have : ¬ n=k:=by omega
  simp [hk,this]
@[go_sem] theorem drew_grow : (grow w os d).drew=grow w os (d+1) :=rfl
@[go_sem] theorem RV (n : Nat) : (grow w os d).drewN n=grow w os (d+n) :=rfl
@[go_sem] theorem Sc : grow w.drew os d=grow w os d:=rfl
@[go_sem] theorem RX (n : Nat) : grow (w.drewN n) os d=grow w os d:=rfl
theorem grow_grow : grow (grow w os d) os' d'=grow w (os++os') d':=by simp [grow]
@[go_sem,simp] theorem tape_grow : (grow w os d).tape=w.tape:=rfl
theorem below_grow : Below w.heap.size w (grow w os d) := ⟨rfl,rfl,rfl,by simp,fun k hk=>pJ w os d k hk⟩
end
theorem bA {B : Nat}{a w : World}(h : Below B a w)(hB : B≤w.heap.size)(os : List Obj)(d : Nat) : Below B a (grow w os d) :=
 h.trans ((below_grow w os d).mono hB)
theorem below_drewN {B : Nat}{a w : World}(h : Below B a w)(n : Nat) : Below B a (w.drewN n) :=h.trans ⟨rfl,rfl,rfl,XQ _,fun _ _=>rfl⟩
theorem cO {B : Nat}{a b : World}(h : Below B a b:=by repeat (first|exact Below.refl _ _|refine Below.alloc ?_ (by simp<;>omega) _|refine bA ?_ (by simp<;>omega) _ _|refine Below.drew ?_|refine below_drewN ?_ _)) : Below B a b:=h
theorem dU {B : Nat}{a b : World}(h : Below B a b:=by repeat (first|with_reducible exact Below.refl _ _|with_reducible refine Below.setCell ?_ (by simp<;>omega) _|with_reducible refine Below.alloc ?_ (by simp<;>omega) _|with_reducible refine Below.drew ?_)) : Below B a b:=h
theorem bN {w w' : World}(h : Below w.heap.size w w') : ∃os d,w'=grow w os d:=by
 refine⟨w'.heap.toList.drop w.heap.size,w'.drawn, ?_⟩;obtain⟨h1,h2,h3,h4,h5⟩ :=h;have hh : w'.heap=w.heap++ (w'.heap.toList.drop w.heap.size).toArray:=by
  apply Array.ext_getElem?;intro k;rw [Array.getElem?_append];by_cases hk : k<w.heap.size
  ·rw [if_pos hk,h5 k hk]
  ·rw [if_neg hk]
   simp only [List.getElem?_toArray,List.getElem?_drop,Array.getElem?_toList];rw [show w.heap.size+ (k - w.heap.size) =k by omega]
 cases w';cases w;simp only [grow] at *
 subst h1 h2 h3;rw [←hh]
@[go_sem] theorem Uh (a b : Nat) : (0<a+b) ↔ (0<a∨0<b) :=by omega
@[go_sem] theorem VB (a b1 b2 : Nat) : (a<a+b1+b2) ↔ (0<b1+b2) :=by omega
@[go_sem] theorem VD (a b1 b2 : Nat) : (a+b1+b2=a) ↔ (b1+b2=0) :=by omega
@[go_sem] theorem VE (a b1 b2 : Nat) : (a=a+b1+b2) ↔ (b1+b2=0) :=by omega
@[go_sem] theorem VF (a b1 b2 b3 : Nat) : (a<a+b1+b2+b3) ↔ (0<b1+b2+b3) :=by omega
@[go_sem] theorem VG (a b1 b2 b3 : Nat) : (a+b1+b2+b3=a) ↔ (b1+b2+b3=0) :=by omega
@[go_sem] theorem VH (a b1 b2 b3 : Nat) : (a=a+b1+b2+b3) ↔ (b1+b2+b3=0) :=by omega
@[go_sem] theorem VI (a b1 b2 b3 b4 : Nat) : (a<a+b1+b2+b3+b4) ↔ (0<b1+b2+b3+b4) :=by omega
@[go_sem] theorem VJ (a b1 b2 b3 b4 : Nat) : (a+b1+b2+b3+b4=a) ↔ (b1+b2+b3+b4=0) :=by omega
@[go_sem] theorem VK (a b1 b2 b3 b4 : Nat) : (a=a+b1+b2+b3+b4) ↔ (b1+b2+b3+b4=0) :=by omega
@[go_sem] theorem VL (a b1 b2 b3 b4 b5 : Nat) : (a<a+b1+b2+b3+b4+b5) ↔ (0<b1+b2+b3+b4+b5) :=by omega
@[go_sem] theorem VN (a b1 b2 b3 b4 b5 : Nat) : (a+b1+b2+b3+b4+b5=a) ↔ (b1+b2+b3+b4+b5=0) :=by omega
@[go_sem] theorem VO (a b1 b2 b3 b4 b5 : Nat) : (a=a+b1+b2+b3+b4+b5) ↔ (b1+b2+b3+b4+b5=0) :=by omega
@[go_sem] theorem VP (a b1 b2 b3 b4 b5 b6 : Nat) : (a<a+b1+b2+b3+b4+b5+b6) ↔ (0<b1+b2+b3+b4+b5+b6) :=by omega
@[go_sem] theorem VQ (a b1 b2 b3 b4 b5 b6 : Nat) : (a+b1+b2+b3+b4+b5+b6=a) ↔ (b1+b2+b3+b4+b5+b6=0) :=by omega
@[go_sem] theorem VR (a b1 b2 b3 b4 b5 b6 : Nat) : (a=a+b1+b2+b3+b4+b5+b6) ↔ (b1+b2+b3+b4+b5+b6=0) :=by omega
@[go_sem] theorem VT (a b1 b2 b3 b4 b5 b6 b7 : Nat) : (a<a+b1+b2+b3+b4+b5+b6+b7) ↔ (0<b1+b2+b3+b4+b5+b6+b7) :=by omega
@[go_sem] theorem VU (a b1 b2 b3 b4 b5 b6 b7 : Nat) : (a+b1+b2+b3+b4+b5+b6+b7=a) ↔ (b1+b2+b3+b4+b5+b6+b7=0) :=by omega
@[go_sem] theorem VW (a b1 b2 b3 b4 b5 b6 b7 : Nat) : (a=a+b1+b2+b3+b4+b5+b6+b7) ↔ (b1+b2+b3+b4+b5+b6+b7=0) :=by omega
@[go_sem] theorem VX (a b1 b2 b3 b4 b5 b6 b7 b8 : Nat) : (a<a+b1+b2+b3+b4+b5+b6+b7+b8) ↔ (0<b1+b2+b3+b4+b5+b6+b7+b8) :=by omega
@[go_sem] theorem VY (a b1 b2 b3 b4 b5 b6 b7 b8 : Nat) : (a+b1+b2+b3+b4+b5+b6+b7+b8=a) ↔ (b1+b2+b3+b4+b5+b6+b7+b8=0) :=by omega
@[go_sem] theorem VZ (a b1 b2 b3 b4 b5 b6 b7 b8 : Nat) : (a=a+b1+b2+b3+b4+b5+b6+b7+b8) ↔ (b1+b2+b3+b4+b5+b6+b7+b8=0) :=by omega
@[go_sem] theorem V4 (a b1 b2 b3 b4 b5 b6 b7 b8 b9 : Nat) : (a<a+b1+b2+b3+b4+b5+b6+b7+b8+b9) ↔ (0<b1+b2+b3+b4+b5+b6+b7+b8+b9) :=by omega
@[go_sem] theorem V5 (a b1 b2 b3 b4 b5 b6 b7 b8 b9 : Nat) : (a+b1+b2+b3+b4+b5+b6+b7+b8+b9=a) ↔ (b1+b2+b3+b4+b5+b6+b7+b8+b9=0) :=by omega
@[go_sem] theorem V6 (a b1 b2 b3 b4 b5 b6 b7 b8 b9 : Nat) : (a=a+b1+b2+b3+b4+b5+b6+b7+b8+b9) ↔ (b1+b2+b3+b4+b5+b6+b7+b8+b9=0) :=by omega
@[go_sem] theorem Vo (a b1 b2 b3 b4 b5 b6 b7 b8 b9 b10 : Nat) : (a<a+b1+b2+b3+b4+b5+b6+b7+b8+b9+b10) ↔ (0<b1+b2+b3+b4+b5+b6+b7+b8+b9+b10) :=by omega
@[go_sem] theorem Vp (a b1 b2 b3 b4 b5 b6 b7 b8 b9 b10 : Nat) : (a+b1+b2+b3+b4+b5+b6+b7+b8+b9+b10=a) ↔ (b1+b2+b3+b4+b5+b6+b7+b8+b9+b10=0) :=by omega
@[go_sem] theorem Vq (a b1 b2 b3 b4 b5 b6 b7 b8 b9 b10 : Nat) : (a=a+b1+b2+b3+b4+b5+b6+b7+b8+b9+b10) ↔ (b1+b2+b3+b4+b5+b6+b7+b8+b9+b10=0) :=by omega
@[go_sem] theorem Vr (a b1 b2 b3 b4 b5 b6 b7 b8 b9 b10 b11 : Nat) : (a<a+b1+b2+b3+b4+b5+b6+b7+b8+b9+b10+b11) ↔ (0<b1+b2+b3+b4+b5+b6+b7+b8+b9+b10+b11) :=by omega
@[go_sem] theorem Vs (a b1 b2 b3 b4 b5 b6 b7 b8 b9 b10 b11 : Nat) : (a+b1+b2+b3+b4+b5+b6+b7+b8+b9+b10+b11=a) ↔ (b1+b2+b3+b4+b5+b6+b7+b8+b9+b10+b11=0) :=by omega
@[go_sem] theorem Vt (a b1 b2 b3 b4 b5 b6 b7 b8 b9 b10 b11 : Nat) : (a=a+b1+b2+b3+b4+b5+b6+b7+b8+b9+b10+b11) ↔ (b1+b2+b3+b4+b5+b6+b7+b8+b9+b10+b11=0) :=by omega
@[go_sem] theorem Vu (a b1 b2 b3 b4 b5 b6 b7 b8 b9 b10 b11 b12 : Nat) : (a<a+b1+b2+b3+b4+b5+b6+b7+b8+b9+b10+b11+b12) ↔ (0<b1+b2+b3+b4+b5+b6+b7+b8+b9+b10+b11+b12) :=by omega
@[go_sem] theorem Vv (a b1 b2 b3 b4 b5 b6 b7 b8 b9 b10 b11 b12 : Nat) : (a+b1+b2+b3+b4+b5+b6+b7+b8+b9+b10+b11+b12=a) ↔ (b1+b2+b3+b4+b5+b6+b7+b8+b9+b10+b11+b12=0) :=by omega
@[go_sem] theorem Vw (a b1 b2 b3 b4 b5 b6 b7 b8 b9 b10 b11 b12 : Nat) : (a=a+b1+b2+b3+b4+b5+b6+b7+b8+b9+b10+b11+b12) ↔ (b1+b2+b3+b4+b5+b6+b7+b8+b9+b10+b11+b12=0) :=by omega
@[go_sem] theorem Ui (a b c : Nat) (h : a<b) : (a<b+c) =True:=by simp;omega
@[go_sem] theorem Uj (a b c : Nat) (h : a≤b) : (a≤b+c) =True:=by simp;omega
@[go_sem] theorem Uk (a b c : Nat) (h : a<b) : (a=b+c) =False:=by simp;omega
@[go_sem] theorem Tv (a b c : Nat) (h : a<b) : (b+c=a) =False:=by simp;omega
@[go_sem] theorem P_ (B : Nat) (a w : World) : Below B a w.drew=Below B a w:=propext ⟨fun h=> ⟨h.os,h.tape,h.output,h.size,h.block⟩,fun h=>h.drew⟩
@[go_sem] theorem Pg (B : Nat) (a w : World) (n : Nat) : Below B a (w.drewN n) =Below B a w:=propext ⟨fun h=> ⟨h.os,h.tape,h.output,h.size,h.block⟩,fun h=>below_drewN h n⟩
theorem sI {P : Program}{t e : TypeId}{len : Nat}(ht : P.underlying t=some (.array len e))(hag : ∀w, (isAgg e).run P w= .ok false w)
  (hs : (P.info? e).map (·.size) =some 1) (cs : Array Value) (i : Int) (h0 : 0≤i) (h : i<len) (v : Value) (hv : cs[i.toNat]? =some v) (w : World) :
  (Instr.index t (.agg cs) (.int .i64 i)).run P w= .ok v w:=by
 obtain⟨inf,hi,hz⟩ :=Option.map_eq_some_iff.1 hs;simp [Instr.index,asIntOf,run_underlying ht,h0,h,sizeOf,typeInfo,hi,hz,part,hag,hv]
theorem cB {a b : Int}(h : a=b) : Ending.returned (.int .i64 a) = .returned (.int .i64 b) :=by rw [h]
theorem aU {a b : Bool}(h : a=b) : Ending.returned (.bool a) = .returned (.bool b) :=by rw [h]
theorem Hid.aD {p : Prop}(h : p) : Hid p:=h
structure FT (α : Type) where
 n : Nat
 enc : α→List Value
 dflt : α
 len : ∀x, (enc x).length=n
 one : ∀x, ∀u∈enc x,u.oneCell'=true
 pos : 0<n
 small : n≤32
variable {α : Type} {T : FT α} {w w' : World} {B B' : Nat} {e : TypeId} {v : Value} {l : List α}
def flat (T : FT α)(l : List α) : List Value:=l.flatMap T.enc
theorem nP (T : FT α)(l : List α) : (flat T l).length=l.length * T.n:=by
 induction l with
 |nil=>simp [flat]
 |cons x l ih=>
  have h : flat T (x::l) =T.enc x++flat T l:=rfl;rw [h,XU,ih,T.len,List.length_cons,Nat.succ_mul];omega
theorem rV (T : FT α)(l m : List α) : flat T (l++m) =flat T l++flat T m:=by simp [flat]
theorem flat_get (T : FT α) : ∀ (l : List α) (k j : Nat) (x : α),l[k]? =some x→j<T.n→ (flat T l)[k * T.n+j]? = (T.enc x)[j]?
 | [],k,j,x,h,_=>by simp at h
 |y::l,0,j,x,h,hj=>by
  simp only [List.getElem?_cons_zero,Option.some.injEq] at h;subst h;show (T.enc y++flat T l)[0 * T.n+j]? =_;rw [Nat.zero_mul,Nat.zero_add,List.getElem?_append,if_pos (by rw [T.len];exact hj)]
 |y::l,k+1,j,x,h,hj=>by
  simp only [List.getElem?_cons_succ] at h;have ih:=flat_get T l k j x h hj;show (T.enc y++flat T l)[(k+1) * T.n+j]? =_;rw [List.getElem?_append,if_neg (by rw [T.len,Nat.succ_mul];omega),T.len, ←ih];congr 1;rw [Nat.succ_mul];omega
theorem Ox (T : FT α)(l : List α)(k j : Nat)(x y : α)(u : Value)(hx : l[k]? =some x)(hj : j<T.n)(hy : T.enc y= (T.enc x).set j u) :
  flat T (l.set k y) = (flat T l).set (k * T.n+j) u:=by
 induction l generalizing k with
 |nil=>simp at hx
 |cons z l ih=>
  cases k with
  |zero=>
   simp only [List.getElem?_cons_zero,Option.some.injEq] at hx;subst hx;show T.enc y++flat T l= (T.enc z++flat T l).set (0 * T.n+j) u;rw [hy,Nat.zero_mul,Nat.zero_add,List.set_append,if_pos (by rw [T.len];exact hj)]
  |succ k=>
   simp only [List.getElem?_cons_succ] at hx;show T.enc z++flat T (l.set k y) = (T.enc z++flat T l).set ((k+1) * T.n+j) u;rw [List.set_append,if_neg (by rw [T.len,Nat.succ_mul];omega),T.len,ih k hx];congr 2;rw [Nat.succ_mul];omega
def dX (T : FT α)(w : World)(B : Nat)(v : Value)(l : List α) : Prop:=
 ∃A cap,v= .slice A l.length cap∧l.length≤cap∧cap≤maxLen∧
  (l≠ []→ ∃g off,A=some ⟨g,off,none⟩ ∧g<B∧ ∀j u, (flat T l)[j]? =some u→w.cell? ⟨g,off+j,none⟩ =some u)
def aX (T : FT α)(e : TypeId)(w : World)(v : Value)(l : List α) : Prop:=w.ownsRow 0 e T.n v l.length (flat T l)
theorem dX.LQ : dX T w B (.slice none 0 0) []:= ⟨none,0,rfl,XQ _,by simp [maxLen],fun h=>absurd rfl h⟩
theorem dX.keep (h : dX T w B v l)(hk : ∀k,k<B→w'.heap[k]? =w.heap[k]?)(hB : B≤B') : dX T w' B' v l:=by
 obtain⟨A,cap,hv,h1,h2,h3⟩ :=h;refine⟨A,cap,hv,h1,h2,fun hl=> ?_⟩;obtain⟨g,off,hA,hg,hc⟩ :=h3 hl;refine⟨g,off,hA,by omega,fun j u hu=> ?_⟩;rw [←hc j u hu];simp [World.cell?,hk g hg]
theorem dX.bZ (h : dX T w B v l)(hB : B≤w.heap.size)(hB' : B≤B')(os : List Obj)(d : Nat) : dX T (grow w os d) B' v l:=
 h.keep (fun k hk=>pJ w os d k (by omega)) hB'
theorem dX.av (h : dX T w B v l)(hB : B≤w.heap.size)(hB' : B≤B')(o : Obj) : dX T (w.alloc o) B' v l:=
 h.keep (fun k hk=>Below.heap_alloc w o k (by omega)) hB'
theorem dX.below (h : dX T w B v l)(hb : Below B w w') : dX T w' B v l:=h.keep hb.block (XQ _)
theorem dX.at_ (h : dX T w B v l){k : Nat}{x : α}(hx : l[k]? =some x) :
  ∃g off cap,v= .slice (some ⟨g,off,none⟩) l.length cap∧g<B∧l.length≤cap∧cap≤maxLen∧ ∀j u, (T.enc x)[j]? =some u→w.cell? ⟨g,off+ (k * T.n+j),none⟩ =some u:=by
 obtain⟨A,cap,hv,h1,h2,h3⟩ :=h;have hl : l≠ []:=by rintro rfl;simp at hx
 obtain⟨g,off,rfl,hg,hc⟩ :=h3 hl;refine⟨g,off,cap,hv,hg,h1,h2,fun j u hu=>hc _ u ?_⟩;have hj : j<T.n:=by
  have:= (XW.1 hu).1;rw [T.len] at this;exact this
 rw [flat_get T l k j x hx hj];exact hu
theorem aX.form (h : aX T e w v l) : (v= .slice none 0 0∧l= []) ∨ ∃g cap,v= .slice (some ⟨g,0,none⟩) l.length cap∧g<w.heap.size∧l.length≤cap∧cap≤maxLen:=by
 rcases h.2 with ⟨rfl,hn⟩ | ⟨g,cap,cur,rfl,_,hh,h1,h2,_⟩
 ·exact .inl ⟨rfl,List.eq_nil_of_length_eq_zero hn⟩
 ·refine .inr ⟨g,cap,rfl, ?_,h1,h2⟩
  rcases Nat.lt_or_ge g w.heap.size with hlt|hge
  ·exact hlt
  ·rw [Array.getElem?_eq_none hge] at hh;cases hh
theorem aX.rd (h : aX T e w v l)(hB : ∀g,v.ownBlock=some g→g<B) : dX T w B v l:=by
 rcases h.2 with ⟨rfl,hn⟩ | ⟨g,cap,cur,rfl,_,hh,h1,h2,h3,h4⟩
 ·have hl : l= []:=List.eq_nil_of_length_eq_zero hn
  subst hl;exact dX.LQ
 ·refine⟨_,cap,rfl,h1,h2,fun _=> ⟨g,0,rfl,hB g rfl,fun j u hu=> ?_⟩⟩
  have:=h.cells (g:=g) rfl j u hu;have e0 : ((⟨g,0,none⟩ : Addr).add j) = ⟨g,0+j,none⟩ :=by
   unfold Addr.add;by_cases hj : j=0<;>simp [hj]
  rw [e0] at this;exact this
theorem aX.rd' (h : aX T e w v l) : dX T w w.heap.size v l:=h.rd fun _ hg=> (World.ownsRow.lt h _ hg).2
theorem aX.keep (h : aX T e w v l)(hk : ∀g,v.ownBlock=some g→w'.heap[g]? =w.heap[g]?) : aX T e w' v l:=by
 refine⟨h.1, ?_⟩;rcases h.2 with h2| ⟨g,cap,cur,hv,hg,hh,r⟩
 ·exact .inl h2
 ·refine .inr ⟨g,cap,cur,hv,hg, ?_,r⟩
  rw [hk g (by rw [hv];rfl)];exact hh
theorem aX.bZ (h : aX T e w v l)(os : List Obj)(d : Nat) : aX T e (grow w os d) v l:=
 h.keep fun g hg=>pJ w os d g (World.ownsRow.lt h g hg).2
theorem aX.av (h : aX T e w v l)(o : Obj) : aX T e (w.alloc o) v l:=
 h.keep fun g hg=>Below.heap_alloc w o g (World.ownsRow.lt h g hg).2
theorem aX.len_eq {g n c : Nat}(h : aX T e w (.slice (some ⟨g,0,none⟩) n c) l) : n=l.length:=by
 rcases h.2 with ⟨h',_⟩ | ⟨g',cap',cur,h',_⟩
 ·simp at h'
 ·injection h'
theorem aX.dG {g n c : Nat}(h : aX T e w (.slice (some ⟨g,0,none⟩) n c) l){k j : Nat}{x y : α}{u : Value}(hx : l[k]? =some x)(hj : j<T.n)(hy : T.enc y= (T.enc x).set j u) :
  aX T e (w.setCell ⟨g,k * T.n+j,none⟩ u) (.slice (some ⟨g,0,none⟩) n c) (l.set k y) :=by
 obtain rfl:=h.len_eq;have hs:= (World.ownsRow.stored (w:=w) (g:=g) h (k * T.n+j) u).1;rw [←Ox T l k j x y u hx hj hy] at hs;unfold aX;rw [X8];exact hs
theorem aX.cell_ {g n c : Nat}(h : aX T e w (.slice (some ⟨g,0,none⟩) n c) l){k j : Nat}{x : α}(hx : l[k]? =some x)(hj : j<T.n) :
  w.cell? ⟨g,k * T.n+j,none⟩ = (T.enc x)[j]? :=by
 obtain rfl:=h.len_eq;have hk : k<l.length:= (XW.1 hx).1;rw [World.ownsRow.cellAt (w:=w) h (k * T.n+j) (by
  calc k * T.n+j<k * T.n+T.n:=by omega
   _= (k+1) * T.n:=by rw [Nat.succ_mul]
   _≤l.length * T.n:=Nat.mul_le_mul_right _ hk),flat_get T l k j x hx hj]
theorem aX.dM {g n c : Nat}(h : aX T e w (.slice (some ⟨g,0,none⟩) n c) l)(j : Nat) : w.frozen? ⟨g,j,none⟩ =false:=by
 obtain rfl:=h.len_eq;exact World.ownsRow.frozenAt (w:=w) h j
theorem g_ {α : Type}{l : List α}{k : Nat}{x : α}(y : α)(h : l[k]? =some x) : (l.set k y)[k]? =some y:=by
 have hk:= (XW.1 h).1;simp [hk]
theorem EZ (T : FT α)(z : Array Value)(hz : z.toList=T.enc T.dflt)(n : Nat) : (madeCells z (n * T.n)).toList=flat T (List.replicate n T.dflt) :=by
 have hzs : z.size=T.n:=by rw [←Array.length_toList,hz,T.len]
 apply List.ext_getElem?;intro i;by_cases hi : i<n * T.n
 ·have hp:=T.pos
  have hq : i / T.n<n:=by rw [Nat.div_lt_iff_lt_mul hp];exact hi
  have hm : i%T.n<T.n:=Nat.mod_lt _ hp;have hx : (List.replicate n T.dflt)[i / T.n]? =some T.dflt:=by simp [hq]
  have:=flat_get T (List.replicate n T.dflt) (i / T.n) (i%T.n) T.dflt hx hm;rw [show i / T.n * T.n+i%T.n=i from by rw [Nat.mul_comm];exact Nat.div_add_mod i T.n] at this;rw [this, ←hz];simp only [madeCells,Array.toList_map,Array.toList_range,List.getElem?_map,List.getElem?_range hi,Option.map_some,hzs];rw [getElem!_pos z (i%T.n) (by omega)];simp [hzs,hm]
 ·rw [List.getElem?_eq_none (by simp [size_madeCells];omega),List.getElem?_eq_none (by rw [nP,List.length_replicate];omega)]
theorem aX.made (T : FT α)(z : Array Value)(hz : z.toList=T.enc T.dflt)(n : Nat)(hn : n≤maxLen)(w : World)(e : TypeId) :
  aX T e (w.alloc (.cells (madeCells z (n * T.n)) e)) (.slice (some ⟨w.heap.size,0,none⟩) n n) (List.replicate n T.dflt) :=by
 have h:=World.ownsRow_lit (base:=0) (e:=e) (size:=T.n) w (madeCells z (n * T.n)) n (X3 _) hn (size_madeCells _ _);rw [EZ T z hz n] at h;unfold aX;rw [List.length_replicate];exact h
theorem lM {P : Program}(T : FT α)(t e : TypeId)(z : Value)(bytes : Nat)(ht : P.underlying t=some (.slice e))(hinfo : (P.info? e).map (fun i=> (i.zero,i.size,i.bytes)) =some (some z,T.n,bytes))
  (n : Nat) (hbytes : bytes * n≤281474976710656) (h63 : n≤9223372036854775807) (w : World) :
  (Instr.makeSlice t (.int .i64 (n : Int)) (.int .i64 (n : Int))).run P w= .ok (.slice (some ⟨w.heap.size,0,none⟩) n n) (w.alloc (.cells (madeCells z.cells (n * T.n)) e)) :=by
 obtain⟨i,hi,hzz⟩ :=Option.map_eq_some_iff.1 hinfo;simp only [Prod.mk.injEq] at hzz;obtain⟨hz,hs,hb⟩ :=hzz;subst hb;have hb' : (i.bytes : Int) * (n : Int) ≤281474976710656:=by
  have h : ((i.bytes * n : Nat) : Int) ≤281474976710656:=by omega
  rwa [Int.natCast_mul] at h
 have hr:=run_make (P:=P) w t e i z ht hi hz .i64 .i64 n n (by omega) (Int.le_refl _) hb' (by omega);simp only [X6,hs] at hr;exact hr
structure SV where
 a : Option Addr
 l : Nat
 c : Nat
def SV.val (s : SV) : Value:= .slice s.a s.l s.c
def FS : FT SV:= {n:=1,enc:=fun s=> [.slice s.a s.l s.c],dflt:= ⟨none,0,0⟩,len:=fun _=>rfl,one:=by intro x u hu;simp at hu;subst hu;rfl,pos:=by decide,small:=by decide}
variable {α : Type} {T : FT α} {w w' : World} {B B' : Nat} {e E : TypeId} {v : Value} {ll : List (List α)} {eU : List SV}
def bq (v : Value) : List Nat:=v.ownBlock.toList
def bT (v : Value)(eU : List SV) : List Nat:=bq v++eU.flatMap fun s=>bq s.val
structure ig (T : FT α)(w : World)(B : Nat)(v : Value)(eU : List SV)(ll : List (List α)) : Prop where
 len : eU.length=ll.length
 outer : dX FS w B v eU
 inner : ∀ (k : Nat) (s : SV) (l : List α),eU[k]? =some s→ll[k]? =some l→dX T w B s.val l
structure dF (T : FT α)(e E : TypeId)(w : World)(v : Value)(eU : List SV)(ll : List (List α)) : Prop where
 len : eU.length=ll.length
 outer : aX FS E w v eU
 inner : ∀ (k : Nat) (s : SV) (l : List α),eU[k]? =some s→ll[k]? =some l→aX T e w s.val l
 nodup : (bT v eU).Nodup
theorem aS {v : Value}{g : Nat} : g∈bq v↔v.ownBlock=some g:=by simp [bq,eq_comm]
theorem dw {v : Value}{eU : List SV}{g : Nat} : g∈bT v eU↔v.ownBlock=some g∨ ∃s∈eU,s.val.ownBlock=some g:=by
 simp [bT,aS]
theorem ig.keep (h : ig T w B v eU ll)(hk : ∀k,k<B→w'.heap[k]? =w.heap[k]?)(hB : B≤B') : ig T w' B' v eU ll:=
 ⟨h.len,h.outer.keep hk hB,fun k s l h1 h2=> (h.inner k s l h1 h2).keep hk hB⟩
theorem ig.bZ (h : ig T w B v eU ll)(hB : B≤w.heap.size)(hB' : B≤B')(os : List Obj)(d : Nat) : ig T (grow w os d) B' v eU ll:=
 h.keep (fun k hk=>pJ w os d k (by omega)) hB'
theorem ig.av (h : ig T w B v eU ll)(hB : B≤w.heap.size)(hB' : B≤B')(o : Obj) : ig T (w.alloc o) B' v eU ll:=
 h.keep (fun k hk=>Below.heap_alloc w o k (by omega)) hB'
theorem ig.below (h : ig T w B v eU ll)(hb : Below B w w') : ig T w' B v eU ll:=h.keep hb.block (XQ _)
theorem ig.LQ : ig T w B (.slice none 0 0) [] []:= ⟨rfl,dX.LQ,fun k s l h=>by simp at h⟩
theorem dF.lt (h : dF T e E w v eU ll) : ∀g∈bT v eU,g<w.heap.size:=by
 intro g hg;rcases dw.1 hg with h1| ⟨s,hs,h1⟩
 ·exact(World.ownsRow.lt h.outer _ h1).2
 ·obtain⟨k,hk,hks⟩ :=List.getElem_of_mem hs
  have hl : k<ll.length:=by rw [←h.len];exact hk
  exact(World.ownsRow.lt (h.inner k s ll[k] (by rw [XL hk,hks]) (XL hl)) _ h1).2
theorem dF.rd (h : dF T e E w v eU ll)(hB : ∀g∈bT v eU,g<B) : ig T w B v eU ll:=
 ⟨h.len,h.outer.rd fun g hg=>hB g (dw.2 (.inl hg)),fun k s l h1 h2=> (h.inner k s l h1 h2).rd fun g hg=>hB g (dw.2 (.inr ⟨s,XV h1,hg⟩))⟩
theorem dF.rd' (h : dF T e E w v eU ll) : ig T w w.heap.size v eU ll:=h.rd h.lt
theorem dF.keep (h : dF T e E w v eU ll)(hk : ∀g∈bT v eU,w'.heap[g]? =w.heap[g]?) : dF T e E w' v eU ll:=
 ⟨h.len,h.outer.keep fun g hg=>hk g (dw.2 (.inl hg)),fun k s l h1 h2=> (h.inner k s l h1 h2).keep fun g hg=>hk g (dw.2 (.inr ⟨s,XV h1,hg⟩)),h.nodup⟩
theorem dF.bZ (h : dF T e E w v eU ll)(os : List Obj)(d : Nat) : dF T e E (grow w os d) v eU ll:=
 h.keep fun g hg=>pJ w os d g (h.lt g hg)
theorem dF.av (h : dF T e E w v eU ll)(o : Obj) : dF T e E (w.alloc o) v eU ll:=
 h.keep fun g hg=>Below.heap_alloc w o g (h.lt g hg)
theorem DN : ∀ {eU : List SV}, (eU.flatMap fun s=>bq s.val).Nodup→ ∀ {i k : Nat} {s s' : SV} {g : Nat},eU[i]? =some s→eU[k]? =some s'→i≠k→s.val.ownBlock=some g→s'.val.ownBlock=some g→False
 | [],_,i,k,s,s',g,hi,_,_,_,_=>by simp at hi
 |x::xs,hn,i,k,s,s',g,hi,hk,hne,hs,hs'=>by
  rw [List.flatMap_cons,List.nodup_append] at hn;obtain⟨_,h2,h3⟩ :=hn;cases i with
  |zero=>
   cases k with
   |zero=>exact hne rfl
   |succ k=>
    simp only [List.getElem?_cons_zero,Option.some.injEq] at hi;subst hi;simp only [List.getElem?_cons_succ] at hk;exact h3 g (aS.2 hs) g (List.mem_flatMap.2 ⟨s',XV hk,aS.2 hs'⟩) rfl
  |succ i=>
   simp only [List.getElem?_cons_succ] at hi;cases k with
   |zero=>
    simp only [List.getElem?_cons_zero,Option.some.injEq] at hk;subst hk;exact h3 g (aS.2 hs') g (List.mem_flatMap.2 ⟨s,XV hi,aS.2 hs⟩) rfl
   |succ k=>
    simp only [List.getElem?_cons_succ] at hk;exact DN h2 hi hk (fun e=>hne (by rw [e])) hs hs'
theorem bY {l : List α}(h : dX T w w.heap.size v l)(hb : Below w.heap.size w w') : dX T w' w'.heap.size v l:=h.keep hb.block hb.size
theorem kY (h : ig T w w.heap.size v eU ll)(hb : Below w.heap.size w w') : ig T w' w'.heap.size v eU ll:=h.keep hb.block hb.size
structure bn (F : List Nat)(w w' : World) : Prop where
 os : w'.os=w.os
 tape : w'.tape=w.tape
 output : w'.output=w.output
 size : w.heap.size≤w'.heap.size
 block : ∀k,k<w.heap.size→k∉F→w'.heap[k]? =w.heap[k]?
theorem bn.refl (F : List Nat)(w : World) : bn F w w:= ⟨rfl,rfl,rfl,XQ _,fun _ _ _=>rfl⟩
theorem bn.trans {F : List Nat}{a b c : World}(h : bn F a b)(k : bn F b c) : bn F a c:=
 ⟨k.os.trans h.os,k.tape.trans h.tape,k.output.trans h.output,XR h.size k.size,fun i hi hn=> (k.block i (XO hi h.size) hn).trans (h.block i hi hn)⟩
theorem bn.mono {F G : List Nat}{a b : World}(h : bn F a b)(hs : ∀g∈F,g∈G) : bn G a b:=
 ⟨h.os,h.tape,h.output,h.size,fun k hk hn=>h.block k hk fun hm=>hn (hs k hm)⟩
theorem bn.of_below {F : List Nat}{a b : World}(h : Below a.heap.size a b) : bn F a b:= ⟨h.os,h.tape,h.output,h.size,fun k hk _=>h.block k hk⟩
theorem bn.iD {a b : World}{v : Value}(h : a.grownBy b v.ownBlock) : bn (bq v) a b:=
 ⟨h.os,h.tape,h.output,h.size,fun k hk hn=>h.block k hk fun e=>hn (aS.2 e.symm)⟩
theorem bn.below {F : List Nat}{a b : World}{B : Nat}(h : bn F a b)(hB : B≤a.heap.size)(hF : ∀g∈F,B≤g) : Below B a b:=
 ⟨h.os,h.tape,h.output,h.size,fun k hk=>h.block k (by omega) fun hm=>by have:=hF k hm;omega⟩
theorem aX.aM {l : List α}{F : List Nat}(h : aX T e w v l)(hc : bn F w w')(hd : ∀g∈bq v,g∉F) : aX T e w' v l:=
 h.keep fun g hg=>hc.block g (World.ownsRow.lt h _ hg).2 (hd g (aS.2 hg))
theorem dF.aM {F : List Nat}(h : dF T e E w v eU ll)(hc : bn F w w')(hd : ∀g∈bT v eU,g∉F) : dF T e E w' v eU ll:=
 h.keep fun g hg=>hc.block g (h.lt g hg) (hd g hg)
theorem dX.aM {l : List α}{F : List Nat}{B : Nat}(h : dX T w B v l)(hc : bn F w w')(hB : B≤w.heap.size)(hd : ∀g∈F,B≤g) : dX T w' B v l:=
 h.keep (fun k hk=>hc.block k (by omega) fun hm=>by have:=hd k hm;omega) (XQ _)
theorem bn.cell {F : List Nat}(hc : bn F w w')(b o : Nat)(hb : b<w.heap.size)(hn : b∉F) : w'.cell? ⟨b,o,none⟩ =w.cell? ⟨b,o,none⟩ :=by
 simp [World.cell?,hc.block b hb hn]
theorem bn.frozen {F : List Nat}(hc : bn F w w')(b o : Nat)(hb : b<w.heap.size)(hn : b∉F) : w'.frozen? ⟨b,o,none⟩ =w.frozen? ⟨b,o,none⟩ :=by
 simp [World.frozen?,hc.block b hb hn]
theorem Ci {a b : World}(os : List Obj)(d d' : Nat)(hs : a.heap.size=b.heap.size)(g : Nat)(hg : a.heap.size≤g) : (grow b os d').heap[g]? = (grow a os d).heap[g]? :=by
 show (b.heap++os.toArray)[g]? = (a.heap++os.toArray)[g]?;rw [Array.getElem?_append,Array.getElem?_append,if_neg (by omega),if_neg (by omega),hs]
theorem aX.M4 {a b : World}{os : List Obj}{d : Nat}{l : List α}(h : aX T e (grow a os d) v l)(hs : a.heap.size=b.heap.size)(hf : ∀g∈bq v,a.heap.size≤g)(d' : Nat) : aX T e (grow b os d') v l:=
 h.keep fun g hg=>Ci os d d' hs g (hf g (aS.2 hg))
theorem dF.M4 {a b : World}{os : List Obj}{d : Nat}(h : dF T e E (grow a os d) v eU ll)(hs : a.heap.size=b.heap.size)(hf : ∀g∈bT v eU,a.heap.size≤g)(d' : Nat) : dF T e E (grow b os d') v eU ll:=
 h.keep fun g hg=>Ci os d d' hs g (hf g hg)
theorem dQ {l : List α}(h : aX T e w v l) : ∀g∈bq v,g<w.heap.size:=fun _ hg=> (World.ownsRow.lt h _ (aS.1 hg)).2
theorem Af : ∀ {eU : List SV} {i : Nat} {s : SV}, (eU.flatMap fun s=>bq s.val).Nodup→ (∀g∈bq s.val,g∉eU.flatMap fun s=>bq s.val) → ((eU.set i s).flatMap fun s=>bq s.val).Nodup
 | [],_,_,_,_=>by simp
 |x::xs,0,s,h,hs=>by
  rw [List.flatMap_cons,List.nodup_append] at h;simp only [List.set_cons_zero,List.flatMap_cons,List.nodup_append];refine⟨?_,h.2.1,fun a ha b hb e=> ?_⟩
  ·unfold bq
   cases s.val.ownBlock<;>simp
  ·subst e
   exact hs a ha (List.mem_flatMap.2 (by
    obtain⟨y,hy,hm⟩ :=List.mem_flatMap.1 hb;exact⟨y,List.mem_cons_of_mem _ hy,hm⟩))
 |x::xs,i+1,s,h,hs=>by
  rw [List.flatMap_cons,List.nodup_append] at h;simp only [List.set_cons_succ,List.flatMap_cons,List.nodup_append];refine⟨h.1,Af h.2.1 (fun g hg hm=>hs g hg ?_),fun a ha b hb e=> ?_⟩
  ·obtain⟨y,hy,hm⟩ :=List.mem_flatMap.1 hm
   exact List.mem_flatMap.2 ⟨y,List.mem_cons_of_mem _ hy,hm⟩
  ·subst e
   obtain⟨y,hy,hm⟩ :=List.mem_flatMap.1 hb;rcases List.mem_or_eq_of_mem_set hy with hy|rfl
   ·exact h.2.2 a ha a (List.mem_flatMap.2 ⟨y,hy,hm⟩) rfl
   ·exact hs a hm (List.mem_flatMap.2 ⟨x,List.mem_cons_self ..,ha⟩)
theorem dF.M5 {g n c : Nat}(h : dF T e E w (.slice (some ⟨g,0,none⟩) n c) eU ll){i : Nat}{s0 s : SV}{l : List α}(hi : eU[i]? =some s0)(hl : aX T e w s.val l)(hf : ∀b∈bq s.val,b∉bT (.slice (some ⟨g,0,none⟩) n c) eU) :
  dF T e E (w.setCell ⟨g,i,none⟩ s.val) (.slice (some ⟨g,0,none⟩) n c) (eU.set i s) (ll.set i l) :=by
 have hn:=h.nodup;unfold bT at hn;rw [List.nodup_append] at hn;obtain⟨hn1,hn2,yA⟩ :=hn;have hg : ∀s'∈eU,s'.val.ownBlock≠some g:=fun s' hs' he=>yA g (aS.2 rfl) g (List.mem_flatMap.2 ⟨s',hs',aS.2 he⟩) rfl;have hkeep : ∀b,b≠g→ (w.setCell ⟨g,i,none⟩ s.val).heap[b]? =w.heap[b]? :=fun b hb=>Below.heap_setCell _ _ _ _ hb;refine⟨by rw [X8,X8];exact h.len, ?_,fun k s' l' hk hl'=> ?_, ?_⟩
 ·have:=h.outer.dG (j:=0) (y:=s) (u:= .slice s.a s.l s.c) hi (by decide) rfl
  rw [show i * FS.n+0=i by simp [FS]] at this;exact this
 ·have hik:= (XW.1 hi).1
  by_cases hki : i=k
  ·subst hki
   rw [X9 hik] at hk;rw [X9 (by rw [←h.len];exact hik)] at hl';cases hk;cases hl';exact hl.keep fun b hb=>hkeep b fun e=>hf b (aS.2 hb) (dw.2 (.inl (by rw [e];rfl)))
  ·rw [List.getElem?_set_ne hki] at hk hl'
   exact(h.inner k s' l' hk hl').keep fun b hb=>hkeep b fun e=>hg s' (XV hk) (by rw [hb,e])
 ·unfold bT
  rw [List.nodup_append];refine⟨hn1,Af hn2 (fun b hb hm=>hf b hb (XT.2 (.inr hm))),fun a ha b hb e=> ?_⟩;subst e;obtain⟨y,hy,hm⟩ :=List.mem_flatMap.1 hb;rcases List.mem_or_eq_of_mem_set hy with hy|rfl
  ·exact yA a ha a (List.mem_flatMap.2 ⟨y,hy,hm⟩) rfl
  ·exact hf a hm (XT.2 (.inl ha))
theorem dF.made (z : Array Value)(hz : z.toList= [.slice none 0 0])(n : Nat)(hn : n≤maxLen)(w : World)(T : FT α)(e E : TypeId) :
  dF T e E (w.alloc (.cells (madeCells z (n * 1)) E)) (.slice (some ⟨w.heap.size,0,none⟩) n n) (List.replicate n ⟨none,0,0⟩) (List.replicate n []) :=by
 refine⟨by simp,aX.made FS z hz n hn w E,fun k s l hk hl=> ?_, ?_⟩
 ·rw [List.getElem?_replicate] at hk hl
  split at hk
  ·rename_i h
   rw [if_pos h] at hl;cases hk;cases hl;exact World.ownsRow_nil _ _ _ _
  ·cases hk
 ·unfold bT
  have : (List.replicate n (⟨none,0,0⟩ : SV)).flatMap (fun s=>bq s.val) = []:=by
   rw [List.flatMap_eq_nil_iff];intro x hx;rw [List.eq_of_mem_replicate hx];rfl
  rw [this];simp [bq,Value.ownBlock]
theorem ig.row {wr : World}{A : Option Addr}{n c i : Nat}(h : ig T w w.heap.size (.slice A n c) eU ll)(hb : Below w.heap.size w wr)(hi : i<ll.length) :
  ∃g o A' c',A=some ⟨g,o,none⟩ ∧g<w.heap.size∧wr.cell? ⟨g,o+i,none⟩ =some (.slice A' ll[i].length c') ∧dX T w w.heap.size (.slice A' ll[i].length c') ll[i]:=by
 have hs : i<eU.length:=by rw [h.len];exact hi
 obtain⟨g,o,cap,hv,hg,_,_,hc⟩ := (h.outer.below hb).at_ (XL hs);have r:=h.inner i _ _ (XL hs) (XL hi);obtain⟨A',c',hv',_⟩ :=id r;injection hv with e1 _ _;have:=hc 0 _ rfl;refine⟨g,o,A',c',e1,hg, ?_,by rw [←hv'];exact r⟩;rw [←hv'];simpa [FS,SV.val] using this
theorem ig.len' {A : Option Addr}{n c : Nat}(h : ig T w B (.slice A n c) eU ll) : n=ll.length∧ll.length≤c∧c≤maxLen:=by
 obtain⟨A',c',hv,q1,q2,_⟩ :=h.outer;injection hv with _ e2 e3;rw [h.len] at e2 q1;subst e3;exact⟨e2,q1,q2⟩
theorem jF {eU : List SV}{i : Nat}{s : SV}{b : Nat}(h : b∈bT v (eU.set i s)) : b∈bT v eU∨b∈bq s.val:=by
 rcases dw.1 h with h1| ⟨y,hy,h1⟩
 ·exact .inl (dw.2 (.inl h1))
 ·rcases List.mem_or_eq_of_mem_set hy with hy|hy
  ·exact .inl (dw.2 (.inr ⟨y,hy,h1⟩))
  ·rw [hy] at h1
   exact .inr (aS.2 h1)
theorem rD (B n : Nat) : ∀g∈bT (.slice (some ⟨B,0,none⟩) n n) (List.replicate n ⟨none,0,0⟩),B≤g:=by
 intro g hg;rcases dw.1 hg with h| ⟨y,hy,h⟩
 ·simp [Value.ownBlock] at h
  omega
 ·rw [List.eq_of_mem_replicate hy] at h
  simp [SV.val,Value.ownBlock] at h
def fO (ll : List (List α)) : Nat:=ll.length+ (ll.map List.length).sum
def ku (ll : List (List α)) : Nat:= (ll.map List.length).sum
theorem nW (ll : List (List α))(i : Nat)(hi : i<ll.length) : ku (ll.take (i+1)) =ku (ll.take i) +ll[i].length:=by
 unfold ku;rw [XZ hi,List.map_append,List.sum_append];simp only [List.map_cons,List.map_nil,List.sum_cons,List.sum_nil,Nat.add_zero]
theorem qh (ll : List (List α)) : ku ll=ll.flatten.length:=by unfold ku;rw [List.length_flatten]
theorem nE (ll : List (List α))(i : Nat) : ku (ll.take i) ≤ku ll:=by
 unfold ku
 conv=>rhs;rw [←List.take_append_drop i ll]
 rw [List.map_append,List.sum_append];omega
theorem nX {l : List α}(h : l∈ll) : l.length≤fO ll:=by
 have : l.length≤ (ll.map List.length).sum:=by
  induction ll with
  |nil=>simp at h
  |cons x xs ih=>
   rcases Pe.1 h with rfl|h
   ·simp
   ·have:=ih h
    simp;omega
 unfold fO;omega
structure ST {α : Type}(P : Program)(T : FT α)(t e : TypeId) : Prop where
 und : P.underlying t=some (.slice e)
 info : ∃z bytes, (P.info? e).map (fun i=> (i.zero,i.size,i.bytes)) =some (some z,T.n,bytes) ∧z.cells.size=T.n∧bytes≤1024
variable {α : Type} {T : FT α} {w : World} {t e : TypeId} {P : Program}
theorem H7 (T : FT α)(l : List α) : ∀u∈flat T l,u.oneCell'=true:=by
 intro u hu;obtain⟨x,_,hx⟩ :=List.mem_flatMap.1 hu;exact T.one x u hx
theorem xG {base size : Nat}{i : TypeInfo}(ht : P.underlying t=some (.slice e))(hi : P.info? e=some i)
  (v : Value) (n : Nat) (xs : List Value) (hown : w.ownsRow base e size v n xs) (A : Option Addr) (c : Nat) (ty : TypeId) : (Builtin.append_ #[t,t] ty #[v, .slice A 0 c]).run P w= .ok v w:=by
 have hl : ∀a, (loadCells a 0).run P w= .ok #[] w:=fun a=>run_loadCells_list (P:=P) w a [] (fun j v hv=>by simp at hv);rcases hown.2 with ⟨rfl,rfl⟩ | ⟨g,cap,cur,rfl,_,_,hnc,_⟩
 ·cases A<;>simp [Builtin.append_,run_underlying ht,sizeOf,typeInfo,hi,Builtin.lenOf,Builtin.firstCells,hl]
 ·cases A<;>simp [Builtin.append_,run_underlying ht,sizeOf,typeInfo,hi,Builtin.lenOf,Builtin.firstCells,hnc,storeCells,hl]
theorem DR (X : ST P T t e)(ty : TypeId){v x : Value}{l m : List α}{B : Nat}(hown : aX T e w v l)(hr : dX T w B x m)(hlen : l.length+m.length≤1073741824) :
  ∃v' w', (Builtin.append_ #[t,t] ty #[v,x]).run P w= .ok v' w'∧aX T e w' v' (l++m) ∧w.grownBy w' v.ownBlock∧ (v'.ownBlock=v.ownBlock∨v'.ownBlock=some w.heap.size) :=by
 obtain⟨A,cap,rfl,h1,h2,h3⟩ :=hr;obtain⟨z,bytes,hinfo,hz,hby⟩ :=X.info;obtain⟨i,hi,hzz⟩ :=Option.map_eq_some_iff.1 hinfo;simp only [Prod.mk.injEq] at hzz;obtain⟨q1,q2,q3⟩ :=hzz;by_cases hm : m= []
 ·subst hm
  refine⟨v,w,xG X.und hi v _ _ hown A cap ty,by simpa using hown,World.grownBy.refl w _, .inl rfl⟩
 ·obtain⟨g,off,rfl,hg,hc⟩ :=h3 hm
  have hcells : ∀j u, (flat T m)[j]? =some u→w.cell? ((⟨g,off,none⟩ : Addr).add j) =some u:=by
   intro j u hu;rw [←hc j u hu];unfold Addr.add;by_cases hj : j=0<;>simp [hj]
  have hmx : l.length+m.length≤maxLen:=by unfold maxLen;omega
  have hbb : (l.length+m.length) * bytes≤140737488355328:=by
   calc (l.length+m.length) * bytes≤1073741824 * 1024:=Nat.mul_le_mul hlen hby
    _≤_:=by omega
  obtain⟨v',w',hrun,k1,k2,_,k4⟩ :=run_append_own_at (P:=P) w 0 t ty e i z T.n bytes X.und hi q1 q2 q3 hz T.pos v l.length (flat T l) hown ⟨g,off,none⟩ m.length cap (flat T m) (nP T m) hcells (H7 T m) hmx hbb (X3 _);refine⟨v',w',hrun, ?_,k2,k4⟩;unfold aX;rw [XU,rV];exact k1
theorem yB {o : Oper}{a : Act}{K : Act→World→Prop}{Q : Exit→Act→World→Prop}(X : ST P T t e)(s x : Operand)
  (ho : o.op= .call {callee:= .builtin .append,args:= #[s,x],argTypes:= #[t,t]})
  {v y : Value} {l m : List α} {B : Nat} (hs : a.eval s=v) (hx : a.eval x=y) (hown : aX T e w v l) (hr : dX T w B y m) (hlen : l.length+m.length≤1073741824)
  (h : ∀v' w',aX T e w' v' (l++m) →w.grownBy w' v.ownBlock→ (v'.ownBlock=v.ownBlock∨v'.ownBlock=some w.heap.size) →K (a.put o.dst v') w') : o.wp P a w K Q:=by
 obtain⟨v',w',hrun,h2,h3,h4⟩ :=DR X o.type hown hr hlen;unfold Oper.wp execOp;simp only [ho,resolve,invoke,builtin,Sem.run_bind,Sem.run_pure,Result.andThen_ok,List.map_toArray,List.map_cons,List.map_nil,hs,hx,hrun];exact h v' w' h2 h3 h4
theorem eP {ops : Array Oper}{rest : List Oper}{o : Oper}{a : Act}{Q : Exit→Act→World→Prop}(X : ST P T t e)(hgd : o.guard=none)(s x : Operand)
  (ho : o.op= .call {callee:= .builtin .append,args:= #[s,x],argTypes:= #[t,t]})
  {v y : Value} {l m : List α} {B : Nat} (hs : a.eval s=v) (hx : a.eval x=y) (hown : aX T e w v l) (hr : dX T w B y m) (hlen : l.length+m.length≤1073741824)
  (h : ∀v' w',aX T e w' v' (l++m) →w.grownBy w' v.ownBlock→ (v'.ownBlock=v.ownBlock∨v'.ownBlock=some w.heap.size) →wpList P ops Q rest (a.put o.dst v') w') : wpList P ops Q (o::rest) a w:=
 wpList_plain hgd fun _ hK=>yB X s x ho hs hx hown hr hlen fun v' w' h2 h3 h4=>hK _ _ (h v' w' h2 h3 h4)
theorem jq {ops : Array Oper}{o : Oper}{a : Act}{K : Act→World→Prop}{Q : Exit→Act→World→Prop}{E : Prop}(X : ST P T t e)(hgd : o.guard=none)(s x : Operand)
  (ho : o.op= .call {callee:= .builtin .append,args:= #[s,x],argTypes:= #[t,t]})
  {v y : Value} {l m : List α} {B : Nat} (hs : a.eval s=v) (hx : a.eval x=y) (hown : aX T e w v l) (hr : dX T w B y m) (hlen : l.length+m.length≤1073741824)
  (h : ∀v' w',aX T e w' v' (l++m) →w.grownBy w' v.ownBlock→ (v'.ownBlock=v.ownBlock∨v'.ownBlock=some w.heap.size) →K (a.put o.dst v') w') :
  if Region.wanted o (yielded ops a.tmps) =true then Oper.wp P o a w K Q else E:=by
 have hw : Region.wanted o (yielded ops a.tmps) =true:=by simp [Region.wanted,hgd]
 rw [if_pos hw];exact yB X s x ho hs hx hown hr hlen h
theorem aX.lit (T : FT α)(l : List α)(cs : Array Value)(hcs : cs.toList=flat T l)(hl : l.length≤maxLen)(w : World)(e : TypeId) :
  aX T e (w.alloc (.cells cs e)) (.slice (some ⟨w.heap.size,0,none⟩) l.length l.length) l:=by
 have h:=World.ownsRow_lit (base:=0) (e:=e) (size:=T.n) w cs l.length (X3 _) hl (by rw [←Array.length_toList,hcs,nP]);rw [hcs] at h;exact h
theorem iY {w : World}{v v' : Value}(h : v'.ownBlock=v.ownBlock∨v'.ownBlock=some w.heap.size) : ∀g∈bq v',g∈bq v∨g=w.heap.size:=by
 intro g hg;rw [aS] at hg;rcases h with h|h
 ·exact .inl (aS.2 (by rw [←h];exact hg))
 ·rw [h] at hg
  injection hg with hg;exact .inr hg.symm
end Go.Proofs.YtkmggglljkmjoaaGreat
