/-
  Several texts in one: lemmas and contracts that the claim rests on.
-/
import Derived.Test.YtkmggglljkmjoaaGreatUTC1
import Derived.Deep.QuietTactic
import Derived.BigQuiet
import Derived.Deep.LoopGhost
import Derived.Deep.RegionHeld3
import Derived.Test.YtkmggglljkmjoaaGreatUTC2
import Derived.WalkSpells
import Derived.Laws.Cover3
import Derived.Deep.WholeRow
import Derived.Test.YtkmggglljkmjoaaGreatUTC8
import Derived.Test.YtkmggglljkmjoaaGreatUTC9
import Derived.Test.YtkmggglljkmjoaaGreatUTC15
namespace Go.Proofs.YtkmggglljkmjoaaGreat.Lim
open Go.RowKit
theorem Tryz.stInt : ST Tryz.prog FI 24 3:= ⟨Tryz.underlying24, .int .i64 0,8,by kernel_rfl,rfl,by decide⟩
def idxOf {α : Type}(p : α→Bool)(l : List α) : Int:=match l.findIdx? p with|some i=>i|none=> -1
theorem idxOf_hit {α : Type}(p : α→Bool)(l : List α)(i : Nat)(hi : i<l.length)(h : (l.take i).any p=false)(hp : p l[i]=true) : idxOf p l=i:=by
 have hf : l.findIdx? p=some i:=by
  rw [List.findIdx?_eq_some_iff_getElem]
  refine⟨hi,hp,fun j hj=> ?_⟩
  rw [List.any_eq_false] at h
  exact h l[j] (List.mem_take_iff_getElem.2 ⟨j,by omega,rfl⟩)
 unfold idxOf
 rw [hf]
theorem rT {α : Type}(p : α→Bool)(l : List α)(h : l.any p=false) : idxOf p l= -1:=by
 have hf : l.findIdx? p=none:=by
  rw [List.findIdx?_eq_none_iff]
  intro x hx
  rw [List.any_eq_false] at h
  simpa using h x hx
 unfold idxOf
 rw [hf]
theorem any_take_succ {α : Type}(p : α→Bool)(l : List α)(i : Nat)(hi : i<l.length)(h : (l.take i).any p=false)(hp : p l[i]=false) : (l.take (i+1)).any p=false:=by
 rw [List.take_succ_eq_append_getElem hi,List.any_append,h]
 simp [hp]
theorem vO {α : Type}(p : α→Bool)(l : List α) : decide (0≤idxOf p l) =l.any p:=by
 unfold idxOf
 cases h : l.findIdx? p with
 |none=>
  rw [List.findIdx?_eq_none_iff] at h
  have : l.any p=false:=by
   rw [List.any_eq_false]
   intro x hx
   simp [h x hx]
  rw [this]
  rfl
 |some i=>
  rw [List.findIdx?_eq_some_iff_getElem] at h
  obtain⟨hi,hp,_⟩ :=h
  have : l.any p=true:=List.any_eq_true.2 ⟨l[i],List.getElem_mem hi,hp⟩
  rw [this]
  simp
def eY (h : Int) : Bool:=decide (32≤h) &&decide (h≤223) &&decide (h%32<24)
set_option maxHeartbeats 400000 in
theorem mR (h : Int)(w : World) : Calls Tryz.prog 91 #[.int .i64 h] w fun e w'=>e= .returned (.bool (eY h)) ∧w'=w:=by
 by_cases h1 : 32≤h
 ·by_cases h2 : h≤223
  ·go_enter Tryz.func91,Tryz.ntmps91
   go_wp2
   go_ret
   exact⟨bK (by simp [eY,h1,h2]),rfl⟩
  ·go_enter Tryz.func91,Tryz.ntmps91
   go_wp2
   go_ret
   exact⟨bK (by simp [eY];omega),rfl⟩
 ·go_enter Tryz.func91,Tryz.ntmps91
  go_wp2
  go_ret
  exact⟨bK (by simp [eY];omega),rfl⟩
set_option maxHeartbeats 400000 in
theorem pI (h : Int)(w : World) : Calls Tryz.prog 114 #[.int .i64 h] w fun e w'=>e= .returned (.bool (eY h)) ∧w'=w:=by
 by_cases h1 : 32≤h
 ·by_cases h2 : h≤223
  ·go_enter Tryz.func114,Tryz.ntmps114
   go_wp2
   go_ret
   exact⟨bK (by simp [eY,h1,h2]),rfl⟩
  ·go_enter Tryz.func114,Tryz.ntmps114
   go_wp2
   go_ret
   exact⟨bK (by simp [eY];omega),rfl⟩
 ·go_enter Tryz.func114,Tryz.ntmps114
  go_wp2
  go_ret
  exact⟨bK (by simp [eY];omega),rfl⟩
theorem lV {v : Value}{a b : Bool}(h : a=b) : Ending.returned (.tuple #[v, .bool a]) = .returned (.tuple #[v, .bool b]) :=by rw [h]
theorem bA.jB {e : TypeId}{w : World}{g n c k : Nat}{l : List Int}{x : Int}(h : bA FI e w (.slice (some ⟨g,0,none⟩) n c) l)(hx : l[k]? =some x) : w.cell? ⟨g,k,none⟩ =some (.int .i64 x) :=by simpa [FI] using h.cell_ (k:=k) (j:=0) hx (by decide)
set_option maxHeartbeats 400000 in
theorem uw (w : World)(v : Value)(l : List Int)(h : fE FI w w.heap.size v l)(hs : l.length≤1073741824) :
  Calls Tryz.prog 204 #[v] w fun e w'=> ∃v',e= .returned v'∧bA FI 3 w' v' l∧ (∀g∈cu v',w.heap.size≤g) ∧Below w.heap.size w w':=by
 obtain⟨A,c,hv,_,_,q3⟩ :=id h
 subst hv
 have heq:=fun w=>Lib.run_eql_slice_nil (P:=Tryz.prog) w 24 3 A l.length c 0 0 Tryz.underlying24
 cases A with
 |none=>
  have hl : l= []:=by
   apply Classical.byContradiction
   intro hne
   obtain⟨g,off,hA,_⟩ :=q3 hne
   cases hA
  have HL:=Hid.aT hl
  clear hl q3 h
  go_enter Tryz.func204,Tryz.ntmps204
  go_wp2
  go_ret
  exact⟨_,rfl,by rw [HL.out];exact World.ownsRow_nil _ _ _ _,by simp [cu,Value.ownBlock],Below.refl _ _⟩
 |some a=>
  go_enter Tryz.func204,Tryz.ntmps204
  go_wp2_with (at_builtin;refine gu Tryz.stInt rfl _ _ rfl (v:= .slice (some ⟨w.heap.size,0,none⟩) 0 0) (y:= .slice (some a) l.length c) (l:= []) (m:=l) rfl rfl (bA.lit FI [] #[] rfl (by simp [maxLen]) _ _) (h.aH (Nat.le_refl _) (Nat.le_succ _) _) (by simpa using hs) ?_;intro v' w1 ho hg hat)
  go_ret
  have hb : Below w.heap.size w w1:= ((Below.refl _ _).alloc (Nat.le_refl _) _).grown hg (by simp) (by simp [Value.ownBlock])
  exact⟨v',rfl,by simpa using ho,fun g hg'=>by rcases iy hat g hg' with h|h; (simp [cu,Value.ownBlock] at h;omega); (simp at h;omega),hb⟩
set_option maxHeartbeats 400000 in
theorem zJ (w : World)(v : Value)(l : List Int)(h : fE FI w w.heap.size v l)(hs : l.length≤1073741824) :
  Calls Tryz.prog 205 #[v] w fun e w'=> ∃v',e= .returned v'∧bA FI 3 w' v' l∧ (∀g∈cu v',w.heap.size≤g) ∧Below w.heap.size w w':=by
 obtain⟨A,c,hv,_,_,q3⟩ :=id h
 subst hv
 go_enter Tryz.func205,Tryz.ntmps205
 go_wp2_with (at_builtin;refine gu Tryz.stInt rfl _ _ rfl (v:= .slice (some ⟨w.heap.size,0,none⟩) 0 0) (y:= .slice A l.length c) (l:= []) (m:=l) rfl rfl (bA.lit FI [] #[] rfl (by simp [maxLen]) _ _) (h.aH (Nat.le_refl _) (Nat.le_succ _) _) (by simpa using hs) ?_;intro v' w1 ho hg hat)
 go_ret
 have hb : Below w.heap.size w w1:= ((Below.refl _ _).alloc (Nat.le_refl _) _).grown hg (by simp) (by simp [Value.ownBlock])
 exact⟨v',rfl,by simpa using ho,fun g hg'=>by rcases iy hat g hg' with h|h; (simp [cu,Value.ownBlock] at h;omega); (simp at h;omega),hb⟩
end Go.Proofs.YtkmggglljkmjoaaGreat.Lim
namespace Go.Proofs.YtkmggglljkmjoaaGreat.Lim
open Go.RowKit
end Go.Proofs.YtkmggglljkmjoaaGreat.Lim
namespace Go.Proofs.YtkmggglljkmjoaaGreat.Lim
open Go.RowKit
theorem vT {α : Type}(p : α→Bool)(ll : List (List α)) : ll.flatten.any p=ll.any fun l=>l.any p:=by
 induction ll with
 |nil=>rfl
 |cons a l ih=>simp [ih]
def FZ (h : Int) : Int:=if eY h=true then h%32 else -1
set_option maxHeartbeats 400000 in
theorem mP (h : Int)(w : World) : Calls Tryz.prog 30 #[.int .i64 h] w fun e w'=>e= .returned (.int .i64 (FZ h)) ∧w'=w:=by
 by_cases c1 : eY h=true
 ·have h0 : 0≤h:=by simp [eY] at c1;omega
  have HS:=Hid.aT (show FZ h=h%32 from if_pos c1)
  go_enter Tryz.func30,Tryz.ntmps30
  go_wp2_with (go_at_call 91;refine(mR _ _).mono ?_;rw [c1];rintro e w1 ⟨rfl,rfl⟩)
  go_ret
  exact⟨dN (by rw [HS.out]),rfl⟩
 ·have HS:=Hid.aT (show FZ h= -1 from if_neg c1)
  have c1' : eY h=false:=by simpa using c1
  go_enter Tryz.func30,Tryz.ntmps30
  go_wp2_with (go_at_call 91;refine(mR _ _).mono ?_;rw [c1'];rintro e w1 ⟨rfl,rfl⟩)
  go_ret
  exact⟨dN HS.out.symm,rfl⟩
end Go.Proofs.YtkmggglljkmjoaaGreat.Lim
namespace Go.Proofs.YtkmggglljkmjoaaGreat.Lim
open Go.RowKit
def d_ (L : List zf)(i : Nat) : List Int:= (L.take i).map fun q=>q.Handle%32
theorem wu (L : List zf)(k : Nat)(hk : k<L.length) : d_ L (k+1) =d_ L k++ [L[k].Handle%32]:=by
 unfold d_
 rw [List.take_succ_eq_append_getElem hk,List.map_append]
 rfl
theorem pV (L : List zf)(k : Nat) : (d_ L k).length≤k:=by unfold d_;simp;omega
set_option maxHeartbeats 1000000 in
theorem xW (w : World)(v : Value)(z : List Int)(x : Int)(h : fE FI w w.heap.size v z) :
  Calls Tryz.prog 122 #[v, .int .i64 x] w fun e w'=>e= .returned (.bool (z.any fun y=>y == x)) ∧Below w.heap.size w w':=by
 obtain⟨A,c,hv,q1,q2,_⟩ :=id h
 have m_ : z.length≤9223372036854775807:=by unfold maxLen at q2;omega
 subst hv
 clear q1 q2
 go_enter Tryz.func122,Tryz.ntmps122
 go_wp2
 go_loopw [5] (fun i wr=> ∃k : Nat,k≤z.length∧i= .int .i64 k∧Below w.heap.size w wr∧ (z.take k).any (fun y=>y == x) =false) (fun i _=>z.length - (intOf i).toNat)
 case atStart=>exact⟨0,Nat.zero_le _,rfl,Below.refl _ _,rfl⟩
 case round=>
  obtain⟨i,hi,rfl,hb,hno⟩ :=hrel
  have HN:=Hid.aT hno
  clear hno
  by_cases hlt : i<z.length
  ·obtain⟨g,off,cap',he,hg,_,_,hc⟩ := (h.below hb).at_ (List.getElem?_eq_getElem hlt)
   injection he with he1 he2 jW
   clear he2
   subst he1 jW
   have p0 : wr.cell? ⟨g,off+i,none⟩ =some (.int .i64 z[i]) :=by simpa [FI] using hc 0 _ rfl
   clear hc h
   by_cases hz : z[i]=x
   ·have hz1 : (z[i] == x) =true:=by simpa using hz
    have HP:=Hid.aT (show (z.any fun y=>y == x) =true from List.any_eq_true.2 ⟨z[i],List.getElem_mem hlt,hz1⟩)
    clear hz
    go_wp2
    go_ret
    exact⟨bK HP.out.symm,hb⟩
   ·have hz1 : (z[i] == x) =false:=by simpa using hz
    have HP:=Hid.aT (any_take_succ (fun y=>y == x) z i hlt HN.out hz1)
    clear hz
    go_wp2
    go_roundw
    case rel=>exact⟨i+1,by omega,by go_num,hb,HP.out⟩
    case measure=>simp [intOf];omega
  ·go_wp2
   go_ret
   obtain rfl : i=z.length:=by omega
   exact⟨bK (by simpa using HN.out.symm),hb⟩
def FB : FT Bool:= {n:=1,enc:=fun b=> [.bool b],dflt:=false,len:=fun _=>rfl,one:=by intro x u hu;simp at hu;subst hu;rfl,pos:=by decide,small:=by decide}
def KR (L : List zf)(p : Nat) : List Bool:= (List.range 24).map fun (s : Nat) => (d_ L p).any fun z=>z == (s : Int)
theorem Ii (L : List zf) : KR L 0=List.replicate 24 false:=rfl
theorem GQ {α : Type}(ll : List (List α))(i j : Nat)(hi : i<ll.length)(hj : j<ll[i].length) : ll.flatten[mZ (ll.take i) +j]? =some ll[i][j]:=by
 have e : ll.flatten= (ll.take i).flatten++ (ll[i]++ (ll.drop (i+1)).flatten) :=by
  rw [←List.flatten_cons, ←List.flatten_append, ←List.drop_eq_getElem_cons hi,List.take_append_drop]
 rw [e,tJ,List.getElem?_append_right (by omega),Nat.add_sub_cancel_left,List.getElem?_append_left hj,List.getElem?_eq_getElem hj]
theorem uF : Tryz.prog.built 167 []=some #[.bool false, .bool false, .bool false, .bool false, .bool false, .bool false, .bool false, .bool false, .bool false, .bool false, .bool false, .bool false, .bool false, .bool false, .bool false, .bool false, .bool false, .bool false, .bool false, .bool false, .bool false, .bool false, .bool false, .bool false]:=by kernel_rfl
set_option maxRecDepth 100000 in
theorem xB {ops : Array Oper}{rest : List Oper}{o : Oper}{a : Act}{w : World}{Q : Exit→Act→World→Prop}(hg : o.guard=none)(ho : o.op= .build 167 #[])
  (h : wpList Tryz.prog ops Q rest (a.put o.dst (.agg #[.bool false, .bool false, .bool false, .bool false, .bool false, .bool false, .bool false, .bool false, .bool false, .bool false, .bool false, .bool false, .bool false, .bool false, .bool false, .bool false, .bool false, .bool false, .bool false, .bool false, .bool false, .bool false, .bool false, .bool false])) w) : wpList Tryz.prog ops Q (o::rest) a w:=by
 exact wpList_build hg 167 #[] ho (by simp [uF]) (by simpa [uF] using h)
theorem D9 (w : World)(L : List zf) : bA FB 167 (w.alloc (.cells #[.bool false, .bool false, .bool false, .bool false, .bool false, .bool false, .bool false, .bool false, .bool false, .bool false, .bool false, .bool false, .bool false, .bool false, .bool false, .bool false, .bool false, .bool false, .bool false, .bool false, .bool false, .bool false, .bool false, .bool false] 167)) (.slice (some ⟨w.heap.size,0,none⟩) 24 24) (KR L 0) :=by
 rw [Ii]
 exact bA.lit FB (List.replicate 24 false) #[.bool false, .bool false, .bool false, .bool false, .bool false, .bool false, .bool false, .bool false, .bool false, .bool false, .bool false, .bool false, .bool false, .bool false, .bool false, .bool false, .bool false, .bool false, .bool false, .bool false, .bool false, .bool false, .bool false, .bool false] rfl (by simp [maxLen]) w 167
end Go.Proofs.YtkmggglljkmjoaaGreat.Lim
namespace Go.Proofs.YtkmggglljkmjoaaGreat.Clk
open Go.RowKit
instance : DecidableEq Pin:=fun a b=>decidable_of_iff (a.On=b.On∧a.Epoch=b.Epoch∧a.Marked=b.Marked∧a.Seen=b.Seen) (by cases a;cases b;simp)
end Go.Proofs.YtkmggglljkmjoaaGreat.Clk
namespace Go.Proofs.YtkmggglljkmjoaaGreat.Clk
open Go.RowKit
theorem nE (w : World)(o : Obj)(g i : Nat)(hg : g<w.heap.size) : (w.alloc o).cell? ⟨g,i,none⟩ =w.cell? ⟨g,i,none⟩ :=by
 simp [World.cell?,Below.heap_alloc w o g hg]
theorem kP (w : World)(o : Obj)(g i : Nat)(hg : g<w.heap.size) : (w.alloc o).frozen? ⟨g,i,none⟩ =w.frozen? ⟨g,i,none⟩ :=by
 simp [World.frozen?,Below.heap_alloc w o g hg]
theorem jJ {w w' : World}{g i : Nat}{u : Value}(hb : Below w.heap.size w w')(hg : g<w.heap.size)(h : w.cell? ⟨g,i,none⟩ =some u) : w'.cell? ⟨g,i,none⟩ =some u:= (hb.cell (p:= ⟨g,i,none⟩) hg).trans h
def idxOf {α : Type}(p : α→Bool)(l : List α) : Int:=match l.findIdx? p with|some i=>i|none=> -1
theorem idxOf_hit {α : Type}(p : α→Bool)(l : List α)(i : Nat)(hi : i<l.length)(h : (l.take i).any p=false)(hp : p l[i]=true) : idxOf p l=i:=by
 have hf : l.findIdx? p=some i:=by
  rw [List.findIdx?_eq_some_iff_getElem]
  refine⟨hi,hp,fun j hj=> ?_⟩
  rw [List.any_eq_false] at h
  exact h l[j] (List.mem_take_iff_getElem.2 ⟨j,by omega,rfl⟩)
 unfold idxOf
 rw [hf]
theorem rT {α : Type}(p : α→Bool)(l : List α)(h : l.any p=false) : idxOf p l= -1:=by
 have hf : l.findIdx? p=none:=by
  rw [List.findIdx?_eq_none_iff]
  intro x hx
  rw [List.any_eq_false] at h
  simpa using h x hx
 unfold idxOf
 rw [hf]
theorem any_take_succ {α : Type}(p : α→Bool)(l : List α)(i : Nat)(hi : i<l.length)(h : (l.take i).any p=false)(hp : p l[i]=false) : (l.take (i+1)).any p=false:=by
 rw [List.take_succ_eq_append_getElem hi,List.any_append,h]
 simp [hp]
theorem vO {α : Type}(p : α→Bool)(l : List α) : decide (0≤idxOf p l) =l.any p:=by
 unfold idxOf
 cases h : l.findIdx? p with
 |none=>
  rw [List.findIdx?_eq_none_iff] at h
  have : l.any p=false:=by
   rw [List.any_eq_false]
   intro x hx
   simp [h x hx]
  rw [this]
  rfl
 |some i=>
  rw [List.findIdx?_eq_some_iff_getElem] at h
  obtain⟨hi,hp,_⟩ :=h
  have : l.any p=true:=List.any_eq_true.2 ⟨l[i],List.getElem_mem hi,hp⟩
  rw [this]
  simp
theorem uo {α : Type}(p : α→Bool)(l : List α) : l.all p= !(l.any fun x=> !p x) :=by
 induction l with
 |nil=>rfl
 |cons x l ih=>simp [ih]
end Go.Proofs.YtkmggglljkmjoaaGreat.Clk
namespace Go.Proofs.YtkmggglljkmjoaaGreat.Lim
open Go.RowKit
def nK : FT Int:= {n:=1,enc:=fun x=> [.int .u8 x],dflt:=0,len:=fun _=>rfl,one:=by intro x u hu;simp at hu;subst hu;rfl,pos:=by decide,small:=by decide}
structure f_ (w : World)(g : Nat)(code : List Int) : Prop where
 lt : g<w.heap.size
 bytes : ∀x∈code,0≤x∧x≤255
 c0 : ∃A cap,w.cell? ⟨g,0,none⟩ =some (.slice A code.length cap) ∧fE nK w g (.slice A code.length cap) code
 c1 : ∃i : Nat,w.cell? ⟨g,1,none⟩ =some (.int .i64 i) ∧i≤code.length
 c2 : ∃h : Int,w.cell? ⟨g,2,none⟩ =some (.int .i64 h)
 f1 : w.frozen? ⟨g,1,none⟩ =false
 f2 : w.frozen? ⟨g,2,none⟩ =false
theorem f_.up {w w' : World}{g : Nat}{code : List Int}(h : f_ w g code)(hb : Below w.heap.size w w') : f_ w' g code:=by
 obtain⟨lt,rG, ⟨A,cap,p0,r⟩, ⟨i,p1,hi⟩, ⟨hh,p2⟩,f1,f2⟩ :=h
 have e : ∀j,w'.cell? ⟨g,j,none⟩ =w.cell? ⟨g,j,none⟩ :=fun j=>hb.cell (p:= ⟨g,j,none⟩) lt
 have ef : ∀j,w'.frozen? ⟨g,j,none⟩ =w.frozen? ⟨g,j,none⟩ :=fun j=>hb.frozen (p:= ⟨g,j,none⟩) lt
 exact⟨Nat.lt_of_lt_of_le lt hb.size,rG, ⟨A,cap, (e 0).trans p0,r.keep (fun k hk=>hb.block k (by omega)) (Nat.le_refl _)⟩, ⟨i, (e 1).trans p1,hi⟩, ⟨hh, (e 2).trans p2⟩, (ef 1).trans f1, (ef 2).trans f2⟩
theorem f_.set2 {w : World}{g : Nat}{code : List Int}(h : f_ w g code)(x : Int) : f_ (w.setCell ⟨g,2,none⟩ (.int .i64 x)) g code:=by
 obtain⟨lt,rG, ⟨A,cap,p0,r⟩, ⟨i,p1,hi⟩, ⟨hh,p2⟩,f1,f2⟩ :=h
 refine⟨by simpa using lt,rG, ⟨A,cap,by simp [go_sem,p0],r.keep (fun k hk=>Below.heap_setCell _ _ _ _ (by simp;omega)) (Nat.le_refl _)⟩, ⟨i,by simp [go_sem,p1],hi⟩, ⟨x,by simp [go_sem,p2]⟩,by simp [go_sem,f1],by simp [go_sem,f2]⟩
theorem f_.set1 {w : World}{g : Nat}{code : List Int}(h : f_ w g code)(j : Nat)(hj : j≤code.length) : f_ (w.setCell ⟨g,1,none⟩ (.int .i64 j)) g code:=by
 obtain⟨lt,rG, ⟨A,cap,p0,r⟩, ⟨i,p1,hi⟩, ⟨hh,p2⟩,f1,f2⟩ :=h
 refine⟨by simpa using lt,rG, ⟨A,cap,by simp [go_sem,p0],r.keep (fun k hk=>Below.heap_setCell _ _ _ _ (by simp;omega)) (Nat.le_refl _)⟩, ⟨j,by simp [go_sem,p1],hj⟩, ⟨hh,by simp [go_sem,p2]⟩,by simp [go_sem,f1],by simp [go_sem,f2]⟩
theorem f_.drewN {w : World}{g : Nat}{code : List Int}(h : f_ w g code)(n : Nat) : f_ (w.drewN n) g code:=by
 obtain⟨lt,rG, ⟨A,cap,p0,r⟩,c1,c2,f1,f2⟩ :=h
 exact⟨lt,rG, ⟨A,cap,p0,r.keep (fun _ _=>rfl) (Nat.le_refl _)⟩,c1,c2,f1,f2⟩
theorem _root_.Go.Proofs.YtkmggglljkmjoaaGreat.aY.set {F : List Nat}{w w' : World}(h : aY F w w'){g i : Nat}(hg : g∈F)(v : Value) : aY F w (w'.setCell ⟨g,i,none⟩ v) :=
 ⟨h.os,h.tape,h.output,by simpa using h.size,fun k hk hn=> (Below.heap_setCell _ _ _ _ (fun e=>by have e' : k=g:=e;exact hn (e' ▸ hg))).trans (h.block k hk hn)⟩
theorem _root_.Go.Proofs.YtkmggglljkmjoaaGreat.aY.drewN {F : List Nat}{w w' : World}(h : aY F w w')(n : Nat) : aY F w (w'.drewN n) := ⟨h.os,h.tape,h.output,h.size,h.block⟩
def ES (lo hi : Int)(w : World)(g : Nat)(code : List Int)(e : Ending)(w' : World) : Prop:= ∃x : Int,e= .returned (.int .i64 x) ∧lo≤x∧x≤hi∧f_ w' g code∧aY [g] w w'
theorem L8 (n : Int) : bits .and .i64 n 255=n%256:=by
 have hm : (BitVec.ofInt 64 255).toNat=2 ^ 8 - 1:=by decide
 have key : (BitVec.ofInt 64 n&&& BitVec.ofInt 64 255).toNat= (n% ((2 ^ 64 : Nat) : Int)).toNat%2 ^ 8:=by
  rw [BitVec.toNat_and,BitVec.toNat_ofInt,hm,Nat.and_two_pow_sub_one_eq_mod]
 show IntKind.i64.wrap ((BitVec.ofInt 64 n&&& BitVec.ofInt 64 255).toNat : Nat) =n%256
 rw [key,IntKind.wrap_i64]
 omega
theorem wQ (n : Int) : 0≤bits .and .i64 n 255∧bits .and .i64 n 255≤255:=by
 rw [L8]
 omega
set_option maxRecDepth 100000 in
set_option maxHeartbeats 1000000 in
theorem uL (w : World)(g : Nat)(code : List Int)(hc : f_ w g code) : Calls Tryz.prog 133 #[.pointer (some ⟨g,0,none⟩)] w (ES 0 255 w g code) :=by
 obtain⟨lt,rG, ⟨A,cap,p0,r⟩, ⟨i,p1,hi⟩, ⟨hh,p2⟩,f1,f2⟩ :=id hc
 by_cases hlt : i<code.length
 case neg=>
  go_enter Tryz.func133,Tryz.ntmps133
  go_wp2
  go_quiet (fail)
  go_wp2
  go_quiet (fail)
  go_wp2
  go_ret
  refine⟨_,rfl, (wQ _).1, (wQ _).2, ?_, ?_⟩
  ·exact((hc.set2 _).drewN _).drewN _
  ·exact(((aY.refl _ _).set (by simp) _).drewN _).drewN _
 have hi1 : i+1≤code.length:=hlt
 obtain⟨gb,ob,cb,hvb,hgb,_,hcapb,Nj⟩ :=r.at_ (List.getElem?_eq_getElem hlt)
 injection hvb with e1 e2 e3
 clear e2
 subst e1 e3
 have pb : w.cell? ⟨gb,ob+i,none⟩ =some (.int .u8 code[i]) :=by simpa [nK] using Nj 0 _ rfl
 have bb:=rG code[i] (List.getElem_mem hlt)
 obtain⟨b0,b1⟩ :=bb
 clear Nj
 have QS : ¬ gb=g:=by omega
 have Qg : ¬ g=gb:=by omega
 have hlc : code.length≤9223372036854775807:=by obtain⟨_,_,hv,u1,u2,_⟩ :=id r;injection hv with _ _ e;unfold maxLen at u2;omega
 generalize code[i]=b at *
 go_enter Tryz.func133,Tryz.ntmps133
 go_wp2
 go_quiet (fail)
 go_wp2
 go_quiet (fail)
 go_wp2
 go_quiet (fail)
 go_wp2
 go_ret
 refine⟨_,rfl, (wQ _).1, (wQ _).2, ?_, ?_⟩
 ·exact((hc.set2 _).drewN _).set1 (i+1) hi1
 ·exact((((aY.refl _ _).set (by simp) _).drewN _).set (by simp) _)
end Go.Proofs.YtkmggglljkmjoaaGreat.Lim
namespace Go.Proofs.YtkmggglljkmjoaaGreat.Lim
open Go.RowKit
def MQ (n : Int)(w : World)(g : Nat)(code : List Int)(e : Ending)(w' : World) : Prop:= ∃x : Int,e= .returned (.int .i64 x) ∧0≤x∧ (x<n∨x=0) ∧f_ w' g code∧aY [g] w w'
set_option maxHeartbeats 1000000 in
theorem cK (w : World)(g : Nat)(code : List Int)(n : Int)(hn : gZ n)(hc : f_ w g code) : Calls Tryz.prog 63 #[.pointer (some ⟨g,0,none⟩), .int .i64 n] w (MQ n w g code) :=by
 unfold gZ at hn
 by_cases h1 : n≤0
 ·go_enter Tryz.func63,Tryz.ntmps63
  go_wp2
  go_ret
  exact⟨0,rfl,by omega, .inr rfl,hc,aY.refl _ _⟩
 have h1' : 0<n:=by omega
 have hnz : ¬ n=0:=by omega
 by_cases h2 : n≤256
 ·go_enter Tryz.func63,Tryz.ntmps63
  go_wp2_with fail
  refine(uL _ g code hc).mono ?_
  rintro e w1 ⟨x,rfl,x0,x1,hc1,hg1⟩
  go_wp2_with fail
  go_ret
  exact⟨_,rfl,Int.emod_nonneg _ hnz, .inl (Int.emod_lt_of_pos _ h1'),hc1,hg1⟩
 ·go_enter Tryz.func63,Tryz.ntmps63
  go_wp2_with fail
  refine(uL _ g code hc).mono ?_
  rintro e w1 ⟨x,rfl,x0,x1,hc1,hg1⟩
  go_wp2_with fail
  refine(uL _ g code hc1).mono ?_
  rintro e w2 ⟨y,rfl,y0,y1,hc2,hg2⟩
  go_wp2_with fail
  refine(uL _ g code hc2).mono ?_
  rintro e w3 ⟨z,rfl,z0,z1,hc3,hg3⟩
  go_wp2_with fail
  refine(uL _ g code hc3).mono ?_
  rintro e w4 ⟨u,rfl,u0,u1,hc4,hg4⟩
  go_wp2_with fail
  go_ret
  exact⟨_,rfl,Int.emod_nonneg _ hnz, .inl (Int.emod_lt_of_pos _ h1'),hc4, ((hg1.trans hg2).trans hg3).trans hg4⟩
def MR (w : World)(g : Nat)(code : List Int)(e : Ending)(w' : World) : Prop:= ∃b : Bool,e= .returned (.bool b) ∧f_ w' g code∧aY [g] w w'
theorem uM (w : World)(g : Nat)(code : List Int)(n : Int)(hn : gZ n)(hc : f_ w g code) : Calls Tryz.prog 136 #[.pointer (some ⟨g,0,none⟩), .int .i64 n] w (MR w g code) :=by
 go_enter Tryz.func136,Tryz.ntmps136
 go_wp2_with fail
 refine(cK _ g code n hn hc).mono ?_
 rintro e w1 ⟨x,rfl,x0,x1,hc1,hg1⟩
 go_wp2_with fail
 go_ret
 exact⟨_,rfl,hc1,hg1⟩
def KS (l : List Int)(w : World)(g : Nat)(code : List Int)(e : Ending)(w' : World) : Prop:= ∃x : Int,e= .returned (.int .i64 x) ∧x∈l∧f_ w' g code∧aY [g] w w'
set_option maxHeartbeats 1000000 in
theorem z_ (w : World)(g : Nat)(code : List Int)(v : Value)(l : List Int)(ho : bA FI 3 w v l)(hd : g∉cu v)(hl : 0<l.length)(hl2 : l.length≤1048576)(hc : f_ w g code) : Calls Tryz.prog 64 #[.pointer (some ⟨g,0,none⟩),v] w (KS l w g code) :=by
 obtain⟨b,cap,rfl,hb⟩ :=ho.kN hl
 go_enter Tryz.func64,Tryz.ntmps64
 go_wp2_with fail
 refine(cK _ g code l.length (by unfold gZ;omega) hc).mono ?_
 rintro e w1 ⟨x,rfl,x0,x1,hc1,hg1⟩
 obtain⟨k,rfl⟩ :=Int.eq_ofNat_of_zero_le x0
 have hk : k<l.length:=by rcases x1 with h|h<;>omega
 have ho1:=ho.aM hg1 (fun b hb hm=>by simp at hm;subst hm;exact hd hb)
 have p0:=bA.jB ho1 (List.getElem?_eq_getElem hk)
 have hm:=List.getElem_mem hk
 generalize l[k]=y at p0 hm
 go_wp2_with fail
 go_ret
 exact⟨y,rfl,hm,hc1,hg1⟩
theorem _root_.Go.Proofs.YtkmggglljkmjoaaGreat.aY.xk {F : List Nat}{w w' : World}{o : Obj}(h : aY F (w.alloc o) w') : aY F w w':=
 ⟨h.os,h.tape,h.output,Nat.le_trans (by simp) h.size,fun k hk hn=> (h.block k (by simp;omega) hn).trans (Below.heap_alloc w o k hk)⟩
theorem f_.alloc {w : World}{g : Nat}{code : List Int}(h : f_ w g code)(o : Obj) : f_ (w.alloc o) g code:=h.up ((Below.refl _ _).alloc (Nat.le_refl _) _)
def qC (s k : Int) : Int:=if bO 0 23 s=true∧bO 1 6 k=true then k * 32+s else 0
theorem Bd (s k : Int) : 0≤qC s k∧qC s k≤223:=by
 unfold qC
 split
 ·rename_i h
  have a:=bJ.1 h.1
  have b:=bJ.1 h.2
  omega
 ·omega
set_option maxHeartbeats 400000 in
theorem q8 (s k : Int)(w : World) : Calls Tryz.prog 41 #[.int .i64 s, .int .i64 k] w fun e w'=>e= .returned (.int .i64 (qC s k)) ∧w=w':=by
 by_cases c1 : bO 0 23 s=true
 case neg=>
  have c1':= (Bool.not_eq_true _).mp c1
  have HN:=Hid.aT (show qC s k=0 from if_neg (fun h=>c1 h.1))
  clear c1
  go_enter Tryz.func41,Tryz.ntmps41
  go_wp2_with (go_at_call 102;refine(fG _ _ _ _).mono ?_;rintro e w3 ⟨rfl,rfl⟩)
  go_ret
  exact⟨dN HN.out.symm,rfl⟩
 by_cases c2 : bO 1 6 k=true
 case neg=>
  have c2':= (Bool.not_eq_true _).mp c2
  have HN:=Hid.aT (show qC s k=0 from if_neg (fun h=>c2 h.2))
  clear c2
  go_enter Tryz.func41,Tryz.ntmps41
  go_wp2_with (go_at_call 102;refine(fG _ _ _ _).mono ?_;rintro e w3 ⟨rfl,rfl⟩)
  go_ret
  exact⟨dN HN.out.symm,rfl⟩
 have HN:=Hid.aT (show qC s k=k * 32+s from if_pos ⟨c1,c2⟩)
 have a:=bJ.1 c1
 have b:=bJ.1 c2
 go_enter Tryz.func41,Tryz.ntmps41
 go_wp2_with (go_at_call 102;refine(fG _ _ _ _).mono ?_;rintro e w3 ⟨rfl,rfl⟩)
 go_ret
 exact⟨dN HN.out.symm,rfl⟩
set_option maxHeartbeats 1000000 in
theorem GI (w : World)(g : Nat)(code : List Int)(hc : f_ w g code) : Calls Tryz.prog 137 #[.pointer (some ⟨g,0,none⟩)] w (ES (-1) 224 w g code) :=by
 go_enter Tryz.func137,Tryz.ntmps137
 go_wp2_with fail
 refine(uM _ g code 8 (by unfold gZ;omega) hc).mono ?_
 rintro e w1 ⟨b,rfl,hc1,hg1⟩
 have hlt1:=hc1.lt
 cases b with
 |true=>
  go_wp2_with fail
  have ho:=bA.lit FI [0, -1,31,32,55,56,63,64,192,215,216,223,224] #[.int .i64 0, .int .i64 (-1), .int .i64 31, .int .i64 32, .int .i64 55, .int .i64 56, .int .i64 63, .int .i64 64, .int .i64 192, .int .i64 215, .int .i64 216, .int .i64 223, .int .i64 224] rfl (by decide) w1 3
  refine(z_ _ g code _ [0, -1,31,32,55,56,63,64,192,215,216,223,224] ho (by simp [cu,Value.ownBlock];omega) (by decide) (by decide) (hc1.alloc _)).mono ?_
  rintro e w2 ⟨x,rfl,hx,hc2,hg2⟩
  go_wp2_with fail
  go_ret
  refine⟨x,rfl, ?_, ?_,hc2,hg1.trans hg2.xk⟩
  all_goals (simp at hx;omega)
 |false=>
  go_wp2_with fail
  refine(cK _ g code 24 (by unfold gZ;omega) hc1).mono ?_
  rintro e w2 ⟨x,rfl,x0,x1,hc2,hg2⟩
  go_wp2_with fail
  refine(cK _ g code 6 (by unfold gZ;omega) hc2).mono ?_
  rintro e w3 ⟨y,rfl,y0,y1,hc3,hg3⟩
  have y6 : y≤6:=by omega
  go_wp2_with fail
  refine(q8 _ _ _).mono ?_
  rintro e w4 ⟨rfl,rfl⟩
  go_wp2_with fail
  go_ret
  exact⟨_,rfl,by have:= (Bd x (1+y)).1;omega,by have:= (Bd x (1+y)).2;omega,hc3, (hg1.trans hg2).trans hg3⟩
end Go.Proofs.YtkmggglljkmjoaaGreat.Lim
namespace Go.Proofs.YtkmggglljkmjoaaGreat
open Go.RowKit
open Go.Proofs.YtkmggglljkmjoaaGreat.Lim
theorem _root_.Go.Proofs.YtkmggglljkmjoaaGreat.Lim.f_.je {w w' : World}{g B : Nat}{code : List Int}(h : f_ w g code)(hg : g<B)(hb : Below B w w')(_hB : B≤w.heap.size) : f_ w' g code:=by
 obtain⟨lt,rG, ⟨A,cap,p0,r⟩, ⟨j,p1,hi⟩, ⟨hh,p2⟩,f1,f2⟩ :=h
 have e : ∀k,k≤g→w'.heap[k]? =w.heap[k]? :=fun k hk=>hb.block k (by omega)
 have ec : ∀j,w'.cell? ⟨g,j,none⟩ =w.cell? ⟨g,j,none⟩ :=fun j=>by simp only [World.cell?,e g (Nat.le_refl _)]
 have ef : ∀j,w'.frozen? ⟨g,j,none⟩ =w.frozen? ⟨g,j,none⟩ :=fun j=>by simp only [World.frozen?,e g (Nat.le_refl _)]
 exact⟨Nat.lt_of_lt_of_le lt hb.size,rG, ⟨A,cap, (ec 0).trans p0,r.keep (fun k hk=>e k (by omega)) (Nat.le_refl _)⟩, ⟨j, (ec 1).trans p1,hi⟩, ⟨hh, (ec 2).trans p2⟩, (ef 1).trans f1, (ef 2).trans f2⟩
theorem _root_.Go.Proofs.YtkmggglljkmjoaaGreat.Lim.f_.bf {w : World}{g : Nat}{code : List Int}(h : f_ w g code) : f_ w.drew g code:=h.drewN 1
theorem fH {w : World}{g j a i : Nat}{u v : Value}(h : w.cell? ⟨g,j,none⟩ =some v)(hn : a≠g) : (w.setCell ⟨a,i,none⟩ u).cell? ⟨g,j,none⟩ =some v:=by
 have e:=jR w u (i:=i) hn
 simp only [World.cell?] at h⊢
 rw [e]
 exact h
theorem eF {w : World}{g j : Nat}{o : Obj}{v : Value}(h : w.cell? ⟨g,j,none⟩ =some v)(hn : g<w.heap.size) : (w.alloc o).cell? ⟨g,j,none⟩ =some v:= (nE w o g j hn).trans h
theorem fu {w : World}{g j : Nat}{v : Value}(h : w.cell? ⟨g,j,none⟩ =some v) : w.drew.cell? ⟨g,j,none⟩ =some v:=h
theorem CV {x : Int}(h0 : 0≤x)(h1 : x≤1000) : IntKind.i64.wrap (1+x) =1+x:=by
 rw [IntKind.wrap_i64]
 omega
theorem gV {w : World}{o : Obj}{n : Nat}(h : (w.alloc o).heap.size≤n) : w.heap.size+1≤n:=by rwa [World.size_alloc] at h
theorem jE {w : World}{n : Nat}(h : w.drew.heap.size≤n) : w.heap.size≤n:=h
theorem iL {w : World}{o : Obj}{n : Nat}(h : (w.drew.alloc o).heap.size≤n) : w.heap.size+1≤n:=by rwa [World.size_alloc] at h
theorem lW {w : World}{o : Obj}{F : List Nat}(h : ∀g∈F, (w.alloc o).heap.size≤g) : ∀g∈F,w.heap.size+1≤g:=fun g hg=>gV (h g hg)
theorem mV {w : World}{o : Obj}{F : List Nat}(h : ∀g∈F, (w.drew.alloc o).heap.size≤g) : ∀g∈F,w.heap.size+1≤g:=fun g hg=>iL (h g hg)
theorem fq (w : World) : w.drew.heap.size=w.heap.size:=rfl
theorem iZ (w : World)(g a : Nat)(code : List Int)(l : List Int)(vs : List Value)(n : Nat)(bx : aB w a vs)(hvs : vs=l.map (Value.int .i64))(hn : n=l.length)(hd : a∉ [g])(hl : 0<l.length)(hl2 : l.length≤1048576)(hc : f_ w g code) : Calls Tryz.prog 64 #[.pointer (some ⟨g,0,none⟩), .slice (some ⟨a,0,none⟩) n n] w (KS l w g code) :=by
 subst hn hvs
 go_enter Tryz.func64,Tryz.ntmps64
 go_wp2_with fail
 refine(cK _ g code l.length (by unfold gZ;omega) hc).mono ?_
 rintro e w1 ⟨x,rfl,x0,x1,hc1,hg1⟩
 obtain⟨k,rfl⟩ :=Int.eq_ofNat_of_zero_le x0
 have hk : k<l.length:=by rcases x1 with h|h<;>omega
 have p0:= (bx.aM hg1 hd).cell k (.int .i64 l[k]) (by simp [hk])
 have hz:= (bx.aM hg1 hd).lt
 have hm:=List.getElem_mem hk
 generalize l[k]=y at p0 hm
 go_wp2_with fail
 go_ret
 exact⟨y,rfl,hm,hc1,hg1⟩
theorem bA.ET {α : Type}{T : FT α}{e : TypeId}{w : World}{g n c i : Nat}{l : List α}(h : bA T e w (.slice (some ⟨g,0,none⟩) n c) l)(hi : i≤l.length) : bA T e w (.slice (some ⟨g,0,none⟩) i c) (l.take i) :=by
 have a:=bA.prefix_ (l:=l.take i) (r:=l.drop i) (by rw [List.take_append_drop];exact h)
 rwa [List.length_take,Nat.min_eq_left hi] at a
theorem bA.kr {w : World}{g n c : Nat}{l : List Int}(h : bA FI 3 w (.slice (some ⟨g,0,none⟩) n c) l) : ∀j,j<l.length→w.cell? ⟨g,j,none⟩ =some (.int .i64 (l.getD j 0)) :=fun j hj=>by
 rw [Lim.bA.jB h (List.getElem?_eq_getElem hj),getD_at hj]
theorem bA.bf {α : Type}{T : FT α}{e : TypeId}{w : World}{v : Value}{l : List α}(h : bA T e w v l) : bA T e w.drew v l:=h.keep (fun _ _=>rfl)
theorem dR.bf {α : Type}{T : FT α}{e E : TypeId}{w : World}{v : Value}{s : List SV}{l : List (List α)}(h : dR T e E w v s l) : dR T e E w.drew v s l:=h.keep (fun _ _=>rfl)
theorem fA.bf {w : World}{H : dU}{x : Heap}(h : fA w H x) : fA w.drew H x:=h.keep (fun _ _=>rfl)
theorem dZ.bf {w : World}{H : aZ}{x : Lists}(h : dZ w H x) : dZ w.drew H x:=h.keep (fun _ _=>rfl)
theorem d9.bf {w : World}{H : bP}{x : Mem}(h : d9 w H x) : d9 w.drew H x:=h.keep (fun _ _=>rfl)
end Go.Proofs.YtkmggglljkmjoaaGreat
