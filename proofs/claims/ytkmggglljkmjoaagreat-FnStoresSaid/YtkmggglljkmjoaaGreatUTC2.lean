/-
  Several texts in one: lemmas and contracts that the claim rests on.
-/
import Derived.Test.YtkmggglljkmjoaaGreatUTC1
import Derived.Maps.AppendAt
import Derived.Deep.AppendLies
import Derived.RegionTactic
import Derived.OwnWalk
import Derived.Deep.QuietTactic
import Derived.BigQuiet
import Derived.Deep.LoopGhost
import Derived.Deep.RegionHeld3
import Derived.WalkSpells
import Derived.Laws.Cover3
namespace Go.Proofs.YtkmggglljkmjoaaGreat
open Go.RowKit
structure ST {α : Type}(P : Program)(T : FT α)(t e : TypeId) : Prop where
 und : P.underlying t=some (.slice e)
 info : ∃z bytes, (P.info? e).map (fun i=> (i.zero,i.size,i.bytes)) =some (some z,T.n,bytes) ∧z.cells.size=T.n∧bytes≤1024
variable {α : Type} {T : FT α} {w : World} {t e : TypeId} {P : Program}
theorem JN (T : FT α)(l : List α) : ∀u∈flat T l,u.oneCell'=true:=by
 intro u hu
 obtain⟨x,_,hx⟩ :=List.mem_flatMap.1 hu
 exact T.one x u hx
theorem Ck {base size : Nat}{i : TypeInfo}(ht : P.underlying t=some (.slice e))(hi : P.info? e=some i)
  (v : Value) (n : Nat) (xs : List Value) (hown : w.ownsRow base e size v n xs) (A : Option Addr) (c : Nat) (ty : TypeId) : (Builtin.append_ #[t,t] ty #[v, .slice A 0 c]).run P w= .ok v w:=by
 have hl : ∀a, (loadCells a 0).run P w= .ok #[] w:=fun a=>run_loadCells_list (P:=P) w a [] (fun j v hv=>by simp at hv)
 rcases hown.2 with ⟨rfl,rfl⟩ | ⟨g,cap,cur,rfl,_,_,hnc,_⟩
 ·cases A<;>simp [Builtin.append_,run_underlying ht,sizeOf,typeInfo,hi,Builtin.lenOf,Builtin.firstCells,hl]
 ·cases A<;>simp [Builtin.append_,run_underlying ht,sizeOf,typeInfo,hi,Builtin.lenOf,Builtin.firstCells,hnc,storeCells,hl]
theorem Cm (X : ST P T t e)(ty : TypeId){v x : Value}{l m : List α}{B : Nat}(hown : bA T e w v l)(hr : fE T w B x m)(hlen : l.length+m.length≤1073741824) :
  ∃v' w', (Builtin.append_ #[t,t] ty #[v,x]).run P w= .ok v' w'∧bA T e w' v' (l++m) ∧w.grownBy w' v.ownBlock∧ (v'.ownBlock=v.ownBlock∨v'.ownBlock=some w.heap.size) :=by
 obtain⟨A,cap,rfl,h1,h2,h3⟩ :=hr
 obtain⟨z,bytes,hinfo,hz,hby⟩ :=X.info
 obtain⟨i,hi,hzz⟩ :=Option.map_eq_some_iff.1 hinfo
 simp only [Prod.mk.injEq] at hzz
 obtain⟨q1,q2,q3⟩ :=hzz
 by_cases hm : m= []
 ·subst hm
  refine⟨v,w,Ck X.und hi v _ _ hown A cap ty,by simpa using hown,World.grownBy.refl w _, .inl rfl⟩
 ·obtain⟨g,off,rfl,hg,hc⟩ :=h3 hm
  have hcells : ∀j u, (flat T m)[j]? =some u→w.cell? ((⟨g,off,none⟩ : Addr).add j) =some u:=by
   intro j u hu
   rw [←hc j u hu]
   unfold Addr.add
   by_cases hj : j=0<;>simp [hj]
  have hmx : l.length+m.length≤maxLen:=by unfold maxLen;omega
  have hbb : (l.length+m.length) * bytes≤140737488355328:=by
   calc (l.length+m.length) * bytes≤1073741824 * 1024:=Nat.mul_le_mul hlen hby
    _≤_:=by omega
  obtain⟨v',w',hrun,k1,k2,_,k4⟩ :=run_append_own_at (P:=P) w 0 t ty e i z T.n bytes X.und hi q1 q2 q3 hz T.pos v l.length (flat T l) hown ⟨g,off,none⟩ m.length cap (flat T m) (nu T m) hcells (JN T m) hmx hbb (Nat.zero_le _)
  refine⟨v',w',hrun, ?_,k2,k4⟩
  unfold bA
  rw [List.length_append,wS]
  exact k1
theorem xw {o : Oper}{a : Act}{K : Act→World→Prop}{Q : Exit→Act→World→Prop}(X : ST P T t e)(s x : Operand)
  (ho : o.op= .call {callee:= .builtin .append,args:= #[s,x],argTypes:= #[t,t]})
  {v y : Value} {l m : List α} {B : Nat} (hs : a.eval s=v) (hx : a.eval x=y) (hown : bA T e w v l) (hr : fE T w B y m) (hlen : l.length+m.length≤1073741824)
  (h : ∀v' w',bA T e w' v' (l++m) →w.grownBy w' v.ownBlock→ (v'.ownBlock=v.ownBlock∨v'.ownBlock=some w.heap.size) →K (a.put o.dst v') w') : o.wp P a w K Q:=by
 obtain⟨v',w',hrun,h2,h3,h4⟩ :=Cm X o.type hown hr hlen
 unfold Oper.wp execOp
 simp only [ho,resolve,invoke,builtin,Sem.run_bind,Sem.run_pure,Result.andThen_ok,List.map_toArray,List.map_cons,List.map_nil,hs,hx,hrun]
 exact h v' w' h2 h3 h4
theorem gu {ops : Array Oper}{rest : List Oper}{o : Oper}{a : Act}{Q : Exit→Act→World→Prop}(X : ST P T t e)(hgd : o.guard=none)(s x : Operand)
  (ho : o.op= .call {callee:= .builtin .append,args:= #[s,x],argTypes:= #[t,t]})
  {v y : Value} {l m : List α} {B : Nat} (hs : a.eval s=v) (hx : a.eval x=y) (hown : bA T e w v l) (hr : fE T w B y m) (hlen : l.length+m.length≤1073741824)
  (h : ∀v' w',bA T e w' v' (l++m) →w.grownBy w' v.ownBlock→ (v'.ownBlock=v.ownBlock∨v'.ownBlock=some w.heap.size) →wpList P ops Q rest (a.put o.dst v') w') : wpList P ops Q (o::rest) a w:=
 wpList_plain hgd fun _ hK=>xw X s x ho hs hx hown hr hlen fun v' w' h2 h3 h4=>hK _ _ (h v' w' h2 h3 h4)
theorem jo {ops : Array Oper}{o : Oper}{a : Act}{K : Act→World→Prop}{Q : Exit→Act→World→Prop}{E : Prop}(X : ST P T t e)(hgd : o.guard=none)(s x : Operand)
  (ho : o.op= .call {callee:= .builtin .append,args:= #[s,x],argTypes:= #[t,t]})
  {v y : Value} {l m : List α} {B : Nat} (hs : a.eval s=v) (hx : a.eval x=y) (hown : bA T e w v l) (hr : fE T w B y m) (hlen : l.length+m.length≤1073741824)
  (h : ∀v' w',bA T e w' v' (l++m) →w.grownBy w' v.ownBlock→ (v'.ownBlock=v.ownBlock∨v'.ownBlock=some w.heap.size) →K (a.put o.dst v') w') :
  if Region.wanted o (yielded ops a.tmps) =true then Oper.wp P o a w K Q else E:=by
 have hw : Region.wanted o (yielded ops a.tmps) =true:=by simp [Region.wanted,hgd]
 rw [if_pos hw]
 exact xw X s x ho hs hx hown hr hlen h
theorem bA.lit (T : FT α)(l : List α)(cs : Array Value)(hcs : cs.toList=flat T l)(hl : l.length≤maxLen)(w : World)(e : TypeId) :
  bA T e (w.alloc (.cells cs e)) (.slice (some ⟨w.heap.size,0,none⟩) l.length l.length) l:=by
 have h:=World.ownsRow_lit (base:=0) (e:=e) (size:=T.n) w cs l.length (Nat.zero_le _) hl (by rw [←Array.length_toList,hcs,nu])
 rw [hcs] at h
 exact h
theorem iy {w : World}{v v' : Value}(h : v'.ownBlock=v.ownBlock∨v'.ownBlock=some w.heap.size) : ∀g∈cu v',g∈cu v∨g=w.heap.size:=by
 intro g hg
 rw [bV] at hg
 rcases h with h|h
 ·exact .inl (bV.2 (by rw [←h];exact hg))
 ·rw [h] at hg
  injection hg with hg
  exact .inr hg.symm
end Go.Proofs.YtkmggglljkmjoaaGreat
namespace Go.Proofs.YtkmggglljkmjoaaGreat
open Go.RowKit
def bO (lo hi n : Int) : Bool:=decide (lo≤n) &&decide (n≤hi)
theorem bJ {lo hi n : Int} : bO lo hi n=true↔lo≤n∧n≤hi:=by simp [bO]
theorem nA {lo hi n : Int}(h : bO lo hi n=false) : ¬ (lo≤n∧n≤hi) :=by
 intro hh
 rw [bJ.2 hh] at h
 cases h
theorem zh {lo hi n : Int}(h : ¬ (lo≤n∧n≤hi)) : bO lo hi n=false:=by
 cases hb : bO lo hi n
 ·rfl
 ·exact absurd (bJ.1 hb) h
set_option maxHeartbeats 400000 in
theorem kC (n lo hi : Int)(w : World) : Calls Tryz.prog 154 #[.int .i64 n, .int .i64 lo, .int .i64 hi] w fun e w'=>e= .returned (.bool (bO lo hi n)) ∧w=w':=by
 by_cases h1 : lo≤n
 ·go_enter Tryz.func154,Tryz.ntmps154
  go_wp2
  go_ret
  exact⟨bK (by simp [bO,h1]),rfl⟩
 ·go_enter Tryz.func154,Tryz.ntmps154
  go_wp2
  go_ret
  exact⟨bK (zh (by omega)).symm,rfl⟩
set_option maxHeartbeats 400000 in
theorem fG (n lo hi : Int)(w : World) : Calls Tryz.prog 102 #[.int .i64 n, .int .i64 lo, .int .i64 hi] w fun e w'=>e= .returned (.bool (bO lo hi n)) ∧w=w':=by
 by_cases h1 : lo≤n
 ·go_enter Tryz.func102,Tryz.ntmps102
  go_wp2
  go_ret
  exact⟨bK (by simp [bO,h1]),rfl⟩
 ·go_enter Tryz.func102,Tryz.ntmps102
  go_wp2
  go_ret
  exact⟨bK (zh (by omega)).symm,rfl⟩
theorem lT (n : Int)(w : World) : Calls Tryz.prog 96 #[.int .i64 n] w fun e w'=>e= .returned (.bool (bO 0 2 n)) ∧w=w':=by
 go_enter Tryz.func96,Tryz.ntmps96
 go_wp2_with (go_at_call 154;refine(kC _ _ _ _).mono ?_;rintro e w1 ⟨rfl,rfl⟩)
 go_ret
 exact⟨rfl,rfl⟩
end Go.Proofs.YtkmggglljkmjoaaGreat
namespace Go.Proofs.YtkmggglljkmjoaaGreat
open Go.RowKit
def cO (c : Int) : Int:=if c=0 then 4 else if c=1 then 2 else if c=2 then 1 else 0
def eu (c : Int) : Int:=if c=0 then 12 else if c=1 then 20 else if c=2 then 44 else 0
def gF (c : Int) : Int:=if c=0 then 8 else if c=1 then 16 else if c=2 then 40 else 0
def eT (n : Int) : Int:=if n<1 then -1 else if n≤8 then 0 else if n≤16 then 1 else if n≤40 then 2 else -1
def xA (s : Int) : Int:=if bO 0 23 s=true then s / 4 else -1
def xQ (s : Int) : Int:=if bO 0 23 s=true then s%4 else -1
def kK (p i : Int) : Int:=if bO 0 5 p=true∧bO 0 3 i=true then p * 4+i else -1
def ig (s c : Int) : Int:=if bO 0 23 s=true∧bO 0 2 c=true∧s%4<cO c then s / 4 * 64+8+s%4 * eu c else -1
def gH (s c : Int) : Int:=if ig s c<0 then -1 else ig s c+4
theorem cls {c : Int}(h : bO 0 2 c=true) : c=0∨c=1∨c=2:=by
 have:=bJ.1 h
 omega
theorem Cn {c : Int}(h : bO 0 2 c=false) : cO c=0:=by
 have:=nA h
 unfold cO
 rw [if_neg (by omega),if_neg (by omega),if_neg (by omega)]
theorem Gq {c : Int}(h : bO 0 2 c=false) : eu c=0:=by
 have:=nA h
 unfold eu
 rw [if_neg (by omega),if_neg (by omega),if_neg (by omega)]
theorem Co {c : Int}(h : bO 0 2 c=false) : gF c=0:=by
 have:=nA h
 unfold gF
 rw [if_neg (by omega),if_neg (by omega),if_neg (by omega)]
theorem qG (c : Int) : 0≤cO c∧cO c≤4:=by
 unfold cO
 repeat' split
 all_goals omega
theorem uh (c : Int) : 0≤eu c∧eu c≤44:=by
 unfold eu
 repeat' split
 all_goals omega
theorem mh (c : Int) : 0≤gF c∧gF c≤40:=by
 unfold gF
 repeat' split
 all_goals omega
theorem qj {s c : Int}(h1 : bO 0 23 s=true)(h2 : bO 0 2 c=true)(h3 : s%4<cO c) : ig s c=s / 4 * 64+8+s%4 * eu c:=if_pos ⟨h1,h2,h3⟩
theorem zi {s c : Int}(h1 : bO 0 23 s=false) : ig s c= -1:=if_neg (by rw [h1];simp)
theorem zk {s c : Int}(h1 : bO 0 2 c=false) : ig s c= -1:=if_neg (by rw [h1];simp)
theorem zm {s c : Int}(h1 : ¬ s%4<cO c) : ig s c= -1:=if_neg (fun h=>h1 h.2.2)
theorem Bp (s c : Int) : ig s c= -1∨ (8≤ig s c∧ig s c+4+gF c≤384) :=by
 by_cases h : bO 0 23 s=true∧bO 0 2 c=true∧s%4<cO c
 ·right
  obtain⟨h1,h2,h3⟩ :=h
  rw [qj h1 h2 h3]
  have a:=bJ.1 h1
  rcases cls h2 with rfl|rfl|rfl
  ·simp [cO,eu,gF] at *;omega
  ·simp [cO,eu,gF] at *;omega
  ·simp [cO,eu,gF] at *;omega
 ·exact .inl (if_neg h)
theorem zn {s c : Int} : 0≤ig s c↔bO 0 23 s=true∧bO 0 2 c=true∧s%4<cO c:=by
 constructor
 ·intro h
  by_cases k : bO 0 23 s=true∧bO 0 2 c=true∧s%4<cO c
  ·exact k
  ·unfold ig at h
   rw [if_neg k] at h
   omega
 ·rintro⟨h1,h2,h3⟩
  rcases Bp s c with h|h
  ·rw [qj h1 h2 h3] at h
   have a:=bJ.1 h1
   have b:=uh c
   have d : 0≤s%4 * eu c:=Int.mul_nonneg (by omega) b.1
   omega
  ·omega
end Go.Proofs.YtkmggglljkmjoaaGreat
namespace Go.Proofs.YtkmggglljkmjoaaGreat
open Go.RowKit
theorem nO (n : Int)(w : World) : Calls Tryz.prog 88 #[.int .i64 n] w fun e w'=>e= .returned (.bool (bO 1 7 n)) ∧w=w':=by
 go_enter Tryz.func88,Tryz.ntmps88
 go_wp2_with (go_at_call 154;refine(kC _ _ _ _).mono ?_;rintro e w1 ⟨rfl,rfl⟩)
 go_ret
 exact⟨rfl,rfl⟩
theorem IK (n : Int)(w : World) : Calls Tryz.prog 241 #[.int .i64 n] w fun e w'=>e= .returned (.bool (bO 0 255 n)) ∧w=w':=by
 go_enter Tryz.func241,Tryz.ntmps241
 go_wp2_with (go_at_call 154;refine(kC _ _ _ _).mono ?_;rintro e w1 ⟨rfl,rfl⟩)
 go_ret
 exact⟨rfl,rfl⟩
theorem rR (n : Int)(w : World) : Calls Tryz.prog 161 #[.int .i64 n] w fun e w'=>e= .returned (.bool (bO 0 2 n)) ∧w=w':=by
 go_enter Tryz.func161,Tryz.ntmps161
 go_wp2_with (go_at_call 154;refine(kC _ _ _ _).mono ?_;rintro e w1 ⟨rfl,rfl⟩)
 go_ret
 exact⟨rfl,rfl⟩
theorem l8 (n : Int)(w : World) : Calls Tryz.prog 120 #[.int .i64 n] w fun e w'=>e= .returned (.bool (bO 0 23 n)) ∧w=w':=by
 go_enter Tryz.func120,Tryz.ntmps120
 go_wp2_with (go_at_call 154;refine(kC _ _ _ _).mono ?_;rintro e w1 ⟨rfl,rfl⟩)
 go_ret
 exact⟨rfl,rfl⟩
set_option maxHeartbeats 1000000 in
theorem Aw (c : Int)(w : World) : Calls Tryz.prog 107 #[.int .i64 c] w fun e w'=>e= .returned (.int .i64 (gF c)) ∧w=w':=by
 have hix:= @qW Tryz.prog _ _ _ Tryz.underlying146 (fun _=>by kernel_rfl) (by kernel_rfl)
 by_cases h : bO 0 2 c=true
 ·rcases cls h with rfl|rfl|rfl<;>
   (go_enter Tryz.func107,Tryz.ntmps107;go_wp2;go_ret;exact⟨rfl,rfl⟩)
 ·have h' : bO 0 2 c=false:= (Bool.not_eq_true _).mp h
  have hn:=nA h'
  have HS:=Hid.aT (Co h')
  have n0 : (c == 0) =false:=by simp;omega
  have n1 : (c == 1) =false:=by simp;omega
  have n2 : (c == 2) =false:=by simp;omega
  clear h
  rcases(show c<0∨2<c by omega) with h1|h1
  ·have h0 : ¬ 0≤c:=by omega
   go_enter Tryz.func107,Tryz.ntmps107
   go_wp2
   go_ret
   exact⟨dN HS.out.symm,rfl⟩
  ·have h0 : ¬ c≤2:=by omega
   go_enter Tryz.func107,Tryz.ntmps107
   go_wp2
   go_ret
   exact⟨dN HS.out.symm,rfl⟩
set_option maxHeartbeats 1000000 in
theorem nL (c : Int)(w : World) : Calls Tryz.prog 180 #[.int .i64 c] w fun e w'=>e= .returned (.int .i64 (eu c)) ∧w=w':=by
 have hix:= @qW Tryz.prog _ _ _ Tryz.underlying146 (fun _=>by kernel_rfl) (by kernel_rfl)
 by_cases h : bO 0 2 c=true
 ·rcases cls h with rfl|rfl|rfl<;>
   (go_enter Tryz.func180,Tryz.ntmps180;go_wp2;go_ret;exact⟨rfl,rfl⟩)
 ·have h' : bO 0 2 c=false:= (Bool.not_eq_true _).mp h
  have hn:=nA h'
  have HS:=Hid.aT (Gq h')
  have n0 : (c == 0) =false:=by simp;omega
  have n1 : (c == 1) =false:=by simp;omega
  have n2 : (c == 2) =false:=by simp;omega
  clear h
  rcases(show c<0∨2<c by omega) with h1|h1
  ·have h0 : ¬ 0≤c:=by omega
   go_enter Tryz.func180,Tryz.ntmps180
   go_wp2
   go_ret
   exact⟨dN HS.out.symm,rfl⟩
  ·have h0 : ¬ c≤2:=by omega
   go_enter Tryz.func180,Tryz.ntmps180
   go_wp2
   go_ret
   exact⟨dN HS.out.symm,rfl⟩
set_option maxHeartbeats 1000000 in
theorem kT (c : Int)(w : World) : Calls Tryz.prog 179 #[.int .i64 c] w fun e w'=>e= .returned (.int .i64 (cO c)) ∧w=w':=by
 have hix:= @qW Tryz.prog _ _ _ Tryz.underlying146 (fun _=>by kernel_rfl) (by kernel_rfl)
 by_cases h : bO 0 2 c=true
 ·rcases cls h with rfl|rfl|rfl<;>
   (go_enter Tryz.func179,Tryz.ntmps179;go_wp2;go_ret;exact⟨rfl,rfl⟩)
 ·have h' : bO 0 2 c=false:= (Bool.not_eq_true _).mp h
  have hn:=nA h'
  have HS:=Hid.aT (Cn h')
  have n0 : (c == 0) =false:=by simp;omega
  have n1 : (c == 1) =false:=by simp;omega
  have n2 : (c == 2) =false:=by simp;omega
  clear h
  rcases(show c<0∨2<c by omega) with h1|h1
  ·have h0 : ¬ 0≤c:=by omega
   go_enter Tryz.func179,Tryz.ntmps179
   go_wp2
   go_ret
   exact⟨dN HS.out.symm,rfl⟩
  ·have h0 : ¬ c≤2:=by omega
   go_enter Tryz.func179,Tryz.ntmps179
   go_wp2
   go_ret
   exact⟨dN HS.out.symm,rfl⟩
set_option maxHeartbeats 1000000 in
theorem uj (c : Int)(w : World) : Calls Tryz.prog 28 #[.int .i64 c] w fun e w'=>e= .returned (.int .i64 (gF c)) ∧w=w':=by
 by_cases h : bO 0 2 c=true
 ·rcases cls h with rfl|rfl|rfl<;>
   (go_enter Tryz.func28,Tryz.ntmps28;go_wp2;go_ret;exact⟨rfl,rfl⟩)
 ·have h' : bO 0 2 c=false:= (Bool.not_eq_true _).mp h
  have hn:=nA h'
  have HS:=Hid.aT (Co h')
  have n0 : (c == 0) =false:=by simp;omega
  have n1 : (c == 1) =false:=by simp;omega
  have n2 : (c == 2) =false:=by simp;omega
  clear h
  rcases(show c<0∨2<c by omega) with h1|h1
  ·have h0 : ¬ 0≤c:=by omega
   go_enter Tryz.func28,Tryz.ntmps28
   go_wp2
   go_ret
   exact⟨dN HS.out.symm,rfl⟩
  ·have h0 : ¬ c≤2:=by omega
   go_enter Tryz.func28,Tryz.ntmps28
   go_wp2
   go_ret
   exact⟨dN HS.out.symm,rfl⟩
set_option maxHeartbeats 1000000 in
theorem iI (c : Int)(w : World) : Calls Tryz.prog 150 #[.int .i64 c] w fun e w'=>e= .returned (.int .i64 (cO c)) ∧w=w':=by
 by_cases h : bO 0 2 c=true
 ·rcases cls h with rfl|rfl|rfl<;>
   (go_enter Tryz.func150,Tryz.ntmps150;go_wp2;go_ret;exact⟨rfl,rfl⟩)
 ·have h' : bO 0 2 c=false:= (Bool.not_eq_true _).mp h
  have hn:=nA h'
  have HS:=Hid.aT (Cn h')
  have n0 : (c == 0) =false:=by simp;omega
  have n1 : (c == 1) =false:=by simp;omega
  have n2 : (c == 2) =false:=by simp;omega
  clear h
  rcases(show c<0∨2<c by omega) with h1|h1
  ·have h0 : ¬ 0≤c:=by omega
   go_enter Tryz.func150,Tryz.ntmps150
   go_wp2
   go_ret
   exact⟨dN HS.out.symm,rfl⟩
  ·have h0 : ¬ c≤2:=by omega
   go_enter Tryz.func150,Tryz.ntmps150
   go_wp2
   go_ret
   exact⟨dN HS.out.symm,rfl⟩
set_option maxHeartbeats 1000000 in
theorem um (s : Int)(w : World) : Calls Tryz.prog 148 #[.int .i64 s] w fun e w'=>e= .returned (.int .i64 (xA s)) ∧w=w':=by
 by_cases h : bO 0 23 s=true
 ·have hb:=bJ.1 h
  obtain⟨b1,b2⟩ :=hb
  have HS:=Hid.aT (show xA s=s / 4 from if_pos h)
  go_enter Tryz.func148,Tryz.ntmps148
  go_wp2_with (go_at_call 102;refine(fG _ _ _ _).mono ?_;rintro e w1 ⟨rfl,rfl⟩)
  go_ret
  exact⟨dN HS.out.symm,rfl⟩
 ·have HS:=Hid.aT (show xA s= -1 from if_neg h)
  have h' : bO 0 23 s=false:= (Bool.not_eq_true _).mp h
  clear h
  go_enter Tryz.func148,Tryz.ntmps148
  go_wp2_with (go_at_call 102;refine(fG _ _ _ _).mono ?_;rintro e w1 ⟨rfl,rfl⟩)
  go_ret
  exact⟨dN HS.out.symm,rfl⟩
set_option maxHeartbeats 1000000 in
theorem EU (s : Int)(w : World) : Calls Tryz.prog 149 #[.int .i64 s] w fun e w'=>e= .returned (.int .i64 (xQ s)) ∧w=w':=by
 by_cases h : bO 0 23 s=true
 ·have hb:=bJ.1 h
  obtain⟨b1,b2⟩ :=hb
  have HS:=Hid.aT (show xQ s=s%4 from if_pos h)
  go_enter Tryz.func149,Tryz.ntmps149
  go_wp2_with (go_at_call 102;refine(fG _ _ _ _).mono ?_;rintro e w1 ⟨rfl,rfl⟩)
  go_ret
  exact⟨dN HS.out.symm,rfl⟩
 ·have HS:=Hid.aT (show xQ s= -1 from if_neg h)
  have h' : bO 0 23 s=false:= (Bool.not_eq_true _).mp h
  clear h
  go_enter Tryz.func149,Tryz.ntmps149
  go_wp2_with (go_at_call 102;refine(fG _ _ _ _).mono ?_;rintro e w1 ⟨rfl,rfl⟩)
  go_ret
  exact⟨dN HS.out.symm,rfl⟩
set_option maxHeartbeats 2000000 in
theorem o9 (s c : Int)(w : World) : Calls Tryz.prog 121 #[.int .i64 s, .int .i64 c] w fun e w'=>e= .returned (.int .i64 (ig s c)) ∧w=w':=by
 have hix:= @qW Tryz.prog _ _ _ Tryz.underlying146 (fun _=>by kernel_rfl) (by kernel_rfl)
 by_cases h : bO 0 23 s=true
 case neg=>
  have h' : bO 0 23 s=false:= (Bool.not_eq_true _).mp h
  have HS:=Hid.aT (zi (c:=c) h')
  have hn:=nA h'
  rcases(show s<0∨23<s by omega) with h1|h1
  ·have h0 : ¬ 0≤s:=by omega
   go_enter Tryz.func121,Tryz.ntmps121
   go_wp2
   go_ret
   exact⟨dN HS.out.symm,rfl⟩
  ·have h0 : ¬ s≤23:=by omega
   go_enter Tryz.func121,Tryz.ntmps121
   go_wp2
   go_ret
   exact⟨dN HS.out.symm,rfl⟩
 obtain⟨b1,b2⟩ :=bJ.1 h
 by_cases hc : bO 0 2 c=true
 case neg=>
  have hc' : bO 0 2 c=false:= (Bool.not_eq_true _).mp hc
  have HS:=Hid.aT (zk (s:=s) hc')
  have hn:=nA hc'
  have n0 : (c == 0) =false:=by simp;omega
  have n1 : (c == 1) =false:=by simp;omega
  have n2 : (c == 2) =false:=by simp;omega
  clear h hc hc'
  rcases(show c<0∨2<c by omega) with h1|h1
  ·have h0 : ¬ 0≤c:=by omega
   go_enter Tryz.func121,Tryz.ntmps121
   go_wp2
   go_ret
   exact⟨dN HS.out.symm,rfl⟩
  ·have h0 : ¬ c≤2:=by omega
   go_enter Tryz.func121,Tryz.ntmps121
   go_wp2
   go_ret
   exact⟨dN HS.out.symm,rfl⟩
 by_cases hp : s%4<cO c
 ·have HS:=Hid.aT (qj h hc hp)
  rcases cls hc with rfl|rfl|rfl<;>
   (simp [cO] at hp;clear h hc;go_enter Tryz.func121,Tryz.ntmps121;go_wp2;go_ret;exact⟨dN (by rw [HS.out];simp [eu]),rfl⟩)
 ·have HS:=Hid.aT (zm (s:=s) (c:=c) hp)
  rcases cls hc with rfl|rfl|rfl
  ·exact absurd (show s%4<cO 0 by show s%4<4;omega) hp
  ·(simp [cO] at hp;clear h hc;go_enter Tryz.func121,Tryz.ntmps121;go_wp2;go_ret;exact⟨dN (by rw [HS.out]),rfl⟩)
  ·(simp [cO] at hp;clear h hc;go_enter Tryz.func121,Tryz.ntmps121;go_wp2;go_ret;exact⟨dN (by rw [HS.out]),rfl⟩)
set_option maxHeartbeats 2000000 in
theorem nP (s c : Int)(w : World) : Calls Tryz.prog 158 #[.int .i64 s, .int .i64 c] w fun e w'=>e= .returned (.int .i64 (ig s c)) ∧w=w':=by
 by_cases h : bO 0 23 s=true
 case neg=>
  have h' : bO 0 23 s=false:= (Bool.not_eq_true _).mp h
  have HS:=Hid.aT (zi (c:=c) h')
  have hn:=nA h'
  rcases(show s<0∨23<s by omega) with h1|h1
  ·have h0 : ¬ 0≤s:=by omega
   go_enter Tryz.func158,Tryz.ntmps158
   go_wp2
   go_ret
   exact⟨dN HS.out.symm,rfl⟩
  ·have h0 : ¬ s≤23:=by omega
   go_enter Tryz.func158,Tryz.ntmps158
   go_wp2
   go_ret
   exact⟨dN HS.out.symm,rfl⟩
 obtain⟨b1,b2⟩ :=bJ.1 h
 by_cases hc : bO 0 2 c=true
 case neg=>
  have hc' : bO 0 2 c=false:= (Bool.not_eq_true _).mp hc
  have HS:=Hid.aT (zk (s:=s) hc')
  have hn:=nA hc'
  have k1 : ¬ s / 4<0:=by omega
  have k2 : ¬ s%4≤ -1:=by omega
  have n0 : (c == 0) =false:=by simp;omega
  have n1 : (c == 1) =false:=by simp;omega
  have n2 : (c == 2) =false:=by simp;omega
  clear h hc hc'
  rcases(show c<0∨2<c by omega) with h1|h1
  ·have h0 : ¬ 0≤c:=by omega
   go_enter Tryz.func158,Tryz.ntmps158
   go_wp2
   go_ret
   exact⟨dN HS.out.symm,rfl⟩
  ·have h0 : ¬ c≤2:=by omega
   go_enter Tryz.func158,Tryz.ntmps158
   go_wp2
   go_ret
   exact⟨dN HS.out.symm,rfl⟩
 have k1 : ¬ s / 4<0:=by omega
 by_cases hp : s%4<cO c
 ·have hp' : s%4≤cO c - 1:=by omega
  have HS:=Hid.aT (qj h hc hp)
  rcases cls hc with rfl|rfl|rfl<;>
   (simp [cO] at hp hp';clear hp;clear h hc;go_enter Tryz.func158,Tryz.ntmps158;go_wp2;go_ret;exact⟨dN (by rw [HS.out];simp [eu]),rfl⟩)
 ·have hp' : ¬ s%4≤cO c - 1:=by omega
  have HS:=Hid.aT (zm (s:=s) (c:=c) hp)
  rcases cls hc with rfl|rfl|rfl
  ·exact absurd (show s%4<cO 0 by show s%4<4;omega) hp
  ·(simp [cO] at hp hp';clear hp;rw [←Int.not_le] at hp';clear h hc;go_enter Tryz.func158,Tryz.ntmps158;go_wp2;go_ret;exact⟨dN (by rw [HS.out]),rfl⟩)
  ·(simp [cO] at hp hp';clear hp;rw [←Int.not_le] at hp';clear h hc;go_enter Tryz.func158,Tryz.ntmps158;go_wp2;go_ret;exact⟨dN (by rw [HS.out]),rfl⟩)
end Go.Proofs.YtkmggglljkmjoaaGreat
namespace Go.Proofs.YtkmggglljkmjoaaGreat
open Go.RowKit
def idxOf {α : Type}(p : α→Bool)(l : List α) : Int:=match l.findIdx? p with|some i=>i|none=> -1
theorem idxOf_hit {α : Type}(p : α→Bool)(l : List α)(i : Nat)(hi : i<l.length)(h : (l.take i).any p=false)(hp : p l[i]=true) : idxOf p l=i:=by
 have hf : l.findIdx? p=some i:=by
  rw [List.findIdx?_eq_some_iff_getElem]
  refine⟨hi,hp,fun j hj=> ?_⟩
  rw [List.any_eq_false] at h
  exact h l[j] (List.mem_take_iff_getElem.2 ⟨j,by omega,rfl⟩)
 unfold idxOf
 rw [hf]
theorem rT {α : Type}(p : α→Bool)(l : List α)(h : l.any p=false) : idxOf p l= -1:=by
 have hf : l.findIdx? p=none:=by
  rw [List.findIdx?_eq_none_iff]
  intro x hx
  rw [List.any_eq_false] at h
  simpa using h x hx
 unfold idxOf
 rw [hf]
theorem any_take_succ {α : Type}(p : α→Bool)(l : List α)(i : Nat)(hi : i<l.length)(h : (l.take i).any p=false)(hp : p l[i]=false) : (l.take (i+1)).any p=false:=by
 rw [List.take_succ_eq_append_getElem hi,List.any_append,h]
 simp [hp]
theorem vO {α : Type}(p : α→Bool)(l : List α) : decide (0≤idxOf p l) =l.any p:=by
 unfold idxOf
 cases h : l.findIdx? p with
 |none=>
  rw [List.findIdx?_eq_none_iff] at h
  have : l.any p=false:=by
   rw [List.any_eq_false]
   intro x hx
   simp [h x hx]
  rw [this]
  rfl
 |some i=>
  rw [List.findIdx?_eq_some_iff_getElem] at h
  obtain⟨hi,hp,_⟩ :=h
  have : l.any p=true:=List.any_eq_true.2 ⟨l[i],List.getElem_mem hi,hp⟩
  rw [this]
  simp
theorem uo {α : Type}(p : α→Bool)(l : List α) : l.all p= !(l.any fun x=> !p x) :=by
 induction l with
 |nil=>rfl
 |cons x l ih=>simp [ih]
def kU (b : List Int) : Bool:=decide (b.length≤1000) &&b.all (bO 0 255)
def iJ (b : List Int)(a : Nat) : Nat→Int
 |0=>0
 |k+1=>iJ b a k * 256+b.getD (a+k) 0
def iF (b : List Int)(a k : Int) : Int:=iJ b a.toNat k.toNat
theorem getD_at {α : Type}{b : List α}{d : α}{i : Nat}(h : i<b.length) : b.getD i d=b[i]:=by simp [List.getD,h]
theorem Bq {α : Type}{b : List α}{d : α}{i : Nat}(h : b.length≤i) : b.getD i d=d:=by simp [List.getD,h]
theorem byte_at {b : List Int}(hb : b.all (bO 0 255) =true)(i : Nat) : 0≤b.getD i 0∧b.getD i 0≤255:=by
 by_cases h : i<b.length
 ·rw [getD_at h]
  exact bJ.1 (List.all_eq_true.1 hb _ (List.getElem_mem h))
 ·rw [Bq (by omega)]
  omega
theorem IL {b : List Int}(hb : b.all (bO 0 255) =true)(a k : Nat) : 0≤iJ b a k∧iJ b a k<256 ^ k:=by
 induction k with
 |zero=>exact⟨Int.le_refl _,by show (0 : Int) <1;omega⟩
 |succ k ih=>
  have h1:=byte_at hb (a+k)
  show 0≤iJ b a k * 256+b.getD (a+k) 0∧iJ b a k * 256+b.getD (a+k) 0<256 ^ (k+1)
  rw [Int.pow_succ]
  omega
theorem zo {b : List Int}(hb : b.all (bO 0 255) =true)(a k : Nat)(hk : k≤6) : 0≤iJ b a k∧iJ b a k≤281474976710656:=by
 have h1:=IL hb a k
 have h2 : (256 : Int) ^ k≤281474976710656:=by
  rcases(show k=0∨k=1∨k=2∨k=3∨k=4∨k=5∨k=6 by omega) with rfl|rfl|rfl|rfl|rfl|rfl|rfl<;>decide
 omega
set_option maxHeartbeats 400000 in
theorem rU (w : World)(v : Value)(b : List Int)(h : fE FI w w.heap.size v b) :
  Calls Tryz.prog 147 #[v] w fun e w'=>e= .returned (.bool (kU b)) ∧w=w':=by
 obtain⟨A,c,hv,q1,q2,_⟩ :=id h
 have m_ : b.length≤9223372036854775807:=by unfold maxLen at q2;omega
 subst hv
 clear q1 q2
 have HE:=Hid.aT (show kU b= (decide (b.length≤1000) &&b.all (bO 0 255)) from rfl)
 go_enter Tryz.func147,Tryz.ntmps147
 go_wp2
 go_loop [3] (fun i=> ∃k : Nat,k≤b.length∧i= .int .i64 k∧Hid ((b.take k).all (bO 0 255) =true)) (fun i=>b.length - (intOf i).toNat)
 case atStart=>exact⟨0,Nat.zero_le _,rfl,rfl⟩
 case round=>
  obtain⟨i,hi,rfl,HT⟩ :=hrel
  by_cases hlt : i<b.length
  ·obtain⟨g,off,cap',he,hg,_,_,hc⟩ :=h.at_ (List.getElem?_eq_getElem hlt)
   injection he with he1 he2 jW
   clear he2
   subst he1 jW
   have p0 : w.cell? ⟨g,off+i,none⟩ =some (.int .i64 b[i]) :=by simpa [FI] using hc 0 _ rfl
   clear hc h
   by_cases c1 : bO 0 255 b[i]=true
   ·have HN:=Hid.aT (show (b.take (i+1)).all (bO 0 255) =true by rw [List.take_succ_eq_append_getElem hlt,List.all_append,HT.out];simp [c1])
    go_wp2_with (go_at_call 102;refine(fG _ _ _ _).mono ?_;rintro e w1 ⟨rfl,rfl⟩)
    go_round
    case rel=>exact⟨i+1,by omega,by go_num,HN⟩
    case measure=>simp [intOf];omega
   ·have c1' : bO 0 255 b[i]=false:= (Bool.not_eq_true _).mp c1
    have HN:=Hid.aT (show b.all (bO 0 255) =false from List.all_eq_false.2 ⟨b[i],List.getElem_mem hlt,by rw [c1'];decide⟩)
    clear c1
    go_wp2_with (go_at_call 102;refine(fG _ _ _ _).mono ?_;rintro e w1 ⟨rfl,rfl⟩)
    go_ret
    exact⟨bK (by rw [HE.out,HN.out];simp),rfl⟩
  ·obtain rfl : i=b.length:=by omega
   have HN:=Hid.aT (show b.all (bO 0 255) =true by have a:=HT.out;rwa [List.take_length] at a)
   by_cases hl : b.length≤1000
   ·go_wp2
    go_ret
    exact⟨bK (by rw [HE.out,HN.out];simp;omega),rfl⟩
   ·go_wp2
    go_ret
    exact⟨bK (by rw [HE.out];simp [hl];omega),rfl⟩
set_option maxHeartbeats 1000000 in
theorem mq (w : World)(v : Value)(b : List Int)(a k : Int)(h : fE FI w w.heap.size v b)(ha : 0≤a)(hk1 : 1≤k)(Ko : k≤7)(hl : a+k≤b.length)(hb : b.all (bO 0 255) =true) :
  Calls Tryz.prog 90 #[v, .int .i64 a, .int .i64 k] w fun e w'=>e= .returned (.int .i64 (iF b a k)) ∧w=w':=by
 obtain⟨A,c,hv,q1,q2,_⟩ :=id h
 have m_ : b.length≤9223372036854775807:=by unfold maxLen at q2;omega
 subst hv
 obtain⟨a,rfl⟩ :=Int.eq_ofNat_of_zero_le ha
 obtain⟨k,rfl⟩ :=Int.eq_ofNat_of_zero_le (Int.le_trans (by decide) hk1)
 have HB:=Hid.aT (zo hb a)
 have HY:=Hid.aT (fun i=>byte_at hb i)
 have hl' : a+k≤b.length:=by omega
 have Nv : k≤7:=by omega
 have Nw : 1≤k:=by omega
 clear q2 ha hb hl Ko hk1
 have HE:=Hid.aT (show iF b (a : Int) (k : Int) =iJ b a k from rfl)
 have HS:=Hid.aT (fun i=> (show iJ b a (i+1) =iJ b a i * 256+b.getD (a+i) 0 from rfl))
 have H0:=Hid.aT (show iJ b a 0=0 from rfl)
 obtain⟨g,off,cap',he,hg,_,_,_⟩ :=h.at_ (List.getElem?_eq_getElem (show a<b.length by omega))
 injection he with he1 he2 jW
 clear he2
 subst he1 jW
 have hac : ¬ c=a:=by omega
 go_enter Tryz.func90,Tryz.ntmps90
 go_wp2
 go_loop [7,17] (fun n i=> ∃j : Nat,j≤k∧i= .int .i64 j∧n= .int .i64 (iJ b a j)) (fun _ i=>k - (intOf i).toNat)
 case atStart=>exact⟨0,Nat.zero_le _,rfl,by rw [H0.out]⟩
 case round=>
  obtain⟨i,hi,rfl,rfl⟩ :=hrel
  by_cases hlt : i<k
  ·have hai : a+i<b.length:=by omega
   obtain⟨g1,off1,Du,he,hg1,_,_,hc⟩ :=h.at_ (List.getElem?_eq_getElem hai)
   injection he with he1 he2 jW
   injection he1 with he1
   injection he1 with he1 rV
   clear he2
   subst he1 jW rV
   obtain⟨y1,y2⟩ :=HY.out (a+i)
   obtain⟨x1,x2⟩ :=HB.out i (by omega)
   have HX:=Hid.aT (HS.out i)
   have e1 : b.getD (a+i) 0=b[a+i]:=getD_at hai
   rw [e1] at y1 y2 HX
   have p0 : w.cell? ⟨g,off+ (a+i),none⟩ =some (.int .i64 b[a+i]) :=by simpa [FI] using hc 0 _ rfl
   have p1 : w.cell? ⟨g,off+a+i,none⟩ =some (.int .i64 b[a+i]) :=by rw [Nat.add_assoc];exact p0
   generalize b[a+i]=y at p0 p1 y1 y2 HX
   generalize iJ b a i=x at x1 x2 HX
   clear hc e1 h
   go_wp2
   go_round
   case rel=>exact⟨i+1,by omega,by go_num,by rw [HX.out];first|done|go_num⟩
   case measure=>simp [intOf];omega
  ·obtain rfl : i=k:=by omega
   go_wp2
   go_ret
   exact⟨dN HE.out.symm,rfl⟩
set_option maxHeartbeats 1000000 in
theorem qL (w : World)(v : Value)(b : List Int)(a k : Int)(h : fE FI w w.heap.size v b)(ha : 0≤a)(hk1 : 1≤k)(Ko : k≤7)(hl : a+k≤b.length)(hb : b.all (bO 0 255) =true) :
  Calls Tryz.prog 109 #[v, .int .i64 a, .int .i64 k] w fun e w'=>e= .returned (.int .i64 (iF b a k)) ∧w=w':=by
 obtain⟨A,c,hv,q1,q2,_⟩ :=id h
 have m_ : b.length≤9223372036854775807:=by unfold maxLen at q2;omega
 subst hv
 obtain⟨a,rfl⟩ :=Int.eq_ofNat_of_zero_le ha
 obtain⟨k,rfl⟩ :=Int.eq_ofNat_of_zero_le (Int.le_trans (by decide) hk1)
 have HB:=Hid.aT (zo hb a)
 have HY:=Hid.aT (fun i=>byte_at hb i)
 have hl' : a+k≤b.length:=by omega
 have Nv : k≤7:=by omega
 have Nw : 1≤k:=by omega
 clear q2 ha hb hl Ko hk1
 have HE:=Hid.aT (show iF b (a : Int) (k : Int) =iJ b a k from rfl)
 have HS:=Hid.aT (fun i=> (show iJ b a (i+1) =iJ b a i * 256+b.getD (a+i) 0 from rfl))
 have H0:=Hid.aT (show iJ b a 0=0 from rfl)
 obtain⟨g,off,cap',he,hg,_,_,_⟩ :=h.at_ (List.getElem?_eq_getElem (show a<b.length by omega))
 injection he with he1 he2 jW
 clear he2
 subst he1 jW
 have hac : ¬ c=a:=by omega
 go_enter Tryz.func109,Tryz.ntmps109
 go_wp2
 go_loop [7,8] (fun n i=> ∃j : Nat,j≤k∧i= .int .i64 j∧n= .int .i64 (iJ b a j)) (fun _ i=>k - (intOf i).toNat)
 case atStart=>exact⟨0,Nat.zero_le _,rfl,by rw [H0.out]⟩
 case round=>
  obtain⟨i,hi,rfl,rfl⟩ :=hrel
  by_cases hlt : i<k
  ·have hai : a+i<b.length:=by omega
   obtain⟨g1,off1,Du,he,hg1,_,_,hc⟩ :=h.at_ (List.getElem?_eq_getElem hai)
   injection he with he1 he2 jW
   injection he1 with he1
   injection he1 with he1 rV
   clear he2
   subst he1 jW rV
   obtain⟨y1,y2⟩ :=HY.out (a+i)
   obtain⟨x1,x2⟩ :=HB.out i (by omega)
   have HX:=Hid.aT (HS.out i)
   have e1 : b.getD (a+i) 0=b[a+i]:=getD_at hai
   rw [e1] at y1 y2 HX
   have p0 : w.cell? ⟨g,off+ (a+i),none⟩ =some (.int .i64 b[a+i]) :=by simpa [FI] using hc 0 _ rfl
   have p1 : w.cell? ⟨g,off+a+i,none⟩ =some (.int .i64 b[a+i]) :=by rw [Nat.add_assoc];exact p0
   generalize b[a+i]=y at p0 p1 y1 y2 HX
   generalize iJ b a i=x at x1 x2 HX
   clear hc e1 h
   go_wp2
   go_round
   case rel=>exact⟨i+1,by omega,by go_num,by rw [HX.out];first|done|go_num⟩
   case measure=>simp [intOf];omega
  ·obtain rfl : i=k:=by omega
   go_wp2
   go_ret
   exact⟨dN HE.out.symm,rfl⟩
end Go.Proofs.YtkmggglljkmjoaaGreat
namespace Go.Proofs.YtkmggglljkmjoaaGreat
open Go.RowKit
theorem Tryz.infoInt : (Tryz.prog.info? 3).map (fun i=> (i.zero,i.size,i.bytes)) =some (some (.int .i64 0),FI.n,8) :=by kernel_rfl
end Go.Proofs.YtkmggglljkmjoaaGreat
namespace Go.Proofs.YtkmggglljkmjoaaGreat
open Go.RowKit
end Go.Proofs.YtkmggglljkmjoaaGreat
namespace Go.Proofs.YtkmggglljkmjoaaGreat
open Go.RowKit
structure Heap where
 Y : List Int
 Z : List Int
structure dU where
 Y : SV
 Z : SV
@[reducible] def dU.val (H : dU) (_x : Heap) : Value:= .agg #[.slice H.Y.a H.Y.l H.Y.c, .slice H.Z.a H.Z.l H.Z.c]
def dU.foot (H : dU) : List Nat:=cu H.Y.val++cu H.Z.val
structure gU (w : World)(B : Nat)(H : dU)(x : Heap) : Prop where
 Y : fE FI w B H.Y.val x.Y
 Z : fE FI w B H.Z.val x.Z
structure fA (w : World)(H : dU)(x : Heap) : Prop where
 Y : bA FI 3 w H.Y.val x.Y
 Z : bA FI 3 w H.Z.val x.Z
 iV : ∀g∈cu H.Y.val,g∉cu H.Z.val
theorem gU.keep {w w' : World}{B B' : Nat}{H : dU}{x : Heap}(h : gU w B H x)(hk : ∀k,k<B→w'.heap[k]? =w.heap[k]?)(hB : B≤B') : gU w' B' H x:=
 ⟨h.Y.keep hk hB,h.Z.keep hk hB⟩
theorem dW {w w' : World}{H : dU}{x : Heap}(h : gU w w.heap.size H x)(hb : Below w.heap.size w w') : gU w' w'.heap.size H x:=h.keep hb.block hb.size
theorem dU.aX {H : dU}{g : Nat} : g∈H.foot↔g∈cu H.Y.val∨g∈cu H.Z.val:=by
 unfold dU.foot
 simp only [List.mem_append]
theorem fA.lt {w : World}{H : dU}{x : Heap}(h : fA w H x) : ∀g∈H.foot,g<w.heap.size:=by
 intro g hg
 rcases dU.aX.1 hg with hg|hg
 ·exact(iQ h.Y) g hg
 ·exact(iQ h.Z) g hg
theorem fA.keep {w w' : World}{H : dU}{x : Heap}(h : fA w H x)(hk : ∀g∈H.foot,w'.heap[g]? =w.heap[g]?) : fA w' H x:=
 ⟨h.Y.keep (fun g hg=>hk g (dU.aX.2 (.inl (bV.2 hg)))),h.Z.keep (fun g hg=>hk g (dU.aX.2 ((.inr (bV.2 hg))))),h.iV⟩
theorem fA.aM {w w' : World}{H : dU}{x : Heap}{F : List Nat}(h : fA w H x)(hc : aY F w w')(hd : ∀g∈H.foot,g∉F) : fA w' H x:=h.keep fun g hg=>hc.block g (h.lt g hg) (hd g hg)
theorem fA.rd {w : World}{B : Nat}{H : dU}{x : Heap}(h : fA w H x)(hB : ∀g∈H.foot,g<B) : gU w B H x:=
 ⟨h.Y.rd (fun g hg=>hB g (dU.aX.2 (.inl (bV.2 hg)))),h.Z.rd (fun g hg=>hB g (dU.aX.2 ((.inr (bV.2 hg)))))⟩
theorem fA.rd' {w : World}{H : dU}{x : Heap}(h : fA w H x) : gU w w.heap.size H x:=h.rd h.lt
def iE (x : Heap) : Nat:=x.Y.length+x.Z.length
structure Lists where
 G : List (List Int)
 O : List (List Int)
structure aZ where
 G : SV
 nC : List SV
 O : SV
 tK : List SV
@[reducible] def aZ.val (H : aZ) (_x : Lists) : Value:= .agg #[.slice H.G.a H.G.l H.G.c, .slice H.O.a H.O.l H.O.c]
def aZ.foot (H : aZ) : List Nat:=dH H.G.val H.nC++dH H.O.val H.tK
structure iC (w : World)(B : Nat)(H : aZ)(x : Lists) : Prop where
 G : jl FI w B H.G.val H.nC x.G
 O : jl FI w B H.O.val H.tK x.O
structure dZ (w : World)(H : aZ)(x : Lists) : Prop where
 G : dR FI 3 94 w H.G.val H.nC x.G
 O : dR FI 3 94 w H.O.val H.tK x.O
 iV : ∀g∈dH H.G.val H.nC,g∉dH H.O.val H.tK
theorem iC.keep {w w' : World}{B B' : Nat}{H : aZ}{x : Lists}(h : iC w B H x)(hk : ∀k,k<B→w'.heap[k]? =w.heap[k]?)(hB : B≤B') : iC w' B' H x:=
 ⟨h.G.keep hk hB,h.O.keep hk hB⟩
theorem eZ {w w' : World}{H : aZ}{x : Lists}(h : iC w w.heap.size H x)(hb : Below w.heap.size w w') : iC w' w'.heap.size H x:=h.keep hb.block hb.size
theorem aZ.aX {H : aZ}{g : Nat} : g∈H.foot↔g∈dH H.G.val H.nC∨g∈dH H.O.val H.tK:=by
 unfold aZ.foot
 simp only [List.mem_append]
theorem dZ.lt {w : World}{H : aZ}{x : Lists}(h : dZ w H x) : ∀g∈H.foot,g<w.heap.size:=by
 intro g hg
 rcases aZ.aX.1 hg with hg|hg
 ·exact h.G.lt g hg
 ·exact h.O.lt g hg
theorem dZ.keep {w w' : World}{H : aZ}{x : Lists}(h : dZ w H x)(hk : ∀g∈H.foot,w'.heap[g]? =w.heap[g]?) : dZ w' H x:=
 ⟨h.G.keep (fun g hg=>hk g (aZ.aX.2 (.inl hg))),h.O.keep (fun g hg=>hk g (aZ.aX.2 ((.inr hg)))),h.iV⟩
theorem dZ.aM {w w' : World}{H : aZ}{x : Lists}{F : List Nat}(h : dZ w H x)(hc : aY F w w')(hd : ∀g∈H.foot,g∉F) : dZ w' H x:=h.keep fun g hg=>hc.block g (h.lt g hg) (hd g hg)
theorem dZ.rd {w : World}{B : Nat}{H : aZ}{x : Lists}(h : dZ w H x)(hB : ∀g∈H.foot,g<B) : iC w B H x:=
 ⟨h.G.rd (fun g hg=>hB g (aZ.aX.2 (.inl hg))),h.O.rd (fun g hg=>hB g (aZ.aX.2 ((.inr hg))))⟩
theorem dZ.rd' {w : World}{H : aZ}{x : Lists}(h : dZ w H x) : iC w w.heap.size H x:=h.rd h.lt
def bX (x : Lists) : Nat:=jh x.G+jh x.O
structure Mem where
 E : Heap
 I : Lists
structure bP where
 E : dU
 I : aZ
@[reducible] def bP.val (H : bP) (_x : Mem) : Value:= .agg #[.slice H.E.Y.a H.E.Y.l H.E.Y.c, .slice H.E.Z.a H.E.Z.l H.E.Z.c, .slice H.I.G.a H.I.G.l H.I.G.c, .slice H.I.O.a H.I.O.l H.I.O.c]
def bP.foot (H : bP) : List Nat:=H.E.foot++H.I.foot
structure gJ (w : World)(B : Nat)(H : bP)(x : Mem) : Prop where
 E : gU w B H.E x.E
 I : iC w B H.I x.I
structure d9 (w : World)(H : bP)(x : Mem) : Prop where
 E : fA w H.E x.E
 I : dZ w H.I x.I
 iV : ∀g∈H.E.foot,g∉H.I.foot
theorem gJ.keep {w w' : World}{B B' : Nat}{H : bP}{x : Mem}(h : gJ w B H x)(hk : ∀k,k<B→w'.heap[k]? =w.heap[k]?)(hB : B≤B') : gJ w' B' H x:=
 ⟨h.E.keep hk hB,h.I.keep hk hB⟩
theorem dO {w w' : World}{H : bP}{x : Mem}(h : gJ w w.heap.size H x)(hb : Below w.heap.size w w') : gJ w' w'.heap.size H x:=h.keep hb.block hb.size
theorem bP.aX {H : bP}{g : Nat} : g∈H.foot↔g∈H.E.foot∨g∈H.I.foot:=by
 unfold bP.foot
 simp only [List.mem_append]
theorem d9.lt {w : World}{H : bP}{x : Mem}(h : d9 w H x) : ∀g∈H.foot,g<w.heap.size:=by
 intro g hg
 rcases bP.aX.1 hg with hg|hg
 ·exact h.E.lt g hg
 ·exact h.I.lt g hg
theorem d9.keep {w w' : World}{H : bP}{x : Mem}(h : d9 w H x)(hk : ∀g∈H.foot,w'.heap[g]? =w.heap[g]?) : d9 w' H x:=
 ⟨h.E.keep (fun g hg=>hk g (bP.aX.2 (.inl hg))),h.I.keep (fun g hg=>hk g (bP.aX.2 ((.inr hg)))),h.iV⟩
theorem d9.aM {w w' : World}{H : bP}{x : Mem}{F : List Nat}(h : d9 w H x)(hc : aY F w w')(hd : ∀g∈H.foot,g∉F) : d9 w' H x:=h.keep fun g hg=>hc.block g (h.lt g hg) (hd g hg)
theorem d9.rd {w : World}{B : Nat}{H : bP}{x : Mem}(h : d9 w H x)(hB : ∀g∈H.foot,g<B) : gJ w B H x:=
 ⟨h.E.rd (fun g hg=>hB g (bP.aX.2 (.inl hg))),h.I.rd (fun g hg=>hB g (bP.aX.2 ((.inr hg))))⟩
theorem d9.rd' {w : World}{H : bP}{x : Mem}(h : d9 w H x) : gJ w w.heap.size H x:=h.rd h.lt
def dx (x : Mem) : Nat:=iE x.E+bX x.I
end Go.Proofs.YtkmggglljkmjoaaGreat
