/-
  Several texts in one: lemmas and contracts that the claim rests on.
-/
import Derived.Test.YtkmggglljkmjoaaUHNoReuse2
import Derived.Test.YtkmggglljkmjoaaUHNoReuse1
import Derived.Deep.QuietTactic
import Derived.BigQuiet
import Derived.Deep.LoopGhost
import Derived.Deep.RegionHeld3
import Derived.WalkSpells
import Derived.Laws.Cover3
namespace Go.Proofs.Ytkmggglljkmjoaa
open Go.RowKit
def bq (c : Int) : Int:=if c=0 then 4 else if c=1 then 2 else if c=2 then 1 else 0
def bS (c : Int) : Int:=if c=0 then 12 else if c=1 then 20 else if c=2 then 44 else 0
def iQ (c : Int) : Int:=if c=0 then 8 else if c=1 then 16 else if c=2 then 40 else 0
def dK (n : Int) : Int:=if n<1 then -1 else if n≤8 then 0 else if n≤16 then 1 else if n≤40 then 2 else -1
def oh (s : Int) : Int:=if aW 0 23 s=true then s / 4 else -1
def oI (s : Int) : Int:=if aW 0 23 s=true then s%4 else -1
def iq (p i : Int) : Int:=if aW 0 5 p=true∧aW 0 3 i=true then p * 4+i else -1
def fq (s c : Int) : Int:=if aW 0 23 s=true∧aW 0 2 c=true∧s%4<bq c then s / 4 * 64+8+s%4 * bS c else -1
def kY (s c : Int) : Int:=if fq s c<0 then -1 else fq s c+4
theorem cls {c : Int}(h : aW 0 2 c=true) : c=0∨c=1∨c=2:=by
 have:=bD.1 h
 omega
theorem tC {c : Int}(h : aW 0 2 c=false) : bq c=0:=by
 have:=jF h
 unfold bq
 rw [if_neg (by omega),if_neg (by omega),if_neg (by omega)]
theorem xO {c : Int}(h : aW 0 2 c=false) : bS c=0:=by
 have:=jF h
 unfold bS
 rw [if_neg (by omega),if_neg (by omega),if_neg (by omega)]
theorem yP {c : Int}(h : aW 0 2 c=false) : iQ c=0:=by
 have:=jF h
 unfold iQ
 rw [if_neg (by omega),if_neg (by omega),if_neg (by omega)]
theorem lF (c : Int) : 0≤bq c∧bq c≤4:=by
 unfold bq
 repeat' split
 all_goals omega
theorem l8 (c : Int) : 0≤bS c∧bS c≤44:=by
 unfold bS
 repeat' split
 all_goals omega
theorem yQ (c : Int) : 0≤iQ c∧iQ c≤40:=by
 unfold iQ
 repeat' split
 all_goals omega
theorem j5 {s c : Int}(h1 : aW 0 23 s=true)(h2 : aW 0 2 c=true)(h3 : s%4<bq c) : fq s c=s / 4 * 64+8+s%4 * bS c:=if_pos ⟨h1,h2,h3⟩
theorem qj {s c : Int}(h1 : aW 0 23 s=false) : fq s c= -1:=if_neg (by rw [h1];simp)
theorem ql {s c : Int}(h1 : aW 0 2 c=false) : fq s c= -1:=if_neg (by rw [h1];simp)
theorem qm {s c : Int}(h1 : ¬ s%4<bq c) : fq s c= -1:=if_neg (fun h=>h1 h.2.2)
theorem wu (s c : Int) : fq s c= -1∨ (8≤fq s c∧fq s c+4+iQ c≤384) :=by
 by_cases h : aW 0 23 s=true∧aW 0 2 c=true∧s%4<bq c
 ·right
  obtain⟨h1,h2,h3⟩ :=h
  rw [j5 h1 h2 h3]
  have a:=bD.1 h1
  rcases cls h2 with rfl|rfl|rfl
  ·simp [bq,bS,iQ] at *;omega
  ·simp [bq,bS,iQ] at *;omega
  ·simp [bq,bS,iQ] at *;omega
 ·exact .inl (if_neg h)
theorem qo {s c : Int} : 0≤fq s c↔aW 0 23 s=true∧aW 0 2 c=true∧s%4<bq c:=by
 constructor
 ·intro h
  by_cases k : aW 0 23 s=true∧aW 0 2 c=true∧s%4<bq c
  ·exact k
  ·unfold fq at h
   rw [if_neg k] at h
   omega
 ·rintro⟨h1,h2,h3⟩
  rcases wu s c with h|h
  ·rw [j5 h1 h2 h3] at h
   have a:=bD.1 h1
   have b:=l8 c
   have d : 0≤s%4 * bS c:=Int.mul_nonneg (by omega) b.1
   omega
  ·omega
end Go.Proofs.Ytkmggglljkmjoaa
namespace Go.Proofs.Ytkmggglljkmjoaa
open Go.RowKit
theorem yR (n : Int)(w : World) : Calls Try.prog 94 #[.int .i64 n] w fun e w'=>e= .returned (.bool (aW 1 7 n)) ∧w=w':=by
 go_enter Try.func94,Try.ntmps94
 go_wp2_with (go_at_call 36;refine(gW _ _ _ _).mono ?_;rintro e w1 ⟨rfl,rfl⟩)
 go_ret
 exact⟨rfl,rfl⟩
theorem zn (n : Int)(w : World) : Calls Try.prog 97 #[.int .i64 n] w fun e w'=>e= .returned (.bool (aW 0 255 n)) ∧w=w':=by
 go_enter Try.func97,Try.ntmps97
 go_wp2_with (go_at_call 36;refine(gW _ _ _ _).mono ?_;rintro e w1 ⟨rfl,rfl⟩)
 go_ret
 exact⟨rfl,rfl⟩
theorem lG (n : Int)(w : World) : Calls Try.prog 48 #[.int .i64 n] w fun e w'=>e= .returned (.bool (aW 0 2 n)) ∧w=w':=by
 go_enter Try.func48,Try.ntmps48
 go_wp2_with (go_at_call 36;refine(gW _ _ _ _).mono ?_;rintro e w1 ⟨rfl,rfl⟩)
 go_ret
 exact⟨rfl,rfl⟩
theorem iV (n : Int)(w : World) : Calls Try.prog 64 #[.int .i64 n] w fun e w'=>e= .returned (.bool (aW 0 23 n)) ∧w=w':=by
 go_enter Try.func64,Try.ntmps64
 go_wp2_with (go_at_call 36;refine(gW _ _ _ _).mono ?_;rintro e w1 ⟨rfl,rfl⟩)
 go_ret
 exact⟨rfl,rfl⟩
set_option maxHeartbeats 1000000 in
theorem xP (c : Int)(w : World) : Calls Try.prog 45 #[.int .i64 c] w fun e w'=>e= .returned (.int .i64 (iQ c)) ∧w=w':=by
 have hix:= @kP Try.prog _ _ _ Try.underlying84 (fun _=>by kernel_rfl) (by kernel_rfl)
 by_cases h : aW 0 2 c=true
 ·rcases cls h with rfl|rfl|rfl<;>
   (go_enter Try.func45,Try.ntmps45;go_wp2;go_ret;exact⟨rfl,rfl⟩)
 ·have h' : aW 0 2 c=false:= (Bool.not_eq_true _).mp h
  have hn:=jF h'
  have HS:=Hid.aD (yP h')
  have n0 : (c == 0) =false:=by simp;omega
  have n1 : (c == 1) =false:=by simp;omega
  have n2 : (c == 2) =false:=by simp;omega
  clear h
  rcases(show c<0∨2<c by omega) with h1|h1
  ·have h0 : ¬ 0≤c:=by omega
   go_enter Try.func45,Try.ntmps45
   go_wp2
   go_ret
   exact⟨bU HS.out.symm,rfl⟩
  ·have h0 : ¬ c≤2:=by omega
   go_enter Try.func45,Try.ntmps45
   go_wp2
   go_ret
   exact⟨bU HS.out.symm,rfl⟩
set_option maxHeartbeats 1000000 in
theorem jA (c : Int)(w : World) : Calls Try.prog 89 #[.int .i64 c] w fun e w'=>e= .returned (.int .i64 (bS c)) ∧w=w':=by
 have hix:= @kP Try.prog _ _ _ Try.underlying84 (fun _=>by kernel_rfl) (by kernel_rfl)
 by_cases h : aW 0 2 c=true
 ·rcases cls h with rfl|rfl|rfl<;>
   (go_enter Try.func89,Try.ntmps89;go_wp2;go_ret;exact⟨rfl,rfl⟩)
 ·have h' : aW 0 2 c=false:= (Bool.not_eq_true _).mp h
  have hn:=jF h'
  have HS:=Hid.aD (xO h')
  have n0 : (c == 0) =false:=by simp;omega
  have n1 : (c == 1) =false:=by simp;omega
  have n2 : (c == 2) =false:=by simp;omega
  clear h
  rcases(show c<0∨2<c by omega) with h1|h1
  ·have h0 : ¬ 0≤c:=by omega
   go_enter Try.func89,Try.ntmps89
   go_wp2
   go_ret
   exact⟨bU HS.out.symm,rfl⟩
  ·have h0 : ¬ c≤2:=by omega
   go_enter Try.func89,Try.ntmps89
   go_wp2
   go_ret
   exact⟨bU HS.out.symm,rfl⟩
set_option maxHeartbeats 1000000 in
theorem gX (c : Int)(w : World) : Calls Try.prog 73 #[.int .i64 c] w fun e w'=>e= .returned (.int .i64 (bq c)) ∧w=w':=by
 have hix:= @kP Try.prog _ _ _ Try.underlying84 (fun _=>by kernel_rfl) (by kernel_rfl)
 by_cases h : aW 0 2 c=true
 ·rcases cls h with rfl|rfl|rfl<;>
   (go_enter Try.func73,Try.ntmps73;go_wp2;go_ret;exact⟨rfl,rfl⟩)
 ·have h' : aW 0 2 c=false:= (Bool.not_eq_true _).mp h
  have hn:=jF h'
  have HS:=Hid.aD (tC h')
  have n0 : (c == 0) =false:=by simp;omega
  have n1 : (c == 1) =false:=by simp;omega
  have n2 : (c == 2) =false:=by simp;omega
  clear h
  rcases(show c<0∨2<c by omega) with h1|h1
  ·have h0 : ¬ 0≤c:=by omega
   go_enter Try.func73,Try.ntmps73
   go_wp2
   go_ret
   exact⟨bU HS.out.symm,rfl⟩
  ·have h0 : ¬ c≤2:=by omega
   go_enter Try.func73,Try.ntmps73
   go_wp2
   go_ret
   exact⟨bU HS.out.symm,rfl⟩
set_option maxHeartbeats 1000000 in
theorem d9 (c : Int)(w : World) : Calls Try.prog 79 #[.int .i64 c] w fun e w'=>e= .returned (.int .i64 (bq c)) ∧w=w':=by
 by_cases h : aW 0 2 c=true
 ·rcases cls h with rfl|rfl|rfl<;>
   (go_enter Try.func79,Try.ntmps79;go_wp2;go_ret;exact⟨rfl,rfl⟩)
 ·have h' : aW 0 2 c=false:= (Bool.not_eq_true _).mp h
  have hn:=jF h'
  have HS:=Hid.aD (tC h')
  have n0 : (c == 0) =false:=by simp;omega
  have n1 : (c == 1) =false:=by simp;omega
  have n2 : (c == 2) =false:=by simp;omega
  clear h
  rcases(show c<0∨2<c by omega) with h1|h1
  ·have h0 : ¬ 0≤c:=by omega
   go_enter Try.func79,Try.ntmps79
   go_wp2
   go_ret
   exact⟨bU HS.out.symm,rfl⟩
  ·have h0 : ¬ c≤2:=by omega
   go_enter Try.func79,Try.ntmps79
   go_wp2
   go_ret
   exact⟨bU HS.out.symm,rfl⟩
set_option maxHeartbeats 1000000 in
theorem l9 (s : Int)(w : World) : Calls Try.prog 81 #[.int .i64 s] w fun e w'=>e= .returned (.int .i64 (oh s)) ∧w=w':=by
 by_cases h : aW 0 23 s=true
 ·have hb:=bD.1 h
  obtain⟨b1,b2⟩ :=hb
  have HS:=Hid.aD (show oh s=s / 4 from if_pos h)
  go_enter Try.func81,Try.ntmps81
  go_wp2_with (go_at_call 26;refine(g_ _ _ _ _).mono ?_;rintro e w1 ⟨rfl,rfl⟩)
  go_ret
  exact⟨bU HS.out.symm,rfl⟩
 ·have HS:=Hid.aD (show oh s= -1 from if_neg h)
  have h' : aW 0 23 s=false:= (Bool.not_eq_true _).mp h
  clear h
  go_enter Try.func81,Try.ntmps81
  go_wp2_with (go_at_call 26;refine(g_ _ _ _ _).mono ?_;rintro e w1 ⟨rfl,rfl⟩)
  go_ret
  exact⟨bU HS.out.symm,rfl⟩
set_option maxHeartbeats 1000000 in
theorem wB (s : Int)(w : World) : Calls Try.prog 82 #[.int .i64 s] w fun e w'=>e= .returned (.int .i64 (oI s)) ∧w=w':=by
 by_cases h : aW 0 23 s=true
 ·have hb:=bD.1 h
  obtain⟨b1,b2⟩ :=hb
  have HS:=Hid.aD (show oI s=s%4 from if_pos h)
  go_enter Try.func82,Try.ntmps82
  go_wp2_with (go_at_call 26;refine(g_ _ _ _ _).mono ?_;rintro e w1 ⟨rfl,rfl⟩)
  go_ret
  exact⟨bU HS.out.symm,rfl⟩
 ·have HS:=Hid.aD (show oI s= -1 from if_neg h)
  have h' : aW 0 23 s=false:= (Bool.not_eq_true _).mp h
  clear h
  go_enter Try.func82,Try.ntmps82
  go_wp2_with (go_at_call 26;refine(g_ _ _ _ _).mono ?_;rintro e w1 ⟨rfl,rfl⟩)
  go_ret
  exact⟨bU HS.out.symm,rfl⟩
set_option maxHeartbeats 2000000 in
theorem ku (s c : Int)(w : World) : Calls Try.prog 69 #[.int .i64 s, .int .i64 c] w fun e w'=>e= .returned (.int .i64 (fq s c)) ∧w=w':=by
 have hix:= @kP Try.prog _ _ _ Try.underlying84 (fun _=>by kernel_rfl) (by kernel_rfl)
 by_cases h : aW 0 23 s=true
 case neg=>
  have h' : aW 0 23 s=false:= (Bool.not_eq_true _).mp h
  have HS:=Hid.aD (qj (c:=c) h')
  have hn:=jF h'
  rcases(show s<0∨23<s by omega) with h1|h1
  ·have h0 : ¬ 0≤s:=by omega
   go_enter Try.func69,Try.ntmps69
   go_wp2
   go_ret
   exact⟨bU HS.out.symm,rfl⟩
  ·have h0 : ¬ s≤23:=by omega
   go_enter Try.func69,Try.ntmps69
   go_wp2
   go_ret
   exact⟨bU HS.out.symm,rfl⟩
 obtain⟨b1,b2⟩ :=bD.1 h
 by_cases hc : aW 0 2 c=true
 case neg=>
  have hc' : aW 0 2 c=false:= (Bool.not_eq_true _).mp hc
  have HS:=Hid.aD (ql (s:=s) hc')
  have hn:=jF hc'
  have n0 : (c == 0) =false:=by simp;omega
  have n1 : (c == 1) =false:=by simp;omega
  have n2 : (c == 2) =false:=by simp;omega
  clear h hc hc'
  rcases(show c<0∨2<c by omega) with h1|h1
  ·have h0 : ¬ 0≤c:=by omega
   go_enter Try.func69,Try.ntmps69
   go_wp2
   go_ret
   exact⟨bU HS.out.symm,rfl⟩
  ·have h0 : ¬ c≤2:=by omega
   go_enter Try.func69,Try.ntmps69
   go_wp2
   go_ret
   exact⟨bU HS.out.symm,rfl⟩
 by_cases hp : s%4<bq c
 ·have HS:=Hid.aD (j5 h hc hp)
  rcases cls hc with rfl|rfl|rfl<;>
   (simp [bq] at hp;clear h hc;go_enter Try.func69,Try.ntmps69;go_wp2;go_ret;exact⟨bU (by rw [HS.out];simp [bS]),rfl⟩)
 ·have HS:=Hid.aD (qm (s:=s) (c:=c) hp)
  rcases cls hc with rfl|rfl|rfl
  ·exact absurd (show s%4<bq 0 by show s%4<4;omega) hp
  ·(simp [bq] at hp;clear h hc;go_enter Try.func69,Try.ntmps69;go_wp2;go_ret;exact⟨bU (by rw [HS.out]),rfl⟩)
  ·(simp [bq] at hp;clear h hc;go_enter Try.func69,Try.ntmps69;go_wp2;go_ret;exact⟨bU (by rw [HS.out]),rfl⟩)
set_option maxHeartbeats 2000000 in
theorem mM (s c : Int)(w : World) : Calls Try.prog 77 #[.int .i64 s, .int .i64 c] w fun e w'=>e= .returned (.int .i64 (fq s c)) ∧w=w':=by
 by_cases h : aW 0 23 s=true
 case neg=>
  have h' : aW 0 23 s=false:= (Bool.not_eq_true _).mp h
  have HS:=Hid.aD (qj (c:=c) h')
  have hn:=jF h'
  rcases(show s<0∨23<s by omega) with h1|h1
  ·have h0 : ¬ 0≤s:=by omega
   go_enter Try.func77,Try.ntmps77
   go_wp2
   go_ret
   exact⟨bU HS.out.symm,rfl⟩
  ·have h0 : ¬ s≤23:=by omega
   go_enter Try.func77,Try.ntmps77
   go_wp2
   go_ret
   exact⟨bU HS.out.symm,rfl⟩
 obtain⟨b1,b2⟩ :=bD.1 h
 by_cases hc : aW 0 2 c=true
 case neg=>
  have hc' : aW 0 2 c=false:= (Bool.not_eq_true _).mp hc
  have HS:=Hid.aD (ql (s:=s) hc')
  have hn:=jF hc'
  have k1 : ¬ s / 4<0:=by omega
  have k2 : ¬ s%4≤ -1:=by omega
  have n0 : (c == 0) =false:=by simp;omega
  have n1 : (c == 1) =false:=by simp;omega
  have n2 : (c == 2) =false:=by simp;omega
  clear h hc hc'
  rcases(show c<0∨2<c by omega) with h1|h1
  ·have h0 : ¬ 0≤c:=by omega
   go_enter Try.func77,Try.ntmps77
   go_wp2
   go_ret
   exact⟨bU HS.out.symm,rfl⟩
  ·have h0 : ¬ c≤2:=by omega
   go_enter Try.func77,Try.ntmps77
   go_wp2
   go_ret
   exact⟨bU HS.out.symm,rfl⟩
 have k1 : ¬ s / 4<0:=by omega
 by_cases hp : s%4<bq c
 ·have hp' : s%4≤bq c - 1:=by omega
  have HS:=Hid.aD (j5 h hc hp)
  rcases cls hc with rfl|rfl|rfl<;>
   (simp [bq] at hp hp';clear hp;clear h hc;go_enter Try.func77,Try.ntmps77;go_wp2;go_ret;exact⟨bU (by rw [HS.out];simp [bS]),rfl⟩)
 ·have hp' : ¬ s%4≤bq c - 1:=by omega
  have HS:=Hid.aD (qm (s:=s) (c:=c) hp)
  rcases cls hc with rfl|rfl|rfl
  ·exact absurd (show s%4<bq 0 by show s%4<4;omega) hp
  ·(simp [bq] at hp hp';clear hp;rw [←Int.not_le] at hp';clear h hc;go_enter Try.func77,Try.ntmps77;go_wp2;go_ret;exact⟨bU (by rw [HS.out]),rfl⟩)
  ·(simp [bq] at hp hp';clear hp;rw [←Int.not_le] at hp';clear h hc;go_enter Try.func77,Try.ntmps77;go_wp2;go_ret;exact⟨bU (by rw [HS.out]),rfl⟩)
end Go.Proofs.Ytkmggglljkmjoaa
namespace Go.Proofs.Ytkmggglljkmjoaa
open Go.RowKit
def idxOf {α : Type}(p : α→Bool)(l : List α) : Int:=match l.findIdx? p with|some i=>i|none=> -1
theorem idxOf_hit {α : Type}(p : α→Bool)(l : List α)(i : Nat)(hi : i<l.length)(h : (l.take i).any p=false)(hp : p l[i]=true) : idxOf p l=i:=by
 have hf : l.findIdx? p=some i:=by
  rw [List.findIdx?_eq_some_iff_getElem]
  refine⟨hi,hp,fun j hj=> ?_⟩
  rw [List.any_eq_false] at h
  exact h l[j] (List.mem_take_iff_getElem.2 ⟨j,by omega,rfl⟩)
 unfold idxOf
 rw [hf]
theorem oJ {α : Type}(p : α→Bool)(l : List α)(h : l.any p=false) : idxOf p l= -1:=by
 have hf : l.findIdx? p=none:=by
  rw [List.findIdx?_eq_none_iff]
  intro x hx
  rw [List.any_eq_false] at h
  simpa using h x hx
 unfold idxOf
 rw [hf]
theorem any_take_succ {α : Type}(p : α→Bool)(l : List α)(i : Nat)(hi : i<l.length)(h : (l.take i).any p=false)(hp : p l[i]=false) : (l.take (i+1)).any p=false:=by
 rw [List.take_succ_eq_append_getElem hi,List.any_append,h]
 simp [hp]
theorem rZ {α : Type}(p : α→Bool)(l : List α) : decide (0≤idxOf p l) =l.any p:=by
 unfold idxOf
 cases h : l.findIdx? p with
 |none=>
  rw [List.findIdx?_eq_none_iff] at h
  have : l.any p=false:=by
   rw [List.any_eq_false]
   intro x hx
   simp [h x hx]
  rw [this]
  rfl
 |some i=>
  rw [List.findIdx?_eq_some_iff_getElem] at h
  obtain⟨hi,hp,_⟩ :=h
  have : l.any p=true:=List.any_eq_true.2 ⟨l[i],List.getElem_mem hi,hp⟩
  rw [this]
  simp
theorem nU {α : Type}(p : α→Bool)(l : List α) : l.all p= !(l.any fun x=> !p x) :=by
 induction l with
 |nil=>rfl
 |cons x l ih=>simp [ih]
def gY (b : List Int) : Bool:=decide (b.length≤1000) &&b.all (aW 0 255)
def eB (b : List Int)(a : Nat) : Nat→Int
 |0=>0
 |k+1=>eB b a k * 256+b.getD (a+k) 0
def fu (b : List Int)(a k : Int) : Int:=eB b a.toNat k.toNat
theorem getD_at {α : Type}{b : List α}{d : α}{i : Nat}(h : i<b.length) : b.getD i d=b[i]:=by simp [List.getD,h]
theorem r9 {α : Type}{b : List α}{d : α}{i : Nat}(h : b.length≤i) : b.getD i d=d:=by simp [List.getD,h]
theorem byte_at {b : List Int}(hb : b.all (aW 0 255) =true)(i : Nat) : 0≤b.getD i 0∧b.getD i 0≤255:=by
 by_cases h : i<b.length
 ·rw [getD_at h]
  exact bD.1 (List.all_eq_true.1 hb _ (List.getElem_mem h))
 ·rw [r9 (by omega)]
  omega
theorem zo {b : List Int}(hb : b.all (aW 0 255) =true)(a k : Nat) : 0≤eB b a k∧eB b a k<256 ^ k:=by
 induction k with
 |zero=>exact⟨Int.le_refl _,by show (0 : Int) <1;omega⟩
 |succ k ih=>
  have h1:=byte_at hb (a+k)
  show 0≤eB b a k * 256+b.getD (a+k) 0∧eB b a k * 256+b.getD (a+k) 0<256 ^ (k+1)
  rw [Int.pow_succ]
  omega
theorem qp {b : List Int}(hb : b.all (aW 0 255) =true)(a k : Nat)(hk : k≤6) : 0≤eB b a k∧eB b a k≤281474976710656:=by
 have h1:=zo hb a k
 have h2 : (256 : Int) ^ k≤281474976710656:=by
  rcases(show k=0∨k=1∨k=2∨k=3∨k=4∨k=5∨k=6 by omega) with rfl|rfl|rfl|rfl|rfl|rfl|rfl<;>decide
 omega
set_option maxHeartbeats 400000 in
theorem lH (w : World)(v : Value)(b : List Int)(h : dz FI w w.heap.size v b) :
  Calls Try.prog 78 #[v] w fun e w'=>e= .returned (.bool (gY b)) ∧w=w':=by
 obtain⟨A,c,hv,q1,q2,_⟩ :=id h
 have kR : b.length≤9223372036854775807:=by unfold maxLen at q2;omega
 subst hv
 clear q1 q2
 have HE:=Hid.aD (show gY b= (decide (b.length≤1000) &&b.all (aW 0 255)) from rfl)
 go_enter Try.func78,Try.ntmps78
 go_wp2
 go_loop [3] (fun i=> ∃k : Nat,k≤b.length∧i= .int .i64 k∧Hid ((b.take k).all (aW 0 255) =true)) (fun i=>b.length - (intOf i).toNat)
 case atStart=>exact⟨0,Nat.zero_le _,rfl,rfl⟩
 case round=>
  obtain⟨i,hi,rfl,HT⟩ :=hrel
  by_cases hlt : i<b.length
  ·obtain⟨g,off,cap',he,hg,_,_,hc⟩ :=h.at_ (List.getElem?_eq_getElem hlt)
   injection he with he1 he2 gq
   clear he2
   subst he1 gq
   have p0 : w.cell? ⟨g,off+i,none⟩ =some (.int .i64 b[i]) :=by simpa [FI] using hc 0 _ rfl
   clear hc h
   by_cases c1 : aW 0 255 b[i]=true
   ·have HN:=Hid.aD (show (b.take (i+1)).all (aW 0 255) =true by rw [List.take_succ_eq_append_getElem hlt,List.all_append,HT.out];simp [c1])
    go_wp2_with (go_at_call 26;refine(g_ _ _ _ _).mono ?_;rintro e w1 ⟨rfl,rfl⟩)
    go_round
    case rel=>exact⟨i+1,by omega,by go_num,HN⟩
    case measure=>simp [intOf];omega
   ·have c1' : aW 0 255 b[i]=false:= (Bool.not_eq_true _).mp c1
    have HN:=Hid.aD (show b.all (aW 0 255) =false from List.all_eq_false.2 ⟨b[i],List.getElem_mem hlt,by rw [c1'];decide⟩)
    clear c1
    go_wp2_with (go_at_call 26;refine(g_ _ _ _ _).mono ?_;rintro e w1 ⟨rfl,rfl⟩)
    go_ret
    exact⟨aS (by rw [HE.out,HN.out];simp),rfl⟩
  ·obtain rfl : i=b.length:=by omega
   have HN:=Hid.aD (show b.all (aW 0 255) =true by have a:=HT.out;rwa [List.take_length] at a)
   by_cases hl : b.length≤1000
   ·go_wp2
    go_ret
    exact⟨aS (by rw [HE.out,HN.out];simp;omega),rfl⟩
   ·go_wp2
    go_ret
    exact⟨aS (by rw [HE.out];simp [hl];omega),rfl⟩
set_option maxHeartbeats 1000000 in
theorem jq (w : World)(v : Value)(b : List Int)(a k : Int)(h : dz FI w w.heap.size v b)(ha : 0≤a)(hk1 : 1≤k)(BP : k≤7)(hl : a+k≤b.length)(hb : b.all (aW 0 255) =true) :
  Calls Try.prog 68 #[v, .int .i64 a, .int .i64 k] w fun e w'=>e= .returned (.int .i64 (fu b a k)) ∧w=w':=by
 obtain⟨A,c,hv,q1,q2,_⟩ :=id h
 have kR : b.length≤9223372036854775807:=by unfold maxLen at q2;omega
 subst hv
 obtain⟨a,rfl⟩ :=Int.eq_ofNat_of_zero_le ha
 obtain⟨k,rfl⟩ :=Int.eq_ofNat_of_zero_le (Int.le_trans (by decide) hk1)
 have HB:=Hid.aD (qp hb a)
 have HY:=Hid.aD (fun i=>byte_at hb i)
 have hl' : a+k≤b.length:=by omega
 have Ef : k≤7:=by omega
 have Eh : 1≤k:=by omega
 clear q2 ha hb hl BP hk1
 have HE:=Hid.aD (show fu b (a : Int) (k : Int) =eB b a k from rfl)
 have HS:=Hid.aD (fun i=> (show eB b a (i+1) =eB b a i * 256+b.getD (a+i) 0 from rfl))
 have H0:=Hid.aD (show eB b a 0=0 from rfl)
 obtain⟨g,off,cap',he,hg,_,_,_⟩ :=h.at_ (List.getElem?_eq_getElem (show a<b.length by omega))
 injection he with he1 he2 gq
 clear he2
 subst he1 gq
 have hac : ¬ c=a:=by omega
 go_enter Try.func68,Try.ntmps68
 go_wp2
 go_loop [7,17] (fun n i=> ∃j : Nat,j≤k∧i= .int .i64 j∧n= .int .i64 (eB b a j)) (fun _ i=>k - (intOf i).toNat)
 case atStart=>exact⟨0,Nat.zero_le _,rfl,by rw [H0.out]⟩
 case round=>
  obtain⟨i,hi,rfl,rfl⟩ :=hrel
  by_cases hlt : i<k
  ·have hai : a+i<b.length:=by omega
   obtain⟨g1,off1,wC,he,hg1,_,_,hc⟩ :=h.at_ (List.getElem?_eq_getElem hai)
   injection he with he1 he2 gq
   injection he1 with he1
   injection he1 with he1 lI
   clear he2
   subst he1 gq lI
   obtain⟨y1,y2⟩ :=HY.out (a+i)
   obtain⟨x1,x2⟩ :=HB.out i (by omega)
   have HX:=Hid.aD (HS.out i)
   have e1 : b.getD (a+i) 0=b[a+i]:=getD_at hai
   rw [e1] at y1 y2 HX
   have p0 : w.cell? ⟨g,off+ (a+i),none⟩ =some (.int .i64 b[a+i]) :=by simpa [FI] using hc 0 _ rfl
   have p1 : w.cell? ⟨g,off+a+i,none⟩ =some (.int .i64 b[a+i]) :=by rw [Nat.add_assoc];exact p0
   generalize b[a+i]=y at p0 p1 y1 y2 HX
   generalize eB b a i=x at x1 x2 HX
   clear hc e1 h
   go_wp2
   go_round
   case rel=>exact⟨i+1,by omega,by go_num,by rw [HX.out];first|done|go_num⟩
   case measure=>simp [intOf];omega
  ·obtain rfl : i=k:=by omega
   go_wp2
   go_ret
   exact⟨bU HE.out.symm,rfl⟩
set_option maxHeartbeats 1000000 in
theorem mg (w : World)(v : Value)(b : List Int)(a k : Int)(h : dz FI w w.heap.size v b)(ha : 0≤a)(hk1 : 1≤k)(BP : k≤7)(hl : a+k≤b.length)(hb : b.all (aW 0 255) =true) :
  Calls Try.prog 76 #[v, .int .i64 a, .int .i64 k] w fun e w'=>e= .returned (.int .i64 (fu b a k)) ∧w=w':=by
 obtain⟨A,c,hv,q1,q2,_⟩ :=id h
 have kR : b.length≤9223372036854775807:=by unfold maxLen at q2;omega
 subst hv
 obtain⟨a,rfl⟩ :=Int.eq_ofNat_of_zero_le ha
 obtain⟨k,rfl⟩ :=Int.eq_ofNat_of_zero_le (Int.le_trans (by decide) hk1)
 have HB:=Hid.aD (qp hb a)
 have HY:=Hid.aD (fun i=>byte_at hb i)
 have hl' : a+k≤b.length:=by omega
 have Ef : k≤7:=by omega
 have Eh : 1≤k:=by omega
 clear q2 ha hb hl BP hk1
 have HE:=Hid.aD (show fu b (a : Int) (k : Int) =eB b a k from rfl)
 have HS:=Hid.aD (fun i=> (show eB b a (i+1) =eB b a i * 256+b.getD (a+i) 0 from rfl))
 have H0:=Hid.aD (show eB b a 0=0 from rfl)
 obtain⟨g,off,cap',he,hg,_,_,_⟩ :=h.at_ (List.getElem?_eq_getElem (show a<b.length by omega))
 injection he with he1 he2 gq
 clear he2
 subst he1 gq
 have hac : ¬ c=a:=by omega
 go_enter Try.func76,Try.ntmps76
 go_wp2
 go_loop [7,8] (fun n i=> ∃j : Nat,j≤k∧i= .int .i64 j∧n= .int .i64 (eB b a j)) (fun _ i=>k - (intOf i).toNat)
 case atStart=>exact⟨0,Nat.zero_le _,rfl,by rw [H0.out]⟩
 case round=>
  obtain⟨i,hi,rfl,rfl⟩ :=hrel
  by_cases hlt : i<k
  ·have hai : a+i<b.length:=by omega
   obtain⟨g1,off1,wC,he,hg1,_,_,hc⟩ :=h.at_ (List.getElem?_eq_getElem hai)
   injection he with he1 he2 gq
   injection he1 with he1
   injection he1 with he1 lI
   clear he2
   subst he1 gq lI
   obtain⟨y1,y2⟩ :=HY.out (a+i)
   obtain⟨x1,x2⟩ :=HB.out i (by omega)
   have HX:=Hid.aD (HS.out i)
   have e1 : b.getD (a+i) 0=b[a+i]:=getD_at hai
   rw [e1] at y1 y2 HX
   have p0 : w.cell? ⟨g,off+ (a+i),none⟩ =some (.int .i64 b[a+i]) :=by simpa [FI] using hc 0 _ rfl
   have p1 : w.cell? ⟨g,off+a+i,none⟩ =some (.int .i64 b[a+i]) :=by rw [Nat.add_assoc];exact p0
   generalize b[a+i]=y at p0 p1 y1 y2 HX
   generalize eB b a i=x at x1 x2 HX
   clear hc e1 h
   go_wp2
   go_round
   case rel=>exact⟨i+1,by omega,by go_num,by rw [HX.out];first|done|go_num⟩
   case measure=>simp [intOf];omega
  ·obtain rfl : i=k:=by omega
   go_wp2
   go_ret
   exact⟨bU HE.out.symm,rfl⟩
end Go.Proofs.Ytkmggglljkmjoaa
namespace Go.Proofs.Ytkmggglljkmjoaa
open Go.RowKit
def eP : Nat→Int→List Int
 |0,_=> []
 |k+1,n=>eP k (n / 256) ++ [n%256]
theorem u_ (k : Nat)(n : Int) : eP (k+1) n=eP k (n / 256) ++ [n%256]:=rfl
theorem f_ : ∀ (k : Nat) (n : Int), (eP k n).length=k
 |0,_=>rfl
 |k+1,n=>by simp [eP,f_ k]
theorem yt : ∀ (k : Nat) (n : Int) (j : Nat),j<k→ (eP k n)[k - 1 - j]? =some (n / 256 ^ j%256)
 |0,_,j,h=>absurd h (by omega)
 |k+1,n,0,_=>by
  have:=f_ k (n / 256)
  simp [eP,this]
 |k+1,n,j+1,h=>by
  have hl:=f_ k (n / 256)
  have ih:=yt k (n / 256) j (by omega)
  have e : k+1 - 1 - (j+1) =k - 1 - j:=by omega
  rw [e]
  unfold eP
  rw [List.getElem?_append_left (by omega),ih,Int.ediv_ediv_of_nonneg (by omega),Int.pow_succ',Int.mul_comm]
theorem qW : ∀ (k : Nat) (n : Int), (eP k n).all (aW 0 255) =true
 |0,_=>rfl
 |k+1,n=>by
  have h1 : 0≤n%256:=Int.emod_nonneg _ (by omega)
  have h2 : n%256<256:=Int.emod_lt_of_pos _ (by omega)
  unfold eP
  rw [List.all_append,qW k]
  simp [aW]
  omega
def putAt (b : List Int)(a : Nat)(ds : List Int) : List Int:=b.take a++ds++b.drop (a+ds.length)
def backTo (b : List Int)(a : Nat)(ds : List Int)(i : Nat) : List Int:=b.take (a+i) ++ds.drop i++b.drop (a+ds.length)
theorem j6 {b : List Int}{a : Nat}{ds : List Int}(h : a+ds.length≤b.length) : (putAt b a ds).length=b.length:=by
 simp [putAt]
 omega
theorem zq (b : List Int)(a : Nat) : putAt b a []=b:=by simp [putAt]
theorem yS {b : List Int}{a : Nat}{ds : List Int} : backTo b a ds ds.length=b:=by simp [backTo]
theorem xQ {b : List Int}{a : Nat}{ds : List Int} : backTo b a ds 0=putAt b a ds:=by simp [backTo,putAt]
theorem yT {b : List Int}{a : Nat}{ds : List Int}{i : Nat}(h : a+ds.length≤b.length)(hi : i≤ds.length) : (backTo b a ds i).length=b.length:=by
 simp [backTo]
 omega
theorem yU {b : List Int}{a : Nat}{ds : List Int}{i : Nat}(h : a+ds.length≤b.length)(hi : i<ds.length) : (putAt b a (ds.take i)).set (a+i) ds[i]=putAt b a (ds.take (i+1)) :=by
 have hl : (ds.take i).length=i:=by simp;omega
 have hl2 : (ds.take (i+1)).length=i+1:=by simp;omega
 have hd : b.drop (a+i) =b[a+i]'(by omega) ::b.drop (a+ (i+1)) := (List.drop_eq_getElem_cons (by omega))
 unfold putAt
 rw [hl,hl2,hd,List.set_append_right _ _ (by simp;omega)]
 have e : a+i - (b.take a++ds.take i).length=0:=by simp;omega
 rw [e,List.set_cons_zero]
 have ht:=List.take_succ_eq_append_getElem hi
 rw [ht]
 simp only [List.append_assoc,List.cons_append,List.nil_append]
theorem xR {b : List Int}{a : Nat}{ds : List Int}{i : Nat}(h : a+ds.length≤b.length)(hi : i<ds.length) : (backTo b a ds (i+1)).set (a+i) ds[i]=backTo b a ds i:=by
 have hd : ds.drop i=ds[i]::ds.drop (i+1) :=List.drop_eq_getElem_cons hi
 have ht : b.take (a+ (i+1)) =b.take (a+i) ++ [b[a+i]'(by omega)]:=by rw [←Nat.add_assoc,List.take_succ_eq_append_getElem (by omega)]
 unfold backTo
 rw [hd,ht,List.append_assoc,List.append_assoc,List.set_append_right _ _ (by simp;omega)]
 have e : a+i - (b.take (a+i)).length=0:=by simp;omega
 rw [e]
 simp only [List.append_assoc,List.cons_append,List.nil_append,List.set_cons_zero]
theorem qw {p : Int→Bool}{b : List Int}{a : Nat}{ds : List Int}(hb : b.all p=true)(hd : ds.all p=true) : (putAt b a ds).all p=true:=by
 unfold putAt
 rw [List.all_append,List.all_append,hd,Bool.and_true,Bool.and_eq_true]
 exact⟨List.all_eq_true.2 fun x hx=>List.all_eq_true.1 hb x (List.mem_of_mem_take hx),List.all_eq_true.2 fun x hx=>List.all_eq_true.1 hb x (List.mem_of_mem_drop hx)⟩
theorem pW {b : List Int}{a : Nat}{ds : List Int}{i : Nat}(h : a+ds.length≤b.length)(hi : i<a∨a+ds.length≤i) : (putAt b a ds)[i]? =b[i]? :=by
 unfold putAt
 rcases hi with hi|hi
 ·rw [List.append_assoc,List.getElem?_append_left (by simp;omega),List.getElem?_take_of_lt hi]
 ·rw [List.getElem?_append_right (by simp;omega),List.getElem?_drop]
  congr 1
  simp
  omega
theorem qy {b : List Int}{a : Nat}{ds : List Int}{j : Nat}(h : a+ds.length≤b.length)(hj : j<ds.length) : (putAt b a ds)[a+j]? =ds[j]? :=by
 unfold putAt
 rw [List.append_assoc,List.getElem?_append_right (by simp;omega),List.getElem?_append_left (by simp;omega)]
 congr 1
 simp
 omega
theorem oP : ∀ (k : Nat) (n : Int) (b : List Int) (a : Nat), (∀j<k,b.getD (a+j) 0= (eP k n).getD j 0) →0≤n→n<256 ^ k→eB b a k=n
 |0,n,_,_,_,h0,h1=>by simp at h1;simp [eB];omega
 |k+1,n,b,a,hb,h0,h1=>by
  have hl:=f_ k (n / 256)
  have h3 : n / 256<256 ^ k:=by
   rw [Int.pow_succ] at h1
   exact Int.ediv_lt_of_lt_mul (by omega) h1
  have ih:=oP k (n / 256) b a (fun j hj=>by
   rw [hb j (by omega),u_]
   simp [List.getD,List.getElem?_append_left,hl,hj]) (Int.ediv_nonneg h0 (by omega)) h3
  have hk:=hb k (by omega)
  have e : (eP (k+1) n).getD k 0=n%256:=by
   rw [u_]
   simp [List.getD,hl]
  rw [e] at hk
  simp only [eB]
  rw [ih,hk]
  omega
end Go.Proofs.Ytkmggglljkmjoaa
