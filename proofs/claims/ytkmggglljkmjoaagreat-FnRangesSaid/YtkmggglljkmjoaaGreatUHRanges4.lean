/- m -/
import Derived.Test.YtkmggglljkmjoaaGreatUHRanges3
set_option maxRecDepth 100000
set_option maxHeartbeats 2000000
namespace Go.Proofs.YtkmggglljkmjoaaGreat
open Go.RowKit
def bG (lo hi n : Int) : Bool:=decide (lo≤n) &&decide (n≤hi)
theorem bH {lo hi n : Int} : bG lo hi n=true↔lo≤n∧n≤hi:=by simp [bG]
theorem oQ {lo hi n : Int}(h : bG lo hi n=false) : ¬ (lo≤n∧n≤hi) :=by
 intro hh;rw [bH.2 hh] at h;cases h
theorem Ah {lo hi n : Int}(h : ¬ (lo≤n∧n≤hi)) : bG lo hi n=false:=by
 cases hb : bG lo hi n
 ·rfl
 ·exact absurd (bH.1 hb) h
theorem kQ (n lo hi : Int)(w : World) : Calls Tryz.prog 154 #[.int .i64 n, .int .i64 lo, .int .i64 hi] w fun e w'=>e= .returned (.bool (bG lo hi n)) ∧w=w':=by
 by_cases h1 : lo≤n
 ·go_enter Tryz.func154,Tryz.ntmps154
  go_wp2;go_ret;exact⟨aU (by simp [bG,h1]),rfl⟩
 ·go_enter Tryz.func154,Tryz.ntmps154
  go_wp2;go_ret;exact⟨aU (Ah (by omega)).symm,rfl⟩
theorem dH (n lo hi : Int)(w : World) : Calls Tryz.prog 102 #[.int .i64 n, .int .i64 lo, .int .i64 hi] w fun e w'=>e= .returned (.bool (bG lo hi n)) ∧w=w':=by
 by_cases h1 : lo≤n
 ·go_enter Tryz.func102,Tryz.ntmps102
  go_wp2;go_ret;exact⟨aU (by simp [bG,h1]),rfl⟩
 ·go_enter Tryz.func102,Tryz.ntmps102
  go_wp2;go_ret;exact⟨aU (Ah (by omega)).symm,rfl⟩
def bS (c : Int) : Int:=if c=0 then 4 else if c=1 then 2 else if c=2 then 1 else 0
def d_ (c : Int) : Int:=if c=0 then 12 else if c=1 then 20 else if c=2 then 44 else 0
def iA (c : Int) : Int:=if c=0 then 8 else if c=1 then 16 else if c=2 then 40 else 0
def fG (n : Int) : Int:=if n<1 then -1 else if n≤8 then 0 else if n≤16 then 1 else if n≤40 then 2 else -1
def yC (s : Int) : Int:=if bG 0 23 s=true then s / 4 else -1
def yP (s : Int) : Int:=if bG 0 23 s=true then s%4 else -1
def l8 (p i : Int) : Int:=if bG 0 5 p=true∧bG 0 3 i=true then p * 4+i else -1
def gP (s c : Int) : Int:=if bG 0 23 s=true∧bG 0 2 c=true∧s%4<bS c then s / 4 * 64+8+s%4 * d_ c else -1
def iN (s c : Int) : Int:=if gP s c<0 then -1 else gP s c+4
theorem cls {c : Int}(h : bG 0 2 c=true) : c=0∨c=1∨c=2:=by
 have:=bH.1 h;omega
theorem DT {c : Int}(h : bG 0 2 c=false) : bS c=0:=by
 have:=oQ h;unfold bS;rw [if_neg (by omega),if_neg (by omega),if_neg (by omega)]
theorem J_ {c : Int}(h : bG 0 2 c=false) : d_ c=0:=by
 have:=oQ h;unfold d_;rw [if_neg (by omega),if_neg (by omega),if_neg (by omega)]
theorem DU {c : Int}(h : bG 0 2 c=false) : iA c=0:=by
 have:=oQ h;unfold iA;rw [if_neg (by omega),if_neg (by omega),if_neg (by omega)]
theorem qj (c : Int) : 0≤bS c∧bS c≤4:=by
 unfold bS
 repeat' split
 all_goals omega
theorem uQ (c : Int) : 0≤d_ c∧d_ c≤44:=by
 unfold d_
 repeat' split
 all_goals omega
theorem ql (c : Int) : 0≤iA c∧iA c≤40:=by
 unfold iA
 repeat' split
 all_goals omega
theorem qO {s c : Int}(h1 : bG 0 23 s=true)(h2 : bG 0 2 c=true)(h3 : s%4<bS c) : gP s c=s / 4 * 64+8+s%4 * d_ c:=if_pos ⟨h1,h2,h3⟩
theorem Ai {s c : Int}(h1 : bG 0 23 s=false) : gP s c= -1:=if_neg (by rw [h1];simp)
theorem Aj {s c : Int}(h1 : bG 0 2 c=false) : gP s c= -1:=if_neg (by rw [h1];simp)
theorem Ak {s c : Int}(h1 : ¬ s%4<bS c) : gP s c= -1:=if_neg (fun h=>h1 h.2.2)
theorem CY (s c : Int) : gP s c= -1∨ (8≤gP s c∧gP s c+4+iA c≤384) :=by
 by_cases h : bG 0 23 s=true∧bG 0 2 c=true∧s%4<bS c
 ·right
  obtain⟨h1,h2,h3⟩ :=h;rw [qO h1 h2 h3];have a:=bH.1 h1;rcases cls h2 with rfl|rfl|rfl
  ·simp [bS,d_,iA] at *;omega
  ·simp [bS,d_,iA] at *;omega
  ·simp [bS,d_,iA] at *;omega
 ·exact .inl (if_neg h)
theorem Am {s c : Int} : 0≤gP s c↔bG 0 23 s=true∧bG 0 2 c=true∧s%4<bS c:=by
 constructor
 ·intro h
  by_cases k : bG 0 23 s=true∧bG 0 2 c=true∧s%4<bS c
  ·exact k
  ·unfold gP at h
   rw [if_neg k] at h;omega
 ·rintro⟨h1,h2,h3⟩
  rcases CY s c with h|h
  ·rw [qO h1 h2 h3] at h
   have a:=bH.1 h1;have b:=uQ c;have d : 0≤s%4 * d_ c:=Int.mul_nonneg (by omega) b.1;omega
  ·omega
theorem M6 (n : Int)(w : World) : Calls Tryz.prog 241 #[.int .i64 n] w fun e w'=>e= .returned (.bool (bG 0 255 n)) ∧w=w':=by
 go_enter Tryz.func241,Tryz.ntmps241;go_wp2_with (go_at_call 154;refine(kQ _ _ _ _).mono ?_;rintro e w1 ⟨rfl,rfl⟩);go_ret;exact⟨rfl,rfl⟩
theorem oI (n : Int)(w : World) : Calls Tryz.prog 120 #[.int .i64 n] w fun e w'=>e= .returned (.bool (bG 0 23 n)) ∧w=w':=by
 go_enter Tryz.func120,Tryz.ntmps120;go_wp2_with (go_at_call 154;refine(kQ _ _ _ _).mono ?_;rintro e w1 ⟨rfl,rfl⟩);go_ret;exact⟨rfl,rfl⟩
theorem Ka (c : Int)(w : World) : Calls Tryz.prog 107 #[.int .i64 c] w fun e w'=>e= .returned (.int .i64 (iA c)) ∧w=w':=by
 have hix:= @sI Tryz.prog _ _ _ Tryz.underlying146 (fun _=>by kernel_rfl) (by kernel_rfl);by_cases h : bG 0 2 c=true
 ·rcases cls h with rfl|rfl|rfl<;>
   (go_enter Tryz.func107,Tryz.ntmps107;go_wp2;go_ret;exact⟨rfl,rfl⟩)
 ·have h' : bG 0 2 c=false:= (XM _).mp h
  have hn:=oQ h';have HS:=Hid.aD (DU h');have n0 : (c == 0) =false:=by simp;omega
  have n1 : (c == 1) =false:=by simp;omega
  have n2 : (c == 2) =false:=by simp;omega
  clear h;rcases(show c<0∨2<c by omega) with h1|h1
  ·have h0 : ¬ 0≤c:=by omega
   go_enter Tryz.func107,Tryz.ntmps107;go_wp2;go_ret;exact⟨cB HS.out.symm,rfl⟩
  ·have h0 : ¬ c≤2:=by omega
   go_enter Tryz.func107,Tryz.ntmps107;go_wp2;go_ret;exact⟨cB HS.out.symm,rfl⟩
theorem pE (c : Int)(w : World) : Calls Tryz.prog 180 #[.int .i64 c] w fun e w'=>e= .returned (.int .i64 (d_ c)) ∧w=w':=by
 have hix:= @sI Tryz.prog _ _ _ Tryz.underlying146 (fun _=>by kernel_rfl) (by kernel_rfl);by_cases h : bG 0 2 c=true
 ·rcases cls h with rfl|rfl|rfl<;>
   (go_enter Tryz.func180,Tryz.ntmps180;go_wp2;go_ret;exact⟨rfl,rfl⟩)
 ·have h' : bG 0 2 c=false:= (XM _).mp h
  have hn:=oQ h';have HS:=Hid.aD (J_ h');have n0 : (c == 0) =false:=by simp;omega
  have n1 : (c == 1) =false:=by simp;omega
  have n2 : (c == 2) =false:=by simp;omega
  clear h;rcases(show c<0∨2<c by omega) with h1|h1
  ·have h0 : ¬ 0≤c:=by omega
   go_enter Tryz.func180,Tryz.ntmps180;go_wp2;go_ret;exact⟨cB HS.out.symm,rfl⟩
  ·have h0 : ¬ c≤2:=by omega
   go_enter Tryz.func180,Tryz.ntmps180;go_wp2;go_ret;exact⟨cB HS.out.symm,rfl⟩
theorem mh (c : Int)(w : World) : Calls Tryz.prog 179 #[.int .i64 c] w fun e w'=>e= .returned (.int .i64 (bS c)) ∧w=w':=by
 have hix:= @sI Tryz.prog _ _ _ Tryz.underlying146 (fun _=>by kernel_rfl) (by kernel_rfl);by_cases h : bG 0 2 c=true
 ·rcases cls h with rfl|rfl|rfl<;>
   (go_enter Tryz.func179,Tryz.ntmps179;go_wp2;go_ret;exact⟨rfl,rfl⟩)
 ·have h' : bG 0 2 c=false:= (XM _).mp h
  have hn:=oQ h';have HS:=Hid.aD (DT h');have n0 : (c == 0) =false:=by simp;omega
  have n1 : (c == 1) =false:=by simp;omega
  have n2 : (c == 2) =false:=by simp;omega
  clear h;rcases(show c<0∨2<c by omega) with h1|h1
  ·have h0 : ¬ 0≤c:=by omega
   go_enter Tryz.func179,Tryz.ntmps179;go_wp2;go_ret;exact⟨cB HS.out.symm,rfl⟩
  ·have h0 : ¬ c≤2:=by omega
   go_enter Tryz.func179,Tryz.ntmps179;go_wp2;go_ret;exact⟨cB HS.out.symm,rfl⟩
theorem xX (c : Int)(w : World) : Calls Tryz.prog 28 #[.int .i64 c] w fun e w'=>e= .returned (.int .i64 (iA c)) ∧w=w':=by
 by_cases h : bG 0 2 c=true
 ·rcases cls h with rfl|rfl|rfl<;>
   (go_enter Tryz.func28,Tryz.ntmps28;go_wp2;go_ret;exact⟨rfl,rfl⟩)
 ·have h' : bG 0 2 c=false:= (XM _).mp h
  have hn:=oQ h';have HS:=Hid.aD (DU h');have n0 : (c == 0) =false:=by simp;omega
  have n1 : (c == 1) =false:=by simp;omega
  have n2 : (c == 2) =false:=by simp;omega
  clear h;rcases(show c<0∨2<c by omega) with h1|h1
  ·have h0 : ¬ 0≤c:=by omega
   go_enter Tryz.func28,Tryz.ntmps28;go_wp2;go_ret;exact⟨cB HS.out.symm,rfl⟩
  ·have h0 : ¬ c≤2:=by omega
   go_enter Tryz.func28,Tryz.ntmps28;go_wp2;go_ret;exact⟨cB HS.out.symm,rfl⟩
theorem iG (c : Int)(w : World) : Calls Tryz.prog 150 #[.int .i64 c] w fun e w'=>e= .returned (.int .i64 (bS c)) ∧w=w':=by
 by_cases h : bG 0 2 c=true
 ·rcases cls h with rfl|rfl|rfl<;>
   (go_enter Tryz.func150,Tryz.ntmps150;go_wp2;go_ret;exact⟨rfl,rfl⟩)
 ·have h' : bG 0 2 c=false:= (XM _).mp h
  have hn:=oQ h';have HS:=Hid.aD (DT h');have n0 : (c == 0) =false:=by simp;omega
  have n1 : (c == 1) =false:=by simp;omega
  have n2 : (c == 2) =false:=by simp;omega
  clear h;rcases(show c<0∨2<c by omega) with h1|h1
  ·have h0 : ¬ 0≤c:=by omega
   go_enter Tryz.func150,Tryz.ntmps150;go_wp2;go_ret;exact⟨cB HS.out.symm,rfl⟩
  ·have h0 : ¬ c≤2:=by omega
   go_enter Tryz.func150,Tryz.ntmps150;go_wp2;go_ret;exact⟨cB HS.out.symm,rfl⟩
theorem uR (s : Int)(w : World) : Calls Tryz.prog 148 #[.int .i64 s] w fun e w'=>e= .returned (.int .i64 (yC s)) ∧w=w':=by
 by_cases h : bG 0 23 s=true
 ·have hb:=bH.1 h
  obtain⟨b1,b2⟩ :=hb;have HS:=Hid.aD (show yC s=s / 4 from if_pos h);go_enter Tryz.func148,Tryz.ntmps148;go_wp2_with (go_at_call 102;refine(dH _ _ _ _).mono ?_;rintro e w1 ⟨rfl,rfl⟩);go_ret;exact⟨cB HS.out.symm,rfl⟩
 ·have HS:=Hid.aD (show yC s= -1 from if_neg h)
  have h' : bG 0 23 s=false:= (XM _).mp h;clear h;go_enter Tryz.func148,Tryz.ntmps148;go_wp2_with (go_at_call 102;refine(dH _ _ _ _).mono ?_;rintro e w1 ⟨rfl,rfl⟩);go_ret;exact⟨cB HS.out.symm,rfl⟩
theorem H8 (s : Int)(w : World) : Calls Tryz.prog 149 #[.int .i64 s] w fun e w'=>e= .returned (.int .i64 (yP s)) ∧w=w':=by
 by_cases h : bG 0 23 s=true
 ·have hb:=bH.1 h
  obtain⟨b1,b2⟩ :=hb;have HS:=Hid.aD (show yP s=s%4 from if_pos h);go_enter Tryz.func149,Tryz.ntmps149;go_wp2_with (go_at_call 102;refine(dH _ _ _ _).mono ?_;rintro e w1 ⟨rfl,rfl⟩);go_ret;exact⟨cB HS.out.symm,rfl⟩
 ·have HS:=Hid.aD (show yP s= -1 from if_neg h)
  have h' : bG 0 23 s=false:= (XM _).mp h;clear h;go_enter Tryz.func149,Tryz.ntmps149;go_wp2_with (go_at_call 102;refine(dH _ _ _ _).mono ?_;rintro e w1 ⟨rfl,rfl⟩);go_ret;exact⟨cB HS.out.symm,rfl⟩
theorem tu (s c : Int)(w : World) : Calls Tryz.prog 121 #[.int .i64 s, .int .i64 c] w fun e w'=>e= .returned (.int .i64 (gP s c)) ∧w=w':=by
 have hix:= @sI Tryz.prog _ _ _ Tryz.underlying146 (fun _=>by kernel_rfl) (by kernel_rfl);by_cases h : bG 0 23 s=true
 case neg=>
  have h' : bG 0 23 s=false:= (XM _).mp h;have HS:=Hid.aD (Ai (c:=c) h');have hn:=oQ h';rcases(show s<0∨23<s by omega) with h1|h1
  ·have h0 : ¬ 0≤s:=by omega
   go_enter Tryz.func121,Tryz.ntmps121;go_wp2;go_ret;exact⟨cB HS.out.symm,rfl⟩
  ·have h0 : ¬ s≤23:=by omega
   go_enter Tryz.func121,Tryz.ntmps121;go_wp2;go_ret;exact⟨cB HS.out.symm,rfl⟩
 obtain⟨b1,b2⟩ :=bH.1 h;by_cases hc : bG 0 2 c=true
 case neg=>
  have hc' : bG 0 2 c=false:= (XM _).mp hc;have HS:=Hid.aD (Aj (s:=s) hc');have hn:=oQ hc';have n0 : (c == 0) =false:=by simp;omega
  have n1 : (c == 1) =false:=by simp;omega
  have n2 : (c == 2) =false:=by simp;omega
  clear h hc hc';rcases(show c<0∨2<c by omega) with h1|h1
  ·have h0 : ¬ 0≤c:=by omega
   go_enter Tryz.func121,Tryz.ntmps121;go_wp2;go_ret;exact⟨cB HS.out.symm,rfl⟩
  ·have h0 : ¬ c≤2:=by omega
   go_enter Tryz.func121,Tryz.ntmps121;go_wp2;go_ret;exact⟨cB HS.out.symm,rfl⟩
 by_cases hp : s%4<bS c
 ·have HS:=Hid.aD (qO h hc hp)
  rcases cls hc with rfl|rfl|rfl<;>
   (simp [bS] at hp;clear h hc;go_enter Tryz.func121,Tryz.ntmps121;go_wp2;go_ret;exact⟨cB (by rw [HS.out];simp [d_]),rfl⟩)
 ·have HS:=Hid.aD (Ak (s:=s) (c:=c) hp)
  rcases cls hc with rfl|rfl|rfl
  ·exact absurd (show s%4<bS 0 by show s%4<4;omega) hp
  ·(simp [bS] at hp;clear h hc;go_enter Tryz.func121,Tryz.ntmps121;go_wp2;go_ret;exact⟨cB (by rw [HS.out]),rfl⟩)
  ·(simp [bS] at hp;clear h hc;go_enter Tryz.func121,Tryz.ntmps121;go_wp2;go_ret;exact⟨cB (by rw [HS.out]),rfl⟩)
theorem pK (s c : Int)(w : World) : Calls Tryz.prog 158 #[.int .i64 s, .int .i64 c] w fun e w'=>e= .returned (.int .i64 (gP s c)) ∧w=w':=by
 by_cases h : bG 0 23 s=true
 case neg=>
  have h' : bG 0 23 s=false:= (XM _).mp h;have HS:=Hid.aD (Ai (c:=c) h');have hn:=oQ h';rcases(show s<0∨23<s by omega) with h1|h1
  ·have h0 : ¬ 0≤s:=by omega
   go_enter Tryz.func158,Tryz.ntmps158;go_wp2;go_ret;exact⟨cB HS.out.symm,rfl⟩
  ·have h0 : ¬ s≤23:=by omega
   go_enter Tryz.func158,Tryz.ntmps158;go_wp2;go_ret;exact⟨cB HS.out.symm,rfl⟩
 obtain⟨b1,b2⟩ :=bH.1 h;by_cases hc : bG 0 2 c=true
 case neg=>
  have hc' : bG 0 2 c=false:= (XM _).mp hc;have HS:=Hid.aD (Aj (s:=s) hc');have hn:=oQ hc';have k1 : ¬ s / 4<0:=by omega
  have k2 : ¬ s%4≤ -1:=by omega
  have n0 : (c == 0) =false:=by simp;omega
  have n1 : (c == 1) =false:=by simp;omega
  have n2 : (c == 2) =false:=by simp;omega
  clear h hc hc';rcases(show c<0∨2<c by omega) with h1|h1
  ·have h0 : ¬ 0≤c:=by omega
   go_enter Tryz.func158,Tryz.ntmps158;go_wp2;go_ret;exact⟨cB HS.out.symm,rfl⟩
  ·have h0 : ¬ c≤2:=by omega
   go_enter Tryz.func158,Tryz.ntmps158;go_wp2;go_ret;exact⟨cB HS.out.symm,rfl⟩
 have k1 : ¬ s / 4<0:=by omega
 by_cases hp : s%4<bS c
 ·have hp' : s%4≤bS c - 1:=by omega
  have HS:=Hid.aD (qO h hc hp)
  rcases cls hc with rfl|rfl|rfl<;>
   (simp [bS] at hp hp';clear hp;clear h hc;go_enter Tryz.func158,Tryz.ntmps158;go_wp2;go_ret;exact⟨cB (by rw [HS.out];simp [d_]),rfl⟩)
 ·have hp' : ¬ s%4≤bS c - 1:=by omega
  have HS:=Hid.aD (Ak (s:=s) (c:=c) hp);rcases cls hc with rfl|rfl|rfl
  ·exact absurd (show s%4<bS 0 by show s%4<4;omega) hp
  ·(simp [bS] at hp hp';clear hp;rw [←Int.not_le] at hp';clear h hc;go_enter Tryz.func158,Tryz.ntmps158;go_wp2;go_ret;exact⟨cB (by rw [HS.out]),rfl⟩)
  ·(simp [bS] at hp hp';clear hp;rw [←Int.not_le] at hp';clear h hc;go_enter Tryz.func158,Tryz.ntmps158;go_wp2;go_ret;exact⟨cB (by rw [HS.out]),rfl⟩)
def idxOf {α : Type}(p : α→Bool)(l : List α) : Int:=match l.findIdx? p with|some i=>i|none=> -1
theorem idxOf_hit {α : Type}(p : α→Bool)(l : List α)(i : Nat)(hi : i<l.length)(h : (l.take i).any p=false)(hp : p l[i]=true) : idxOf p l=i:=by
 have hf : l.findIdx? p=some i:=by
  rw [List.findIdx?_eq_some_iff_getElem];refine⟨hi,hp,fun j hj=> ?_⟩;rw [List.any_eq_false] at h;exact h l[j] (List.mem_take_iff_getElem.2 ⟨j,by omega,rfl⟩)
 unfold idxOf;rw [hf]
theorem mF {α : Type}(p : α→Bool)(l : List α)(h : l.any p=false) : idxOf p l= -1:=by
 have hf : l.findIdx? p=none:=by
  rw [List.findIdx?_eq_none_iff];intro x hx;rw [List.any_eq_false] at h;simpa using h x hx
 unfold idxOf;rw [hf]
theorem any_take_succ {α : Type}(p : α→Bool)(l : List α)(i : Nat)(hi : i<l.length)(h : (l.take i).any p=false)(hp : p l[i]=false) : (l.take (i+1)).any p=false:=by
 rw [XZ hi,List.any_append,h];simp [hp]
theorem og {α : Type}(p : α→Bool)(l : List α) : decide (0≤idxOf p l) =l.any p:=by
 unfold idxOf;cases h : l.findIdx? p with
 |none=>
  rw [List.findIdx?_eq_none_iff] at h;have : l.any p=false:=by
   rw [List.any_eq_false];intro x hx;simp [h x hx]
  rw [this];rfl
 |some i=>
  rw [List.findIdx?_eq_some_iff_getElem] at h;obtain⟨hi,hp,_⟩ :=h;have : l.any p=true:=List.any_eq_true.2 ⟨l[i],X0 hi,hp⟩;rw [this];simp
theorem tC (w : World)(v : Value)(l : List Int)(h : dX FI w w.heap.size v l)(fid : FuncId)(cap : Array Value)(p : Int→Bool)(hent : ∀ (x : Int) (W : World), (callFunc fid (#[.int .i64 x]++cap)).run Tryz.prog W= .ok (.enter fid (#[.int .i64 x]++cap)) W)
  (hf : ∀ (x : Int) (W : World),x∈l→Below w.heap.size w W→Calls Tryz.prog fid (#[.int .i64 x]++cap) W fun e W'=>e= .returned (.bool (p x)) ∧Below W.heap.size W W') :
  Calls Tryz.prog 220 #[v, .func (.func fid) #[] cap] w fun e w'=>e= .returned (.int .i64 (idxOf p l)) ∧Below w.heap.size w w':=by
 obtain⟨A,c,hv,q1,q2,_⟩ :=id h;have kT : l.length≤9223372036854775807:=by unfold maxLen at q2;omega
 subst hv;have HF:=Hid.aD hf;clear hf q1 q2;go_enter Tryz.func220,Tryz.ntmps220;go_wp2;go_loopw [5,8] (fun _ i wr=> ∃i' : Nat,i'≤l.length∧i= .int .i64 i'∧Below w.heap.size w wr∧ (l.take i').any p=false) (fun _ i _=>l.length - (intOf i).toNat)
 case atStart=>exact⟨0,X3 _,rfl,Below.refl _ _,rfl⟩
 case round=>
  obtain⟨i,hi,rfl,hb,hno⟩ :=hrel;have HN:=Hid.aD hno;clear hno;by_cases hlt : i<l.length
  ·obtain⟨g,off,cap',he,hg,_,_,hc⟩ := (h.below hb).at_ (XL hlt)
   injection he with he1 he2 gq;clear he2;subst he1 gq;have p0 : wr.cell? ⟨g,off+i,none⟩ =some (.int .i64 l[i]) :=by simpa [FI] using hc 0 _ rfl
   clear hc h;go_wp2_with fail;refine(HF.out l[i] wr (X0 hlt) hb).mono ?_;rintro e w1 ⟨rfl,hb1⟩;have hb2:=hb.trans (hb1.mono hb.size);by_cases hp : p l[i]=true
   ·have HP:=Hid.aD (idxOf_hit p l i hlt HN.out hp)
    rw [hp];clear hp;go_wp2;go_ret;exact⟨cB HP.out.symm,hb2⟩
   ·have hp' : p l[i]=false:=by simpa using hp
    have HP:=Hid.aD (any_take_succ p l i hlt HN.out hp');rw [hp'];clear hp hp';go_wp2;go_roundw
    case rel=>exact⟨i+1,by omega,by go_num,hb2,HP.out⟩
    case measure=>simp [intOf];omega
  ·go_wp2
   go_ret;obtain rfl : i=l.length:=by omega
   exact⟨cB (mF p l (by simpa using HN.out)).symm,hb⟩
theorem uZ (w : World)(v : Value)(l : List Int)(h : dX FI w w.heap.size v l)(fid : FuncId)(cap : Array Value)(p : Int→Bool)(hent : ∀ (x : Int) (W : World), (callFunc fid (#[.int .i64 x]++cap)).run Tryz.prog W= .ok (.enter fid (#[.int .i64 x]++cap)) W)
  (hf : ∀ (x : Int) (W : World),x∈l→Below w.heap.size w W→Calls Tryz.prog fid (#[.int .i64 x]++cap) W fun e W'=>e= .returned (.bool (p x)) ∧Below W.heap.size W W') :
  Calls Tryz.prog 184 #[v, .func (.func fid) #[] cap] w fun e w'=>e= .returned (.bool (l.any p)) ∧Below w.heap.size w w':=by
 have HF:=Hid.aD hf;clear hf;go_enter Tryz.func184,Tryz.ntmps184;go_wp2_with fail;refine(tC w v l h fid cap p hent HF.out).mono ?_;rintro e w1 ⟨rfl,hb1⟩;have HP:=Hid.aD (og p l);go_wp2;go_ret;exact⟨aU HP.out,hb1⟩
theorem rW {α : Type}(p : α→Bool)(l : List α) : l.all p= !(l.any fun x=> !p x) :=by
 induction l with
 |nil=>rfl
 |cons x l ih=>simp [ih]
def lq (b : List Int) : Bool:=decide (b.length≤1000) &&b.all (bG 0 255)
def iH (b : List Int)(a : Nat) : Nat→Int
 |0=>0
 |k+1=>iH b a k * 256+b.getD (a+k) 0
def jc (b : List Int)(a k : Int) : Int:=iH b a.toNat k.toNat
theorem getD_at {α : Type}{b : List α}{d : α}{i : Nat}(h : i<b.length) : b.getD i d=b[i]:=by simp [List.getD,h]
theorem CZ {α : Type}{b : List α}{d : α}{i : Nat}(h : b.length≤i) : b.getD i d=d:=by simp [List.getD,h]
theorem byte_at {b : List Int}(hb : b.all (bG 0 255) =true)(i : Nat) : 0≤b.getD i 0∧b.getD i 0≤255:=by
 by_cases h : i<b.length
 ·rw [getD_at h]
  exact bH.1 (X5.1 hb _ (X0 h))
 ·rw [CZ (by omega)]
  omega
theorem M7 {b : List Int}(hb : b.all (bG 0 255) =true)(a k : Nat) : 0≤iH b a k∧iH b a k<256 ^ k:=by
 induction k with
 |zero=>exact⟨Int.le_refl _,by show (0 : Int) <1;omega⟩
 |succ k ih=>
  have h1:=byte_at hb (a+k);show 0≤iH b a k * 256+b.getD (a+k) 0∧iH b a k * 256+b.getD (a+k) 0<256 ^ (k+1);rw [Int.pow_succ];omega
theorem Ap {b : List Int}(hb : b.all (bG 0 255) =true)(a k : Nat)(hk : k≤6) : 0≤iH b a k∧iH b a k≤281474976710656:=by
 have h1:=M7 hb a k;have h2 : (256 : Int) ^ k≤281474976710656:=by
  rcases(show k=0∨k=1∨k=2∨k=3∨k=4∨k=5∨k=6 by omega) with rfl|rfl|rfl|rfl|rfl|rfl|rfl<;>decide
 omega
theorem tF (w : World)(v : Value)(b : List Int)(h : dX FI w w.heap.size v b) :
  Calls Tryz.prog 147 #[v] w fun e w'=>e= .returned (.bool (lq b)) ∧w=w':=by
 obtain⟨A,c,hv,q1,q2,_⟩ :=id h;have kT : b.length≤9223372036854775807:=by unfold maxLen at q2;omega
 subst hv;clear q1 q2;have HE:=Hid.aD (show lq b= (decide (b.length≤1000) &&b.all (bG 0 255)) from rfl);go_enter Tryz.func147,Tryz.ntmps147;go_wp2
 go_loop [3] (fun i=> ∃k : Nat,k≤b.length∧i= .int .i64 k∧Hid ((b.take k).all (bG 0 255) =true)) (fun i=>b.length - (intOf i).toNat)
 case atStart=>exact⟨0,X3 _,rfl,rfl⟩
 case round=>
  obtain⟨i,hi,rfl,HT⟩ :=hrel;by_cases hlt : i<b.length
  ·obtain⟨g,off,cap',he,hg,_,_,hc⟩ :=h.at_ (XL hlt)
   injection he with he1 he2 gq;clear he2;subst he1 gq;have p0 : w.cell? ⟨g,off+i,none⟩ =some (.int .i64 b[i]) :=by simpa [FI] using hc 0 _ rfl
   clear hc h;by_cases c1 : bG 0 255 b[i]=true
   ·have HN:=Hid.aD (show (b.take (i+1)).all (bG 0 255) =true by rw [XZ hlt,List.all_append,HT.out];simp [c1])
    go_wp2_with (go_at_call 102;refine(dH _ _ _ _).mono ?_;rintro e w1 ⟨rfl,rfl⟩)
    go_round
    case rel=>exact⟨i+1,by omega,by go_num,HN⟩
    case measure=>simp [intOf];omega
   ·have c1' : bG 0 255 b[i]=false:= (XM _).mp c1
    have HN:=Hid.aD (show b.all (bG 0 255) =false from List.all_eq_false.2 ⟨b[i],X0 hlt,by rw [c1'];decide⟩);clear c1;go_wp2_with (go_at_call 102;refine(dH _ _ _ _).mono ?_;rintro e w1 ⟨rfl,rfl⟩);go_ret;exact⟨aU (by rw [HE.out,HN.out];simp),rfl⟩
  ·obtain rfl : i=b.length:=by omega
   have HN:=Hid.aD (show b.all (bG 0 255) =true by have a:=HT.out;rwa [List.take_length] at a);by_cases hl : b.length≤1000
   ·go_wp2
    go_ret;exact⟨aU (by rw [HE.out,HN.out];simp;omega),rfl⟩
   ·go_wp2
    go_ret;exact⟨aU (by rw [HE.out];simp [hl];omega),rfl⟩
theorem oV (w : World)(v : Value)(b : List Int)(a k : Int)(h : dX FI w w.heap.size v b)(ha : 0≤a)(hk1 : 1≤k)(Qo : k≤7)(hl : a+k≤b.length)(hb : b.all (bG 0 255) =true) :
  Calls Tryz.prog 90 #[v, .int .i64 a, .int .i64 k] w fun e w'=>e= .returned (.int .i64 (jc b a k)) ∧w=w':=by
 obtain⟨A,c,hv,q1,q2,_⟩ :=id h;have kT : b.length≤9223372036854775807:=by unfold maxLen at q2;omega
 subst hv;obtain⟨a,rfl⟩ :=XP ha;obtain⟨k,rfl⟩ :=XP (Int.le_trans (by decide) hk1);have HB:=Hid.aD (Ap hb a);have HY:=Hid.aD (fun i=>byte_at hb i);have hl' : a+k≤b.length:=by omega
 have Tw : k≤7:=by omega
 have Tx : 1≤k:=by omega
 clear q2 ha hb hl Qo hk1;have HE:=Hid.aD (show jc b (a : Int) (k : Int) =iH b a k from rfl);have HS:=Hid.aD (fun i=> (show iH b a (i+1) =iH b a i * 256+b.getD (a+i) 0 from rfl));have H0:=Hid.aD (show iH b a 0=0 from rfl);obtain⟨g,off,cap',he,hg,_,_,_⟩ :=h.at_ (XL (show a<b.length by omega));injection he with he1 he2 gq;clear he2;subst he1 gq;have hac : ¬ c=a:=by omega
 go_enter Tryz.func90,Tryz.ntmps90;go_wp2
 go_loop [7,17] (fun n i=> ∃j : Nat,j≤k∧i= .int .i64 j∧n= .int .i64 (iH b a j)) (fun _ i=>k - (intOf i).toNat)
 case atStart=>exact⟨0,X3 _,rfl,by rw [H0.out]⟩
 case round=>
  obtain⟨i,hi,rfl,rfl⟩ :=hrel;by_cases hlt : i<k
  ·have hai : a+i<b.length:=by omega
   obtain⟨g1,off1,E5,he,hg1,_,_,hc⟩ :=h.at_ (XL hai);injection he with he1 he2 gq;injection he1 with he1;injection he1 with he1 qP;clear he2;subst he1 gq qP;obtain⟨y1,y2⟩ :=HY.out (a+i);obtain⟨x1,x2⟩ :=HB.out i (by omega);have HX:=Hid.aD (HS.out i);have e1 : b.getD (a+i) 0=b[a+i]:=getD_at hai;rw [e1] at y1 y2 HX;have p0 : w.cell? ⟨g,off+ (a+i),none⟩ =some (.int .i64 b[a+i]) :=by simpa [FI] using hc 0 _ rfl
   have p1 : w.cell? ⟨g,off+a+i,none⟩ =some (.int .i64 b[a+i]) :=by rw [Nat.add_assoc];exact p0
   generalize b[a+i]=y at p0 p1 y1 y2 HX;generalize iH b a i=x at x1 x2 HX;clear hc e1 h;go_wp2
   go_round
   case rel=>exact⟨i+1,by omega,by go_num,by rw [HX.out];first|done|go_num⟩
   case measure=>simp [intOf];omega
  ·obtain rfl : i=k:=by omega
   go_wp2;go_ret;exact⟨cB HE.out.symm,rfl⟩
theorem uS (w : World)(v : Value)(b : List Int)(a k : Int)(h : dX FI w w.heap.size v b)(ha : 0≤a)(hk1 : 1≤k)(Qo : k≤7)(hl : a+k≤b.length)(hb : b.all (bG 0 255) =true) :
  Calls Tryz.prog 109 #[v, .int .i64 a, .int .i64 k] w fun e w'=>e= .returned (.int .i64 (jc b a k)) ∧w=w':=by
 obtain⟨A,c,hv,q1,q2,_⟩ :=id h;have kT : b.length≤9223372036854775807:=by unfold maxLen at q2;omega
 subst hv;obtain⟨a,rfl⟩ :=XP ha;obtain⟨k,rfl⟩ :=XP (Int.le_trans (by decide) hk1);have HB:=Hid.aD (Ap hb a);have HY:=Hid.aD (fun i=>byte_at hb i);have hl' : a+k≤b.length:=by omega
 have Tw : k≤7:=by omega
 have Tx : 1≤k:=by omega
 clear q2 ha hb hl Qo hk1;have HE:=Hid.aD (show jc b (a : Int) (k : Int) =iH b a k from rfl);have HS:=Hid.aD (fun i=> (show iH b a (i+1) =iH b a i * 256+b.getD (a+i) 0 from rfl));have H0:=Hid.aD (show iH b a 0=0 from rfl);obtain⟨g,off,cap',he,hg,_,_,_⟩ :=h.at_ (XL (show a<b.length by omega));injection he with he1 he2 gq;clear he2;subst he1 gq;have hac : ¬ c=a:=by omega
 go_enter Tryz.func109,Tryz.ntmps109;go_wp2
 go_loop [7,8] (fun n i=> ∃j : Nat,j≤k∧i= .int .i64 j∧n= .int .i64 (iH b a j)) (fun _ i=>k - (intOf i).toNat)
 case atStart=>exact⟨0,X3 _,rfl,by rw [H0.out]⟩
 case round=>
  obtain⟨i,hi,rfl,rfl⟩ :=hrel;by_cases hlt : i<k
  ·have hai : a+i<b.length:=by omega
   obtain⟨g1,off1,E5,he,hg1,_,_,hc⟩ :=h.at_ (XL hai);injection he with he1 he2 gq;injection he1 with he1;injection he1 with he1 qP;clear he2;subst he1 gq qP;obtain⟨y1,y2⟩ :=HY.out (a+i);obtain⟨x1,x2⟩ :=HB.out i (by omega);have HX:=Hid.aD (HS.out i);have e1 : b.getD (a+i) 0=b[a+i]:=getD_at hai;rw [e1] at y1 y2 HX;have p0 : w.cell? ⟨g,off+ (a+i),none⟩ =some (.int .i64 b[a+i]) :=by simpa [FI] using hc 0 _ rfl
   have p1 : w.cell? ⟨g,off+a+i,none⟩ =some (.int .i64 b[a+i]) :=by rw [Nat.add_assoc];exact p0
   generalize b[a+i]=y at p0 p1 y1 y2 HX;generalize iH b a i=x at x1 x2 HX;clear hc e1 h;go_wp2
   go_round
   case rel=>exact⟨i+1,by omega,by go_num,by rw [HX.out];first|done|go_num⟩
   case measure=>simp [intOf];omega
  ·obtain rfl : i=k:=by omega
   go_wp2;go_ret;exact⟨cB HE.out.symm,rfl⟩
theorem C8 (w : World)(v : Value)(l : List Int)(h : dX FI w w.heap.size v l)(fid : FuncId)(cap : Array Value)(p : Int→Bool)(hent : ∀ (x : Int) (W : World), (callFunc fid (#[.int .i64 x]++cap)).run Tryz.prog W= .ok (.enter fid (#[.int .i64 x]++cap)) W)(hf : ∀ (x : Int),x∈l→Calls Tryz.prog fid (#[.int .i64 x]++cap) w fun e W'=>e= .returned (.bool (p x)) ∧w=W') :
  Calls Tryz.prog 220 #[v, .func (.func fid) #[] cap] w fun e w'=>e= .returned (.int .i64 (idxOf p l)) ∧w=w':=by
 obtain⟨A,c,hv,q1,q2,_⟩ :=id h;have kT : l.length≤9223372036854775807:=by unfold maxLen at q2;omega
 subst hv;have HF:=Hid.aD hf;clear hf q1 q2;go_enter Tryz.func220,Tryz.ntmps220;go_wp2
 go_loop [5,8] (fun _ i=> ∃i' : Nat,i'≤l.length∧i= .int .i64 i'∧Hid ((l.take i').any p=false)) (fun _ i=>l.length - (intOf i).toNat)
 case atStart=>exact⟨0,X3 _,rfl,rfl⟩
 case round=>
  obtain⟨i,hi,rfl,HN⟩ :=hrel;by_cases hlt : i<l.length
  ·obtain⟨g,off,cap',he,hg,_,_,hc⟩ :=h.at_ (XL hlt)
   injection he with he1 he2 gq;clear he2;subst he1 gq;have p0 : w.cell? ⟨g,off+i,none⟩ =some (.int .i64 l[i]) :=by simpa [FI] using hc 0 _ rfl
   clear hc h;go_wp2_with fail;refine(HF.out l[i] (X0 hlt)).mono ?_;rintro e w1 ⟨rfl,rfl⟩;by_cases hp : p l[i]=true
   ·have HP:=Hid.aD (idxOf_hit p l i hlt HN.out hp)
    rw [hp];clear hp;go_wp2;go_ret;exact⟨cB HP.out.symm,rfl⟩
   ·have hp' : p l[i]=false:=by simpa using hp
    have HP:=Hid.aD (any_take_succ p l i hlt HN.out hp');rw [hp'];clear hp hp';go_wp2
    go_round
    case rel=>exact⟨i+1,by omega,by go_num,HP⟩
    case measure=>simp [intOf];omega
  ·go_wp2
   go_ret;obtain rfl : i=l.length:=by omega
   exact⟨cB (mF p l (by simpa using HN.out)).symm,rfl⟩
theorem qG (w : World)(v : Value)(l : List Int)(h : dX FI w w.heap.size v l)(fid : FuncId)(cap : Array Value)(p : Int→Bool)(hent : ∀ (x : Int) (W : World), (callFunc fid (#[.int .i64 x]++cap)).run Tryz.prog W= .ok (.enter fid (#[.int .i64 x]++cap)) W)(hf : ∀ (x : Int),x∈l→Calls Tryz.prog fid (#[.int .i64 x]++cap) w fun e W'=>e= .returned (.bool (p x)) ∧w=W') :
  Calls Tryz.prog 184 #[v, .func (.func fid) #[] cap] w fun e w'=>e= .returned (.bool (l.any p)) ∧w=w':=by
 have HF:=Hid.aD hf;clear hf;go_enter Tryz.func184,Tryz.ntmps184;go_wp2_with fail;refine(C8 w v l h fid cap p hent HF.out).mono ?_;rintro e w1 ⟨rfl,rfl⟩;have HP:=Hid.aD (og p l);go_wp2;go_ret;exact⟨aU HP.out,rfl⟩
theorem H_ (x : Int)(w : World) : Calls Tryz.prog 242 #[.int .i64 x] w fun e w'=>e= .returned (.bool (x != 0)) ∧w=w':=by
 go_enter Tryz.func242,Tryz.ntmps242;go_wp2;go_ret;exact⟨rfl,rfl⟩
def jK (b : List Int) : Bool:=b.all fun x=>x == 0
theorem rX (w : World)(v : Value)(b : List Int)(h : dX FI w w.heap.size v b) :
  Calls Tryz.prog 228 #[v] w fun e w'=>e= .returned (.bool (jK b)) ∧w=w':=by
 have HA:=Hid.aD (show jK b= !(b.any fun x=>x != 0) by unfold jK;rw [rW];rfl);go_enter Tryz.func228,Tryz.ntmps228;go_wp2_with fail;refine(qG w _ b h 242 #[] (fun x=>x != 0) (fun _ _=>by kernel_rfl) (fun x _=>H_ x w)).mono ?_;rintro e w1 ⟨rfl,rfl⟩;go_wp2;go_ret;exact⟨aU HA.out.symm,rfl⟩
theorem E8 (x : Int)(w : World) : Calls Tryz.prog 240 #[.int .i64 x] w fun e w'=>e= .returned (.bool (!bG 0 255 x)) ∧w=w':=by
 go_enter Tryz.func240,Tryz.ntmps240;go_wp2_with (go_at_call 241;refine(M6 _ _).mono ?_;rintro e w1 ⟨rfl,rfl⟩);go_ret;exact⟨rfl,rfl⟩
theorem sJ (w : World)(v : Value)(b : List Int)(h : dX FI w w.heap.size v b) :
  Calls Tryz.prog 226 #[v] w fun e w'=>e= .returned (.bool (lq b)) ∧w=w':=by
 obtain⟨A,c,hv,q1,q2,_⟩ :=id h;have kT : b.length≤9223372036854775807:=by unfold maxLen at q2;omega
 subst hv;clear q1 q2;have HA:=Hid.aD (rW (bG 0 255) b);by_cases hl : b.length≤1000
 ·have HE:=Hid.aD (show lq b=b.all (bG 0 255) by simp [lq,hl])
  go_enter Tryz.func226,Tryz.ntmps226;go_wp2_with fail;refine(qG w _ b h 240 #[] (fun x=> !bG 0 255 x) (fun _ _=>by kernel_rfl) (fun x _=>E8 x w)).mono ?_;rintro e w1 ⟨rfl,rfl⟩;go_wp2;go_ret;exact⟨aU (by rw [HE.out,HA.out]),rfl⟩
 ·have HE:=Hid.aD (show lq b=false by simp [lq,hl])
  go_enter Tryz.func226,Tryz.ntmps226;go_wp2;go_ret;exact⟨aU HE.out.symm,rfl⟩
theorem Ia (x : Int)(w : World) : Calls Tryz.prog 227 #[.int .i64 x] w fun e w'=>e= .returned (.bool (!bG (-1) 2 x)) ∧w=w':=by
 go_enter Tryz.func227,Tryz.ntmps227;go_wp2_with (go_at_call 154;refine(kQ _ _ _ _).mono ?_;rintro e w1 ⟨rfl,rfl⟩);go_ret;exact⟨rfl,rfl⟩
def fJ (h : Heap) : Bool:= (h.Y.length == 384) && (h.Z.length == 6) &&lq h.Y&&h.Z.all (bG (-1) 2)
structure Shape (h : Heap) : Prop where
 bl : h.Y.length=384
 cl : h.Z.length=6
 sS : h.Y.all (bG 0 255) =true
 cs : ∀i, -1≤h.Z.getD i (-1) ∧h.Z.getD i (-1) ≤2
theorem jr {h : Heap}(k : fJ h=true) : Shape h:=by
 simp only [fJ,lq,X4,beq_iff_eq] at k;obtain⟨⟨⟨k1,k2⟩,k3,k4⟩,k5⟩ :=k;refine⟨k1,k2,k4,fun i=> ?_⟩;by_cases hi : i<h.Z.length
 ·rw [getD_at hi]
  exact bH.1 (X5.1 k5 _ (X0 hi))
 ·rw [CZ (by omega)]
  omega
def mY (h : Heap)(s : Int) : Int:=h.Z.getD (s / 4).toNat (-1)
def aG (h : Heap)(s : Int) : Int:=if gP s (mY h s) <0 then -1 else mY h s
def dK (h : Heap)(s : Int) : Int:=if aG h s<0 then 0 else jc h.Y (gP s (aG h s)) 4
theorem uT (w : World)(H : eX)(x : Heap)(h : iW w w.heap.size H x) :
  Calls Tryz.prog 195 #[.agg #[.slice H.Y.a H.Y.l H.Y.c, .slice H.Z.a H.Z.l H.Z.c]] w fun e w'=>e= .returned (.bool (fJ x)) ∧Below w.heap.size w w':=by
 obtain⟨⟨A1,n1,c1⟩, ⟨A2,n2,c2⟩⟩ :=H;obtain⟨bs,cs⟩ :=x;have hr1 : dX FI w w.heap.size (.slice A1 n1 c1) bs:=h.Y;have hr2 : dX FI w w.heap.size (.slice A2 n2 c2) cs:=h.Z;obtain⟨_,_,hv,q1,q2,qx⟩ :=id hr1;simp only [Ya] at hv;obtain⟨rfl,rfl,rfl⟩ :=hv;have hlt1 : bs.length≤9223372036854775807:=by unfold maxLen at q2;omega
 clear q1 q2 qx;obtain⟨_,_,hv,q1,q2,qx⟩ :=id hr2;simp only [Ya] at hv;obtain⟨rfl,rfl,rfl⟩ :=hv;have hlt2 : cs.length≤9223372036854775807:=by unfold maxLen at q2;omega
 clear q1 q2 qx h;have HE:=Hid.aD (show fJ ⟨bs,cs⟩ = ((bs.length == 384) && (cs.length == 6) &&lq bs&&cs.all (bG (-1) 2)) from rfl);show Calls Tryz.prog 195 #[.agg #[.slice A1 bs.length c1, .slice A2 cs.length c2]] _ _;by_cases k1 : (bs.length == 384) =true
 case neg=>
  have k1' : (bs.length == 384) =false:= (XM _).mp k1;clear k1;have Qp : (((bs.length : Nat) : Int) == 384) =false:=by simp at k1'⊢;omega
  have HF:=Hid.aD k1';clear k1';go_enter Tryz.func195,Tryz.ntmps195;go_wp2_with (go_at_call 226;refine(sJ _ _ bs (bY hr1 cO)).mono ?_;rintro e w1 ⟨rfl,rfl⟩);go_ret;exact⟨aU (by rw [HE.out,HF.out];simp),by repeat (first|exact Below.refl _ _|refine Below.alloc ?_ (by simp<;>omega) _|refine bA ?_ (by simp<;>omega) _ _|refine Below.drew ?_)⟩
 have Qp : (((bs.length : Nat) : Int) == 384) =true:=by simp at k1⊢;omega
 have Qq:=Hid.aD k1;clear k1;by_cases k3 : lq bs=true
 case neg=>
  have pR : lq bs=false:= (XM _).mp k3;clear k3;go_enter Tryz.func195,Tryz.ntmps195;go_wp2_with (go_at_call 226;refine(sJ _ _ bs (bY hr1 cO)).mono ?_;rintro e w1 ⟨rfl,rfl⟩);go_ret;exact⟨aU (by rw [HE.out,pR];simp),by repeat (first|exact Below.refl _ _|refine Below.alloc ?_ (by simp<;>omega) _|refine bA ?_ (by simp<;>omega) _ _|refine Below.drew ?_)⟩
 by_cases k2 : (cs.length == 6) =true
 case neg=>
  have k2' : (cs.length == 6) =false:= (XM _).mp k2;clear k2;have Qr : (((cs.length : Nat) : Int) == 6) =false:=by simp at k2'⊢;omega
  have HF:=Hid.aD k2';clear k2';go_enter Tryz.func195,Tryz.ntmps195;go_wp2_with (go_at_call 226;refine(sJ _ _ bs (bY hr1 cO)).mono ?_;rintro e w1 ⟨rfl,rfl⟩);go_ret;exact⟨aU (by rw [HE.out,HF.out];simp),by repeat (first|exact Below.refl _ _|refine Below.alloc ?_ (by simp<;>omega) _|refine bA ?_ (by simp<;>omega) _ _|refine Below.drew ?_)⟩
 have Qr : (((cs.length : Nat) : Int) == 6) =true:=by simp at k2⊢;omega
 have Ph:=Hid.aD k2;clear k2;have HA:=Hid.aD (rW (bG (-1) 2) cs);go_enter Tryz.func195,Tryz.ntmps195;go_wp2_with (go_at_call 226;refine(sJ _ _ bs (bY hr1 cO)).mono ?_;rintro e w1 ⟨rfl,rfl⟩);refine(qG _ _ cs (bY hr2 cO) 227 #[] (fun x=> !bG (-1) 2 x) (fun _ _=>by kernel_rfl) (fun x _=>Ia x _)).mono ?_;rintro e w2 ⟨rfl,rfl⟩;go_wp2;go_ret;exact⟨aU (by rw [HE.out,Qq.out,Ph.out,k3,HA.out];rfl),by repeat (first|exact Below.refl _ _|refine Below.alloc ?_ (by simp<;>omega) _|refine bA ?_ (by simp<;>omega) _ _|refine Below.drew ?_)⟩
theorem wQ (w : World)(H : eX)(x : Heap)(h : iW w w.heap.size H x) :
  Calls Tryz.prog 76 #[.agg #[.slice H.Y.a H.Y.l H.Y.c, .slice H.Z.a H.Z.l H.Z.c]] w fun e w'=>e= .returned (.bool (fJ x)) ∧Below w.heap.size w w':=by
 obtain⟨⟨A1,n1,c1⟩, ⟨A2,n2,c2⟩⟩ :=H;obtain⟨bs,cs⟩ :=x;have hr1 : dX FI w w.heap.size (.slice A1 n1 c1) bs:=h.Y;have hr2 : dX FI w w.heap.size (.slice A2 n2 c2) cs:=h.Z;obtain⟨_,_,hv,q1,q2,qx⟩ :=id hr1;simp only [Ya] at hv;obtain⟨rfl,rfl,rfl⟩ :=hv;have hlt1 : bs.length≤9223372036854775807:=by unfold maxLen at q2;omega
 clear q1 q2 qx;obtain⟨_,_,hv,q1,q2,qx⟩ :=id hr2;simp only [Ya] at hv;obtain⟨rfl,rfl,rfl⟩ :=hv;have hlt2 : cs.length≤9223372036854775807:=by unfold maxLen at q2;omega
 clear q1 q2 qx h;have HE:=Hid.aD (show fJ ⟨bs,cs⟩ = ((bs.length == 384) && (cs.length == 6) &&lq bs&&cs.all (bG (-1) 2)) from rfl);show Calls Tryz.prog 76 #[.agg #[.slice A1 bs.length c1, .slice A2 cs.length c2]] _ _;by_cases k1 : (bs.length == 384) =true
 case neg=>
  have k1' : (bs.length == 384) =false:= (XM _).mp k1;clear k1;have Qp : (((bs.length : Nat) : Int) != 384) =true:=by simp at k1'⊢;omega
  have HF:=Hid.aD k1';clear k1';go_enter Tryz.func76,Tryz.ntmps76;go_wp2_with (go_at_call 147;refine(tF _ _ bs (bY hr1 cO)).mono ?_;rintro e w1 ⟨rfl,rfl⟩);go_ret;exact⟨aU (by rw [HE.out,HF.out];simp),by repeat (first|exact Below.refl _ _|refine Below.alloc ?_ (by simp<;>omega) _|refine bA ?_ (by simp<;>omega) _ _|refine Below.drew ?_)⟩
 have Qp : (((bs.length : Nat) : Int) != 384) =false:=by simp at k1⊢;omega
 have Qq:=Hid.aD k1;clear k1;by_cases k2 : (cs.length == 6) =true
 case neg=>
  have k2' : (cs.length == 6) =false:= (XM _).mp k2;clear k2;have Qr : (((cs.length : Nat) : Int) != 6) =true:=by simp at k2'⊢;omega
  have HF:=Hid.aD k2';clear k2';go_enter Tryz.func76,Tryz.ntmps76;go_wp2_with (go_at_call 147;refine(tF _ _ bs (bY hr1 cO)).mono ?_;rintro e w1 ⟨rfl,rfl⟩);go_ret;exact⟨aU (by rw [HE.out,HF.out];simp),by repeat (first|exact Below.refl _ _|refine Below.alloc ?_ (by simp<;>omega) _|refine bA ?_ (by simp<;>omega) _ _|refine Below.drew ?_)⟩
 have Qr : (((cs.length : Nat) : Int) != 6) =false:=by simp at k2⊢;omega
 have Ph:=Hid.aD k2;clear k2;by_cases k3 : lq bs=true
 case neg=>
  have pR : lq bs=false:= (XM _).mp k3;clear k3;go_enter Tryz.func76,Tryz.ntmps76;go_wp2_with (go_at_call 147;refine(tF _ _ bs (bY hr1 cO)).mono ?_;rintro e w1 ⟨rfl,rfl⟩);go_ret;exact⟨aU (by rw [HE.out,pR];simp),by repeat (first|exact Below.refl _ _|refine Below.alloc ?_ (by simp<;>omega) _|refine bA ?_ (by simp<;>omega) _ _|refine Below.drew ?_)⟩
 have xH : cs.length=6:=by simpa using Ph.out
 have HB0 : Below w.heap.size w (w.alloc (.cells #[.slice A1 bs.length c1, .slice A2 cs.length c2] 26)) :=cO;have L6:=Hid.aD xH;clear xH;go_enter Tryz.func76,Tryz.ntmps76;go_wp2_with (go_at_call 147;refine(tF _ _ bs (bY hr1 cO)).mono ?_;rintro e w1 ⟨rfl,rfl⟩);have q1 : (w.alloc (.cells #[.slice A1 bs.length c1, .slice A2 cs.length c2] 26)).cell? ⟨w.heap.size,1,none⟩ =some (.slice A2 cs.length c2) :=by simp [go_sem]
 generalize (w.alloc (.cells #[.slice A1 bs.length c1, .slice A2 cs.length c2] 26)) =w0 at HB0 q1
 go_loop [3] (fun i=> ∃k : Nat,k≤6∧i= .int .i64 k∧Hid ((cs.take k).all (bG (-1) 2) =true)) (fun i=>6 - (intOf i).toNat)
 case atStart=>exact⟨0,X3 _,rfl,rfl⟩
 case round=>
  obtain⟨i,hi,rfl,HT⟩ :=hrel;by_cases xH : i<6
  ·have hlt : i<cs.length:=by rw [L6.out];exact xH
   obtain⟨g,off,cap',he,hg,_,_,hc⟩ := (hr2.below HB0).at_ (XL hlt);injection he with he1 he2 gq;clear he2;subst he1 gq;have p0 : w0.cell? ⟨g,off+i,none⟩ =some (.int .i64 cs[i]) :=by simpa [FI] using hc 0 _ rfl
   clear hc hr1 hr2;by_cases c1 : bG (-1) 2 cs[i]=true
   ·have HN:=Hid.aD (show (cs.take (i+1)).all (bG (-1) 2) =true by rw [XZ hlt,List.all_append,HT.out];simp [c1])
    go_wp2_with (go_at_call 102;refine(dH _ _ _ _).mono ?_;rintro e w1 ⟨rfl,rfl⟩)
    go_round
    case rel=>exact⟨i+1,by omega,by go_num,HN⟩
    case measure=>simp [intOf];omega
   ·have c1' : bG (-1) 2 cs[i]=false:= (XM _).mp c1
    have HN:=Hid.aD (show cs.all (bG (-1) 2) =false from List.all_eq_false.2 ⟨cs[i],X0 hlt,by rw [c1'];decide⟩);clear c1;go_wp2_with (go_at_call 102;refine(dH _ _ _ _).mono ?_;rintro e w1 ⟨rfl,rfl⟩);go_ret;exact⟨aU (by rw [HE.out,HN.out];simp),HB0⟩
  ·obtain rfl : i=6:=by omega
   have HN:=Hid.aD (show cs.all (bG (-1) 2) =true by have a:=HT.out;rwa [←L6.out,List.take_length] at a);go_wp2;go_ret;exact⟨aU (by rw [HE.out,HN.out,Qq.out,Ph.out,k3];rfl),HB0⟩
theorem Ib {h : Heap}(sh : Shape h){s : Int}(h1 : bG 0 23 s=true) : h.Z[(s / 4).toNat]? =some (mY h s) :=by
 have a:=bH.1 h1;have b:=sh.cl;have hlt : (s / 4).toNat<h.Z.length:=by omega
 unfold mY;rw [getD_at hlt,XL hlt]
theorem E9 {h : Heap}(sh : Shape h)(s : Int) : -1≤mY h s∧mY h s≤2:=sh.cs _
theorem lT (h : Heap)(s : Int) : (aG h s= -1∧gP s (mY h s) = -1) ∨ (aG h s=mY h s∧8≤gP s (mY h s) ∧gP s (mY h s) +4+iA (mY h s) ≤384∧bG 0 23 s=true∧bG 0 2 (mY h s) =true) :=by
 rcases CY s (mY h s) with k| ⟨k1,k2⟩
 ·left
  exact⟨if_pos (by omega),k⟩
 ·right
  have:=Am.1 (show 0≤gP s (mY h s) by omega);exact⟨if_neg (by omega),k1,k2,this.1,this.2.1⟩
theorem Ar {h : Heap}{s : Int}(h1 : bG 0 23 s=false) : aG h s= -1:=if_pos (by rw [Ai h1];decide)
theorem tH (w : World)(H : eX)(x : Heap)(s : Int)(h : iW w w.heap.size H x)(hs : fJ x=true) :
  Calls Tryz.prog 54 #[.agg #[.slice H.Y.a H.Y.l H.Y.c, .slice H.Z.a H.Z.l H.Z.c], .int .i64 s] w fun e w'=>e= .returned (.int .i64 (aG x s)) ∧Below w.heap.size w w':=by
 obtain⟨⟨A1,n1,c1⟩, ⟨A2,n2,c2⟩⟩ :=H;obtain⟨bs,cs⟩ :=x;have hr1 : dX FI w w.heap.size (.slice A1 n1 c1) bs:=h.Y;have hr2 : dX FI w w.heap.size (.slice A2 n2 c2) cs:=h.Z;obtain⟨_,_,hv,q1,q2,qx⟩ :=id hr1;simp only [Ya] at hv;obtain⟨rfl,rfl,rfl⟩ :=hv;have hlt1 : bs.length≤9223372036854775807:=by unfold maxLen at q2;omega
 clear q1 q2 qx;obtain⟨_,_,hv,q1,q2,qx⟩ :=id hr2;simp only [Ya] at hv;obtain⟨rfl,rfl,rfl⟩ :=hv;have hlt2 : cs.length≤9223372036854775807:=by unfold maxLen at q2;omega
 clear q1 q2 qx h;have sh:=jr hs;have xH:=Hid.aD sh.cl;have hcb:=E9 sh s;clear hs;show Calls Tryz.prog 54 #[.agg #[.slice A1 bs.length c1, .slice A2 cs.length c2], .int .i64 s] _ _;by_cases k1 : bG 0 23 s=true
 case neg=>
  have k1' : bG 0 23 s=false:= (XM _).mp k1;have HE:=Hid.aD (Ar (h:= ⟨bs,cs⟩) k1');clear k1 sh hcb;go_enter Tryz.func54,Tryz.ntmps54;go_wp2_with (first| (go_at_call 120;refine(oI _ _).mono ?_;rintro e w1 ⟨rfl,rfl⟩) | (go_at_call 121;refine(tu _ _ _).mono ?_;rintro e w1 ⟨rfl,rfl⟩));go_ret;exact⟨cB HE.out.symm,by repeat (first|exact Below.refl _ _|refine Below.alloc ?_ (by simp<;>omega) _|refine bA ?_ (by simp<;>omega) _ _|refine Below.drew ?_|refine below_drewN ?_ _)⟩
 obtain⟨b1,b2⟩ :=bH.1 k1;have d1 : 0≤s / 4:=by omega
 have d2 : s / 4< (cs.length : Int) :=by rw [xH.out];omega
 obtain⟨g2,off2,cap2,he,hg2,_,_,hc2⟩ :=hr2.at_ (Ib sh k1);injection he with he1 he2 gq;clear he2;subst he1 gq;have p0 : w.cell? ⟨g2,off2+ (s / 4).toNat,none⟩ =some (.int .i64 (mY ⟨bs,cs⟩ s)) :=by simpa [FI] using hc2 0 _ rfl
 clear hc2;have KC:=Hid.aD (lT ⟨bs,cs⟩ s);generalize mY ⟨bs,cs⟩ s=c at p0 hcb KC;clear sh k1 hr2;by_cases k2 : gP s c<0
 ·have HE:=Hid.aD (show aG ⟨bs,cs⟩ s= -1 by rcases KC.out with a|a<;>omega)
  have k1 : bG 0 23 s=true:=bH.2 ⟨b1,b2⟩;go_enter Tryz.func54,Tryz.ntmps54;go_wp2_with (first| (go_at_call 120;refine(oI _ _).mono ?_;rintro e w1 ⟨rfl,rfl⟩) | (go_at_call 121;refine(tu _ _ _).mono ?_;rintro e w1 ⟨rfl,rfl⟩));go_ret;exact⟨cB HE.out.symm,by repeat (first|exact Below.refl _ _|refine Below.alloc ?_ (by simp<;>omega) _|refine bA ?_ (by simp<;>omega) _ _|refine Below.drew ?_|refine below_drewN ?_ _)⟩
 ·have HE:=Hid.aD (show aG ⟨bs,cs⟩ s=c by rcases KC.out with a|a<;>omega)
  have k1 : bG 0 23 s=true:=bH.2 ⟨b1,b2⟩;go_enter Tryz.func54,Tryz.ntmps54;go_wp2_with (first| (go_at_call 120;refine(oI _ _).mono ?_;rintro e w1 ⟨rfl,rfl⟩) | (go_at_call 121;refine(tu _ _ _).mono ?_;rintro e w1 ⟨rfl,rfl⟩));go_ret;exact⟨cB HE.out.symm,by repeat (first|exact Below.refl _ _|refine Below.alloc ?_ (by simp<;>omega) _|refine bA ?_ (by simp<;>omega) _ _|refine Below.drew ?_|refine below_drewN ?_ _)⟩
theorem nk (w : World)(H : eX)(x : Heap)(s : Int)(h : iW w w.heap.size H x)(hs : fJ x=true) :
  Calls Tryz.prog 77 #[.agg #[.slice H.Y.a H.Y.l H.Y.c, .slice H.Z.a H.Z.l H.Z.c], .int .i64 s] w fun e w'=>e= .returned (.int .i64 (aG x s)) ∧Below w.heap.size w w':=by
 obtain⟨⟨A1,n1,c1⟩, ⟨A2,n2,c2⟩⟩ :=H;obtain⟨bs,cs⟩ :=x;have hr1 : dX FI w w.heap.size (.slice A1 n1 c1) bs:=h.Y;have hr2 : dX FI w w.heap.size (.slice A2 n2 c2) cs:=h.Z;obtain⟨_,_,hv,q1,q2,qx⟩ :=id hr1;simp only [Ya] at hv;obtain⟨rfl,rfl,rfl⟩ :=hv;have hlt1 : bs.length≤9223372036854775807:=by unfold maxLen at q2;omega
 clear q1 q2 qx;obtain⟨_,_,hv,q1,q2,qx⟩ :=id hr2;simp only [Ya] at hv;obtain⟨rfl,rfl,rfl⟩ :=hv;have hlt2 : cs.length≤9223372036854775807:=by unfold maxLen at q2;omega
 clear q1 q2 qx h;have sh:=jr hs;have xH:=Hid.aD sh.cl;have hcb:=E9 sh s;clear hs;show Calls Tryz.prog 77 #[.agg #[.slice A1 bs.length c1, .slice A2 cs.length c2], .int .i64 s] _ _;by_cases k1 : bG 0 23 s=true
 case neg=>
  have k1' : bG 0 23 s=false:= (XM _).mp k1;have HE:=Hid.aD (Ar (h:= ⟨bs,cs⟩) k1');clear k1 sh hcb;have kp : yC s= -1:=if_neg (by rw [k1'];decide);go_enter Tryz.func77,Tryz.ntmps77;go_wp2_with (first| (go_at_call 148;refine(uR _ _).mono ?_;rw [kp];rintro e w1 ⟨rfl,rfl⟩));go_quiet (fail);all_goals go_wp2
  all_goals go_ret
  all_goals exact⟨cB HE.out.symm,by repeat (first|exact Below.refl _ _|refine Below.alloc ?_ (by simp<;>omega) _|refine bA ?_ (by simp<;>omega) _ _|refine Below.drew ?_|refine below_drewN ?_ _)⟩
 obtain⟨b1,b2⟩ :=bH.1 k1;have d1 : 0≤s / 4:=by omega
 have d2 : s / 4< (cs.length : Int) :=by rw [xH.out];omega
 obtain⟨g2,off2,cap2,he,hg2,_,_,hc2⟩ :=hr2.at_ (Ib sh k1);injection he with he1 he2 gq;clear he2;subst he1 gq;have p0 : w.cell? ⟨g2,off2+ (s / 4).toNat,none⟩ =some (.int .i64 (mY ⟨bs,cs⟩ s)) :=by simpa [FI] using hc2 0 _ rfl
 clear hc2;have KC:=Hid.aD (lT ⟨bs,cs⟩ s);have kp : yC s=s / 4:=if_pos k1;have ki : yP s=s%4:=if_pos k1;have HG:=Hid.aD (fun c (h1 : bG 0 2 c=true) (h2 : s%4<bS c) => (show 0≤gP s c from Am.2 ⟨k1,h1,h2⟩));have HG2:=Hid.aD (fun c (h2 : ¬ s%4<bS c) =>Ak (s:=s) (c:=c) h2);have Sd:=Hid.aD (fun c (h2 : c<0) =>Aj (s:=s) (c:=c) (Ah (lo:=0) (hi:=2) (by omega)));generalize mY ⟨bs,cs⟩ s=c at p0 hcb KC;clear sh k1 hr2;obtain⟨p,hp⟩ :=XP d1;rw [hp] at kp p0 d2;simp only [X6,Int.ofNat_lt] at p0 d2;clear hp d1;have hd0 : decide ((p : Int) <0) =false:=by simp
 by_cases k2 : c<0
 ·have HE:=Hid.aD (show aG ⟨bs,cs⟩ s= -1 by rcases KC.out with a|a;exact a.1;have:=Sd.out c k2;omega)
  obtain rfl : c= -1:=by omega
  clear hcb k2 HG HG2 Sd KC;go_enter Tryz.func77,Tryz.ntmps77;go_wp2_with (first| (go_at_call 148;refine(uR _ _).mono ?_;rw [kp];rintro e w1 ⟨rfl,rfl⟩));go_quiet (fail);all_goals go_wp2
  all_goals go_ret
  all_goals exact⟨cB HE.out.symm,by repeat (first|exact Below.refl _ _|refine Below.alloc ?_ (by simp<;>omega) _|refine bA ?_ (by simp<;>omega) _ _|refine Below.drew ?_|refine below_drewN ?_ _)⟩
 have k2' : 0≤c:=by omega
 have hq1 : ∀W : World,Calls Tryz.prog 149 #[.int .i64 s] W fun e w'=>e= .returned (.int .i64 (s%4)) ∧w'=W:=fun W=> (H8 s W).mono fun e w' ⟨a,b⟩ => ⟨by rw [a,ki],b.symm⟩;have hq2 : ∀W : World,Calls Tryz.prog 150 #[.int .i64 c] W fun e w'=>e= .returned (.int .i64 (bS c)) ∧w'=W:=fun W=> (iG c W).mono fun e w' ⟨a,b⟩ => ⟨a,b.symm⟩;clear ki;by_cases k3 : bS c≤s%4
 ·have HE:=Hid.aD (show aG ⟨bs,cs⟩ s= -1 by rcases KC.out with a|a;exact a.1;have:=HG2.out c (by omega);omega)
  go_enter Tryz.func77,Tryz.ntmps77;go_wp2_with (first| (go_at_call 148;refine(uR _ _).mono ?_;rw [kp];rintro e w1 ⟨rfl,rfl⟩));go_quiet ((first| (go_at_call 149;exact Calls.quiet_of_same (hq1 _)) | (go_at_call 150;exact Calls.quiet_of_same (hq2 _))));all_goals go_wp2
  all_goals go_ret
  all_goals exact⟨cB HE.out.symm,by repeat (first|exact Below.refl _ _|refine Below.alloc ?_ (by simp<;>omega) _|refine bA ?_ (by simp<;>omega) _ _|refine Below.drew ?_|refine below_drewN ?_ _)⟩
 ·have HE:=Hid.aD (show aG ⟨bs,cs⟩ s=c by rcases KC.out with a|a;have:=HG.out c (bH.2 ⟨k2',hcb.2⟩) (by omega);omega;exact a.1)
  go_enter Tryz.func77,Tryz.ntmps77;go_wp2_with (first| (go_at_call 148;refine(uR _ _).mono ?_;rw [kp];rintro e w1 ⟨rfl,rfl⟩));go_quiet ((first| (go_at_call 149;exact Calls.quiet_of_same (hq1 _)) | (go_at_call 150;exact Calls.quiet_of_same (hq2 _))));all_goals go_wp2
  all_goals go_ret
  all_goals exact⟨cB HE.out.symm,by repeat (first|exact Below.refl _ _|refine Below.alloc ?_ (by simp<;>omega) _|refine bA ?_ (by simp<;>omega) _ _|refine Below.drew ?_|refine below_drewN ?_ _)⟩
theorem lu (w : World)(o : Obj)(g i : Nat)(hg : g<w.heap.size) : (w.alloc o).cell? ⟨g,i,none⟩ =w.cell? ⟨g,i,none⟩ :=by
 simp [World.cell?,Below.heap_alloc w o g hg]
theorem jm (w : World)(o : Obj)(g i : Nat)(hg : g<w.heap.size) : (w.alloc o).frozen? ⟨g,i,none⟩ =w.frozen? ⟨g,i,none⟩ :=by
 simp [World.frozen?,Below.heap_alloc w o g hg]
theorem aZ {w w' : World}{g i : Nat}{u : Value}(hb : Below w.heap.size w w')(hg : g<w.heap.size)(h : w.cell? ⟨g,i,none⟩ =some u) : w'.cell? ⟨g,i,none⟩ =some u:= (hb.cell (p:= ⟨g,i,none⟩) hg).trans h
def nM (h : Heap)(s : Int) : Int:=if fJ h=true then aG h s else -1
theorem M8 {P : Program}{f : FuncId}{args : Array Value}{W : World}{v : Ending}(h : Calls P f args W fun e w'=>e=v∧W=w') : Calls P f args W fun e w'=>e=v∧w'=W:=h.mono fun _ _ ⟨a,b⟩ => ⟨a,b.symm⟩
theorem yQ {h : Heap}(sh : Shape h){s : Int}(k : ¬ aG h s<0) : 0≤gP s (aG h s) ∧gP s (aG h s) +4≤h.Y.length:=by
 have a:=ql (mY h s);have b:=sh.bl;rcases lT h s with ⟨c,_⟩ | ⟨c,d,e,_⟩
 ·omega
 ·rw [c];omega
theorem Au (w : World)(H : eX)(x : Heap)(s : Int)(h : iW w w.heap.size H x) :
  Calls Tryz.prog 201 #[.agg #[.slice H.Y.a H.Y.l H.Y.c, .slice H.Z.a H.Z.l H.Z.c], .int .i64 s] w fun e w'=>e= .returned (.int .i64 (nM x s)) ∧Below w.heap.size w w':=by
 obtain⟨⟨A1,n1,c1⟩, ⟨A2,n2,c2⟩⟩ :=H;obtain⟨bs,cs⟩ :=x;have hr1 : dX FI w w.heap.size (.slice A1 n1 c1) bs:=h.Y;have hr2 : dX FI w w.heap.size (.slice A2 n2 c2) cs:=h.Z;obtain⟨_,_,hv,q1,q2,qx⟩ :=id hr1;simp only [Ya] at hv;obtain⟨rfl,rfl,rfl⟩ :=hv;have hlt1 : bs.length≤9223372036854775807:=by unfold maxLen at q2;omega
 clear q1 q2 qx;obtain⟨_,_,hv,q1,q2,qx⟩ :=id hr2;simp only [Ya] at hv;obtain⟨rfl,rfl,rfl⟩ :=hv;have hlt2 : cs.length≤9223372036854775807:=by unfold maxLen at q2;omega
 clear q1 q2 qx h;show Calls Tryz.prog 201 #[.agg #[.slice A1 bs.length c1, .slice A2 cs.length c2], .int .i64 s] _ _;by_cases hs : fJ ⟨bs,cs⟩ =true
 ·have HE:=Hid.aD (show nM ⟨bs,cs⟩ s=aG ⟨bs,cs⟩ s from if_pos hs)
  have HT:=Hid.aD hs;clear hs;go_enter Tryz.func201,Tryz.ntmps201;go_wp2_with (first| (go_at_call 195;refine(uT _ ⟨⟨A1,bs.length,c1⟩, ⟨A2,cs.length,c2⟩⟩ ⟨bs,cs⟩ ⟨bY hr1 cO,bY hr2 cO⟩).mono ?_;rw [HT.out];rintro e w1 ⟨rfl,hb1⟩;obtain⟨os1,d1,rfl⟩ :=bN hb1;clear hb1) | (go_at_call 54;refine(tH _ ⟨⟨A1,bs.length,c1⟩, ⟨A2,cs.length,c2⟩⟩ ⟨bs,cs⟩ s ⟨bY hr1 cO,bY hr2 cO⟩ HT.out).mono ?_;rintro e w2 ⟨rfl,hb2⟩;obtain⟨os2,d2,rfl⟩ :=bN hb2;clear hb2));go_ret;exact⟨cB HE.out.symm,by repeat (first|exact Below.refl _ _|refine Below.alloc ?_ (by simp<;>omega) _|refine bA ?_ (by simp<;>omega) _ _|refine Below.drew ?_|refine below_drewN ?_ _)⟩
 ·have HE:=Hid.aD (show nM ⟨bs,cs⟩ s= -1 from if_neg hs)
  have HT:=Hid.aD ((XM _).mp hs);clear hs;go_enter Tryz.func201,Tryz.ntmps201;go_wp2_with (go_at_call 195;refine(uT _ ⟨⟨A1,bs.length,c1⟩, ⟨A2,cs.length,c2⟩⟩ ⟨bs,cs⟩ ⟨bY hr1 cO,bY hr2 cO⟩).mono ?_;rw [HT.out];rintro e w1 ⟨rfl,hb1⟩;obtain⟨os1,d1,rfl⟩ :=bN hb1;clear hb1);go_ret;exact⟨cB HE.out.symm,by repeat (first|exact Below.refl _ _|refine Below.alloc ?_ (by simp<;>omega) _|refine bA ?_ (by simp<;>omega) _ _|refine Below.drew ?_|refine below_drewN ?_ _)⟩
theorem yR (w : World)(H : eX)(x : Heap)(s : Int)(h : iW w w.heap.size H x)(hs : fJ x=true) :
  Calls Tryz.prog 144 #[.agg #[.slice H.Y.a H.Y.l H.Y.c, .slice H.Z.a H.Z.l H.Z.c], .int .i64 s] w fun e w'=>e= .returned (.int .i64 (dK x s)) ∧Below w.heap.size w w':=by
 obtain⟨⟨A1,n1,c1⟩, ⟨A2,n2,c2⟩⟩ :=H;obtain⟨bs,cs⟩ :=x;have hr1 : dX FI w w.heap.size (.slice A1 n1 c1) bs:=h.Y;have hr2 : dX FI w w.heap.size (.slice A2 n2 c2) cs:=h.Z;obtain⟨_,_,hv,q1,q2,qx⟩ :=id hr1;simp only [Ya] at hv;obtain⟨rfl,rfl,rfl⟩ :=hv;have hlt1 : bs.length≤9223372036854775807:=by unfold maxLen at q2;omega
 clear q1 q2 qx;obtain⟨_,_,hv,q1,q2,qx⟩ :=id hr2;simp only [Ya] at hv;obtain⟨rfl,rfl,rfl⟩ :=hv;have hlt2 : cs.length≤9223372036854775807:=by unfold maxLen at q2;omega
 clear q1 q2 qx h;have sh:=jr hs;have HC:=Hid.aD (show nM ⟨bs,cs⟩ s=aG ⟨bs,cs⟩ s from if_pos hs);clear hs;show Calls Tryz.prog 144 #[.agg #[.slice A1 bs.length c1, .slice A2 cs.length c2], .int .i64 s] _ _;by_cases k1 : aG ⟨bs,cs⟩ s<0
 ·have HE:=Hid.aD (show dK ⟨bs,cs⟩ s=0 from if_pos k1)
  clear sh;go_enter Tryz.func144,Tryz.ntmps144;go_wp2_with (go_at_call 201;refine(Au _ ⟨⟨A1,bs.length,c1⟩, ⟨A2,cs.length,c2⟩⟩ ⟨bs,cs⟩ s ⟨bY hr1 cO,bY hr2 cO⟩).mono ?_;rw [HC.out];rintro e w1 ⟨rfl,hb1⟩;obtain⟨os1,d1,rfl⟩ :=bN hb1;clear hb1);go_ret;exact⟨cB HE.out.symm,by repeat (first|exact Below.refl _ _|refine Below.alloc ?_ (by simp<;>omega) _|refine bA ?_ (by simp<;>omega) _ _|refine Below.drew ?_|refine below_drewN ?_ _)⟩
 ·have HE:=Hid.aD (show dK ⟨bs,cs⟩ s=jc bs (gP s (aG ⟨bs,cs⟩ s)) 4 from if_neg k1)
  obtain⟨g1,g2⟩ :=yQ sh k1;simp only at g2;have hby:=sh.sS;simp only at hby;generalize aG ⟨bs,cs⟩ s=c at k1 HE HC g1 g2;clear sh;have M9 : ∀W : World,Calls Tryz.prog 121 #[.int .i64 s, .int .i64 c] W fun e w'=>e= .returned (.int .i64 (gP s c)) ∧w'=W:=fun W=>M8 (tu s c W);generalize gP s c=a at g1 g2 HE M9;go_enter Tryz.func144,Tryz.ntmps144;go_wp2_with fail;refine(Au _ ⟨⟨A1,bs.length,c1⟩, ⟨A2,cs.length,c2⟩⟩ ⟨bs,cs⟩ s ⟨bY hr1 cO,bY hr2 cO⟩).mono ?_;rw [HC.out];rintro e w1 ⟨rfl,hb1⟩;have q0 : w1.cell? ⟨w.heap.size,0,none⟩ =some (.slice A1 bs.length c1) :=aZ hb1 (by simp<;>omega) (by simp [go_sem]);have q1 : w1.cell? ⟨w.heap.size,1,none⟩ =some (.slice A2 cs.length c2) :=aZ hb1 (by simp<;>omega) (by simp [go_sem]);have hB1 : Below w.heap.size w w1:=Below.trans cO (hb1.mono (by simp));clear hb1;go_wp2;go_quiet ((first| (go_at_call 121;exact Calls.quiet_of_same (M9 _)) | (go_at_call 90;exact Calls.quiet_of_same (M8 (oV _ _ bs a 4 (bY hr1 (by first|exact hB1|exact hB1.drew|exact below_drewN hB1 _)) g1 (by decide) (by decide) g2 hby)))));go_wp2;go_ret;exact⟨cB HE.out.symm,by first|exact hB1|exact hB1.drew|exact below_drewN hB1 _⟩
theorem tJ (w : World)(H : eX)(x : Heap)(s : Int)(h : iW w w.heap.size H x)(hs : fJ x=true)(k1 : ¬ aG x s<0) :
  Calls Tryz.prog 108 #[.agg #[.slice H.Y.a H.Y.l H.Y.c, .slice H.Z.a H.Z.l H.Z.c], .int .i64 s] w fun e w'=>e= .returned (.int .i64 (dK x s)) ∧Below w.heap.size w w':=by
 obtain⟨⟨A1,n1,c1⟩, ⟨A2,n2,c2⟩⟩ :=H;obtain⟨bs,cs⟩ :=x;have hr1 : dX FI w w.heap.size (.slice A1 n1 c1) bs:=h.Y;have hr2 : dX FI w w.heap.size (.slice A2 n2 c2) cs:=h.Z;obtain⟨_,_,hv,q1,q2,qx⟩ :=id hr1;simp only [Ya] at hv;obtain⟨rfl,rfl,rfl⟩ :=hv;have hlt1 : bs.length≤9223372036854775807:=by unfold maxLen at q2;omega
 clear q1 q2 qx;obtain⟨_,_,hv,q1,q2,qx⟩ :=id hr2;simp only [Ya] at hv;obtain⟨rfl,rfl,rfl⟩ :=hv;have hlt2 : cs.length≤9223372036854775807:=by unfold maxLen at q2;omega
 clear q1 q2 qx h;have sh:=jr hs;show Calls Tryz.prog 108 #[.agg #[.slice A1 bs.length c1, .slice A2 cs.length c2], .int .i64 s] _ _;have HE:=Hid.aD (show dK ⟨bs,cs⟩ s=jc bs (gP s (aG ⟨bs,cs⟩ s)) 4 from if_neg k1);obtain⟨g1,g2⟩ :=yQ sh k1;simp only at g2;have hby:=sh.sS;simp only at hby;have M9 : ∀W : World,Calls Tryz.prog 158 #[.int .i64 s, .int .i64 (aG ⟨bs,cs⟩ s)] W fun e w'=>e= .returned (.int .i64 (gP s (aG ⟨bs,cs⟩ s))) ∧W=w':=fun W=>pK s _ W;generalize gP s (aG ⟨bs,cs⟩ s) =a at g1 g2 HE M9;clear sh k1;go_enter Tryz.func108,Tryz.ntmps108;go_wp2;have hB0 : Below w.heap.size w (w.alloc (.cells #[.slice A1 bs.length c1, .slice A2 cs.length c2] 26)) :=cO;have q0 : (w.alloc (.cells #[.slice A1 bs.length c1, .slice A2 cs.length c2] 26)).cell? ⟨w.heap.size,0,none⟩ =some (.slice A1 bs.length c1) :=by simp [go_sem]
 have q1 : (w.alloc (.cells #[.slice A1 bs.length c1, .slice A2 cs.length c2] 26)).cell? ⟨w.heap.size,1,none⟩ =some (.slice A2 cs.length c2) :=by simp [go_sem]
 have z0 : w.heap.size< (w.alloc (.cells #[.slice A1 bs.length c1, .slice A2 cs.length c2] 26)).heap.size:=by simp
 generalize (w.alloc (.cells #[.slice A1 bs.length c1, .slice A2 cs.length c2] 26)) =w0 at hB0 q0 q1 z0⊢;go_region_held3 (fun w'=>w'.cell? ⟨w.heap.size,0,none⟩ =some (.slice A1 bs.length c1) ∧w'.cell? ⟨w.heap.size,1,none⟩ =some (.slice A2 cs.length c2) ∧w.heap.size<w'.heap.size∧Below w.heap.size w w') (first| (go_keep;done) | ((try go_split_ands);refine⟨?_, ?_, ?_, ?_⟩;all_goals first|assumption|exact Below.drew (by assumption) | (simp [go_sem, *];done) |exact bA (by assumption) (by omega) _ _| (rw [size_grow];omega) | (repeat (first|exact Below.refl _ _|refine Below.alloc ?_ (by simp<;>omega) _|refine bA ?_ (by simp<;>omega) _ _|refine Below.drew ?_|refine below_drewN ?_ _);done) | (simp<;>omega))) ((first| (go_at_call 77;refine(nk _ ⟨⟨A1,bs.length,c1⟩, ⟨A2,cs.length,c2⟩⟩ ⟨bs,cs⟩ s ⟨bY hr1 (by go_split_ands;assumption),bY hr2 (by go_split_ands;assumption)⟩ hs).mono ?_;rintro e w1 ⟨rfl,hb1⟩;obtain⟨os1,d1,rfl⟩ :=bN hb1;clear hb1) | (go_at_call 158;refine(M9 _).mono ?_;rintro e w2 ⟨rfl,rfl⟩) | (go_at_call 109;refine(uS _ _ bs a 4 (bY hr1 (by go_split_ands;assumption)) g1 (by decide) (by decide) g2 hby).mono ?_;rintro e w3 ⟨rfl,rfl⟩)));go_wp2;go_ret;exact⟨cB HE.out.symm,by first|assumption| (go_split_ands;assumption)⟩
end Go.Proofs.YtkmggglljkmjoaaGreat
