/-
  Places in the arena: the contracts of the small functions.
-/
import Derived.Test.YtodbkbolpcbooaaT
import Derived.Test.YtodbkbolpcbooaaL
import Derived.Deep.QuietTactic
import Derived.BigQuiet
import Derived.Deep.LoopGhost
import Derived.Deep.RegionHeld3
import Derived.Test.YtodbkbolpcbooaaN
import Derived.Test.YtodbkbolpcbooaaA
import Derived.WalkSpells
import Derived.Laws.Cover3
import Derived.Test.YtodbkbolpcbooaaPL
import Derived.Test.YtodbkbolpcbooaaM
namespace Go.Proofs.Ytodbkbolpcbooaa
open Go.RowKit
theorem isWidth_ct (n : Int) (w : World) : Calls Try.prog 114 #[.int .i64 n] w fun e w' => e = .returned (.bool (inB 1 7 n)) ∧ w = w' := by
  go_enter Try.func114, Try.ntmps114
  go_wp2_with (go_at_call 72; refine (within_ct _ _ _ _).mono ?_; rintro e w1 ⟨rfl, rfl⟩)
  go_ret
  exact ⟨rfl, rfl⟩
theorem isByte_ct (n : Int) (w : World) : Calls Try.prog 250 #[.int .i64 n] w fun e w' => e = .returned (.bool (inB 0 255 n)) ∧ w = w' := by
  go_enter Try.func250, Try.ntmps250
  go_wp2_with (go_at_call 72; refine (within_ct _ _ _ _).mono ?_; rintro e w1 ⟨rfl, rfl⟩)
  go_ret
  exact ⟨rfl, rfl⟩
theorem isClass_ct (n : Int) (w : World) : Calls Try.prog 252 #[.int .i64 n] w fun e w' => e = .returned (.bool (inB 0 2 n)) ∧ w = w' := by
  go_enter Try.func252, Try.ntmps252
  go_wp2_with (go_at_call 72; refine (within_ct _ _ _ _).mono ?_; rintro e w1 ⟨rfl, rfl⟩)
  go_ret
  exact ⟨rfl, rfl⟩
theorem isSlot_ct (n : Int) (w : World) : Calls Try.prog 231 #[.int .i64 n] w fun e w' => e = .returned (.bool (inB 0 23 n)) ∧ w = w' := by
  go_enter Try.func231, Try.ntmps231
  go_wp2_with (go_at_call 72; refine (within_ct _ _ _ _).mono ?_; rintro e w1 ⟨rfl, rfl⟩)
  go_ret
  exact ⟨rfl, rfl⟩
set_option maxHeartbeats 1000000 in
theorem SizeOf_impl (c : Int) (w : World) : Calls Try.prog 234 #[.int .i64 c] w fun e w' => e = .returned (.int .i64 (sizeOfC c)) ∧ w = w' := by
  have hix := @run_index_one Try.prog _ _ _ Try.underlying259 (fun _ => by kernel_rfl) (by kernel_rfl)
  by_cases h : inB 0 2 c = true
  · rcases cls h with rfl | rfl | rfl <;>
      (go_enter Try.func234, Try.ntmps234; go_wp2; go_ret; exact ⟨rfl, rfl⟩)
  · have h' : inB 0 2 c = false := (Bool.not_eq_true _).mp h
    have hn := inB_not h'
    have HS := Hid.mk_ (sizeOfC_no h')
    have n0 : (c == 0) = false := by simp; omega
    have n1 : (c == 1) = false := by simp; omega
    have n2 : (c == 2) = false := by simp; omega
    clear h
    rcases (show c < 0 ∨ 2 < c by omega) with h1 | h1
    · have h0 : ¬ 0 ≤ c := by omega
      go_enter Try.func234, Try.ntmps234
      go_wp2
      go_ret
      exact ⟨ret_i64 HS.out.symm, rfl⟩
    · have h0 : ¬ c ≤ 2 := by omega
      go_enter Try.func234, Try.ntmps234
      go_wp2
      go_ret
      exact ⟨ret_i64 HS.out.symm, rfl⟩
set_option maxHeartbeats 1000000 in
theorem StrideOf_impl (c : Int) (w : World) : Calls Try.prog 254 #[.int .i64 c] w fun e w' => e = .returned (.int .i64 (strideOf c)) ∧ w = w' := by
  have hix := @run_index_one Try.prog _ _ _ Try.underlying259 (fun _ => by kernel_rfl) (by kernel_rfl)
  by_cases h : inB 0 2 c = true
  · rcases cls h with rfl | rfl | rfl <;>
      (go_enter Try.func254, Try.ntmps254; go_wp2; go_ret; exact ⟨rfl, rfl⟩)
  · have h' : inB 0 2 c = false := (Bool.not_eq_true _).mp h
    have hn := inB_not h'
    have HS := Hid.mk_ (strideOf_no h')
    have n0 : (c == 0) = false := by simp; omega
    have n1 : (c == 1) = false := by simp; omega
    have n2 : (c == 2) = false := by simp; omega
    clear h
    rcases (show c < 0 ∨ 2 < c by omega) with h1 | h1
    · have h0 : ¬ 0 ≤ c := by omega
      go_enter Try.func254, Try.ntmps254
      go_wp2
      go_ret
      exact ⟨ret_i64 HS.out.symm, rfl⟩
    · have h0 : ¬ c ≤ 2 := by omega
      go_enter Try.func254, Try.ntmps254
      go_wp2
      go_ret
      exact ⟨ret_i64 HS.out.symm, rfl⟩
set_option maxHeartbeats 1000000 in
theorem PerPage_impl (c : Int) (w : World) : Calls Try.prog 253 #[.int .i64 c] w fun e w' => e = .returned (.int .i64 (perPage c)) ∧ w = w' := by
  have hix := @run_index_one Try.prog _ _ _ Try.underlying259 (fun _ => by kernel_rfl) (by kernel_rfl)
  by_cases h : inB 0 2 c = true
  · rcases cls h with rfl | rfl | rfl <;>
      (go_enter Try.func253, Try.ntmps253; go_wp2; go_ret; exact ⟨rfl, rfl⟩)
  · have h' : inB 0 2 c = false := (Bool.not_eq_true _).mp h
    have hn := inB_not h'
    have HS := Hid.mk_ (perPage_no h')
    have n0 : (c == 0) = false := by simp; omega
    have n1 : (c == 1) = false := by simp; omega
    have n2 : (c == 2) = false := by simp; omega
    clear h
    rcases (show c < 0 ∨ 2 < c by omega) with h1 | h1
    · have h0 : ¬ 0 ≤ c := by omega
      go_enter Try.func253, Try.ntmps253
      go_wp2
      go_ret
      exact ⟨ret_i64 HS.out.symm, rfl⟩
    · have h0 : ¬ c ≤ 2 := by omega
      go_enter Try.func253, Try.ntmps253
      go_wp2
      go_ret
      exact ⟨ret_i64 HS.out.symm, rfl⟩
set_option maxHeartbeats 1000000 in
theorem SizeOf_spec (c : Int) (w : World) : Calls Try.prog 184 #[.int .i64 c] w fun e w' => e = .returned (.int .i64 (sizeOfC c)) ∧ w = w' := by
  by_cases h : inB 0 2 c = true
  · rcases cls h with rfl | rfl | rfl <;>
      (go_enter Try.func184, Try.ntmps184; go_wp2; go_ret; exact ⟨rfl, rfl⟩)
  · have h' : inB 0 2 c = false := (Bool.not_eq_true _).mp h
    have hn := inB_not h'
    have HS := Hid.mk_ (sizeOfC_no h')
    have n0 : (c == 0) = false := by simp; omega
    have n1 : (c == 1) = false := by simp; omega
    have n2 : (c == 2) = false := by simp; omega
    clear h
    rcases (show c < 0 ∨ 2 < c by omega) with h1 | h1
    · have h0 : ¬ 0 ≤ c := by omega
      go_enter Try.func184, Try.ntmps184
      go_wp2
      go_ret
      exact ⟨ret_i64 HS.out.symm, rfl⟩
    · have h0 : ¬ c ≤ 2 := by omega
      go_enter Try.func184, Try.ntmps184
      go_wp2
      go_ret
      exact ⟨ret_i64 HS.out.symm, rfl⟩
set_option maxHeartbeats 1000000 in
theorem StrideOf_spec (c : Int) (w : World) : Calls Try.prog 248 #[.int .i64 c] w fun e w' => e = .returned (.int .i64 (strideOf c)) ∧ w = w' := by
  by_cases h : inB 0 2 c = true
  · rcases cls h with rfl | rfl | rfl <;>
      (go_enter Try.func248, Try.ntmps248; go_wp2; go_ret; exact ⟨rfl, rfl⟩)
  · have h' : inB 0 2 c = false := (Bool.not_eq_true _).mp h
    have hn := inB_not h'
    have HS := Hid.mk_ (strideOf_no h')
    have n0 : (c == 0) = false := by simp; omega
    have n1 : (c == 1) = false := by simp; omega
    have n2 : (c == 2) = false := by simp; omega
    clear h
    rcases (show c < 0 ∨ 2 < c by omega) with h1 | h1
    · have h0 : ¬ 0 ≤ c := by omega
      go_enter Try.func248, Try.ntmps248
      go_wp2
      go_ret
      exact ⟨ret_i64 HS.out.symm, rfl⟩
    · have h0 : ¬ c ≤ 2 := by omega
      go_enter Try.func248, Try.ntmps248
      go_wp2
      go_ret
      exact ⟨ret_i64 HS.out.symm, rfl⟩
set_option maxHeartbeats 1000000 in
theorem PerPage_spec (c : Int) (w : World) : Calls Try.prog 226 #[.int .i64 c] w fun e w' => e = .returned (.int .i64 (perPage c)) ∧ w = w' := by
  by_cases h : inB 0 2 c = true
  · rcases cls h with rfl | rfl | rfl <;>
      (go_enter Try.func226, Try.ntmps226; go_wp2; go_ret; exact ⟨rfl, rfl⟩)
  · have h' : inB 0 2 c = false := (Bool.not_eq_true _).mp h
    have hn := inB_not h'
    have HS := Hid.mk_ (perPage_no h')
    have n0 : (c == 0) = false := by simp; omega
    have n1 : (c == 1) = false := by simp; omega
    have n2 : (c == 2) = false := by simp; omega
    clear h
    rcases (show c < 0 ∨ 2 < c by omega) with h1 | h1
    · have h0 : ¬ 0 ≤ c := by omega
      go_enter Try.func226, Try.ntmps226
      go_wp2
      go_ret
      exact ⟨ret_i64 HS.out.symm, rfl⟩
    · have h0 : ¬ c ≤ 2 := by omega
      go_enter Try.func226, Try.ntmps226
      go_wp2
      go_ret
      exact ⟨ret_i64 HS.out.symm, rfl⟩
set_option maxHeartbeats 1000000 in
theorem PageOf_spec (s : Int) (w : World) : Calls Try.prog 224 #[.int .i64 s] w fun e w' => e = .returned (.int .i64 (pageOfS s)) ∧ w = w' := by
  by_cases h : inB 0 23 s = true
  · have hb := inB_iff.1 h
    obtain ⟨b1, b2⟩ := hb
    have HS := Hid.mk_ (show pageOfS s = s / 4 from if_pos h)
    go_enter Try.func224, Try.ntmps224
    go_wp2_with (go_at_call 73; refine (l1In_ct _ _ _ _).mono ?_; rintro e w1 ⟨rfl, rfl⟩)
    go_ret
    exact ⟨ret_i64 HS.out.symm, rfl⟩
  · have HS := Hid.mk_ (show pageOfS s = -1 from if_neg h)
    have h' : inB 0 23 s = false := (Bool.not_eq_true _).mp h
    clear h
    go_enter Try.func224, Try.ntmps224
    go_wp2_with (go_at_call 73; refine (l1In_ct _ _ _ _).mono ?_; rintro e w1 ⟨rfl, rfl⟩)
    go_ret
    exact ⟨ret_i64 HS.out.symm, rfl⟩
set_option maxHeartbeats 1000000 in
theorem IndexOf_spec (s : Int) (w : World) : Calls Try.prog 225 #[.int .i64 s] w fun e w' => e = .returned (.int .i64 (indexOfS s)) ∧ w = w' := by
  by_cases h : inB 0 23 s = true
  · have hb := inB_iff.1 h
    obtain ⟨b1, b2⟩ := hb
    have HS := Hid.mk_ (show indexOfS s = s % 4 from if_pos h)
    go_enter Try.func225, Try.ntmps225
    go_wp2_with (go_at_call 73; refine (l1In_ct _ _ _ _).mono ?_; rintro e w1 ⟨rfl, rfl⟩)
    go_ret
    exact ⟨ret_i64 HS.out.symm, rfl⟩
  · have HS := Hid.mk_ (show indexOfS s = -1 from if_neg h)
    have h' : inB 0 23 s = false := (Bool.not_eq_true _).mp h
    clear h
    go_enter Try.func225, Try.ntmps225
    go_wp2_with (go_at_call 73; refine (l1In_ct _ _ _ _).mono ?_; rintro e w1 ⟨rfl, rfl⟩)
    go_ret
    exact ⟨ret_i64 HS.out.symm, rfl⟩
set_option maxHeartbeats 2000000 in
theorem GenAt_impl (s c : Int) (w : World) : Calls Try.prog 232 #[.int .i64 s, .int .i64 c] w fun e w' => e = .returned (.int .i64 (genAt s c)) ∧ w = w' := by
  have hix := @run_index_one Try.prog _ _ _ Try.underlying259 (fun _ => by kernel_rfl) (by kernel_rfl)
  by_cases h : inB 0 23 s = true
  case neg =>
    have h' : inB 0 23 s = false := (Bool.not_eq_true _).mp h
    have HS := Hid.mk_ (genAt_no1 (c := c) h')
    have hn := inB_not h'
    rcases (show s < 0 ∨ 23 < s by omega) with h1 | h1
    · have h0 : ¬ 0 ≤ s := by omega
      go_enter Try.func232, Try.ntmps232
      go_wp2
      go_ret
      exact ⟨ret_i64 HS.out.symm, rfl⟩
    · have h0 : ¬ s ≤ 23 := by omega
      go_enter Try.func232, Try.ntmps232
      go_wp2
      go_ret
      exact ⟨ret_i64 HS.out.symm, rfl⟩
  obtain ⟨b1, b2⟩ := inB_iff.1 h
  by_cases hc : inB 0 2 c = true
  case neg =>
    have hc' : inB 0 2 c = false := (Bool.not_eq_true _).mp hc
    have HS := Hid.mk_ (genAt_no2 (s := s) hc')
    have hn := inB_not hc'
    have n0 : (c == 0) = false := by simp; omega
    have n1 : (c == 1) = false := by simp; omega
    have n2 : (c == 2) = false := by simp; omega
    clear h hc hc'
    rcases (show c < 0 ∨ 2 < c by omega) with h1 | h1
    · have h0 : ¬ 0 ≤ c := by omega
      go_enter Try.func232, Try.ntmps232
      go_wp2
      go_ret
      exact ⟨ret_i64 HS.out.symm, rfl⟩
    · have h0 : ¬ c ≤ 2 := by omega
      go_enter Try.func232, Try.ntmps232
      go_wp2
      go_ret
      exact ⟨ret_i64 HS.out.symm, rfl⟩
  by_cases hp : s % 4 < perPage c
  · have HS := Hid.mk_ (genAt_yes h hc hp)
    rcases cls hc with rfl | rfl | rfl <;>
      (simp [perPage] at hp; clear h hc; go_enter Try.func232, Try.ntmps232; go_wp2; go_ret; exact ⟨ret_i64 (by rw [HS.out]; simp [strideOf]), rfl⟩)
  · have HS := Hid.mk_ (genAt_no3 (s := s) (c := c) hp)
    rcases cls hc with rfl | rfl | rfl
    · exact absurd (show s % 4 < perPage 0 by show s % 4 < 4; omega) hp
    · (simp [perPage] at hp; clear h hc; go_enter Try.func232, Try.ntmps232; go_wp2; go_ret; exact ⟨ret_i64 (by rw [HS.out]), rfl⟩)
    · (simp [perPage] at hp; clear h hc; go_enter Try.func232, Try.ntmps232; go_wp2; go_ret; exact ⟨ret_i64 (by rw [HS.out]), rfl⟩)
set_option maxHeartbeats 2000000 in
theorem GenAt_spec (s c : Int) (w : World) : Calls Try.prog 227 #[.int .i64 s, .int .i64 c] w fun e w' => e = .returned (.int .i64 (genAt s c)) ∧ w = w' := by
  by_cases h : inB 0 23 s = true
  case neg =>
    have h' : inB 0 23 s = false := (Bool.not_eq_true _).mp h
    have HS := Hid.mk_ (genAt_no1 (c := c) h')
    have hn := inB_not h'
    rcases (show s < 0 ∨ 23 < s by omega) with h1 | h1
    · have h0 : ¬ 0 ≤ s := by omega
      go_enter Try.func227, Try.ntmps227
      go_wp2
      go_ret
      exact ⟨ret_i64 HS.out.symm, rfl⟩
    · have h0 : ¬ s ≤ 23 := by omega
      go_enter Try.func227, Try.ntmps227
      go_wp2
      go_ret
      exact ⟨ret_i64 HS.out.symm, rfl⟩
  obtain ⟨b1, b2⟩ := inB_iff.1 h
  by_cases hc : inB 0 2 c = true
  case neg =>
    have hc' : inB 0 2 c = false := (Bool.not_eq_true _).mp hc
    have HS := Hid.mk_ (genAt_no2 (s := s) hc')
    have hn := inB_not hc'
    have k1 : ¬ s / 4 < 0 := by omega
    have k2 : ¬ s % 4 ≤ -1 := by omega
    have n0 : (c == 0) = false := by simp; omega
    have n1 : (c == 1) = false := by simp; omega
    have n2 : (c == 2) = false := by simp; omega
    clear h hc hc'
    rcases (show c < 0 ∨ 2 < c by omega) with h1 | h1
    · have h0 : ¬ 0 ≤ c := by omega
      go_enter Try.func227, Try.ntmps227
      go_wp2
      go_ret
      exact ⟨ret_i64 HS.out.symm, rfl⟩
    · have h0 : ¬ c ≤ 2 := by omega
      go_enter Try.func227, Try.ntmps227
      go_wp2
      go_ret
      exact ⟨ret_i64 HS.out.symm, rfl⟩
  have k1 : ¬ s / 4 < 0 := by omega
  by_cases hp : s % 4 < perPage c
  · have hp' : s % 4 ≤ perPage c - 1 := by omega
    have HS := Hid.mk_ (genAt_yes h hc hp)
    rcases cls hc with rfl | rfl | rfl <;>
      (simp [perPage] at hp hp'; clear hp; clear h hc; go_enter Try.func227, Try.ntmps227; go_wp2; go_ret; exact ⟨ret_i64 (by rw [HS.out]; simp [strideOf]), rfl⟩)
  · have hp' : ¬ s % 4 ≤ perPage c - 1 := by omega
    have HS := Hid.mk_ (genAt_no3 (s := s) (c := c) hp)
    rcases cls hc with rfl | rfl | rfl
    · exact absurd (show s % 4 < perPage 0 by show s % 4 < 4; omega) hp
    · (simp [perPage] at hp hp'; clear hp; rw [← Int.not_le] at hp'; clear h hc; go_enter Try.func227, Try.ntmps227; go_wp2; go_ret; exact ⟨ret_i64 (by rw [HS.out]), rfl⟩)
    · (simp [perPage] at hp hp'; clear hp; rw [← Int.not_le] at hp'; clear h hc; go_enter Try.func227, Try.ntmps227; go_wp2; go_ret; exact ⟨ret_i64 (by rw [HS.out]), rfl⟩)
end Go.Proofs.Ytodbkbolpcbooaa
