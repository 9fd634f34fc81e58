/-
  Places in the arena: the contracts of the small functions.
-/
import Derived.Test.YtkldapdpaldbgaaGreatT
import Derived.Test.YtkldapdpaldbgaaGreatL
import Derived.Deep.QuietTactic
import Derived.BigQuiet
import Derived.Deep.LoopGhost
import Derived.Deep.RegionHeld3
import Derived.Test.YtkldapdpaldbgaaGreatN
import Derived.Test.YtkldapdpaldbgaaGreatA
import Derived.WalkSpells
import Derived.Laws.Cover3
import Derived.Test.YtkldapdpaldbgaaGreatPL
import Derived.Test.YtkldapdpaldbgaaGreatM
namespace Go.Proofs.YtkldapdpaldbgaaGreat
open Go.RowKit
theorem isByte_ct (n : Int) (w : World) : Calls Tryz.prog 318 #[.int .i64 n] w fun e w' => e = .returned (.bool (inB 0 255 n)) ∧ w = w' := by
  go_enter Tryz.func318, Tryz.ntmps318
  go_wp2_with (go_at_call 111; refine (within_ct _ _ _ _).mono ?_; rintro e w1 ⟨rfl, rfl⟩)
  go_ret
  exact ⟨rfl, rfl⟩
theorem isClass_ct (n : Int) (w : World) : Calls Tryz.prog 208 #[.int .i64 n] w fun e w' => e = .returned (.bool (inB 0 2 n)) ∧ w = w' := by
  go_enter Tryz.func208, Tryz.ntmps208
  go_wp2_with (go_at_call 111; refine (within_ct _ _ _ _).mono ?_; rintro e w1 ⟨rfl, rfl⟩)
  go_ret
  exact ⟨rfl, rfl⟩
theorem isSlot_ct (n : Int) (w : World) : Calls Tryz.prog 124 #[.int .i64 n] w fun e w' => e = .returned (.bool (inB 0 23 n)) ∧ w = w' := by
  go_enter Tryz.func124, Tryz.ntmps124
  go_wp2_with (go_at_call 111; refine (within_ct _ _ _ _).mono ?_; rintro e w1 ⟨rfl, rfl⟩)
  go_ret
  exact ⟨rfl, rfl⟩
set_option maxHeartbeats 1000000 in
theorem SizeOf_impl (c : Int) (w : World) : Calls Tryz.prog 123 #[.int .i64 c] w fun e w' => e = .returned (.int .i64 (sizeOfC c)) ∧ w = w' := by
  have hix := @run_index_one Tryz.prog _ _ _ Tryz.underlying237 (fun _ => by kernel_rfl) (by kernel_rfl)
  by_cases h : inB 0 2 c = true
  · rcases cls h with rfl | rfl | rfl <;>
      (go_enter Tryz.func123, Tryz.ntmps123; go_wp2; go_ret; exact ⟨rfl, rfl⟩)
  · have h' : inB 0 2 c = false := (Bool.not_eq_true _).mp h
    have hn := inB_not h'
    have HS := Hid.mk_ (sizeOfC_no h')
    have n0 : (c == 0) = false := by simp; omega
    have n1 : (c == 1) = false := by simp; omega
    have n2 : (c == 2) = false := by simp; omega
    clear h
    rcases (show c < 0 ∨ 2 < c by omega) with h1 | h1
    · have h0 : ¬ 0 ≤ c := by omega
      go_enter Tryz.func123, Tryz.ntmps123
      go_wp2
      go_ret
      exact ⟨ret_i64 HS.out.symm, rfl⟩
    · have h0 : ¬ c ≤ 2 := by omega
      go_enter Tryz.func123, Tryz.ntmps123
      go_wp2
      go_ret
      exact ⟨ret_i64 HS.out.symm, rfl⟩
set_option maxHeartbeats 1000000 in
theorem StrideOf_impl (c : Int) (w : World) : Calls Tryz.prog 210 #[.int .i64 c] w fun e w' => e = .returned (.int .i64 (strideOf c)) ∧ w = w' := by
  have hix := @run_index_one Tryz.prog _ _ _ Tryz.underlying237 (fun _ => by kernel_rfl) (by kernel_rfl)
  by_cases h : inB 0 2 c = true
  · rcases cls h with rfl | rfl | rfl <;>
      (go_enter Tryz.func210, Tryz.ntmps210; go_wp2; go_ret; exact ⟨rfl, rfl⟩)
  · have h' : inB 0 2 c = false := (Bool.not_eq_true _).mp h
    have hn := inB_not h'
    have HS := Hid.mk_ (strideOf_no h')
    have n0 : (c == 0) = false := by simp; omega
    have n1 : (c == 1) = false := by simp; omega
    have n2 : (c == 2) = false := by simp; omega
    clear h
    rcases (show c < 0 ∨ 2 < c by omega) with h1 | h1
    · have h0 : ¬ 0 ≤ c := by omega
      go_enter Tryz.func210, Tryz.ntmps210
      go_wp2
      go_ret
      exact ⟨ret_i64 HS.out.symm, rfl⟩
    · have h0 : ¬ c ≤ 2 := by omega
      go_enter Tryz.func210, Tryz.ntmps210
      go_wp2
      go_ret
      exact ⟨ret_i64 HS.out.symm, rfl⟩
set_option maxHeartbeats 1000000 in
theorem PerPage_impl (c : Int) (w : World) : Calls Tryz.prog 209 #[.int .i64 c] w fun e w' => e = .returned (.int .i64 (perPage c)) ∧ w = w' := by
  have hix := @run_index_one Tryz.prog _ _ _ Tryz.underlying237 (fun _ => by kernel_rfl) (by kernel_rfl)
  by_cases h : inB 0 2 c = true
  · rcases cls h with rfl | rfl | rfl <;>
      (go_enter Tryz.func209, Tryz.ntmps209; go_wp2; go_ret; exact ⟨rfl, rfl⟩)
  · have h' : inB 0 2 c = false := (Bool.not_eq_true _).mp h
    have hn := inB_not h'
    have HS := Hid.mk_ (perPage_no h')
    have n0 : (c == 0) = false := by simp; omega
    have n1 : (c == 1) = false := by simp; omega
    have n2 : (c == 2) = false := by simp; omega
    clear h
    rcases (show c < 0 ∨ 2 < c by omega) with h1 | h1
    · have h0 : ¬ 0 ≤ c := by omega
      go_enter Tryz.func209, Tryz.ntmps209
      go_wp2
      go_ret
      exact ⟨ret_i64 HS.out.symm, rfl⟩
    · have h0 : ¬ c ≤ 2 := by omega
      go_enter Tryz.func209, Tryz.ntmps209
      go_wp2
      go_ret
      exact ⟨ret_i64 HS.out.symm, rfl⟩
set_option maxHeartbeats 1000000 in
theorem SizeOf_spec (c : Int) (w : World) : Calls Tryz.prog 181 #[.int .i64 c] w fun e w' => e = .returned (.int .i64 (sizeOfC c)) ∧ w = w' := by
  by_cases h : inB 0 2 c = true
  · rcases cls h with rfl | rfl | rfl <;>
      (go_enter Tryz.func181, Tryz.ntmps181; go_wp2; go_ret; exact ⟨rfl, rfl⟩)
  · have h' : inB 0 2 c = false := (Bool.not_eq_true _).mp h
    have hn := inB_not h'
    have HS := Hid.mk_ (sizeOfC_no h')
    have n0 : (c == 0) = false := by simp; omega
    have n1 : (c == 1) = false := by simp; omega
    have n2 : (c == 2) = false := by simp; omega
    clear h
    rcases (show c < 0 ∨ 2 < c by omega) with h1 | h1
    · have h0 : ¬ 0 ≤ c := by omega
      go_enter Tryz.func181, Tryz.ntmps181
      go_wp2
      go_ret
      exact ⟨ret_i64 HS.out.symm, rfl⟩
    · have h0 : ¬ c ≤ 2 := by omega
      go_enter Tryz.func181, Tryz.ntmps181
      go_wp2
      go_ret
      exact ⟨ret_i64 HS.out.symm, rfl⟩
set_option maxHeartbeats 1000000 in
theorem StrideOf_spec (c : Int) (w : World) : Calls Tryz.prog 246 #[.int .i64 c] w fun e w' => e = .returned (.int .i64 (strideOf c)) ∧ w = w' := by
  by_cases h : inB 0 2 c = true
  · rcases cls h with rfl | rfl | rfl <;>
      (go_enter Tryz.func246, Tryz.ntmps246; go_wp2; go_ret; exact ⟨rfl, rfl⟩)
  · have h' : inB 0 2 c = false := (Bool.not_eq_true _).mp h
    have hn := inB_not h'
    have HS := Hid.mk_ (strideOf_no h')
    have n0 : (c == 0) = false := by simp; omega
    have n1 : (c == 1) = false := by simp; omega
    have n2 : (c == 2) = false := by simp; omega
    clear h
    rcases (show c < 0 ∨ 2 < c by omega) with h1 | h1
    · have h0 : ¬ 0 ≤ c := by omega
      go_enter Tryz.func246, Tryz.ntmps246
      go_wp2
      go_ret
      exact ⟨ret_i64 HS.out.symm, rfl⟩
    · have h0 : ¬ c ≤ 2 := by omega
      go_enter Tryz.func246, Tryz.ntmps246
      go_wp2
      go_ret
      exact ⟨ret_i64 HS.out.symm, rfl⟩
set_option maxHeartbeats 1000000 in
theorem PerPage_spec (c : Int) (w : World) : Calls Tryz.prog 184 #[.int .i64 c] w fun e w' => e = .returned (.int .i64 (perPage c)) ∧ w = w' := by
  by_cases h : inB 0 2 c = true
  · rcases cls h with rfl | rfl | rfl <;>
      (go_enter Tryz.func184, Tryz.ntmps184; go_wp2; go_ret; exact ⟨rfl, rfl⟩)
  · have h' : inB 0 2 c = false := (Bool.not_eq_true _).mp h
    have hn := inB_not h'
    have HS := Hid.mk_ (perPage_no h')
    have n0 : (c == 0) = false := by simp; omega
    have n1 : (c == 1) = false := by simp; omega
    have n2 : (c == 2) = false := by simp; omega
    clear h
    rcases (show c < 0 ∨ 2 < c by omega) with h1 | h1
    · have h0 : ¬ 0 ≤ c := by omega
      go_enter Tryz.func184, Tryz.ntmps184
      go_wp2
      go_ret
      exact ⟨ret_i64 HS.out.symm, rfl⟩
    · have h0 : ¬ c ≤ 2 := by omega
      go_enter Tryz.func184, Tryz.ntmps184
      go_wp2
      go_ret
      exact ⟨ret_i64 HS.out.symm, rfl⟩
set_option maxHeartbeats 1000000 in
theorem PageOf_spec (s : Int) (w : World) : Calls Tryz.prog 182 #[.int .i64 s] w fun e w' => e = .returned (.int .i64 (pageOfS s)) ∧ w = w' := by
  by_cases h : inB 0 23 s = true
  · have hb := inB_iff.1 h
    obtain ⟨b1, b2⟩ := hb
    have HS := Hid.mk_ (show pageOfS s = s / 4 from if_pos h)
    go_enter Tryz.func182, Tryz.ntmps182
    go_wp2_with (go_at_call 107; refine (l1In_ct _ _ _ _).mono ?_; rintro e w1 ⟨rfl, rfl⟩)
    go_ret
    exact ⟨ret_i64 HS.out.symm, rfl⟩
  · have HS := Hid.mk_ (show pageOfS s = -1 from if_neg h)
    have h' : inB 0 23 s = false := (Bool.not_eq_true _).mp h
    clear h
    go_enter Tryz.func182, Tryz.ntmps182
    go_wp2_with (go_at_call 107; refine (l1In_ct _ _ _ _).mono ?_; rintro e w1 ⟨rfl, rfl⟩)
    go_ret
    exact ⟨ret_i64 HS.out.symm, rfl⟩
set_option maxHeartbeats 1000000 in
theorem IndexOf_spec (s : Int) (w : World) : Calls Tryz.prog 183 #[.int .i64 s] w fun e w' => e = .returned (.int .i64 (indexOfS s)) ∧ w = w' := by
  by_cases h : inB 0 23 s = true
  · have hb := inB_iff.1 h
    obtain ⟨b1, b2⟩ := hb
    have HS := Hid.mk_ (show indexOfS s = s % 4 from if_pos h)
    go_enter Tryz.func183, Tryz.ntmps183
    go_wp2_with (go_at_call 107; refine (l1In_ct _ _ _ _).mono ?_; rintro e w1 ⟨rfl, rfl⟩)
    go_ret
    exact ⟨ret_i64 HS.out.symm, rfl⟩
  · have HS := Hid.mk_ (show indexOfS s = -1 from if_neg h)
    have h' : inB 0 23 s = false := (Bool.not_eq_true _).mp h
    clear h
    go_enter Tryz.func183, Tryz.ntmps183
    go_wp2_with (go_at_call 107; refine (l1In_ct _ _ _ _).mono ?_; rintro e w1 ⟨rfl, rfl⟩)
    go_ret
    exact ⟨ret_i64 HS.out.symm, rfl⟩
set_option maxHeartbeats 2000000 in
theorem GenAt_impl (s c : Int) (w : World) : Calls Tryz.prog 125 #[.int .i64 s, .int .i64 c] w fun e w' => e = .returned (.int .i64 (genAt s c)) ∧ w = w' := by
  have hix := @run_index_one Tryz.prog _ _ _ Tryz.underlying237 (fun _ => by kernel_rfl) (by kernel_rfl)
  by_cases h : inB 0 23 s = true
  case neg =>
    have h' : inB 0 23 s = false := (Bool.not_eq_true _).mp h
    have HS := Hid.mk_ (genAt_no1 (c := c) h')
    have hn := inB_not h'
    rcases (show s < 0 ∨ 23 < s by omega) with h1 | h1
    · have h0 : ¬ 0 ≤ s := by omega
      go_enter Tryz.func125, Tryz.ntmps125
      go_wp2
      go_ret
      exact ⟨ret_i64 HS.out.symm, rfl⟩
    · have h0 : ¬ s ≤ 23 := by omega
      go_enter Tryz.func125, Tryz.ntmps125
      go_wp2
      go_ret
      exact ⟨ret_i64 HS.out.symm, rfl⟩
  obtain ⟨b1, b2⟩ := inB_iff.1 h
  by_cases hc : inB 0 2 c = true
  case neg =>
    have hc' : inB 0 2 c = false := (Bool.not_eq_true _).mp hc
    have HS := Hid.mk_ (genAt_no2 (s := s) hc')
    have hn := inB_not hc'
    have n0 : (c == 0) = false := by simp; omega
    have n1 : (c == 1) = false := by simp; omega
    have n2 : (c == 2) = false := by simp; omega
    clear h hc hc'
    rcases (show c < 0 ∨ 2 < c by omega) with h1 | h1
    · have h0 : ¬ 0 ≤ c := by omega
      go_enter Tryz.func125, Tryz.ntmps125
      go_wp2
      go_ret
      exact ⟨ret_i64 HS.out.symm, rfl⟩
    · have h0 : ¬ c ≤ 2 := by omega
      go_enter Tryz.func125, Tryz.ntmps125
      go_wp2
      go_ret
      exact ⟨ret_i64 HS.out.symm, rfl⟩
  by_cases hp : s % 4 < perPage c
  · have HS := Hid.mk_ (genAt_yes h hc hp)
    rcases cls hc with rfl | rfl | rfl <;>
      (simp [perPage] at hp; clear h hc; go_enter Tryz.func125, Tryz.ntmps125; go_wp2; go_ret; exact ⟨ret_i64 (by rw [HS.out]; simp [strideOf]), rfl⟩)
  · have HS := Hid.mk_ (genAt_no3 (s := s) (c := c) hp)
    rcases cls hc with rfl | rfl | rfl
    · exact absurd (show s % 4 < perPage 0 by show s % 4 < 4; omega) hp
    · (simp [perPage] at hp; clear h hc; go_enter Tryz.func125, Tryz.ntmps125; go_wp2; go_ret; exact ⟨ret_i64 (by rw [HS.out]), rfl⟩)
    · (simp [perPage] at hp; clear h hc; go_enter Tryz.func125, Tryz.ntmps125; go_wp2; go_ret; exact ⟨ret_i64 (by rw [HS.out]), rfl⟩)
set_option maxHeartbeats 2000000 in
theorem GenAt_spec (s c : Int) (w : World) : Calls Tryz.prog 216 #[.int .i64 s, .int .i64 c] w fun e w' => e = .returned (.int .i64 (genAt s c)) ∧ w = w' := by
  by_cases h : inB 0 23 s = true
  case neg =>
    have h' : inB 0 23 s = false := (Bool.not_eq_true _).mp h
    have HS := Hid.mk_ (genAt_no1 (c := c) h')
    have hn := inB_not h'
    rcases (show s < 0 ∨ 23 < s by omega) with h1 | h1
    · have h0 : ¬ 0 ≤ s := by omega
      go_enter Tryz.func216, Tryz.ntmps216
      go_wp2
      go_ret
      exact ⟨ret_i64 HS.out.symm, rfl⟩
    · have h0 : ¬ s ≤ 23 := by omega
      go_enter Tryz.func216, Tryz.ntmps216
      go_wp2
      go_ret
      exact ⟨ret_i64 HS.out.symm, rfl⟩
  obtain ⟨b1, b2⟩ := inB_iff.1 h
  by_cases hc : inB 0 2 c = true
  case neg =>
    have hc' : inB 0 2 c = false := (Bool.not_eq_true _).mp hc
    have HS := Hid.mk_ (genAt_no2 (s := s) hc')
    have hn := inB_not hc'
    have k1 : ¬ s / 4 < 0 := by omega
    have k2 : ¬ s % 4 ≤ -1 := by omega
    have n0 : (c == 0) = false := by simp; omega
    have n1 : (c == 1) = false := by simp; omega
    have n2 : (c == 2) = false := by simp; omega
    clear h hc hc'
    rcases (show c < 0 ∨ 2 < c by omega) with h1 | h1
    · have h0 : ¬ 0 ≤ c := by omega
      go_enter Tryz.func216, Tryz.ntmps216
      go_wp2
      go_ret
      exact ⟨ret_i64 HS.out.symm, rfl⟩
    · have h0 : ¬ c ≤ 2 := by omega
      go_enter Tryz.func216, Tryz.ntmps216
      go_wp2
      go_ret
      exact ⟨ret_i64 HS.out.symm, rfl⟩
  have k1 : ¬ s / 4 < 0 := by omega
  by_cases hp : s % 4 < perPage c
  · have hp' : s % 4 ≤ perPage c - 1 := by omega
    have HS := Hid.mk_ (genAt_yes h hc hp)
    rcases cls hc with rfl | rfl | rfl <;>
      (simp [perPage] at hp hp'; clear hp; clear h hc; go_enter Tryz.func216, Tryz.ntmps216; go_wp2; go_ret; exact ⟨ret_i64 (by rw [HS.out]; simp [strideOf]), rfl⟩)
  · have hp' : ¬ s % 4 ≤ perPage c - 1 := by omega
    have HS := Hid.mk_ (genAt_no3 (s := s) (c := c) hp)
    rcases cls hc with rfl | rfl | rfl
    · exact absurd (show s % 4 < perPage 0 by show s % 4 < 4; omega) hp
    · (simp [perPage] at hp hp'; clear hp; rw [← Int.not_le] at hp'; clear h hc; go_enter Tryz.func216, Tryz.ntmps216; go_wp2; go_ret; exact ⟨ret_i64 (by rw [HS.out]), rfl⟩)
    · (simp [perPage] at hp hp'; clear hp; rw [← Int.not_le] at hp'; clear h hc; go_enter Tryz.func216, Tryz.ntmps216; go_wp2; go_ret; exact ⟨ret_i64 (by rw [HS.out]), rfl⟩)
end Go.Proofs.YtkldapdpaldbgaaGreat
