/-
  Ranges of slots, and what is loaded from them: the contracts.
-/
import Derived.Test.YtkldapdpaldbgaaGreatT
import Derived.Test.YtkldapdpaldbgaaGreatL
import Derived.Deep.QuietTactic
import Derived.BigQuiet
import Derived.Deep.LoopGhost
import Derived.Deep.RegionHeld3
import Derived.Test.YtkldapdpaldbgaaGreatN
import Derived.Test.YtkldapdpaldbgaaGreatA
import Derived.WalkSpells
import Derived.Laws.Cover3
import Derived.Test.YtkldapdpaldbgaaGreatBG
namespace Go.Proofs.YtkldapdpaldbgaaGreat
open Go.RowKit
def rngF (s c : Int) : Int := if startAt s c < 0 then 0 else startAt s c
def rngT (s c : Int) : Int := if startAt s c < 0 then 0 else startAt s c + sizeOfC c
def inRangeB (h : Heap) (s a k : Int) : Int := if inB 0 (rngT s (classInB h s) - rngF s (classInB h s) - k) a = true then rngF s (classInB h s) + a else -1
theorem startAt_cases (s c : Int) : (genAt s c = -1 ∧ startAt s c = -1) ∨ (8 ≤ genAt s c ∧ genAt s c + 4 + sizeOfC c ≤ 384 ∧ startAt s c = genAt s c + 4) := by
  rcases genAt_bd s c with hg | ⟨hg1, hg2⟩
  · exact .inl ⟨hg, if_pos (by rw [hg]; decide)⟩
  · exact .inr ⟨hg1, hg2, if_neg (by omega)⟩
theorem rng_cases (s c : Int) : (startAt s c = -1 ∧ rngF s c = 0 ∧ rngT s c = 0) ∨ (12 ≤ startAt s c ∧ rngF s c = startAt s c ∧ rngT s c = startAt s c + sizeOfC c ∧ rngT s c ≤ 384) := by
  rcases startAt_cases s c with ⟨_, h⟩ | ⟨h1, h2, h3⟩
  · exact .inl ⟨h, if_pos (by rw [h]; decide), if_pos (by rw [h]; decide)⟩
  · have e : rngT s c = startAt s c + sizeOfC c := if_neg (by omega)
    exact .inr ⟨by omega, if_neg (by omega), e, by omega⟩
set_option maxHeartbeats 400000 in
theorem StartOf_impl (s c : Int) (w : World) : Calls Tryz.prog 122 #[.int .i64 s, .int .i64 c] w fun e w' => e = .returned (.int .i64 (startAt s c)) ∧ w = w' := by
  have hz := sizeOfC_bd c
  have hq := fun W => GenAt_impl s c W
  rcases startAt_cases s c with ⟨h, h1⟩ | ⟨h, h2, h3⟩
  · have HS := Hid.mk_ h1
    rw [h] at hq
    clear h h1
    go_enter Tryz.func122, Tryz.ntmps122
    go_wp2_with fail
    refine (hq _).mono ?_
    clear hq
    rintro e w1 ⟨rfl, rfl⟩
    go_wp2
    go_ret
    exact ⟨ret_i64 HS.out.symm, rfl⟩
  · have HS := Hid.mk_ h3
    clear h3
    generalize genAt s c = g at *
    have h4 : ¬ g < 0 := by omega
    have h5 : g ≤ 384 := by omega
    clear h2
    go_enter Tryz.func122, Tryz.ntmps122
    go_wp2_with fail
    refine (hq _).mono ?_
    clear hq
    rintro e w1 ⟨rfl, rfl⟩
    go_wp2
    go_ret
    exact ⟨ret_i64 HS.out.symm, rfl⟩
set_option maxHeartbeats 400000 in
theorem StartOf_spec (s c : Int) (w : World) : Calls Tryz.prog 180 #[.int .i64 s, .int .i64 c] w fun e w' => e = .returned (.int .i64 (startAt s c)) ∧ w = w' := by
  have hz := sizeOfC_bd c
  have hq := fun W => GenAt_spec s c W
  rcases startAt_cases s c with ⟨h, h1⟩ | ⟨h, h2, h3⟩
  · have HS := Hid.mk_ h1
    rw [h] at hq
    clear h h1
    go_enter Tryz.func180, Tryz.ntmps180
    go_wp2_with fail
    refine (hq _).mono ?_
    clear hq
    rintro e w1 ⟨rfl, rfl⟩
    go_wp2
    go_ret
    exact ⟨ret_i64 HS.out.symm, rfl⟩
  · have HS := Hid.mk_ h3
    clear h3
    generalize genAt s c = g at *
    have h4 : ¬ g < 0 := by omega
    have h5 : g ≤ 384 := by omega
    clear h2
    go_enter Tryz.func180, Tryz.ntmps180
    go_wp2_with fail
    refine (hq _).mono ?_
    clear hq
    rintro e w1 ⟨rfl, rfl⟩
    go_wp2
    go_ret
    exact ⟨ret_i64 HS.out.symm, rfl⟩
set_option maxHeartbeats 400000 in
theorem RangeOf_impl (s c : Int) (w : World) : Calls Tryz.prog 46 #[.int .i64 s, .int .i64 c] w fun e w' => e = .returned (.agg #[.int .i64 (rngF s c), .int .i64 (rngT s c)]) ∧ Below w.heap.size w w' := by
  have hz := sizeOfC_bd c
  have hq := fun W => StartOf_impl s c W
  have hq2 := fun W => SizeOf_impl c W
  rcases rng_cases s c with ⟨h, h1, h2⟩ | ⟨h, h1, h2, h3⟩
  · have HS := Hid.mk_ h1
    have HT := Hid.mk_ h2
    rw [h] at hq
    clear h h1 h2
    go_enter Tryz.func46, Tryz.ntmps46
    go_wp2_with fail
    refine (hq _).mono ?_
    clear hq
    rintro e w1 ⟨rfl, rfl⟩
    go_wp2
    exact bodyPost_ret (v := .agg #[.int .i64 0, .int .i64 0]) (by simp [results, Tryz.results46, go_sem]) rfl ⟨by rw [HS.out, HT.out], by repeat (first | exact Below.refl _ _ | refine Below.alloc ?_ (by simp <;> omega) _ | refine below_grow_of ?_ (by simp <;> omega) _ _ | refine Below.drew ?_ | refine below_drewN ?_ _)⟩
  · have HS := Hid.mk_ h1
    have HT := Hid.mk_ h2
    rw [h2] at h3
    clear h1 h2
    generalize startAt s c = g at *
    generalize sizeOfC c = z at *
    have h4 : ¬ g < 0 := by omega
    have h5 : g ≤ 384 := by omega
    go_enter Tryz.func46, Tryz.ntmps46
    go_wp2_with fail
    refine (hq _).mono ?_
    clear hq
    rintro e w1 ⟨rfl, rfl⟩
    go_wp2_with (go_at_call 123; refine (hq2 _).mono ?_; clear hq2; rintro e w1 ⟨rfl, rfl⟩)
    exact bodyPost_ret (v := .agg #[.int .i64 g, .int .i64 (g + z)]) (by simp [results, Tryz.results46, go_sem]) rfl ⟨by rw [HS.out, HT.out], by repeat (first | exact Below.refl _ _ | refine Below.alloc ?_ (by simp <;> omega) _ | refine below_grow_of ?_ (by simp <;> omega) _ _ | refine Below.drew ?_ | refine below_drewN ?_ _)⟩