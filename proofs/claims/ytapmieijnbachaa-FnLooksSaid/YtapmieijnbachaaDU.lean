/-
  FnHazards, walked: a published handle is held until it is cleared.
-/
import Derived.Test.YtapmieijnbachaaT
import Derived.Test.YtapmieijnbachaaL
import Derived.Deep.QuietTactic
import Derived.BigQuiet
import Derived.Deep.LoopGhost
import Derived.Deep.RegionHeld3
import Derived.Test.YtapmieijnbachaaN
import Derived.Test.YtapmieijnbachaaA
import Derived.WalkSpells
import Derived.Laws.Cover3
import Derived.Test.YtapmieijnbachaaDT
namespace Go.Proofs.Ytapmieijnbachaa
open Go.RowKit
theorem haz_law (z : List Int) (a b : Int) (h : (publishL z a b).2 = true) :
    (clearL (publishL z a b).1 a).2 = true ∧ (clearL (clearL (publishL z a b).1 a).1 a).2 = false ∧ ((heldL (publishL z a b).1 b).any fun y => y == a) = true ∧ hazAtI (publishL z a b).1 a = b ∧ hazAtI (clearL (publishL z a b).1 a).1 a = 0 ∧ ((heldL (clearL (publishL z a b).1 a).1 b).any fun y => y == a) = false ∧ hazOkB (clearL (publishL z a b).1 a).1 = true := by
  unfold publishL at h
  split at h
  · rename_i hc
    obtain ⟨h1, h2, h3, h4⟩ := hc
    have hl := hazOk_len h1
    have hb0 : b ≠ 0 := by
      intro e
      subst e
      exact absurd h4 (by decide)
    have hlb : linkB b = true := by simp [linkB, h4]
    have hl0 : linkB 0 = true := rfl
    match z, hl with
    | [p, q, r], _ =>
      have hpqr : linkB p = true ∧ linkB q = true ∧ linkB r = true := by
        simp [hazOkB] at h1
        exact h1
      obtain ⟨l1, l2, l3⟩ := hpqr
      have ha : a = 0 ∨ a = 1 ∨ a = 2 := by omega
      have e1 : ∀ x : Int, ∀ y : Int, ∀ u : Int, linkB x = true → linkB y = true → linkB u = true → hazOkB [x, y, u] = true := fun x y u q1 q2 q3 => by simp [hazOkB, q1, q2, q3]
      have f0 := e1 b q r hlb l2 l3
      have f1 := e1 p b r l1 hlb l3
      have f2 := e1 p q b l1 l2 hlb
      have g0 := e1 0 q r hl0 l2 l3
      have g1 := e1 p 0 r l1 hl0 l3
      have g2 := e1 p q 0 l1 l2 hl0
      rcases ha with rfl | rfl | rfl
      · have hp : publishL [p, q, r] 0 b = ([b, q, r], true) := by unfold publishL; rw [if_pos ⟨h1, h2, h3, h4⟩]; rfl
        have hcl : clearL [b, q, r] 0 = ([0, q, r], true) := by unfold clearL; rw [if_pos ⟨f0, h2, h3, by simpa using hb0⟩]; rfl
        have hcl2 : clearL [0, q, r] 0 = ([0, q, r], false) := by unfold clearL; rw [if_neg (fun hh => hh.2.2.2 rfl)]
        rw [hp, hcl, hcl2]
        refine ⟨rfl, rfl, ?_, by simp [hazAtI, f0], by simp [hazAtI], ?_, g0⟩
        · simp [heldL, f0, hb0, heldTo, List.range, List.range.loop]
        · simp [heldL, g0, hb0, heldTo, List.range, List.range.loop, List.filter_cons, Ne.symm hb0]
          repeat' split
          all_goals simp
      · have hp : publishL [p, q, r] 1 b = ([p, b, r], true) := by unfold publishL; rw [if_pos ⟨h1, h2, h3, h4⟩]; rfl
        have hcl : clearL [p, b, r] 1 = ([p, 0, r], true) := by unfold clearL; rw [if_pos ⟨f1, h2, h3, by simpa using hb0⟩]; rfl
        have hcl2 : clearL [p, 0, r] 1 = ([p, 0, r], false) := by unfold clearL; rw [if_neg (fun hh => hh.2.2.2 rfl)]
        rw [hp, hcl, hcl2]
        refine ⟨rfl, rfl, ?_, by simp [hazAtI, f1], by simp [hazAtI], ?_, g1⟩
        · simp [heldL, f1, hb0, heldTo, List.range, List.range.loop]
        · simp [heldL, g1, hb0, heldTo, List.range, List.range.loop, List.filter_cons, Ne.symm hb0]
          repeat' split
          all_goals simp
      · have hp : publishL [p, q, r] 2 b = ([p, q, b], true) := by unfold publishL; rw [if_pos ⟨h1, h2, h3, h4⟩]; rfl
        have hcl : clearL [p, q, b] 2 = ([p, q, 0], true) := by unfold clearL; rw [if_pos ⟨f2, h2, h3, by simpa using hb0⟩]; rfl
        have hcl2 : clearL [p, q, 0] 2 = ([p, q, 0], false) := by unfold clearL; rw [if_neg (fun hh => hh.2.2.2 rfl)]
        rw [hp, hcl, hcl2]
        refine ⟨rfl, rfl, ?_, by simp [hazAtI, f2], by simp [hazAtI], ?_, g2⟩
        · simp [heldL, f2, hb0, heldTo, List.range, List.range.loop]
        · simp [heldL, g2, hb0, heldTo, List.range, List.range.loop, List.filter_cons, Ne.symm hb0]
          repeat' split
          all_goals simp
  · cases h

set_option maxHeartbeats 1000000 in
theorem has_ct (w : World) (v : Value) (z : List Int) (x : Int) (h : RdL FI w w.heap.size v z) :
    Calls Try.prog 23 #[v, .int .i64 x] w fun e w' => e = .returned (.bool (z.any fun y => y == x)) ∧ Below w.heap.size w w' := by
  obtain ⟨A, c, hv, q1, q2, _⟩ := id h
  have hlt0 : z.length ≤ 9223372036854775807 := by unfold maxLen at q2; omega
  subst hv
  clear q1 q2
  go_enter Try.func23, Try.ntmps23
  go_wp2
  go_loopw [5] (fun i wr => ∃ k : Nat, k ≤ z.length ∧ i = .int .i64 k ∧ Below w.heap.size w wr ∧ (z.take k).any (fun y => y == x) = false) (fun i _ => z.length - (intOf i).toNat)
  case atStart => exact ⟨0, Nat.zero_le _, rfl, Below.refl _ _, rfl⟩
  case round =>
    obtain ⟨i, hi, rfl, hb, hno⟩ := hrel
    have HN := Hid.mk_ hno
    clear hno
    by_cases hlt : i < z.length
    · obtain ⟨g, off, cap', he, hg, _, _, hc⟩ := (h.below hb).at_ (List.getElem?_eq_getElem hlt)
      injection he with he1 he2 he3
      clear he2
      subst he1 he3
      have p0 : wr.cell? ⟨g, off + i, none⟩ = some (.int .i64 z[i]) := by simpa [FI] using hc 0 _ rfl
      clear hc h
      by_cases hz : z[i] = x
      · have hz1 : (z[i] == x) = true := by simpa using hz
        have HP := Hid.mk_ (show (z.any fun y => y == x) = true from List.any_eq_true.2 ⟨z[i], List.getElem_mem hlt, hz1⟩)
        clear hz
        go_wp2
        go_ret
        exact ⟨ret_bool HP.out.symm, hb⟩
      · have hz1 : (z[i] == x) = false := by simpa using hz
        have HP := Hid.mk_ (any_take_succ (fun y => y == x) z i hlt HN.out hz1)
        clear hz
        go_wp2
        go_roundw
        case rel => exact ⟨i + 1, by omega, by go_num, hb, HP.out⟩
        case measure => simp [intOf]; omega
    · go_wp2
      go_ret
      obtain rfl : i = z.length := by omega
      exact ⟨ret_bool (by simpa using HN.out.symm), hb⟩

set_option maxHeartbeats 400000 in
theorem big_no (w : World) (A : Option Addr) (n c : Nat) (h : n ≤ 1048576) : Calls Try.prog 14 #[.slice A n c] w fun e w' => e = .returned (.bool false) ∧ w = w' := by
  go_enter Try.func14, Try.ntmps14
  go_wp2
  go_ret
  exact ⟨by first | rfl | (simp; omega), rfl⟩
set_option maxHeartbeats 400000 in
theorem big_yes (w : World) (A : Option Addr) (n c : Nat) (h : ¬ n ≤ 1048576) (h2 : n ≤ 9223372036854775807) : Calls Try.prog 14 #[.slice A n c] w fun e w' => e = .returned (.bool true) ∧ w = w' := by
  have h' : 1048576 < n := by omega
  go_enter Try.func14, Try.ntmps14
  go_wp2
  go_ret
  exact ⟨by first | rfl | (simp; omega), rfl⟩
end Go.Proofs.Ytapmieijnbachaa