/-
  FnHazards, walked: a published handle is held until it is cleared.
-/
import Derived.Test.YtobcdcfbhfoheaaT
import Derived.Test.YtobcdcfbhfoheaaL
import Derived.Deep.QuietTactic
import Derived.BigQuiet
import Derived.Deep.LoopGhost
import Derived.Deep.RegionHeld3
import Derived.Test.YtobcdcfbhfoheaaN
import Derived.Test.YtobcdcfbhfoheaaA
import Derived.WalkSpells
import Derived.Laws.Cover3
import Derived.Test.YtobcdcfbhfoheaaDT
namespace Go.Proofs.Ytobcdcfbhfoheaa
open Go.RowKit
theorem haz_law (z : List Int) (a b : Int) (h : (publishL z a b).2 = true) :
    (clearL (publishL z a b).1 a).2 = true ∧ (clearL (clearL (publishL z a b).1 a).1 a).2 = false ∧ ((heldL (publishL z a b).1 b).any fun y => y == a) = true ∧ hazAtI (publishL z a b).1 a = b ∧ hazAtI (clearL (publishL z a b).1 a).1 a = 0 ∧ ((heldL (clearL (publishL z a b).1 a).1 b).any fun y => y == a) = false ∧ hazOkB (clearL (publishL z a b).1 a).1 = true := by
  unfold publishL at h
  split at h
  · rename_i hc
    obtain ⟨h1, h2, h3, h4⟩ := hc
    have hl := hazOk_len h1
    have hb0 : b ≠ 0 := by
      intro e
      subst e
      exact absurd h4 (by decide)
    have hlb : linkB b = true := by simp [linkB, h4]
    have hl0 : linkB 0 = true := rfl
    match z, hl with
    | [p, q, r], _ =>
      have hpqr : linkB p = true ∧ linkB q = true ∧ linkB r = true := by
        simp [hazOkB] at h1
        exact h1
      obtain ⟨l1, l2, l3⟩ := hpqr
      have ha : a = 0 ∨ a = 1 ∨ a = 2 := by omega
      have e1 : ∀ x : Int, ∀ y : Int, ∀ u : Int, linkB x = true → linkB y = true → linkB u = true → hazOkB [x, y, u] = true := fun x y u q1 q2 q3 => by simp [hazOkB, q1, q2, q3]
      have f0 := e1 b q r hlb l2 l3
      have f1 := e1 p b r l1 hlb l3
      have f2 := e1 p q b l1 l2 hlb
      have g0 := e1 0 q r hl0 l2 l3
      have g1 := e1 p 0 r l1 hl0 l3
      have g2 := e1 p q 0 l1 l2 hl0
      rcases ha with rfl | rfl | rfl
      · have hp : publishL [p, q, r] 0 b = ([b, q, r], true) := by unfold publishL; rw [if_pos ⟨h1, h2, h3, h4⟩]; rfl
        have hcl : clearL [b, q, r] 0 = ([0, q, r], true) := by unfold clearL; rw [if_pos ⟨f0, h2, h3, by simpa using hb0⟩]; rfl
        have hcl2 : clearL [0, q, r] 0 = ([0, q, r], false) := by unfold clearL; rw [if_neg (fun hh => hh.2.2.2 rfl)]
        rw [hp, hcl, hcl2]
        refine ⟨rfl, rfl, ?_, by simp [hazAtI, f0], by simp [hazAtI], ?_, g0⟩
        · simp [heldL, f0, hb0, heldTo, List.range, List.range.loop]
        · simp [heldL, g0, hb0, heldTo, List.range, List.range.loop, List.filter_cons, Ne.symm hb0]
          repeat' split
          all_goals simp
      · have hp : publishL [p, q, r] 1 b = ([p, b, r], true) := by unfold publishL; rw [if_pos ⟨h1, h2, h3, h4⟩]; rfl
        have hcl : clearL [p, b, r] 1 = ([p, 0, r], true) := by unfold clearL; rw [if_pos ⟨f1, h2, h3, by simpa using hb0⟩]; rfl
        have hcl2 : clearL [p, 0, r] 1 = ([p, 0, r], false) := by unfold clearL; rw [if_neg (fun hh => hh.2.2.2 rfl)]
        rw [hp, hcl, hcl2]
        refine ⟨rfl, rfl, ?_, by simp [hazAtI, f1], by simp [hazAtI], ?_, g1⟩
        · simp [heldL, f1, hb0, heldTo, List.range, List.range.loop]
        · simp [heldL, g1, hb0, heldTo, List.range, List.range.loop, List.filter_cons, Ne.symm hb0]
          repeat' split
          all_goals simp
      · have hp : publishL [p, q, r] 2 b = ([p, q, b], true) := by unfold publishL; rw [if_pos ⟨h1, h2, h3, h4⟩]; rfl
        have hcl : clearL [p, q, b] 2 = ([p, q, 0], true) := by unfold clearL; rw [if_pos ⟨f2, h2, h3, by simpa using hb0⟩]; rfl
        have hcl2 : clearL [p, q, 0] 2 = ([p, q, 0], false) := by unfold clearL; rw [if_neg (fun hh => hh.2.2.2 rfl)]
        rw [hp, hcl, hcl2]
        refine ⟨rfl, rfl, ?_, by simp [hazAtI, f2], by simp [hazAtI], ?_, g2⟩
        · simp [heldL, f2, hb0, heldTo, List.range, List.range.loop]
        · simp [heldL, g2, hb0, heldTo, List.range, List.range.loop, List.filter_cons, Ne.symm hb0]
          repeat' split
          all_goals simp
  · cases h

set_option maxHeartbeats 1000000 in
theorem has_ct (w : World) (v : Value) (z : List Int) (x : Int) (h : RdL FI w w.heap.size v z) :
    Calls Try.prog 28 #[v, .int .i64 x] w fun e w' => e = .returned (.bool (z.any fun y => y == x)) ∧ Below w.heap.size w w' := by
  obtain ⟨A, c, hv, q1, q2, _⟩ := id h
  have hlt0 : z.length ≤ 9223372036854775807 := by unfold maxLen at q2; omega
  subst hv
  clear q1 q2
  go_enter Try.func28, Try.ntmps28
  go_wp2
  go_loopw [5] (fun i wr => ∃ k : Nat, k ≤ z.length ∧ i = .int .i64 k ∧ Below w.heap.size w wr ∧ (z.take k).any (fun y => y == x) = false) (fun i _ => z.length - (intOf i).toNat)
  case atStart => exact ⟨0, Nat.zero_le _, rfl, Below.refl _ _, rfl⟩
  case round =>
    obtain ⟨i, hi, rfl, hb, hno⟩ := hrel
    have HN := Hid.mk_ hno
    clear hno
    by_cases hlt : i < z.length
    · obtain ⟨g, off, cap', he, hg, _, _, hc⟩ := (h.below hb).at_ (List.getElem?_eq_getElem hlt)
      injection he with he1 he2 he3
      clear he2
      subst he1 he3
      have p0 : wr.cell? ⟨g, off + i, none⟩ = some (.int .i64 z[i]) := by simpa [FI] using hc 0 _ rfl
      clear hc h
      by_cases hz : z[i] = x
      · have hz1 : (z[i] == x) = true := by simpa using hz
        have HP := Hid.mk_ (show (z.any fun y => y == x) = true from List.any_eq_true.2 ⟨z[i], List.getElem_mem hlt, hz1⟩)
        clear hz
        go_wp2
        go_ret
        exact ⟨ret_bool HP.out.symm, hb⟩
      · have hz1 : (z[i] == x) = false := by simpa using hz
        have HP := Hid.mk_ (any_take_succ (fun y => y == x) z i hlt HN.out hz1)
        clear hz
        go_wp2
        go_roundw
        case rel => exact ⟨i + 1, by omega, by go_num, hb, HP.out⟩
        case measure => simp [intOf]; omega
    · go_wp2
      go_ret
      obtain rfl : i = z.length := by omega
      exact ⟨ret_bool (by simpa using HN.out.symm), hb⟩

set_option maxHeartbeats 400000 in
theorem sameInts_ct (w : World) (v1 v2 : Value) (l : List Int) (h1 : RdL FI w w.heap.size v1 l) (h2 : RdL FI w w.heap.size v2 l) (hs : l.length ≤ 1073741824) :
    Calls Try.prog 27 #[v1, v2] w fun e w' => e = .returned (.bool true) ∧ Below w.heap.size w w' := by
  obtain ⟨A1, c1, hv1, _⟩ := id h1
  obtain ⟨A2, c2, hv2, _⟩ := id h2
  subst hv1 hv2
  go_enter Try.func27, Try.ntmps27
  go_wp2
  go_loopw [5] (fun i wr => ∃ k : Nat, k ≤ l.length ∧ i = .int .i64 k ∧ Below w.heap.size w wr) (fun i _ => l.length - (intOf i).toNat)
  case atStart => exact ⟨0, Nat.zero_le _, rfl, Below.refl _ _⟩
  case round =>
    obtain ⟨k, hk, rfl, hb⟩ := hrel
    by_cases hlt : k < l.length
    · obtain ⟨g1, o1, cap1, e1, _, _, _, q1⟩ := (h1.below hb).at_ (List.getElem?_eq_getElem hlt)
      obtain ⟨g2, o2, cap2, e2, _, _, _, q2⟩ := (h2.below hb).at_ (List.getElem?_eq_getElem hlt)
      injection e1 with e11 _ e13
      injection e2 with e21 _ e23
      subst e11 e13 e21 e23
      have hc1 := q1 0 _ rfl
      have hc2 := q2 0 _ rfl
      simp only [FI, Nat.mul_one, Nat.add_zero] at hc1 hc2
      clear q1 q2
      go_wp2
      go_quiet (fail)
      go_wp2
      go_roundw
      case rel => exact ⟨k + 1, by omega, by go_num, below_drewN hb _⟩
      case measure => simp [intOf]; omega
    · go_wp2
      go_ret
      exact ⟨rfl, hb⟩

theorem below_step0 {B : Nat} {w0 w w' : World} (hB : Below B w0 w) (hb : Below w.heap.size w w') (h : B ≤ w.heap.size) : Below B w0 w' := hB.trans (hb.mono h)
set_option maxHeartbeats 400000 in
theorem big_no (w : World) (A : Option Addr) (n c : Nat) (h : n ≤ 1048576) : Calls Try.prog 25 #[.slice A n c] w fun e w' => e = .returned (.bool false) ∧ w = w' := by
  go_enter Try.func25, Try.ntmps25
  go_wp2
  go_ret
  exact ⟨by first | rfl | (simp; omega), rfl⟩
set_option maxHeartbeats 400000 in
theorem big_yes (w : World) (A : Option Addr) (n c : Nat) (h : ¬ n ≤ 1048576) (h2 : n ≤ 9223372036854775807) : Calls Try.prog 25 #[.slice A n c] w fun e w' => e = .returned (.bool true) ∧ w = w' := by
  have h' : 1048576 < n := by omega
  go_enter Try.func25, Try.ntmps25
  go_wp2
  go_ret
  exact ⟨by first | rfl | (simp; omega), rfl⟩
set_option maxHeartbeats 1000000 in
theorem DrawPublish_ct (w : World) (v : Value) (code : List Int) (h : RdL FU8 w w.heap.size v code) (hb : ∀ x ∈ code, 0 ≤ x ∧ x ≤ 255) (hs : code.length ≤ 1073741824) :
    Calls Try.prog 26 #[v] w fun e w' => ∃ v' z a b, e = .returned (.tuple #[v', .int .i64 a, .int .i64 b]) ∧ OwL FI 3 w' v' z ∧ z.length ≤ 3 ∧ (∀ g ∈ foot1 v', w.heap.size ≤ g) ∧ Below w.heap.size w w' := by
  go_enter Try.func26, Try.ntmps26
  go_wp2_with fail
  refine (l1New_ct _ _ code h hb hs).mono ?_
  rintro e w1 ⟨rfl, hc1, hb1⟩
  have hgl := hc1.lt
  go_wp2_with fail
  refine (l12Haz_ct _ _ code hc1).mono ?_
  rintro e w2 ⟨v', z, rfl, o2, hz, f2, hc2, hg2⟩
  go_wp2_with fail
  refine (l8Who_ct _ _ code hc2).mono ?_
  rintro e w3 ⟨a, rfl, _, _, hc3, hg3⟩
  have o3 := o2.chg hg3 (fun b hb hm => by simp at hm; subst hm; have := f2 _ hb; omega)
  go_wp2_with fail
  refine (l6Handle_ct _ _ code hc3).mono ?_
  rintro e w4 ⟨b, rfl, _, _, hc4, hg4⟩
  have o4 := o3.chg hg4 (fun b hb hm => by simp at hm; subst hm; have := f2 _ hb; omega)
  have hg24 := (hg2.trans hg3).trans hg4
  go_wp2_with fail
  go_ret3
  exact ⟨v', z, a, b, rfl, o4, hz, fun g hg => by have := f2 g hg; have := hb1.size; omega, hb1.trans (hg24.below hb1.size (fun g hm => by simp at hm; omega))⟩
set_option maxRecDepth 100000 in
set_option maxHeartbeats 2000000 in
theorem FnHazards_law (w : World) (v : Value) (code : List Int) (h : RdL FU8 w w.heap.size v code) (hcb : ∀ x ∈ code, 0 ≤ x ∧ x ≤ 255) :
    Calls Try.prog 6 #[v] w fun e w' => e = .returned (.bool true) ∧ Below w.heap.size w w' := by
  obtain ⟨A, c, hv, q1, q2, _⟩ := id h
  have hlt0 : code.length ≤ 9223372036854775807 := by unfold maxLen at q2; omega
  subst hv
  clear q1 q2
  by_cases hs : code.length ≤ 1048576
  case neg =>
    go_enter Try.func6, Try.ntmps6
    go_wp2_with fail
    refine (big_yes _ _ _ _ hs hlt0).mono ?_
    rintro e w1 ⟨rfl, rfl⟩
    go_wp2_with fail
    go_ret
    exact ⟨rfl, Below.refl _ _⟩
  go_enter Try.func6, Try.ntmps6
  go_wp2_with fail
  refine (big_no _ _ _ _ hs).mono ?_
  rintro e w0 ⟨rfl, rfl⟩
  go_wp2_with fail
  refine (DrawPublish_ct _ _ code h hcb (by omega)).mono ?_
  rintro e w1 ⟨vz, z, a, b, rfl, oz, hz, _, hB⟩
  have rz := oz.rd'
  clear oz h hcb
  go_wp2_with fail
  refine (Publish_impl _ _ z a b rz (by omega)).mono ?_
  rintro e w2 ⟨vx, rfl, ox, _, hb⟩
  have rx := ox.rd'
  replace rz := rd_up rz hb
  replace hB := below_step0 hB hb hB.size
  clear ox hb
  have hlx : (publishL z a b).1.length ≤ 3 := by rw [publishL_len]; exact hz
  by_cases c1 : (publishL z a b).2 = true
  case neg =>
    have c1' : (publishL z a b).2 = false := (Bool.not_eq_true _).mp c1
    have hx : (publishL z a b).1 = z := by
      unfold publishL at c1 ⊢
      split at c1
      · exact absurd rfl c1
      · rename_i hn; rw [if_neg hn]
    rw [hx] at rx
    clear c1 hx hlx
    rw [c1']
    go_wp2_with fail
    refine (Publish_spec _ _ z a b rz (by omega)).mono ?_
    rintro e w3 ⟨vt, rfl, _, _, hb⟩
    replace rz := rd_up rz hb
    replace rx := rd_up rx hb
    replace hB := below_step0 hB hb hB.size
    rw [c1']
    go_wp2_with fail
    refine (sameInts_ct _ _ _ z rx rz (by omega)).mono ?_
    rintro e w4 ⟨rfl, hb4⟩
    go_wp2_with fail
    go_ret
    exact ⟨rfl, below_step0 hB hb4 hB.size⟩
  obtain ⟨e1, e2, e3, e4, e5, e6, e7⟩ := haz_law z a b c1
  rw [c1]
  have hly : (clearL (publishL z a b).1 a).1.length ≤ 3 := by unfold clearL; split <;> simpa using hlx
  have E1 := Hid.mk_ e1
  have E2 := Hid.mk_ e2
  have E3 := Hid.mk_ e3
  have E4 := Hid.mk_ e4
  have E5 := Hid.mk_ e5
  have E6 := Hid.mk_ e6
  have E7 := Hid.mk_ e7
  clear e1 e2 e3 e4 e5 e6 e7 c1 rz
  generalize (publishL z a b).1 = zx at *
  go_wp2_with fail
  refine (Clear_impl _ _ zx a rx (by omega)).mono ?_
  rintro e w3 ⟨vy, rfl, oy, _, hb⟩
  have ry := oy.rd'
  replace rx := rd_up rx hb
  replace hB := below_step0 hB hb hB.size
  rw [E1.out]
  clear oy hb
  generalize (clearL zx a).1 = zy at *
  go_wp2_with fail
  refine (Clear_impl _ _ zy a ry (by omega)).mono ?_
  rintro e w4 ⟨vu, rfl, _, _, hb⟩
  replace rx := rd_up rx hb
  replace ry := rd_up ry hb
  replace hB := below_step0 hB hb hB.size
  rw [E2.out]
  clear hb
  go_wp2_with fail
  refine (HeldBy_impl _ _ zx b rx (by omega)).mono ?_
  rintro e w5 ⟨vh, rfl, oh, _, hb⟩
  have rh := oh.rd'
  replace rx := rd_up rx hb
  replace ry := rd_up ry hb
  replace hB := below_step0 hB hb hB.size
  clear oh hb
  go_wp2_with fail
  refine (has_ct _ _ _ a rh).mono ?_
  rw [E3.out]
  rintro e w6 ⟨rfl, hb⟩
  replace rx := rd_up rx hb
  replace ry := rd_up ry hb
  replace hB := below_step0 hB hb hB.size
  clear hb rh
  go_wp2_with fail
  refine (HazAt_impl _ _ zx a rx).mono ?_
  rw [E4.out]
  rintro e w7 ⟨rfl, hb⟩
  replace rx := rd_up rx hb
  replace ry := rd_up ry hb
  replace hB := below_step0 hB hb hB.size
  clear hb
  go_wp2_with fail
  refine (HazAt_impl _ _ zy a ry).mono ?_
  rw [E5.out]
  rintro e w8 ⟨rfl, hb⟩
  replace ry := rd_up ry hb
  replace hB := below_step0 hB hb hB.size
  clear hb
  go_wp2_with fail
  refine (HeldBy_impl _ _ zy b ry (by omega)).mono ?_
  rintro e w9 ⟨vk, rfl, ok, _, hb⟩
  have rk := ok.rd'
  replace ry := rd_up ry hb
  replace hB := below_step0 hB hb hB.size
  clear ok hb
  go_wp2_with fail
  refine (has_ct _ _ _ a rk).mono ?_
  rw [E6.out]
  rintro e w10 ⟨rfl, hb⟩
  replace ry := rd_up ry hb
  replace hB := below_step0 hB hb hB.size
  clear hb
  go_wp2_with fail
  refine (HazOk_spec _ _ zy ry).mono ?_
  rw [E7.out]
  rintro e w11 ⟨rfl, hb⟩
  replace hB := below_step0 hB hb hB.size
  go_wp2_with fail
  go_ret
  exact ⟨rfl, hB⟩
end Go.Proofs.Ytobcdcfbhfoheaa
