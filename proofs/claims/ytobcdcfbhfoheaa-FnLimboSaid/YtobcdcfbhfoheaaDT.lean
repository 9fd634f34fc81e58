/-
  Drawn hazard pointers.
-/
import Derived.Test.YtobcdcfbhfoheaaT
import Derived.Test.YtobcdcfbhfoheaaL
import Derived.Deep.QuietTactic
import Derived.BigQuiet
import Derived.Deep.LoopGhost
import Derived.Deep.RegionHeld3
import Derived.Test.YtobcdcfbhfoheaaN
import Derived.Test.YtobcdcfbhfoheaaA
import Derived.WalkSpells
import Derived.Laws.Cover3
import Derived.Test.YtobcdcfbhfoheaaDS
import Derived.Test.YtobcdcfbhfoheaaD1
import Derived.Test.YtobcdcfbhfoheaaI
namespace Go.Proofs.Ytobcdcfbhfoheaa
open Go.RowKit
set_option maxHeartbeats 400000 in
theorem HazNew_spec (w : World) : Calls Try.prog 87 #[] w fun e w' => ∃ v, e = .returned v ∧ OwL FI 3 w' v [0, 0, 0] ∧ (∀ g ∈ foot1 v, w.heap.size ≤ g) ∧ Below w.heap.size w w' := by
  have hmk : ∀ w, (Instr.makeSlice 22 (.int .i64 3) (.int .i64 3)).run Try.prog w = .ok (.slice (some ⟨w.heap.size, 0, none⟩) 3 3) (w.alloc (.cells (madeCells #[.int .i64 0] (3 * FI.n)) 3)) := run_make_flat (P := Try.prog) FI 22 3 (.int .i64 0) 8 Try.underlying22 Try.infoInt 3 (by omega) (by omega)
  go_enter Try.func87, Try.ntmps87
  go_wp2
  go_ret
  exact ⟨_, rfl, OwL.made FI #[.int .i64 0] rfl 3 (by simp [maxLen]) w 3, by simp [foot1, Value.ownBlock], (Below.refl _ _).alloc (Nat.le_refl _) _⟩
set_option maxRecDepth 1000000 in
set_option maxHeartbeats 1000000 in
theorem l1New_ct (w : World) (v : Value) (code : List Int) (h : RdL FU8 w w.heap.size v code) (hb : ∀ x ∈ code, 0 ≤ x ∧ x ≤ 255) (hs : code.length ≤ 1073741824) :
    Calls Try.prog 59 #[v] w fun e w' => e = .returned (.pointer (some ⟨w.heap.size, 0, none⟩)) ∧ Cur w' w.heap.size code ∧ Below w.heap.size w w' := by
  obtain ⟨A, cap, hv, _⟩ := id h
  subst hv
  go_enter Try.func59, Try.ntmps59
  go_wp2
  go_loop [3, 4] (fun h i => ∃ (k : Nat) (x : Int), k ≤ code.length ∧ i = .int .i64 k ∧ h = .int .i64 x) (fun _ i => code.length - (intOf i).toNat)
  case atStart => exact ⟨0, _, Nat.zero_le _, rfl, rfl⟩
  case round =>
    obtain ⟨k, x, hk, rfl, rfl⟩ := hrel
    have fin : ∀ y : Int, Cur (w.alloc (.cells #[.slice A code.length cap, .int .i64 0, .int .i64 y] 91)) w.heap.size code := fun y =>
      ⟨by simp, hb, ⟨A, cap, by simp [go_sem], h.keep (fun k hk => Below.heap_alloc w _ k hk) (Nat.le_refl _)⟩, ⟨0, by simp [go_sem], Nat.zero_le _⟩, ⟨y, by simp [go_sem]⟩, by simp [go_sem], by simp [go_sem]⟩
    have HFin := Hid.mk_ fin
    clear fin
    by_cases hlt : k < code.length
    · by_cases h4 : k < 4000
      · obtain ⟨g, off, cap', he, hg, _, _, hc⟩ := h.at_ (List.getElem?_eq_getElem hlt)
        injection he with he1 he2 he3
        clear he2
        subst he1 he3
        have p0 : w.cell? ⟨g, off + k, none⟩ = some (.int .u8 code[k]) := by simpa [FU8] using hc 0 _ rfl
        have bb := hb code[k] (List.getElem_mem hlt)
        obtain ⟨b0, b1⟩ := bb
        clear hc
        go_wp2
        go_round
        case rel => exact ⟨k + 1, _, by omega, by go_num, rfl⟩
        case measure => simp [intOf]; omega
      · go_wp2
        go_ret
        exact ⟨rfl, HFin.out _, (Below.refl _ _).alloc (Nat.le_refl _) _⟩
    · go_wp2
      go_ret
      exact ⟨rfl, HFin.out _, (Below.refl _ _).alloc (Nat.le_refl _) _⟩
theorem Cur.other {w : World} {g gz i : Nat} {code : List Int} (h : Cur w g code) (hg : g < gz) (v : Value) : Cur (w.setCell ⟨gz, i, none⟩ v) g code := by
  obtain ⟨lt, by_, ⟨A, cap, p0, r⟩, ⟨j, p1, hi⟩, ⟨hh, p2⟩, f1, f2⟩ := h
  have e : ∀ k, k ≤ g → (w.setCell ⟨gz, i, none⟩ v).heap[k]? = w.heap[k]? := fun k hk => Below.heap_setCell _ _ _ _ (by simp; omega)
  have ec : ∀ j, (w.setCell ⟨gz, i, none⟩ v).cell? ⟨g, j, none⟩ = w.cell? ⟨g, j, none⟩ := fun j => by simp only [World.cell?, e g (Nat.le_refl _)]
  have ef : ∀ j, (w.setCell ⟨gz, i, none⟩ v).frozen? ⟨g, j, none⟩ = w.frozen? ⟨g, j, none⟩ := fun j => by simp only [World.frozen?, e g (Nat.le_refl _)]
  exact ⟨by simpa using lt, by_, ⟨A, cap, (ec 0).trans p0, r.keep (fun k hk => e k (by omega)) (Nat.le_refl _)⟩, ⟨j, (ec 1).trans p1, hi⟩, ⟨hh, (ec 2).trans p2⟩, (ef 1).trans f1, (ef 2).trans f2⟩
def DrawZ (w : World) (g : Nat) (code : List Int) (e : Ending) (w' : World) : Prop := ∃ v z, e = .returned v ∧ OwL FI 3 w' v z ∧ z.length ≤ 3 ∧ (∀ b ∈ foot1 v, w.heap.size ≤ b) ∧ Cur w' g code ∧ Chg [g] w w'
theorem publishL_len (z : List Int) (a b : Int) : (publishL z a b).1.length = z.length := by
  unfold publishL
  split <;> simp
set_option maxRecDepth 100000 in
set_option maxHeartbeats 1000000 in
theorem l12Haz_ct (w : World) (g : Nat) (code : List Int) (hc : Cur w g code) : Calls Try.prog 60 #[.pointer (some ⟨g, 0, none⟩)] w (DrawZ w g code) := by
  have hgl := hc.lt
  go_enter Try.func60, Try.ntmps60
  go_wp2_with fail
  refine (HazNew_spec _).mono ?_
  rintro e w1 ⟨v1, rfl, o1, f1, hb1⟩
  have hc1 := hc.up hb1
  go_wp2_with fail
  refine (l1Below_ct _ g code 4 (by unfold I64; omega) hc1).mono ?_
  rintro e w2 ⟨n0, rfl, n0a, n0b, hc2, hg2⟩
  have hC2 : Chg [g] w w2 := (Chg.of_below hb1).trans hg2
  have o2 := o1.chg hg2 (fun b hb hm => by simp at hm; subst hm; have := f1 b hb; omega)
  obtain ⟨m0, rfl⟩ := Int.eq_ofNat_of_zero_le n0a
  clear hb1 hc1 hg2 o1
  go_wp2_with fail
  go_loopw [3, 4] (fun v i wr => ∃ k : Nat, i = .int .i64 k ∧ k ≤ 3 ∧ (∃ z, OwL FI 3 wr v z ∧ z.length = 3) ∧ (∀ b ∈ foot1 v, w.heap.size ≤ b) ∧ Cur wr g code ∧ Chg [g] w wr) (fun _ i _ => (intOf i).toNat)
  case atStart => exact ⟨m0, rfl, by omega, ⟨_, o2, rfl⟩, f1, hc2, hC2⟩
  case round =>
    obtain ⟨k, rfl, hk3, ⟨z, oz, hz3⟩, fz, hcz, hCz⟩ := hrel
    have HZ := Hid.mk_ hz3
    clear o2 hc2 hC2 hz3
    by_cases hk : 0 < k
    · go_wp2_with fail
      refine (l1Below_ct _ g code 3 (by unfold I64; omega) hcz).mono ?_
      rintro e w3 ⟨a, rfl, a0, a1, hc3, hg3⟩
      go_wp2_with fail
      refine (l1Below_ct _ g code 4 (by unfold I64; omega) hc3).mono ?_
      rintro e w4 ⟨b, rfl, b0, b1, hc4, hg4⟩
      go_wp2_with fail
      refine (l1Below_ct _ g code 2 (by unfold I64; omega) hc4).mono ?_
      rintro e w5 ⟨c, rfl, c0, c1, hc5, hg5⟩
      have c2 : c ≤ 2 := by omega
      have hg35 := (hg3.trans hg4).trans hg5
      have o5 := oz.chg hg35 (fun b hb hm => by simp at hm; subst hm; have := fz b hb; omega)
      have hC5 := hCz.trans hg35
      go_wp2_with fail
      refine (HandleOf_spec _ _ _).mono ?_
      rintro e w6 ⟨rfl, rfl⟩
      go_wp2_with fail
      refine (Publish_spec _ _ z _ _ o5.rd' (by rw [HZ.out]; decide)).mono ?_
      rintro e w7 ⟨v7, rfl, o7, f7, hb7⟩
      have hs5 := hC5.size
      go_wp2_with fail
      go_roundw
      case rel => exact ⟨k - 1, by go_num, by omega, ⟨_, o7, by rw [publishL_len]; exact HZ.out⟩, fun b hb => by have := f7 b hb; omega, hc5.up hb7, hC5.trans (Chg.of_below hb7)⟩
      case measure => simp [intOf]; omega
    · go_wp2_with fail
      refine (l1Below_ct _ g code 20 (by unfold I64; omega) hcz).mono ?_
      rintro e w3 ⟨a, rfl, a0, a1, hc3, hg3⟩
      have o3 := oz.chg hg3 (fun b hb hm => by simp at hm; subst hm; have := fz b hb; omega)
      have hC3 := hCz.trans hg3
      obtain ⟨gz, cz, rfl, hgz⟩ := o3.form_pos (by rw [HZ.out]; decide)
      have hcap : z.length ≤ cz := by obtain ⟨_, _, hv, u1, _, _⟩ := id o3.rd'; injection hv with _ _ e; omega
      have hgz0 : w.heap.size ≤ gz := fz gz (mem_foot1.2 rfl)
      clear oz hcz hCz hg3
      by_cases ha0 : a = 0
      · subst ha0
        have opre := o3.prefix_ (i := 2) (by rw [HZ.out]; decide)
        have h2c : 2 ≤ cz := by have := HZ.out; omega
        go_wp2_with fail
        go_ret
        exact ⟨_, _, rfl, opre, by simp; omega, fun b hb => fz b (mem_foot1.2 (mem_foot1.1 hb)), hc3, hC3⟩
      have ha0' : (a == 0) = false := by simpa using ha0
      by_cases ha1 : a = 1
      · subst ha1
        clear ha0 ha0'
        go_wp2_with fail
        refine (l1Below_ct _ g code 3 (by unfold I64; omega) hc3).mono ?_
        rintro e w4 ⟨i, rfl, i0, i1, hc4, hg4⟩
        obtain ⟨i, rfl⟩ := Int.eq_ofNat_of_zero_le i0
        have hi3 : i < z.length := by rw [HZ.out]; omega
        go_wp2_with fail
        have ho := OwL.lit FI [-1, 31, 56, 224] #[.int .i64 (-1), .int .i64 31, .int .i64 56, .int .i64 224] rfl (by decide) w4 3
        have hl4 := hc4.lt
        refine (l1PickInt_ct _ g code _ [-1, 31, 56, 224] ho (by simp [foot1, Value.ownBlock]; omega) (by decide) (by decide) (hc4.alloc _)).mono ?_
        rintro e w5 ⟨y, rfl, _, hc5, hg5⟩
        have hg45 := hg4.trans hg5.alloc_first
        have o5 := o3.chg hg45 (fun b hb hm => by simp at hm; subst hm; have := fz b hb; omega)
        have hC5 := hC3.trans hg45
        have p0 := o5.cellI (List.getElem?_eq_getElem hi3)
        have pf := o5.frozen_ i
        have os := o5.set_ (k := i) (j := 0) (y := y) (u := .int .i64 y) (List.getElem?_eq_getElem hi3) (by decide) rfl
        rw [show i * FI.n + 0 = i by simp [FI]] at os
        have ngz : ¬ g = gz := by omega
        have hcs : Cur (w5.setCell ⟨gz, i, none⟩ (.int .i64 y)) g code := hc5.other (by omega) _
        have hCs : Chg [g] w (w5.setCell ⟨gz, i, none⟩ (.int .i64 y)) := ⟨hC5.os, hC5.tape, hC5.output, by simpa using hC5.size, fun k hk hn => (Below.heap_setCell _ _ _ _ (by simp; omega)).trans (hC5.block k hk hn)⟩
        go_wp2_with fail
        go_ret
        exact ⟨_, _, rfl, os, by rw [List.length_set, HZ.out]; decide, fz, hcs, hCs⟩
      have ha1' : (a == 1) = false := by simpa using ha1
      clear ha0 ha1
      go_wp2_with fail
      go_ret
      exact ⟨_, _, rfl, o3, by rw [HZ.out]; decide, fz, hc3, hC3⟩
end Go.Proofs.Ytobcdcfbhfoheaa
