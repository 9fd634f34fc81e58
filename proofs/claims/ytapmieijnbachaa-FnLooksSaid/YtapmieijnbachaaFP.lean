/-
  Clocks that look at pins: the plain law behind FnLooks.
-/
import Derived.Test.YtapmieijnbachaaT
import Derived.Test.YtapmieijnbachaaL
import Derived.Deep.QuietTactic
import Derived.BigQuiet
import Derived.Deep.LoopGhost
import Derived.Deep.RegionHeld3
import Derived.Test.YtapmieijnbachaaN
import Derived.Test.YtapmieijnbachaaA
import Derived.WalkSpells
import Derived.Laws.Cover3
import Derived.Test.YtapmieijnbachaaL6
namespace Go.Proofs.Ytapmieijnbachaa
open Go.RowKit
theorem pinB_mono {e e' : Int} {p : Pin} (h : pinB e p = true) (h1 : e ≤ e') : pinB e' p = true := by
  unfold pinB at h ⊢
  simp only [Bool.and_eq_true] at h ⊢
  obtain ⟨⟨a, b⟩, c⟩ := h
  exact ⟨⟨inB_iff.2 ⟨(inB_iff.1 a).1, by have := (inB_iff.1 a).2; omega⟩, b⟩, c⟩
theorem clk_set {e e' : Int} {l : List Pin} {k : Nat} {p : Pin} (h : clockOkB ⟨e, l⟩ = true) (h1 : e ≤ e') (h2 : e' ≤ 100000) (hp : pinB e' p = true) : clockOkB ⟨e', l.set k p⟩ = true := by
  unfold clockOkB at h ⊢
  simp only [Bool.and_eq_true] at h ⊢
  obtain ⟨⟨a, b⟩, c⟩ := h
  have a' := inB_iff.1 a
  refine ⟨⟨inB_iff.2 ⟨by omega, h2⟩, by simpa using b⟩, ?_⟩
  rw [List.all_eq_true] at c ⊢
  intro q hq
  rcases List.mem_or_eq_of_mem_set hq with h | rfl
  · exact pinB_mono (c q h) h1
  · exact hp
theorem get_set {l : List Pin} {k : Nat} {p : Pin} (hk : k < l.length) : (l.set k p).getD ((k : Nat) : Int).toNat pin0 = p := by
  simp [List.getD, hk]
structure Looks (c : Clock) (w : Int) (k : Nat) (X Y P Q R Z : Clock) : Prop where
  wk : w = (k : Int)
  k3 : k < 3
  x : (pinToC c w c.Epoch).1 = X
  e0 : 0 ≤ X.Epoch
  e1 : X.Epoch ≤ 100000
  lx : X.Pins.length ≤ 3
  ly : Y.Pins.length ≤ 3
  lp : P.Pins.length ≤ 3
  lq : Q.Pins.length ≤ 3
  lr : R.Pins.length ≤ 3
  lz : Z.Pins.length ≤ 3
  a : lookC X (k : Int) X.Epoch = (X, true)
  b0 : ¬ X.Epoch < 100000 → bumpC X X.Epoch = (X, false)
  b1 : X.Epoch < 100000 → bumpC X X.Epoch = (Y, true)
  yE : Y.Epoch = X.Epoch + 1
  p : X.Epoch < 100000 → lookC Y (k : Int) Y.Epoch = (P, false)
  q : X.Epoch < 100000 → lookC P (k : Int) Y.Epoch = (Q, false)
  r : X.Epoch < 100000 → lookC Q (k : Int) Y.Epoch = (R, true)
  r2 : X.Epoch < 100000 → (lookC R (k : Int) Y.Epoch) = (R, true)
  n : X.Epoch < 100000 → pinnedC R (k : Int) = (0, false)
  s : X.Epoch < 100000 → pinnedC Q (k : Int) = (X.Epoch, true)
  z : X.Epoch < 100000 → unpinC R (k : Int) = (Z, true)
  z2 : X.Epoch < 100000 → unpinC Z (k : Int) = (Z, false)
  hy : X.Epoch < 100000 → (k : Int) ∈ behL Y
  hr : X.Epoch < 100000 → ¬ (k : Int) ∈ behL R
  okr : X.Epoch < 100000 → clockOkB R = true
  okz : X.Epoch < 100000 → clockOkB Z = true
theorem mem_beh {x : Clock} {k : Nat} (h : clockOkB x = true) (hk : k < 3) : (k : Int) ∈ behL x ↔ behB x (x.Pins.getD k pin0) = true := by
  unfold behL
  rw [if_pos h]
  unfold behTo
  rw [List.mem_map]
  constructor
  · rintro ⟨j, hj, e⟩
    have e' : j = k := by omega
    subst e'
    exact (List.mem_filter.1 hj).2
  · intro hb
    exact ⟨k, List.mem_filter.2 ⟨List.mem_range.2 hk, hb⟩, rfl⟩
theorem looks_law {c : Clock} {w : Int} (h : (pinToC c w c.Epoch).2 = true) : ∃ k X Y P Q R Z, Looks c w k X Y P Q R Z := by
  unfold pinToC at h
  split at h
  case isFalse => cases h
  rename_i hc
  obtain ⟨h1, h2, h3⟩ := id hc
  obtain ⟨E, l⟩ := c
  have hl : l.length = 3 := clockOk_len h1
  have i2 := inB_iff.1 h2
  have i3 := inB_iff.1 h3
  obtain ⟨k, rfl⟩ := Int.eq_ofNat_of_zero_le i2.1
  have hk : k < 3 := by omega
  have hk' : k < l.length := by omega
  have hE : 0 ≤ E ∧ E ≤ 100000 := by
    have h1' := h1
    unfold clockOkB at h1'
    simp only [Bool.and_eq_true] at h1'
    exact inB_iff.1 h1'.1.1
  have hp0 : ∀ e' : Int, E ≤ e' → ∀ m s, 0 ≤ s → s ≤ 2 → pinB e' ⟨true, E, m, s⟩ = true := by
    intro e' he m s s0 s2
    unfold pinB
    simp only [Bool.and_eq_true, Bool.true_or, and_true]
    exact ⟨inB_iff.2 ⟨hE.1, he⟩, inB_iff.2 ⟨s0, s2⟩⟩
  have hpz : ∀ e' : Int, E ≤ e' → pinB e' pin0 = true := by
    intro e' he
    unfold pinB pin0
    simp only [Bool.and_eq_true]
    exact ⟨⟨inB_iff.2 ⟨Int.le_refl _, by omega⟩, inB_iff.2 ⟨by decide, by decide⟩⟩, by simp⟩
  have ok := fun (e' : Int) (he : E ≤ e') (he2 : e' ≤ 100000) (p : Pin) (hp : pinB e' p = true) => clk_set (k := k) h1 he he2 hp
  have g := fun (p : Pin) => get_set (p := p) hk'
  have g' := fun (p : Pin) => (show (l.set k p).getD k pin0 = p by simp [List.getD, hk'])
  have okX := ok E (Int.le_refl _) hE.2 _ (hp0 E (Int.le_refl _) false 0 (by omega) (by omega))
  refine ⟨k, ⟨E, l.set k ⟨true, E, false, 0⟩⟩, ⟨E + 1, l.set k ⟨true, E, false, 0⟩⟩, ⟨E + 1, l.set k ⟨true, E, false, 1⟩⟩, ⟨E + 1, l.set k ⟨true, E, false, 2⟩⟩, ⟨E + 1, l.set k ⟨true, E, true, 0⟩⟩, ⟨E + 1, l.set k pin0⟩, ?_⟩
  have oky := fun (hlt : E < 100000) (p : Pin) (hp : pinB (E + 1) p = true) => ok (E + 1) (by omega) (by omega) p hp
  have hp1 := fun (m : Bool) (s : Int) (s0 : 0 ≤ s) (s2 : s ≤ 2) => hp0 (E + 1) (by omega) m s s0 s2
  constructor
  case wk => rfl
  case k3 => exact hk
  case x => unfold pinToC; rw [if_pos hc, Int.toNat_natCast]
  case e0 => exact hE.1
  case e1 => exact hE.2
  case lx => simp; omega
  case ly => simp; omega
  case lp => simp; omega
  case lq => simp; omega
  case lr => simp; omega
  case lz => simp; omega
  case a => exact look_same okX h2 (g _) (.inr (.inr rfl))
  case b0 => intro hn; unfold bumpC; exact if_neg (fun hh => hh.2.2 (by simp only at hn ⊢; omega))
  case b1 => intro hlt; unfold bumpC; simp only at hlt; exact if_pos ⟨okX, rfl, by simp only; omega⟩
  case yE => rfl
  case p =>
    intro hlt
    rw [look_more (oky hlt _ (hp1 false 0 (by omega) (by omega))) h2 (g _) (by simp; omega) (by simp)]
    simp [List.set_set]
  case q =>
    intro hlt
    rw [look_more (oky hlt _ (hp1 false 1 (by omega) (by omega))) h2 (g _) (by simp; omega) (by simp)]
    simp [List.set_set]
  case r =>
    intro hlt
    rw [look_mark (oky hlt _ (hp1 false 2 (by omega) (by omega))) h2 (g _) (by simp; omega) (by simp)]
    simp [List.set_set]
  case r2 => intro hlt; exact look_same (oky hlt _ (hp1 true 0 (by omega) (by omega))) h2 (g _) (.inr (.inl rfl))
  case n => intro hlt; unfold pinnedC; exact if_neg (fun hh => by have := hh.2.2.2; rw [g] at this; cases this)
  case s => intro hlt; unfold pinnedC; rw [if_pos ⟨oky hlt _ (hp1 false 2 (by omega) (by omega)), h2, by rw [g], by rw [g]⟩, g]
  case z => intro hlt; unfold unpinC; rw [if_pos ⟨oky hlt _ (hp1 true 0 (by omega) (by omega)), h2, by rw [g]⟩, Int.toNat_natCast]; simp [List.set_set]
  case z2 => intro hlt; unfold unpinC; exact if_neg (fun hh => by have := hh.2.2; rw [g] at this; cases this)
  case hy => intro hlt; exact (mem_beh (oky hlt _ (hp1 false 0 (by omega) (by omega))) hk).2 (by rw [g']; simp [behB]; omega)
  case hr => intro hlt hm; have := (mem_beh (oky hlt _ (hp1 true 0 (by omega) (by omega))) hk).1 hm; rw [g'] at this; simp [behB] at this
  case okr => intro hlt; exact oky hlt _ (hp1 true 0 (by omega) (by omega))
  case okz => intro hlt; exact oky hlt _ (hpz _ (by omega))
end Go.Proofs.Ytapmieijnbachaa
