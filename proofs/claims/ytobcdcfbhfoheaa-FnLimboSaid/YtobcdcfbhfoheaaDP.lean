/-
  What a retired row means: plain lemmas.
-/
import Derived.Test.YtobcdcfbhfoheaaT
import Derived.Test.YtobcdcfbhfoheaaL
import Derived.Deep.QuietTactic
import Derived.BigQuiet
import Derived.Deep.LoopGhost
import Derived.Deep.RegionHeld3
import Derived.Test.YtobcdcfbhfoheaaN
import Derived.Test.YtobcdcfbhfoheaaA
import Derived.WalkSpells
import Derived.Laws.Cover3
import Derived.Test.YtobcdcfbhfoheaaDX
import Derived.Test.YtobcdcfbhfoheaaD2
namespace Go.Proofs.Ytobcdcfbhfoheaa
open Go.RowKit
theorem retire_true {ll : List (List LRow)} {a b c : Int} (h : (retireL ll a b c).2 = true) : ∃ (k : Nat) (l : List LRow), a = (k : Int) ∧ ll[k]? = some l ∧ limboOkB ll = true ∧ inB 0 2 a = true ∧ limboOkB (ll.set k (l ++ [⟨b, c⟩])) = true ∧ (retireL ll a b c).1 = ll.set k (l ++ [⟨b, c⟩]) := by
  unfold retireL at h ⊢
  split at h
  · rename_i hc
    obtain ⟨h1, h2, h3⟩ := hc
    obtain ⟨k, rfl⟩ := Int.eq_ofNat_of_zero_le (inB_iff.1 h2).1
    have hk : k < ll.length := by rw [limboOk_len h1]; have := (inB_iff.1 h2).2; omega
    rw [if_pos ⟨h1, h2, h3⟩]
    rw [Int.toNat_natCast] at h3 ⊢
    have e : retired ll k b c = ll.set k (ll[k] ++ [⟨b, c⟩]) := by unfold retired; rw [List.getD, List.getElem?_eq_getElem hk]; rfl
    rw [e] at h3 ⊢
    exact ⟨k, ll[k], rfl, List.getElem?_eq_getElem hk, h1, h2, h3, rfl⟩
  · cases h
theorem delAt_last {α : Type} (l : List α) (x : α) : delAt (l ++ [x]) l.length = l := by
  unfold delAt
  rw [List.take_left' rfl, List.drop_of_length_le (by simp), List.append_nil]
theorem drop_back {ll : List (List LRow)} {k : Nat} {l : List LRow} {r : LRow} (hl : ll[k]? = some l) (h1 : limboOkB (ll.set k (l ++ [r])) = true) (h2 : inB 0 2 (k : Int) = true) : dropL (ll.set k (l ++ [r])) (k : Int) (l.length : Int) = (ll, true) := by
  have hk : k < ll.length := (List.getElem?_eq_some_iff.1 hl).1
  have hg : (ll.set k (l ++ [r]))[k]? = some (l ++ [r]) := List.getElem?_set_self hk
  rw [drop_yes hg h1 h2 (by rw [inB_iff]; simp), delAt_last, List.set_set]
  congr 1
  apply List.ext_getElem?
  intro j
  by_cases hj : k = j
  · subst hj
    rw [List.getElem?_set_self hk, hl]
  · rw [List.getElem?_set_ne hj]
theorem bk_sum (l : List LRow) (h : ∀ r ∈ l, 0 ≤ r.Epoch) : (bkTo l 0 l.length).length + (bkTo l 1 l.length).length + (bkTo l 2 l.length).length = l.length := by
  unfold bkTo
  simp only [List.take_length, List.length_map]
  induction l with
  | nil => rfl
  | cons r l ih =>
    have ih' := ih (fun q hq => h q (List.mem_cons_of_mem _ hq))
    have h0 := h r List.mem_cons_self
    have h3 : r.Epoch.tmod 3 = 0 ∨ r.Epoch.tmod 3 = 1 ∨ r.Epoch.tmod 3 = 2 := by rw [Int.tmod_eq_emod_of_nonneg h0]; omega
    simp only [List.filter_cons, List.length_cons]
    rcases h3 with e | e | e <;> simp only [e] <;> simp <;> omega
theorem bk_mem (l : List LRow) (r : LRow) (h : r ∈ l) : ((bkTo l (r.Epoch.tmod 3) l.length).any fun y => y == r.Handle) = true := by
  unfold bkTo
  rw [List.take_length, List.any_eq_true]
  exact ⟨r.Handle, List.mem_map.2 ⟨r, List.mem_filter.2 ⟨h, by simp⟩, rfl⟩, by simp⟩
theorem perm_set {ll : List (List LRow)} {k : Nat} {l : List LRow} (r : LRow) (hl : ll[k]? = some l) : (ll.set k (l ++ [r])).flatten.Perm (r :: ll.flatten) := by
  induction ll generalizing k with
  | nil => simp at hl
  | cons x xs ih =>
    cases k with
    | zero =>
      simp only [List.getElem?_cons_zero, Option.some.injEq] at hl
      subst hl
      simp only [List.set_cons_zero, List.flatten_cons, List.append_assoc]
      exact List.perm_middle
    | succ k =>
      simp only [List.getElem?_cons_succ] at hl
      simp only [List.set_cons_succ, List.flatten_cons]
      exact ((ih hl).append_left x).trans List.perm_middle
theorem rows_at {ll : List (List LRow)} (h : limboOkB ll = true) (i : Nat) (r : LRow) (hr : ll.flatten[i]? = some r) : rowOkAt ll.flatten i r = true := by
  simp only [limboOkB, Bool.and_eq_true, rowsOkTo, List.all_eq_true, List.mem_range] at h
  have hi : i < ll.flatten.length := (List.getElem?_eq_some_iff.1 hr).1
  have := h.2 i hi
  rw [hr] at this
  exact this
theorem slots_nodup {ll : List (List LRow)} (h : limboOkB ll = true) : (ll.flatten.map fun r => r.Handle % 32).Nodup := by
  rw [List.nodup_iff_pairwise_ne, List.pairwise_iff_getElem]
  intro i j hi hj hij
  simp only [List.length_map] at hi hj
  simp only [List.getElem_map]
  have a := rows_at h j _ (List.getElem?_eq_getElem hj)
  simp only [rowOkAt, Bool.and_eq_true, Bool.not_eq_true'] at a
  intro e
  have b := List.any_eq_false.1 a.2 (ll.flatten[i].Handle % 32) (List.mem_map.2 ⟨ll.flatten[i], List.mem_take_iff_getElem.2 ⟨i, by omega, rfl⟩, rfl⟩)
  exact b (by simpa using e)
theorem row_ok {ll : List (List LRow)} (h : limboOkB ll = true) (r : LRow) (hr : r ∈ ll.flatten) : handleOkB r.Handle = true ∧ 0 ≤ r.Epoch := by
  obtain ⟨i, hi⟩ := List.mem_iff_getElem?.1 hr
  have a := rows_at h i r hi
  simp only [rowOkAt, Bool.and_eq_true, decide_eq_true_eq] at a
  exact ⟨a.1.1.1, a.1.1.2⟩
theorem limbo_law {ll : List (List LRow)} {a b c : Int} (h : (retireL ll a b c).2 = true) :
    ∃ (k : Nat) (l : List LRow), a = (k : Int) ∧ ll[k]? = some l ∧ k < 3 ∧ (retireL ll a b c).1 = ll.set k (l ++ [⟨b, c⟩]) ∧ dropL (retireL ll a b c).1 a (l.length : Int) = (ll, true) ∧ (retireL (retireL ll a b c).1 a b c).2 = false ∧
      (bucketL (retireL ll a b c).1 a 0).length + (bucketL (retireL ll a b c).1 a 1).length + (bucketL (retireL ll a b c).1 a 2).length = l.length + 1 ∧
      inLimboB (retireL ll a b c).1 (slotOf b) = true ∧ inLimboB ll (slotOf b) = false ∧ ((bucketL (retireL ll a b c).1 a (c.tmod 3)).any fun y => y == b) = true ∧
      totLL (retireL ll a b c).1 = totLL ll + 1 ∧ limboOkB (retireL ll a b c).1 = true ∧ szLL (retireL ll a b c).1 ≤ 27 ∧ szLL ll ≤ 27 ∧ 0 ≤ c := by
  obtain ⟨k, l, rfl, hl, h1, h2, h3, h4⟩ := retire_true h
  have hk : k < ll.length := (List.getElem?_eq_some_iff.1 hl).1
  have hk3 : k < 3 := by have := (inB_iff.1 h2).2; omega
  have hp := perm_set (⟨b, c⟩ : LRow) hl
  have hmem : (⟨b, c⟩ : LRow) ∈ (ll.set k (l ++ [⟨b, c⟩])).flatten := hp.symm.subset List.mem_cons_self
  obtain ⟨hok, hc0⟩ := row_ok h3 _ hmem
  have hsl := (slotOf_ok hok).1
  have hnd := ((hp.map fun r => r.Handle % 32).nodup_iff).1 (slots_nodup h3)
  simp only [List.map_cons, List.nodup_cons] at hnd
  have hg : (ll.set k (l ++ [⟨b, c⟩])).getD (k : Int).toNat [] = l ++ [⟨b, c⟩] := by rw [Int.toNat_natCast, List.getD, List.getElem?_set_self hk]; rfl
  have hbk : ∀ q, bucketL (ll.set k (l ++ [⟨b, c⟩])) (k : Int) q = bkTo (l ++ [(⟨b, c⟩ : LRow)]) q (l ++ [(⟨b, c⟩ : LRow)]).length := fun q => by unfold bucketL; rw [if_pos ⟨h3, h2⟩]; simp only [hg]
  have hrow : ∀ r ∈ l ++ [(⟨b, c⟩ : LRow)], 0 ≤ r.Epoch := fun r hr => (row_ok h3 r (List.mem_flatten.2 ⟨_, List.mem_of_getElem? (List.getElem?_set_self hk), hr⟩)).2
  rw [h4]
  refine ⟨k, l, rfl, hl, hk3, rfl, drop_back hl h3 h2, ?_, ?_, ?_, ?_, ?_, ?_, h3, ?_, ?_, hc0⟩
  · cases hb : (retireL (ll.set k (l ++ [⟨b, c⟩])) (k : Int) b c).2 with
    | false => rfl
    | true =>
      obtain ⟨k2, l2, e, hl2, _, _, h5, _⟩ := retire_true hb
      have hp2 := perm_set (⟨b, c⟩ : LRow) hl2
      have hnd2 := ((hp2.map fun r => r.Handle % 32).nodup_iff).1 (slots_nodup h5)
      simp only [List.map_cons, List.nodup_cons] at hnd2
      exact absurd (List.mem_map.2 ⟨_, hmem, rfl⟩) hnd2.1
  · rw [hbk, hbk, hbk, bk_sum _ hrow]
    simp
  · unfold inLimboB
    rw [← any_flatten_, List.any_eq_true]
    exact ⟨_, hmem, by simp [inRowB, hok, hsl]⟩
  · unfold inLimboB
    rw [← any_flatten_, List.any_eq_false]
    intro r hr he
    simp only [inRowB, Bool.and_eq_true, beq_iff_eq, hsl] at he
    exact hnd.1 (List.mem_map.2 ⟨r, hr, he.2⟩)
  · rw [hbk]
    exact bk_mem _ (⟨b, c⟩ : LRow) (List.mem_append.2 (.inr List.mem_cons_self))
  · rw [totLL_eq, totLL_eq, hp.length_eq]
    rfl
  · rw [szLL_tot]
    have := limboOk_tot h3
    have := limboOk_len h3
    omega
  · rw [szLL_tot]
    have := limboOk_tot h1
    have := limboOk_len h1
    omega
end Go.Proofs.Ytobcdcfbhfoheaa
