/-
  Boxes: the cells of a block that the call made itself, in a world that is known only so far.
-/
import Derived.Test.YtkldapdpaldbgaaGreatT
import Derived.Test.YtkldapdpaldbgaaGreatL
import Derived.Deep.QuietTactic
import Derived.BigQuiet
import Derived.Deep.LoopGhost
import Derived.Deep.RegionHeld3
import Derived.Test.YtkldapdpaldbgaaGreatN
import Derived.Test.YtkldapdpaldbgaaGreatA
import Derived.WalkSpells
import Derived.Laws.Cover3
import Derived.Test.YtkldapdpaldbgaaGreatJ
import Derived.Deep.WholeRow
namespace Go.Proofs.YtkldapdpaldbgaaGreat
open Go.RowKit
variable {α : Type} {T : FT α}
structure Box (w : World) (g : Nat) (vs : List Value) : Prop where
  lt : g < w.heap.size
  cell : ∀ j v, vs[j]? = some v → w.cell? ⟨g, j, none⟩ = some v
  fro : ∀ j, w.frozen? ⟨g, j, none⟩ = false
theorem Box.of_block {w w' : World} {g : Nat} {vs : List Value} (h : Box w g vs) (hs : w.heap.size ≤ w'.heap.size) (hb : w'.heap[g]? = w.heap[g]?) : Box w' g vs :=
  ⟨Nat.lt_of_lt_of_le h.lt hs, fun j v hv => by simpa [World.cell?, hb] using h.cell j v hv, fun j => by simpa [World.frozen?, hb] using h.fro j⟩
theorem Box.below {w w' : World} {g : Nat} {vs : List Value} (h : Box w g vs) (hb : Below w.heap.size w w') : Box w' g vs := h.of_block hb.size (hb.block g h.lt)
theorem Box.chg {w w' : World} {g : Nat} {vs : List Value} {F : List Nat} (h : Box w g vs) (hc : Chg F w w') (hn : g ∉ F) : Box w' g vs := h.of_block hc.size (hc.block g h.lt hn)
theorem heap_set_other (w : World) {g g' i : Nat} (v : Value) (hn : g ≠ g') : (w.setCell ⟨g, i, none⟩ v).heap[g']? = w.heap[g']? := Below.heap_setCell _ _ _ _ (fun e => hn e.symm)
theorem Box.other {w : World} {g : Nat} {vs : List Value} (h : Box w g vs) {g' i : Nat} (hn : g' ≠ g) (v : Value) : Box (w.setCell ⟨g', i, none⟩ v) g vs := h.of_block (by simp) (heap_set_other w v hn)
theorem Box.set {w : World} {g : Nat} {vs : List Value} (h : Box w g vs) (i : Nat) (v : Value) : Box (w.setCell ⟨g, i, none⟩ v) g (vs.set i v) := by
  refine ⟨by simpa using h.lt, fun j u hu => ?_, fun j => ?_⟩
  · by_cases hij : i = j
    · subst hij
      rw [List.getElem?_set] at hu
      by_cases hl : i < vs.length
      · simp [hl] at hu
        subst hu
        have := h.cell i _ (List.getElem?_eq_getElem hl)
        simp [go_sem, this]
      · simp [hl] at hu
    · rw [List.getElem?_set, if_neg hij] at hu
      rw [World.cell?_setCell_other _ _ _ _ (by intro e; simp only [Addr.mk.injEq] at e; omega)]
      exact h.cell j u hu
  · have := h.fro j
    simp [go_sem, this]
theorem Box.alloc {w : World} {g : Nat} {vs : List Value} (h : Box w g vs) (o : Obj) : Box (w.alloc o) g vs := h.of_block (by simp) (Below.heap_alloc w o g h.lt)
theorem Box.drew {w : World} {g : Nat} {vs : List Value} (h : Box w g vs) : Box w.drew g vs := h.of_block (Nat.le_refl _) rfl
theorem Box.drewN {w : World} {g : Nat} {vs : List Value} (h : Box w g vs) (n : Nat) : Box (w.drewN n) g vs := h.of_block (Nat.le_refl _) rfl
theorem Box.new (w : World) (vs : Array Value) (ty : TypeId) : Box (w.alloc (.cells vs ty)) w.heap.size vs.toList := by
  refine ⟨by simp, fun j v hv => ?_, fun j => by simp [go_sem]⟩
  have : vs[j]? = some v := by simpa using hv
  simp only [World.cell?, heap_alloc_last]
  exact this
theorem Chg.set_ {F : List Nat} {w w' : World} (h : Chg F w w') {g i : Nat} (hg : g ∈ F) (v : Value) : Chg F w (w'.setCell ⟨g, i, none⟩ v) :=
  ⟨h.os, h.tape, h.output, by simpa using h.size, fun k hk hn => (Below.heap_setCell _ _ _ _ (fun e => by have e' : k = g := e; exact hn (e' ▸ hg))).trans (h.block k hk hn)⟩
theorem Chg.alloc_ {F : List Nat} {w w' : World} (h : Chg F w w') (o : Obj) : Chg F w (w'.alloc o) :=
  ⟨h.os, h.tape, h.output, Nat.le_trans h.size (by simp), fun k hk hn => (Below.heap_alloc w' o k (Nat.lt_of_lt_of_le hk h.size)).trans (h.block k hk hn)⟩
theorem Chg.after_alloc {F : List Nat} {w w' : World} {o : Obj} (h : Chg F (w.alloc o) w') : Chg F w w' := ((Chg.refl F w).alloc_ o).trans h
theorem leftOf_split {k a b : Nat} (h : a ≤ k) : leftOf (k - a) b = leftOf k (a + b) := by
  unfold leftOf
  by_cases h1 : a + b ≤ k
  · rw [if_pos (by omega), if_pos h1]; omega
  · rw [if_neg (by omega), if_neg h1]
theorem leftOf_nat {k a : Nat} (h : a ≤ k) : leftOf k a = ((k - a : Nat) : Int) := by rw [leftOf_pos h]; omega
theorem RdL.len_ {w : World} {B : Nat} {a : Option Addr} {n c : Nat} {l : List α} (h : RdL T w B (.slice a n c) l) : n = l.length ∧ n ≤ 9223372036854775807 := by
  obtain ⟨A, c', hv, q1, q2, _⟩ := id h
  injection hv with h1 h2 h3
  refine ⟨h2, ?_⟩
  unfold maxLen at q2
  omega
end Go.Proofs.YtkldapdpaldbgaaGreat
