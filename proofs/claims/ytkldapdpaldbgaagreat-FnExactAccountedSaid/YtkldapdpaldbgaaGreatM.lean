/-
  Words for memory: a world that has only grown; a slice that reads as a list.
  Plain definitions and theorems; no program in sight.
-/
import Derived.Test.YtkldapdpaldbgaaGreatRows
import Derived.WalkKit
import Derived.WalkSpells
import Derived.WalkLawsBesides
import Derived.Deep.Draws
import Derived.Deep.OwnRows
namespace Go.Proofs.YtkldapdpaldbgaaGreat
open Go.RowKit

/-- A number that an int holds. -/
def I64 (x : Int) : Prop := -9223372036854775808 ≤ x ∧ x ≤ 9223372036854775807

/-- The world with blocks more, and some draws. -/
def grow (w : World) (os : List Obj) (d : Nat) : World := { w with heap := w.heap ++ os.toArray, drawn := d }

section
variable (w : World) (os os' : List Obj) (d d' : Nat)
@[go_sem, simp] theorem size_grow : (grow w os d).heap.size = w.heap.size + os.length := by simp [grow]
theorem heap_grow (k : Nat) (h : k < w.heap.size) : (grow w os d).heap[k]? = w.heap[k]? := by
  show (w.heap ++ os.toArray)[k]? = _
  rw [Array.getElem?_append, if_pos h]
@[go_sem] theorem cell?_grow (n i : Nat) (hn : n < w.heap.size) : (grow w os d).cell? ⟨n, i, none⟩ = w.cell? ⟨n, i, none⟩ := by
  simp [World.cell?, heap_grow w os d n hn]
@[go_sem] theorem frozen?_grow (n i : Nat) (hn : n < w.heap.size) : (grow w os d).frozen? ⟨n, i, none⟩ = w.frozen? ⟨n, i, none⟩ := by
  simp [World.frozen?, heap_grow w os d n hn]
@[go_sem] theorem setCell_grow (n i : Nat) (v : Value) (hn : n < w.heap.size) : (grow w os d).setCell ⟨n, i, none⟩ v = grow (w.setCell ⟨n, i, none⟩ v) os d := by
  unfold grow World.setCell
  congr 1
  apply Array.ext_getElem?
  intro k
  simp only [Array.getElem?_modify, Array.getElem?_append, Array.size_modify]
  by_cases hk : k < w.heap.size
  · simp [hk]
  · have : ¬ n = k := by omega
    simp [hk, this]
@[go_sem] theorem drew_grow : (grow w os d).drew = grow w os (d + 1) := rfl
@[go_sem] theorem drewN_grow (n : Nat) : (grow w os d).drewN n = grow w os (d + n) := rfl
@[go_sem] theorem grow_drew : grow w.drew os d = grow w os d := rfl
@[go_sem] theorem grow_drewN (n : Nat) : grow (w.drewN n) os d = grow w os d := rfl
theorem grow_grow : grow (grow w os d) os' d' = grow w (os ++ os') d' := by simp [grow]
@[go_sem, simp] theorem tape_grow : (grow w os d).tape = w.tape := rfl
theorem below_grow : Below w.heap.size w (grow w os d) := ⟨rfl, rfl, rfl, by simp, fun k hk => heap_grow w os d k hk⟩
end

theorem below_grow_of {B : Nat} {a w : World} (h : Below B a w) (hB : B ≤ w.heap.size) (os : List Obj) (d : Nat) : Below B a (grow w os d) :=
  h.trans ((below_grow w os d).mono hB)

theorem below_drewN {B : Nat} {a w : World} (h : Below B a w) (n : Nat) : Below B a (w.drewN n) := h.trans ⟨rfl, rfl, rfl, Nat.le_refl _, fun _ _ => rfl⟩

/-- What is as it was below the heap's end has only grown. -/
theorem below_grows {w w' : World} (h : Below w.heap.size w w') : ∃ os d, w' = grow w os d := by
  refine ⟨w'.heap.toList.drop w.heap.size, w'.drawn, ?_⟩
  obtain ⟨h1, h2, h3, h4, h5⟩ := h
  have hh : w'.heap = w.heap ++ (w'.heap.toList.drop w.heap.size).toArray := by
    apply Array.ext_getElem?
    intro k
    rw [Array.getElem?_append]
    by_cases hk : k < w.heap.size
    · rw [if_pos hk, h5 k hk]
    · rw [if_neg hk]
      simp only [List.getElem?_toArray, List.getElem?_drop, Array.getElem?_toList]
      rw [show w.heap.size + (k - w.heap.size) = k by omega]
  cases w'
  cases w
  simp only [grow] at *
  subst h1 h2 h3
  rw [← hh]

/-! Block numbers are told apart: each is a beginning of the next one's sum. -/
@[go_sem] theorem pos_sum (a b : Nat) : (0 < a + b) ↔ (0 < a ∨ 0 < b) := by omega
@[go_sem] theorem ltc2 (a b1 b2 : Nat) : (a < a + b1 + b2) ↔ (0 < b1 + b2) := by omega
@[go_sem] theorem eqc2 (a b1 b2 : Nat) : (a + b1 + b2 = a) ↔ (b1 + b2 = 0) := by omega
@[go_sem] theorem eqd2 (a b1 b2 : Nat) : (a = a + b1 + b2) ↔ (b1 + b2 = 0) := by omega
@[go_sem] theorem ltc3 (a b1 b2 b3 : Nat) : (a < a + b1 + b2 + b3) ↔ (0 < b1 + b2 + b3) := by omega
@[go_sem] theorem eqc3 (a b1 b2 b3 : Nat) : (a + b1 + b2 + b3 = a) ↔ (b1 + b2 + b3 = 0) := by omega
@[go_sem] theorem eqd3 (a b1 b2 b3 : Nat) : (a = a + b1 + b2 + b3) ↔ (b1 + b2 + b3 = 0) := by omega
@[go_sem] theorem ltc4 (a b1 b2 b3 b4 : Nat) : (a < a + b1 + b2 + b3 + b4) ↔ (0 < b1 + b2 + b3 + b4) := by omega
@[go_sem] theorem eqc4 (a b1 b2 b3 b4 : Nat) : (a + b1 + b2 + b3 + b4 = a) ↔ (b1 + b2 + b3 + b4 = 0) := by omega
@[go_sem] theorem eqd4 (a b1 b2 b3 b4 : Nat) : (a = a + b1 + b2 + b3 + b4) ↔ (b1 + b2 + b3 + b4 = 0) := by omega
@[go_sem] theorem ltc5 (a b1 b2 b3 b4 b5 : Nat) : (a < a + b1 + b2 + b3 + b4 + b5) ↔ (0 < b1 + b2 + b3 + b4 + b5) := by omega
@[go_sem] theorem eqc5 (a b1 b2 b3 b4 b5 : Nat) : (a + b1 + b2 + b3 + b4 + b5 = a) ↔ (b1 + b2 + b3 + b4 + b5 = 0) := by omega
@[go_sem] theorem eqd5 (a b1 b2 b3 b4 b5 : Nat) : (a = a + b1 + b2 + b3 + b4 + b5) ↔ (b1 + b2 + b3 + b4 + b5 = 0) := by omega
@[go_sem] theorem ltc6 (a b1 b2 b3 b4 b5 b6 : Nat) : (a < a + b1 + b2 + b3 + b4 + b5 + b6) ↔ (0 < b1 + b2 + b3 + b4 + b5 + b6) := by omega
@[go_sem] theorem eqc6 (a b1 b2 b3 b4 b5 b6 : Nat) : (a + b1 + b2 + b3 + b4 + b5 + b6 = a) ↔ (b1 + b2 + b3 + b4 + b5 + b6 = 0) := by omega
@[go_sem] theorem eqd6 (a b1 b2 b3 b4 b5 b6 : Nat) : (a = a + b1 + b2 + b3 + b4 + b5 + b6) ↔ (b1 + b2 + b3 + b4 + b5 + b6 = 0) := by omega
@[go_sem] theorem ltc7 (a b1 b2 b3 b4 b5 b6 b7 : Nat) : (a < a + b1 + b2 + b3 + b4 + b5 + b6 + b7) ↔ (0 < b1 + b2 + b3 + b4 + b5 + b6 + b7) := by omega
@[go_sem] theorem eqc7 (a b1 b2 b3 b4 b5 b6 b7 : Nat) : (a + b1 + b2 + b3 + b4 + b5 + b6 + b7 = a) ↔ (b1 + b2 + b3 + b4 + b5 + b6 + b7 = 0) := by omega
@[go_sem] theorem eqd7 (a b1 b2 b3 b4 b5 b6 b7 : Nat) : (a = a + b1 + b2 + b3 + b4 + b5 + b6 + b7) ↔ (b1 + b2 + b3 + b4 + b5 + b6 + b7 = 0) := by omega
@[go_sem] theorem ltc8 (a b1 b2 b3 b4 b5 b6 b7 b8 : Nat) : (a < a + b1 + b2 + b3 + b4 + b5 + b6 + b7 + b8) ↔ (0 < b1 + b2 + b3 + b4 + b5 + b6 + b7 + b8) := by omega
@[go_sem] theorem eqc8 (a b1 b2 b3 b4 b5 b6 b7 b8 : Nat) : (a + b1 + b2 + b3 + b4 + b5 + b6 + b7 + b8 = a) ↔ (b1 + b2 + b3 + b4 + b5 + b6 + b7 + b8 = 0) := by omega
@[go_sem] theorem eqd8 (a b1 b2 b3 b4 b5 b6 b7 b8 : Nat) : (a = a + b1 + b2 + b3 + b4 + b5 + b6 + b7 + b8) ↔ (b1 + b2 + b3 + b4 + b5 + b6 + b7 + b8 = 0) := by omega
@[go_sem] theorem ltc9 (a b1 b2 b3 b4 b5 b6 b7 b8 b9 : Nat) : (a < a + b1 + b2 + b3 + b4 + b5 + b6 + b7 + b8 + b9) ↔ (0 < b1 + b2 + b3 + b4 + b5 + b6 + b7 + b8 + b9) := by omega
@[go_sem] theorem eqc9 (a b1 b2 b3 b4 b5 b6 b7 b8 b9 : Nat) : (a + b1 + b2 + b3 + b4 + b5 + b6 + b7 + b8 + b9 = a) ↔ (b1 + b2 + b3 + b4 + b5 + b6 + b7 + b8 + b9 = 0) := by omega
@[go_sem] theorem eqd9 (a b1 b2 b3 b4 b5 b6 b7 b8 b9 : Nat) : (a = a + b1 + b2 + b3 + b4 + b5 + b6 + b7 + b8 + b9) ↔ (b1 + b2 + b3 + b4 + b5 + b6 + b7 + b8 + b9 = 0) := by omega
@[go_sem] theorem ltc10 (a b1 b2 b3 b4 b5 b6 b7 b8 b9 b10 : Nat) : (a < a + b1 + b2 + b3 + b4 + b5 + b6 + b7 + b8 + b9 + b10) ↔ (0 < b1 + b2 + b3 + b4 + b5 + b6 + b7 + b8 + b9 + b10) := by omega
@[go_sem] theorem eqc10 (a b1 b2 b3 b4 b5 b6 b7 b8 b9 b10 : Nat) : (a + b1 + b2 + b3 + b4 + b5 + b6 + b7 + b8 + b9 + b10 = a) ↔ (b1 + b2 + b3 + b4 + b5 + b6 + b7 + b8 + b9 + b10 = 0) := by omega
@[go_sem] theorem eqd10 (a b1 b2 b3 b4 b5 b6 b7 b8 b9 b10 : Nat) : (a = a + b1 + b2 + b3 + b4 + b5 + b6 + b7 + b8 + b9 + b10) ↔ (b1 + b2 + b3 + b4 + b5 + b6 + b7 + b8 + b9 + b10 = 0) := by omega
@[go_sem] theorem ltc11 (a b1 b2 b3 b4 b5 b6 b7 b8 b9 b10 b11 : Nat) : (a < a + b1 + b2 + b3 + b4 + b5 + b6 + b7 + b8 + b9 + b10 + b11) ↔ (0 < b1 + b2 + b3 + b4 + b5 + b6 + b7 + b8 + b9 + b10 + b11) := by omega
@[go_sem] theorem eqc11 (a b1 b2 b3 b4 b5 b6 b7 b8 b9 b10 b11 : Nat) : (a + b1 + b2 + b3 + b4 + b5 + b6 + b7 + b8 + b9 + b10 + b11 = a) ↔ (b1 + b2 + b3 + b4 + b5 + b6 + b7 + b8 + b9 + b10 + b11 = 0) := by omega
@[go_sem] theorem eqd11 (a b1 b2 b3 b4 b5 b6 b7 b8 b9 b10 b11 : Nat) : (a = a + b1 + b2 + b3 + b4 + b5 + b6 + b7 + b8 + b9 + b10 + b11) ↔ (b1 + b2 + b3 + b4 + b5 + b6 + b7 + b8 + b9 + b10 + b11 = 0) := by omega
@[go_sem] theorem ltc12 (a b1 b2 b3 b4 b5 b6 b7 b8 b9 b10 b11 b12 : Nat) : (a < a + b1 + b2 + b3 + b4 + b5 + b6 + b7 + b8 + b9 + b10 + b11 + b12) ↔ (0 < b1 + b2 + b3 + b4 + b5 + b6 + b7 + b8 + b9 + b10 + b11 + b12) := by omega
@[go_sem] theorem eqc12 (a b1 b2 b3 b4 b5 b6 b7 b8 b9 b10 b11 b12 : Nat) : (a + b1 + b2 + b3 + b4 + b5 + b6 + b7 + b8 + b9 + b10 + b11 + b12 = a) ↔ (b1 + b2 + b3 + b4 + b5 + b6 + b7 + b8 + b9 + b10 + b11 + b12 = 0) := by omega
@[go_sem] theorem eqd12 (a b1 b2 b3 b4 b5 b6 b7 b8 b9 b10 b11 b12 : Nat) : (a = a + b1 + b2 + b3 + b4 + b5 + b6 + b7 + b8 + b9 + b10 + b11 + b12) ↔ (b1 + b2 + b3 + b4 + b5 + b6 + b7 + b8 + b9 + b10 + b11 + b12 = 0) := by omega

@[go_sem] theorem lt_more (a b c : Nat) (h : a < b) : (a < b + c) = True := by simp; omega
@[go_sem] theorem le_more (a b c : Nat) (h : a ≤ b) : (a ≤ b + c) = True := by simp; omega
@[go_sem] theorem ne_more (a b c : Nat) (h : a < b) : (a = b + c) = False := by simp; omega
@[go_sem] theorem ne_more' (a b c : Nat) (h : a < b) : (b + c = a) = False := by simp; omega
@[go_sem] theorem below_drew_iff (B : Nat) (a w : World) : Below B a w.drew = Below B a w := propext ⟨fun h => ⟨h.os, h.tape, h.output, h.size, h.block⟩, fun h => h.drew⟩
@[go_sem] theorem below_drewN_iff (B : Nat) (a w : World) (n : Nat) : Below B a (w.drewN n) = Below B a w := propext ⟨fun h => ⟨h.os, h.tape, h.output, h.size, h.block⟩, fun h => below_drewN h n⟩

/-- An element of an array value, elements of one cell. -/
theorem run_index_one {P : Program} {t e : TypeId} {len : Nat} (ht : P.underlying t = some (.array len e)) (hag : ∀ w, (isAgg e).run P w = .ok false w)
    (hs : (P.info? e).map (·.size) = some 1) (cs : Array Value) (i : Int) (h0 : 0 ≤ i) (h : i < len) (v : Value) (hv : cs[i.toNat]? = some v) (w : World) :
    (Instr.index t (.agg cs) (.int .i64 i)).run P w = .ok v w := by
  obtain ⟨inf, hi, hz⟩ := Option.map_eq_some_iff.1 hs
  simp [Instr.index, asIntOf, run_underlying ht, h0, h, sizeOf, typeInfo, hi, hz, part, hag, hv]

theorem ret_i64 {a b : Int} (h : a = b) : Ending.returned (.int .i64 a) = .returned (.int .i64 b) := by rw [h]
theorem ret_bool {a b : Bool} (h : a = b) : Ending.returned (.bool a) = .returned (.bool b) := by rw [h]
theorem Hid.mk_ {p : Prop} (h : p) : Hid p := h

theorem bd_i64 {n : Int} (h : (Lit.int .i64 n).wf = true) : I64 n := by
  simp [Lit.wf, IntKind.min, IntKind.max, IntKind.signed, IntKind.bits] at h
  unfold I64
  omega

end Go.Proofs.YtkldapdpaldbgaaGreat
