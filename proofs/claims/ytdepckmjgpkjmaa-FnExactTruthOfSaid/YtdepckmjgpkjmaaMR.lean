/-
  Whole elements: loaded, stored.
-/
import Derived.Test.YtdepckmjgpkjmaaT
import Derived.Test.YtdepckmjgpkjmaaL
import Derived.Deep.QuietTactic
import Derived.BigQuiet
import Derived.Deep.LoopGhost
import Derived.Deep.RegionHeld3
import Derived.Test.YtdepckmjgpkjmaaN
import Derived.Test.YtdepckmjgpkjmaaA
import Derived.WalkSpells
import Derived.Laws.Cover3
import Derived.Test.YtdepckmjgpkjmaaBX
import Derived.Deep.MidRow
namespace Go.Proofs.Ytdepckmjgpkjmaa
open Go.RowKit

variable {α : Type} {T : FT α}
theorem results_cell_of {P : Program} {fn : Func} {p : Tmp} {ty : TypeId} {tmps : Array Value} {w : World} {ad : Addr} {v : Value} (h : fn.results = #[.cell p ty]) (hp : tmps.getD p undef = .pointer (some ad)) (hl : (loadVar ty ad).run P w = .ok v w) : (results fn tmps).run P w = .ok v w := by
  have hp' : tmps[p]?.getD undef = .pointer (some ad) := by simpa using hp
  simp only [results, h]
  simp [hp', asAddr, hl]
theorem Below.setCells {B : Nat} {a : World} {b : Nat} (hb : B ≤ b) : ∀ (vs : List Value) (o : Nat) {w : World}, Below B a w → Below B a (w.setCells b o vs)
  | [], _, _, h => h
  | v :: r, o, _, h => Below.setCells hb r (o + 1) (h.setCell (p := ⟨b, o, none⟩) hb v)
theorem size_setCells_ (b : Nat) : ∀ (vs : List Value) (o : Nat) (w : World), (w.setCells b o vs).heap.size = w.heap.size
  | [], _, _ => rfl
  | v :: r, o, w => by rw [World.setCells, size_setCells_ b r (o + 1)]; simp
theorem Chg.setCells {F : List Nat} {w : World} {b : Nat} (hb : b ∈ F) : ∀ (vs : List Value) (o : Nat) {w' : World}, Chg F w w' → Chg F w (w'.setCells b o vs)
  | [], _, _, h => h
  | v :: r, o, _, h => Chg.setCells hb r (o + 1) (h.set_ hb v)
/-- a list, some of its places from o on put anew -/
def putL (xs : List Value) (o : Nat) : List Value → List Value
  | [] => xs
  | v :: r => putL (xs.set o v) (o + 1) r
theorem putL_length (vs : List Value) : ∀ (xs : List Value) (o : Nat), (putL xs o vs).length = xs.length := by
  induction vs with
  | nil => intro xs o; rfl
  | cons v r ih => intro xs o; show (putL (xs.set o v) (o + 1) r).length = _; rw [ih]; simp
theorem putL_get (vs : List Value) : ∀ (xs : List Value) (o i : Nat), o + vs.length ≤ xs.length → (putL xs o vs)[i]? = if o ≤ i ∧ i < o + vs.length then vs[i - o]? else xs[i]? := by
  induction vs with
  | nil => intro xs o i _; rw [if_neg (by simp <;> omega)]; rfl
  | cons v r ih =>
    intro xs o i h
    simp only [List.length_cons] at h
    show (putL (xs.set o v) (o + 1) r)[i]? = _
    rw [ih _ _ _ (by simp <;> omega)]
    by_cases h1 : i = o
    · subst h1
      rw [if_neg (by omega), if_pos (by simp), Nat.sub_self, List.getElem?_set, if_pos rfl, if_pos (by omega)]
      rfl
    · by_cases h2 : o + 1 ≤ i ∧ i < o + 1 + r.length
      · rw [if_pos h2, if_pos (by simp only [List.length_cons]; omega), show i - o = (i - (o + 1)) + 1 by omega]
        rfl
      · rw [if_neg h2, if_neg (by simp only [List.length_cons]; omega), List.getElem?_set, if_neg (fun e => h1 e.symm)]
theorem ownsRow_putL {e : TypeId} {g n c sz : Nat} (vs : List Value) : ∀ (o : Nat) (w : World) (xs : List Value), w.ownsRow 0 e sz (.slice (some ⟨g, 0, none⟩) n c) n xs → (w.setCells g o vs).ownsRow 0 e sz (.slice (some ⟨g, 0, none⟩) n c) n (putL xs o vs) := by
  induction vs with
  | nil => intro o w xs h; exact h
  | cons v r ih => intro o w xs h; exact ih (o + 1) _ _ (World.ownsRow.stored (w := w) (g := g) h o v).1
theorem flat_putL (l : List α) (k : Nat) (x y : α) (hx : l[k]? = some x) : flat T (l.set k y) = putL (flat T l) (k * T.n) (T.enc y) := by
  have hk : k < l.length := (List.getElem?_eq_some_iff.1 hx).1
  have hle : k * T.n + T.n ≤ l.length * T.n := by rw [← Nat.succ_mul]; exact Nat.mul_le_mul_right _ hk
  apply List.ext_getElem?
  intro i
  rw [putL_get _ _ _ _ (by rw [T.len, length_flat]; exact hle), T.len]
  by_cases hi : i < l.length * T.n
  · have hp := T.pos
    have hm : i % T.n < T.n := Nat.mod_lt _ hp
    have hd : i / T.n < l.length := by rw [Nat.div_lt_iff_lt_mul hp]; exact hi
    have he : i / T.n * T.n + i % T.n = i := by rw [Nat.mul_comm]; exact Nat.div_add_mod i T.n
    by_cases hq : i / T.n = k
    · have h1 : (l.set k y)[i / T.n]? = some y := by rw [hq]; simp [hk]
      rw [← he, flat_get T _ _ _ y h1 hm, if_pos (by rw [hq]; omega), hq]
      congr 1
      omega
    · have h1 : (l.set k y)[i / T.n]? = some l[i / T.n] := by rw [List.getElem?_set, if_neg (fun e => hq e.symm)]; exact List.getElem?_eq_getElem hd
      have hne : ¬ (k * T.n ≤ i ∧ i < k * T.n + T.n) := by
        rintro ⟨a, b⟩
        apply hq
        rw [← Nat.succ_mul] at b
        exact Nat.le_antisymm (Nat.le_of_lt_succ ((Nat.div_lt_iff_lt_mul hp).2 b)) ((Nat.le_div_iff_mul_le hp).2 a)
      rw [if_neg hne, ← he, flat_get T _ _ _ _ h1 hm, flat_get T l _ _ _ (List.getElem?_eq_getElem hd) hm]
  · rw [List.getElem?_eq_none (by rw [length_flat, List.length_set]; omega), if_neg (by omega), List.getElem?_eq_none (by rw [length_flat]; omega)]
/-- A whole element stored. -/
theorem OwL.setRow {e : TypeId} {w : World} {l : List α} {g n c : Nat} (h : OwL T e w (.slice (some ⟨g, 0, none⟩) n c) l) {k : Nat} {x y : α} (hx : l[k]? = some x) :
    OwL T e (w.setCells g (k * T.n) (T.enc y)) (.slice (some ⟨g, 0, none⟩) n c) (l.set k y) := by
  obtain rfl := h.len_eq
  have hs := ownsRow_putL (g := g) (T.enc y) (k * T.n) w _ h
  rw [← flat_putL l k x y hx] at hs
  unfold OwL
  rw [List.length_set]
  exact hs
/-- A whole element's cells are there, and may be written. -/
theorem OwL.there_ {e : TypeId} {w : World} {l : List α} {g n c : Nat} (h : OwL T e w (.slice (some ⟨g, 0, none⟩) n c) l) {k : Nat} (hk : k < l.length) : w.there g (k * T.n) T.n := fun j hj => by
  have h1 := h.cell_ (j := j) (List.getElem?_eq_getElem hk) hj
  refine ⟨?_, h.frozen_ _⟩
  rw [h1]
  rw [List.getElem?_eq_getElem (by rw [T.len]; exact hj)]
  rfl
/-- A whole element's cells, as a range. -/
theorem RdL.range_ {w : World} {B : Nat} {v : Value} {l : List α} (h : RdL T w B v l) {k : Nat} {x : α} (hx : l[k]? = some x) :
    ∃ g off cap, v = .slice (some ⟨g, off, none⟩) l.length cap ∧ g < B ∧ l.length ≤ cap ∧ cap ≤ maxLen ∧ w.rangeAt g (off + k * T.n) (T.enc x) := by
  obtain ⟨g, off, cap, hv, hg, h1, h2, hc⟩ := h.at_ hx
  exact ⟨g, off, cap, hv, hg, h1, h2, fun j u hu => by rw [Nat.add_assoc]; exact hc j u hu⟩
theorem OwL.range_ {e : TypeId} {w : World} {l : List α} {g n c : Nat} (h : OwL T e w (.slice (some ⟨g, 0, none⟩) n c) l) {k : Nat} {x : α} (hx : l[k]? = some x) : w.rangeAt g (k * T.n) (T.enc x) := fun j u hu => by
  have hj : j < T.n := by have := (List.getElem?_eq_some_iff.1 hu).1; rwa [T.len] at this
  rw [h.cell_ hx hj, hu]
def row? (W : World) (g o n : Nat) : Option (List Value) :=
  if ((List.range n).all fun j => (W.cell? ⟨g, o + j, none⟩).isSome) = true then some ((List.range n).map fun j => (W.cell? ⟨g, o + j, none⟩).getD undef) else none
theorem row?_iff {W : World} {g o n : Nat} {cs : List Value} : row? W g o n = some cs ↔ (cs.length = n ∧ W.rangeAt g o cs) := by
  unfold row?
  constructor
  · intro h
    split at h
    · rename_i hall
      injection h with h
      subst h
      refine ⟨by simp, fun j v hv => ?_⟩
      have hj : j < n := by have := (List.getElem?_eq_some_iff.1 hv).1; simpa using this
      have hs := List.all_eq_true.1 hall j (List.mem_range.2 hj)
      obtain ⟨x, hx⟩ := Option.isSome_iff_exists.1 hs
      simp [hj, hx] at hv
      rw [hx, hv]
    · cases h
  · rintro ⟨h1, h2⟩
    have hc : ∀ j, (hj : j < n) → W.cell? ⟨g, o + j, none⟩ = some (cs[j]'(by omega)) := fun j hj => h2 j _ (List.getElem?_eq_getElem (by omega))
    rw [if_pos (List.all_eq_true.2 fun j hj => by rw [hc j (List.mem_range.1 hj)]; rfl)]
    congr 1
    apply List.ext_getElem
    · simp [h1]
    · intro i hi1 hi2
      have hi : i < n := by omega
      simp [hc i hi]
theorem row?_of {W : World} {g o n : Nat} {cs : List Value} (h : W.rangeAt g o cs) (hn : cs.length = n) : row? W g o n = some cs := row?_iff.2 ⟨hn, h⟩
theorem row?_block {w w' : World} {g : Nat} (h : w'.heap[g]? = w.heap[g]?) (o n : Nat) : row? w' g o n = row? w g o n := by
  have e : ∀ j, w'.cell? ⟨g, o + j, none⟩ = w.cell? ⟨g, o + j, none⟩ := fun j => by simp [World.cell?, h]
  simp [row?, e]
@[go_sem] theorem row?_drew (w : World) (g o n : Nat) : row? w.drew g o n = row? w g o n := row?_block rfl o n
@[go_sem] theorem row?_drewN (w : World) (k g o n : Nat) : row? (w.drewN k) g o n = row? w g o n := row?_block rfl o n
theorem row?_grow {w : World} {os : List Obj} {d : Nat} {g : Nat} (hg : g < w.heap.size) (o n : Nat) : row? (grow w os d) g o n = row? w g o n := row?_block (heap_grow w os d g hg) o n
theorem row?_alloc {w : World} {ob : Obj} {g : Nat} (hg : g < w.heap.size) (o n : Nat) : row? (w.alloc ob) g o n = row? w g o n := row?_block (Below.heap_alloc w ob g hg) o n
theorem row?_below {w w' : World} {B g : Nat} (hb : Below B w w') (hg : g < B) (o n : Nat) : row? w' g o n = row? w g o n := row?_block (hb.block g hg) o n
theorem row?_other {w : World} {g g' i : Nat} {v : Value} (hn : g' ≠ g) (o n : Nat) : row? (w.setCell ⟨g', i, none⟩ v) g o n = row? w g o n := row?_block (Below.heap_setCell _ _ _ _ (fun e => hn e.symm)) o n
/-- a whole element's load, as the walk meets it -/
def loadRes (P : Program) (ty : TypeId) (v : Value) (w : World) : Result Next := ((Instr.loadAt ty v).run P w).andThen fun u w' => .ok (.value u) w'
def stuckLoad (P : Program) (ty : TypeId) (W : World) (g o : Nat) : Result Next := loadRes P ty (.pointer (some ⟨g, o, none⟩)) W
theorem exec_load {P : Program} (ty : TypeId) (ρ : Operand → Value) (d : Option Tmp) (x : Operand) (t : TypeId) (p : String) (af : Array Edge) (g : Option (Nat × Bool)) (w : World) : (execOp ρ ⟨d, .load ty x, t, p, af, g⟩).run P w = loadRes P ty (ρ x) w := by
  simp [execOp, loadRes]
theorem loadRule {P : Program} {ty : TypeId} {n : Nat} {d : TypeDesc} (hu : P.underlying ty = some d) (hd : d.isRow = true) (hi : (P.info? ty).map (·.size) = some n) (W : World) (g o : Nat) :
    loadRes P ty (.pointer (some ⟨g, o, none⟩)) W = match row? W g o n with | some cs => .ok (.value (.agg cs.toArray)) W | none => stuckLoad P ty W g o := by
  cases h : row? W g o n with
  | none => rfl
  | some cs =>
    obtain ⟨h1, h2⟩ := row?_iff.1 h
    show loadRes P ty _ W = _
    unfold loadRes
    rw [run_loadAt_mid W g o ty cs d h2 hu hd (by rw [hi, h1])]
    rfl
theorem rangeAt_grow {w : World} {g o : Nat} {cs : List Value} {os : List Obj} {d : Nat} (h : w.rangeAt g o cs) (hg : g < w.heap.size) : (grow w os d).rangeAt g o cs := fun j v hv => by
  rw [← h j v hv]
  simp [World.cell?, heap_grow w os d g hg]
theorem rangeAt_below {w w' : World} {B g o : Nat} {cs : List Value} (h : w.rangeAt g o cs) (hb : Below B w w') (hg : g < B) : w'.rangeAt g o cs := fun j v hv => (hb.cell (p := ⟨g, o + j, none⟩) hg).trans (h j v hv)
end Go.Proofs.Ytdepckmjgpkjmaa
