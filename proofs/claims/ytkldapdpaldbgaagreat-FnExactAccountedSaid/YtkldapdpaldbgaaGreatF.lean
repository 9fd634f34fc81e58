/-
  Slices of flat elements: what a slice value reads as; a slice that the call owns.
  Plain definitions and theorems; no program in sight.
-/
import Derived.Test.YtkldapdpaldbgaaGreatM
namespace Go.Proofs.YtkldapdpaldbgaaGreat
open Go.RowKit

/-- A type of one or more one-cell fields. -/
structure FT (α : Type) where
  n : Nat
  enc : α → List Value
  dflt : α
  len : ∀ x, (enc x).length = n
  one : ∀ x, ∀ u ∈ enc x, u.oneCell' = true
  pos : 0 < n
  small : n ≤ 32

variable {α : Type} {T : FT α} {w w' : World} {B B' : Nat} {e : TypeId} {v : Value} {l : List α}

def flat (T : FT α) (l : List α) : List Value := l.flatMap T.enc

theorem length_flat (T : FT α) (l : List α) : (flat T l).length = l.length * T.n := by
  induction l with
  | nil => simp [flat]
  | cons x l ih =>
    have h : flat T (x :: l) = T.enc x ++ flat T l := rfl
    rw [h, List.length_append, ih, T.len, List.length_cons, Nat.succ_mul]
    omega

theorem flat_append (T : FT α) (l m : List α) : flat T (l ++ m) = flat T l ++ flat T m := by simp [flat]

theorem flat_get (T : FT α) : ∀ (l : List α) (k j : Nat) (x : α), l[k]? = some x → j < T.n → (flat T l)[k * T.n + j]? = (T.enc x)[j]?
  | [], k, j, x, h, _ => by simp at h
  | y :: l, 0, j, x, h, hj => by
    simp only [List.getElem?_cons_zero, Option.some.injEq] at h
    subst h
    show (T.enc y ++ flat T l)[0 * T.n + j]? = _
    rw [Nat.zero_mul, Nat.zero_add, List.getElem?_append, if_pos (by rw [T.len]; exact hj)]
  | y :: l, k + 1, j, x, h, hj => by
    simp only [List.getElem?_cons_succ] at h
    have ih := flat_get T l k j x h hj
    show (T.enc y ++ flat T l)[(k + 1) * T.n + j]? = _
    rw [List.getElem?_append, if_neg (by rw [T.len, Nat.succ_mul]; omega), T.len, ← ih]
    congr 1
    rw [Nat.succ_mul]
    omega

theorem flat_set (T : FT α) (l : List α) (k j : Nat) (x y : α) (u : Value) (hx : l[k]? = some x) (hj : j < T.n) (hy : T.enc y = (T.enc x).set j u) :
    flat T (l.set k y) = (flat T l).set (k * T.n + j) u := by
  induction l generalizing k with
  | nil => simp at hx
  | cons z l ih =>
    cases k with
    | zero =>
      simp only [List.getElem?_cons_zero, Option.some.injEq] at hx
      subst hx
      show T.enc y ++ flat T l = (T.enc z ++ flat T l).set (0 * T.n + j) u
      rw [hy, Nat.zero_mul, Nat.zero_add, List.set_append, if_pos (by rw [T.len]; exact hj)]
    | succ k =>
      simp only [List.getElem?_cons_succ] at hx
      show T.enc z ++ flat T (l.set k y) = (T.enc z ++ flat T l).set ((k + 1) * T.n + j) u
      rw [List.set_append, if_neg (by rw [T.len, Nat.succ_mul]; omega), T.len, ih k hx]
      congr 2
      rw [Nat.succ_mul]
      omega

/-- The slice value v reads as the list l, all its cells below block B. -/
def RdL (T : FT α) (w : World) (B : Nat) (v : Value) (l : List α) : Prop :=
  ∃ A cap, v = .slice A l.length cap ∧ l.length ≤ cap ∧ cap ≤ maxLen ∧
    (l ≠ [] → ∃ g off, A = some ⟨g, off, none⟩ ∧ g < B ∧ ∀ j u, (flat T l)[j]? = some u → w.cell? ⟨g, off + j, none⟩ = some u)

/-- The call owns the slice. -/
def OwL (T : FT α) (e : TypeId) (w : World) (v : Value) (l : List α) : Prop := w.ownsRow 0 e T.n v l.length (flat T l)

theorem RdL.nil_ : RdL T w B (.slice none 0 0) [] := ⟨none, 0, rfl, Nat.le_refl _, by simp [maxLen], fun h => absurd rfl h⟩

theorem RdL.keep (h : RdL T w B v l) (hk : ∀ k, k < B → w'.heap[k]? = w.heap[k]?) (hB : B ≤ B') : RdL T w' B' v l := by
  obtain ⟨A, cap, hv, h1, h2, h3⟩ := h
  refine ⟨A, cap, hv, h1, h2, fun hl => ?_⟩
  obtain ⟨g, off, hA, hg, hc⟩ := h3 hl
  refine ⟨g, off, hA, by omega, fun j u hu => ?_⟩
  rw [← hc j u hu]
  simp [World.cell?, hk g hg]

theorem RdL.grow_ (h : RdL T w B v l) (hB : B ≤ w.heap.size) (hB' : B ≤ B') (os : List Obj) (d : Nat) : RdL T (grow w os d) B' v l :=
  h.keep (fun k hk => heap_grow w os d k (by omega)) hB'
theorem RdL.alloc_ (h : RdL T w B v l) (hB : B ≤ w.heap.size) (hB' : B ≤ B') (o : Obj) : RdL T (w.alloc o) B' v l :=
  h.keep (fun k hk => Below.heap_alloc w o k (by omega)) hB'
theorem RdL.below (h : RdL T w B v l) (hb : Below B w w') : RdL T w' B v l := h.keep hb.block (Nat.le_refl _)

/-- One element, at its cells. -/
theorem RdL.at_ (h : RdL T w B v l) {k : Nat} {x : α} (hx : l[k]? = some x) :
    ∃ g off cap, v = .slice (some ⟨g, off, none⟩) l.length cap ∧ g < B ∧ l.length ≤ cap ∧ cap ≤ maxLen ∧ ∀ j u, (T.enc x)[j]? = some u → w.cell? ⟨g, off + (k * T.n + j), none⟩ = some u := by
  obtain ⟨A, cap, hv, h1, h2, h3⟩ := h
  have hl : l ≠ [] := by rintro rfl; simp at hx
  obtain ⟨g, off, rfl, hg, hc⟩ := h3 hl
  refine ⟨g, off, cap, hv, hg, h1, h2, fun j u hu => hc _ u ?_⟩
  have hj : j < T.n := by
    have := (List.getElem?_eq_some_iff.1 hu).1
    rw [T.len] at this
    exact this
  rw [flat_get T l k j x hx hj]
  exact hu

theorem OwL.form (h : OwL T e w v l) : (v = .slice none 0 0 ∧ l = []) ∨ ∃ g cap, v = .slice (some ⟨g, 0, none⟩) l.length cap ∧ g < w.heap.size ∧ l.length ≤ cap ∧ cap ≤ maxLen := by
  rcases h.2 with ⟨rfl, hn⟩ | ⟨g, cap, cur, rfl, _, hh, h1, h2, _⟩
  · exact .inl ⟨rfl, List.eq_nil_of_length_eq_zero hn⟩
  · refine .inr ⟨g, cap, rfl, ?_, h1, h2⟩
    rcases Nat.lt_or_ge g w.heap.size with hlt | hge
    · exact hlt
    · rw [Array.getElem?_eq_none hge] at hh; cases hh

theorem OwL.rd (h : OwL T e w v l) (hB : ∀ g, v.ownBlock = some g → g < B) : RdL T w B v l := by
  rcases h.2 with ⟨rfl, hn⟩ | ⟨g, cap, cur, rfl, _, hh, h1, h2, h3, h4⟩
  · have hl : l = [] := List.eq_nil_of_length_eq_zero hn
    subst hl
    exact RdL.nil_
  · refine ⟨_, cap, rfl, h1, h2, fun _ => ⟨g, 0, rfl, hB g rfl, fun j u hu => ?_⟩⟩
    have := h.cells (g := g) rfl j u hu
    have e0 : ((⟨g, 0, none⟩ : Addr).add j) = ⟨g, 0 + j, none⟩ := by
      unfold Addr.add
      by_cases hj : j = 0 <;> simp [hj]
    rw [e0] at this
    exact this

theorem OwL.rd' (h : OwL T e w v l) : RdL T w w.heap.size v l := h.rd fun _ hg => (World.ownsRow.lt h _ hg).2

theorem OwL.keep (h : OwL T e w v l) (hk : ∀ g, v.ownBlock = some g → w'.heap[g]? = w.heap[g]?) : OwL T e w' v l := by
  refine ⟨h.1, ?_⟩
  rcases h.2 with h2 | ⟨g, cap, cur, hv, hg, hh, r⟩
  · exact .inl h2
  · refine .inr ⟨g, cap, cur, hv, hg, ?_, r⟩
    rw [hk g (by rw [hv]; rfl)]
    exact hh

theorem OwL.grow_ (h : OwL T e w v l) (os : List Obj) (d : Nat) : OwL T e (grow w os d) v l :=
  h.keep fun g hg => heap_grow w os d g (World.ownsRow.lt h g hg).2
theorem OwL.alloc_ (h : OwL T e w v l) (o : Obj) : OwL T e (w.alloc o) v l :=
  h.keep fun g hg => Below.heap_alloc w o g (World.ownsRow.lt h g hg).2

theorem OwL.len_eq {g n c : Nat} (h : OwL T e w (.slice (some ⟨g, 0, none⟩) n c) l) : n = l.length := by
  rcases h.2 with ⟨h', _⟩ | ⟨g', cap', cur, h', _⟩
  · simp at h'
  · injection h'

/-- A store into one field of one element. -/
theorem OwL.set_ {g n c : Nat} (h : OwL T e w (.slice (some ⟨g, 0, none⟩) n c) l) {k j : Nat} {x y : α} {u : Value} (hx : l[k]? = some x) (hj : j < T.n) (hy : T.enc y = (T.enc x).set j u) :
    OwL T e (w.setCell ⟨g, k * T.n + j, none⟩ u) (.slice (some ⟨g, 0, none⟩) n c) (l.set k y) := by
  obtain rfl := h.len_eq
  have hs := (World.ownsRow.stored (w := w) (g := g) h (k * T.n + j) u).1
  rw [← flat_set T l k j x y u hx hj hy] at hs
  unfold OwL
  rw [List.length_set]
  exact hs

theorem OwL.cell_ {g n c : Nat} (h : OwL T e w (.slice (some ⟨g, 0, none⟩) n c) l) {k j : Nat} {x : α} (hx : l[k]? = some x) (hj : j < T.n) :
    w.cell? ⟨g, k * T.n + j, none⟩ = (T.enc x)[j]? := by
  obtain rfl := h.len_eq
  have hk : k < l.length := (List.getElem?_eq_some_iff.1 hx).1
  rw [World.ownsRow.cellAt (w := w) h (k * T.n + j) (by
    calc k * T.n + j < k * T.n + T.n := by omega
      _ = (k + 1) * T.n := by rw [Nat.succ_mul]
      _ ≤ l.length * T.n := Nat.mul_le_mul_right _ hk), flat_get T l k j x hx hj]

theorem OwL.frozen_ {g n c : Nat} (h : OwL T e w (.slice (some ⟨g, 0, none⟩) n c) l) (j : Nat) : w.frozen? ⟨g, j, none⟩ = false := by
  obtain rfl := h.len_eq
  exact World.ownsRow.frozenAt (w := w) h j

/-! A new list, its first elements written: the state of a copying loop. -/
theorem upd_step {α : Type} (l : List α) (d : α) (k : Nat) (hk : k < l.length) :
    (l.take k ++ List.replicate (l.length - k) d).set k (l[k]) = l.take (k + 1) ++ List.replicate (l.length - (k + 1)) d := by
  rw [List.set_append, if_neg (by simp; omega)]
  rw [List.take_succ_eq_append_getElem hk, List.append_assoc]
  congr 1
  rw [List.length_take, Nat.min_eq_left (by omega), Nat.sub_self]
  rw [show l.length - k = (l.length - (k + 1)) + 1 by omega, List.replicate_succ]
  rfl
theorem upd_get {α : Type} (l : List α) (d : α) (k : Nat) (hk : k < l.length) : (l.take k ++ List.replicate (l.length - k) d)[k]? = some d := by
  rw [List.getElem?_append, if_neg (by rw [List.length_take]; omega), List.length_take, Nat.min_eq_left (by omega), Nat.sub_self, List.getElem?_replicate, if_pos (by omega)]

/-! A list, its first i elements marked with the numbers from k on. -/
def marks {α : Type} (mk : Int → α) (n : Nat) (l : List α) (i : Nat) (k : Int) : List α := ((List.range i).map fun (j : Nat) => mk (k + (j : Int) * n)) ++ l.drop i
theorem marks_get {α : Type} (mk : Int → α) (n : Nat) (l : List α) (i : Nat) (k : Int) (hi : i < l.length) : (marks mk n l i k)[i]? = some l[i] := by
  unfold marks
  rw [List.getElem?_append, if_neg (by simp)]
  simp [hi]
theorem marks_step {α : Type} (mk : Int → α) (n : Nat) (l : List α) (i : Nat) (k : Int) (hi : i < l.length) : (marks mk n l i k).set i (mk (k + (i : Int) * n)) = marks mk n l (i + 1) k := by
  unfold marks
  rw [List.set_append, if_neg (by simp), List.range_succ, List.map_append, List.append_assoc]
  congr 1
  rw [List.length_map, List.length_range, Nat.sub_self, List.drop_eq_getElem_cons hi]
  rfl
theorem marks_nil {α : Type} (mk : Int → α) (n : Nat) (k : Int) : marks mk n [] 0 k = [] := rfl
theorem marks_zero {α : Type} (mk : Int → α) (n : Nat) (l : List α) (k : Int) : marks mk n l 0 k = l := rfl
theorem marks_length {α : Type} (mk : Int → α) (n : Nat) (l : List α) (k : Int) : (marks mk n l l.length k).length = l.length := by simp [marks]
theorem marks_at {α : Type} (mk : Int → α) (n : Nat) (l : List α) (k : Int) (i : Nat) (hi : i < l.length) : (marks mk n l l.length k)[i]? = some (mk (k + (i : Int) * n)) := by
  simp [marks, hi]
theorem set_get {α : Type} {l : List α} {k : Nat} {x : α} (y : α) (h : l[k]? = some x) : (l.set k y)[k]? = some y := by
  have hk := (List.getElem?_eq_some_iff.1 h).1
  simp [hk]

/-- make([]T, n). -/
theorem madeCells_flat (T : FT α) (z : Array Value) (hz : z.toList = T.enc T.dflt) (n : Nat) : (madeCells z (n * T.n)).toList = flat T (List.replicate n T.dflt) := by
  have hzs : z.size = T.n := by rw [← Array.length_toList, hz, T.len]
  apply List.ext_getElem?
  intro i
  by_cases hi : i < n * T.n
  · have hp := T.pos
    have hq : i / T.n < n := by rw [Nat.div_lt_iff_lt_mul hp]; exact hi
    have hm : i % T.n < T.n := Nat.mod_lt _ hp
    have hx : (List.replicate n T.dflt)[i / T.n]? = some T.dflt := by simp [hq]
    have := flat_get T (List.replicate n T.dflt) (i / T.n) (i % T.n) T.dflt hx hm
    rw [show i / T.n * T.n + i % T.n = i from by rw [Nat.mul_comm]; exact Nat.div_add_mod i T.n] at this
    rw [this, ← hz]
    simp only [madeCells, Array.toList_map, Array.toList_range, List.getElem?_map, List.getElem?_range hi, Option.map_some, hzs]
    rw [getElem!_pos z (i % T.n) (by omega)]
    simp [hzs, hm]
  · rw [List.getElem?_eq_none (by simp [size_madeCells]; omega), List.getElem?_eq_none (by rw [length_flat, List.length_replicate]; omega)]

theorem OwL.made (T : FT α) (z : Array Value) (hz : z.toList = T.enc T.dflt) (n : Nat) (hn : n ≤ maxLen) (w : World) (e : TypeId) :
    OwL T e (w.alloc (.cells (madeCells z (n * T.n)) e)) (.slice (some ⟨w.heap.size, 0, none⟩) n n) (List.replicate n T.dflt) := by
  have h := World.ownsRow_lit (base := 0) (e := e) (size := T.n) w (madeCells z (n * T.n)) n (Nat.zero_le _) hn (size_madeCells _ _)
  rw [madeCells_flat T z hz n] at h
  unfold OwL
  rw [List.length_replicate]
  exact h

/-- make's run, as a rule for the walk. -/
theorem run_make_flat {P : Program} (T : FT α) (t e : TypeId) (z : Value) (bytes : Nat) (ht : P.underlying t = some (.slice e)) (hinfo : (P.info? e).map (fun i => (i.zero, i.size, i.bytes)) = some (some z, T.n, bytes))
    (n : Nat) (hbytes : bytes * n ≤ 281474976710656) (h63 : n ≤ 9223372036854775807) (w : World) :
    (Instr.makeSlice t (.int .i64 (n : Int)) (.int .i64 (n : Int))).run P w = .ok (.slice (some ⟨w.heap.size, 0, none⟩) n n) (w.alloc (.cells (madeCells z.cells (n * T.n)) e)) := by
  obtain ⟨i, hi, hzz⟩ := Option.map_eq_some_iff.1 hinfo
  simp only [Prod.mk.injEq] at hzz
  obtain ⟨hz, hs, hb⟩ := hzz
  subst hb
  have hb' : (i.bytes : Int) * (n : Int) ≤ 281474976710656 := by
    have h : ((i.bytes * n : Nat) : Int) ≤ 281474976710656 := by omega
    rwa [Int.natCast_mul] at h
  have hr := run_make (P := P) w t e i z ht hi hz .i64 .i64 n n (by omega) (Int.le_refl _) hb' (by omega)
  simp only [Int.toNat_natCast, hs] at hr
  exact hr

end Go.Proofs.YtkldapdpaldbgaaGreat
