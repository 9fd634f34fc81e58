/-
  Slices cut, appended to within their room, cleared: words for slices that the call owns.
  Plain definitions and theorems.
-/
import Derived.Test.YtapmieijnbachaaA
import Derived.Test.YtapmieijnbachaaJ
import Derived.Deep.RegionLaw
import Derived.Lib.SliceRun
namespace Go.Proofs.Ytapmieijnbachaa
open Go.RowKit
variable {α : Type} {T : FT α} {w : World} {t e : TypeId} {P : Program}

theorem flat_take (T : FT α) (l : List α) (i : Nat) : flat T (l.take i) = (flat T l).take (i * T.n) := by
  induction l generalizing i with
  | nil => simp [flat]
  | cons x l ih =>
    cases i with
    | zero => simp [flat]
    | succ i =>
      show T.enc x ++ flat T (l.take i) = (T.enc x ++ flat T l).take ((i + 1) * T.n)
      rw [ih i, List.take_append, T.len, List.take_of_length_le (l := T.enc x) (by rw [T.len, Nat.succ_mul]; omega)]
      congr 2
      rw [Nat.succ_mul]; omega
theorem flat_drop (T : FT α) (l : List α) (i : Nat) : flat T (l.drop i) = (flat T l).drop (i * T.n) := by
  induction l generalizing i with
  | nil => simp [flat]
  | cons x l ih =>
    cases i with
    | zero => simp [flat]
    | succ i =>
      show flat T (l.drop i) = (T.enc x ++ flat T l).drop ((i + 1) * T.n)
      have hd : (T.enc x).drop ((i + 1) * T.n) = [] := List.drop_of_length_le (by rw [T.len, Nat.succ_mul]; omega)
      rw [ih i, List.drop_append, T.len, hd, List.nil_append]
      congr 1
      rw [Nat.succ_mul]; omega

/-- A beginning of a slice that the call owns. -/
theorem OwL.prefix_ {g n c : Nat} {l : List α} (h : OwL T e w (.slice (some ⟨g, 0, none⟩) n c) l) {i : Nat} (hi : i ≤ l.length) : OwL T e w (.slice (some ⟨g, 0, none⟩) i c) (l.take i) := by
  obtain rfl := h.len_eq
  have hlen : (l.take i).length = i := by rw [List.length_take]; omega
  unfold OwL
  rw [hlen]
  refine ⟨by rw [length_flat, hlen], .inr ?_⟩
  rcases h.2 with ⟨h', _⟩ | ⟨g', cap', cur, h', _, hg, hnc, hcm, hcs, htake⟩
  · simp at h'
  · simp only [Value.slice.injEq, Option.some.injEq, Addr.mk.injEq, and_true, true_and] at h'
    obtain ⟨rfl, rfl⟩ := h'
    refine ⟨g, c, cur, rfl, Nat.zero_le _, hg, by omega, hcm, hcs, ?_⟩
    rw [flat_take, ← htake, List.take_take, Nat.min_eq_left (Nat.mul_le_mul_right _ hi)]

/-- The end of a slice, where Go lets it begin. -/
def dropAt (g off c k n : Nat) : Option Addr := if c = k then some ⟨g, off, none⟩ else some ⟨g, off + k * n, none⟩
theorem RdL.drop_ {g off len c B : Nat} {l : List α} (h : RdL T w B (.slice (some ⟨g, off, none⟩) len c) l) (k : Nat) (hk : k ≤ len) : RdL T w B (.slice (dropAt g off c k T.n) (len - k) (c - k)) (l.drop k) := by
  obtain ⟨A, cap, hv, h1, h2, h3⟩ := h
  injection hv with e1 e2 e3
  subst e2 e3
  refine ⟨_, c - k, by rw [List.length_drop], by rw [List.length_drop]; omega, by omega, fun hne => ?_⟩
  have hl : l ≠ [] := by rintro rfl; simp at hne
  have hlt : k < l.length := by
    rcases Nat.lt_or_ge k l.length with h | h
    · exact h
    · exact absurd (List.drop_eq_nil_of_le h) hne
  obtain ⟨g', off', hA, hg, hc⟩ := h3 hl
  rw [← e1] at hA
  simp only [Option.some.injEq, Addr.mk.injEq, and_true] at hA
  obtain ⟨rfl, rfl⟩ := hA
  refine ⟨g, off + k * T.n, ?_, hg, fun j u hu => ?_⟩
  · unfold dropAt
    rw [if_neg (by omega)]
  · rw [flat_drop, List.getElem?_drop] at hu
    rw [Nat.add_assoc]
    exact hc _ u hu

/-- append(v, x...) where there is room. -/
theorem run_append_room_flat (X : ST P T t e) (ty : TypeId) {g n c : Nat} {x : Value} {l m : List α} {B : Nat} (hown : OwL T e w (.slice (some ⟨g, 0, none⟩) n c) l) (hr : RdL T w B x m) (hroom : n + m.length ≤ c) :
    ∃ w', (Builtin.append_ #[t, t] ty #[.slice (some ⟨g, 0, none⟩) n c, x]).run P w = .ok (.slice (some ⟨g, 0, none⟩) (n + m.length) c) w' ∧ OwL T e w' (.slice (some ⟨g, 0, none⟩) (n + m.length) c) (l ++ m) ∧ w.grownBy w' (some g) := by
  obtain rfl := hown.len_eq
  obtain ⟨A, cap, rfl, h1, h2, h3⟩ := hr
  obtain ⟨z, bytes, hinfo, hz, hby⟩ := X.info
  obtain ⟨i, hi, hzz⟩ := Option.map_eq_some_iff.1 hinfo
  simp only [Prod.mk.injEq] at hzz
  obtain ⟨q1, q2, q3⟩ := hzz
  by_cases hm : m = []
  · subst hm
    exact ⟨w, run_append_nil0 X.und hi _ _ _ hown A cap ty, by simpa using hown, World.grownBy.refl w _⟩
  · obtain ⟨g', off, rfl, hg, hc⟩ := h3 hm
    have hcells : ∀ j u, (flat T m)[j]? = some u → w.cell? ((⟨g', off, none⟩ : Addr).add j) = some u := by
      intro j u hu
      rw [← hc j u hu]
      unfold Addr.add
      by_cases hj : j = 0 <;> simp [hj]
    obtain ⟨w', hrun, k1, k2⟩ := run_append_fits (P := P) w 0 t ty e i T.n X.und hi q2 g l.length c (flat T l) hown ⟨g', off, none⟩ m.length cap (flat T m) (length_flat T m) hcells (flat_one T m) hroom
    refine ⟨w', hrun, ?_, k2⟩
    unfold OwL
    rw [List.length_append, flat_append]
    exact k1

theorem step_append_room_flat {ops : Array Oper} {o : Oper} {a : Act} {K : Act → World → Prop} {Q : Exit → Act → World → Prop} {E : Prop} (X : ST P T t e) (hgd : o.guard = none) (s x : Operand)
    (ho : o.op = .call { callee := .builtin .append, args := #[s, x], argTypes := #[t, t] })
    {g n c : Nat} {y : Value} {l m : List α} {B : Nat} (hs : a.eval s = .slice (some ⟨g, 0, none⟩) n c) (hx : a.eval x = y) (hown : OwL T e w (.slice (some ⟨g, 0, none⟩) n c) l) (hr : RdL T w B y m) (N : Nat) (hN : n + m.length = N) (hroom : N ≤ c)
    (h : ∀ w', OwL T e w' (.slice (some ⟨g, 0, none⟩) N c) (l ++ m) → w.grownBy w' (some g) → K (a.put o.dst (.slice (some ⟨g, 0, none⟩) N c)) w') :
    if Region.wanted o (yielded ops a.tmps) = true then Oper.wp P o a w K Q else E := by
  have hw : Region.wanted o (yielded ops a.tmps) = true := by simp [Region.wanted, hgd]
  rw [if_pos hw]
  subst hN
  obtain ⟨w', hrun, h2, h3⟩ := run_append_room_flat X o.type hown hr hroom
  unfold Oper.wp execOp
  simp only [ho, resolve, invoke, builtin, Sem.run_bind, Sem.run_pure, Result.andThen_ok, List.map_toArray, List.map_cons, List.map_nil, hs, hx, hrun]
  exact h w' h2 h3

/-- Cells behind the slice's end, within its capacity. -/
theorem OwL.spare {g n c : Nat} {l : List α} (h : OwL T e w (.slice (some ⟨g, 0, none⟩) n c) l) (j : Nat) (hj : j < c * T.n) : (w.cell? ⟨g, j, none⟩).isSome = true := by
  rcases h.2 with ⟨h', _⟩ | ⟨g', cap', cur, h', _, hg, hnc, hcm, hcs, htake⟩
  · simp at h'
  · simp only [Value.slice.injEq, Option.some.injEq, Addr.mk.injEq, and_true] at h'
    obtain ⟨rfl, _, rfl⟩ := h'
    rw [cell_of_row w g j cur e (0, 0) hg, Array.getElem?_eq_getElem (by omega)]
    rfl

theorem OwL.set_far {g n c : Nat} {l : List α} (h : OwL T e w (.slice (some ⟨g, 0, none⟩) n c) l) (j : Nat) (hj : l.length * T.n ≤ j) (u : Value) : OwL T e (w.setCell ⟨g, j, none⟩ u) (.slice (some ⟨g, 0, none⟩) n c) l := by
  obtain rfl := h.len_eq
  have hs := (World.ownsRow.stored (w := w) (g := g) h j u).1
  rw [List.set_eq_of_length_le (by rw [length_flat]; exact hj)] at hs
  exact hs
theorem OwL.sets_far {g n c : Nat} {l : List α} : ∀ (vs : List Value) (j : Nat) {w : World}, OwL T e w (.slice (some ⟨g, 0, none⟩) n c) l → l.length * T.n ≤ j → OwL T e (w.setCells g j vs) (.slice (some ⟨g, 0, none⟩) n c) l ∧ w.grownBy (w.setCells g j vs) (some g)
  | [], j, w, h, _ => ⟨h, World.grownBy.refl w _⟩
  | v :: vs, j, w, h, hj => by
    have h1 := h.set_far j hj v
    obtain ⟨h2, h3⟩ := OwL.sets_far vs (j + 1) h1 (by omega)
    refine ⟨h2, ?_⟩
    have h4 := grown_set (World.grownBy.refl w (some g)) j v
    exact ⟨h3.os.trans h4.os, h3.tape.trans h4.tape, h3.output.trans h4.output, Nat.le_trans h4.size h3.size, fun k hk hne => (h3.block k (Nat.lt_of_lt_of_le hk h4.size) hne).trans (h4.block k hk hne)⟩

/-- clear(s), behind the end of a slice that the call owns. -/
theorem run_clear_far (X : ST P T t e) (z : Value) (hv : ∀ w, (zeroValue e).run P w = .ok z w) (hz : z.cells.size = T.n) (h1 : ∀ u ∈ z.cells, u.oneCell' = true) (ty : TypeId) {g n c o m c' : Nat} {l : List α} (h : OwL T e w (.slice (some ⟨g, 0, none⟩) n c) l) (ho : n * T.n ≤ o) (hm : o + m * T.n ≤ c * T.n) :
    ∃ w', (Builtin.clear_ #[t] ty #[.slice (some ⟨g, o, none⟩) m c']).run P w = .ok (.tuple #[]) w' ∧ OwL T e w' (.slice (some ⟨g, 0, none⟩) n c) l ∧ w.grownBy w' (some g) := by
  obtain rfl := h.len_eq
  have hn : (Builtin.zeroCells z.cells m).toList.length = m * T.n := by simp [Builtin.zeroCells, hz]
  have hst := run_storeCells_cells (P := P) g o (Builtin.zeroCells z.cells m).toList 0 w (fun j hj => by rw [Nat.add_zero]; exact h.spare (o + j) (by rw [hn] at hj; omega)) (fun j _ => by rw [Nat.add_zero]; exact h.frozen_ (o + j)) (fun v hv' => by
    simp only [Builtin.zeroCells, Array.toList_map, Array.toList_range, List.mem_map, List.mem_range] at hv'
    obtain ⟨k, hk, rfl⟩ := hv'
    have hp := T.pos
    have hk2 : k % z.cells.size < z.cells.size := Nat.mod_lt _ (by omega)
    rw [getElem!_pos z.cells (k % z.cells.size) hk2]
    exact h1 _ (Array.getElem_mem hk2))
  rw [Nat.add_zero] at hst
  obtain ⟨q1, q2⟩ := OwL.sets_far (Builtin.zeroCells z.cells m).toList o h ho
  cases m with
  | zero =>
    refine ⟨w, ?_, h, World.grownBy.refl w _⟩
    simp [Builtin.clear_, run_underlying X.und]
  | succ m =>
    refine ⟨_, ?_, q1, q2⟩
    simp [Builtin.clear_, run_underlying X.und, hv, hst]

theorem wpList_clear_far {ops : Array Oper} {rest : List Oper} {o : Oper} {a : Act} {Q : Exit → Act → World → Prop} (X : ST P T t e) (hgd : o.guard = none) (s : Operand)
    (hop : o.op = .call { callee := .builtin .clear, args := #[s], argTypes := #[t] }) (z : Value) (hv : ∀ w, (zeroValue e).run P w = .ok z w) (hz : z.cells.size = T.n) (h1 : ∀ u ∈ z.cells, u.oneCell' = true)
    {g n c oo m c' : Nat} {l : List α} (hs : a.eval s = .slice (some ⟨g, oo, none⟩) m c') (hown : OwL T e w (.slice (some ⟨g, 0, none⟩) n c) l) (ho : n * T.n ≤ oo) (hm : oo + m * T.n ≤ c * T.n)
    (h : ∀ w', OwL T e w' (.slice (some ⟨g, 0, none⟩) n c) l → w.grownBy w' (some g) → wpList P ops Q rest (a.put o.dst (.tuple #[])) w') : wpList P ops Q (o :: rest) a w := by
  refine wpList_plain hgd fun K hK => ?_
  obtain ⟨w', hrun, r1, r2⟩ := run_clear_far X z hv hz h1 o.type hown ho hm
  unfold Oper.wp execOp
  simp only [hop, resolve, invoke, builtin, Sem.run_bind, Sem.run_pure, Result.andThen_ok, List.map_toArray, List.map_cons, List.map_nil, hs]
  rw [hrun]
  exact hK _ _ (h w' r1 r2)
end Go.Proofs.Ytapmieijnbachaa
