/-
  What an argument that can be read is: ints, bools, records, slices of records, slices of slices.
-/
import Derived.Test.YtkldapdpaldbgaaGreatN
import Derived.ProofKit
import Derived.Deep.Slices
namespace Go.Proofs.YtkldapdpaldbgaaGreat
open Go.RowKit Go.ChangeShapes Go.WideShapes Go.Deep

def Opens (P : Program) (t : TypeId) (R : World → List Value → Prop) : Prop :=
  ∀ (H : Type) (enc : TypeId × Value → H) (W : World) (base : Nat) (spare : Nat → Bool) (held : Bool) (fuel : Nat) (cs : List Value) (x : DataW H × List MemPlace), DataW.trod enc P W base spare held fuel t cs = some x → R W cs

variable {P : Program} {t e : TypeId} {α : Type} {T : FT α}

theorem Opens.trod {R : World → List Value → Prop} (h : Opens P t R) {H : Type} {enc : TypeId × Value → H} {W : World} {base : Nat} {spare : Nat → Bool} {held : Bool} {v : Value} {d : DataW H} {ps : List MemPlace} (ht : DataW.Trod enc P W base spare held t v d ps) : R W v.cells.toList := by
  obtain ⟨fuel, hf⟩ := ht
  exact h H enc W base spare held fuel _ _ hf

theorem opens_int (ht : P.underlying t = some (.int .i64)) : Opens P t fun _ cs => ∃ n, cs = [.int .i64 n] ∧ I64 n := by
  intro H enc W base spare held fuel cs x h
  obtain ⟨n, h1, _, h2⟩ := DataW.trod_int ht h
  exact ⟨n, h1, bd_i64 h2⟩

theorem opens_bool (ht : P.underlying t = some .bool) : Opens P t fun _ cs => ∃ b, cs = [.bool b] := by
  intro H enc W base spare held fuel cs x h
  obtain ⟨n, h1, _⟩ := DataW.trod_bool ht h
  exact ⟨n, h1⟩

theorem opens_struct {fs : Array Field} (ht : P.underlying t = some (.struct fs)) (Rs : List (World → List Value → Prop))
    (hf : ∀ (i : Nat) (f : Field), fs[i]? = some f → ∃ R, Rs[i]? = some R ∧ Opens P f.type R) :
    Opens P t fun W cs => cs.length = P.cellsOf t ∧ ∀ (i : Nat) (f : Field) (R : World → List Value → Prop), fs[i]? = some f → Rs[i]? = some R → R W ((cs.drop f.offset).take (P.cellsOf f.type)) := by
  intro H enc W base spare held fuel cs x h
  obtain ⟨xs, n, _, _, hl, hxs, hg⟩ := DataW.trod_struct ht h
  refine ⟨hl, fun i f R h1 h2 => ?_⟩
  obtain ⟨R', h3, h4⟩ := hf i f h1
  rw [h2] at h3
  cases h3
  have h5 := hg i f h1
  have hi : i < fs.size := (Array.getElem?_eq_some_iff.1 h1).1
  rw [List.getElem?_eq_getElem (by omega)] at h5
  exact h4 H enc W base spare held n _ _ h5

theorem cell_spot {W : World} {a : Addr} {v : Value} (h : W.cell? a = some v) : a.spot = none := by
  unfold World.cell? at h
  split at h
  · split at h
    · cases h
    · rename_i hs
      cases hsp : a.spot with
      | none => rfl
      | some _ => rw [hsp] at hs; simp at hs
  · cases h

/-- The elements of a slice, by their cells: what both kinds of slices are opened by. -/
theorem opens_slice_cells {R : World → List Value → Prop} {n : Nat} (ht : P.underlying t = some (.slice e)) (hc : P.cellsOf e = n) (hn : 0 < n) (he : Opens P e R) :
    Opens P t fun W cs => ∃ A len cap, cs = [.slice A len cap] ∧ len ≤ cap ∧ cap ≤ maxLen ∧ (0 < len → ∃ g off, A = some ⟨g, off, none⟩ ∧ g < W.heap.size ∧
      ∀ i, i < len → ∃ cs', cs'.length = n ∧ R W cs' ∧ ∀ j u, cs'[j]? = some u → W.cell? ⟨g, off + (i * n + j), none⟩ = some u) := by
  intro H enc W base spare held fuel cs x h
  rcases open_slice ht h with ⟨rfl, _⟩ | ⟨a, len, cap, m, k, D, Pl, rfl, hb, hl, hm, hmm, _, hi⟩
  · exact ⟨none, 0, 0, rfl, Nat.le_refl _, by simp [maxLen], fun h => absurd h (by omega)⟩
  · refine ⟨some a, len, cap, rfl, hl, hm, fun hpos => ?_⟩
    have hlm : len ≤ m := by rw [hmm]; split <;> omega
    have hcell : ∀ i, i < len → ∃ cs', cs'.length = n ∧ R W cs' ∧ ∀ j, j < n → W.cell? ((a.add (i * n)).add j) = cs'[j]? := by
      intro i hil
      obtain ⟨cs', h1, h2⟩ := hi i (by omega)
      rw [hc] at h1
      obtain ⟨_, h3, h4⟩ := World.cells?_some h1
      exact ⟨cs', h3, he H enc W base spare held k _ _ h2, h4⟩
    obtain ⟨cs0, h3, _, h4⟩ := hcell 0 hpos
    have h5 := h4 0 hn
    rw [Nat.zero_mul] at h5
    have ha0 : (a.add 0).add 0 = a := by simp [Addr.add]
    rw [ha0, List.getElem?_eq_getElem (by omega)] at h5
    have hsp := cell_spot h5
    have hblk := World.block_lt_of_cell? W _ h5
    obtain ⟨g, off, spot⟩ := a
    simp only at hsp
    subst hsp
    refine ⟨g, off, rfl, hblk, fun i hil => ?_⟩
    obtain ⟨cs', q1, q2, q3⟩ := hcell i hil
    refine ⟨cs', q1, q2, fun j u hu => ?_⟩
    have hj : j < n := by
      have := (List.getElem?_eq_some_iff.1 hu).1
      omega
    have q4 := q3 j hj
    rw [hu, Go.Deep.add_add] at q4
    rw [← q4]
    congr 1
    unfold Addr.add
    by_cases h0 : i * n + j = 0
    · rw [if_pos h0, h0]; rfl
    · rw [if_neg h0]

theorem opens_flat (ht : P.underlying t = some (.slice e)) (hc : P.cellsOf e = T.n) (he : Opens P e fun _ cs => ∃ y, cs = T.enc y) :
    Opens P t fun W cs => ∃ v l, cs = [v] ∧ RdL T W W.heap.size v l := by
  intro H enc W base spare held fuel cs x h
  obtain ⟨A, len, cap, rfl, h1, h2, h3⟩ := opens_slice_cells ht hc T.pos he H enc W base spare held fuel cs x h
  by_cases hpos : 0 < len
  · obtain ⟨g, off, rfl, hg, hi⟩ := h3 hpos
    have : ∃ f : Nat → α, ∀ i, i < len → ∀ j u, (T.enc (f i))[j]? = some u → W.cell? ⟨g, off + (i * T.n + j), none⟩ = some u := by
      have hex : ∀ i, ∃ y : α, i < len → ∀ j u, (T.enc y)[j]? = some u → W.cell? ⟨g, off + (i * T.n + j), none⟩ = some u := by
        intro i
        by_cases hil : i < len
        · obtain ⟨cs', _, ⟨y, rfl⟩, q⟩ := hi i hil
          exact ⟨y, fun _ => q⟩
        · exact ⟨T.dflt, fun h => absurd h hil⟩
      exact ⟨fun i => Classical.choose (hex i), fun i hil => Classical.choose_spec (hex i) hil⟩
    obtain ⟨f, hf⟩ := this
    refine ⟨_, (List.range len).map f, rfl, some ⟨g, off, none⟩, cap, by simp, by simpa using h1, h2, fun _ => ⟨g, off, rfl, hg, fun j u hu => ?_⟩⟩
    have hj : j < len * T.n := by
      have := (List.getElem?_eq_some_iff.1 hu).1
      rw [length_flat] at this
      simpa using this
    have hp := T.pos
    have hq : j / T.n < len := by rw [Nat.div_lt_iff_lt_mul hp]; exact hj
    have hx : ((List.range len).map f)[j / T.n]? = some (f (j / T.n)) := by simp [hq]
    have hfg := flat_get T _ (j / T.n) (j % T.n) _ hx (Nat.mod_lt _ hp)
    have hjj : j / T.n * T.n + j % T.n = j := by rw [Nat.mul_comm]; exact Nat.div_add_mod j T.n
    rw [hjj] at hfg
    rw [hfg] at hu
    have := hf _ hq _ u hu
    rw [hjj] at this
    exact this
  · have h0 : len = 0 := by omega
    subst h0
    exact ⟨_, [], rfl, A, cap, rfl, h1, h2, fun hne => absurd rfl hne⟩

theorem opens_nested (ht : P.underlying t = some (.slice e)) (hc : P.cellsOf e = 1) (he : Opens P e fun W cs => ∃ v l, cs = [v] ∧ RdL T W W.heap.size v l) :
    Opens P t fun W cs => ∃ v svs ll, cs = [v] ∧ RdLL T W W.heap.size v svs ll := by
  intro H enc W base spare held fuel cs x h
  obtain ⟨A, len, cap, rfl, h1, h2, h3⟩ := opens_slice_cells ht hc (by decide) he H enc W base spare held fuel cs x h
  by_cases hpos : 0 < len
  · obtain ⟨g, off, rfl, hg, hi⟩ := h3 hpos
    have hex : ∀ i, ∃ y : SV × List α, i < len → RdL T W W.heap.size y.1.val y.2 ∧ W.cell? ⟨g, off + i, none⟩ = some y.1.val := by
      intro i
      by_cases hil : i < len
      · obtain ⟨cs', _, ⟨v, l, rfl, hr⟩, q⟩ := hi i hil
        have := q 0 v rfl
        obtain ⟨A', cap', hv, _⟩ := id hr
        subst hv
        refine ⟨(⟨A', l.length, cap'⟩, l), fun _ => ⟨hr, ?_⟩⟩
        simpa [SV.val] using this
      · exact ⟨(⟨none, 0, 0⟩, []), fun h => absurd h hil⟩
    have : ∃ f : Nat → SV × List α, ∀ i, i < len → RdL T W W.heap.size (f i).1.val (f i).2 ∧ W.cell? ⟨g, off + i, none⟩ = some (f i).1.val := ⟨fun i => Classical.choose (hex i), fun i hil => Classical.choose_spec (hex i) hil⟩
    obtain ⟨f, hf⟩ := this
    refine ⟨_, (List.range len).map (fun i => (f i).1), (List.range len).map (fun i => (f i).2), rfl, by simp, ?_, ?_⟩
    · refine ⟨some ⟨g, off, none⟩, cap, by simp, by simpa using h1, h2, fun _ => ⟨g, off, rfl, hg, fun j u hu => ?_⟩⟩
      have hj : j < len := by
        have := (List.getElem?_eq_some_iff.1 hu).1
        rw [length_flat] at this
        simpa [FS] using this
      have hx : ((List.range len).map fun i => (f i).1)[j]? = some (f j).1 := by simp [hj]
      have hfg := flat_get FS _ j 0 _ hx (by decide)
      rw [show j * FS.n + 0 = j by simp [FS]] at hfg
      rw [hfg] at hu
      have : u = (f j).1.val := by simpa [FS, SV.val, eq_comm] using hu
      rw [this]
      exact (hf j hj).2
    · intro k s l hs hl
      by_cases hk : k < len
      · simp only [List.getElem?_map, List.getElem?_range hk, Option.map_some, Option.some.injEq] at hs hl
        subst hs hl
        exact (hf k hk).1
      · rw [List.getElem?_eq_none (by simp; omega)] at hs
        cases hs
  · have h0 : len = 0 := by omega
    subst h0
    refine ⟨_, [], [], rfl, rfl, ⟨A, cap, rfl, h1, h2, fun hne => absurd rfl hne⟩, fun k s l h => by simp at h⟩

end Go.Proofs.YtkldapdpaldbgaaGreat
