/-
  Slices of slices: read, and owned (each inner slice in a block of its own).
  Plain definitions and theorems; no program in sight.
-/
import Derived.Test.YtkldapdpaldbgaaGreatF
namespace Go.Proofs.YtkldapdpaldbgaaGreat
open Go.RowKit

/-- A slice value, as an element. -/
structure SV where
  a : Option Addr
  len : Nat
  cap : Nat
def SV.val (s : SV) : Value := .slice s.a s.len s.cap
def FS : FT SV := { n := 1, enc := fun s => [.slice s.a s.len s.cap], dflt := ⟨none, 0, 0⟩, len := fun _ => rfl, one := by intro x u hu; simp at hu; subst hu; rfl, pos := by decide, small := by decide }

variable {α : Type} {T : FT α} {w w' : World} {B B' : Nat} {e E : TypeId} {v : Value} {ll : List (List α)} {svs : List SV}

def foot1 (v : Value) : List Nat := v.ownBlock.toList
def foot2 (v : Value) (svs : List SV) : List Nat := foot1 v ++ svs.flatMap fun s => foot1 s.val

/-- v reads as the list of lists ll, all cells below block B. -/
structure RdLL (T : FT α) (w : World) (B : Nat) (v : Value) (svs : List SV) (ll : List (List α)) : Prop where
  len : svs.length = ll.length
  outer : RdL FS w B v svs
  inner : ∀ (k : Nat) (s : SV) (l : List α), svs[k]? = some s → ll[k]? = some l → RdL T w B s.val l

/-- The call owns v and all its rows, each in a block of its own. -/
structure OwLL (T : FT α) (e E : TypeId) (w : World) (v : Value) (svs : List SV) (ll : List (List α)) : Prop where
  len : svs.length = ll.length
  outer : OwL FS E w v svs
  inner : ∀ (k : Nat) (s : SV) (l : List α), svs[k]? = some s → ll[k]? = some l → OwL T e w s.val l
  nodup : (foot2 v svs).Nodup

theorem mem_foot1 {v : Value} {g : Nat} : g ∈ foot1 v ↔ v.ownBlock = some g := by simp [foot1, eq_comm]
theorem mem_foot2 {v : Value} {svs : List SV} {g : Nat} : g ∈ foot2 v svs ↔ v.ownBlock = some g ∨ ∃ s ∈ svs, s.val.ownBlock = some g := by
  simp [foot2, mem_foot1]

theorem RdLL.keep (h : RdLL T w B v svs ll) (hk : ∀ k, k < B → w'.heap[k]? = w.heap[k]?) (hB : B ≤ B') : RdLL T w' B' v svs ll :=
  ⟨h.len, h.outer.keep hk hB, fun k s l h1 h2 => (h.inner k s l h1 h2).keep hk hB⟩
theorem RdLL.grow_ (h : RdLL T w B v svs ll) (hB : B ≤ w.heap.size) (hB' : B ≤ B') (os : List Obj) (d : Nat) : RdLL T (grow w os d) B' v svs ll :=
  h.keep (fun k hk => heap_grow w os d k (by omega)) hB'
theorem RdLL.alloc_ (h : RdLL T w B v svs ll) (hB : B ≤ w.heap.size) (hB' : B ≤ B') (o : Obj) : RdLL T (w.alloc o) B' v svs ll :=
  h.keep (fun k hk => Below.heap_alloc w o k (by omega)) hB'
theorem RdLL.below (h : RdLL T w B v svs ll) (hb : Below B w w') : RdLL T w' B v svs ll := h.keep hb.block (Nat.le_refl _)
theorem RdLL.nil_ : RdLL T w B (.slice none 0 0) [] [] := ⟨rfl, RdL.nil_, fun k s l h => by simp at h⟩

theorem OwLL.lt (h : OwLL T e E w v svs ll) : ∀ g ∈ foot2 v svs, g < w.heap.size := by
  intro g hg
  rcases mem_foot2.1 hg with h1 | ⟨s, hs, h1⟩
  · exact (World.ownsRow.lt h.outer _ h1).2
  · obtain ⟨k, hk, hks⟩ := List.getElem_of_mem hs
    have hl : k < ll.length := by rw [← h.len]; exact hk
    exact (World.ownsRow.lt (h.inner k s ll[k] (by rw [List.getElem?_eq_getElem hk, hks]) (List.getElem?_eq_getElem hl)) _ h1).2

theorem OwLL.rd (h : OwLL T e E w v svs ll) (hB : ∀ g ∈ foot2 v svs, g < B) : RdLL T w B v svs ll :=
  ⟨h.len, h.outer.rd fun g hg => hB g (mem_foot2.2 (.inl hg)), fun k s l h1 h2 => (h.inner k s l h1 h2).rd fun g hg => hB g (mem_foot2.2 (.inr ⟨s, List.mem_of_getElem? h1, hg⟩))⟩
theorem OwLL.rd' (h : OwLL T e E w v svs ll) : RdLL T w w.heap.size v svs ll := h.rd h.lt

theorem OwLL.keep (h : OwLL T e E w v svs ll) (hk : ∀ g ∈ foot2 v svs, w'.heap[g]? = w.heap[g]?) : OwLL T e E w' v svs ll :=
  ⟨h.len, h.outer.keep fun g hg => hk g (mem_foot2.2 (.inl hg)), fun k s l h1 h2 => (h.inner k s l h1 h2).keep fun g hg => hk g (mem_foot2.2 (.inr ⟨s, List.mem_of_getElem? h1, hg⟩)), h.nodup⟩
theorem OwLL.grow_ (h : OwLL T e E w v svs ll) (os : List Obj) (d : Nat) : OwLL T e E (grow w os d) v svs ll :=
  h.keep fun g hg => heap_grow w os d g (h.lt g hg)
theorem OwLL.alloc_ (h : OwLL T e E w v svs ll) (o : Obj) : OwLL T e E (w.alloc o) v svs ll :=
  h.keep fun g hg => Below.heap_alloc w o g (h.lt g hg)

theorem nodup_rows : ∀ {svs : List SV}, (svs.flatMap fun s => foot1 s.val).Nodup → ∀ {i k : Nat} {s s' : SV} {g : Nat}, svs[i]? = some s → svs[k]? = some s' → i ≠ k → s.val.ownBlock = some g → s'.val.ownBlock = some g → False
  | [], _, i, k, s, s', g, hi, _, _, _, _ => by simp at hi
  | x :: xs, hn, i, k, s, s', g, hi, hk, hne, hs, hs' => by
    rw [List.flatMap_cons, List.nodup_append] at hn
    obtain ⟨_, h2, h3⟩ := hn
    cases i with
    | zero =>
      cases k with
      | zero => exact hne rfl
      | succ k =>
        simp only [List.getElem?_cons_zero, Option.some.injEq] at hi
        subst hi
        simp only [List.getElem?_cons_succ] at hk
        exact h3 g (mem_foot1.2 hs) g (List.mem_flatMap.2 ⟨s', List.mem_of_getElem? hk, mem_foot1.2 hs'⟩) rfl
    | succ i =>
      simp only [List.getElem?_cons_succ] at hi
      cases k with
      | zero =>
        simp only [List.getElem?_cons_zero, Option.some.injEq] at hk
        subst hk
        exact h3 g (mem_foot1.2 hs') g (List.mem_flatMap.2 ⟨s, List.mem_of_getElem? hi, mem_foot1.2 hs⟩) rfl
      | succ k =>
        simp only [List.getElem?_cons_succ] at hk
        exact nodup_rows h2 hi hk (fun e => hne (by rw [e])) hs hs'

theorem rd_up {l : List α} (h : RdL T w w.heap.size v l) (hb : Below w.heap.size w w') : RdL T w' w'.heap.size v l := h.keep hb.block hb.size
theorem rdLL_up (h : RdLL T w w.heap.size v svs ll) (hb : Below w.heap.size w w') : RdLL T w' w'.heap.size v svs ll := h.keep hb.block hb.size

/-- Only the blocks of F, and new ones, have turned. -/
structure Chg (F : List Nat) (w w' : World) : Prop where
  os : w'.os = w.os
  tape : w'.tape = w.tape
  output : w'.output = w.output
  size : w.heap.size ≤ w'.heap.size
  block : ∀ k, k < w.heap.size → k ∉ F → w'.heap[k]? = w.heap[k]?

theorem Chg.refl (F : List Nat) (w : World) : Chg F w w := ⟨rfl, rfl, rfl, Nat.le_refl _, fun _ _ _ => rfl⟩
theorem Chg.trans {F : List Nat} {a b c : World} (h : Chg F a b) (k : Chg F b c) : Chg F a c :=
  ⟨k.os.trans h.os, k.tape.trans h.tape, k.output.trans h.output, Nat.le_trans h.size k.size, fun i hi hn => (k.block i (Nat.lt_of_lt_of_le hi h.size) hn).trans (h.block i hi hn)⟩
theorem Chg.mono {F G : List Nat} {a b : World} (h : Chg F a b) (hs : ∀ g ∈ F, g ∈ G) : Chg G a b :=
  ⟨h.os, h.tape, h.output, h.size, fun k hk hn => h.block k hk fun hm => hn (hs k hm)⟩
theorem Chg.of_below {F : List Nat} {a b : World} (h : Below a.heap.size a b) : Chg F a b := ⟨h.os, h.tape, h.output, h.size, fun k hk _ => h.block k hk⟩
theorem Chg.of_grown {a b : World} {v : Value} (h : a.grownBy b v.ownBlock) : Chg (foot1 v) a b :=
  ⟨h.os, h.tape, h.output, h.size, fun k hk hn => h.block k hk fun e => hn (mem_foot1.2 e.symm)⟩
theorem Chg.below {F : List Nat} {a b : World} {B : Nat} (h : Chg F a b) (hB : B ≤ a.heap.size) (hF : ∀ g ∈ F, B ≤ g) : Below B a b :=
  ⟨h.os, h.tape, h.output, h.size, fun k hk => h.block k (by omega) fun hm => by have := hF k hm; omega⟩

theorem OwL.chg {l : List α} {F : List Nat} (h : OwL T e w v l) (hc : Chg F w w') (hd : ∀ g ∈ foot1 v, g ∉ F) : OwL T e w' v l :=
  h.keep fun g hg => hc.block g (World.ownsRow.lt h _ hg).2 (hd g (mem_foot1.2 hg))
theorem OwLL.chg {F : List Nat} (h : OwLL T e E w v svs ll) (hc : Chg F w w') (hd : ∀ g ∈ foot2 v svs, g ∉ F) : OwLL T e E w' v svs ll :=
  h.keep fun g hg => hc.block g (h.lt g hg) (hd g hg)
theorem RdL.chg {l : List α} {F : List Nat} {B : Nat} (h : RdL T w B v l) (hc : Chg F w w') (hB : B ≤ w.heap.size) (hd : ∀ g ∈ F, B ≤ g) : RdL T w' B v l :=
  h.keep (fun k hk => hc.block k (by omega) fun hm => by have := hd k hm; omega) (Nat.le_refl _)
/-- The cells of a block that has not turned. -/
theorem Chg.cell {F : List Nat} (hc : Chg F w w') (b o : Nat) (hb : b < w.heap.size) (hn : b ∉ F) : w'.cell? ⟨b, o, none⟩ = w.cell? ⟨b, o, none⟩ := by
  simp [World.cell?, hc.block b hb hn]
theorem Chg.frozen {F : List Nat} (hc : Chg F w w') (b o : Nat) (hb : b < w.heap.size) (hn : b ∉ F) : w'.frozen? ⟨b, o, none⟩ = w.frozen? ⟨b, o, none⟩ := by
  simp [World.frozen?, hc.block b hb hn]
theorem heap_regrow {a b : World} (os : List Obj) (d d' : Nat) (hs : a.heap.size = b.heap.size) (g : Nat) (hg : a.heap.size ≤ g) : (grow b os d').heap[g]? = (grow a os d).heap[g]? := by
  show (b.heap ++ os.toArray)[g]? = (a.heap ++ os.toArray)[g]?
  rw [Array.getElem?_append, Array.getElem?_append, if_neg (by omega), if_neg (by omega), hs]
theorem OwL.regrow {a b : World} {os : List Obj} {d : Nat} {l : List α} (h : OwL T e (grow a os d) v l) (hs : a.heap.size = b.heap.size) (hf : ∀ g ∈ foot1 v, a.heap.size ≤ g) (d' : Nat) : OwL T e (grow b os d') v l :=
  h.keep fun g hg => heap_regrow os d d' hs g (hf g (mem_foot1.2 hg))
theorem OwLL.regrow {a b : World} {os : List Obj} {d : Nat} (h : OwLL T e E (grow a os d) v svs ll) (hs : a.heap.size = b.heap.size) (hf : ∀ g ∈ foot2 v svs, a.heap.size ≤ g) (d' : Nat) : OwLL T e E (grow b os d') v svs ll :=
  h.keep fun g hg => heap_regrow os d d' hs g (hf g hg)
theorem foot_lt {l : List α} (h : OwL T e w v l) : ∀ g ∈ foot1 v, g < w.heap.size := fun _ hg => (World.ownsRow.lt h _ (mem_foot1.1 hg)).2

/-- One row has been written. -/
theorem OwLL.set_row (h : OwLL T e E w v svs ll) {i : Nat} {s : SV} {l' : List α} (hi : svs[i]? = some s) (hl : OwL T e w' s.val l') (hc : Chg (foot1 s.val) w w') :
    OwLL T e E w' v svs (ll.set i l') := by
  have hs : s ∈ svs := List.mem_of_getElem? hi
  have hn := h.nodup
  unfold foot2 at hn
  rw [List.nodup_append] at hn
  obtain ⟨hn1, hn2, hn3⟩ := hn
  refine ⟨by rw [List.length_set]; exact h.len, ?_, fun k s' l hk hl' => ?_, h.nodup⟩
  · refine h.outer.keep fun g hg => hc.block g (World.ownsRow.lt h.outer _ hg).2 fun hm => ?_
    exact hn3 g (mem_foot1.2 hg) g (List.mem_flatMap.2 ⟨s, hs, hm⟩) rfl
  · by_cases hik : i = k
    · subst hik
      rw [hi] at hk
      cases hk
      have hil : i < ll.length := by
        have := (List.getElem?_eq_some_iff.1 hi).1
        rw [← h.len]; exact this
      rw [List.getElem?_set_self hil] at hl'
      cases hl'
      exact hl
    · rw [List.getElem?_set_ne hik] at hl'
      have ho := h.inner k s' l hk hl'
      refine ho.keep fun g hg => hc.block g (World.ownsRow.lt ho _ hg).2 fun hm => ?_
      exact nodup_rows hn2 hi hk hik (mem_foot1.1 hm) hg

theorem nodup_set : ∀ {svs : List SV} {i : Nat} {s : SV}, (svs.flatMap fun s => foot1 s.val).Nodup → (∀ g ∈ foot1 s.val, g ∉ svs.flatMap fun s => foot1 s.val) → ((svs.set i s).flatMap fun s => foot1 s.val).Nodup
  | [], _, _, _, _ => by simp
  | x :: xs, 0, s, h, hs => by
    rw [List.flatMap_cons, List.nodup_append] at h
    simp only [List.set_cons_zero, List.flatMap_cons, List.nodup_append]
    refine ⟨?_, h.2.1, fun a ha b hb e => ?_⟩
    · unfold foot1
      cases s.val.ownBlock <;> simp
    · subst e
      exact hs a ha (List.mem_flatMap.2 (by
        obtain ⟨y, hy, hm⟩ := List.mem_flatMap.1 hb
        exact ⟨y, List.mem_cons_of_mem _ hy, hm⟩))
  | x :: xs, i + 1, s, h, hs => by
    rw [List.flatMap_cons, List.nodup_append] at h
    simp only [List.set_cons_succ, List.flatMap_cons, List.nodup_append]
    refine ⟨h.1, nodup_set h.2.1 (fun g hg hm => hs g hg ?_), fun a ha b hb e => ?_⟩
    · obtain ⟨y, hy, hm⟩ := List.mem_flatMap.1 hm
      exact List.mem_flatMap.2 ⟨y, List.mem_cons_of_mem _ hy, hm⟩
    · subst e
      obtain ⟨y, hy, hm⟩ := List.mem_flatMap.1 hb
      rcases List.mem_or_eq_of_mem_set hy with hy | rfl
      · exact h.2.2 a ha a (List.mem_flatMap.2 ⟨y, hy, hm⟩) rfl
      · exact hs a hm (List.mem_flatMap.2 ⟨x, List.mem_cons_self .., ha⟩)

/-- A row of the outer slice is replaced by a new one, in a block of its own. -/
theorem OwLL.set_sv {g n c : Nat} (h : OwLL T e E w (.slice (some ⟨g, 0, none⟩) n c) svs ll) {i : Nat} {s0 s : SV} {l : List α} (hi : svs[i]? = some s0) (hl : OwL T e w s.val l) (hf : ∀ b ∈ foot1 s.val, b ∉ foot2 (.slice (some ⟨g, 0, none⟩) n c) svs) :
    OwLL T e E (w.setCell ⟨g, i, none⟩ s.val) (.slice (some ⟨g, 0, none⟩) n c) (svs.set i s) (ll.set i l) := by
  have hn := h.nodup
  unfold foot2 at hn
  rw [List.nodup_append] at hn
  obtain ⟨hn1, hn2, hn3⟩ := hn
  have hg : ∀ s' ∈ svs, s'.val.ownBlock ≠ some g := fun s' hs' he => hn3 g (mem_foot1.2 rfl) g (List.mem_flatMap.2 ⟨s', hs', mem_foot1.2 he⟩) rfl
  have hkeep : ∀ b, b ≠ g → (w.setCell ⟨g, i, none⟩ s.val).heap[b]? = w.heap[b]? := fun b hb => Below.heap_setCell _ _ _ _ hb
  refine ⟨by rw [List.length_set, List.length_set]; exact h.len, ?_, fun k s' l' hk hl' => ?_, ?_⟩
  · have := h.outer.set_ (j := 0) (y := s) (u := .slice s.a s.len s.cap) hi (by decide) rfl
    rw [show i * FS.n + 0 = i by simp [FS]] at this
    exact this
  · have hik := (List.getElem?_eq_some_iff.1 hi).1
    by_cases hki : i = k
    · subst hki
      rw [List.getElem?_set_self hik] at hk
      rw [List.getElem?_set_self (by rw [← h.len]; exact hik)] at hl'
      cases hk
      cases hl'
      exact hl.keep fun b hb => hkeep b fun e => hf b (mem_foot1.2 hb) (mem_foot2.2 (.inl (by rw [e]; rfl)))
    · rw [List.getElem?_set_ne hki] at hk hl'
      exact (h.inner k s' l' hk hl').keep fun b hb => hkeep b fun e => hg s' (List.mem_of_getElem? hk) (by rw [hb, e])
  · unfold foot2
    rw [List.nodup_append]
    refine ⟨hn1, nodup_set hn2 (fun b hb hm => hf b hb (List.mem_append.2 (.inr hm))), fun a ha b hb e => ?_⟩
    subst e
    obtain ⟨y, hy, hm⟩ := List.mem_flatMap.1 hb
    rcases List.mem_or_eq_of_mem_set hy with hy | rfl
    · exact hn3 a ha a (List.mem_flatMap.2 ⟨y, hy, hm⟩) rfl
    · exact hf a hm (List.mem_append.2 (.inl ha))

theorem OwLL.made (z : Array Value) (hz : z.toList = [.slice none 0 0]) (n : Nat) (hn : n ≤ maxLen) (w : World) (T : FT α) (e E : TypeId) :
    OwLL T e E (w.alloc (.cells (madeCells z (n * 1)) E)) (.slice (some ⟨w.heap.size, 0, none⟩) n n) (List.replicate n ⟨none, 0, 0⟩) (List.replicate n []) := by
  refine ⟨by simp, OwL.made FS z hz n hn w E, fun k s l hk hl => ?_, ?_⟩
  · rw [List.getElem?_replicate] at hk hl
    split at hk
    · rename_i h
      rw [if_pos h] at hl
      cases hk
      cases hl
      exact World.ownsRow_nil _ _ _ _
    · cases hk
  · unfold foot2
    have : (List.replicate n (⟨none, 0, 0⟩ : SV)).flatMap (fun s => foot1 s.val) = [] := by
      rw [List.flatMap_eq_nil_iff]
      intro x hx
      rw [List.eq_of_mem_replicate hx]
      rfl
    rw [this]
    simp [foot1, Value.ownBlock]

theorem RdLL.row {wr : World} {A : Option Addr} {n c i : Nat} (h : RdLL T w w.heap.size (.slice A n c) svs ll) (hb : Below w.heap.size w wr) (hi : i < ll.length) :
    ∃ g o A' c', A = some ⟨g, o, none⟩ ∧ g < w.heap.size ∧ wr.cell? ⟨g, o + i, none⟩ = some (.slice A' ll[i].length c') ∧ RdL T w w.heap.size (.slice A' ll[i].length c') ll[i] := by
  have hs : i < svs.length := by rw [h.len]; exact hi
  obtain ⟨g, o, cap, hv, hg, _, _, hc⟩ := (h.outer.below hb).at_ (List.getElem?_eq_getElem hs)
  have r := h.inner i _ _ (List.getElem?_eq_getElem hs) (List.getElem?_eq_getElem hi)
  obtain ⟨A', c', hv', _⟩ := id r
  injection hv with e1 _ _
  have := hc 0 _ rfl
  refine ⟨g, o, A', c', e1, hg, ?_, by rw [← hv']; exact r⟩
  rw [← hv']
  simpa [FS, SV.val] using this
theorem RdLL.len' {A : Option Addr} {n c : Nat} (h : RdLL T w B (.slice A n c) svs ll) : n = ll.length ∧ ll.length ≤ c ∧ c ≤ maxLen := by
  obtain ⟨A', c', hv, q1, q2, _⟩ := h.outer
  injection hv with _ e2 e3
  rw [h.len] at e2 q1
  subst e3
  exact ⟨e2, q1, q2⟩
theorem foot2_set {svs : List SV} {i : Nat} {s : SV} {b : Nat} (h : b ∈ foot2 v (svs.set i s)) : b ∈ foot2 v svs ∨ b ∈ foot1 s.val := by
  rcases mem_foot2.1 h with h1 | ⟨y, hy, h1⟩
  · exact .inl (mem_foot2.2 (.inl h1))
  · rcases List.mem_or_eq_of_mem_set hy with hy | hy
    · exact .inl (mem_foot2.2 (.inr ⟨y, hy, h1⟩))
    · rw [hy] at h1
      exact .inr (mem_foot1.2 h1)
theorem foot2_made (B n : Nat) : ∀ g ∈ foot2 (.slice (some ⟨B, 0, none⟩) n n) (List.replicate n ⟨none, 0, 0⟩), B ≤ g := by
  intro g hg
  rcases mem_foot2.1 hg with h | ⟨y, hy, h⟩
  · simp [Value.ownBlock] at h
    omega
  · rw [List.eq_of_mem_replicate hy] at h
    simp [SV.val, Value.ownBlock] at h

/-- How many elements and rows there are. -/
def szLL (ll : List (List α)) : Nat := ll.length + (ll.map List.length).sum

/-- How many elements. -/
def totLL (ll : List (List α)) : Nat := (ll.map List.length).sum
theorem totLL_take_succ (ll : List (List α)) (i : Nat) (hi : i < ll.length) : totLL (ll.take (i + 1)) = totLL (ll.take i) + ll[i].length := by
  unfold totLL
  rw [List.take_succ_eq_append_getElem hi, List.map_append, List.sum_append]
  simp only [List.map_cons, List.map_nil, List.sum_cons, List.sum_nil, Nat.add_zero]
theorem totLL_eq (ll : List (List α)) : totLL ll = ll.flatten.length := by unfold totLL; rw [List.length_flatten]
theorem totLL_take_le (ll : List (List α)) (i : Nat) : totLL (ll.take i) ≤ totLL ll := by
  unfold totLL
  conv => rhs; rw [← List.take_append_drop i ll]
  rw [List.map_append, List.sum_append]
  omega

/-- All rows marked, from k on. -/
def markLL (mk : Int → α) (n : Nat) : List (List α) → Int → List (List α)
  | [], _ => []
  | l :: ls, k => marks mk n l l.length k :: markLL mk n ls (k + (l.length : Int) * n)
/-- The first i rows are marked. -/
def marksLL (mk : Int → α) (n : Nat) (ll : List (List α)) (i : Nat) (k : Int) : List (List α) := markLL mk n (ll.take i) k ++ ll.drop i
theorem length_markLL (mk : Int → α) (n : Nat) : ∀ (ll : List (List α)) (k : Int), (markLL mk n ll k).length = ll.length
  | [], _ => rfl
  | l :: ls, k => by simp [markLL, length_markLL mk n ls]
theorem markLL_append (mk : Int → α) (n : Nat) : ∀ (a b : List (List α)) (k : Int), markLL mk n (a ++ b) k = markLL mk n a k ++ markLL mk n b (k + (totLL a : Int) * n)
  | [], b, k => by simp [markLL, totLL]
  | l :: ls, b, k => by
    simp only [List.cons_append, markLL, markLL_append mk n ls b, totLL, List.map_cons, List.sum_cons]
    congr 2
    congr 1
    rw [Int.natCast_add, Int.add_mul, Int.add_assoc]
theorem marksLL_get (mk : Int → α) (n : Nat) (ll : List (List α)) (i : Nat) (k : Int) (hi : i < ll.length) : (marksLL mk n ll i k)[i]? = some ll[i] := by
  unfold marksLL
  rw [List.getElem?_append, if_neg (by rw [length_markLL]; simp; omega), length_markLL]
  simp [Nat.min_eq_left (Nat.le_of_lt hi), hi]
theorem marksLL_step (mk : Int → α) (n : Nat) (ll : List (List α)) (i : Nat) (k : Int) (hi : i < ll.length) :
    (marksLL mk n ll i k).set i (marks mk n ll[i] ll[i].length (k + (totLL (ll.take i) : Int) * n)) = marksLL mk n ll (i + 1) k := by
  unfold marksLL
  rw [List.set_append, if_neg (by rw [length_markLL]; simp; omega), length_markLL, List.take_succ_eq_append_getElem hi, markLL_append, List.append_assoc]
  congr 1
  rw [List.length_take, Nat.min_eq_left (Nat.le_of_lt hi), Nat.sub_self, List.drop_eq_getElem_cons hi]
  rfl
theorem marksLL_all (mk : Int → α) (n : Nat) (ll : List (List α)) (k : Int) : marksLL mk n ll ll.length k = markLL mk n ll k := by simp [marksLL]
theorem markLL_get (mk : Int → α) (n : Nat) (ll : List (List α)) (i : Nat) (k : Int) (hi : i < ll.length) : (markLL mk n ll k)[i]? = some (marks mk n ll[i] ll[i].length (k + (totLL (ll.take i) : Int) * n)) := by
  have h := markLL_append mk n (ll.take i) (ll.drop i) k
  rw [List.take_append_drop] at h
  rw [h, List.getElem?_append, if_neg (by rw [length_markLL]; simp; omega), length_markLL, List.length_take, Nat.min_eq_left (Nat.le_of_lt hi), Nat.sub_self, List.drop_eq_getElem_cons hi]
  rfl

def leftOf (k n : Nat) : Int := if n ≤ k then (k : Int) - n else -1
theorem leftOf_pos {k n : Nat} (h : n ≤ k) : leftOf k n = (k : Int) - n := if_pos h
theorem leftOf_neg {k n : Nat} (h : ¬ n ≤ k) : leftOf k n = -1 := if_neg h

theorem le_szLL {l : List α} (h : l ∈ ll) : l.length ≤ szLL ll := by
  have : l.length ≤ (ll.map List.length).sum := by
    induction ll with
    | nil => simp at h
    | cons x xs ih =>
      rcases List.mem_cons.1 h with rfl | h
      · simp
      · have := ih h
        simp; omega
  unfold szLL
  omega

end Go.Proofs.YtkldapdpaldbgaaGreat
