/-
  Several texts in one: lemmas and contracts that the claim rests on.
-/
import Derived.Test.YtpjijbonpjoamaaGreatUHAllocNow1
import Derived.Deep.QuietTactic
import Derived.BigQuiet
import Derived.Deep.LoopGhost
import Derived.Deep.RegionHeld3
import Derived.WalkSpells
import Derived.Laws.Cover3
import Derived.Test.YtpjijbonpjoamaaGreatUHAllocNow6
import Derived.Test.YtpjijbonpjoamaaGreatUHAllocNow7
/-
  Lists popped from, owned all the same.
-/
namespace Go.Proofs.YtpjijbonpjoamaaGreat
open Go.RowKit

def OwW {α : Type} (T : FT α) (e : TypeId) (w : World) (v : Value) (l : List α) : Prop :=
  ∃ (v0 : Value) (r : List α), OwL T e w v0 (l ++ r) ∧ ((v = v0 ∧ r = []) ∨ ∃ g n c c0, v0 = .slice (some ⟨g, 0, none⟩) n c0 ∧ v = .slice (some ⟨g, 0, none⟩) l.length c ∧ l.length ≤ c ∧ c ≤ c0)
theorem OwL.toW {α : Type} {T : FT α} {e : TypeId} {w : World} {v : Value} {l : List α} (h : OwL T e w v l) : OwW T e w v l := ⟨v, [], by simpa using h, .inl ⟨rfl, rfl⟩⟩
theorem ownW_block {α : Type} {v v0 : Value} {l r : List α} (h : (v = v0 ∧ r = []) ∨ ∃ g n c c0, v0 = .slice (some ⟨g, 0, none⟩) n c0 ∧ v = .slice (some ⟨g, 0, none⟩) l.length c ∧ l.length ≤ c ∧ c ≤ c0) : v.ownBlock = v0.ownBlock := by
  rcases h with ⟨rfl, _⟩ | ⟨g, n, c, c0, rfl, rfl, _, _⟩ <;> rfl
theorem OwW.keep {α : Type} {T : FT α} {e : TypeId} {w w' : World} {v : Value} {l : List α} (h : OwW T e w v l) (hk : ∀ g, v.ownBlock = some g → w'.heap[g]? = w.heap[g]?) : OwW T e w' v l := by
  obtain ⟨v0, r, ho, hd⟩ := h
  exact ⟨v0, r, ho.keep (fun g hg => hk g (by rw [ownW_block hd]; exact hg)), hd⟩
theorem OwW.lt {α : Type} {T : FT α} {e : TypeId} {w : World} {v : Value} {l : List α} (h : OwW T e w v l) : ∀ g ∈ foot1 v, g < w.heap.size := by
  obtain ⟨v0, r, ho, hd⟩ := h
  intro g hg
  exact foot_lt ho g (mem_foot1.2 (by rw [← ownW_block hd]; exact mem_foot1.1 hg))
theorem OwW.chg {α : Type} {T : FT α} {e : TypeId} {w w' : World} {v : Value} {l : List α} {F : List Nat} (h : OwW T e w v l) (hc : Chg F w w') (hd : ∀ g ∈ foot1 v, g ∉ F) : OwW T e w' v l :=
  h.keep fun g hg => hc.block g (h.lt g (mem_foot1.2 hg)) (hd g (mem_foot1.2 hg))
theorem OwW.form {α : Type} {T : FT α} {e : TypeId} {w : World} {v : Value} {l : List α} (h : OwW T e w v l) : (v = .slice none 0 0 ∧ l = []) ∨ ∃ g cap, v = .slice (some ⟨g, 0, none⟩) l.length cap ∧ g < w.heap.size ∧ l.length ≤ cap ∧ cap ≤ maxLen := by
  obtain ⟨v0, r, ho, hd⟩ := h
  rcases hd with ⟨rfl, rfl⟩ | ⟨g, n, c, c0, rfl, rfl, h1, h2⟩
  · rw [List.append_nil] at ho
    exact ho.form
  · rcases ho.form with ⟨h, _⟩ | ⟨g', cap', hv, hg, hl, hm⟩
    · cases h
    · injection hv with e1 e2 e3
      injection e1 with e1
      injection e1 with e1
      subst e1
      exact .inr ⟨g, c, rfl, hg, h1, by omega⟩
theorem OwW.cell_ {α : Type} {T : FT α} {e : TypeId} {w : World} {g n c : Nat} {l : List α} (h : OwW T e w (.slice (some ⟨g, 0, none⟩) n c) l) {k j : Nat} {x : α} (hx : l[k]? = some x) (hj : j < T.n) : w.cell? ⟨g, k * T.n + j, none⟩ = (T.enc x)[j]? := by
  obtain ⟨v0, r, ho, hd⟩ := h
  have hx' : (l ++ r)[k]? = some x := by rw [List.getElem?_append_left (List.getElem?_eq_some_iff.1 hx).1]; exact hx
  rcases hd with ⟨rfl, rfl⟩ | ⟨g', n', c', c0, rfl, hv, h1, h2⟩
  · exact ho.cell_ hx' hj
  · injection hv with e1 e2 e3
    injection e1 with e1
    injection e1 with e1
    subst e1
    exact ho.cell_ hx' hj
theorem OwW.frozen_ {α : Type} {T : FT α} {e : TypeId} {w : World} {g n c : Nat} {l : List α} (h : OwW T e w (.slice (some ⟨g, 0, none⟩) n c) l) (j : Nat) : w.frozen? ⟨g, j, none⟩ = false := by
  obtain ⟨v0, r, ho, hd⟩ := h
  rcases hd with ⟨rfl, rfl⟩ | ⟨g', n', c', c0, rfl, hv, h1, h2⟩
  · exact ho.frozen_ j
  · injection hv with e1 e2 e3
    injection e1 with e1
    injection e1 with e1
    subst e1
    exact ho.frozen_ j
theorem OwW.set_ {α : Type} {T : FT α} {e : TypeId} {w : World} {g n c : Nat} {l : List α} (h : OwW T e w (.slice (some ⟨g, 0, none⟩) n c) l) {k j : Nat} {x y : α} {u : Value} (hx : l[k]? = some x) (hj : j < T.n) (hy : T.enc y = (T.enc x).set j u) :
    OwW T e (w.setCell ⟨g, k * T.n + j, none⟩ u) (.slice (some ⟨g, 0, none⟩) n c) (l.set k y) := by
  obtain ⟨v0, r, ho, hd⟩ := h
  have hk := (List.getElem?_eq_some_iff.1 hx).1
  have hx' : (l ++ r)[k]? = some x := by rw [List.getElem?_append_left hk]; exact hx
  rcases hd with ⟨rfl, rfl⟩ | ⟨g', n', c', c0, rfl, hv, h1, h2⟩
  · refine ⟨_, [], ?_, .inl ⟨rfl, rfl⟩⟩
    have := ho.set_ hx' hj hy
    rwa [List.append_nil] at this ⊢
  · injection hv with e1 e2 e3
    injection e1 with e1
    injection e1 with e1
    subst e1 e2 e3
    refine ⟨_, r, ?_, .inr ⟨g, n', c, c0, rfl, by rw [List.length_set], by rw [List.length_set]; exact h1, h2⟩⟩
    have := ho.set_ hx' hj hy
    rwa [List.set_append_left _ _ hk] at this
theorem OwW.rd {α : Type} {T : FT α} {e : TypeId} {w : World} {B : Nat} {v : Value} {l : List α} (h : OwW T e w v l) (hB : ∀ g ∈ foot1 v, g < B) : RdL T w B v l := by
  obtain ⟨v0, r, ho, hd⟩ := h
  have hr := ho.rd (B := B) (fun g hg => hB g (mem_foot1.2 (by rw [ownW_block hd]; exact hg)))
  rcases hd with ⟨rfl, rfl⟩ | ⟨g, n, c, c0, rfl, rfl, h1, h2⟩
  · rwa [List.append_nil] at hr
  · obtain ⟨A, cap, hv, q1, q2, q3⟩ := hr
    injection hv with e1 e2 e3
    subst e1 e2 e3
    refine ⟨_, c, rfl, h1, by omega, fun hne => ?_⟩
    obtain ⟨g', off, hA, hg, hc⟩ := q3 (by intro hh; exact hne (List.append_eq_nil_iff.1 hh).1)
    refine ⟨g', off, hA, hg, fun j u hu => hc j u ?_⟩
    rw [flat_append, List.getElem?_append_left (List.getElem?_eq_some_iff.1 hu).1]
    exact hu
theorem OwW.rd' {α : Type} {T : FT α} {e : TypeId} {w : World} {v : Value} {l : List α} (h : OwW T e w v l) : RdL T w w.heap.size v l := h.rd h.lt
structure OwLLW {α : Type} (T : FT α) (e E : TypeId) (w : World) (v : Value) (svs : List SV) (ll : List (List α)) : Prop where
  len : svs.length = ll.length
  outer : OwL FS E w v svs
  inner : ∀ (k : Nat) (s : SV) (l : List α), svs[k]? = some s → ll[k]? = some l → OwW T e w s.val l
  nodup : (foot2 v svs).Nodup
theorem OwLL.toW {α : Type} {T : FT α} {e E : TypeId} {w : World} {v : Value} {svs : List SV} {ll : List (List α)} (h : OwLL T e E w v svs ll) : OwLLW T e E w v svs ll := ⟨h.len, h.outer, fun k s l a b => (h.inner k s l a b).toW, h.nodup⟩
theorem OwLLW.lt {α : Type} {T : FT α} {e E : TypeId} {w : World} {v : Value} {svs : List SV} {ll : List (List α)} (h : OwLLW T e E w v svs ll) : ∀ g ∈ foot2 v svs, g < w.heap.size := by
  intro g hg
  rcases mem_foot2.1 hg with hg | ⟨s, hs, hg⟩
  · exact foot_lt h.outer g (mem_foot1.2 hg)
  · obtain ⟨k, hk, rfl⟩ := List.mem_iff_getElem.1 hs
    exact (h.inner k _ _ (List.getElem?_eq_getElem hk) (List.getElem?_eq_getElem (by rw [← h.len]; exact hk))).lt g (mem_foot1.2 hg)
theorem OwLLW.keep {α : Type} {T : FT α} {e E : TypeId} {w w' : World} {v : Value} {svs : List SV} {ll : List (List α)} (h : OwLLW T e E w v svs ll) (hk : ∀ g ∈ foot2 v svs, w'.heap[g]? = w.heap[g]?) : OwLLW T e E w' v svs ll :=
  ⟨h.len, h.outer.keep (fun g hg => hk g (mem_foot2.2 (.inl hg))), fun k s l a b => (h.inner k s l a b).keep (fun g hg => hk g (mem_foot2.2 (.inr ⟨s, List.mem_of_getElem? a, hg⟩))), h.nodup⟩
theorem OwLLW.chg {α : Type} {T : FT α} {e E : TypeId} {w w' : World} {v : Value} {svs : List SV} {ll : List (List α)} {F : List Nat} (h : OwLLW T e E w v svs ll) (hc : Chg F w w') (hd : ∀ g ∈ foot2 v svs, g ∉ F) : OwLLW T e E w' v svs ll :=
  h.keep fun g hg => hc.block g (h.lt g hg) (hd g hg)
theorem OwLLW.rd {α : Type} {T : FT α} {e E : TypeId} {w : World} {B : Nat} {v : Value} {svs : List SV} {ll : List (List α)} (h : OwLLW T e E w v svs ll) (hB : ∀ g ∈ foot2 v svs, g < B) : RdLL T w B v svs ll :=
  ⟨h.len, h.outer.rd (fun g hg => hB g (mem_foot2.2 (.inl hg))), fun k s l a b => (h.inner k s l a b).rd (fun g hg => hB g (mem_foot2.2 (.inr ⟨s, List.mem_of_getElem? a, mem_foot1.1 hg⟩)))⟩
theorem OwLLW.rd' {α : Type} {T : FT α} {e E : TypeId} {w : World} {v : Value} {svs : List SV} {ll : List (List α)} (h : OwLLW T e E w v svs ll) : RdLL T w w.heap.size v svs ll := h.rd h.lt
theorem OwLLW.set_row {α : Type} {T : FT α} {e E : TypeId} {w w' : World} {v : Value} {svs : List SV} {ll : List (List α)} (h : OwLLW T e E w v svs ll) {i : Nat} {s : SV} {l' : List α} (hi : svs[i]? = some s) (hl : OwW T e w' s.val l') (hc : Chg (foot1 s.val) w w') :
    OwLLW T e E w' v svs (ll.set i l') := by
  have hs : s ∈ svs := List.mem_of_getElem? hi
  have hn := h.nodup
  unfold foot2 at hn
  rw [List.nodup_append] at hn
  obtain ⟨hn1, hn2, hn3⟩ := hn
  refine ⟨by rw [List.length_set]; exact h.len, ?_, fun k s' l hk hl' => ?_, h.nodup⟩
  · refine h.outer.keep fun g hg => hc.block g (foot_lt h.outer g (mem_foot1.2 hg)) fun hm => ?_
    exact hn3 g (mem_foot1.2 hg) g (List.mem_flatMap.2 ⟨s, hs, hm⟩) rfl
  · by_cases hik : i = k
    · subst hik
      rw [hi] at hk
      cases hk
      have hil : i < ll.length := by
        have := (List.getElem?_eq_some_iff.1 hi).1
        rw [← h.len]; exact this
      rw [List.getElem?_set_self hil] at hl'
      cases hl'
      exact hl
    · rw [List.getElem?_set_ne hik] at hl'
      have ho := h.inner k s' l hk hl'
      refine ho.keep fun g hg => hc.block g (ho.lt g (mem_foot1.2 hg)) fun hm => ?_
      exact nodup_rows hn2 hi hk hik (mem_foot1.1 hm) hg
structure OwListsW (w : World) (H : HLists) (x : Lists) : Prop where
  Global : OwLLW FI 3 80 w H.Global.val H.GlobalT x.Global
  Own : OwLLW FI 3 80 w H.Own.val H.OwnT x.Own
  d01 : ∀ g ∈ foot2 H.Global.val H.GlobalT, g ∉ foot2 H.Own.val H.OwnT
theorem OwLists.toW {w : World} {H : HLists} {x : Lists} (h : OwLists w H x) : OwListsW w H x := ⟨h.Global.toW, h.Own.toW, h.d01⟩
theorem OwListsW.lt {w : World} {H : HLists} {x : Lists} (h : OwListsW w H x) : ∀ g ∈ H.foot, g < w.heap.size := by
  intro g hg
  rcases HLists.mem_foot.1 hg with hg | hg
  · exact h.Global.lt g hg
  · exact h.Own.lt g hg
theorem OwListsW.keep {w w' : World} {H : HLists} {x : Lists} (h : OwListsW w H x) (hk : ∀ g ∈ H.foot, w'.heap[g]? = w.heap[g]?) : OwListsW w' H x :=
  ⟨h.Global.keep (fun g hg => hk g (HLists.mem_foot.2 (.inl hg))), h.Own.keep (fun g hg => hk g (HLists.mem_foot.2 (.inr hg))), h.d01⟩
theorem OwListsW.chg {w w' : World} {H : HLists} {x : Lists} {F : List Nat} (h : OwListsW w H x) (hc : Chg F w w') (hd : ∀ g ∈ H.foot, g ∉ F) : OwListsW w' H x := h.keep fun g hg => hc.block g (h.lt g hg) (hd g hg)
theorem OwListsW.rd {w : World} {B : Nat} {H : HLists} {x : Lists} (h : OwListsW w H x) (hB : ∀ g ∈ H.foot, g < B) : RdLists w B H x :=
  ⟨h.Global.rd (fun g hg => hB g (HLists.mem_foot.2 (.inl hg))), h.Own.rd (fun g hg => hB g (HLists.mem_foot.2 (.inr hg)))⟩
theorem OwListsW.rd' {w : World} {H : HLists} {x : Lists} (h : OwListsW w H x) : RdLists w w.heap.size H x := h.rd h.lt
structure OwMemW (w : World) (H : HMem) (x : Mem) : Prop where
  Heap : OwHeap w H.Heap x.Heap
  Lists : OwListsW w H.Lists x.Lists
  d01 : ∀ g ∈ H.Heap.foot, g ∉ H.Lists.foot
theorem OwMem.toW {w : World} {H : HMem} {x : Mem} (h : OwMem w H x) : OwMemW w H x := ⟨h.Heap, h.Lists.toW, h.d01⟩
theorem OwMemW.lt {w : World} {H : HMem} {x : Mem} (h : OwMemW w H x) : ∀ g ∈ H.foot, g < w.heap.size := by
  intro g hg
  rcases HMem.mem_foot.1 hg with hg | hg
  · exact h.Heap.lt g hg
  · exact h.Lists.lt g hg
theorem OwMemW.keep {w w' : World} {H : HMem} {x : Mem} (h : OwMemW w H x) (hk : ∀ g ∈ H.foot, w'.heap[g]? = w.heap[g]?) : OwMemW w' H x :=
  ⟨h.Heap.keep (fun g hg => hk g (HMem.mem_foot.2 (.inl hg))), h.Lists.keep (fun g hg => hk g (HMem.mem_foot.2 (.inr hg))), h.d01⟩
theorem OwMemW.chg {w w' : World} {H : HMem} {x : Mem} {F : List Nat} (h : OwMemW w H x) (hc : Chg F w w') (hd : ∀ g ∈ H.foot, g ∉ F) : OwMemW w' H x := h.keep fun g hg => hc.block g (h.lt g hg) (hd g hg)
theorem OwMemW.rd {w : World} {B : Nat} {H : HMem} {x : Mem} (h : OwMemW w H x) (hB : ∀ g ∈ H.foot, g < B) : RdMem w B H x :=
  ⟨h.Heap.rd (fun g hg => hB g (HMem.mem_foot.2 (.inl hg))), h.Lists.rd (fun g hg => hB g (HMem.mem_foot.2 (.inr hg)))⟩
theorem OwMemW.rd' {w : World} {H : HMem} {x : Mem} (h : OwMemW w H x) : RdMem w w.heap.size H x := h.rd h.lt
set_option maxHeartbeats 1000000 in
theorem markIntS_ctW (w : World) (v : Value) (l : List Int) (k : Int) (h : OwW FI 3 w v l) (hk0 : 0 ≤ k) (hk1 : (k + (l.length : Int)) ≤ 4611686018427387904) :
    Calls Tryz.prog 86 #[v, .int .i64 k] w fun e w' => e = .returned (.int .i64 (k + (l.length : Int))) ∧ OwW FI 3 w' v (marks mkInt 1 l l.length k) ∧ w.grownBy w' v.ownBlock ∧ w'.heap.size = w.heap.size := by
  rcases h.form with ⟨rfl, rfl⟩ | ⟨g, cap, hv, hg, hl, hc⟩
  · go_enter Tryz.func86, Tryz.ntmps86
    go_wp2
    go_loop [1, 5] (fun q i => q = .int .i64 k ∧ i = .int .i64 0) (fun _ _ => 0)
    case atStart => exact ⟨rfl, rfl⟩
    case round =>
      obtain ⟨rfl, rfl⟩ := hrel
      go_wp2
      go_ret
      exact ⟨by simp, h, World.grownBy.refl _ _, rfl⟩
  subst hv
  go_enter Tryz.func86, Tryz.ntmps86
  go_wp2
  go_loopw [1, 5] (fun q i wr => ∃ i' : Nat, i' ≤ l.length ∧ i = .int .i64 i' ∧ q = .int .i64 (k + (i' : Int)) ∧ OwW FI 3 wr (.slice (some ⟨g, 0, none⟩) l.length cap) (marks mkInt 1 l i' k) ∧ w.grownBy wr (some g) ∧ wr.heap.size = w.heap.size) (fun _ i _ => l.length - (intOf i).toNat)
  case atStart => exact ⟨0, Nat.zero_le _, rfl, by simp, h, World.grownBy.refl _ _, rfl⟩
  case round =>
    obtain ⟨i, hi, rfl, rfl, ho, hgr, hsz⟩ := hrel
    by_cases hlt : i < l.length
    · have hx := marks_get mkInt 1 l i k hlt
      have hf := ho.frozen_
      have c0 : wr.cell? ⟨g, i, none⟩ = some (.int .i64 l[i]) := by simpa [FI] using ho.cell_ (j := 0) hx (by decide)
      clear h
      go_wp2
      clear hf c0
      go_roundw
      case rel =>
        have s0 := ho.set_ (j := 0) (y := ((k + (i : Int)) : Int)) (u := .int .i64 (k + (i : Int))) hx (by decide) rfl
        refine ⟨i + 1, by omega, by go_num, by go_num, ?_, grown_set (hgr) _ _, by simp [hsz]⟩
        rw [show i * FI.n + 0 = i by simp [FI]] at s0
        have e := marks_step mkInt 1 l i k hlt
        rw [← e]
        simpa [mkInt] using s0
      case measure => simp [intOf]; omega
    · go_wp2
      go_ret
      obtain rfl : i = l.length := by omega
      exact ⟨rfl, ho, hgr, hsz⟩

set_option maxHeartbeats 1000000 in
theorem markSListS_ctW (w : World) (v : Value) (t : List SV) (ll : List (List Int)) (k : Int) (h : OwLLW FI 3 80 w v t ll) (hk0 : 0 ≤ k) (hk1 : (k + (totLL ll : Int)) ≤ 4611686018427387904) :
    Calls Tryz.prog 87 #[v, .int .i64 k] w fun e w' => e = .returned (.int .i64 (k + (totLL ll : Int))) ∧ OwLLW FI 3 80 w' v t (markLL mkInt 1 ll k) ∧ Chg (foot2 v t) w w' := by
  obtain ⟨A, c, hv, _⟩ := id h.rd'.outer
  rw [h.len] at hv
  have hlt0 : ll.length ≤ 9223372036854775807 := by
    have := h.rd'.outer
    obtain ⟨_, c', _, q1, q2, _⟩ := this
    rw [h.len] at q1
    unfold maxLen at q2
    omega
  subst hv
  go_enter Tryz.func87, Tryz.ntmps87
  go_wp2
  go_loopw [1, 5] (fun q i wr => ∃ i' : Nat, i' ≤ ll.length ∧ i = .int .i64 i' ∧ q = .int .i64 (k + (totLL (ll.take i') : Int)) ∧ OwLLW FI 3 80 wr (.slice A ll.length c) t (marksLL mkInt 1 ll i' k) ∧ Chg (foot2 (.slice A ll.length c) t) w wr) (fun _ i _ => ll.length - (intOf i).toNat)
  case atStart => exact ⟨0, Nat.zero_le _, rfl, by simp [totLL], h, Chg.refl _ _⟩
  case round =>
    obtain ⟨i, hi, rfl, rfl, ho, hch⟩ := hrel
    by_cases hlt : i < ll.length
    · have hT : Hid (t.length = ll.length) := h.len
      have m1 : t[i]? = some (t[i]'(by rw [hT.out]; exact hlt)) := List.getElem?_eq_getElem _
      generalize t[i]'(by rw [hT.out]; exact hlt) = s at m1
      have ro := ho.inner i s _ m1 (marksLL_get mkInt 1 ll i k hlt)
      obtain ⟨g, o1, cap1, e1, b1, _, _, q1⟩ := ho.rd'.outer.at_ m1
      injection e1 with e11 e12 e13
      clear e12
      subst e11 e13
      have p0 : wr.cell? ⟨g, o1 + i, none⟩ = some (.slice s.a s.len s.cap) := by simpa [FS] using q1 0 _ rfl
      have ht1 := totLL_take_succ ll i hlt
      have ht2 := totLL_take_le ll (i + 1)
      have HT : Hid (totLL (ll.take (i + 1)) = totLL (ll.take i) + ll[i].length) := ht1
      have kb : k + (totLL (ll.take i) : Int) * 1 + (ll[i].length : Int) * 1 ≤ 4611686018427387904 := by omega
      have k0 : 0 ≤ k + (totLL (ll.take i) : Int) * 1 := by omega
      clear q1 ht1 h
      go_wp2_with (go_at_call 86; refine (markIntS_ctW _ s.val ll[i] _ ro (by omega) (by omega)).mono ?_; rintro e w1 ⟨rfl, ho1, hg1, hs1⟩)
      go_roundw
      case rel =>
        refine ⟨i + 1, by omega, by go_num, by rw [HT.out]; go_num, ?_, hch.trans ((Chg.of_grown hg1).mono fun g hg => mem_foot2.2 (.inr ⟨s, List.mem_of_getElem? m1, mem_foot1.1 hg⟩))⟩
        have e := marksLL_step mkInt 1 ll i k hlt
        rw [← e]
        refine ho.set_row m1 ?_ (Chg.of_grown hg1)
        simpa using ho1
      case measure => simp [intOf]; omega
    · go_wp2
      go_ret
      obtain rfl : i = ll.length := by omega
      exact ⟨by simp, by rw [← marksLL_all]; exact ho, hch⟩

theorem markSListS_wW (w : World) (K : SV) (t : List SV) (ll : List (List Int)) (k : Int) (h : OwLLW FI 3 80 w K.val t ll) (hk0 : 0 ≤ k) (hk1 : k + ((totLL ll : Nat) : Int) ≤ 4611686018427387904) :
    Calls Tryz.prog 87 #[.slice K.a K.len K.cap, .int .i64 k] w fun e w' => e = .returned (.int .i64 (k + ((totLL ll : Nat) : Int))) ∧ OwLLW FI 3 80 w' K.val t (markLL mkInt 1 ll k) ∧ Chg (foot2 K.val t) w w' :=
  (markSListS_ctW w _ t ll k h hk0 (by omega)).mono fun _ _ ⟨a, b, c⟩ => ⟨a.trans (ret_i64 (by omega)), b, c⟩
set_option maxRecDepth 100000 in
set_option maxHeartbeats 4000000 in
theorem markLists_ctW (w : World) (H : HLists) (x : Lists) (k : Int) (h : OwListsW w H x) (hk0 : 0 ≤ k) (hk1 : k + (nMarkLists x : Int) ≤ 4611686018427387904) :
    Calls Tryz.prog 35 #[.agg #[.slice H.Global.a H.Global.len H.Global.cap, .slice H.Own.a H.Own.len H.Own.cap], .int .i64 k] w fun e w' => e = .returned (.int .i64 (k + (nMarkLists x : Int))) ∧ OwListsW w' H (markLists x k) ∧ Chg H.foot w w' := by
  have ba0 : Box (w.alloc (.cells #[.slice H.Global.a H.Global.len H.Global.cap, .slice H.Own.a H.Own.len H.Own.cap] 34)) w.heap.size [.slice H.Global.a H.Global.len H.Global.cap, .slice H.Own.a H.Own.len H.Own.cap] := Box.new w #[.slice H.Global.a H.Global.len H.Global.cap, .slice H.Own.a H.Own.len H.Own.cap] 34
  have HE := Hid.mk_ (show nMarkLists x = totLL x.Global + totLL x.Own from rfl)
  have HK := Hid.mk_ hk1
  clear hk1
  have hlt := h.lt
  have hl0 : ∀ g ∈ foot2 H.Global.val H.GlobalT, g < w.heap.size := h.Global.lt
  have ho0 := h.Global.keep (w' := (w.alloc (.cells #[.slice H.Global.a H.Global.len H.Global.cap, .slice H.Own.a H.Own.len H.Own.cap] 34))) (fun g hg => Below.heap_alloc w _ g (hl0 g hg))
  have hl1 : ∀ g ∈ foot2 H.Own.val H.OwnT, g < w.heap.size := h.Own.lt
  have ho1 := h.Own.keep (w' := (w.alloc (.cells #[.slice H.Global.a H.Global.len H.Global.cap, .slice H.Own.a H.Own.len H.Own.cap] 34))) (fun g hg => Below.heap_alloc w _ g (hl1 g hg))
  have hC0 : Chg H.foot w (w.alloc (.cells #[.slice H.Global.a H.Global.len H.Global.cap, .slice H.Own.a H.Own.len H.Own.cap] 34)) := (Chg.refl _ w).alloc_ _
  go_enter Tryz.func35, Tryz.ntmps35
  go_wp2_with fail
  refine (markSListS_wW _ H.Global H.GlobalT x.Global (k) ho0 (by omega) (by have := HK.out; rw [HE.out] at this; omega)).mono ?_
  clear ho0
  rintro e w1 ⟨rfl, ho0, hc⟩
  have ba1 := ba0.chg hc (fun hm => Nat.lt_irrefl _ (hl0 _ hm))
  have hC1 : Chg H.foot w w1 := hC0.trans (hc.mono fun g hg => HLists.mem_foot.2 (.inl hg))
  replace ho1 := ho1.chg hc (fun g hg hm => h.d01 g hm hg)
  clear ba0 hc hC0
  have qa0 := ba1.cell 0 _ rfl
  have qa1 := ba1.cell 1 _ rfl
  go_wp2_with fail
  refine (markSListS_wW _ H.Own H.OwnT x.Own (k + ((totLL x.Global : Nat) : Int)) ho1 (by omega) (by have := HK.out; rw [HE.out] at this; omega)).mono ?_
  clear ho1
  rintro e w2 ⟨rfl, ho1, hc⟩
  have ba2 := ba1.chg hc (fun hm => Nat.lt_irrefl _ (hl1 _ hm))
  have hC2 : Chg H.foot w w2 := hC1.trans (hc.mono fun g hg => HLists.mem_foot.2 (.inr (hg)))
  replace ho0 := ho0.chg hc (fun g hg hm => h.d01 g hg hm)
  clear ba1 hc hC1 qa0 qa1
  have qa0 := ba2.cell 0 _ rfl
  have qa1 := ba2.cell 1 _ rfl
  go_wp2
  go_ret
  exact ⟨ret_i64 (by rw [HE.out]; omega), ⟨ho0, ho1, h.d01⟩, hC2⟩

set_option maxRecDepth 100000 in
set_option maxHeartbeats 4000000 in
theorem markMem_ctW (w : World) (H : HMem) (x : Mem) (k : Int) (h : OwMemW w H x) (hk0 : 0 ≤ k) (hk1 : k + (nMarkMem x : Int) ≤ 4611686018427387904) :
    Calls Tryz.prog 11 #[.agg #[.slice H.Heap.Bytes.a H.Heap.Bytes.len H.Heap.Bytes.cap, .slice H.Heap.Class.a H.Heap.Class.len H.Heap.Class.cap, .slice H.Lists.Global.a H.Lists.Global.len H.Lists.Global.cap, .slice H.Lists.Own.a H.Lists.Own.len H.Lists.Own.cap], .int .i64 k] w fun e w' => e = .returned (.int .i64 (k + (nMarkMem x : Int))) ∧ OwMemW w' H (markMem x k) ∧ Chg H.foot w w' := by
  have ba0 : Box (w.alloc (.cells #[.slice H.Heap.Bytes.a H.Heap.Bytes.len H.Heap.Bytes.cap, .slice H.Heap.Class.a H.Heap.Class.len H.Heap.Class.cap, .slice H.Lists.Global.a H.Lists.Global.len H.Lists.Global.cap, .slice H.Lists.Own.a H.Lists.Own.len H.Lists.Own.cap] 36)) w.heap.size [.slice H.Heap.Bytes.a H.Heap.Bytes.len H.Heap.Bytes.cap, .slice H.Heap.Class.a H.Heap.Class.len H.Heap.Class.cap, .slice H.Lists.Global.a H.Lists.Global.len H.Lists.Global.cap, .slice H.Lists.Own.a H.Lists.Own.len H.Lists.Own.cap] := Box.new w #[.slice H.Heap.Bytes.a H.Heap.Bytes.len H.Heap.Bytes.cap, .slice H.Heap.Class.a H.Heap.Class.len H.Heap.Class.cap, .slice H.Lists.Global.a H.Lists.Global.len H.Lists.Global.cap, .slice H.Lists.Own.a H.Lists.Own.len H.Lists.Own.cap] 36
  have HE := Hid.mk_ (show nMarkMem x = nMarkHeap x.Heap + nMarkLists x.Lists from rfl)
  have HK := Hid.mk_ hk1
  clear hk1
  have hlt := h.lt
  have hl0 : ∀ g ∈ H.Heap.foot, g < w.heap.size := h.Heap.lt
  have ho0 := h.Heap.keep (w' := (w.alloc (.cells #[.slice H.Heap.Bytes.a H.Heap.Bytes.len H.Heap.Bytes.cap, .slice H.Heap.Class.a H.Heap.Class.len H.Heap.Class.cap, .slice H.Lists.Global.a H.Lists.Global.len H.Lists.Global.cap, .slice H.Lists.Own.a H.Lists.Own.len H.Lists.Own.cap] 36))) (fun g hg => Below.heap_alloc w _ g (hl0 g hg))
  have hl1 : ∀ g ∈ H.Lists.foot, g < w.heap.size := h.Lists.lt
  have ho1 := h.Lists.keep (w' := (w.alloc (.cells #[.slice H.Heap.Bytes.a H.Heap.Bytes.len H.Heap.Bytes.cap, .slice H.Heap.Class.a H.Heap.Class.len H.Heap.Class.cap, .slice H.Lists.Global.a H.Lists.Global.len H.Lists.Global.cap, .slice H.Lists.Own.a H.Lists.Own.len H.Lists.Own.cap] 36))) (fun g hg => Below.heap_alloc w _ g (hl1 g hg))
  have hC0 : Chg H.foot w (w.alloc (.cells #[.slice H.Heap.Bytes.a H.Heap.Bytes.len H.Heap.Bytes.cap, .slice H.Heap.Class.a H.Heap.Class.len H.Heap.Class.cap, .slice H.Lists.Global.a H.Lists.Global.len H.Lists.Global.cap, .slice H.Lists.Own.a H.Lists.Own.len H.Lists.Own.cap] 36)) := (Chg.refl _ w).alloc_ _
  go_enter Tryz.func11, Tryz.ntmps11
  go_wp2_with fail
  refine (markHeap_ct _ H.Heap x.Heap (k) ho0 (by omega) (by have := HK.out; rw [HE.out] at this; omega)).mono ?_
  clear ho0
  rintro e w1 ⟨rfl, ho0, hc⟩
  have ba1 := ba0.chg hc (fun hm => Nat.lt_irrefl _ (hl0 _ hm))
  have hC1 : Chg H.foot w w1 := hC0.trans (hc.mono fun g hg => HMem.mem_foot.2 (.inl hg))
  replace ho1 := ho1.chg hc (fun g hg hm => h.d01 g hm hg)
  clear ba0 hc hC0
  have qa0 := ba1.cell 0 _ rfl
  have qa1 := ba1.cell 1 _ rfl
  have qa2 := ba1.cell 2 _ rfl
  have qa3 := ba1.cell 3 _ rfl
  go_wp2_with fail
  refine (markLists_ctW _ H.Lists x.Lists (k + ((nMarkHeap x.Heap : Nat) : Int)) ho1 (by omega) (by have := HK.out; rw [HE.out] at this; omega)).mono ?_
  clear ho1
  rintro e w2 ⟨rfl, ho1, hc⟩
  have ba2 := ba1.chg hc (fun hm => Nat.lt_irrefl _ (hl1 _ hm))
  have hC2 : Chg H.foot w w2 := hC1.trans (hc.mono fun g hg => HMem.mem_foot.2 (.inr (hg)))
  replace ho0 := ho0.chg hc (fun g hg hm => h.d01 g hg hm)
  clear ba1 hc hC1 qa0 qa1 qa2 qa3
  have qa0 := ba2.cell 0 _ rfl
  have qa1 := ba2.cell 1 _ rfl
  have qa2 := ba2.cell 2 _ rfl
  have qa3 := ba2.cell 3 _ rfl
  go_wp2
  go_ret
  exact ⟨ret_i64 (by rw [HE.out]; omega), ⟨ho0, ho1, h.d01⟩, hC2⟩


theorem OwListsW.alloc_ {w : World} {H : HLists} {x : Lists} (h : OwListsW w H x) (o : Obj) : OwListsW (w.alloc o) H x := h.keep fun g hg => Below.heap_alloc w o g (h.lt g hg)
theorem OwListsW.step {w w' : World} {o : Obj} {H : HLists} {x : Lists} (h : OwListsW w H x) (hb : Below (w.alloc o).heap.size (w.alloc o) w') : OwListsW w' H x := (h.alloc_ o).keep (fun g hg => hb.block g ((h.alloc_ o).lt g hg))
theorem OwListsW.step0 {w w' : World} {H : HLists} {x : Lists} (h : OwListsW w H x) (hb : Below w.heap.size w w') : OwListsW w' H x := h.keep (fun g hg => hb.block g (h.lt g hg))

theorem OwMemW.alloc_ {w : World} {H : HMem} {x : Mem} (h : OwMemW w H x) (o : Obj) : OwMemW (w.alloc o) H x := h.keep fun g hg => Below.heap_alloc w o g (h.lt g hg)
theorem OwMemW.step {w w' : World} {o : Obj} {H : HMem} {x : Mem} (h : OwMemW w H x) (hb : Below (w.alloc o).heap.size (w.alloc o) w') : OwMemW w' H x := (h.alloc_ o).keep (fun g hg => hb.block g ((h.alloc_ o).lt g hg))
theorem OwMemW.step0 {w w' : World} {H : HMem} {x : Mem} (h : OwMemW w H x) (hb : Below w.heap.size w w') : OwMemW w' H x := h.keep (fun g hg => hb.block g (h.lt g hg))
end Go.Proofs.YtpjijbonpjoamaaGreat

/-
  The last of a list taken off.
-/
namespace Go.Proofs.YtpjijbonpjoamaaGreat
open Go.RowKit

theorem OwL.prefix_ {α : Type} {T : FT α} {e : TypeId} {w : World} {g n c : Nat} {l r : List α} (h : OwL T e w (.slice (some ⟨g, 0, none⟩) n c) (l ++ r)) : OwL T e w (.slice (some ⟨g, 0, none⟩) l.length c) l := by
  obtain ⟨h1, h2⟩ := h
  refine ⟨by rw [length_flat], ?_⟩
  rcases h2 with ⟨h2, _⟩ | ⟨g', cap, cur, hv, hb, hc, hl, hm, hz, ht⟩
  · cases h2
  · injection hv with e1 e2 e3
    injection e1 with e1
    injection e1 with e1
    subst e1 e3
    refine .inr ⟨g, c, cur, rfl, hb, hc, ?_, hm, hz, ?_⟩
    · have : l.length ≤ (l ++ r).length := by simp
      omega
    · have hk : l.length * T.n ≤ (l ++ r).length * T.n := Nat.mul_le_mul_right _ (by simp)
      have := congrArg (List.take (l.length * T.n)) ht
      rw [List.take_take, Nat.min_eq_left hk, flat_append, List.take_append_of_le_length (by rw [length_flat]; exact Nat.le_refl _)] at this
      rw [this]
      exact List.take_of_length_le (by rw [length_flat]; exact Nat.le_refl _)
theorem OwLL.row_w {α : Type} {T : FT α} {e E : TypeId} {w : World} {g n c : Nat} {svs : List SV} {ll : List (List α)} (h : OwLL T e E w (.slice (some ⟨g, 0, none⟩) n c) svs ll) {i : Nat} {s s' : SV} {l' : List α} (hi : svs[i]? = some s)
    (hl : OwW T e w s'.val l') (hat : s'.val.ownBlock = s.val.ownBlock) :
    OwLLW T e E (w.setCell ⟨g, i, none⟩ s'.val) (.slice (some ⟨g, 0, none⟩) n c) (svs.set i s') (ll.set i l') := by
  have hn := h.nodup
  have hne := OwLL.head_ne h hi
  have hfs : foot1 s'.val = foot1 s.val := by unfold foot1; rw [hat]
  unfold foot2 at hn
  rw [List.nodup_append] at hn
  obtain ⟨hn1, hn2, hn3⟩ := hn
  refine ⟨by rw [List.length_set, List.length_set]; exact h.len, ?_, fun k q l hk hl2 => ?_, ?_⟩
  · have := h.outer.set_ (k := i) (j := 0) (x := s) (y := s') (u := s'.val) hi (by decide) rfl
    simpa [FS] using this
  · by_cases hik : i = k
    · subst hik
      have hil : i < svs.length := (List.getElem?_eq_some_iff.1 hi).1
      rw [List.getElem?_set_self hil] at hk
      cases hk
      rw [List.getElem?_set_self (by rw [← h.len]; exact hil)] at hl2
      cases hl2
      exact hl.keep (fun b hb => heap_set_other w _ (fun e => by subst e; exact hne (by rw [← hfs]; exact mem_foot1.2 hb)))
    · rw [List.getElem?_set_ne hik] at hk hl2
      exact (h.inner k q l hk hl2).toW.keep (fun b hb => heap_set_other w _ (fun e => by subst e; exact hn3 _ (mem_foot1.2 rfl) _ (List.mem_flatMap.2 ⟨q, List.mem_of_getElem? hk, mem_foot1.2 hb⟩) rfl))
  · unfold foot2
    rw [flatMap_set_same hi hfs, List.nodup_append]
    exact ⟨hn1, hn2, hn3⟩
theorem last_at {l : List Int} {s : Int} : (l ++ [s])[l.length]? = some s := by simp
set_option maxHeartbeats 400000 in
theorem pop_nil (w : World) (g k c : Nat) (A : Option Addr) (h0 : w.cell? ⟨g, k, none⟩ = some (.slice A 0 c)) : Calls Tryz.prog 100 #[.pointer (some ⟨g, k, none⟩)] w fun e w' => e = .returned (.int .i64 (-1)) ∧ w = w' := by
  go_enter Tryz.func100, Tryz.ntmps100
  go_wp2
  go_ret
  exact ⟨rfl, rfl⟩
set_option maxHeartbeats 1000000 in
theorem pop_yes (w : World) (g k gs n c : Nat) (s : Int) (h0 : w.cell? ⟨g, k, none⟩ = some (.slice (some ⟨gs, 0, none⟩) (n + 1) c)) (hf : w.frozen? ⟨g, k, none⟩ = false) (h1 : w.cell? ⟨gs, n, none⟩ = some (.int .i64 s)) (hn : n ≤ 1073741824) (hc : n + 1 ≤ c) : Calls Tryz.prog 100 #[.pointer (some ⟨g, k, none⟩)] w fun e w' => e = .returned (.int .i64 s) ∧ w.setCell ⟨g, k, none⟩ (.slice (some ⟨gs, 0, none⟩) n n) = w' := by
  go_enter Tryz.func100, Tryz.ntmps100
  go_wp2
  go_ret
  exact ⟨rfl, rfl⟩
end Go.Proofs.YtpjijbonpjoamaaGreat

/-
  A slot taken from a list: the contracts.
-/
namespace Go.Proofs.YtpjijbonpjoamaaGreat
open Go.RowKit

set_option maxRecDepth 100000 in
set_option maxHeartbeats 4000000 in
theorem TakeOwn_impl_yes (w : World) (H : HLists) (x : Lists) (wk c : Nat) (l : List Int) (s : Int) (h : RdLists w w.heap.size H x) (hs : sizeLists x ≤ 536870912) (hok : listsOkB x = true) (hw : wk < 3) (hc : c < 3) (hrow : x.Own[wk * 3 + c]? = some (l ++ [s])) :
    Calls Tryz.prog 51 #[.agg #[.slice H.Global.a H.Global.len H.Global.cap, .slice H.Own.a H.Own.len H.Own.cap], .int .i64 wk, .int .i64 c] w fun e w' => ∃ H' : HLists, e = .returned (.tuple #[.agg #[.slice H'.Global.a H'.Global.len H'.Global.cap, .slice H'.Own.a H'.Own.len H'.Own.cap], .int .i64 s]) ∧ OwListsW w' H' { x with Own := x.Own.set (wk * 3 + c) l } ∧ (∀ g ∈ H'.foot, w.heap.size ≤ g) ∧ Below w.heap.size w w' := by
  obtain ⟨hl3, hl9⟩ := lists_len hok
  have H3 := Hid.mk_ hl3
  have H9 := Hid.mk_ hl9
  have HR := Hid.mk_ hrow
  have hsr : (l ++ [s]).length ≤ 536870912 := by
    have := le_szLL (List.mem_of_getElem? hrow)
    unfold sizeLists at hs
    omega
  simp only [List.length_append, List.length_singleton] at hsr
  have hoa := fun W => OwnAt_impl wk c hw hc W
  have HK9 := Hid.mk_ (show wk * 3 + c < x.Own.length by omega)
  clear hl3 hl9 hrow
  obtain ⟨k, hk⟩ : ∃ k, k = wk * 3 + c := ⟨_, rfl⟩
  rw [← hk] at hoa HR HK9
  rw [← hk]
  clear hk
  have B_a : Box ((w.alloc (.cells #[.slice H.Global.a H.Global.len H.Global.cap, .slice H.Own.a H.Own.len H.Own.cap] 34)).alloc (.cells #[.slice none 0 0, .slice none 0 0] 34)) (w.heap.size) [.slice H.Global.a H.Global.len H.Global.cap, .slice H.Own.a H.Own.len H.Own.cap] := by
    have hbx := Box.new w #[.slice H.Global.a H.Global.len H.Global.cap, .slice H.Own.a H.Own.len H.Own.cap] 34
    exact (hbx).alloc _
  have B_r : Box ((w.alloc (.cells #[.slice H.Global.a H.Global.len H.Global.cap, .slice H.Own.a H.Own.len H.Own.cap] 34)).alloc (.cells #[.slice none 0 0, .slice none 0 0] 34)) (w.heap.size + 1) [.slice none 0 0, .slice none 0 0] := by
    have hbx := Box.new (w.alloc (.cells #[.slice H.Global.a H.Global.len H.Global.cap, .slice H.Own.a H.Own.len H.Own.cap] 34)) #[.slice none 0 0, .slice none 0 0] 34
    simp only [World.size_alloc] at hbx
    exact hbx
  have hB : Below w.heap.size w ((w.alloc (.cells #[.slice H.Global.a H.Global.len H.Global.cap, .slice H.Own.a H.Own.len H.Own.cap] 34)).alloc (.cells #[.slice none 0 0, .slice none 0 0] 34)) := by repeat (first | exact Below.refl _ _ | refine Below.alloc ?_ (by simp <;> omega) _ | refine below_grow_of ?_ (by simp <;> omega) _ _ | refine Below.drew ?_ | refine below_drewN ?_ _)
  go_enter Tryz.func51, Tryz.ntmps51
  go_wp2_with fail
  generalize hW0 : ((w.alloc (.cells #[.slice H.Global.a H.Global.len H.Global.cap, .slice H.Own.a H.Own.len H.Own.cap] 34)).alloc (.cells #[.slice none 0 0, .slice none 0 0] 34)) = w0 at B_a B_r hB ⊢
  clear hW0
  have zz_a := B_a.lt
  have zz_r := B_r.lt
  have q_a_0 := B_a.cell 0 _ rfl
  have q_a_1 := B_a.cell 1 _ rfl
  have fr_a := B_a.fro
  have z_a := B_a.lt
  have q_r_0 := B_r.cell 0 _ rfl
  have q_r_1 := B_r.cell 1 _ rfl
  have fr_r := B_r.fro
  have z_r := B_r.lt
  refine (copyLists_impl _ H x (rdLists_up h hB) hs).mono ?_
  rintro e w1 ⟨K_c, rfl, o_c, l_c, hb⟩
  have u_c := o_c.lt
  replace B_a := B_a.below hb
  replace B_r := B_r.below hb
  replace hB := hB.trans (hb.mono hB.size)
  have sz := hb.size
  clear hb
  replace q_a_0 := B_a.cell 0 _ rfl
  replace q_a_1 := B_a.cell 1 _ rfl
  replace fr_a := B_a.fro
  replace z_a := B_a.lt
  replace q_r_0 := B_r.cell 0 _ rfl
  replace q_r_1 := B_r.cell 1 _ rfl
  replace fr_r := B_r.fro
  replace z_r := B_r.lt
  obtain ⟨⟨A1, n1, p1⟩, T1, ⟨A2, n2, p2⟩, T2⟩ := K_c
  obtain ⟨g1, c1, hv1, hg1⟩ := OwLL.at_form (v := .slice A1 n1 p1) o_c.Global (by rw [H3.out]; decide)
  obtain ⟨g2, c2, hv2, hg2⟩ := OwLL.at_form (v := .slice A2 n2 p2) o_c.Own (by rw [H9.out]; decide)
  injection hv1 with i1 i2 i3
  injection hv2 with j1 j2 j3
  subst i1 i2 i3 j1 j2 j3
  have fg1 : g1 ∈ HLists.foot ⟨⟨some ⟨g1, 0, none⟩, x.Global.length, p1⟩, T1, ⟨some ⟨g2, 0, none⟩, x.Own.length, p2⟩, T2⟩ := HLists.mem_foot.2 (.inl (mem_foot2.2 (.inl rfl)))
  have fg2 : g2 ∈ HLists.foot ⟨⟨some ⟨g1, 0, none⟩, x.Global.length, p1⟩, T1, ⟨some ⟨g2, 0, none⟩, x.Own.length, p2⟩, T2⟩ := HLists.mem_foot.2 (.inr (mem_foot2.2 (.inl rfl)))
  have lg1 := l_c _ fg1
  have lg2 := l_c _ fg2
  clear fg1 fg2
  go_wp2_with (go_at_call 99; refine (hoa _).mono ?_; rintro e wv ⟨rfl, rfl⟩)
  clear hoa
  replace B_a := B_a.alloc (.cells #[.slice (some ⟨g1, 0, none⟩) x.Global.length p1, .slice (some ⟨g2, 0, none⟩) x.Own.length p2] 34)
  replace B_r := B_r.alloc (.cells #[.slice (some ⟨g1, 0, none⟩) x.Global.length p1, .slice (some ⟨g2, 0, none⟩) x.Own.length p2] 34)
  replace o_c := o_c.alloc_ (.cells #[.slice (some ⟨g1, 0, none⟩) x.Global.length p1, .slice (some ⟨g2, 0, none⟩) x.Own.length p2] 34)
  replace hB := hB.alloc hB.size (.cells #[.slice (some ⟨g1, 0, none⟩) x.Global.length p1, .slice (some ⟨g2, 0, none⟩) x.Own.length p2] 34)
  have B_o : Box (w1.alloc (.cells #[.slice (some ⟨g1, 0, none⟩) x.Global.length p1, .slice (some ⟨g2, 0, none⟩) x.Own.length p2] 34)) w1.heap.size [.slice (some ⟨g1, 0, none⟩) x.Global.length p1, .slice (some ⟨g2, 0, none⟩) x.Own.length p2] := Box.new w1 #[.slice (some ⟨g1, 0, none⟩) x.Global.length p1, .slice (some ⟨g2, 0, none⟩) x.Own.length p2] 34
  have zz_o := B_o.lt
  have sz : w1.heap.size ≤ (w1.alloc (.cells #[.slice (some ⟨g1, 0, none⟩) x.Global.length p1, .slice (some ⟨g2, 0, none⟩) x.Own.length p2] 34)).heap.size := Nat.le_of_lt B_o.lt
  generalize hG : (w1.alloc (.cells #[.slice (some ⟨g1, 0, none⟩) x.Global.length p1, .slice (some ⟨g2, 0, none⟩) x.Own.length p2] 34)) = w2 at B_a B_r o_c hB B_o zz_o sz ⊢
  clear hG
  replace q_a_0 := B_a.cell 0 _ rfl
  replace q_a_1 := B_a.cell 1 _ rfl
  replace fr_a := B_a.fro
  replace z_a := B_a.lt
  replace q_r_0 := B_r.cell 0 _ rfl
  replace q_r_1 := B_r.cell 1 _ rfl
  replace fr_r := B_r.fro
  replace z_r := B_r.lt
  have q_o_0 := B_o.cell 0 _ rfl
  have q_o_1 := B_o.cell 1 _ rfl
  have fr_o := B_o.fro
  have z_o := B_o.lt
  refine (ListsOk_impl _ H x (rdLists_up h hB)).mono ?_
  rw [hok]
  rintro e w3 ⟨rfl, hb⟩
  replace B_a := B_a.below hb
  replace B_r := B_r.below hb
  replace B_o := B_o.below hb
  have o_c := o_c.step0 hb
  replace hB := hB.trans (hb.mono hB.size)
  have sz := hb.size
  clear hb
  replace q_a_0 := B_a.cell 0 _ rfl
  replace q_a_1 := B_a.cell 1 _ rfl
  replace fr_a := B_a.fro
  replace z_a := B_a.lt
  replace q_r_0 := B_r.cell 0 _ rfl
  replace q_r_1 := B_r.cell 1 _ rfl
  replace fr_r := B_r.fro
  replace z_r := B_r.lt
  replace q_o_0 := B_o.cell 0 _ rfl
  replace q_o_1 := B_o.cell 1 _ rfl
  replace fr_o := B_o.fro
  replace z_o := B_o.lt
  clear hok
  obtain ⟨so, hso2⟩ : ∃ q, T2[k]? = some q := ⟨_, List.getElem?_eq_getElem (by rw [o_c.Own.len]; exact HK9.out)⟩
  have ino := o_c.Own.inner k so _ hso2 HR.out
  have po := o_c.Own.outer.cell_ (j := 0) hso2 (by decide)
  simp only [FS, Nat.mul_one, Nat.add_zero] at po
  have ff := o_c.Own.outer.frozen_ k
  have HV := Hid.mk_ hso2
  have hkk : k < x.Own.length := HK9.out
  have n_a : g2 ≠ w.heap.size := by omega
  have m_a : w.heap.size ≠ g2 := by omega
  have n_r : g2 ≠ w.heap.size + 1 := by omega
  have m_r : w.heap.size + 1 ≠ g2 := by omega
  have n_o : g2 ≠ w1.heap.size := by omega
  have m_o : w1.heap.size ≠ g2 := by omega
  obtain ⟨Ao, co, hvo, hq1, _⟩ := ino.rd'
  obtain ⟨ao, no, bo⟩ := so
  injection hvo with k1 k2 k3
  subst k1 k2 k3
  simp only [List.length_append, List.length_singleton] at hq1
  obtain ⟨gs, cs, hvs, _⟩ := OwL.form_pos (v := .slice ao (l ++ [s]).length bo) ino (by simp)
  injection hvs with k1 k2 k3
  subst k1 k3
  have hcl : l.length + 1 ≤ bo := hq1
  have po2 : w3.cell? ⟨g2, k, none⟩ = some (Value.slice (some ⟨gs, 0, none⟩) (l.length + 1) bo) := by simpa [SV.val] using po
  clear po
  have ce := OwL.cell_ (show OwL FI 3 _ (.slice (some ⟨gs, 0, none⟩) (l ++ [s]).length bo) (l ++ [s]) from ino) (last_at (l := l) (s := s)) FI.pos
  simp only [FI, Nat.mul_one, Nat.add_zero] at ce
  replace ce : _ = some (Value.int .i64 s) := ce
  have hq := pop_yes w3 g2 k gs l.length bo s po2 ff ce (by omega) hcl
  clear ce
  have hN := OwLL.row_w (s' := ⟨some ⟨gs, 0, none⟩, l.length, l.length⟩) (l' := l) o_c.Own HV.out ⟨_, [s], ino, .inr ⟨gs, _, l.length, bo, rfl, rfl, Nat.le_refl _, by omega⟩⟩ rfl
  change OwLLW _ _ _ (World.setCell _ _ (.slice (some ⟨gs, 0, none⟩) l.length l.length)) _ _ _ at hN
  go_wp2_with (first | (go_at_call 100; refine hq.mono ?_; rintro e wv ⟨rfl, rfl⟩))
  have hO := (o_c.Global.chg (F := [g2]) ((Chg.refl _ w3).set_ (g := g2) (i := k) (by simp) (.slice (some ⟨gs, 0, none⟩) l.length l.length)) (fun b hb hm => by simp only [List.mem_cons, List.not_mem_nil, or_false] at hm; subst hm; exact o_c.d01 b hb (mem_foot2.2 (.inl rfl)))).toW
  have hfs : foot2 (.slice (some ⟨g2, 0, none⟩) x.Own.length p2) (T2.set k ⟨some ⟨gs, 0, none⟩, l.length, l.length⟩) = foot2 (.slice (some ⟨g2, 0, none⟩) x.Own.length p2) T2 := by unfold foot2; rw [flatMap_set_same (s' := ⟨some ⟨gs, 0, none⟩, l.length, l.length⟩) HV.out rfl]
  have hfm : ∀ b, b ∈ foot2 (.slice (some ⟨g2, 0, none⟩) x.Own.length p2) (T2.set k ⟨some ⟨gs, 0, none⟩, l.length, l.length⟩) → b ∈ foot2 (.slice (some ⟨g2, 0, none⟩) x.Own.length p2) T2 := fun b hb => by rw [← hfs]; exact hb
  refine bodyPost_ret (v := .tuple #[.agg #[.slice (some ⟨g1, 0, none⟩) x.Global.length p1, .slice (some ⟨g2, 0, none⟩) x.Own.length p2], .int .i64 s]) (by simp [results, Tryz.results51, go_sem, q_r_0, q_r_1]) rfl ⟨⟨⟨some ⟨g1, 0, none⟩, x.Global.length, p1⟩, T1, ⟨some ⟨g2, 0, none⟩, x.Own.length, p2⟩, T2.set k ⟨some ⟨gs, 0, none⟩, l.length, l.length⟩⟩, rfl, ⟨hO.chg (F := [w.heap.size + 1]) (by repeat (first | with_reducible exact Chg.refl _ _ | with_reducible refine Chg.set_ ?_ (by simp) _ | with_reducible refine Chg.alloc_ ?_ _ | with_reducible refine Chg.drew_ ?_)) (fun b hb hm => by simp only [List.mem_cons, List.not_mem_nil, or_false] at hm; have := l_c b (HLists.mem_foot.2 (.inl hb)); omega), hN.chg (F := [w.heap.size + 1]) (by repeat (first | with_reducible exact Chg.refl _ _ | with_reducible refine Chg.set_ ?_ (by simp) _ | with_reducible refine Chg.alloc_ ?_ _ | with_reducible refine Chg.drew_ ?_)) (fun b hb hm => by simp only [List.mem_cons, List.not_mem_nil, or_false] at hm; have := l_c b (HLists.mem_foot.2 (.inr (hfm b hb))); omega), fun b hb hm => o_c.d01 b hb (hfm b hm)⟩, fun b hb => ?_, Below.trans hB (by repeat (first | with_reducible exact Below.refl _ _ | with_reducible refine Below.setCell ?_ (by simp <;> omega) _ | with_reducible refine Below.alloc ?_ (by simp <;> omega) _ | with_reducible refine Below.drew ?_))⟩
  rcases HLists.mem_foot.1 hb with hb | hb
  · have := l_c b (HLists.mem_foot.2 (.inl hb))
    omega
  · have := l_c b (HLists.mem_foot.2 (.inr (hfm b hb)))
    omega

set_option maxRecDepth 100000 in
set_option maxHeartbeats 4000000 in
theorem TakeOwn_impl_nil (w : World) (H : HLists) (x : Lists) (wk c : Nat) (h : RdLists w w.heap.size H x) (hs : sizeLists x ≤ 536870912) (hok : listsOkB x = true) (hw : wk < 3) (hc : c < 3) (hrow : x.Own[wk * 3 + c]? = some ([])) :
    Calls Tryz.prog 51 #[.agg #[.slice H.Global.a H.Global.len H.Global.cap, .slice H.Own.a H.Own.len H.Own.cap], .int .i64 wk, .int .i64 c] w fun e w' => ∃ H' : HLists, e = .returned (.tuple #[.agg #[.slice H'.Global.a H'.Global.len H'.Global.cap, .slice H'.Own.a H'.Own.len H'.Own.cap], .int .i64 (-1)]) ∧ OwLists w' H' x ∧ (∀ g ∈ H'.foot, w.heap.size ≤ g) ∧ Below w.heap.size w w' := by
  obtain ⟨hl3, hl9⟩ := lists_len hok
  have H3 := Hid.mk_ hl3
  have H9 := Hid.mk_ hl9
  have HR := Hid.mk_ hrow
  have hoa := fun W => OwnAt_impl wk c hw hc W
  have HK9 := Hid.mk_ (show wk * 3 + c < x.Own.length by omega)
  clear hl3 hl9 hrow
  obtain ⟨k, hk⟩ : ∃ k, k = wk * 3 + c := ⟨_, rfl⟩
  rw [← hk] at hoa HR HK9
  clear hk
  have B_a : Box ((w.alloc (.cells #[.slice H.Global.a H.Global.len H.Global.cap, .slice H.Own.a H.Own.len H.Own.cap] 34)).alloc (.cells #[.slice none 0 0, .slice none 0 0] 34)) (w.heap.size) [.slice H.Global.a H.Global.len H.Global.cap, .slice H.Own.a H.Own.len H.Own.cap] := by
    have hbx := Box.new w #[.slice H.Global.a H.Global.len H.Global.cap, .slice H.Own.a H.Own.len H.Own.cap] 34
    exact (hbx).alloc _
  have B_r : Box ((w.alloc (.cells #[.slice H.Global.a H.Global.len H.Global.cap, .slice H.Own.a H.Own.len H.Own.cap] 34)).alloc (.cells #[.slice none 0 0, .slice none 0 0] 34)) (w.heap.size + 1) [.slice none 0 0, .slice none 0 0] := by
    have hbx := Box.new (w.alloc (.cells #[.slice H.Global.a H.Global.len H.Global.cap, .slice H.Own.a H.Own.len H.Own.cap] 34)) #[.slice none 0 0, .slice none 0 0] 34
    simp only [World.size_alloc] at hbx
    exact hbx
  have hB : Below w.heap.size w ((w.alloc (.cells #[.slice H.Global.a H.Global.len H.Global.cap, .slice H.Own.a H.Own.len H.Own.cap] 34)).alloc (.cells #[.slice none 0 0, .slice none 0 0] 34)) := by repeat (first | exact Below.refl _ _ | refine Below.alloc ?_ (by simp <;> omega) _ | refine below_grow_of ?_ (by simp <;> omega) _ _ | refine Below.drew ?_ | refine below_drewN ?_ _)
  go_enter Tryz.func51, Tryz.ntmps51
  go_wp2_with fail
  generalize hW0 : ((w.alloc (.cells #[.slice H.Global.a H.Global.len H.Global.cap, .slice H.Own.a H.Own.len H.Own.cap] 34)).alloc (.cells #[.slice none 0 0, .slice none 0 0] 34)) = w0 at B_a B_r hB ⊢
  clear hW0
  have zz_a := B_a.lt
  have zz_r := B_r.lt
  have q_a_0 := B_a.cell 0 _ rfl
  have q_a_1 := B_a.cell 1 _ rfl
  have fr_a := B_a.fro
  have z_a := B_a.lt
  have q_r_0 := B_r.cell 0 _ rfl
  have q_r_1 := B_r.cell 1 _ rfl
  have fr_r := B_r.fro
  have z_r := B_r.lt
  refine (copyLists_impl _ H x (rdLists_up h hB) hs).mono ?_
  rintro e w1 ⟨K_c, rfl, o_c, l_c, hb⟩
  have u_c := o_c.lt
  replace B_a := B_a.below hb
  replace B_r := B_r.below hb
  replace hB := hB.trans (hb.mono hB.size)
  have sz := hb.size
  clear hb
  replace q_a_0 := B_a.cell 0 _ rfl
  replace q_a_1 := B_a.cell 1 _ rfl
  replace fr_a := B_a.fro
  replace z_a := B_a.lt
  replace q_r_0 := B_r.cell 0 _ rfl
  replace q_r_1 := B_r.cell 1 _ rfl
  replace fr_r := B_r.fro
  replace z_r := B_r.lt
  obtain ⟨⟨A1, n1, p1⟩, T1, ⟨A2, n2, p2⟩, T2⟩ := K_c
  obtain ⟨g1, c1, hv1, hg1⟩ := OwLL.at_form (v := .slice A1 n1 p1) o_c.Global (by rw [H3.out]; decide)
  obtain ⟨g2, c2, hv2, hg2⟩ := OwLL.at_form (v := .slice A2 n2 p2) o_c.Own (by rw [H9.out]; decide)
  injection hv1 with i1 i2 i3
  injection hv2 with j1 j2 j3
  subst i1 i2 i3 j1 j2 j3
  have fg1 : g1 ∈ HLists.foot ⟨⟨some ⟨g1, 0, none⟩, x.Global.length, p1⟩, T1, ⟨some ⟨g2, 0, none⟩, x.Own.length, p2⟩, T2⟩ := HLists.mem_foot.2 (.inl (mem_foot2.2 (.inl rfl)))
  have fg2 : g2 ∈ HLists.foot ⟨⟨some ⟨g1, 0, none⟩, x.Global.length, p1⟩, T1, ⟨some ⟨g2, 0, none⟩, x.Own.length, p2⟩, T2⟩ := HLists.mem_foot.2 (.inr (mem_foot2.2 (.inl rfl)))
  have lg1 := l_c _ fg1
  have lg2 := l_c _ fg2
  clear fg1 fg2
  go_wp2_with (go_at_call 99; refine (hoa _).mono ?_; rintro e wv ⟨rfl, rfl⟩)
  clear hoa
  replace B_a := B_a.alloc (.cells #[.slice (some ⟨g1, 0, none⟩) x.Global.length p1, .slice (some ⟨g2, 0, none⟩) x.Own.length p2] 34)
  replace B_r := B_r.alloc (.cells #[.slice (some ⟨g1, 0, none⟩) x.Global.length p1, .slice (some ⟨g2, 0, none⟩) x.Own.length p2] 34)
  replace o_c := o_c.alloc_ (.cells #[.slice (some ⟨g1, 0, none⟩) x.Global.length p1, .slice (some ⟨g2, 0, none⟩) x.Own.length p2] 34)
  replace hB := hB.alloc hB.size (.cells #[.slice (some ⟨g1, 0, none⟩) x.Global.length p1, .slice (some ⟨g2, 0, none⟩) x.Own.length p2] 34)
  have B_o : Box (w1.alloc (.cells #[.slice (some ⟨g1, 0, none⟩) x.Global.length p1, .slice (some ⟨g2, 0, none⟩) x.Own.length p2] 34)) w1.heap.size [.slice (some ⟨g1, 0, none⟩) x.Global.length p1, .slice (some ⟨g2, 0, none⟩) x.Own.length p2] := Box.new w1 #[.slice (some ⟨g1, 0, none⟩) x.Global.length p1, .slice (some ⟨g2, 0, none⟩) x.Own.length p2] 34
  have zz_o := B_o.lt
  have sz : w1.heap.size ≤ (w1.alloc (.cells #[.slice (some ⟨g1, 0, none⟩) x.Global.length p1, .slice (some ⟨g2, 0, none⟩) x.Own.length p2] 34)).heap.size := Nat.le_of_lt B_o.lt
  generalize hG : (w1.alloc (.cells #[.slice (some ⟨g1, 0, none⟩) x.Global.length p1, .slice (some ⟨g2, 0, none⟩) x.Own.length p2] 34)) = w2 at B_a B_r o_c hB B_o zz_o sz ⊢
  clear hG
  replace q_a_0 := B_a.cell 0 _ rfl
  replace q_a_1 := B_a.cell 1 _ rfl
  replace fr_a := B_a.fro
  replace z_a := B_a.lt
  replace q_r_0 := B_r.cell 0 _ rfl
  replace q_r_1 := B_r.cell 1 _ rfl
  replace fr_r := B_r.fro
  replace z_r := B_r.lt
  have q_o_0 := B_o.cell 0 _ rfl
  have q_o_1 := B_o.cell 1 _ rfl
  have fr_o := B_o.fro
  have z_o := B_o.lt
  refine (ListsOk_impl _ H x (rdLists_up h hB)).mono ?_
  rw [hok]
  rintro e w3 ⟨rfl, hb⟩
  replace B_a := B_a.below hb
  replace B_r := B_r.below hb
  replace B_o := B_o.below hb
  have o_c := o_c.step0 hb
  replace hB := hB.trans (hb.mono hB.size)
  have sz := hb.size
  clear hb
  replace q_a_0 := B_a.cell 0 _ rfl
  replace q_a_1 := B_a.cell 1 _ rfl
  replace fr_a := B_a.fro
  replace z_a := B_a.lt
  replace q_r_0 := B_r.cell 0 _ rfl
  replace q_r_1 := B_r.cell 1 _ rfl
  replace fr_r := B_r.fro
  replace z_r := B_r.lt
  replace q_o_0 := B_o.cell 0 _ rfl
  replace q_o_1 := B_o.cell 1 _ rfl
  replace fr_o := B_o.fro
  replace z_o := B_o.lt
  clear hok
  obtain ⟨so, hso2⟩ : ∃ q, T2[k]? = some q := ⟨_, List.getElem?_eq_getElem (by rw [o_c.Own.len]; exact HK9.out)⟩
  have ino := o_c.Own.inner k so _ hso2 HR.out
  have po := o_c.Own.outer.cell_ (j := 0) hso2 (by decide)
  simp only [FS, Nat.mul_one, Nat.add_zero] at po
  have ff := o_c.Own.outer.frozen_ k
  have HV := Hid.mk_ hso2
  have hkk : k < x.Own.length := HK9.out
  have n_a : g2 ≠ w.heap.size := by omega
  have m_a : w.heap.size ≠ g2 := by omega
  have n_r : g2 ≠ w.heap.size + 1 := by omega
  have m_r : w.heap.size + 1 ≠ g2 := by omega
  have n_o : g2 ≠ w1.heap.size := by omega
  have m_o : w1.heap.size ≠ g2 := by omega
  obtain ⟨Ao, co, hvo, _⟩ := ino.rd'
  obtain ⟨ao, no, bo⟩ := so
  injection hvo with k1 k2 k3
  subst k1 k2 k3
  have po2 : _ = some (Value.slice ao 0 bo) := po
  clear po
  have hq := pop_nil w3 g2 k bo ao po2
  go_wp2_with (first | (go_at_call 100; refine hq.mono ?_; rintro e wv ⟨rfl, rfl⟩))
  refine bodyPost_ret (v := .tuple #[.agg #[.slice (some ⟨g1, 0, none⟩) x.Global.length p1, .slice (some ⟨g2, 0, none⟩) x.Own.length p2], .int .i64 (-1)]) (by simp [results, Tryz.results51, go_sem, q_r_0, q_r_1]) rfl ⟨⟨⟨some ⟨g1, 0, none⟩, x.Global.length, p1⟩, T1, ⟨some ⟨g2, 0, none⟩, x.Own.length, p2⟩, T2⟩, rfl, o_c.chg (F := [w.heap.size + 1]) (by repeat (first | with_reducible exact Chg.refl _ _ | with_reducible refine Chg.set_ ?_ (by simp) _ | with_reducible refine Chg.alloc_ ?_ _ | with_reducible refine Chg.drew_ ?_)) (fun g hg hm => by simp only [List.mem_cons, List.not_mem_nil, or_false] at hm; have := l_c g hg; have := u_c g hg; omega), fun g hg => by have := l_c g hg; omega, Below.trans hB (by repeat (first | with_reducible exact Below.refl _ _ | with_reducible refine Below.setCell ?_ (by simp <;> omega) _ | with_reducible refine Below.alloc ?_ (by simp <;> omega) _ | with_reducible refine Below.drew ?_))⟩

set_option maxRecDepth 100000 in
set_option maxHeartbeats 4000000 in
theorem TakeGlobal_impl_yes (w : World) (H : HLists) (x : Lists) (c : Nat) (l : List Int) (s : Int) (h : RdLists w w.heap.size H x) (hs : sizeLists x ≤ 536870912) (hok : listsOkB x = true) (hc : c < 3) (hrow : x.Global[c]? = some (l ++ [s])) :
    Calls Tryz.prog 52 #[.agg #[.slice H.Global.a H.Global.len H.Global.cap, .slice H.Own.a H.Own.len H.Own.cap], .int .i64 c] w fun e w' => ∃ H' : HLists, e = .returned (.tuple #[.agg #[.slice H'.Global.a H'.Global.len H'.Global.cap, .slice H'.Own.a H'.Own.len H'.Own.cap], .int .i64 s]) ∧ OwListsW w' H' { x with Global := x.Global.set c l } ∧ (∀ g ∈ H'.foot, w.heap.size ≤ g) ∧ Below w.heap.size w w' := by
  obtain ⟨hl3, hl9⟩ := lists_len hok
  have H3 := Hid.mk_ hl3
  have H9 := Hid.mk_ hl9
  have HR := Hid.mk_ hrow
  have hsr : (l ++ [s]).length ≤ 536870912 := by
    have := le_szLL (List.mem_of_getElem? hrow)
    unfold sizeLists at hs
    omega
  simp only [List.length_append, List.length_singleton] at hsr
  have HK9 := Hid.mk_ (show c < x.Global.length by omega)
  have hicl : inB 0 2 (c : Int) = true := inB_iff.2 ⟨by omega, by omega⟩
  clear hl3 hl9 hrow
  obtain ⟨k, rfl⟩ : ∃ k, k = c := ⟨_, rfl⟩
  have B_a : Box ((w.alloc (.cells #[.slice H.Global.a H.Global.len H.Global.cap, .slice H.Own.a H.Own.len H.Own.cap] 34)).alloc (.cells #[.slice none 0 0, .slice none 0 0] 34)) (w.heap.size) [.slice H.Global.a H.Global.len H.Global.cap, .slice H.Own.a H.Own.len H.Own.cap] := by
    have hbx := Box.new w #[.slice H.Global.a H.Global.len H.Global.cap, .slice H.Own.a H.Own.len H.Own.cap] 34
    exact (hbx).alloc _
  have B_r : Box ((w.alloc (.cells #[.slice H.Global.a H.Global.len H.Global.cap, .slice H.Own.a H.Own.len H.Own.cap] 34)).alloc (.cells #[.slice none 0 0, .slice none 0 0] 34)) (w.heap.size + 1) [.slice none 0 0, .slice none 0 0] := by
    have hbx := Box.new (w.alloc (.cells #[.slice H.Global.a H.Global.len H.Global.cap, .slice H.Own.a H.Own.len H.Own.cap] 34)) #[.slice none 0 0, .slice none 0 0] 34
    simp only [World.size_alloc] at hbx
    exact hbx
  have hB : Below w.heap.size w ((w.alloc (.cells #[.slice H.Global.a H.Global.len H.Global.cap, .slice H.Own.a H.Own.len H.Own.cap] 34)).alloc (.cells #[.slice none 0 0, .slice none 0 0] 34)) := by repeat (first | exact Below.refl _ _ | refine Below.alloc ?_ (by simp <;> omega) _ | refine below_grow_of ?_ (by simp <;> omega) _ _ | refine Below.drew ?_ | refine below_drewN ?_ _)
  go_enter Tryz.func52, Tryz.ntmps52
  go_wp2_with fail
  generalize hW0 : ((w.alloc (.cells #[.slice H.Global.a H.Global.len H.Global.cap, .slice H.Own.a H.Own.len H.Own.cap] 34)).alloc (.cells #[.slice none 0 0, .slice none 0 0] 34)) = w0 at B_a B_r hB ⊢
  clear hW0
  have zz_a := B_a.lt
  have zz_r := B_r.lt
  have q_a_0 := B_a.cell 0 _ rfl
  have q_a_1 := B_a.cell 1 _ rfl
  have fr_a := B_a.fro
  have z_a := B_a.lt
  have q_r_0 := B_r.cell 0 _ rfl
  have q_r_1 := B_r.cell 1 _ rfl
  have fr_r := B_r.fro
  have z_r := B_r.lt
  refine (copyLists_impl _ H x (rdLists_up h hB) hs).mono ?_
  rintro e w1 ⟨K_c, rfl, o_c, l_c, hb⟩
  have u_c := o_c.lt
  replace B_a := B_a.below hb
  replace B_r := B_r.below hb
  replace hB := hB.trans (hb.mono hB.size)
  have sz := hb.size
  clear hb
  replace q_a_0 := B_a.cell 0 _ rfl
  replace q_a_1 := B_a.cell 1 _ rfl
  replace fr_a := B_a.fro
  replace z_a := B_a.lt
  replace q_r_0 := B_r.cell 0 _ rfl
  replace q_r_1 := B_r.cell 1 _ rfl
  replace fr_r := B_r.fro
  replace z_r := B_r.lt
  obtain ⟨⟨A1, n1, p1⟩, T1, ⟨A2, n2, p2⟩, T2⟩ := K_c
  obtain ⟨g1, c1, hv1, hg1⟩ := OwLL.at_form (v := .slice A1 n1 p1) o_c.Global (by rw [H3.out]; decide)
  obtain ⟨g2, c2, hv2, hg2⟩ := OwLL.at_form (v := .slice A2 n2 p2) o_c.Own (by rw [H9.out]; decide)
  injection hv1 with i1 i2 i3
  injection hv2 with j1 j2 j3
  subst i1 i2 i3 j1 j2 j3
  have fg1 : g1 ∈ HLists.foot ⟨⟨some ⟨g1, 0, none⟩, x.Global.length, p1⟩, T1, ⟨some ⟨g2, 0, none⟩, x.Own.length, p2⟩, T2⟩ := HLists.mem_foot.2 (.inl (mem_foot2.2 (.inl rfl)))
  have fg2 : g2 ∈ HLists.foot ⟨⟨some ⟨g1, 0, none⟩, x.Global.length, p1⟩, T1, ⟨some ⟨g2, 0, none⟩, x.Own.length, p2⟩, T2⟩ := HLists.mem_foot.2 (.inr (mem_foot2.2 (.inl rfl)))
  have lg1 := l_c _ fg1
  have lg2 := l_c _ fg2
  clear fg1 fg2
  go_wp2_with fail
  replace B_a := B_a.alloc (.cells #[.slice (some ⟨g1, 0, none⟩) x.Global.length p1, .slice (some ⟨g2, 0, none⟩) x.Own.length p2] 34)
  replace B_r := B_r.alloc (.cells #[.slice (some ⟨g1, 0, none⟩) x.Global.length p1, .slice (some ⟨g2, 0, none⟩) x.Own.length p2] 34)
  replace o_c := o_c.alloc_ (.cells #[.slice (some ⟨g1, 0, none⟩) x.Global.length p1, .slice (some ⟨g2, 0, none⟩) x.Own.length p2] 34)
  replace hB := hB.alloc hB.size (.cells #[.slice (some ⟨g1, 0, none⟩) x.Global.length p1, .slice (some ⟨g2, 0, none⟩) x.Own.length p2] 34)
  have B_o : Box (w1.alloc (.cells #[.slice (some ⟨g1, 0, none⟩) x.Global.length p1, .slice (some ⟨g2, 0, none⟩) x.Own.length p2] 34)) w1.heap.size [.slice (some ⟨g1, 0, none⟩) x.Global.length p1, .slice (some ⟨g2, 0, none⟩) x.Own.length p2] := Box.new w1 #[.slice (some ⟨g1, 0, none⟩) x.Global.length p1, .slice (some ⟨g2, 0, none⟩) x.Own.length p2] 34
  have zz_o := B_o.lt
  have sz : w1.heap.size ≤ (w1.alloc (.cells #[.slice (some ⟨g1, 0, none⟩) x.Global.length p1, .slice (some ⟨g2, 0, none⟩) x.Own.length p2] 34)).heap.size := Nat.le_of_lt B_o.lt
  generalize hG : (w1.alloc (.cells #[.slice (some ⟨g1, 0, none⟩) x.Global.length p1, .slice (some ⟨g2, 0, none⟩) x.Own.length p2] 34)) = w2 at B_a B_r o_c hB B_o zz_o sz ⊢
  clear hG
  replace q_a_0 := B_a.cell 0 _ rfl
  replace q_a_1 := B_a.cell 1 _ rfl
  replace fr_a := B_a.fro
  replace z_a := B_a.lt
  replace q_r_0 := B_r.cell 0 _ rfl
  replace q_r_1 := B_r.cell 1 _ rfl
  replace fr_r := B_r.fro
  replace z_r := B_r.lt
  have q_o_0 := B_o.cell 0 _ rfl
  have q_o_1 := B_o.cell 1 _ rfl
  have fr_o := B_o.fro
  have z_o := B_o.lt
  refine (ListsOk_impl _ H x (rdLists_up h hB)).mono ?_
  rw [hok]
  rintro e w3 ⟨rfl, hb⟩
  replace B_a := B_a.below hb
  replace B_r := B_r.below hb
  replace B_o := B_o.below hb
  have o_c := o_c.step0 hb
  replace hB := hB.trans (hb.mono hB.size)
  have sz := hb.size
  clear hb
  replace q_a_0 := B_a.cell 0 _ rfl
  replace q_a_1 := B_a.cell 1 _ rfl
  replace fr_a := B_a.fro
  replace z_a := B_a.lt
  replace q_r_0 := B_r.cell 0 _ rfl
  replace q_r_1 := B_r.cell 1 _ rfl
  replace fr_r := B_r.fro
  replace z_r := B_r.lt
  replace q_o_0 := B_o.cell 0 _ rfl
  replace q_o_1 := B_o.cell 1 _ rfl
  replace fr_o := B_o.fro
  replace z_o := B_o.lt
  clear hok
  obtain ⟨so, hso2⟩ : ∃ q, T1[k]? = some q := ⟨_, List.getElem?_eq_getElem (by rw [o_c.Global.len]; exact HK9.out)⟩
  have ino := o_c.Global.inner k so _ hso2 HR.out
  have po := o_c.Global.outer.cell_ (j := 0) hso2 (by decide)
  simp only [FS, Nat.mul_one, Nat.add_zero] at po
  have ff := o_c.Global.outer.frozen_ k
  have HV := Hid.mk_ hso2
  have hkk : k < x.Global.length := HK9.out
  have n_a : g1 ≠ w.heap.size := by omega
  have m_a : w.heap.size ≠ g1 := by omega
  have n_r : g1 ≠ w.heap.size + 1 := by omega
  have m_r : w.heap.size + 1 ≠ g1 := by omega
  have n_o : g1 ≠ w1.heap.size := by omega
  have m_o : w1.heap.size ≠ g1 := by omega
  obtain ⟨Ao, co, hvo, hq1, _⟩ := ino.rd'
  obtain ⟨ao, no, bo⟩ := so
  injection hvo with k1 k2 k3
  subst k1 k2 k3
  simp only [List.length_append, List.length_singleton] at hq1
  obtain ⟨gs, cs, hvs, _⟩ := OwL.form_pos (v := .slice ao (l ++ [s]).length bo) ino (by simp)
  injection hvs with k1 k2 k3
  subst k1 k3
  have hcl : l.length + 1 ≤ bo := hq1
  have po2 : w3.cell? ⟨g1, k, none⟩ = some (Value.slice (some ⟨gs, 0, none⟩) (l.length + 1) bo) := by simpa [SV.val] using po
  clear po
  have ce := OwL.cell_ (show OwL FI 3 _ (.slice (some ⟨gs, 0, none⟩) (l ++ [s]).length bo) (l ++ [s]) from ino) (last_at (l := l) (s := s)) FI.pos
  simp only [FI, Nat.mul_one, Nat.add_zero] at ce
  replace ce : _ = some (Value.int .i64 s) := ce
  have hq := pop_yes w3 g1 k gs l.length bo s po2 ff ce (by omega) hcl
  clear ce
  have hN := OwLL.row_w (s' := ⟨some ⟨gs, 0, none⟩, l.length, l.length⟩) (l' := l) o_c.Global HV.out ⟨_, [s], ino, .inr ⟨gs, _, l.length, bo, rfl, rfl, Nat.le_refl _, by omega⟩⟩ rfl
  change OwLLW _ _ _ (World.setCell _ _ (.slice (some ⟨gs, 0, none⟩) l.length l.length)) _ _ _ at hN
  go_wp2_with (first | (go_at_call 101; refine (isClass_ct _ _).mono ?_; rw [hicl]; rintro e wv ⟨rfl, rfl⟩) | (go_at_call 100; refine hq.mono ?_; rintro e wv ⟨rfl, rfl⟩))
  have hO := (o_c.Own.chg (F := [g1]) ((Chg.refl _ w3).set_ (g := g1) (i := k) (by simp) (.slice (some ⟨gs, 0, none⟩) l.length l.length)) (fun b hb hm => by simp only [List.mem_cons, List.not_mem_nil, or_false] at hm; subst hm; exact o_c.d01 b (mem_foot2.2 (.inl rfl)) hb)).toW
  have hfs : foot2 (.slice (some ⟨g1, 0, none⟩) x.Global.length p1) (T1.set k ⟨some ⟨gs, 0, none⟩, l.length, l.length⟩) = foot2 (.slice (some ⟨g1, 0, none⟩) x.Global.length p1) T1 := by unfold foot2; rw [flatMap_set_same (s' := ⟨some ⟨gs, 0, none⟩, l.length, l.length⟩) HV.out rfl]
  have hfm : ∀ b, b ∈ foot2 (.slice (some ⟨g1, 0, none⟩) x.Global.length p1) (T1.set k ⟨some ⟨gs, 0, none⟩, l.length, l.length⟩) → b ∈ foot2 (.slice (some ⟨g1, 0, none⟩) x.Global.length p1) T1 := fun b hb => by rw [← hfs]; exact hb
  refine bodyPost_ret (v := .tuple #[.agg #[.slice (some ⟨g1, 0, none⟩) x.Global.length p1, .slice (some ⟨g2, 0, none⟩) x.Own.length p2], .int .i64 s]) (by simp [results, Tryz.results52, go_sem, q_r_0, q_r_1]) rfl ⟨⟨⟨some ⟨g1, 0, none⟩, x.Global.length, p1⟩, T1.set k ⟨some ⟨gs, 0, none⟩, l.length, l.length⟩, ⟨some ⟨g2, 0, none⟩, x.Own.length, p2⟩, T2⟩, rfl, ⟨hN.chg (F := [w.heap.size + 1]) (by repeat (first | with_reducible exact Chg.refl _ _ | with_reducible refine Chg.set_ ?_ (by simp) _ | with_reducible refine Chg.alloc_ ?_ _ | with_reducible refine Chg.drew_ ?_)) (fun b hb hm => by simp only [List.mem_cons, List.not_mem_nil, or_false] at hm; have := l_c b (HLists.mem_foot.2 (.inl (hfm b hb))); omega), hO.chg (F := [w.heap.size + 1]) (by repeat (first | with_reducible exact Chg.refl _ _ | with_reducible refine Chg.set_ ?_ (by simp) _ | with_reducible refine Chg.alloc_ ?_ _ | with_reducible refine Chg.drew_ ?_)) (fun b hb hm => by simp only [List.mem_cons, List.not_mem_nil, or_false] at hm; have := l_c b (HLists.mem_foot.2 (.inr hb)); omega), fun b hb hm => o_c.d01 b (hfm b hb) hm⟩, fun b hb => ?_, Below.trans hB (by repeat (first | with_reducible exact Below.refl _ _ | with_reducible refine Below.setCell ?_ (by simp <;> omega) _ | with_reducible refine Below.alloc ?_ (by simp <;> omega) _ | with_reducible refine Below.drew ?_))⟩
  rcases HLists.mem_foot.1 hb with hb | hb
  · have := l_c b (HLists.mem_foot.2 (.inl (hfm b hb)))
    omega
  · have := l_c b (HLists.mem_foot.2 (.inr hb))
    omega

set_option maxRecDepth 100000 in
set_option maxHeartbeats 4000000 in
theorem TakeGlobal_impl_nil (w : World) (H : HLists) (x : Lists) (c : Nat) (h : RdLists w w.heap.size H x) (hs : sizeLists x ≤ 536870912) (hok : listsOkB x = true) (hc : c < 3) (hrow : x.Global[c]? = some ([])) :
    Calls Tryz.prog 52 #[.agg #[.slice H.Global.a H.Global.len H.Global.cap, .slice H.Own.a H.Own.len H.Own.cap], .int .i64 c] w fun e w' => ∃ H' : HLists, e = .returned (.tuple #[.agg #[.slice H'.Global.a H'.Global.len H'.Global.cap, .slice H'.Own.a H'.Own.len H'.Own.cap], .int .i64 (-1)]) ∧ OwLists w' H' x ∧ (∀ g ∈ H'.foot, w.heap.size ≤ g) ∧ Below w.heap.size w w' := by
  obtain ⟨hl3, hl9⟩ := lists_len hok
  have H3 := Hid.mk_ hl3
  have H9 := Hid.mk_ hl9
  have HR := Hid.mk_ hrow
  have HK9 := Hid.mk_ (show c < x.Global.length by omega)
  have hicl : inB 0 2 (c : Int) = true := inB_iff.2 ⟨by omega, by omega⟩
  clear hl3 hl9 hrow
  obtain ⟨k, rfl⟩ : ∃ k, k = c := ⟨_, rfl⟩
  have B_a : Box ((w.alloc (.cells #[.slice H.Global.a H.Global.len H.Global.cap, .slice H.Own.a H.Own.len H.Own.cap] 34)).alloc (.cells #[.slice none 0 0, .slice none 0 0] 34)) (w.heap.size) [.slice H.Global.a H.Global.len H.Global.cap, .slice H.Own.a H.Own.len H.Own.cap] := by
    have hbx := Box.new w #[.slice H.Global.a H.Global.len H.Global.cap, .slice H.Own.a H.Own.len H.Own.cap] 34
    exact (hbx).alloc _
  have B_r : Box ((w.alloc (.cells #[.slice H.Global.a H.Global.len H.Global.cap, .slice H.Own.a H.Own.len H.Own.cap] 34)).alloc (.cells #[.slice none 0 0, .slice none 0 0] 34)) (w.heap.size + 1) [.slice none 0 0, .slice none 0 0] := by
    have hbx := Box.new (w.alloc (.cells #[.slice H.Global.a H.Global.len H.Global.cap, .slice H.Own.a H.Own.len H.Own.cap] 34)) #[.slice none 0 0, .slice none 0 0] 34
    simp only [World.size_alloc] at hbx
    exact hbx
  have hB : Below w.heap.size w ((w.alloc (.cells #[.slice H.Global.a H.Global.len H.Global.cap, .slice H.Own.a H.Own.len H.Own.cap] 34)).alloc (.cells #[.slice none 0 0, .slice none 0 0] 34)) := by repeat (first | exact Below.refl _ _ | refine Below.alloc ?_ (by simp <;> omega) _ | refine below_grow_of ?_ (by simp <;> omega) _ _ | refine Below.drew ?_ | refine below_drewN ?_ _)
  go_enter Tryz.func52, Tryz.ntmps52
  go_wp2_with fail
  generalize hW0 : ((w.alloc (.cells #[.slice H.Global.a H.Global.len H.Global.cap, .slice H.Own.a H.Own.len H.Own.cap] 34)).alloc (.cells #[.slice none 0 0, .slice none 0 0] 34)) = w0 at B_a B_r hB ⊢
  clear hW0
  have zz_a := B_a.lt
  have zz_r := B_r.lt
  have q_a_0 := B_a.cell 0 _ rfl
  have q_a_1 := B_a.cell 1 _ rfl
  have fr_a := B_a.fro
  have z_a := B_a.lt
  have q_r_0 := B_r.cell 0 _ rfl
  have q_r_1 := B_r.cell 1 _ rfl
  have fr_r := B_r.fro
  have z_r := B_r.lt
  refine (copyLists_impl _ H x (rdLists_up h hB) hs).mono ?_
  rintro e w1 ⟨K_c, rfl, o_c, l_c, hb⟩
  have u_c := o_c.lt
  replace B_a := B_a.below hb
  replace B_r := B_r.below hb
  replace hB := hB.trans (hb.mono hB.size)
  have sz := hb.size
  clear hb
  replace q_a_0 := B_a.cell 0 _ rfl
  replace q_a_1 := B_a.cell 1 _ rfl
  replace fr_a := B_a.fro
  replace z_a := B_a.lt
  replace q_r_0 := B_r.cell 0 _ rfl
  replace q_r_1 := B_r.cell 1 _ rfl
  replace fr_r := B_r.fro
  replace z_r := B_r.lt
  obtain ⟨⟨A1, n1, p1⟩, T1, ⟨A2, n2, p2⟩, T2⟩ := K_c
  obtain ⟨g1, c1, hv1, hg1⟩ := OwLL.at_form (v := .slice A1 n1 p1) o_c.Global (by rw [H3.out]; decide)
  obtain ⟨g2, c2, hv2, hg2⟩ := OwLL.at_form (v := .slice A2 n2 p2) o_c.Own (by rw [H9.out]; decide)
  injection hv1 with i1 i2 i3
  injection hv2 with j1 j2 j3
  subst i1 i2 i3 j1 j2 j3
  have fg1 : g1 ∈ HLists.foot ⟨⟨some ⟨g1, 0, none⟩, x.Global.length, p1⟩, T1, ⟨some ⟨g2, 0, none⟩, x.Own.length, p2⟩, T2⟩ := HLists.mem_foot.2 (.inl (mem_foot2.2 (.inl rfl)))
  have fg2 : g2 ∈ HLists.foot ⟨⟨some ⟨g1, 0, none⟩, x.Global.length, p1⟩, T1, ⟨some ⟨g2, 0, none⟩, x.Own.length, p2⟩, T2⟩ := HLists.mem_foot.2 (.inr (mem_foot2.2 (.inl rfl)))
  have lg1 := l_c _ fg1
  have lg2 := l_c _ fg2
  clear fg1 fg2
  go_wp2_with fail
  replace B_a := B_a.alloc (.cells #[.slice (some ⟨g1, 0, none⟩) x.Global.length p1, .slice (some ⟨g2, 0, none⟩) x.Own.length p2] 34)
  replace B_r := B_r.alloc (.cells #[.slice (some ⟨g1, 0, none⟩) x.Global.length p1, .slice (some ⟨g2, 0, none⟩) x.Own.length p2] 34)
  replace o_c := o_c.alloc_ (.cells #[.slice (some ⟨g1, 0, none⟩) x.Global.length p1, .slice (some ⟨g2, 0, none⟩) x.Own.length p2] 34)
  replace hB := hB.alloc hB.size (.cells #[.slice (some ⟨g1, 0, none⟩) x.Global.length p1, .slice (some ⟨g2, 0, none⟩) x.Own.length p2] 34)
  have B_o : Box (w1.alloc (.cells #[.slice (some ⟨g1, 0, none⟩) x.Global.length p1, .slice (some ⟨g2, 0, none⟩) x.Own.length p2] 34)) w1.heap.size [.slice (some ⟨g1, 0, none⟩) x.Global.length p1, .slice (some ⟨g2, 0, none⟩) x.Own.length p2] := Box.new w1 #[.slice (some ⟨g1, 0, none⟩) x.Global.length p1, .slice (some ⟨g2, 0, none⟩) x.Own.length p2] 34
  have zz_o := B_o.lt
  have sz : w1.heap.size ≤ (w1.alloc (.cells #[.slice (some ⟨g1, 0, none⟩) x.Global.length p1, .slice (some ⟨g2, 0, none⟩) x.Own.length p2] 34)).heap.size := Nat.le_of_lt B_o.lt
  generalize hG : (w1.alloc (.cells #[.slice (some ⟨g1, 0, none⟩) x.Global.length p1, .slice (some ⟨g2, 0, none⟩) x.Own.length p2] 34)) = w2 at B_a B_r o_c hB B_o zz_o sz ⊢
  clear hG
  replace q_a_0 := B_a.cell 0 _ rfl
  replace q_a_1 := B_a.cell 1 _ rfl
  replace fr_a := B_a.fro
  replace z_a := B_a.lt
  replace q_r_0 := B_r.cell 0 _ rfl
  replace q_r_1 := B_r.cell 1 _ rfl
  replace fr_r := B_r.fro
  replace z_r := B_r.lt
  have q_o_0 := B_o.cell 0 _ rfl
  have q_o_1 := B_o.cell 1 _ rfl
  have fr_o := B_o.fro
  have z_o := B_o.lt
  refine (ListsOk_impl _ H x (rdLists_up h hB)).mono ?_
  rw [hok]
  rintro e w3 ⟨rfl, hb⟩
  replace B_a := B_a.below hb
  replace B_r := B_r.below hb
  replace B_o := B_o.below hb
  have o_c := o_c.step0 hb
  replace hB := hB.trans (hb.mono hB.size)
  have sz := hb.size
  clear hb
  replace q_a_0 := B_a.cell 0 _ rfl
  replace q_a_1 := B_a.cell 1 _ rfl
  replace fr_a := B_a.fro
  replace z_a := B_a.lt
  replace q_r_0 := B_r.cell 0 _ rfl
  replace q_r_1 := B_r.cell 1 _ rfl
  replace fr_r := B_r.fro
  replace z_r := B_r.lt
  replace q_o_0 := B_o.cell 0 _ rfl
  replace q_o_1 := B_o.cell 1 _ rfl
  replace fr_o := B_o.fro
  replace z_o := B_o.lt
  clear hok
  obtain ⟨so, hso2⟩ : ∃ q, T1[k]? = some q := ⟨_, List.getElem?_eq_getElem (by rw [o_c.Global.len]; exact HK9.out)⟩
  have ino := o_c.Global.inner k so _ hso2 HR.out
  have po := o_c.Global.outer.cell_ (j := 0) hso2 (by decide)
  simp only [FS, Nat.mul_one, Nat.add_zero] at po
  have ff := o_c.Global.outer.frozen_ k
  have HV := Hid.mk_ hso2
  have hkk : k < x.Global.length := HK9.out
  have n_a : g1 ≠ w.heap.size := by omega
  have m_a : w.heap.size ≠ g1 := by omega
  have n_r : g1 ≠ w.heap.size + 1 := by omega
  have m_r : w.heap.size + 1 ≠ g1 := by omega
  have n_o : g1 ≠ w1.heap.size := by omega
  have m_o : w1.heap.size ≠ g1 := by omega
  obtain ⟨Ao, co, hvo, _⟩ := ino.rd'
  obtain ⟨ao, no, bo⟩ := so
  injection hvo with k1 k2 k3
  subst k1 k2 k3
  have po2 : _ = some (Value.slice ao 0 bo) := po
  clear po
  have hq := pop_nil w3 g1 k bo ao po2
  go_wp2_with (first | (go_at_call 101; refine (isClass_ct _ _).mono ?_; rw [hicl]; rintro e wv ⟨rfl, rfl⟩) | (go_at_call 100; refine hq.mono ?_; rintro e wv ⟨rfl, rfl⟩))
  refine bodyPost_ret (v := .tuple #[.agg #[.slice (some ⟨g1, 0, none⟩) x.Global.length p1, .slice (some ⟨g2, 0, none⟩) x.Own.length p2], .int .i64 (-1)]) (by simp [results, Tryz.results52, go_sem, q_r_0, q_r_1]) rfl ⟨⟨⟨some ⟨g1, 0, none⟩, x.Global.length, p1⟩, T1, ⟨some ⟨g2, 0, none⟩, x.Own.length, p2⟩, T2⟩, rfl, o_c.chg (F := [w.heap.size + 1]) (by repeat (first | with_reducible exact Chg.refl _ _ | with_reducible refine Chg.set_ ?_ (by simp) _ | with_reducible refine Chg.alloc_ ?_ _ | with_reducible refine Chg.drew_ ?_)) (fun g hg hm => by simp only [List.mem_cons, List.not_mem_nil, or_false] at hm; have := l_c g hg; have := u_c g hg; omega), fun g hg => by have := l_c g hg; omega, Below.trans hB (by repeat (first | with_reducible exact Below.refl _ _ | with_reducible refine Below.setCell ?_ (by simp <;> omega) _ | with_reducible refine Below.alloc ?_ (by simp <;> omega) _ | with_reducible refine Below.drew ?_))⟩
end Go.Proofs.YtpjijbonpjoamaaGreat

/-
  A row popped, the other package.
-/
namespace Go.Proofs.YtpjijbonpjoamaaGreat
open Go.RowKit

theorem set_same {α : Type} {l : List α} {k : Nat} {v : α} (h : l[k]? = some v) : l.set k v = l := by
  apply List.ext_getElem?
  intro j
  by_cases hj : k = j
  · subst hj
    rw [List.getElem?_set_self (List.getElem?_eq_some_iff.1 h).1, h]
  · rw [List.getElem?_set_ne hj]
theorem OwLL.row_s {α : Type} {T : FT α} {e E : TypeId} {w : World} {g n c : Nat} {svs : List SV} {ll : List (List α)} (h : OwLL T e E w (.slice (some ⟨g, 0, none⟩) n c) svs ll) {i : Nat} {s s' : SV} {l' : List α} (hi : svs[i]? = some s)
    (hl : OwL T e w s'.val l') (hat : s'.val.ownBlock = s.val.ownBlock) :
    OwLL T e E (w.setCell ⟨g, i, none⟩ s'.val) (.slice (some ⟨g, 0, none⟩) n c) (svs.set i s') (ll.set i l') := by
  have hn := h.nodup
  have hne := OwLL.head_ne h hi
  have hfs : foot1 s'.val = foot1 s.val := by unfold foot1; rw [hat]
  unfold foot2 at hn
  rw [List.nodup_append] at hn
  obtain ⟨hn1, hn2, hn3⟩ := hn
  refine ⟨by rw [List.length_set, List.length_set]; exact h.len, ?_, fun k q l hk hl2 => ?_, ?_⟩
  · have := h.outer.set_ (k := i) (j := 0) (x := s) (y := s') (u := s'.val) hi (by decide) rfl
    simpa [FS] using this
  · by_cases hik : i = k
    · subst hik
      have hil : i < svs.length := (List.getElem?_eq_some_iff.1 hi).1
      rw [List.getElem?_set_self hil] at hk
      cases hk
      rw [List.getElem?_set_self (by rw [← h.len]; exact hil)] at hl2
      cases hl2
      exact hl.keep (fun b hb => heap_set_other w _ (fun e => by subst e; exact hne (by rw [← hfs]; exact mem_foot1.2 hb)))
    · rw [List.getElem?_set_ne hik] at hk hl2
      exact (h.inner k q l hk hl2).keep (fun b hb => heap_set_other w _ (fun e => by subst e; exact hn3 _ (mem_foot1.2 rfl) _ (List.mem_flatMap.2 ⟨q, List.mem_of_getElem? hk, mem_foot1.2 hb⟩) rfl))
  · unfold foot2
    rw [flatMap_set_same hi hfs, List.nodup_append]
    exact ⟨hn1, hn2, hn3⟩

set_option maxHeartbeats 4000000 in
theorem l8Pop_nil (w : World) (A : Option Addr) (c : Nat) : Calls Tryz.prog 95 #[.agg #[.slice A 0 c]] w fun e w' => e = .returned (.tuple #[.agg #[.slice A 0 c], .int .i64 (-1)]) ∧ Below w.heap.size w w' := by
  go_enter Tryz.func95, Tryz.ntmps95
  go_wp2_with fail
  refine bodyPost_ret (v := .tuple #[.agg #[.slice A 0 c], .int .i64 (-1)]) (by simp [results, Tryz.results95, go_sem]) rfl ⟨rfl, ((Below.refl _ _).alloc (Nat.le_refl _) _).alloc (by simp) _⟩

set_option maxHeartbeats 4000000 in
theorem l8Pop_yes (w : World) (gs n c : Nat) (s : Int) (h1 : w.cell? ⟨gs, n, none⟩ = some (.int .i64 s)) (hg : gs < w.heap.size) (hn : n ≤ 1073741824) (hc : n + 1 ≤ c) : Calls Tryz.prog 95 #[.agg #[.slice (some ⟨gs, 0, none⟩) (n + 1) c]] w fun e w' => e = .returned (.tuple #[.agg #[.slice (some ⟨gs, 0, none⟩) n c], .int .i64 s]) ∧ Below w.heap.size w w' := by
  have hq0 : ∀ W, Below w.heap.size w W → W.cell? ⟨gs, n, none⟩ = some (.int .i64 s) := fun W hb => (Below.cell hb hg).trans h1
  have B_a : Box ((w.alloc (.cells #[.slice (some ⟨gs, 0, none⟩) (n + 1) c] 80)).alloc (.cells #[.slice none 0 0] 80)) (w.heap.size) [.slice (some ⟨gs, 0, none⟩) (n + 1) c] := by
    have hbx := Box.new w #[.slice (some ⟨gs, 0, none⟩) (n + 1) c] 80
    exact (hbx).alloc _
  have B_r : Box ((w.alloc (.cells #[.slice (some ⟨gs, 0, none⟩) (n + 1) c] 80)).alloc (.cells #[.slice none 0 0] 80)) (w.heap.size + 1) [.slice none 0 0] := by
    have hbx := Box.new (w.alloc (.cells #[.slice (some ⟨gs, 0, none⟩) (n + 1) c] 80)) #[.slice none 0 0] 80
    simp only [World.size_alloc] at hbx
    exact hbx
  have hB : Below w.heap.size w ((w.alloc (.cells #[.slice (some ⟨gs, 0, none⟩) (n + 1) c] 80)).alloc (.cells #[.slice none 0 0] 80)) := by repeat (first | exact Below.refl _ _ | refine Below.alloc ?_ (by simp <;> omega) _ | refine below_grow_of ?_ (by simp <;> omega) _ _ | refine Below.drew ?_ | refine below_drewN ?_ _)
  go_enter Tryz.func95, Tryz.ntmps95
  go_wp2_with fail
  generalize hW0 : ((w.alloc (.cells #[.slice (some ⟨gs, 0, none⟩) (n + 1) c] 80)).alloc (.cells #[.slice none 0 0] 80)) = w0 at B_a B_r hB ⊢
  clear hW0
  have zz_a := B_a.lt
  have zz_r := B_r.lt
  have q_a_0 := B_a.cell 0 _ rfl
  have fr_a := B_a.fro
  have z_a := B_a.lt
  have q_r_0 := B_r.cell 0 _ rfl
  have fr_r := B_r.fro
  have z_r := B_r.lt
  have q_s := hq0 _ hB
  have hwr : IntKind.i64.wrap (((n + 1 : Nat) : Int) - 1) = (n : Int) := by rw [show ((n + 1 : Nat) : Int) - 1 = (n : Int) by omega]; rw [IntKind.wrap_i64]; omega
  go_region
  all_goals go_wp2_with fail
  all_goals refine bodyPost_ret (v := .tuple #[.agg #[.slice (some ⟨gs, 0, none⟩) n c], .int .i64 s]) (by simp [results, Tryz.results95, go_sem, B_r.cell 0 _ rfl]) rfl ⟨rfl, Below.trans hB (by repeat (first | with_reducible exact Below.refl _ _ | with_reducible refine Below.setCell ?_ (by simp <;> omega) _ | with_reducible refine Below.alloc ?_ (by simp <;> omega) _ | with_reducible refine Below.drew ?_))⟩
end Go.Proofs.YtpjijbonpjoamaaGreat

