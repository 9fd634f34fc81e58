/-
  Several texts in one: lemmas and contracts that the claim rests on.
-/
import Derived.Test.YtpjijbonpjoamaaGreatUHAllocNow1
import Derived.Deep.QuietTactic
import Derived.BigQuiet
import Derived.Deep.LoopGhost
import Derived.Deep.RegionHeld3
import Derived.WalkSpells
import Derived.Laws.Cover3
import Derived.Deep.WholeRow
/-
  Boxes: the cells of a block that the call made itself, in a world that is known only so far.
-/
namespace Go.Proofs.YtpjijbonpjoamaaGreat
open Go.RowKit
variable {α : Type} {T : FT α}
structure Box (w : World) (g : Nat) (vs : List Value) : Prop where
  lt : g < w.heap.size
  cell : ∀ j v, vs[j]? = some v → w.cell? ⟨g, j, none⟩ = some v
  fro : ∀ j, w.frozen? ⟨g, j, none⟩ = false
theorem Box.of_block {w w' : World} {g : Nat} {vs : List Value} (h : Box w g vs) (hs : w.heap.size ≤ w'.heap.size) (hb : w'.heap[g]? = w.heap[g]?) : Box w' g vs :=
  ⟨Nat.lt_of_lt_of_le h.lt hs, fun j v hv => by simpa [World.cell?, hb] using h.cell j v hv, fun j => by simpa [World.frozen?, hb] using h.fro j⟩
theorem Box.below {w w' : World} {g : Nat} {vs : List Value} (h : Box w g vs) (hb : Below w.heap.size w w') : Box w' g vs := h.of_block hb.size (hb.block g h.lt)
theorem Box.chg {w w' : World} {g : Nat} {vs : List Value} {F : List Nat} (h : Box w g vs) (hc : Chg F w w') (hn : g ∉ F) : Box w' g vs := h.of_block hc.size (hc.block g h.lt hn)
theorem heap_set_other (w : World) {g g' i : Nat} (v : Value) (hn : g ≠ g') : (w.setCell ⟨g, i, none⟩ v).heap[g']? = w.heap[g']? := Below.heap_setCell _ _ _ _ (fun e => hn e.symm)
theorem Box.other {w : World} {g : Nat} {vs : List Value} (h : Box w g vs) {g' i : Nat} (hn : g' ≠ g) (v : Value) : Box (w.setCell ⟨g', i, none⟩ v) g vs := h.of_block (by simp) (heap_set_other w v hn)
theorem Box.set {w : World} {g : Nat} {vs : List Value} (h : Box w g vs) (i : Nat) (v : Value) : Box (w.setCell ⟨g, i, none⟩ v) g (vs.set i v) := by
  refine ⟨by simpa using h.lt, fun j u hu => ?_, fun j => ?_⟩
  · by_cases hij : i = j
    · subst hij
      rw [List.getElem?_set] at hu
      by_cases hl : i < vs.length
      · simp [hl] at hu
        subst hu
        have := h.cell i _ (List.getElem?_eq_getElem hl)
        simp [go_sem, this]
      · simp [hl] at hu
    · rw [List.getElem?_set, if_neg hij] at hu
      rw [World.cell?_setCell_other _ _ _ _ (by intro e; simp only [Addr.mk.injEq] at e; omega)]
      exact h.cell j u hu
  · have := h.fro j
    simp [go_sem, this]
theorem Box.alloc {w : World} {g : Nat} {vs : List Value} (h : Box w g vs) (o : Obj) : Box (w.alloc o) g vs := h.of_block (by simp) (Below.heap_alloc w o g h.lt)
theorem Box.drew {w : World} {g : Nat} {vs : List Value} (h : Box w g vs) : Box w.drew g vs := h.of_block (Nat.le_refl _) rfl
theorem Box.drewN {w : World} {g : Nat} {vs : List Value} (h : Box w g vs) (n : Nat) : Box (w.drewN n) g vs := h.of_block (Nat.le_refl _) rfl
theorem Box.new (w : World) (vs : Array Value) (ty : TypeId) : Box (w.alloc (.cells vs ty)) w.heap.size vs.toList := by
  refine ⟨by simp, fun j v hv => ?_, fun j => by simp [go_sem]⟩
  have : vs[j]? = some v := by simpa using hv
  simp only [World.cell?, heap_alloc_last]
  exact this
theorem Chg.set_ {F : List Nat} {w w' : World} (h : Chg F w w') {g i : Nat} (hg : g ∈ F) (v : Value) : Chg F w (w'.setCell ⟨g, i, none⟩ v) :=
  ⟨h.os, h.tape, h.output, by simpa using h.size, fun k hk hn => (Below.heap_setCell _ _ _ _ (fun e => by have e' : k = g := e; exact hn (e' ▸ hg))).trans (h.block k hk hn)⟩
theorem Chg.alloc_ {F : List Nat} {w w' : World} (h : Chg F w w') (o : Obj) : Chg F w (w'.alloc o) :=
  ⟨h.os, h.tape, h.output, Nat.le_trans h.size (by simp), fun k hk hn => (Below.heap_alloc w' o k (Nat.lt_of_lt_of_le hk h.size)).trans (h.block k hk hn)⟩
theorem leftOf_nat {k a : Nat} (h : a ≤ k) : leftOf k a = ((k - a : Nat) : Int) := by rw [leftOf_pos h]; omega
theorem RdL.len_ {w : World} {B : Nat} {a : Option Addr} {n c : Nat} {l : List α} (h : RdL T w B (.slice a n c) l) : n = l.length ∧ n ≤ 9223372036854775807 := by
  obtain ⟨A, c', hv, q1, q2, _⟩ := id h
  injection hv with h1 h2 h3
  refine ⟨h2, ?_⟩
  unfold maxLen at q2
  omega
end Go.Proofs.YtpjijbonpjoamaaGreat

/-
  Lists of ints, lists of lists: compared, made, measured, marked.
-/
namespace Go.Proofs.YtpjijbonpjoamaaGreat
open Go.RowKit

set_option maxHeartbeats 400000 in
theorem szIntS_ct (w : World) (A : Option Addr) (n c : Nat) (k : Nat) (hn : n ≤ 9223372036854775807) (hk : k ≤ 1073741824) :
    Calls Tryz.prog 55 #[.slice A n c, .int .i64 k] w fun e w' => e = .returned (.int .i64 (leftOf k n)) ∧ Below w.heap.size w w' := by
  by_cases h : n ≤ k
  · go_enter Tryz.func55, Tryz.ntmps55
    go_wp2
    go_ret
    exact ⟨ret_i64 (leftOf_pos h).symm, by repeat (first | exact Below.refl _ _ | refine Below.alloc ?_ (by simp <;> omega) _ | refine below_grow_of ?_ (by simp <;> omega) _ _ | refine Below.drew ?_ | refine below_drewN ?_ _)⟩
  · go_enter Tryz.func55, Tryz.ntmps55
    go_wp2
    go_ret
    exact ⟨ret_i64 (leftOf_neg h).symm, by repeat (first | exact Below.refl _ _ | refine Below.alloc ?_ (by simp <;> omega) _ | refine below_grow_of ?_ (by simp <;> omega) _ _ | refine Below.drew ?_ | refine below_drewN ?_ _)⟩

set_option maxHeartbeats 400000 in
theorem eqSList_ct (w : World) (v1 v2 : Value) (l : List Int) (h1 : RdL FI w w.heap.size v1 l) (h2 : RdL FI w w.heap.size v2 l) (hs : l.length ≤ 1073741824) :
    Calls Tryz.prog 126 #[.agg #[v1], .agg #[v2]] w fun e w' => e = .returned (.bool true) ∧ Below w.heap.size w w' := by
  obtain ⟨A1, c1, hv1, _⟩ := id h1
  obtain ⟨A2, c2, hv2, _⟩ := id h2
  subst hv1 hv2
  go_enter Tryz.func126, Tryz.ntmps126
  go_wp2_with (go_at_call 84; refine (eqIntS_ct _ _ _ l (rd_up h1 (by repeat (first | exact Below.refl _ _ | refine Below.alloc ?_ (by simp <;> omega) _ | refine below_grow_of ?_ (by simp <;> omega) _ _ | refine Below.drew ?_ | refine below_drewN ?_ _))) (rd_up h2 (by repeat (first | exact Below.refl _ _ | refine Below.alloc ?_ (by simp <;> omega) _ | refine below_grow_of ?_ (by simp <;> omega) _ _ | refine Below.drew ?_ | refine below_drewN ?_ _))) hs).mono ?_; rintro e w1 ⟨rfl, hb1⟩; obtain ⟨os1, d1, rfl⟩ := below_grows hb1; clear hb1)
  go_ret
  exact ⟨rfl, by repeat (first | exact Below.refl _ _ | refine Below.alloc ?_ (by simp <;> omega) _ | refine below_grow_of ?_ (by simp <;> omega) _ _ | refine Below.drew ?_ | refine below_drewN ?_ _)⟩

set_option maxHeartbeats 1000000 in
theorem eqSListS_ct (w : World) (v1 v2 : Value) (t1 t2 : List SV) (ll : List (List Int)) (h1 : RdLL FI w w.heap.size v1 t1 ll) (h2 : RdLL FI w w.heap.size v2 t2 ll) (hs : szLL ll ≤ 1073741824) :
    Calls Tryz.prog 85 #[v1, v2] w fun e w' => e = .returned (.bool true) ∧ Below w.heap.size w w' := by
  obtain ⟨A1, c1, hv1, _⟩ := id h1.outer
  obtain ⟨A2, c2, hv2, _⟩ := id h2.outer
  have n1 := h1.len
  have n2 := h2.len
  rw [n1] at hv1
  rw [n2] at hv2
  have hs0 : ll.length ≤ 1073741824 := Nat.le_trans (Nat.le_add_right _ _) hs
  subst hv1 hv2
  have N1 : Hid (t1.length = ll.length) := n1
  have N2 : Hid (t2.length = ll.length) := n2
  clear n1 n2
  go_enter Tryz.func85, Tryz.ntmps85
  go_wp2
  go_loopw [5] (fun i wr => ∃ k : Nat, k ≤ ll.length ∧ i = .int .i64 k ∧ Below w.heap.size w wr) (fun i _ => ll.length - (intOf i).toNat)
  case atStart => exact ⟨0, Nat.zero_le _, rfl, Below.refl _ _⟩
  case round =>
    obtain ⟨i, hk, rfl, hb⟩ := hrel
    by_cases hlt : i < ll.length
    · have m1 : t1[i]? = some (t1[i]'(by rw [N1.out]; exact hlt)) := List.getElem?_eq_getElem _
      have m2 : t2[i]? = some (t2[i]'(by rw [N2.out]; exact hlt)) := List.getElem?_eq_getElem _
      have r1 := h1.inner i _ _ m1 (List.getElem?_eq_getElem hlt)
      have r2 := h2.inner i _ _ m2 (List.getElem?_eq_getElem hlt)
      obtain ⟨g1, o1, cap1, e1, b1, _, _, q1⟩ := (h1.outer.below hb).at_ m1
      obtain ⟨g2, o2, cap2, e2, b2, _, _, q2⟩ := (h2.outer.below hb).at_ m2
      generalize t1[i]'(by rw [N1.out]; exact hlt) = s1 at m1 r1 q1
      generalize t2[i]'(by rw [N2.out]; exact hlt) = s2 at m2 r2 q2
      injection e1 with e11 e12 e13
      injection e2 with e21 e22 e23
      clear e12 e22
      subst e11 e13 e21 e23
      have z1 : g1 < wr.heap.size := Nat.lt_of_lt_of_le b1 hb.size
      have z0 : w.heap.size ≤ wr.heap.size := hb.size
      have z2 : g2 < wr.heap.size := Nat.lt_of_lt_of_le b2 hb.size
      have p0 : wr.cell? ⟨g1, o1 + i, none⟩ = some (.slice s1.a s1.len s1.cap) := by simpa [FS] using q1 0 _ rfl
      have r0 : wr.cell? ⟨g2, o2 + i, none⟩ = some (.slice s2.a s2.len s2.cap) := by simpa [FS] using q2 0 _ rfl
      have hs1 : ll[i].length ≤ 1073741824 := Nat.le_trans (le_szLL (List.getElem_mem hlt)) hs
      clear q1 q2 m1 m2
      go_wp2
      go_region_held3 (fun w' => w'.cell? ⟨g1, o1 + i, none⟩ = some (.slice s1.a s1.len s1.cap) ∧ w'.cell? ⟨g2, o2 + i, none⟩ = some (.slice s2.a s2.len s2.cap) ∧ g1 < w'.heap.size ∧ g2 < w'.heap.size ∧ Below w.heap.size w w') (first | (go_keep; done) | ((try go_split_ands); refine ⟨?_, ?_, ?_, ?_, ?_⟩; all_goals first | assumption | exact Below.drew (by assumption) | (simp [go_sem, *]; done) | exact below_grow_of (by assumption) (by omega) _ _ | (rw [size_grow]; omega))) ((go_at_call 126; refine (eqSList_ct _ _ _ _ (rd_up r1 (by go_split_ands; assumption)) (rd_up r2 (by go_split_ands; assumption)) hs1).mono ?_; rintro e w1 ⟨rfl, hb1⟩; obtain ⟨os1, d1, rfl⟩ := below_grows hb1; clear hb1))
      go_wp2
      go_roundw
      case rel => exact ⟨i + 1, by omega, by go_num, by first | assumption | (try go_split_ands; assumption)⟩
      case measure => simp [intOf]; omega
    · go_wp2
      go_ret
      exact ⟨rfl, hb⟩

set_option maxHeartbeats 1000000 in
theorem markSListS_ct (w : World) (v : Value) (t : List SV) (ll : List (List Int)) (k : Int) (h : OwLL FI 3 80 w v t ll) (hk0 : 0 ≤ k) (hk1 : (k + (totLL ll : Int)) ≤ 4611686018427387904) :
    Calls Tryz.prog 87 #[v, .int .i64 k] w fun e w' => e = .returned (.int .i64 (k + (totLL ll : Int))) ∧ OwLL FI 3 80 w' v t (markLL mkInt 1 ll k) ∧ Chg (foot2 v t) w w' := by
  obtain ⟨A, c, hv, _⟩ := id h.rd'.outer
  rw [h.len] at hv
  have hlt0 : ll.length ≤ 9223372036854775807 := by
    have := h.rd'.outer
    obtain ⟨_, c', _, q1, q2, _⟩ := this
    rw [h.len] at q1
    unfold maxLen at q2
    omega
  subst hv
  go_enter Tryz.func87, Tryz.ntmps87
  go_wp2
  go_loopw [1, 5] (fun q i wr => ∃ i' : Nat, i' ≤ ll.length ∧ i = .int .i64 i' ∧ q = .int .i64 (k + (totLL (ll.take i') : Int)) ∧ OwLL FI 3 80 wr (.slice A ll.length c) t (marksLL mkInt 1 ll i' k) ∧ Chg (foot2 (.slice A ll.length c) t) w wr) (fun _ i _ => ll.length - (intOf i).toNat)
  case atStart => exact ⟨0, Nat.zero_le _, rfl, by simp [totLL], h, Chg.refl _ _⟩
  case round =>
    obtain ⟨i, hi, rfl, rfl, ho, hch⟩ := hrel
    by_cases hlt : i < ll.length
    · have hT : Hid (t.length = ll.length) := h.len
      have m1 : t[i]? = some (t[i]'(by rw [hT.out]; exact hlt)) := List.getElem?_eq_getElem _
      generalize t[i]'(by rw [hT.out]; exact hlt) = s at m1
      have ro := ho.inner i s _ m1 (marksLL_get mkInt 1 ll i k hlt)
      obtain ⟨g, o1, cap1, e1, b1, _, _, q1⟩ := ho.rd'.outer.at_ m1
      injection e1 with e11 e12 e13
      clear e12
      subst e11 e13
      have p0 : wr.cell? ⟨g, o1 + i, none⟩ = some (.slice s.a s.len s.cap) := by simpa [FS] using q1 0 _ rfl
      have ht1 := totLL_take_succ ll i hlt
      have ht2 := totLL_take_le ll (i + 1)
      have HT : Hid (totLL (ll.take (i + 1)) = totLL (ll.take i) + ll[i].length) := ht1
      have kb : k + (totLL (ll.take i) : Int) * 1 + (ll[i].length : Int) * 1 ≤ 4611686018427387904 := by omega
      have k0 : 0 ≤ k + (totLL (ll.take i) : Int) * 1 := by omega
      clear q1 ht1 h
      go_wp2_with (go_at_call 86; refine (markIntS_ct _ s.val ll[i] _ ro (by omega) (by omega)).mono ?_; rintro e w1 ⟨rfl, ho1, hg1, hs1⟩)
      go_roundw
      case rel =>
        refine ⟨i + 1, by omega, by go_num, by rw [HT.out]; go_num, ?_, hch.trans ((Chg.of_grown hg1).mono fun g hg => mem_foot2.2 (.inr ⟨s, List.mem_of_getElem? m1, mem_foot1.1 hg⟩))⟩
        have e := marksLL_step mkInt 1 ll i k hlt
        rw [← e]
        refine ho.set_row m1 ?_ (Chg.of_grown hg1)
        simpa using ho1
      case measure => simp [intOf]; omega
    · go_wp2
      go_ret
      obtain rfl : i = ll.length := by omega
      exact ⟨by simp, by rw [← marksLL_all]; exact ho, hch⟩

set_option maxHeartbeats 400000 in
theorem toSList_ct (w : World) (v : Value) (l : List Int) (h : RdL FI w w.heap.size v l) (hs : l.length ≤ 1048576) :
    Calls Tryz.prog 117 #[.agg #[v]] w fun e w' => ∃ s : SV, e = .returned (.agg #[.slice s.a s.len s.cap]) ∧ OwL FI 3 w' s.val l ∧ (∀ g ∈ foot1 s.val, w.heap.size ≤ g) ∧ Below w.heap.size w w' := by
  obtain ⟨A, c, hv, _⟩ := id h
  subst hv
  go_enter Tryz.func117, Tryz.ntmps117
  go_wp2_with fail
  refine (toIntS_ct _ _ l (rd_up h (by repeat (first | exact Below.refl _ _ | refine Below.alloc ?_ (by simp <;> omega) _ | refine below_grow_of ?_ (by simp <;> omega) _ _ | refine Below.drew ?_ | refine below_drewN ?_ _))) hs).mono ?_
  rintro e w1 ⟨rfl, ho, hb1⟩
  obtain ⟨os1, d1, rfl⟩ := below_grows hb1
  clear hb1
  go_wp2
  refine bodyPost_ret (v := .agg #[.slice (some ⟨w.heap.size + 1 + 1 + 1, 0, none⟩) l.length l.length]) (by simp [results, Tryz.results117, go_sem]) rfl ⟨⟨_, _, _⟩, rfl, ?_, ?_, ?_⟩
  · simp only [World.size_alloc] at ho
    refine OwL.regrow ho ?_ ?_ _
    · simp
    · simp [foot1, Value.ownBlock]
  · simp [foot1, Value.ownBlock, SV.val]; omega
  · repeat (first | exact Below.refl _ _ | refine Below.alloc ?_ (by simp <;> omega) _ | refine below_grow_of ?_ (by simp <;> omega) _ _ | refine Below.drew ?_ | refine below_drewN ?_ _)

theorem Tryz.infoSList : (Tryz.prog.info? 80).map (fun i => (i.zero, i.size, i.bytes)) = some (some (.agg #[.slice none 0 0]), FS.n, 24) := by kernel_rfl
set_option maxHeartbeats 1000000 in
theorem toSListS_ct (w : World) (v : Value) (t : List SV) (ll : List (List Int)) (h : RdLL FI w w.heap.size v t ll) (hs : szLL ll ≤ 1048576) :
    Calls Tryz.prog 71 #[v] w fun e w' => ∃ t' : List SV, e = .returned (.slice (some ⟨w.heap.size, 0, none⟩) ll.length ll.length) ∧ OwLL FI 3 80 w' (.slice (some ⟨w.heap.size, 0, none⟩) ll.length ll.length) t' ll ∧ (∀ g ∈ foot2 (.slice (some ⟨w.heap.size, 0, none⟩) ll.length ll.length) t', w.heap.size ≤ g) ∧ Below w.heap.size w w' := by
  have hs0 : ll.length ≤ 1048576 := Nat.le_trans (Nat.le_add_right _ _) hs
  have hmk := run_make_flat (P := Tryz.prog) FS 32 80 (.agg #[.slice none 0 0]) 24 Tryz.underlying32 Tryz.infoSList ll.length (by omega) (by omega)
  obtain ⟨A, cap, hv, _⟩ := id h.outer
  have N1 : Hid (t.length = ll.length) := h.len
  rw [h.len] at hv
  subst hv
  go_enter Tryz.func71, Tryz.ntmps71
  go_wp2
  clear hmk
  go_loopw [4] (fun i wr => ∃ k : Nat, k ≤ ll.length ∧ i = .int .i64 k ∧ (∃ t' : List SV, OwLL FI 3 80 wr (.slice (some ⟨w.heap.size, 0, none⟩) ll.length ll.length) t' (ll.take k ++ List.replicate (ll.length - k) []) ∧ (∀ g ∈ foot2 (.slice (some ⟨w.heap.size, 0, none⟩) ll.length ll.length) t', w.heap.size ≤ g)) ∧ Below w.heap.size w wr) (fun i _ => ll.length - (intOf i).toNat)
  case atStart => exact ⟨0, Nat.zero_le _, rfl, ⟨_, OwLL.made #[.slice none 0 0] rfl ll.length (by simp [maxLen]; omega) w FI 3 80, foot2_made _ _⟩, (Below.refl _ _).alloc (Nat.le_refl _) _⟩
  case round =>
    obtain ⟨i, hk, rfl, ⟨t', ho, hfo⟩, hb⟩ := hrel
    by_cases hlt : i < ll.length
    · have m1 : t[i]? = some (t[i]'(by rw [N1.out]; exact hlt)) := List.getElem?_eq_getElem _
      have r1 := h.inner i _ _ m1 (List.getElem?_eq_getElem hlt)
      obtain ⟨g1, o1, cap1, e1, b1, _, _, q1⟩ := (h.outer.below hb).at_ m1
      generalize t[i]'(by rw [N1.out]; exact hlt) = s1 at m1 r1 q1
      injection e1 with e11 e12 e13
      clear e12
      subst e11 e13
      have p0 : wr.cell? ⟨g1, o1 + i, none⟩ = some (.slice s1.a s1.len s1.cap) := by simpa [FS] using q1 0 _ rfl
      have hs1 : ll[i].length ≤ 1048576 := Nat.le_trans (le_szLL (List.getElem_mem hlt)) hs
      have hx := upd_get ll [] i hlt
      have hti : i < t'.length := by rw [ho.len]; exact (List.getElem?_eq_some_iff.1 hx).1
      have m2 : t'[i]? = some t'[i] := List.getElem?_eq_getElem hti
      have hz : w.heap.size < wr.heap.size := (World.ownsRow.lt ho.outer _ rfl).2
      have hf := ho.outer.frozen_
      have c0 : wr.cell? ⟨w.heap.size, i, none⟩ = some (.slice t'[i].a t'[i].len t'[i].cap) := by simpa [FS] using ho.outer.cell_ (j := 0) m2 (by decide)
      clear q1 m1 h
      go_wp2_with (go_at_call 117; refine (toSList_ct _ s1.val ll[i] (rd_up r1 hb) hs1).mono ?_; rintro e w1 ⟨s, rfl, hos, hfs, hb1⟩; obtain ⟨os1, d1, rfl⟩ := below_grows hb1; clear hb1)
      clear hf c0 p0
      go_roundw
      case rel =>
        have e := upd_step ll [] i hlt
        have hsv := (ho.grow_ os1 d1).set_sv m2 hos (fun b hb hm => by have a := hfs b hb; have c := ho.lt b hm; omega)
        rw [e] at hsv
        rw [← setCell_grow wr os1 d1 w.heap.size i (.slice s.a s.len s.cap) hz]
        refine ⟨i + 1, by omega, by go_num, ⟨_, hsv, fun b hb => ?_⟩, ?_⟩
        · rcases foot2_set hb with hb | hb
          · exact hfo b hb
          · have := hfs b hb
            omega
        · exact Below.setCell (below_grow_of hb hb.size _ _) (Nat.le_refl _) _
      case measure => simp [intOf]; omega
    · go_wp2
      go_ret
      obtain rfl : i = ll.length := by omega
      exact ⟨t', rfl, by simpa using ho, hfo, hb⟩

set_option maxHeartbeats 400000 in
theorem szSList_ct (w : World) (A : Option Addr) (n c : Nat) (k : Nat) (hn : n ≤ 9223372036854775807) (hk : k ≤ 1073741824) :
    Calls Tryz.prog 104 #[.agg #[.slice A n c], .int .i64 k] w fun e w' => e = .returned (.int .i64 (leftOf k n)) ∧ Below w.heap.size w w' := by
  by_cases h : n ≤ k
  · go_enter Tryz.func104, Tryz.ntmps104
    go_wp2
    go_ret
    exact ⟨ret_i64 ((leftOf_pos h).symm), by repeat (first | exact Below.refl _ _ | refine Below.alloc ?_ (by simp <;> omega) _ | refine below_grow_of ?_ (by simp <;> omega) _ _ | refine Below.drew ?_ | refine below_drewN ?_ _)⟩
  · go_enter Tryz.func104, Tryz.ntmps104
    go_wp2
    go_ret
    exact ⟨ret_i64 ((leftOf_neg h).symm), by repeat (first | exact Below.refl _ _ | refine Below.alloc ?_ (by simp <;> omega) _ | refine below_grow_of ?_ (by simp <;> omega) _ _ | refine Below.drew ?_ | refine below_drewN ?_ _)⟩

set_option maxHeartbeats 1000000 in
theorem szSListS_ct (w : World) (v : Value) (t : List SV) (ll : List (List Int)) (left : Nat) (h : RdLL FI w w.heap.size v t ll) (hl : left ≤ 1073741824) :
    Calls Tryz.prog 56 #[v, .int .i64 left] w fun e w' => e = .returned (.int .i64 (leftOf left (szLL ll))) ∧ Below w.heap.size w w' := by
  obtain ⟨A, c, hv, q1, q2, _⟩ := id h.outer
  have N1 : Hid (t.length = ll.length) := h.len
  rw [h.len] at hv q1
  have hlt0 : ll.length ≤ 9223372036854775807 := by unfold maxLen at q2; omega
  subst hv
  clear q1 q2
  by_cases hbig : ll.length ≤ left
  case neg =>
    go_enter Tryz.func56, Tryz.ntmps56
    go_wp2
    go_ret
    exact ⟨ret_i64 (leftOf_neg (by unfold szLL; omega)).symm, Below.refl _ _⟩
  go_enter Tryz.func56, Tryz.ntmps56
  go_wp2
  go_loopw [1, 5] (fun q i wr => ∃ i' : Nat, i' ≤ ll.length ∧ i = .int .i64 i' ∧ (∃ q' : Nat, q = .int .i64 q' ∧ q' + ll.length + totLL (ll.take i') = left) ∧ Below w.heap.size w wr) (fun _ i _ => ll.length - (intOf i).toNat)
  case atStart => exact ⟨0, Nat.zero_le _, rfl, ⟨left - ll.length, by go_num, by simp [totLL]; omega⟩, Below.refl _ _⟩
  case round =>
    obtain ⟨i, hi, rfl, ⟨q, rfl, hq⟩, hb⟩ := hrel
    have HQ := Hid.mk_ hq
    clear hq
    by_cases hlt : i < ll.length
    · have m1 : t[i]? = some (t[i]'(by rw [N1.out]; exact hlt)) := List.getElem?_eq_getElem _
      obtain ⟨g1, o1, cap1, e1, b1, _, _, q1⟩ := (h.outer.below hb).at_ m1
      have r1 := h.inner i _ _ m1 (List.getElem?_eq_getElem hlt)
      generalize t[i]'(by rw [N1.out]; exact hlt) = s1 at m1 q1 r1
      injection e1 with e11 e12 e13
      clear e12
      subst e11 e13
      obtain ⟨A', c', hv', u1, u2, _⟩ := r1
      have p0 : wr.cell? ⟨g1, o1 + i, none⟩ = some (.slice A' ll[i].length c') := by
        have := q1 0 _ rfl
        rw [← hv']
        simpa [FS, SV.val] using this
      have hn1 : ll[i].length ≤ 9223372036854775807 := by unfold maxLen at u2; omega
      have ht1 := totLL_take_succ ll i hlt
      have HT : Hid (totLL (ll.take (i + 1)) = totLL (ll.take i) + ll[i].length) := ht1
      have ht2 := totLL_take_le ll (i + 1)
      have hq2 : q ≤ 1073741824 := by have := HQ.out; omega
      have hsz : szLL ll = ll.length + totLL ll := rfl
      have HS := Hid.mk_ hsz
      clear q1 m1 h ht1 hv' hsz
      by_cases hge : ll[i].length ≤ q
      · have e0 := Hid.mk_ (leftOf_pos hge)
        go_wp2_with (go_at_call 104; refine (szSList_ct _ A' ll[i].length c' q hn1 hq2).mono ?_; rw [e0.out]; rintro e w1 ⟨rfl, hb1⟩; obtain ⟨os1, d1, rfl⟩ := below_grows hb1; clear hb1)
        go_roundw
        case rel => exact ⟨i + 1, by omega, by go_num, ⟨q - ll[i].length, by go_num, by have := HQ.out; rw [HT.out]; omega⟩, below_grow_of hb hb.size _ _⟩
        case measure => simp [intOf]; omega
      · have e0 := Hid.mk_ (leftOf_neg hge)
        go_wp2_with (go_at_call 104; refine (szSList_ct _ A' ll[i].length c' q hn1 hq2).mono ?_; rw [e0.out]; rintro e w1 ⟨rfl, hb1⟩; obtain ⟨os1, d1, rfl⟩ := below_grows hb1; clear hb1)
        go_ret
        exact ⟨ret_i64 (leftOf_neg (by rw [HS.out]; have := HQ.out; have := HT.out; omega)).symm, below_grow_of hb hb.size _ _⟩
    · go_wp2
      go_ret
      obtain rfl : i = ll.length := by omega
      have hq := HQ.out
      rw [List.take_length] at hq
      exact ⟨ret_i64 (by rw [leftOf_pos (by unfold szLL; unfold totLL at hq; omega)]; unfold szLL; unfold totLL at hq; omega), hb⟩
theorem toIntS_w (w : World) (K : SV) (l : List Int) (h : RdL FI w w.heap.size K.val l) (hs : l.length ≤ 1048576) :
    Calls Tryz.prog 70 #[.slice K.a K.len K.cap] w fun e w' => ∃ K' : SV, e = .returned (.slice K'.a K'.len K'.cap) ∧ OwL FI 3 w' K'.val l ∧ (∀ g ∈ foot1 K'.val, w.heap.size ≤ g) ∧ Below w.heap.size w w' :=
  (toIntS_ct w _ l h hs).mono fun _ _ ⟨a, b, c⟩ => ⟨⟨_, _, _⟩, a, b, fun g hg => by have := mem_foot1.1 hg; simp [SV.val, Value.ownBlock] at this; omega, c⟩
theorem eqIntS_w (w : World) (K1 K2 : SV) (l : List Int) (h1 : RdL FI w w.heap.size K1.val l) (h2 : RdL FI w w.heap.size K2.val l) (hs : l.length ≤ 1073741824) :
    Calls Tryz.prog 84 #[.slice K1.a K1.len K1.cap, .slice K2.a K2.len K2.cap] w fun e w' => e = .returned (.bool true) ∧ Below w.heap.size w w' := eqIntS_ct w _ _ l h1 h2 hs
theorem szIntS_w (w : World) (K : SV) (l : List Int) (k : Nat) (h : RdL FI w w.heap.size K.val l) (hk : k ≤ 1073741824) :
    Calls Tryz.prog 55 #[.slice K.a K.len K.cap, .int .i64 k] w fun e w' => e = .returned (.int .i64 (leftOf k l.length)) ∧ Below w.heap.size w w' := by
  have hl := RdL.len_ (show RdL FI w w.heap.size (.slice K.a K.len K.cap) l from h)
  rw [← hl.1]
  exact szIntS_ct w K.a K.len K.cap k hl.2 hk
theorem markIntS_w (w : World) (K : SV) (l : List Int) (k : Int) (h : OwL FI 3 w K.val l) (hk0 : 0 ≤ k) (hk1 : k + ((l.length : Nat) : Int) ≤ 4611686018427387904) :
    Calls Tryz.prog 86 #[.slice K.a K.len K.cap, .int .i64 k] w fun e w' => e = .returned (.int .i64 (k + ((l.length : Nat) : Int))) ∧ OwL FI 3 w' K.val (marks mkInt 1 l l.length k) ∧ Chg (foot1 K.val) w w' :=
  (markIntS_ct w _ l k h hk0 (by omega)).mono fun _ _ ⟨a, b, c, _⟩ => ⟨a.trans (ret_i64 (by omega)), b, Chg.of_grown c⟩
theorem toSListS_w (w : World) (K : SV) (t : List SV) (ll : List (List Int)) (h : RdLL FI w w.heap.size K.val t ll) (hs : szLL ll ≤ 1048576) :
    Calls Tryz.prog 71 #[.slice K.a K.len K.cap] w fun e w' => ∃ (K' : SV) (t' : List SV), e = .returned (.slice K'.a K'.len K'.cap) ∧ OwLL FI 3 80 w' K'.val t' ll ∧ (∀ g ∈ foot2 K'.val t', w.heap.size ≤ g) ∧ Below w.heap.size w w' :=
  (toSListS_ct w _ t ll h hs).mono fun _ _ ⟨t', a, b, c, d⟩ => ⟨⟨_, _, _⟩, t', a, b, c, d⟩
theorem eqSListS_w (w : World) (K1 : SV) (t1 : List SV) (K2 : SV) (t2 : List SV) (ll : List (List Int)) (h1 : RdLL FI w w.heap.size K1.val t1 ll) (h2 : RdLL FI w w.heap.size K2.val t2 ll) (hs : szLL ll ≤ 1073741824) :
    Calls Tryz.prog 85 #[.slice K1.a K1.len K1.cap, .slice K2.a K2.len K2.cap] w fun e w' => e = .returned (.bool true) ∧ Below w.heap.size w w' := eqSListS_ct w _ _ t1 t2 ll h1 h2 hs
theorem szSListS_w (w : World) (K : SV) (t : List SV) (ll : List (List Int)) (k : Nat) (h : RdLL FI w w.heap.size K.val t ll) (hk : k ≤ 1073741824) :
    Calls Tryz.prog 56 #[.slice K.a K.len K.cap, .int .i64 k] w fun e w' => e = .returned (.int .i64 (leftOf k (szLL ll))) ∧ Below w.heap.size w w' := szSListS_ct w _ t ll k h hk
theorem markSListS_w (w : World) (K : SV) (t : List SV) (ll : List (List Int)) (k : Int) (h : OwLL FI 3 80 w K.val t ll) (hk0 : 0 ≤ k) (hk1 : k + ((totLL ll : Nat) : Int) ≤ 4611686018427387904) :
    Calls Tryz.prog 87 #[.slice K.a K.len K.cap, .int .i64 k] w fun e w' => e = .returned (.int .i64 (k + ((totLL ll : Nat) : Int))) ∧ OwLL FI 3 80 w' K.val t (markLL mkInt 1 ll k) ∧ Chg (foot2 K.val t) w w' :=
  (markSListS_ct w _ t ll k h hk0 (by omega)).mono fun _ _ ⟨a, b, c⟩ => ⟨a.trans (ret_i64 (by omega)), b, c⟩
theorem heldIntS_w (w : World) (K : SV) (l : List Int) (k : Int) (h : RdL FI w w.heap.size K.val (marks mkInt 1 l l.length k)) (hk0 : 0 ≤ k) (hk1 : k + ((l.length : Nat) : Int) ≤ 4611686018427387904) :
    Calls Tryz.prog 88 #[.slice K.a K.len K.cap, .int .i64 k] w fun e w' => e = .returned (.int .i64 (k + ((l.length : Nat) : Int))) ∧ Below w.heap.size w w' :=
  (heldIntS_ct w _ l k h hk0 (by omega)).mono fun _ _ ⟨a, b⟩ => ⟨a.trans (ret_i64 (by omega)), b⟩
end Go.Proofs.YtpjijbonpjoamaaGreat

/-
  Heap: compared, made, measured, marked.
-/
namespace Go.Proofs.YtpjijbonpjoamaaGreat
open Go.RowKit

set_option maxRecDepth 100000 in
set_option maxHeartbeats 4000000 in
theorem toHeap_ct (w : World) (H : HHeap) (x : Heap) (h : RdHeap w w.heap.size H x) (hs : sizeHeap x ≤ 1048576) :
    Calls Tryz.prog 25 #[.agg #[.slice H.Bytes.a H.Bytes.len H.Bytes.cap, .slice H.Class.a H.Class.len H.Class.cap]] w fun e w' => ∃ H' : HHeap, e = .returned (H'.val x) ∧ OwHeap w' H' x ∧ (∀ g ∈ H'.foot, w.heap.size ≤ g) ∧ Below w.heap.size w w' := by
  have hs0 : x.Bytes.length ≤ 1048576 := by unfold sizeHeap at hs; omega
  have hs1 : x.Class.length ≤ 1048576 := by unfold sizeHeap at hs; omega
  clear hs
  have ba0 : Box (((w.alloc (.cells #[.slice H.Bytes.a H.Bytes.len H.Bytes.cap, .slice H.Class.a H.Class.len H.Class.cap] 24)).alloc (.cells #[.slice none 0 0, .slice none 0 0] 31)).alloc (.cells #[.slice none 0 0, .slice none 0 0] 31)) w.heap.size [.slice H.Bytes.a H.Bytes.len H.Bytes.cap, .slice H.Class.a H.Class.len H.Class.cap] := ((Box.new w #[.slice H.Bytes.a H.Bytes.len H.Bytes.cap, .slice H.Class.a H.Class.len H.Class.cap] 24).alloc _).alloc _
  have br0 : Box (((w.alloc (.cells #[.slice H.Bytes.a H.Bytes.len H.Bytes.cap, .slice H.Class.a H.Class.len H.Class.cap] 24)).alloc (.cells #[.slice none 0 0, .slice none 0 0] 31)).alloc (.cells #[.slice none 0 0, .slice none 0 0] 31)) (w.heap.size + 1) [.slice none 0 0, .slice none 0 0] := by have a := (Box.new (w.alloc (.cells #[.slice H.Bytes.a H.Bytes.len H.Bytes.cap, .slice H.Class.a H.Class.len H.Class.cap] 24)) #[.slice none 0 0, .slice none 0 0] 31).alloc (.cells #[.slice none 0 0, .slice none 0 0] 31); simpa using a
  have bo0 : Box (((w.alloc (.cells #[.slice H.Bytes.a H.Bytes.len H.Bytes.cap, .slice H.Class.a H.Class.len H.Class.cap] 24)).alloc (.cells #[.slice none 0 0, .slice none 0 0] 31)).alloc (.cells #[.slice none 0 0, .slice none 0 0] 31)) (w.heap.size + 1 + 1) [.slice none 0 0, .slice none 0 0] := by have a := Box.new ((w.alloc (.cells #[.slice H.Bytes.a H.Bytes.len H.Bytes.cap, .slice H.Class.a H.Class.len H.Class.cap] 24)).alloc (.cells #[.slice none 0 0, .slice none 0 0] 31)) #[.slice none 0 0, .slice none 0 0] 31; simpa using a
  have hB0 : Below w.heap.size w (((w.alloc (.cells #[.slice H.Bytes.a H.Bytes.len H.Bytes.cap, .slice H.Class.a H.Class.len H.Class.cap] 24)).alloc (.cells #[.slice none 0 0, .slice none 0 0] 31)).alloc (.cells #[.slice none 0 0, .slice none 0 0] 31)) := by repeat (first | exact Below.refl _ _ | refine Below.alloc ?_ (by simp <;> omega) _ | refine below_grow_of ?_ (by simp <;> omega) _ _ | refine Below.drew ?_ | refine below_drewN ?_ _)
  go_enter Tryz.func25, Tryz.ntmps25
  go_wp2_with fail
  refine (toIntS_w _ H.Bytes x.Bytes (rd_up h.Bytes (hB0.trans (Chg.below (F := [(w.heap.size + 1 + 1)]) (by (repeat (with_reducible refine Chg.set_ ?_ (by simp) _)); with_reducible exact Chg.refl _ _) (by first | exact hB0.size | omega) (by intro g hg; have := List.mem_singleton.1 hg; omega)))) hs0).mono ?_
  rintro e w1 ⟨K0, rfl, ho0, hf0, hb0⟩
  have hf0' : ∀ g ∈ foot1 K0.val, (w.heap.size + 1 + 1) < g := fun g hg => by have a := hf0 g hg; have b := bo0.lt; (try simp at a b); omega
  clear hf0
  have ba1 : Box w1 w.heap.size [.slice H.Bytes.a H.Bytes.len H.Bytes.cap, .slice H.Class.a H.Class.len H.Class.cap] := Box.below (ba0.chg (F := [(w.heap.size + 1 + 1)]) (by (repeat (with_reducible refine Chg.set_ ?_ (by simp) _)); with_reducible exact Chg.refl _ _) (by simp <;> omega)) hb0
  have br1 : Box w1 (w.heap.size + 1) [.slice none 0 0, .slice none 0 0] := Box.below (br0.chg (F := [(w.heap.size + 1 + 1)]) (by (repeat (with_reducible refine Chg.set_ ?_ (by simp) _)); with_reducible exact Chg.refl _ _) (by simp <;> omega)) hb0
  have bo1 : Box w1 (w.heap.size + 1 + 1) [.slice none 0 0, .slice none 0 0] := Box.below bo0 hb0
  have hC1 : Chg [(w.heap.size + 1 + 1)] (((w.alloc (.cells #[.slice H.Bytes.a H.Bytes.len H.Bytes.cap, .slice H.Class.a H.Class.len H.Class.cap] 24)).alloc (.cells #[.slice none 0 0, .slice none 0 0] 31)).alloc (.cells #[.slice none 0 0, .slice none 0 0] 31)) w1 := Chg.trans (by (repeat (with_reducible refine Chg.set_ ?_ (by simp) _)); with_reducible exact Chg.refl _ _) (Chg.of_below hb0)
  have hB1 : Below w.heap.size w w1 := hB0.trans (hC1.below hB0.size (by intro g hg; have := List.mem_singleton.1 hg; omega))
  clear hb0 ba0 br0 bo0 hB0 hC1
  have qa0 := ba1.cell 0 _ rfl
  have qa1 := ba1.cell 1 _ rfl
  have qo0 := bo1.cell 0 _ rfl
  have qo1 := bo1.cell 1 _ rfl
  have qf := bo1.fro
  have ql1 := ba1.lt
  have ql2 := bo1.lt
  go_wp2_with fail
  refine (toIntS_w _ H.Class x.Class (rd_up h.Class (hB1.trans (Chg.below (F := [(w.heap.size + 1 + 1)]) (by (repeat (with_reducible refine Chg.set_ ?_ (by simp) _)); with_reducible exact Chg.refl _ _) (by first | exact hB1.size | omega) (by intro g hg; have := List.mem_singleton.1 hg; omega)))) hs1).mono ?_
  rintro e w2 ⟨K1, rfl, ho1, hf1, hb1⟩
  clear qa0 qa1 qo0 qo1 qf ql1 ql2
  have hd0_1 : ∀ g ∈ foot1 K0.val, g ∉ foot1 K1.val := fun g hg hm => by have a := hf1 g hm; have b := foot_lt ho0 g hg; (try simp at a); omega
  have hf1' : ∀ g ∈ foot1 K1.val, (w.heap.size + 1 + 1) < g := fun g hg => by have a := hf1 g hg; have b := bo1.lt; (try simp at a b); omega
  clear hf1
  have ba2 : Box w2 w.heap.size [.slice H.Bytes.a H.Bytes.len H.Bytes.cap, .slice H.Class.a H.Class.len H.Class.cap] := Box.below (ba1.chg (F := [(w.heap.size + 1 + 1)]) (by (repeat (with_reducible refine Chg.set_ ?_ (by simp) _)); with_reducible exact Chg.refl _ _) (by simp <;> omega)) hb1
  have br2 : Box w2 (w.heap.size + 1) [.slice none 0 0, .slice none 0 0] := Box.below (br1.chg (F := [(w.heap.size + 1 + 1)]) (by (repeat (with_reducible refine Chg.set_ ?_ (by simp) _)); with_reducible exact Chg.refl _ _) (by simp <;> omega)) hb1
  have bo2 : Box w2 (w.heap.size + 1 + 1) [.slice K0.a K0.len K0.cap, .slice none 0 0] := Box.below (bo1.set 0 (.slice K0.a K0.len K0.cap)) hb1
  have hC2 : Chg [(w.heap.size + 1 + 1)] w1 w2 := Chg.trans (by (repeat (with_reducible refine Chg.set_ ?_ (by simp) _)); with_reducible exact Chg.refl _ _) (Chg.of_below hb1)
  have hB2 : Below w.heap.size w w2 := hB1.trans (hC2.below hB1.size (by intro g hg; have := List.mem_singleton.1 hg; omega))
  replace ho0 := ho0.chg hC2 (by intro g hg hm; have a := hf0' g hg; have b := List.mem_singleton.1 hm; omega)
  clear hb1 ba1 br1 bo1 hB1 hC2
  have qa0 := ba2.cell 0 _ rfl
  have qa1 := ba2.cell 1 _ rfl
  have qo0 := bo2.cell 0 _ rfl
  have qo1 := bo2.cell 1 _ rfl
  have qf := bo2.fro
  have qg := br2.fro
  have qr0 := br2.cell 0 _ rfl
  have qr1 := br2.cell 1 _ rfl
  have ql1 := ba2.lt
  have ql2 := bo2.lt
  go_wp2
  refine bodyPost_ret (v := .agg #[.slice K0.a K0.len K0.cap, .slice K1.a K1.len K1.cap]) (by simp [results, Tryz.results25, go_sem, *]) rfl ⟨⟨K0, K1⟩, rfl, ⟨?_, ?_, hd0_1⟩, ?_, ?_⟩
  · exact ho0.chg (F := [(w.heap.size + 1 + 1), (w.heap.size + 1)]) (by (repeat (with_reducible refine Chg.set_ ?_ (by simp) _)); with_reducible exact Chg.refl _ _) (by intro g hg hm; have a := hf0' g hg; simp at hm; omega)
  · exact ho1.chg (F := [(w.heap.size + 1 + 1), (w.heap.size + 1)]) (by (repeat (with_reducible refine Chg.set_ ?_ (by simp) _)); with_reducible exact Chg.refl _ _) (by intro g hg hm; have a := hf1' g hg; simp at hm; omega)
  · intro g hg
    rcases HHeap.mem_foot.1 hg with hg | hg
    · have a := hf0' g hg
      omega
    · have a := hf1' g hg
      omega
  · exact hB2.trans (Chg.below (F := [(w.heap.size + 1 + 1), (w.heap.size + 1)]) (by (repeat (with_reducible refine Chg.set_ ?_ (by simp) _)); with_reducible exact Chg.refl _ _) hB2.size (by intro g hg; simp at hg; omega))

set_option maxRecDepth 100000 in
set_option maxHeartbeats 4000000 in
theorem eqHeap_ct (w : World) (H1 H2 : HHeap) (x : Heap) (h1 : RdHeap w w.heap.size H1 x) (h2 : RdHeap w w.heap.size H2 x) (hs : sizeHeap x ≤ 1073741824) :
    Calls Tryz.prog 32 #[.agg #[.slice H1.Bytes.a H1.Bytes.len H1.Bytes.cap, .slice H1.Class.a H1.Class.len H1.Class.cap], .agg #[.slice H2.Bytes.a H2.Bytes.len H2.Bytes.cap, .slice H2.Class.a H2.Class.len H2.Class.cap]] w fun e w' => e = .returned (.bool true) ∧ Below w.heap.size w w' := by
  have hs0 : x.Bytes.length ≤ 1073741824 := by unfold sizeHeap at hs; omega
  have hs1 : x.Class.length ≤ 1073741824 := by unfold sizeHeap at hs; omega
  clear hs
  have ba0 : Box ((w.alloc (.cells #[.slice H1.Bytes.a H1.Bytes.len H1.Bytes.cap, .slice H1.Class.a H1.Class.len H1.Class.cap] 31)).alloc (.cells #[.slice H2.Bytes.a H2.Bytes.len H2.Bytes.cap, .slice H2.Class.a H2.Class.len H2.Class.cap] 31)) w.heap.size [.slice H1.Bytes.a H1.Bytes.len H1.Bytes.cap, .slice H1.Class.a H1.Class.len H1.Class.cap] := (Box.new w #[.slice H1.Bytes.a H1.Bytes.len H1.Bytes.cap, .slice H1.Class.a H1.Class.len H1.Class.cap] 31).alloc _
  have bb0 : Box ((w.alloc (.cells #[.slice H1.Bytes.a H1.Bytes.len H1.Bytes.cap, .slice H1.Class.a H1.Class.len H1.Class.cap] 31)).alloc (.cells #[.slice H2.Bytes.a H2.Bytes.len H2.Bytes.cap, .slice H2.Class.a H2.Class.len H2.Class.cap] 31)) (w.heap.size + 1) [.slice H2.Bytes.a H2.Bytes.len H2.Bytes.cap, .slice H2.Class.a H2.Class.len H2.Class.cap] := by have a := Box.new (w.alloc (.cells #[.slice H1.Bytes.a H1.Bytes.len H1.Bytes.cap, .slice H1.Class.a H1.Class.len H1.Class.cap] 31)) #[.slice H2.Bytes.a H2.Bytes.len H2.Bytes.cap, .slice H2.Class.a H2.Class.len H2.Class.cap] 31; simpa using a
  have hB0 : Below w.heap.size w ((w.alloc (.cells #[.slice H1.Bytes.a H1.Bytes.len H1.Bytes.cap, .slice H1.Class.a H1.Class.len H1.Class.cap] 31)).alloc (.cells #[.slice H2.Bytes.a H2.Bytes.len H2.Bytes.cap, .slice H2.Class.a H2.Class.len H2.Class.cap] 31)) := by repeat (first | exact Below.refl _ _ | refine Below.alloc ?_ (by simp <;> omega) _ | refine below_grow_of ?_ (by simp <;> omega) _ _ | refine Below.drew ?_ | refine below_drewN ?_ _)
  go_enter Tryz.func32, Tryz.ntmps32
  go_wp2_with fail
  refine (eqIntS_w _ H1.Bytes H2.Bytes x.Bytes (rd_up h1.Bytes hB0) (rd_up h2.Bytes hB0) hs0).mono ?_
  rintro e w1 ⟨rfl, hb0⟩
  have ba1 := ba0.below hb0
  have bb1 := bb0.below hb0
  have hB1 := hB0.trans (hb0.mono hB0.size)
  clear ba0 bb0 hb0 hB0
  have qa0 := ba1.cell 0 _ rfl
  have qb0 := bb1.cell 0 _ rfl
  have qa1 := ba1.cell 1 _ rfl
  have qb1 := bb1.cell 1 _ rfl
  go_wp2_with fail
  refine (eqIntS_w _ H1.Class H2.Class x.Class (rd_up h1.Class hB1) (rd_up h2.Class hB1) hs1).mono ?_
  rintro e w2 ⟨rfl, hb1⟩
  have ba2 := ba1.below hb1
  have bb2 := bb1.below hb1
  have hB2 := hB1.trans (hb1.mono hB1.size)
  clear ba1 bb1 hb1 hB1 qa0 qb0 qa1 qb1
  have qa0 := ba2.cell 0 _ rfl
  have qb0 := bb2.cell 0 _ rfl
  have qa1 := ba2.cell 1 _ rfl
  have qb1 := bb2.cell 1 _ rfl
  go_wp2
  go_ret
  exact ⟨rfl, hB2⟩

set_option maxRecDepth 100000 in
set_option maxHeartbeats 4000000 in
theorem szHeap_ct (w : World) (H : HHeap) (x : Heap) (k : Nat) (h : RdHeap w w.heap.size H x) (hk : k ≤ 1073741824) :
    Calls Tryz.prog 17 #[.agg #[.slice H.Bytes.a H.Bytes.len H.Bytes.cap, .slice H.Class.a H.Class.len H.Class.cap], .int .i64 k] w fun e w' => e = .returned (.int .i64 (leftOf k (sizeHeap x))) ∧ Below w.heap.size w w' := by
  have ba0 : Box (w.alloc (.cells #[.slice H.Bytes.a H.Bytes.len H.Bytes.cap, .slice H.Class.a H.Class.len H.Class.cap] 24)) w.heap.size [.slice H.Bytes.a H.Bytes.len H.Bytes.cap, .slice H.Class.a H.Class.len H.Class.cap] := Box.new w #[.slice H.Bytes.a H.Bytes.len H.Bytes.cap, .slice H.Class.a H.Class.len H.Class.cap] 24
  have hB0 : Below w.heap.size w (w.alloc (.cells #[.slice H.Bytes.a H.Bytes.len H.Bytes.cap, .slice H.Class.a H.Class.len H.Class.cap] 24)) := by repeat (first | exact Below.refl _ _ | refine Below.alloc ?_ (by simp <;> omega) _ | refine below_grow_of ?_ (by simp <;> omega) _ _ | refine Below.drew ?_ | refine below_drewN ?_ _)
  have HE := Hid.mk_ (show sizeHeap x = x.Bytes.length + x.Class.length from rfl)
  go_enter Tryz.func17, Tryz.ntmps17
  go_wp2_with fail
  refine (szIntS_w _ H.Bytes x.Bytes (k) (rd_up h.Bytes hB0) (by omega)).mono ?_
  rintro e w1 ⟨rfl, hb0⟩
  have ba1 := ba0.below hb0
  have hB1 := hB0.trans (hb0.mono hB0.size)
  clear ba0 hb0 hB0
  by_cases hh0 : x.Bytes.length ≤ k
  case neg =>
    rw [leftOf_neg hh0]
    have HX := Hid.mk_ (show leftOf k (sizeHeap x) = -1 by rw [HE.out]; exact leftOf_neg (by omega))
    clear hh0
    go_wp2
    go_ret
    exact ⟨ret_i64 HX.out.symm, hB1⟩
  rw [leftOf_nat hh0]
  have hn0 : ¬ (((k - x.Bytes.length : Nat) : Nat) : Int) < 0 := by omega
  have qa0 := ba1.cell 0 _ rfl
  have qa1 := ba1.cell 1 _ rfl
  go_wp2_with fail
  refine (szIntS_w _ H.Class x.Class (k - x.Bytes.length) (rd_up h.Class hB1) (by omega)).mono ?_
  rintro e w2 ⟨rfl, hb1⟩
  have ba2 := ba1.below hb1
  have hB2 := hB1.trans (hb1.mono hB1.size)
  clear ba1 hb1 hB1 qa0 qa1
  by_cases hh1 : x.Class.length ≤ k - x.Bytes.length
  case neg =>
    rw [leftOf_neg hh1]
    have HX := Hid.mk_ (show leftOf k (sizeHeap x) = -1 by rw [HE.out]; exact leftOf_neg (by omega))
    clear hh1
    go_wp2
    go_ret
    exact ⟨ret_i64 HX.out.symm, hB2⟩
  rw [leftOf_nat hh1]
  have hn1 : ¬ (((k - x.Bytes.length - x.Class.length : Nat) : Nat) : Int) < 0 := by omega
  have qa0 := ba2.cell 0 _ rfl
  have qa1 := ba2.cell 1 _ rfl
  have HX := Hid.mk_ (show leftOf k (sizeHeap x) = ((k - x.Bytes.length - x.Class.length : Nat) : Int) by rw [HE.out, leftOf_nat (by omega)]; omega)
  go_wp2
  go_ret
  exact ⟨ret_i64 HX.out.symm, hB2⟩

set_option maxRecDepth 100000 in
set_option maxHeartbeats 4000000 in
theorem markHeap_ct (w : World) (H : HHeap) (x : Heap) (k : Int) (h : OwHeap w H x) (hk0 : 0 ≤ k) (hk1 : k + (nMarkHeap x : Int) ≤ 4611686018427387904) :
    Calls Tryz.prog 34 #[.agg #[.slice H.Bytes.a H.Bytes.len H.Bytes.cap, .slice H.Class.a H.Class.len H.Class.cap], .int .i64 k] w fun e w' => e = .returned (.int .i64 (k + (nMarkHeap x : Int))) ∧ OwHeap w' H (markHeap x k) ∧ Chg H.foot w w' := by
  have ba0 : Box (w.alloc (.cells #[.slice H.Bytes.a H.Bytes.len H.Bytes.cap, .slice H.Class.a H.Class.len H.Class.cap] 31)) w.heap.size [.slice H.Bytes.a H.Bytes.len H.Bytes.cap, .slice H.Class.a H.Class.len H.Class.cap] := Box.new w #[.slice H.Bytes.a H.Bytes.len H.Bytes.cap, .slice H.Class.a H.Class.len H.Class.cap] 31
  have HE := Hid.mk_ (show nMarkHeap x = x.Bytes.length + x.Class.length from rfl)
  have HK := Hid.mk_ hk1
  clear hk1
  have hlt := h.lt
  have hl0 : ∀ g ∈ foot1 H.Bytes.val, g < w.heap.size := (foot_lt h.Bytes)
  have ho0 := h.Bytes.keep (w' := (w.alloc (.cells #[.slice H.Bytes.a H.Bytes.len H.Bytes.cap, .slice H.Class.a H.Class.len H.Class.cap] 31))) (fun g hg => Below.heap_alloc w _ g (hl0 g (mem_foot1.2 hg)))
  have hl1 : ∀ g ∈ foot1 H.Class.val, g < w.heap.size := (foot_lt h.Class)
  have ho1 := h.Class.keep (w' := (w.alloc (.cells #[.slice H.Bytes.a H.Bytes.len H.Bytes.cap, .slice H.Class.a H.Class.len H.Class.cap] 31))) (fun g hg => Below.heap_alloc w _ g (hl1 g (mem_foot1.2 hg)))
  have hC0 : Chg H.foot w (w.alloc (.cells #[.slice H.Bytes.a H.Bytes.len H.Bytes.cap, .slice H.Class.a H.Class.len H.Class.cap] 31)) := (Chg.refl _ w).alloc_ _
  go_enter Tryz.func34, Tryz.ntmps34
  go_wp2_with fail
  refine (markIntS_w _ H.Bytes x.Bytes (k) ho0 (by omega) (by have := HK.out; rw [HE.out] at this; omega)).mono ?_
  clear ho0
  rintro e w1 ⟨rfl, ho0, hc⟩
  have ba1 := ba0.chg hc (fun hm => Nat.lt_irrefl _ (hl0 _ hm))
  have hC1 : Chg H.foot w w1 := hC0.trans (hc.mono fun g hg => HHeap.mem_foot.2 (.inl hg))
  replace ho1 := ho1.chg hc (fun g hg hm => h.d01 g hm hg)
  clear ba0 hc hC0
  have qa0 := ba1.cell 0 _ rfl
  have qa1 := ba1.cell 1 _ rfl
  go_wp2_with fail
  refine (markIntS_w _ H.Class x.Class (k + ((x.Bytes.length : Nat) : Int)) ho1 (by omega) (by have := HK.out; rw [HE.out] at this; omega)).mono ?_
  clear ho1
  rintro e w2 ⟨rfl, ho1, hc⟩
  have ba2 := ba1.chg hc (fun hm => Nat.lt_irrefl _ (hl1 _ hm))
  have hC2 : Chg H.foot w w2 := hC1.trans (hc.mono fun g hg => HHeap.mem_foot.2 (.inr (hg)))
  replace ho0 := ho0.chg hc (fun g hg hm => h.d01 g hg hm)
  clear ba1 hc hC1 qa0 qa1
  have qa0 := ba2.cell 0 _ rfl
  have qa1 := ba2.cell 1 _ rfl
  go_wp2
  go_ret
  exact ⟨ret_i64 (by rw [HE.out]; omega), ⟨ho0, ho1, h.d01⟩, hC2⟩
end Go.Proofs.YtpjijbonpjoamaaGreat

/-
  Lists: compared, made, measured, marked.
-/
namespace Go.Proofs.YtpjijbonpjoamaaGreat
open Go.RowKit

set_option maxRecDepth 100000 in
set_option maxHeartbeats 4000000 in
theorem toLists_ct (w : World) (H : HLists) (x : Lists) (h : RdLists w w.heap.size H x) (hs : sizeLists x ≤ 1048576) :
    Calls Tryz.prog 26 #[.agg #[.slice H.Global.a H.Global.len H.Global.cap, .slice H.Own.a H.Own.len H.Own.cap]] w fun e w' => ∃ H' : HLists, e = .returned (H'.val x) ∧ OwLists w' H' x ∧ (∀ g ∈ H'.foot, w.heap.size ≤ g) ∧ Below w.heap.size w w' := by
  have hs0 : szLL x.Global ≤ 1048576 := by unfold sizeLists at hs; omega
  have hs1 : szLL x.Own ≤ 1048576 := by unfold sizeLists at hs; omega
  clear hs
  have ba0 : Box (((w.alloc (.cells #[.slice H.Global.a H.Global.len H.Global.cap, .slice H.Own.a H.Own.len H.Own.cap] 27)).alloc (.cells #[.slice none 0 0, .slice none 0 0] 34)).alloc (.cells #[.slice none 0 0, .slice none 0 0] 34)) w.heap.size [.slice H.Global.a H.Global.len H.Global.cap, .slice H.Own.a H.Own.len H.Own.cap] := ((Box.new w #[.slice H.Global.a H.Global.len H.Global.cap, .slice H.Own.a H.Own.len H.Own.cap] 27).alloc _).alloc _
  have br0 : Box (((w.alloc (.cells #[.slice H.Global.a H.Global.len H.Global.cap, .slice H.Own.a H.Own.len H.Own.cap] 27)).alloc (.cells #[.slice none 0 0, .slice none 0 0] 34)).alloc (.cells #[.slice none 0 0, .slice none 0 0] 34)) (w.heap.size + 1) [.slice none 0 0, .slice none 0 0] := by have a := (Box.new (w.alloc (.cells #[.slice H.Global.a H.Global.len H.Global.cap, .slice H.Own.a H.Own.len H.Own.cap] 27)) #[.slice none 0 0, .slice none 0 0] 34).alloc (.cells #[.slice none 0 0, .slice none 0 0] 34); simpa using a
  have bo0 : Box (((w.alloc (.cells #[.slice H.Global.a H.Global.len H.Global.cap, .slice H.Own.a H.Own.len H.Own.cap] 27)).alloc (.cells #[.slice none 0 0, .slice none 0 0] 34)).alloc (.cells #[.slice none 0 0, .slice none 0 0] 34)) (w.heap.size + 1 + 1) [.slice none 0 0, .slice none 0 0] := by have a := Box.new ((w.alloc (.cells #[.slice H.Global.a H.Global.len H.Global.cap, .slice H.Own.a H.Own.len H.Own.cap] 27)).alloc (.cells #[.slice none 0 0, .slice none 0 0] 34)) #[.slice none 0 0, .slice none 0 0] 34; simpa using a
  have hB0 : Below w.heap.size w (((w.alloc (.cells #[.slice H.Global.a H.Global.len H.Global.cap, .slice H.Own.a H.Own.len H.Own.cap] 27)).alloc (.cells #[.slice none 0 0, .slice none 0 0] 34)).alloc (.cells #[.slice none 0 0, .slice none 0 0] 34)) := by repeat (first | exact Below.refl _ _ | refine Below.alloc ?_ (by simp <;> omega) _ | refine below_grow_of ?_ (by simp <;> omega) _ _ | refine Below.drew ?_ | refine below_drewN ?_ _)
  go_enter Tryz.func26, Tryz.ntmps26
  go_wp2_with fail
  refine (toSListS_w _ H.Global H.GlobalT x.Global (rdLL_up h.Global (hB0.trans (Chg.below (F := [(w.heap.size + 1 + 1)]) (by (repeat (with_reducible refine Chg.set_ ?_ (by simp) _)); with_reducible exact Chg.refl _ _) (by first | exact hB0.size | omega) (by intro g hg; have := List.mem_singleton.1 hg; omega)))) hs0).mono ?_
  rintro e w1 ⟨K0, T0, rfl, ho0, hf0, hb0⟩
  have hf0' : ∀ g ∈ foot2 K0.val T0, (w.heap.size + 1 + 1) < g := fun g hg => by have a := hf0 g hg; have b := bo0.lt; (try simp at a b); omega
  clear hf0
  have ba1 : Box w1 w.heap.size [.slice H.Global.a H.Global.len H.Global.cap, .slice H.Own.a H.Own.len H.Own.cap] := Box.below (ba0.chg (F := [(w.heap.size + 1 + 1)]) (by (repeat (with_reducible refine Chg.set_ ?_ (by simp) _)); with_reducible exact Chg.refl _ _) (by simp <;> omega)) hb0
  have br1 : Box w1 (w.heap.size + 1) [.slice none 0 0, .slice none 0 0] := Box.below (br0.chg (F := [(w.heap.size + 1 + 1)]) (by (repeat (with_reducible refine Chg.set_ ?_ (by simp) _)); with_reducible exact Chg.refl _ _) (by simp <;> omega)) hb0
  have bo1 : Box w1 (w.heap.size + 1 + 1) [.slice none 0 0, .slice none 0 0] := Box.below bo0 hb0
  have hC1 : Chg [(w.heap.size + 1 + 1)] (((w.alloc (.cells #[.slice H.Global.a H.Global.len H.Global.cap, .slice H.Own.a H.Own.len H.Own.cap] 27)).alloc (.cells #[.slice none 0 0, .slice none 0 0] 34)).alloc (.cells #[.slice none 0 0, .slice none 0 0] 34)) w1 := Chg.trans (by (repeat (with_reducible refine Chg.set_ ?_ (by simp) _)); with_reducible exact Chg.refl _ _) (Chg.of_below hb0)
  have hB1 : Below w.heap.size w w1 := hB0.trans (hC1.below hB0.size (by intro g hg; have := List.mem_singleton.1 hg; omega))
  clear hb0 ba0 br0 bo0 hB0 hC1
  have qa0 := ba1.cell 0 _ rfl
  have qa1 := ba1.cell 1 _ rfl
  have qo0 := bo1.cell 0 _ rfl
  have qo1 := bo1.cell 1 _ rfl
  have qf := bo1.fro
  have ql1 := ba1.lt
  have ql2 := bo1.lt
  go_wp2_with fail
  refine (toSListS_w _ H.Own H.OwnT x.Own (rdLL_up h.Own (hB1.trans (Chg.below (F := [(w.heap.size + 1 + 1)]) (by (repeat (with_reducible refine Chg.set_ ?_ (by simp) _)); with_reducible exact Chg.refl _ _) (by first | exact hB1.size | omega) (by intro g hg; have := List.mem_singleton.1 hg; omega)))) hs1).mono ?_
  rintro e w2 ⟨K1, T1, rfl, ho1, hf1, hb1⟩
  clear qa0 qa1 qo0 qo1 qf ql1 ql2
  have hd0_1 : ∀ g ∈ foot2 K0.val T0, g ∉ foot2 K1.val T1 := fun g hg hm => by have a := hf1 g hm; have b := ho0.lt g hg; (try simp at a); omega
  have hf1' : ∀ g ∈ foot2 K1.val T1, (w.heap.size + 1 + 1) < g := fun g hg => by have a := hf1 g hg; have b := bo1.lt; (try simp at a b); omega
  clear hf1
  have ba2 : Box w2 w.heap.size [.slice H.Global.a H.Global.len H.Global.cap, .slice H.Own.a H.Own.len H.Own.cap] := Box.below (ba1.chg (F := [(w.heap.size + 1 + 1)]) (by (repeat (with_reducible refine Chg.set_ ?_ (by simp) _)); with_reducible exact Chg.refl _ _) (by simp <;> omega)) hb1
  have br2 : Box w2 (w.heap.size + 1) [.slice none 0 0, .slice none 0 0] := Box.below (br1.chg (F := [(w.heap.size + 1 + 1)]) (by (repeat (with_reducible refine Chg.set_ ?_ (by simp) _)); with_reducible exact Chg.refl _ _) (by simp <;> omega)) hb1
  have bo2 : Box w2 (w.heap.size + 1 + 1) [.slice K0.a K0.len K0.cap, .slice none 0 0] := Box.below (bo1.set 0 (.slice K0.a K0.len K0.cap)) hb1
  have hC2 : Chg [(w.heap.size + 1 + 1)] w1 w2 := Chg.trans (by (repeat (with_reducible refine Chg.set_ ?_ (by simp) _)); with_reducible exact Chg.refl _ _) (Chg.of_below hb1)
  have hB2 : Below w.heap.size w w2 := hB1.trans (hC2.below hB1.size (by intro g hg; have := List.mem_singleton.1 hg; omega))
  replace ho0 := ho0.chg hC2 (by intro g hg hm; have a := hf0' g hg; have b := List.mem_singleton.1 hm; omega)
  clear hb1 ba1 br1 bo1 hB1 hC2
  have qa0 := ba2.cell 0 _ rfl
  have qa1 := ba2.cell 1 _ rfl
  have qo0 := bo2.cell 0 _ rfl
  have qo1 := bo2.cell 1 _ rfl
  have qf := bo2.fro
  have qg := br2.fro
  have qr0 := br2.cell 0 _ rfl
  have qr1 := br2.cell 1 _ rfl
  have ql1 := ba2.lt
  have ql2 := bo2.lt
  go_wp2
  refine bodyPost_ret (v := .agg #[.slice K0.a K0.len K0.cap, .slice K1.a K1.len K1.cap]) (by simp [results, Tryz.results26, go_sem, *]) rfl ⟨⟨K0, T0, K1, T1⟩, rfl, ⟨?_, ?_, hd0_1⟩, ?_, ?_⟩
  · exact ho0.chg (F := [(w.heap.size + 1 + 1), (w.heap.size + 1)]) (by (repeat (with_reducible refine Chg.set_ ?_ (by simp) _)); with_reducible exact Chg.refl _ _) (by intro g hg hm; have a := hf0' g hg; simp at hm; omega)
  · exact ho1.chg (F := [(w.heap.size + 1 + 1), (w.heap.size + 1)]) (by (repeat (with_reducible refine Chg.set_ ?_ (by simp) _)); with_reducible exact Chg.refl _ _) (by intro g hg hm; have a := hf1' g hg; simp at hm; omega)
  · intro g hg
    rcases HLists.mem_foot.1 hg with hg | hg
    · have a := hf0' g hg
      omega
    · have a := hf1' g hg
      omega
  · exact hB2.trans (Chg.below (F := [(w.heap.size + 1 + 1), (w.heap.size + 1)]) (by (repeat (with_reducible refine Chg.set_ ?_ (by simp) _)); with_reducible exact Chg.refl _ _) hB2.size (by intro g hg; simp at hg; omega))

set_option maxRecDepth 100000 in
set_option maxHeartbeats 4000000 in
theorem eqLists_ct (w : World) (H1 H2 : HLists) (x : Lists) (h1 : RdLists w w.heap.size H1 x) (h2 : RdLists w w.heap.size H2 x) (hs : sizeLists x ≤ 1073741824) :
    Calls Tryz.prog 33 #[.agg #[.slice H1.Global.a H1.Global.len H1.Global.cap, .slice H1.Own.a H1.Own.len H1.Own.cap], .agg #[.slice H2.Global.a H2.Global.len H2.Global.cap, .slice H2.Own.a H2.Own.len H2.Own.cap]] w fun e w' => e = .returned (.bool true) ∧ Below w.heap.size w w' := by
  have hs0 : szLL x.Global ≤ 1073741824 := by unfold sizeLists at hs; omega
  have hs1 : szLL x.Own ≤ 1073741824 := by unfold sizeLists at hs; omega
  clear hs
  have ba0 : Box ((w.alloc (.cells #[.slice H1.Global.a H1.Global.len H1.Global.cap, .slice H1.Own.a H1.Own.len H1.Own.cap] 34)).alloc (.cells #[.slice H2.Global.a H2.Global.len H2.Global.cap, .slice H2.Own.a H2.Own.len H2.Own.cap] 34)) w.heap.size [.slice H1.Global.a H1.Global.len H1.Global.cap, .slice H1.Own.a H1.Own.len H1.Own.cap] := (Box.new w #[.slice H1.Global.a H1.Global.len H1.Global.cap, .slice H1.Own.a H1.Own.len H1.Own.cap] 34).alloc _
  have bb0 : Box ((w.alloc (.cells #[.slice H1.Global.a H1.Global.len H1.Global.cap, .slice H1.Own.a H1.Own.len H1.Own.cap] 34)).alloc (.cells #[.slice H2.Global.a H2.Global.len H2.Global.cap, .slice H2.Own.a H2.Own.len H2.Own.cap] 34)) (w.heap.size + 1) [.slice H2.Global.a H2.Global.len H2.Global.cap, .slice H2.Own.a H2.Own.len H2.Own.cap] := by have a := Box.new (w.alloc (.cells #[.slice H1.Global.a H1.Global.len H1.Global.cap, .slice H1.Own.a H1.Own.len H1.Own.cap] 34)) #[.slice H2.Global.a H2.Global.len H2.Global.cap, .slice H2.Own.a H2.Own.len H2.Own.cap] 34; simpa using a
  have hB0 : Below w.heap.size w ((w.alloc (.cells #[.slice H1.Global.a H1.Global.len H1.Global.cap, .slice H1.Own.a H1.Own.len H1.Own.cap] 34)).alloc (.cells #[.slice H2.Global.a H2.Global.len H2.Global.cap, .slice H2.Own.a H2.Own.len H2.Own.cap] 34)) := by repeat (first | exact Below.refl _ _ | refine Below.alloc ?_ (by simp <;> omega) _ | refine below_grow_of ?_ (by simp <;> omega) _ _ | refine Below.drew ?_ | refine below_drewN ?_ _)
  go_enter Tryz.func33, Tryz.ntmps33
  go_wp2_with fail
  refine (eqSListS_w _ H1.Global H1.GlobalT H2.Global H2.GlobalT x.Global (rdLL_up h1.Global hB0) (rdLL_up h2.Global hB0) hs0).mono ?_
  rintro e w1 ⟨rfl, hb0⟩
  have ba1 := ba0.below hb0
  have bb1 := bb0.below hb0
  have hB1 := hB0.trans (hb0.mono hB0.size)
  clear ba0 bb0 hb0 hB0
  have qa0 := ba1.cell 0 _ rfl
  have qb0 := bb1.cell 0 _ rfl
  have qa1 := ba1.cell 1 _ rfl
  have qb1 := bb1.cell 1 _ rfl
  go_wp2_with fail
  refine (eqSListS_w _ H1.Own H1.OwnT H2.Own H2.OwnT x.Own (rdLL_up h1.Own hB1) (rdLL_up h2.Own hB1) hs1).mono ?_
  rintro e w2 ⟨rfl, hb1⟩
  have ba2 := ba1.below hb1
  have bb2 := bb1.below hb1
  have hB2 := hB1.trans (hb1.mono hB1.size)
  clear ba1 bb1 hb1 hB1 qa0 qb0 qa1 qb1
  have qa0 := ba2.cell 0 _ rfl
  have qb0 := bb2.cell 0 _ rfl
  have qa1 := ba2.cell 1 _ rfl
  have qb1 := bb2.cell 1 _ rfl
  go_wp2
  go_ret
  exact ⟨rfl, hB2⟩

set_option maxRecDepth 100000 in
set_option maxHeartbeats 4000000 in
theorem szLists_ct (w : World) (H : HLists) (x : Lists) (k : Nat) (h : RdLists w w.heap.size H x) (hk : k ≤ 1073741824) :
    Calls Tryz.prog 18 #[.agg #[.slice H.Global.a H.Global.len H.Global.cap, .slice H.Own.a H.Own.len H.Own.cap], .int .i64 k] w fun e w' => e = .returned (.int .i64 (leftOf k (sizeLists x))) ∧ Below w.heap.size w w' := by
  have ba0 : Box (w.alloc (.cells #[.slice H.Global.a H.Global.len H.Global.cap, .slice H.Own.a H.Own.len H.Own.cap] 27)) w.heap.size [.slice H.Global.a H.Global.len H.Global.cap, .slice H.Own.a H.Own.len H.Own.cap] := Box.new w #[.slice H.Global.a H.Global.len H.Global.cap, .slice H.Own.a H.Own.len H.Own.cap] 27
  have hB0 : Below w.heap.size w (w.alloc (.cells #[.slice H.Global.a H.Global.len H.Global.cap, .slice H.Own.a H.Own.len H.Own.cap] 27)) := by repeat (first | exact Below.refl _ _ | refine Below.alloc ?_ (by simp <;> omega) _ | refine below_grow_of ?_ (by simp <;> omega) _ _ | refine Below.drew ?_ | refine below_drewN ?_ _)
  have HE := Hid.mk_ (show sizeLists x = szLL x.Global + szLL x.Own from rfl)
  go_enter Tryz.func18, Tryz.ntmps18
  go_wp2_with fail
  refine (szSListS_w _ H.Global H.GlobalT x.Global (k) (rdLL_up h.Global hB0) (by omega)).mono ?_
  rintro e w1 ⟨rfl, hb0⟩
  have ba1 := ba0.below hb0
  have hB1 := hB0.trans (hb0.mono hB0.size)
  clear ba0 hb0 hB0
  by_cases hh0 : szLL x.Global ≤ k
  case neg =>
    rw [leftOf_neg hh0]
    have HX := Hid.mk_ (show leftOf k (sizeLists x) = -1 by rw [HE.out]; exact leftOf_neg (by omega))
    clear hh0
    go_wp2
    go_ret
    exact ⟨ret_i64 HX.out.symm, hB1⟩
  rw [leftOf_nat hh0]
  have hn0 : ¬ (((k - szLL x.Global : Nat) : Nat) : Int) < 0 := by omega
  have qa0 := ba1.cell 0 _ rfl
  have qa1 := ba1.cell 1 _ rfl
  go_wp2_with fail
  refine (szSListS_w _ H.Own H.OwnT x.Own (k - szLL x.Global) (rdLL_up h.Own hB1) (by omega)).mono ?_
  rintro e w2 ⟨rfl, hb1⟩
  have ba2 := ba1.below hb1
  have hB2 := hB1.trans (hb1.mono hB1.size)
  clear ba1 hb1 hB1 qa0 qa1
  by_cases hh1 : szLL x.Own ≤ k - szLL x.Global
  case neg =>
    rw [leftOf_neg hh1]
    have HX := Hid.mk_ (show leftOf k (sizeLists x) = -1 by rw [HE.out]; exact leftOf_neg (by omega))
    clear hh1
    go_wp2
    go_ret
    exact ⟨ret_i64 HX.out.symm, hB2⟩
  rw [leftOf_nat hh1]
  have hn1 : ¬ (((k - szLL x.Global - szLL x.Own : Nat) : Nat) : Int) < 0 := by omega
  have qa0 := ba2.cell 0 _ rfl
  have qa1 := ba2.cell 1 _ rfl
  have HX := Hid.mk_ (show leftOf k (sizeLists x) = ((k - szLL x.Global - szLL x.Own : Nat) : Int) by rw [HE.out, leftOf_nat (by omega)]; omega)
  go_wp2
  go_ret
  exact ⟨ret_i64 HX.out.symm, hB2⟩

set_option maxRecDepth 100000 in
set_option maxHeartbeats 4000000 in
theorem markLists_ct (w : World) (H : HLists) (x : Lists) (k : Int) (h : OwLists w H x) (hk0 : 0 ≤ k) (hk1 : k + (nMarkLists x : Int) ≤ 4611686018427387904) :
    Calls Tryz.prog 35 #[.agg #[.slice H.Global.a H.Global.len H.Global.cap, .slice H.Own.a H.Own.len H.Own.cap], .int .i64 k] w fun e w' => e = .returned (.int .i64 (k + (nMarkLists x : Int))) ∧ OwLists w' H (markLists x k) ∧ Chg H.foot w w' := by
  have ba0 : Box (w.alloc (.cells #[.slice H.Global.a H.Global.len H.Global.cap, .slice H.Own.a H.Own.len H.Own.cap] 34)) w.heap.size [.slice H.Global.a H.Global.len H.Global.cap, .slice H.Own.a H.Own.len H.Own.cap] := Box.new w #[.slice H.Global.a H.Global.len H.Global.cap, .slice H.Own.a H.Own.len H.Own.cap] 34
  have HE := Hid.mk_ (show nMarkLists x = totLL x.Global + totLL x.Own from rfl)
  have HK := Hid.mk_ hk1
  clear hk1
  have hlt := h.lt
  have hl0 : ∀ g ∈ foot2 H.Global.val H.GlobalT, g < w.heap.size := h.Global.lt
  have ho0 := h.Global.keep (w' := (w.alloc (.cells #[.slice H.Global.a H.Global.len H.Global.cap, .slice H.Own.a H.Own.len H.Own.cap] 34))) (fun g hg => Below.heap_alloc w _ g (hl0 g hg))
  have hl1 : ∀ g ∈ foot2 H.Own.val H.OwnT, g < w.heap.size := h.Own.lt
  have ho1 := h.Own.keep (w' := (w.alloc (.cells #[.slice H.Global.a H.Global.len H.Global.cap, .slice H.Own.a H.Own.len H.Own.cap] 34))) (fun g hg => Below.heap_alloc w _ g (hl1 g hg))
  have hC0 : Chg H.foot w (w.alloc (.cells #[.slice H.Global.a H.Global.len H.Global.cap, .slice H.Own.a H.Own.len H.Own.cap] 34)) := (Chg.refl _ w).alloc_ _
  go_enter Tryz.func35, Tryz.ntmps35
  go_wp2_with fail
  refine (markSListS_w _ H.Global H.GlobalT x.Global (k) ho0 (by omega) (by have := HK.out; rw [HE.out] at this; omega)).mono ?_
  clear ho0
  rintro e w1 ⟨rfl, ho0, hc⟩
  have ba1 := ba0.chg hc (fun hm => Nat.lt_irrefl _ (hl0 _ hm))
  have hC1 : Chg H.foot w w1 := hC0.trans (hc.mono fun g hg => HLists.mem_foot.2 (.inl hg))
  replace ho1 := ho1.chg hc (fun g hg hm => h.d01 g hm hg)
  clear ba0 hc hC0
  have qa0 := ba1.cell 0 _ rfl
  have qa1 := ba1.cell 1 _ rfl
  go_wp2_with fail
  refine (markSListS_w _ H.Own H.OwnT x.Own (k + ((totLL x.Global : Nat) : Int)) ho1 (by omega) (by have := HK.out; rw [HE.out] at this; omega)).mono ?_
  clear ho1
  rintro e w2 ⟨rfl, ho1, hc⟩
  have ba2 := ba1.chg hc (fun hm => Nat.lt_irrefl _ (hl1 _ hm))
  have hC2 : Chg H.foot w w2 := hC1.trans (hc.mono fun g hg => HLists.mem_foot.2 (.inr (hg)))
  replace ho0 := ho0.chg hc (fun g hg hm => h.d01 g hg hm)
  clear ba1 hc hC1 qa0 qa1
  have qa0 := ba2.cell 0 _ rfl
  have qa1 := ba2.cell 1 _ rfl
  go_wp2
  go_ret
  exact ⟨ret_i64 (by rw [HE.out]; omega), ⟨ho0, ho1, h.d01⟩, hC2⟩
end Go.Proofs.YtpjijbonpjoamaaGreat

/-
  Mem: compared, made, measured, marked.
-/
namespace Go.Proofs.YtpjijbonpjoamaaGreat
open Go.RowKit

set_option maxRecDepth 100000 in
set_option maxHeartbeats 4000000 in
theorem toMem_ct (w : World) (H : HMem) (x : Mem) (h : RdMem w w.heap.size H x) (hs : sizeMem x ≤ 1048576) :
    Calls Tryz.prog 8 #[.agg #[.slice H.Heap.Bytes.a H.Heap.Bytes.len H.Heap.Bytes.cap, .slice H.Heap.Class.a H.Heap.Class.len H.Heap.Class.cap, .slice H.Lists.Global.a H.Lists.Global.len H.Lists.Global.cap, .slice H.Lists.Own.a H.Lists.Own.len H.Lists.Own.cap]] w fun e w' => ∃ H' : HMem, e = .returned (H'.val x) ∧ OwMem w' H' x ∧ (∀ g ∈ H'.foot, w.heap.size ≤ g) ∧ Below w.heap.size w w' := by
  have hs0 : sizeHeap x.Heap ≤ 1048576 := by unfold sizeMem at hs; omega
  have hs1 : sizeLists x.Lists ≤ 1048576 := by unfold sizeMem at hs; omega
  clear hs
  have ba0 : Box (((w.alloc (.cells #[.slice H.Heap.Bytes.a H.Heap.Bytes.len H.Heap.Bytes.cap, .slice H.Heap.Class.a H.Heap.Class.len H.Heap.Class.cap, .slice H.Lists.Global.a H.Lists.Global.len H.Lists.Global.cap, .slice H.Lists.Own.a H.Lists.Own.len H.Lists.Own.cap] 29)).alloc (.cells #[.slice none 0 0, .slice none 0 0, .slice none 0 0, .slice none 0 0] 36)).alloc (.cells #[.slice none 0 0, .slice none 0 0, .slice none 0 0, .slice none 0 0] 36)) w.heap.size [.slice H.Heap.Bytes.a H.Heap.Bytes.len H.Heap.Bytes.cap, .slice H.Heap.Class.a H.Heap.Class.len H.Heap.Class.cap, .slice H.Lists.Global.a H.Lists.Global.len H.Lists.Global.cap, .slice H.Lists.Own.a H.Lists.Own.len H.Lists.Own.cap] := ((Box.new w #[.slice H.Heap.Bytes.a H.Heap.Bytes.len H.Heap.Bytes.cap, .slice H.Heap.Class.a H.Heap.Class.len H.Heap.Class.cap, .slice H.Lists.Global.a H.Lists.Global.len H.Lists.Global.cap, .slice H.Lists.Own.a H.Lists.Own.len H.Lists.Own.cap] 29).alloc _).alloc _
  have br0 : Box (((w.alloc (.cells #[.slice H.Heap.Bytes.a H.Heap.Bytes.len H.Heap.Bytes.cap, .slice H.Heap.Class.a H.Heap.Class.len H.Heap.Class.cap, .slice H.Lists.Global.a H.Lists.Global.len H.Lists.Global.cap, .slice H.Lists.Own.a H.Lists.Own.len H.Lists.Own.cap] 29)).alloc (.cells #[.slice none 0 0, .slice none 0 0, .slice none 0 0, .slice none 0 0] 36)).alloc (.cells #[.slice none 0 0, .slice none 0 0, .slice none 0 0, .slice none 0 0] 36)) (w.heap.size + 1) [.slice none 0 0, .slice none 0 0, .slice none 0 0, .slice none 0 0] := by have a := (Box.new (w.alloc (.cells #[.slice H.Heap.Bytes.a H.Heap.Bytes.len H.Heap.Bytes.cap, .slice H.Heap.Class.a H.Heap.Class.len H.Heap.Class.cap, .slice H.Lists.Global.a H.Lists.Global.len H.Lists.Global.cap, .slice H.Lists.Own.a H.Lists.Own.len H.Lists.Own.cap] 29)) #[.slice none 0 0, .slice none 0 0, .slice none 0 0, .slice none 0 0] 36).alloc (.cells #[.slice none 0 0, .slice none 0 0, .slice none 0 0, .slice none 0 0] 36); simpa using a
  have bo0 : Box (((w.alloc (.cells #[.slice H.Heap.Bytes.a H.Heap.Bytes.len H.Heap.Bytes.cap, .slice H.Heap.Class.a H.Heap.Class.len H.Heap.Class.cap, .slice H.Lists.Global.a H.Lists.Global.len H.Lists.Global.cap, .slice H.Lists.Own.a H.Lists.Own.len H.Lists.Own.cap] 29)).alloc (.cells #[.slice none 0 0, .slice none 0 0, .slice none 0 0, .slice none 0 0] 36)).alloc (.cells #[.slice none 0 0, .slice none 0 0, .slice none 0 0, .slice none 0 0] 36)) (w.heap.size + 1 + 1) [.slice none 0 0, .slice none 0 0, .slice none 0 0, .slice none 0 0] := by have a := Box.new ((w.alloc (.cells #[.slice H.Heap.Bytes.a H.Heap.Bytes.len H.Heap.Bytes.cap, .slice H.Heap.Class.a H.Heap.Class.len H.Heap.Class.cap, .slice H.Lists.Global.a H.Lists.Global.len H.Lists.Global.cap, .slice H.Lists.Own.a H.Lists.Own.len H.Lists.Own.cap] 29)).alloc (.cells #[.slice none 0 0, .slice none 0 0, .slice none 0 0, .slice none 0 0] 36)) #[.slice none 0 0, .slice none 0 0, .slice none 0 0, .slice none 0 0] 36; simpa using a
  have hB0 : Below w.heap.size w (((w.alloc (.cells #[.slice H.Heap.Bytes.a H.Heap.Bytes.len H.Heap.Bytes.cap, .slice H.Heap.Class.a H.Heap.Class.len H.Heap.Class.cap, .slice H.Lists.Global.a H.Lists.Global.len H.Lists.Global.cap, .slice H.Lists.Own.a H.Lists.Own.len H.Lists.Own.cap] 29)).alloc (.cells #[.slice none 0 0, .slice none 0 0, .slice none 0 0, .slice none 0 0] 36)).alloc (.cells #[.slice none 0 0, .slice none 0 0, .slice none 0 0, .slice none 0 0] 36)) := by repeat (first | exact Below.refl _ _ | refine Below.alloc ?_ (by simp <;> omega) _ | refine below_grow_of ?_ (by simp <;> omega) _ _ | refine Below.drew ?_ | refine below_drewN ?_ _)
  go_enter Tryz.func8, Tryz.ntmps8
  go_wp2_with fail
  refine (toHeap_ct _ H.Heap x.Heap (rdHeap_up h.Heap (hB0.trans (Chg.below (F := [(w.heap.size + 1 + 1)]) (by (repeat (with_reducible refine Chg.set_ ?_ (by simp) _)); with_reducible exact Chg.refl _ _) (by first | exact hB0.size | omega) (by intro g hg; have := List.mem_singleton.1 hg; omega)))) hs0).mono ?_
  rintro e w1 ⟨K0, rfl, ho0, hf0, hb0⟩
  have hf0' : ∀ g ∈ K0.foot, (w.heap.size + 1 + 1) < g := fun g hg => by have a := hf0 g hg; have b := bo0.lt; (try simp at a b); omega
  clear hf0
  have ba1 : Box w1 w.heap.size [.slice H.Heap.Bytes.a H.Heap.Bytes.len H.Heap.Bytes.cap, .slice H.Heap.Class.a H.Heap.Class.len H.Heap.Class.cap, .slice H.Lists.Global.a H.Lists.Global.len H.Lists.Global.cap, .slice H.Lists.Own.a H.Lists.Own.len H.Lists.Own.cap] := Box.below (ba0.chg (F := [(w.heap.size + 1 + 1)]) (by (repeat (with_reducible refine Chg.set_ ?_ (by simp) _)); with_reducible exact Chg.refl _ _) (by simp <;> omega)) hb0
  have br1 : Box w1 (w.heap.size + 1) [.slice none 0 0, .slice none 0 0, .slice none 0 0, .slice none 0 0] := Box.below (br0.chg (F := [(w.heap.size + 1 + 1)]) (by (repeat (with_reducible refine Chg.set_ ?_ (by simp) _)); with_reducible exact Chg.refl _ _) (by simp <;> omega)) hb0
  have bo1 : Box w1 (w.heap.size + 1 + 1) [.slice none 0 0, .slice none 0 0, .slice none 0 0, .slice none 0 0] := Box.below bo0 hb0
  have hC1 : Chg [(w.heap.size + 1 + 1)] (((w.alloc (.cells #[.slice H.Heap.Bytes.a H.Heap.Bytes.len H.Heap.Bytes.cap, .slice H.Heap.Class.a H.Heap.Class.len H.Heap.Class.cap, .slice H.Lists.Global.a H.Lists.Global.len H.Lists.Global.cap, .slice H.Lists.Own.a H.Lists.Own.len H.Lists.Own.cap] 29)).alloc (.cells #[.slice none 0 0, .slice none 0 0, .slice none 0 0, .slice none 0 0] 36)).alloc (.cells #[.slice none 0 0, .slice none 0 0, .slice none 0 0, .slice none 0 0] 36)) w1 := Chg.trans (by (repeat (with_reducible refine Chg.set_ ?_ (by simp) _)); with_reducible exact Chg.refl _ _) (Chg.of_below hb0)
  have hB1 : Below w.heap.size w w1 := hB0.trans (hC1.below hB0.size (by intro g hg; have := List.mem_singleton.1 hg; omega))
  clear hb0 ba0 br0 bo0 hB0 hC1
  have qa0 := ba1.cell 0 _ rfl
  have qa1 := ba1.cell 1 _ rfl
  have qa2 := ba1.cell 2 _ rfl
  have qa3 := ba1.cell 3 _ rfl
  have qo0 := bo1.cell 0 _ rfl
  have qo1 := bo1.cell 1 _ rfl
  have qo2 := bo1.cell 2 _ rfl
  have qo3 := bo1.cell 3 _ rfl
  have qf := bo1.fro
  have ql1 := ba1.lt
  have ql2 := bo1.lt
  go_wp2_with fail
  refine (toLists_ct _ H.Lists x.Lists (rdLists_up h.Lists (hB1.trans (Chg.below (F := [(w.heap.size + 1 + 1)]) (by (repeat (with_reducible refine Chg.set_ ?_ (by simp) _)); with_reducible exact Chg.refl _ _) (by first | exact hB1.size | omega) (by intro g hg; have := List.mem_singleton.1 hg; omega)))) hs1).mono ?_
  rintro e w2 ⟨K1, rfl, ho1, hf1, hb1⟩
  clear qa0 qa1 qa2 qa3 qo0 qo1 qo2 qo3 qf ql1 ql2
  have hd0_1 : ∀ g ∈ K0.foot, g ∉ K1.foot := fun g hg hm => by have a := hf1 g hm; have b := ho0.lt g hg; (try simp at a); omega
  have hf1' : ∀ g ∈ K1.foot, (w.heap.size + 1 + 1) < g := fun g hg => by have a := hf1 g hg; have b := bo1.lt; (try simp at a b); omega
  clear hf1
  have ba2 : Box w2 w.heap.size [.slice H.Heap.Bytes.a H.Heap.Bytes.len H.Heap.Bytes.cap, .slice H.Heap.Class.a H.Heap.Class.len H.Heap.Class.cap, .slice H.Lists.Global.a H.Lists.Global.len H.Lists.Global.cap, .slice H.Lists.Own.a H.Lists.Own.len H.Lists.Own.cap] := Box.below (ba1.chg (F := [(w.heap.size + 1 + 1)]) (by (repeat (with_reducible refine Chg.set_ ?_ (by simp) _)); with_reducible exact Chg.refl _ _) (by simp <;> omega)) hb1
  have br2 : Box w2 (w.heap.size + 1) [.slice none 0 0, .slice none 0 0, .slice none 0 0, .slice none 0 0] := Box.below (br1.chg (F := [(w.heap.size + 1 + 1)]) (by (repeat (with_reducible refine Chg.set_ ?_ (by simp) _)); with_reducible exact Chg.refl _ _) (by simp <;> omega)) hb1
  have bo2 : Box w2 (w.heap.size + 1 + 1) [.slice K0.Bytes.a K0.Bytes.len K0.Bytes.cap, .slice K0.Class.a K0.Class.len K0.Class.cap, .slice none 0 0, .slice none 0 0] := Box.below ((bo1.set 0 (.slice K0.Bytes.a K0.Bytes.len K0.Bytes.cap)).set 1 (.slice K0.Class.a K0.Class.len K0.Class.cap)) hb1
  have hC2 : Chg [(w.heap.size + 1 + 1)] w1 w2 := Chg.trans (by (repeat (with_reducible refine Chg.set_ ?_ (by simp) _)); with_reducible exact Chg.refl _ _) (Chg.of_below hb1)
  have hB2 : Below w.heap.size w w2 := hB1.trans (hC2.below hB1.size (by intro g hg; have := List.mem_singleton.1 hg; omega))
  replace ho0 := ho0.chg hC2 (by intro g hg hm; have a := hf0' g hg; have b := List.mem_singleton.1 hm; omega)
  clear hb1 ba1 br1 bo1 hB1 hC2
  have qa0 := ba2.cell 0 _ rfl
  have qa1 := ba2.cell 1 _ rfl
  have qa2 := ba2.cell 2 _ rfl
  have qa3 := ba2.cell 3 _ rfl
  have qo0 := bo2.cell 0 _ rfl
  have qo1 := bo2.cell 1 _ rfl
  have qo2 := bo2.cell 2 _ rfl
  have qo3 := bo2.cell 3 _ rfl
  have qf := bo2.fro
  have qg := br2.fro
  have qr0 := br2.cell 0 _ rfl
  have qr1 := br2.cell 1 _ rfl
  have qr2 := br2.cell 2 _ rfl
  have qr3 := br2.cell 3 _ rfl
  have ql1 := ba2.lt
  have ql2 := bo2.lt
  go_wp2
  refine bodyPost_ret (v := .agg #[.slice K0.Bytes.a K0.Bytes.len K0.Bytes.cap, .slice K0.Class.a K0.Class.len K0.Class.cap, .slice K1.Global.a K1.Global.len K1.Global.cap, .slice K1.Own.a K1.Own.len K1.Own.cap]) (by simp [results, Tryz.results8, go_sem, *]) rfl ⟨⟨K0, K1⟩, rfl, ⟨?_, ?_, hd0_1⟩, ?_, ?_⟩
  · exact ho0.chg (F := [(w.heap.size + 1 + 1), (w.heap.size + 1)]) (by (repeat (with_reducible refine Chg.set_ ?_ (by simp) _)); with_reducible exact Chg.refl _ _) (by intro g hg hm; have a := hf0' g hg; simp at hm; omega)
  · exact ho1.chg (F := [(w.heap.size + 1 + 1), (w.heap.size + 1)]) (by (repeat (with_reducible refine Chg.set_ ?_ (by simp) _)); with_reducible exact Chg.refl _ _) (by intro g hg hm; have a := hf1' g hg; simp at hm; omega)
  · intro g hg
    rcases HMem.mem_foot.1 hg with hg | hg
    · have a := hf0' g hg
      omega
    · have a := hf1' g hg
      omega
  · exact hB2.trans (Chg.below (F := [(w.heap.size + 1 + 1), (w.heap.size + 1)]) (by (repeat (with_reducible refine Chg.set_ ?_ (by simp) _)); with_reducible exact Chg.refl _ _) hB2.size (by intro g hg; simp at hg; omega))

set_option maxRecDepth 100000 in
set_option maxHeartbeats 4000000 in
theorem eqMem_ct (w : World) (H1 H2 : HMem) (x : Mem) (h1 : RdMem w w.heap.size H1 x) (h2 : RdMem w w.heap.size H2 x) (hs : sizeMem x ≤ 1073741824) :
    Calls Tryz.prog 10 #[.agg #[.slice H1.Heap.Bytes.a H1.Heap.Bytes.len H1.Heap.Bytes.cap, .slice H1.Heap.Class.a H1.Heap.Class.len H1.Heap.Class.cap, .slice H1.Lists.Global.a H1.Lists.Global.len H1.Lists.Global.cap, .slice H1.Lists.Own.a H1.Lists.Own.len H1.Lists.Own.cap], .agg #[.slice H2.Heap.Bytes.a H2.Heap.Bytes.len H2.Heap.Bytes.cap, .slice H2.Heap.Class.a H2.Heap.Class.len H2.Heap.Class.cap, .slice H2.Lists.Global.a H2.Lists.Global.len H2.Lists.Global.cap, .slice H2.Lists.Own.a H2.Lists.Own.len H2.Lists.Own.cap]] w fun e w' => e = .returned (.bool true) ∧ Below w.heap.size w w' := by
  have hs0 : sizeHeap x.Heap ≤ 1073741824 := by unfold sizeMem at hs; omega
  have hs1 : sizeLists x.Lists ≤ 1073741824 := by unfold sizeMem at hs; omega
  clear hs
  have ba0 : Box ((w.alloc (.cells #[.slice H1.Heap.Bytes.a H1.Heap.Bytes.len H1.Heap.Bytes.cap, .slice H1.Heap.Class.a H1.Heap.Class.len H1.Heap.Class.cap, .slice H1.Lists.Global.a H1.Lists.Global.len H1.Lists.Global.cap, .slice H1.Lists.Own.a H1.Lists.Own.len H1.Lists.Own.cap] 36)).alloc (.cells #[.slice H2.Heap.Bytes.a H2.Heap.Bytes.len H2.Heap.Bytes.cap, .slice H2.Heap.Class.a H2.Heap.Class.len H2.Heap.Class.cap, .slice H2.Lists.Global.a H2.Lists.Global.len H2.Lists.Global.cap, .slice H2.Lists.Own.a H2.Lists.Own.len H2.Lists.Own.cap] 36)) w.heap.size [.slice H1.Heap.Bytes.a H1.Heap.Bytes.len H1.Heap.Bytes.cap, .slice H1.Heap.Class.a H1.Heap.Class.len H1.Heap.Class.cap, .slice H1.Lists.Global.a H1.Lists.Global.len H1.Lists.Global.cap, .slice H1.Lists.Own.a H1.Lists.Own.len H1.Lists.Own.cap] := (Box.new w #[.slice H1.Heap.Bytes.a H1.Heap.Bytes.len H1.Heap.Bytes.cap, .slice H1.Heap.Class.a H1.Heap.Class.len H1.Heap.Class.cap, .slice H1.Lists.Global.a H1.Lists.Global.len H1.Lists.Global.cap, .slice H1.Lists.Own.a H1.Lists.Own.len H1.Lists.Own.cap] 36).alloc _
  have bb0 : Box ((w.alloc (.cells #[.slice H1.Heap.Bytes.a H1.Heap.Bytes.len H1.Heap.Bytes.cap, .slice H1.Heap.Class.a H1.Heap.Class.len H1.Heap.Class.cap, .slice H1.Lists.Global.a H1.Lists.Global.len H1.Lists.Global.cap, .slice H1.Lists.Own.a H1.Lists.Own.len H1.Lists.Own.cap] 36)).alloc (.cells #[.slice H2.Heap.Bytes.a H2.Heap.Bytes.len H2.Heap.Bytes.cap, .slice H2.Heap.Class.a H2.Heap.Class.len H2.Heap.Class.cap, .slice H2.Lists.Global.a H2.Lists.Global.len H2.Lists.Global.cap, .slice H2.Lists.Own.a H2.Lists.Own.len H2.Lists.Own.cap] 36)) (w.heap.size + 1) [.slice H2.Heap.Bytes.a H2.Heap.Bytes.len H2.Heap.Bytes.cap, .slice H2.Heap.Class.a H2.Heap.Class.len H2.Heap.Class.cap, .slice H2.Lists.Global.a H2.Lists.Global.len H2.Lists.Global.cap, .slice H2.Lists.Own.a H2.Lists.Own.len H2.Lists.Own.cap] := by have a := Box.new (w.alloc (.cells #[.slice H1.Heap.Bytes.a H1.Heap.Bytes.len H1.Heap.Bytes.cap, .slice H1.Heap.Class.a H1.Heap.Class.len H1.Heap.Class.cap, .slice H1.Lists.Global.a H1.Lists.Global.len H1.Lists.Global.cap, .slice H1.Lists.Own.a H1.Lists.Own.len H1.Lists.Own.cap] 36)) #[.slice H2.Heap.Bytes.a H2.Heap.Bytes.len H2.Heap.Bytes.cap, .slice H2.Heap.Class.a H2.Heap.Class.len H2.Heap.Class.cap, .slice H2.Lists.Global.a H2.Lists.Global.len H2.Lists.Global.cap, .slice H2.Lists.Own.a H2.Lists.Own.len H2.Lists.Own.cap] 36; simpa using a
  have hB0 : Below w.heap.size w ((w.alloc (.cells #[.slice H1.Heap.Bytes.a H1.Heap.Bytes.len H1.Heap.Bytes.cap, .slice H1.Heap.Class.a H1.Heap.Class.len H1.Heap.Class.cap, .slice H1.Lists.Global.a H1.Lists.Global.len H1.Lists.Global.cap, .slice H1.Lists.Own.a H1.Lists.Own.len H1.Lists.Own.cap] 36)).alloc (.cells #[.slice H2.Heap.Bytes.a H2.Heap.Bytes.len H2.Heap.Bytes.cap, .slice H2.Heap.Class.a H2.Heap.Class.len H2.Heap.Class.cap, .slice H2.Lists.Global.a H2.Lists.Global.len H2.Lists.Global.cap, .slice H2.Lists.Own.a H2.Lists.Own.len H2.Lists.Own.cap] 36)) := by repeat (first | exact Below.refl _ _ | refine Below.alloc ?_ (by simp <;> omega) _ | refine below_grow_of ?_ (by simp <;> omega) _ _ | refine Below.drew ?_ | refine below_drewN ?_ _)
  go_enter Tryz.func10, Tryz.ntmps10
  go_wp2_with fail
  refine (eqHeap_ct _ H1.Heap H2.Heap x.Heap (rdHeap_up h1.Heap hB0) (rdHeap_up h2.Heap hB0) hs0).mono ?_
  rintro e w1 ⟨rfl, hb0⟩
  have ba1 := ba0.below hb0
  have bb1 := bb0.below hb0
  have hB1 := hB0.trans (hb0.mono hB0.size)
  clear ba0 bb0 hb0 hB0
  have qa0 := ba1.cell 0 _ rfl
  have qb0 := bb1.cell 0 _ rfl
  have qa1 := ba1.cell 1 _ rfl
  have qb1 := bb1.cell 1 _ rfl
  have qa2 := ba1.cell 2 _ rfl
  have qb2 := bb1.cell 2 _ rfl
  have qa3 := ba1.cell 3 _ rfl
  have qb3 := bb1.cell 3 _ rfl
  go_wp2_with fail
  refine (eqLists_ct _ H1.Lists H2.Lists x.Lists (rdLists_up h1.Lists hB1) (rdLists_up h2.Lists hB1) hs1).mono ?_
  rintro e w2 ⟨rfl, hb1⟩
  have ba2 := ba1.below hb1
  have bb2 := bb1.below hb1
  have hB2 := hB1.trans (hb1.mono hB1.size)
  clear ba1 bb1 hb1 hB1 qa0 qb0 qa1 qb1 qa2 qb2 qa3 qb3
  have qa0 := ba2.cell 0 _ rfl
  have qb0 := bb2.cell 0 _ rfl
  have qa1 := ba2.cell 1 _ rfl
  have qb1 := bb2.cell 1 _ rfl
  have qa2 := ba2.cell 2 _ rfl
  have qb2 := bb2.cell 2 _ rfl
  have qa3 := ba2.cell 3 _ rfl
  have qb3 := bb2.cell 3 _ rfl
  go_wp2
  go_ret
  exact ⟨rfl, hB2⟩

set_option maxRecDepth 100000 in
set_option maxHeartbeats 4000000 in
theorem szMem_ct (w : World) (H : HMem) (x : Mem) (k : Nat) (h : RdMem w w.heap.size H x) (hk : k ≤ 1073741824) :
    Calls Tryz.prog 6 #[.agg #[.slice H.Heap.Bytes.a H.Heap.Bytes.len H.Heap.Bytes.cap, .slice H.Heap.Class.a H.Heap.Class.len H.Heap.Class.cap, .slice H.Lists.Global.a H.Lists.Global.len H.Lists.Global.cap, .slice H.Lists.Own.a H.Lists.Own.len H.Lists.Own.cap], .int .i64 k] w fun e w' => e = .returned (.int .i64 (leftOf k (sizeMem x))) ∧ Below w.heap.size w w' := by
  have ba0 : Box (w.alloc (.cells #[.slice H.Heap.Bytes.a H.Heap.Bytes.len H.Heap.Bytes.cap, .slice H.Heap.Class.a H.Heap.Class.len H.Heap.Class.cap, .slice H.Lists.Global.a H.Lists.Global.len H.Lists.Global.cap, .slice H.Lists.Own.a H.Lists.Own.len H.Lists.Own.cap] 29)) w.heap.size [.slice H.Heap.Bytes.a H.Heap.Bytes.len H.Heap.Bytes.cap, .slice H.Heap.Class.a H.Heap.Class.len H.Heap.Class.cap, .slice H.Lists.Global.a H.Lists.Global.len H.Lists.Global.cap, .slice H.Lists.Own.a H.Lists.Own.len H.Lists.Own.cap] := Box.new w #[.slice H.Heap.Bytes.a H.Heap.Bytes.len H.Heap.Bytes.cap, .slice H.Heap.Class.a H.Heap.Class.len H.Heap.Class.cap, .slice H.Lists.Global.a H.Lists.Global.len H.Lists.Global.cap, .slice H.Lists.Own.a H.Lists.Own.len H.Lists.Own.cap] 29
  have hB0 : Below w.heap.size w (w.alloc (.cells #[.slice H.Heap.Bytes.a H.Heap.Bytes.len H.Heap.Bytes.cap, .slice H.Heap.Class.a H.Heap.Class.len H.Heap.Class.cap, .slice H.Lists.Global.a H.Lists.Global.len H.Lists.Global.cap, .slice H.Lists.Own.a H.Lists.Own.len H.Lists.Own.cap] 29)) := by repeat (first | exact Below.refl _ _ | refine Below.alloc ?_ (by simp <;> omega) _ | refine below_grow_of ?_ (by simp <;> omega) _ _ | refine Below.drew ?_ | refine below_drewN ?_ _)
  have HE := Hid.mk_ (show sizeMem x = sizeHeap x.Heap + sizeLists x.Lists from rfl)
  go_enter Tryz.func6, Tryz.ntmps6
  go_wp2_with fail
  refine (szHeap_ct _ H.Heap x.Heap (k) (rdHeap_up h.Heap hB0) (by omega)).mono ?_
  rintro e w1 ⟨rfl, hb0⟩
  have ba1 := ba0.below hb0
  have hB1 := hB0.trans (hb0.mono hB0.size)
  clear ba0 hb0 hB0
  by_cases hh0 : sizeHeap x.Heap ≤ k
  case neg =>
    rw [leftOf_neg hh0]
    have HX := Hid.mk_ (show leftOf k (sizeMem x) = -1 by rw [HE.out]; exact leftOf_neg (by omega))
    clear hh0
    go_wp2
    go_ret
    exact ⟨ret_i64 HX.out.symm, hB1⟩
  rw [leftOf_nat hh0]
  have hn0 : ¬ (((k - sizeHeap x.Heap : Nat) : Nat) : Int) < 0 := by omega
  have qa0 := ba1.cell 0 _ rfl
  have qa1 := ba1.cell 1 _ rfl
  have qa2 := ba1.cell 2 _ rfl
  have qa3 := ba1.cell 3 _ rfl
  go_wp2_with fail
  refine (szLists_ct _ H.Lists x.Lists (k - sizeHeap x.Heap) (rdLists_up h.Lists hB1) (by omega)).mono ?_
  rintro e w2 ⟨rfl, hb1⟩
  have ba2 := ba1.below hb1
  have hB2 := hB1.trans (hb1.mono hB1.size)
  clear ba1 hb1 hB1 qa0 qa1 qa2 qa3
  by_cases hh1 : sizeLists x.Lists ≤ k - sizeHeap x.Heap
  case neg =>
    rw [leftOf_neg hh1]
    have HX := Hid.mk_ (show leftOf k (sizeMem x) = -1 by rw [HE.out]; exact leftOf_neg (by omega))
    clear hh1
    go_wp2
    go_ret
    exact ⟨ret_i64 HX.out.symm, hB2⟩
  rw [leftOf_nat hh1]
  have hn1 : ¬ (((k - sizeHeap x.Heap - sizeLists x.Lists : Nat) : Nat) : Int) < 0 := by omega
  have qa0 := ba2.cell 0 _ rfl
  have qa1 := ba2.cell 1 _ rfl
  have qa2 := ba2.cell 2 _ rfl
  have qa3 := ba2.cell 3 _ rfl
  have HX := Hid.mk_ (show leftOf k (sizeMem x) = ((k - sizeHeap x.Heap - sizeLists x.Lists : Nat) : Int) by rw [HE.out, leftOf_nat (by omega)]; omega)
  go_wp2
  go_ret
  exact ⟨ret_i64 HX.out.symm, hB2⟩

set_option maxRecDepth 100000 in
set_option maxHeartbeats 4000000 in
theorem markMem_ct (w : World) (H : HMem) (x : Mem) (k : Int) (h : OwMem w H x) (hk0 : 0 ≤ k) (hk1 : k + (nMarkMem x : Int) ≤ 4611686018427387904) :
    Calls Tryz.prog 11 #[.agg #[.slice H.Heap.Bytes.a H.Heap.Bytes.len H.Heap.Bytes.cap, .slice H.Heap.Class.a H.Heap.Class.len H.Heap.Class.cap, .slice H.Lists.Global.a H.Lists.Global.len H.Lists.Global.cap, .slice H.Lists.Own.a H.Lists.Own.len H.Lists.Own.cap], .int .i64 k] w fun e w' => e = .returned (.int .i64 (k + (nMarkMem x : Int))) ∧ OwMem w' H (markMem x k) ∧ Chg H.foot w w' := by
  have ba0 : Box (w.alloc (.cells #[.slice H.Heap.Bytes.a H.Heap.Bytes.len H.Heap.Bytes.cap, .slice H.Heap.Class.a H.Heap.Class.len H.Heap.Class.cap, .slice H.Lists.Global.a H.Lists.Global.len H.Lists.Global.cap, .slice H.Lists.Own.a H.Lists.Own.len H.Lists.Own.cap] 36)) w.heap.size [.slice H.Heap.Bytes.a H.Heap.Bytes.len H.Heap.Bytes.cap, .slice H.Heap.Class.a H.Heap.Class.len H.Heap.Class.cap, .slice H.Lists.Global.a H.Lists.Global.len H.Lists.Global.cap, .slice H.Lists.Own.a H.Lists.Own.len H.Lists.Own.cap] := Box.new w #[.slice H.Heap.Bytes.a H.Heap.Bytes.len H.Heap.Bytes.cap, .slice H.Heap.Class.a H.Heap.Class.len H.Heap.Class.cap, .slice H.Lists.Global.a H.Lists.Global.len H.Lists.Global.cap, .slice H.Lists.Own.a H.Lists.Own.len H.Lists.Own.cap] 36
  have HE := Hid.mk_ (show nMarkMem x = nMarkHeap x.Heap + nMarkLists x.Lists from rfl)
  have HK := Hid.mk_ hk1
  clear hk1
  have hlt := h.lt
  have hl0 : ∀ g ∈ H.Heap.foot, g < w.heap.size := h.Heap.lt
  have ho0 := h.Heap.keep (w' := (w.alloc (.cells #[.slice H.Heap.Bytes.a H.Heap.Bytes.len H.Heap.Bytes.cap, .slice H.Heap.Class.a H.Heap.Class.len H.Heap.Class.cap, .slice H.Lists.Global.a H.Lists.Global.len H.Lists.Global.cap, .slice H.Lists.Own.a H.Lists.Own.len H.Lists.Own.cap] 36))) (fun g hg => Below.heap_alloc w _ g (hl0 g hg))
  have hl1 : ∀ g ∈ H.Lists.foot, g < w.heap.size := h.Lists.lt
  have ho1 := h.Lists.keep (w' := (w.alloc (.cells #[.slice H.Heap.Bytes.a H.Heap.Bytes.len H.Heap.Bytes.cap, .slice H.Heap.Class.a H.Heap.Class.len H.Heap.Class.cap, .slice H.Lists.Global.a H.Lists.Global.len H.Lists.Global.cap, .slice H.Lists.Own.a H.Lists.Own.len H.Lists.Own.cap] 36))) (fun g hg => Below.heap_alloc w _ g (hl1 g hg))
  have hC0 : Chg H.foot w (w.alloc (.cells #[.slice H.Heap.Bytes.a H.Heap.Bytes.len H.Heap.Bytes.cap, .slice H.Heap.Class.a H.Heap.Class.len H.Heap.Class.cap, .slice H.Lists.Global.a H.Lists.Global.len H.Lists.Global.cap, .slice H.Lists.Own.a H.Lists.Own.len H.Lists.Own.cap] 36)) := (Chg.refl _ w).alloc_ _
  go_enter Tryz.func11, Tryz.ntmps11
  go_wp2_with fail
  refine (markHeap_ct _ H.Heap x.Heap (k) ho0 (by omega) (by have := HK.out; rw [HE.out] at this; omega)).mono ?_
  clear ho0
  rintro e w1 ⟨rfl, ho0, hc⟩
  have ba1 := ba0.chg hc (fun hm => Nat.lt_irrefl _ (hl0 _ hm))
  have hC1 : Chg H.foot w w1 := hC0.trans (hc.mono fun g hg => HMem.mem_foot.2 (.inl hg))
  replace ho1 := ho1.chg hc (fun g hg hm => h.d01 g hm hg)
  clear ba0 hc hC0
  have qa0 := ba1.cell 0 _ rfl
  have qa1 := ba1.cell 1 _ rfl
  have qa2 := ba1.cell 2 _ rfl
  have qa3 := ba1.cell 3 _ rfl
  go_wp2_with fail
  refine (markLists_ct _ H.Lists x.Lists (k + ((nMarkHeap x.Heap : Nat) : Int)) ho1 (by omega) (by have := HK.out; rw [HE.out] at this; omega)).mono ?_
  clear ho1
  rintro e w2 ⟨rfl, ho1, hc⟩
  have ba2 := ba1.chg hc (fun hm => Nat.lt_irrefl _ (hl1 _ hm))
  have hC2 : Chg H.foot w w2 := hC1.trans (hc.mono fun g hg => HMem.mem_foot.2 (.inr (hg)))
  replace ho0 := ho0.chg hc (fun g hg hm => h.d01 g hg hm)
  clear ba1 hc hC1 qa0 qa1 qa2 qa3
  have qa0 := ba2.cell 0 _ rfl
  have qa1 := ba2.cell 1 _ rfl
  have qa2 := ba2.cell 2 _ rfl
  have qa3 := ba2.cell 3 _ rfl
  go_wp2
  go_ret
  exact ⟨ret_i64 (by rw [HE.out]; omega), ⟨ho0, ho1, h.d01⟩, hC2⟩
end Go.Proofs.YtpjijbonpjoamaaGreat

