/-
  Several texts in one: lemmas and contracts that the claim rests on.
-/
import Derived.Test.YtdepckmjgpkjmaaUHShelfNew1
import Derived.Deep.QuietTactic
import Derived.BigQuiet
import Derived.Deep.LoopGhost
import Derived.Deep.RegionHeld3
import Derived.WalkSpells
import Derived.Laws.Cover3
import Derived.Deep.WholeRow
/-
  Boxes: the cells of a block that the call made itself, in a world that is known only so far.
-/
namespace Go.Proofs.Ytdepckmjgpkjmaa
open Go.RowKit
variable {α : Type} {T : FT α}
structure Box (w : World) (g : Nat) (vs : List Value) : Prop where
  lt : g < w.heap.size
  cell : ∀ j v, vs[j]? = some v → w.cell? ⟨g, j, none⟩ = some v
  fro : ∀ j, w.frozen? ⟨g, j, none⟩ = false
theorem Box.of_block {w w' : World} {g : Nat} {vs : List Value} (h : Box w g vs) (hs : w.heap.size ≤ w'.heap.size) (hb : w'.heap[g]? = w.heap[g]?) : Box w' g vs :=
  ⟨Nat.lt_of_lt_of_le h.lt hs, fun j v hv => by simpa [World.cell?, hb] using h.cell j v hv, fun j => by simpa [World.frozen?, hb] using h.fro j⟩
theorem Box.below {w w' : World} {g : Nat} {vs : List Value} (h : Box w g vs) (hb : Below w.heap.size w w') : Box w' g vs := h.of_block hb.size (hb.block g h.lt)
theorem Box.chg {w w' : World} {g : Nat} {vs : List Value} {F : List Nat} (h : Box w g vs) (hc : Chg F w w') (hn : g ∉ F) : Box w' g vs := h.of_block hc.size (hc.block g h.lt hn)
theorem heap_set_other (w : World) {g g' i : Nat} (v : Value) (hn : g ≠ g') : (w.setCell ⟨g, i, none⟩ v).heap[g']? = w.heap[g']? := Below.heap_setCell _ _ _ _ (fun e => hn e.symm)
theorem Box.other {w : World} {g : Nat} {vs : List Value} (h : Box w g vs) {g' i : Nat} (hn : g' ≠ g) (v : Value) : Box (w.setCell ⟨g', i, none⟩ v) g vs := h.of_block (by simp) (heap_set_other w v hn)
theorem Box.set {w : World} {g : Nat} {vs : List Value} (h : Box w g vs) (i : Nat) (v : Value) : Box (w.setCell ⟨g, i, none⟩ v) g (vs.set i v) := by
  refine ⟨by simpa using h.lt, fun j u hu => ?_, fun j => ?_⟩
  · by_cases hij : i = j
    · subst hij
      rw [List.getElem?_set] at hu
      by_cases hl : i < vs.length
      · simp [hl] at hu
        subst hu
        have := h.cell i _ (List.getElem?_eq_getElem hl)
        simp [go_sem, this]
      · simp [hl] at hu
    · rw [List.getElem?_set, if_neg hij] at hu
      rw [World.cell?_setCell_other _ _ _ _ (by intro e; simp only [Addr.mk.injEq] at e; omega)]
      exact h.cell j u hu
  · have := h.fro j
    simp [go_sem, this]
theorem Box.alloc {w : World} {g : Nat} {vs : List Value} (h : Box w g vs) (o : Obj) : Box (w.alloc o) g vs := h.of_block (by simp) (Below.heap_alloc w o g h.lt)
theorem Box.drew {w : World} {g : Nat} {vs : List Value} (h : Box w g vs) : Box w.drew g vs := h.of_block (Nat.le_refl _) rfl
theorem Box.drewN {w : World} {g : Nat} {vs : List Value} (h : Box w g vs) (n : Nat) : Box (w.drewN n) g vs := h.of_block (Nat.le_refl _) rfl
theorem Box.new (w : World) (vs : Array Value) (ty : TypeId) : Box (w.alloc (.cells vs ty)) w.heap.size vs.toList := by
  refine ⟨by simp, fun j v hv => ?_, fun j => by simp [go_sem]⟩
  have : vs[j]? = some v := by simpa using hv
  simp only [World.cell?, heap_alloc_last]
  exact this
theorem Chg.set_ {F : List Nat} {w w' : World} (h : Chg F w w') {g i : Nat} (hg : g ∈ F) (v : Value) : Chg F w (w'.setCell ⟨g, i, none⟩ v) :=
  ⟨h.os, h.tape, h.output, by simpa using h.size, fun k hk hn => (Below.heap_setCell _ _ _ _ (fun e => by have e' : k = g := e; exact hn (e' ▸ hg))).trans (h.block k hk hn)⟩
theorem Chg.alloc_ {F : List Nat} {w w' : World} (h : Chg F w w') (o : Obj) : Chg F w (w'.alloc o) :=
  ⟨h.os, h.tape, h.output, Nat.le_trans h.size (by simp), fun k hk hn => (Below.heap_alloc w' o k (Nat.lt_of_lt_of_le hk h.size)).trans (h.block k hk hn)⟩
theorem RdL.len_ {w : World} {B : Nat} {a : Option Addr} {n c : Nat} {l : List α} (h : RdL T w B (.slice a n c) l) : n = l.length ∧ n ≤ 9223372036854775807 := by
  obtain ⟨A, c', hv, q1, q2, _⟩ := id h
  injection hv with h1 h2 h3
  refine ⟨h2, ?_⟩
  unfold maxLen at q2
  omega
end Go.Proofs.Ytdepckmjgpkjmaa

/-
  Lists of ints, lists of lists: compared, made, measured, marked.
-/
namespace Go.Proofs.Ytdepckmjgpkjmaa
open Go.RowKit

set_option maxHeartbeats 400000 in
theorem eqSList_ct (w : World) (v1 v2 : Value) (l : List Int) (h1 : RdL FI w w.heap.size v1 l) (h2 : RdL FI w w.heap.size v2 l) (hs : l.length ≤ 1073741824) :
    Calls Try.prog 179 #[.agg #[v1], .agg #[v2]] w fun e w' => e = .returned (.bool true) ∧ Below w.heap.size w w' := by
  obtain ⟨A1, c1, hv1, _⟩ := id h1
  obtain ⟨A2, c2, hv2, _⟩ := id h2
  subst hv1 hv2
  go_enter Try.func179, Try.ntmps179
  go_wp2_with (go_at_call 50; refine (eqIntS_ct _ _ _ l (rd_up h1 (by repeat (first | exact Below.refl _ _ | refine Below.alloc ?_ (by simp <;> omega) _ | refine below_grow_of ?_ (by simp <;> omega) _ _ | refine Below.drew ?_ | refine below_drewN ?_ _))) (rd_up h2 (by repeat (first | exact Below.refl _ _ | refine Below.alloc ?_ (by simp <;> omega) _ | refine below_grow_of ?_ (by simp <;> omega) _ _ | refine Below.drew ?_ | refine below_drewN ?_ _))) hs).mono ?_; rintro e w1 ⟨rfl, hb1⟩; obtain ⟨os1, d1, rfl⟩ := below_grows hb1; clear hb1)
  go_ret
  exact ⟨rfl, by repeat (first | exact Below.refl _ _ | refine Below.alloc ?_ (by simp <;> omega) _ | refine below_grow_of ?_ (by simp <;> omega) _ _ | refine Below.drew ?_ | refine below_drewN ?_ _)⟩

set_option maxHeartbeats 1000000 in
theorem eqSListS_ct (w : World) (v1 v2 : Value) (t1 t2 : List SV) (ll : List (List Int)) (h1 : RdLL FI w w.heap.size v1 t1 ll) (h2 : RdLL FI w w.heap.size v2 t2 ll) (hs : szLL ll ≤ 1073741824) :
    Calls Try.prog 167 #[v1, v2] w fun e w' => e = .returned (.bool true) ∧ Below w.heap.size w w' := by
  obtain ⟨A1, c1, hv1, _⟩ := id h1.outer
  obtain ⟨A2, c2, hv2, _⟩ := id h2.outer
  have n1 := h1.len
  have n2 := h2.len
  rw [n1] at hv1
  rw [n2] at hv2
  have hs0 : ll.length ≤ 1073741824 := Nat.le_trans (Nat.le_add_right _ _) hs
  subst hv1 hv2
  have N1 : Hid (t1.length = ll.length) := n1
  have N2 : Hid (t2.length = ll.length) := n2
  clear n1 n2
  go_enter Try.func167, Try.ntmps167
  go_wp2
  go_loopw [5] (fun i wr => ∃ k : Nat, k ≤ ll.length ∧ i = .int .i64 k ∧ Below w.heap.size w wr) (fun i _ => ll.length - (intOf i).toNat)
  case atStart => exact ⟨0, Nat.zero_le _, rfl, Below.refl _ _⟩
  case round =>
    obtain ⟨i, hk, rfl, hb⟩ := hrel
    by_cases hlt : i < ll.length
    · have m1 : t1[i]? = some (t1[i]'(by rw [N1.out]; exact hlt)) := List.getElem?_eq_getElem _
      have m2 : t2[i]? = some (t2[i]'(by rw [N2.out]; exact hlt)) := List.getElem?_eq_getElem _
      have r1 := h1.inner i _ _ m1 (List.getElem?_eq_getElem hlt)
      have r2 := h2.inner i _ _ m2 (List.getElem?_eq_getElem hlt)
      obtain ⟨g1, o1, cap1, e1, b1, _, _, q1⟩ := (h1.outer.below hb).at_ m1
      obtain ⟨g2, o2, cap2, e2, b2, _, _, q2⟩ := (h2.outer.below hb).at_ m2
      generalize t1[i]'(by rw [N1.out]; exact hlt) = s1 at m1 r1 q1
      generalize t2[i]'(by rw [N2.out]; exact hlt) = s2 at m2 r2 q2
      injection e1 with e11 e12 e13
      injection e2 with e21 e22 e23
      clear e12 e22
      subst e11 e13 e21 e23
      have z1 : g1 < wr.heap.size := Nat.lt_of_lt_of_le b1 hb.size
      have z0 : w.heap.size ≤ wr.heap.size := hb.size
      have z2 : g2 < wr.heap.size := Nat.lt_of_lt_of_le b2 hb.size
      have p0 : wr.cell? ⟨g1, o1 + i, none⟩ = some (.slice s1.a s1.len s1.cap) := by simpa [FS] using q1 0 _ rfl
      have r0 : wr.cell? ⟨g2, o2 + i, none⟩ = some (.slice s2.a s2.len s2.cap) := by simpa [FS] using q2 0 _ rfl
      have hs1 : ll[i].length ≤ 1073741824 := Nat.le_trans (le_szLL (List.getElem_mem hlt)) hs
      clear q1 q2 m1 m2
      go_wp2
      go_region_held3 (fun w' => w'.cell? ⟨g1, o1 + i, none⟩ = some (.slice s1.a s1.len s1.cap) ∧ w'.cell? ⟨g2, o2 + i, none⟩ = some (.slice s2.a s2.len s2.cap) ∧ g1 < w'.heap.size ∧ g2 < w'.heap.size ∧ Below w.heap.size w w') (first | (go_keep; done) | ((try go_split_ands); refine ⟨?_, ?_, ?_, ?_, ?_⟩; all_goals first | assumption | exact Below.drew (by assumption) | (simp [go_sem, *]; done) | exact below_grow_of (by assumption) (by omega) _ _ | (rw [size_grow]; omega))) ((go_at_call 179; refine (eqSList_ct _ _ _ _ (rd_up r1 (by go_split_ands; assumption)) (rd_up r2 (by go_split_ands; assumption)) hs1).mono ?_; rintro e w1 ⟨rfl, hb1⟩; obtain ⟨os1, d1, rfl⟩ := below_grows hb1; clear hb1))
      go_wp2
      go_roundw
      case rel => exact ⟨i + 1, by omega, by go_num, by first | assumption | (try go_split_ands; assumption)⟩
      case measure => simp [intOf]; omega
    · go_wp2
      go_ret
      exact ⟨rfl, hb⟩

set_option maxHeartbeats 1000000 in
theorem markSListS_ct (w : World) (v : Value) (t : List SV) (ll : List (List Int)) (k : Int) (h : OwLL FI 3 201 w v t ll) (hk0 : 0 ≤ k) (hk1 : (k + (totLL ll : Int)) ≤ 4611686018427387904) :
    Calls Try.prog 173 #[v, .int .i64 k] w fun e w' => e = .returned (.int .i64 (k + (totLL ll : Int))) ∧ OwLL FI 3 201 w' v t (markLL mkInt 1 ll k) ∧ Chg (foot2 v t) w w' := by
  obtain ⟨A, c, hv, _⟩ := id h.rd'.outer
  rw [h.len] at hv
  have hlt0 : ll.length ≤ 9223372036854775807 := by
    have := h.rd'.outer
    obtain ⟨_, c', _, q1, q2, _⟩ := this
    rw [h.len] at q1
    unfold maxLen at q2
    omega
  subst hv
  go_enter Try.func173, Try.ntmps173
  go_wp2
  go_loopw [1, 5] (fun q i wr => ∃ i' : Nat, i' ≤ ll.length ∧ i = .int .i64 i' ∧ q = .int .i64 (k + (totLL (ll.take i') : Int)) ∧ OwLL FI 3 201 wr (.slice A ll.length c) t (marksLL mkInt 1 ll i' k) ∧ Chg (foot2 (.slice A ll.length c) t) w wr) (fun _ i _ => ll.length - (intOf i).toNat)
  case atStart => exact ⟨0, Nat.zero_le _, rfl, by simp [totLL], h, Chg.refl _ _⟩
  case round =>
    obtain ⟨i, hi, rfl, rfl, ho, hch⟩ := hrel
    by_cases hlt : i < ll.length
    · have hT : Hid (t.length = ll.length) := h.len
      have m1 : t[i]? = some (t[i]'(by rw [hT.out]; exact hlt)) := List.getElem?_eq_getElem _
      generalize t[i]'(by rw [hT.out]; exact hlt) = s at m1
      have ro := ho.inner i s _ m1 (marksLL_get mkInt 1 ll i k hlt)
      obtain ⟨g, o1, cap1, e1, b1, _, _, q1⟩ := ho.rd'.outer.at_ m1
      injection e1 with e11 e12 e13
      clear e12
      subst e11 e13
      have p0 : wr.cell? ⟨g, o1 + i, none⟩ = some (.slice s.a s.len s.cap) := by simpa [FS] using q1 0 _ rfl
      have ht1 := totLL_take_succ ll i hlt
      have ht2 := totLL_take_le ll (i + 1)
      have HT : Hid (totLL (ll.take (i + 1)) = totLL (ll.take i) + ll[i].length) := ht1
      have kb : k + (totLL (ll.take i) : Int) * 1 + (ll[i].length : Int) * 1 ≤ 4611686018427387904 := by omega
      have k0 : 0 ≤ k + (totLL (ll.take i) : Int) * 1 := by omega
      clear q1 ht1 h
      go_wp2_with (go_at_call 62; refine (markIntS_ct _ s.val ll[i] _ ro (by omega) (by omega)).mono ?_; rintro e w1 ⟨rfl, ho1, hg1, hs1⟩)
      go_roundw
      case rel =>
        refine ⟨i + 1, by omega, by go_num, by rw [HT.out]; go_num, ?_, hch.trans ((Chg.of_grown hg1).mono fun g hg => mem_foot2.2 (.inr ⟨s, List.mem_of_getElem? m1, mem_foot1.1 hg⟩))⟩
        have e := marksLL_step mkInt 1 ll i k hlt
        rw [← e]
        refine ho.set_row m1 ?_ (Chg.of_grown hg1)
        simpa using ho1
      case measure => simp [intOf]; omega
    · go_wp2
      go_ret
      obtain rfl : i = ll.length := by omega
      exact ⟨by simp, by rw [← marksLL_all]; exact ho, hch⟩

set_option maxHeartbeats 1000000 in
theorem heldSListS_ct (w : World) (v : Value) (t : List SV) (ll : List (List Int)) (k : Int) (h : RdLL FI w w.heap.size v t (markLL mkInt 1 ll k)) (hk0 : 0 ≤ k) (hk1 : (k + (totLL ll : Int)) ≤ 4611686018427387904) :
    Calls Try.prog 175 #[v, .int .i64 k] w fun e w' => e = .returned (.int .i64 (k + (totLL ll : Int))) ∧ Below w.heap.size w w' := by
  obtain ⟨A, c, hv, q1, q2, _⟩ := id h.outer
  have hlen : t.length = ll.length := h.len.trans (length_markLL _ _ _ _)
  rw [hlen] at hv q1
  have hlt0 : ll.length ≤ 9223372036854775807 := by
    unfold maxLen at q2
    omega
  subst hv
  have hT : Hid (t.length = ll.length) := hlen
  clear hlen
  go_enter Try.func175, Try.ntmps175
  go_wp2
  go_loopw [1, 5] (fun q i wr => ∃ i' : Nat, i' ≤ ll.length ∧ i = .int .i64 i' ∧ q = .int .i64 (k + (totLL (ll.take i') : Int)) ∧ Below w.heap.size w wr) (fun _ i _ => ll.length - (intOf i).toNat)
  case atStart => exact ⟨0, Nat.zero_le _, rfl, by simp [totLL], Below.refl _ _⟩
  case round =>
    obtain ⟨i, hi, rfl, rfl, hb⟩ := hrel
    by_cases hlt : i < ll.length
    · have m1 : t[i]? = some (t[i]'(by rw [hT.out]; exact hlt)) := List.getElem?_eq_getElem _
      generalize t[i]'(by rw [hT.out]; exact hlt) = s at m1
      have ro := rd_up (h.inner i s _ m1 (markLL_get mkInt 1 ll i k hlt)) hb
      obtain ⟨g, o1, cap1, e1, b1, _, _, q1⟩ := (h.outer.below hb).at_ m1
      injection e1 with e11 e12 e13
      clear e12
      subst e11 e13
      have p0 : wr.cell? ⟨g, o1 + i, none⟩ = some (.slice s.a s.len s.cap) := by simpa [FS] using q1 0 _ rfl
      have ht1 := totLL_take_succ ll i hlt
      have ht2 := totLL_take_le ll (i + 1)
      have HT : Hid (totLL (ll.take (i + 1)) = totLL (ll.take i) + ll[i].length) := ht1
      have kb : k + (totLL (ll.take i) : Int) * 1 + (ll[i].length : Int) * 1 ≤ 4611686018427387904 := by omega
      have k0 : 0 ≤ k + (totLL (ll.take i) : Int) * 1 := by omega
      clear q1 ht1 h
      go_wp2_with (go_at_call 75; refine (heldIntS_ct _ s.val ll[i] _ (by simpa using ro) (by omega) (by omega)).mono ?_; rintro e w1 ⟨rfl, hb1⟩; obtain ⟨os1, d1, rfl⟩ := below_grows hb1; clear hb1)
      go_roundw
      case rel => exact ⟨i + 1, by omega, by go_num, by rw [HT.out]; go_num, below_grow_of hb hb.size _ _⟩
      case measure => simp [intOf]; omega
    · go_wp2
      go_ret
      obtain rfl : i = ll.length := by omega
      exact ⟨by simp, hb⟩

theorem Try.infoSList : (Try.prog.info? 201).map (fun i => (i.zero, i.size, i.bytes)) = some (some (.agg #[.slice none 0 0]), FS.n, 24) := by kernel_rfl
theorem eqIntS_w (w : World) (K1 K2 : SV) (l : List Int) (h1 : RdL FI w w.heap.size K1.val l) (h2 : RdL FI w w.heap.size K2.val l) (hs : l.length ≤ 1073741824) :
    Calls Try.prog 50 #[.slice K1.a K1.len K1.cap, .slice K2.a K2.len K2.cap] w fun e w' => e = .returned (.bool true) ∧ Below w.heap.size w w' := eqIntS_ct w _ _ l h1 h2 hs
theorem markIntS_w (w : World) (K : SV) (l : List Int) (k : Int) (h : OwL FI 3 w K.val l) (hk0 : 0 ≤ k) (hk1 : k + ((l.length : Nat) : Int) ≤ 4611686018427387904) :
    Calls Try.prog 62 #[.slice K.a K.len K.cap, .int .i64 k] w fun e w' => e = .returned (.int .i64 (k + ((l.length : Nat) : Int))) ∧ OwL FI 3 w' K.val (marks mkInt 1 l l.length k) ∧ Chg (foot1 K.val) w w' :=
  (markIntS_ct w _ l k h hk0 (by omega)).mono fun _ _ ⟨a, b, c, _⟩ => ⟨a.trans (ret_i64 (by omega)), b, Chg.of_grown c⟩
theorem heldIntS_w (w : World) (K : SV) (l : List Int) (k : Int) (h : RdL FI w w.heap.size K.val (marks mkInt 1 l l.length k)) (hk0 : 0 ≤ k) (hk1 : k + ((l.length : Nat) : Int) ≤ 4611686018427387904) :
    Calls Try.prog 75 #[.slice K.a K.len K.cap, .int .i64 k] w fun e w' => e = .returned (.int .i64 (k + ((l.length : Nat) : Int))) ∧ Below w.heap.size w w' :=
  (heldIntS_ct w _ l k h hk0 (by omega)).mono fun _ _ ⟨a, b⟩ => ⟨a.trans (ret_i64 (by omega)), b⟩
theorem eqSListS_w (w : World) (K1 : SV) (t1 : List SV) (K2 : SV) (t2 : List SV) (ll : List (List Int)) (h1 : RdLL FI w w.heap.size K1.val t1 ll) (h2 : RdLL FI w w.heap.size K2.val t2 ll) (hs : szLL ll ≤ 1073741824) :
    Calls Try.prog 167 #[.slice K1.a K1.len K1.cap, .slice K2.a K2.len K2.cap] w fun e w' => e = .returned (.bool true) ∧ Below w.heap.size w w' := eqSListS_ct w _ _ t1 t2 ll h1 h2 hs
theorem markSListS_w (w : World) (K : SV) (t : List SV) (ll : List (List Int)) (k : Int) (h : OwLL FI 3 201 w K.val t ll) (hk0 : 0 ≤ k) (hk1 : k + ((totLL ll : Nat) : Int) ≤ 4611686018427387904) :
    Calls Try.prog 173 #[.slice K.a K.len K.cap, .int .i64 k] w fun e w' => e = .returned (.int .i64 (k + ((totLL ll : Nat) : Int))) ∧ OwLL FI 3 201 w' K.val t (markLL mkInt 1 ll k) ∧ Chg (foot2 K.val t) w w' :=
  (markSListS_ct w _ t ll k h hk0 (by omega)).mono fun _ _ ⟨a, b, c⟩ => ⟨a.trans (ret_i64 (by omega)), b, c⟩
theorem heldSListS_w (w : World) (K : SV) (t : List SV) (ll : List (List Int)) (k : Int) (h : RdLL FI w w.heap.size K.val t (markLL mkInt 1 ll k)) (hk0 : 0 ≤ k) (hk1 : k + ((totLL ll : Nat) : Int) ≤ 4611686018427387904) :
    Calls Try.prog 175 #[.slice K.a K.len K.cap, .int .i64 k] w fun e w' => e = .returned (.int .i64 (k + ((totLL ll : Nat) : Int))) ∧ Below w.heap.size w w' :=
  (heldSListS_ct w _ t ll k h hk0 (by omega)).mono fun _ _ ⟨a, b⟩ => ⟨a.trans (ret_i64 (by omega)), b⟩
end Go.Proofs.Ytdepckmjgpkjmaa

/-
  Clocks: what a value reads as, and what the call owns.
-/
namespace Go.Proofs.Ytdepckmjgpkjmaa
open Go.RowKit
def mkPin (k : Int) : Pin := ⟨(k) % 3 == 0, k + 1, (k + 1 + 1) % 3 == 0, k + 1 + 1 + 1⟩
structure Clock where
  Epoch : Int
  Pins : List Pin
structure HClock where
  Pins : SV
@[reducible] def HClock.val (H : HClock) (x : Clock) : Value := .agg #[.int .i64 x.Epoch, .slice H.Pins.a H.Pins.len H.Pins.cap]
def HClock.foot (H : HClock) : List Nat := foot1 H.Pins.val
structure RdClock (w : World) (B : Nat) (H : HClock) (x : Clock) : Prop where
  Pins : RdL FPin w B H.Pins.val x.Pins
structure OwClock (w : World) (H : HClock) (x : Clock) : Prop where
  Pins : OwL FPin 178 w H.Pins.val x.Pins
theorem RdClock.keep {w w' : World} {B B' : Nat} {H : HClock} {x : Clock} (h : RdClock w B H x) (hk : ∀ k, k < B → w'.heap[k]? = w.heap[k]?) (hB : B ≤ B') : RdClock w' B' H x :=
  ⟨h.Pins.keep hk hB⟩
theorem rdClock_up {w w' : World} {H : HClock} {x : Clock} (h : RdClock w w.heap.size H x) (hb : Below w.heap.size w w') : RdClock w' w'.heap.size H x := h.keep hb.block hb.size
theorem HClock.mem_foot {H : HClock} {g : Nat} : g ∈ H.foot ↔ g ∈ foot1 H.Pins.val := Iff.rfl
theorem OwClock.lt {w : World} {H : HClock} {x : Clock} (h : OwClock w H x) : ∀ g ∈ H.foot, g < w.heap.size := by
  intro g hg
  exact (foot_lt h.Pins) g hg
theorem OwClock.keep {w w' : World} {H : HClock} {x : Clock} (h : OwClock w H x) (hk : ∀ g ∈ H.foot, w'.heap[g]? = w.heap[g]?) : OwClock w' H x :=
  ⟨h.Pins.keep (fun g hg => hk g (HClock.mem_foot.2 (mem_foot1.2 hg)))⟩
theorem OwClock.chg {w w' : World} {H : HClock} {x : Clock} {F : List Nat} (h : OwClock w H x) (hc : Chg F w w') (hd : ∀ g ∈ H.foot, g ∉ F) : OwClock w' H x := h.keep fun g hg => hc.block g (h.lt g hg) (hd g hg)
theorem OwClock.rd {w : World} {B : Nat} {H : HClock} {x : Clock} (h : OwClock w H x) (hB : ∀ g ∈ H.foot, g < B) : RdClock w B H x :=
  ⟨h.Pins.rd (fun g hg => hB g (HClock.mem_foot.2 (mem_foot1.2 hg)))⟩
theorem OwClock.rd' {w : World} {H : HClock} {x : Clock} (h : OwClock w H x) : RdClock w w.heap.size H x := h.rd h.lt
def nMarkClock (x : Clock) : Nat := x.Pins.length * 4
def sizeClock (x : Clock) : Nat := x.Pins.length
def markClock (x : Clock) (k : Int) : Clock := { x with Pins := marks mkPin 4 x.Pins x.Pins.length k }
end Go.Proofs.Ytdepckmjgpkjmaa

/-
  Bases: what a value reads as, and what the call owns.
-/
namespace Go.Proofs.Ytdepckmjgpkjmaa
open Go.RowKit
def mkLRow (k : Int) : LRow := ⟨k, k + 1⟩
structure Base where
  Mem : Mem
  Clock : Clock
  Limbo : List (List LRow)
  Haz : List Int
structure HBase where
  Mem : HMem
  Clock : HClock
  Limbo : SV
  LimboT : List SV
  Haz : SV
@[reducible] def HBase.val (H : HBase) (x : Base) : Value := .agg #[.slice H.Mem.Heap.Bytes.a H.Mem.Heap.Bytes.len H.Mem.Heap.Bytes.cap, .slice H.Mem.Heap.Class.a H.Mem.Heap.Class.len H.Mem.Heap.Class.cap, .slice H.Mem.Lists.Global.a H.Mem.Lists.Global.len H.Mem.Lists.Global.cap, .slice H.Mem.Lists.Own.a H.Mem.Lists.Own.len H.Mem.Lists.Own.cap, .int .i64 x.Clock.Epoch, .slice H.Clock.Pins.a H.Clock.Pins.len H.Clock.Pins.cap, .slice H.Limbo.a H.Limbo.len H.Limbo.cap, .slice H.Haz.a H.Haz.len H.Haz.cap]
def HBase.foot (H : HBase) : List Nat := H.Mem.foot ++ H.Clock.foot ++ foot2 H.Limbo.val H.LimboT ++ foot1 H.Haz.val
structure RdBase (w : World) (B : Nat) (H : HBase) (x : Base) : Prop where
  Mem : RdMem w B H.Mem x.Mem
  Clock : RdClock w B H.Clock x.Clock
  Limbo : RdLL FLRow w B H.Limbo.val H.LimboT x.Limbo
  Haz : RdL FI w B H.Haz.val x.Haz
structure OwBase (w : World) (H : HBase) (x : Base) : Prop where
  Mem : OwMem w H.Mem x.Mem
  Clock : OwClock w H.Clock x.Clock
  Limbo : OwLL FLRow 180 167 w H.Limbo.val H.LimboT x.Limbo
  Haz : OwL FI 3 w H.Haz.val x.Haz
  d01 : ∀ g ∈ H.Mem.foot, g ∉ H.Clock.foot
  d02 : ∀ g ∈ H.Mem.foot, g ∉ foot2 H.Limbo.val H.LimboT
  d03 : ∀ g ∈ H.Mem.foot, g ∉ foot1 H.Haz.val
  d12 : ∀ g ∈ H.Clock.foot, g ∉ foot2 H.Limbo.val H.LimboT
  d13 : ∀ g ∈ H.Clock.foot, g ∉ foot1 H.Haz.val
  d23 : ∀ g ∈ foot2 H.Limbo.val H.LimboT, g ∉ foot1 H.Haz.val
theorem RdBase.keep {w w' : World} {B B' : Nat} {H : HBase} {x : Base} (h : RdBase w B H x) (hk : ∀ k, k < B → w'.heap[k]? = w.heap[k]?) (hB : B ≤ B') : RdBase w' B' H x :=
  ⟨h.Mem.keep hk hB, h.Clock.keep hk hB, h.Limbo.keep hk hB, h.Haz.keep hk hB⟩
theorem rdBase_up {w w' : World} {H : HBase} {x : Base} (h : RdBase w w.heap.size H x) (hb : Below w.heap.size w w') : RdBase w' w'.heap.size H x := h.keep hb.block hb.size
theorem HBase.mem_foot {H : HBase} {g : Nat} : g ∈ H.foot ↔ g ∈ H.Mem.foot ∨ g ∈ H.Clock.foot ∨ g ∈ foot2 H.Limbo.val H.LimboT ∨ g ∈ foot1 H.Haz.val := by
  unfold HBase.foot
  simp only [List.mem_append, or_assoc]
theorem OwBase.lt {w : World} {H : HBase} {x : Base} (h : OwBase w H x) : ∀ g ∈ H.foot, g < w.heap.size := by
  intro g hg
  rcases HBase.mem_foot.1 hg with hg | hg | hg | hg
  · exact h.Mem.lt g hg
  · exact h.Clock.lt g hg
  · exact h.Limbo.lt g hg
  · exact (foot_lt h.Haz) g hg
theorem OwBase.keep {w w' : World} {H : HBase} {x : Base} (h : OwBase w H x) (hk : ∀ g ∈ H.foot, w'.heap[g]? = w.heap[g]?) : OwBase w' H x :=
  ⟨h.Mem.keep (fun g hg => hk g (HBase.mem_foot.2 (.inl hg))), h.Clock.keep (fun g hg => hk g (HBase.mem_foot.2 ((.inr (.inl hg))))), h.Limbo.keep (fun g hg => hk g (HBase.mem_foot.2 ((.inr ((.inr (.inl hg))))))), h.Haz.keep (fun g hg => hk g (HBase.mem_foot.2 ((.inr ((.inr ((.inr (mem_foot1.2 hg))))))))), h.d01, h.d02, h.d03, h.d12, h.d13, h.d23⟩
theorem OwBase.chg {w w' : World} {H : HBase} {x : Base} {F : List Nat} (h : OwBase w H x) (hc : Chg F w w') (hd : ∀ g ∈ H.foot, g ∉ F) : OwBase w' H x := h.keep fun g hg => hc.block g (h.lt g hg) (hd g hg)
theorem OwBase.rd {w : World} {B : Nat} {H : HBase} {x : Base} (h : OwBase w H x) (hB : ∀ g ∈ H.foot, g < B) : RdBase w B H x :=
  ⟨h.Mem.rd (fun g hg => hB g (HBase.mem_foot.2 (.inl hg))), h.Clock.rd (fun g hg => hB g (HBase.mem_foot.2 ((.inr (.inl hg))))), h.Limbo.rd (fun g hg => hB g (HBase.mem_foot.2 ((.inr ((.inr (.inl hg))))))), h.Haz.rd (fun g hg => hB g (HBase.mem_foot.2 ((.inr ((.inr ((.inr (mem_foot1.2 hg)))))))))⟩
theorem OwBase.rd' {w : World} {H : HBase} {x : Base} (h : OwBase w H x) : RdBase w w.heap.size H x := h.rd h.lt
def nMarkBase (x : Base) : Nat := nMarkMem x.Mem + nMarkClock x.Clock + totLL x.Limbo * 2 + x.Haz.length
def sizeBase (x : Base) : Nat := sizeMem x.Mem + sizeClock x.Clock + szLL x.Limbo + x.Haz.length
def markBase (x : Base) (k : Int) : Base := { x with Mem := markMem x.Mem k, Clock := markClock x.Clock (k + (nMarkMem x.Mem : Nat)), Limbo := markLL mkLRow 2 x.Limbo (k + (nMarkMem x.Mem : Nat) + (nMarkClock x.Clock : Nat)), Haz := marks mkInt 1 x.Haz x.Haz.length (k + (nMarkMem x.Mem : Nat) + (nMarkClock x.Clock : Nat) + (totLL x.Limbo * 2 : Nat)) }
end Go.Proofs.Ytdepckmjgpkjmaa

/-
  Shelves: what a value reads as, and what the call owns.
-/
namespace Go.Proofs.Ytdepckmjgpkjmaa
open Go.RowKit
def mkOp (k : Int) : Op := ⟨k, k + 1, k + 1 + 1, k + 1 + 1 + 1⟩
def mkJob (k : Int) : Job := ⟨(k) % 3 == 0, ⟨k + 1, k + 1 + 1, k + 1 + 1 + 1, k + 1 + 1 + 1 + 1⟩, k + 1 + 1 + 1 + 1 + 1, k + 1 + 1 + 1 + 1 + 1 + 1, ⟨k + 1 + 1 + 1 + 1 + 1 + 1 + 1, k + 1 + 1 + 1 + 1 + 1 + 1 + 1 + 1, k + 1 + 1 + 1 + 1 + 1 + 1 + 1 + 1 + 1, k + 1 + 1 + 1 + 1 + 1 + 1 + 1 + 1 + 1 + 1, k + 1 + 1 + 1 + 1 + 1 + 1 + 1 + 1 + 1 + 1 + 1, k + 1 + 1 + 1 + 1 + 1 + 1 + 1 + 1 + 1 + 1 + 1 + 1, k + 1 + 1 + 1 + 1 + 1 + 1 + 1 + 1 + 1 + 1 + 1 + 1 + 1, k + 1 + 1 + 1 + 1 + 1 + 1 + 1 + 1 + 1 + 1 + 1 + 1 + 1 + 1, k + 1 + 1 + 1 + 1 + 1 + 1 + 1 + 1 + 1 + 1 + 1 + 1 + 1 + 1 + 1, (k + 1 + 1 + 1 + 1 + 1 + 1 + 1 + 1 + 1 + 1 + 1 + 1 + 1 + 1 + 1 + 1) % 3 == 0⟩, k + 1 + 1 + 1 + 1 + 1 + 1 + 1 + 1 + 1 + 1 + 1 + 1 + 1 + 1 + 1 + 1 + 1, k + 1 + 1 + 1 + 1 + 1 + 1 + 1 + 1 + 1 + 1 + 1 + 1 + 1 + 1 + 1 + 1 + 1 + 1, k + 1 + 1 + 1 + 1 + 1 + 1 + 1 + 1 + 1 + 1 + 1 + 1 + 1 + 1 + 1 + 1 + 1 + 1 + 1, k + 1 + 1 + 1 + 1 + 1 + 1 + 1 + 1 + 1 + 1 + 1 + 1 + 1 + 1 + 1 + 1 + 1 + 1 + 1 + 1⟩
def mkEv (k : Int) : Ev := ⟨k, k + 1, k + 1 + 1, k + 1 + 1 + 1, k + 1 + 1 + 1 + 1, k + 1 + 1 + 1 + 1 + 1, k + 1 + 1 + 1 + 1 + 1 + 1⟩
structure Shelf where
  Base : Base
  Cells : List Int
  Jobs : List Job
  Todo : List (List Op)
  Log : List Ev
  Serial : Int
structure HShelf where
  Base : HBase
  Cells : SV
  Jobs : SV
  Todo : SV
  TodoT : List SV
  Log : SV
@[reducible] def HShelf.val (H : HShelf) (x : Shelf) : Value := .agg #[.slice H.Base.Mem.Heap.Bytes.a H.Base.Mem.Heap.Bytes.len H.Base.Mem.Heap.Bytes.cap, .slice H.Base.Mem.Heap.Class.a H.Base.Mem.Heap.Class.len H.Base.Mem.Heap.Class.cap, .slice H.Base.Mem.Lists.Global.a H.Base.Mem.Lists.Global.len H.Base.Mem.Lists.Global.cap, .slice H.Base.Mem.Lists.Own.a H.Base.Mem.Lists.Own.len H.Base.Mem.Lists.Own.cap, .int .i64 x.Base.Clock.Epoch, .slice H.Base.Clock.Pins.a H.Base.Clock.Pins.len H.Base.Clock.Pins.cap, .slice H.Base.Limbo.a H.Base.Limbo.len H.Base.Limbo.cap, .slice H.Base.Haz.a H.Base.Haz.len H.Base.Haz.cap, .slice H.Cells.a H.Cells.len H.Cells.cap, .slice H.Jobs.a H.Jobs.len H.Jobs.cap, .slice H.Todo.a H.Todo.len H.Todo.cap, .slice H.Log.a H.Log.len H.Log.cap, .int .i64 x.Serial]
def HShelf.foot (H : HShelf) : List Nat := H.Base.foot ++ foot1 H.Cells.val ++ foot1 H.Jobs.val ++ foot2 H.Todo.val H.TodoT ++ foot1 H.Log.val
structure RdShelf (w : World) (B : Nat) (H : HShelf) (x : Shelf) : Prop where
  Base : RdBase w B H.Base x.Base
  Cells : RdL FI w B H.Cells.val x.Cells
  Jobs : RdL FJob w B H.Jobs.val x.Jobs
  Todo : RdLL FOp w B H.Todo.val H.TodoT x.Todo
  Log : RdL FEv w B H.Log.val x.Log
structure OwShelf (w : World) (H : HShelf) (x : Shelf) : Prop where
  Base : OwBase w H.Base x.Base
  Cells : OwL FI 3 w H.Cells.val x.Cells
  Jobs : OwL FJob 97 w H.Jobs.val x.Jobs
  Todo : OwLL FOp 93 100 w H.Todo.val H.TodoT x.Todo
  Log : OwL FEv 25 w H.Log.val x.Log
  d01 : ∀ g ∈ H.Base.foot, g ∉ foot1 H.Cells.val
  d02 : ∀ g ∈ H.Base.foot, g ∉ foot1 H.Jobs.val
  d03 : ∀ g ∈ H.Base.foot, g ∉ foot2 H.Todo.val H.TodoT
  d04 : ∀ g ∈ H.Base.foot, g ∉ foot1 H.Log.val
  d12 : ∀ g ∈ foot1 H.Cells.val, g ∉ foot1 H.Jobs.val
  d13 : ∀ g ∈ foot1 H.Cells.val, g ∉ foot2 H.Todo.val H.TodoT
  d14 : ∀ g ∈ foot1 H.Cells.val, g ∉ foot1 H.Log.val
  d23 : ∀ g ∈ foot1 H.Jobs.val, g ∉ foot2 H.Todo.val H.TodoT
  d24 : ∀ g ∈ foot1 H.Jobs.val, g ∉ foot1 H.Log.val
  d34 : ∀ g ∈ foot2 H.Todo.val H.TodoT, g ∉ foot1 H.Log.val
theorem RdShelf.keep {w w' : World} {B B' : Nat} {H : HShelf} {x : Shelf} (h : RdShelf w B H x) (hk : ∀ k, k < B → w'.heap[k]? = w.heap[k]?) (hB : B ≤ B') : RdShelf w' B' H x :=
  ⟨h.Base.keep hk hB, h.Cells.keep hk hB, h.Jobs.keep hk hB, h.Todo.keep hk hB, h.Log.keep hk hB⟩
theorem HShelf.mem_foot {H : HShelf} {g : Nat} : g ∈ H.foot ↔ g ∈ H.Base.foot ∨ g ∈ foot1 H.Cells.val ∨ g ∈ foot1 H.Jobs.val ∨ g ∈ foot2 H.Todo.val H.TodoT ∨ g ∈ foot1 H.Log.val := by
  unfold HShelf.foot
  simp only [List.mem_append, or_assoc]
theorem OwShelf.lt {w : World} {H : HShelf} {x : Shelf} (h : OwShelf w H x) : ∀ g ∈ H.foot, g < w.heap.size := by
  intro g hg
  rcases HShelf.mem_foot.1 hg with hg | hg | hg | hg | hg
  · exact h.Base.lt g hg
  · exact (foot_lt h.Cells) g hg
  · exact (foot_lt h.Jobs) g hg
  · exact h.Todo.lt g hg
  · exact (foot_lt h.Log) g hg
theorem OwShelf.keep {w w' : World} {H : HShelf} {x : Shelf} (h : OwShelf w H x) (hk : ∀ g ∈ H.foot, w'.heap[g]? = w.heap[g]?) : OwShelf w' H x :=
  ⟨h.Base.keep (fun g hg => hk g (HShelf.mem_foot.2 (.inl hg))), h.Cells.keep (fun g hg => hk g (HShelf.mem_foot.2 ((.inr (.inl (mem_foot1.2 hg)))))), h.Jobs.keep (fun g hg => hk g (HShelf.mem_foot.2 ((.inr ((.inr (.inl (mem_foot1.2 hg)))))))), h.Todo.keep (fun g hg => hk g (HShelf.mem_foot.2 ((.inr ((.inr ((.inr (.inl hg))))))))), h.Log.keep (fun g hg => hk g (HShelf.mem_foot.2 ((.inr ((.inr ((.inr ((.inr (mem_foot1.2 hg))))))))))), h.d01, h.d02, h.d03, h.d04, h.d12, h.d13, h.d14, h.d23, h.d24, h.d34⟩
theorem OwShelf.chg {w w' : World} {H : HShelf} {x : Shelf} {F : List Nat} (h : OwShelf w H x) (hc : Chg F w w') (hd : ∀ g ∈ H.foot, g ∉ F) : OwShelf w' H x := h.keep fun g hg => hc.block g (h.lt g hg) (hd g hg)
theorem OwShelf.rd {w : World} {B : Nat} {H : HShelf} {x : Shelf} (h : OwShelf w H x) (hB : ∀ g ∈ H.foot, g < B) : RdShelf w B H x :=
  ⟨h.Base.rd (fun g hg => hB g (HShelf.mem_foot.2 (.inl hg))), h.Cells.rd (fun g hg => hB g (HShelf.mem_foot.2 ((.inr (.inl (mem_foot1.2 hg)))))), h.Jobs.rd (fun g hg => hB g (HShelf.mem_foot.2 ((.inr ((.inr (.inl (mem_foot1.2 hg)))))))), h.Todo.rd (fun g hg => hB g (HShelf.mem_foot.2 ((.inr ((.inr ((.inr (.inl hg))))))))), h.Log.rd (fun g hg => hB g (HShelf.mem_foot.2 ((.inr ((.inr ((.inr ((.inr (mem_foot1.2 hg)))))))))))⟩
theorem OwShelf.rd' {w : World} {H : HShelf} {x : Shelf} (h : OwShelf w H x) : RdShelf w w.heap.size H x := h.rd h.lt
def nMarkShelf (x : Shelf) : Nat := nMarkBase x.Base + x.Cells.length + x.Jobs.length * 21 + totLL x.Todo * 4 + x.Log.length * 7
def sizeShelf (x : Shelf) : Nat := sizeBase x.Base + x.Cells.length + x.Jobs.length + szLL x.Todo + x.Log.length
def markShelf (x : Shelf) (k : Int) : Shelf := { x with Base := markBase x.Base k, Cells := marks mkInt 1 x.Cells x.Cells.length (k + (nMarkBase x.Base : Nat)), Jobs := marks mkJob 21 x.Jobs x.Jobs.length (k + (nMarkBase x.Base : Nat) + (x.Cells.length : Nat)), Todo := markLL mkOp 4 x.Todo (k + (nMarkBase x.Base : Nat) + (x.Cells.length : Nat) + (x.Jobs.length * 21 : Nat)), Log := marks mkEv 7 x.Log x.Log.length (k + (nMarkBase x.Base : Nat) + (x.Cells.length : Nat) + (x.Jobs.length * 21 : Nat) + (totLL x.Todo * 4 : Nat)) }
end Go.Proofs.Ytdepckmjgpkjmaa

/-
  Queues of operations: compared, made, measured, marked.
-/
namespace Go.Proofs.Ytdepckmjgpkjmaa
open Go.RowKit

set_option maxHeartbeats 2000000 in
theorem toOp_ct (a0 a1 a2 a3 : Int) (w : World) : Calls Try.prog 130 #[.agg #[.int .i64 a0, .int .i64 a1, .int .i64 a2, .int .i64 a3]] w fun e w' => e = .returned (.agg #[.int .i64 a0, .int .i64 a1, .int .i64 a2, .int .i64 a3]) ∧ Below w.heap.size w w' := by
  go_enter Try.func130, Try.ntmps130
  go_wp2
  refine bodyPost_ret (v := .agg #[.int .i64 a0, .int .i64 a1, .int .i64 a2, .int .i64 a3]) (by simp [results, Try.results130, go_sem]) rfl ⟨rfl, ?_⟩
  repeat (first | exact Below.refl _ _ | refine Below.alloc ?_ (by simp <;> omega) _ | refine below_grow_of ?_ (by simp <;> omega) _ _ | refine Below.drew ?_ | refine below_drewN ?_ _)

set_option maxHeartbeats 2000000 in
theorem eqOp_ct (a0 a1 a2 a3 : Int) (w : World) : Calls Try.prog 136 #[.agg #[.int .i64 a0, .int .i64 a1, .int .i64 a2, .int .i64 a3], .agg #[.int .i64 a0, .int .i64 a1, .int .i64 a2, .int .i64 a3]] w fun e w' => e = .returned (.bool true) ∧ Below w.heap.size w w' := by
  go_enter Try.func136, Try.ntmps136
  go_wp2
  go_ret
  exact ⟨rfl, by repeat (first | exact Below.refl _ _ | refine Below.alloc ?_ (by simp <;> omega) _ | refine below_grow_of ?_ (by simp <;> omega) _ _ | refine Below.drew ?_ | refine below_drewN ?_ _)⟩

theorem Try.infoOp : (Try.prog.info? 93).map (fun i => (i.zero, i.size, i.bytes)) = some (some (.agg #[.int .i64 0, .int .i64 0, .int .i64 0, .int .i64 0]), FOp.n, 32) := by kernel_rfl
set_option maxHeartbeats 1000000 in
theorem toOpS_ct (w : World) (v : Value) (l : List Op) (h : RdL FOp w w.heap.size v l) (hs : l.length ≤ 1048576) :
    Calls Try.prog 107 #[v] w fun e w' => e = .returned (.slice (some ⟨w.heap.size, 0, none⟩) l.length l.length) ∧ OwL FOp 93 w' (.slice (some ⟨w.heap.size, 0, none⟩) l.length l.length) l ∧ Below w.heap.size w w' := by
  have hmk := run_make_flat (P := Try.prog) FOp 98 93 (.agg #[.int .i64 0, .int .i64 0, .int .i64 0, .int .i64 0]) 32 Try.underlying98 Try.infoOp l.length (by omega) (by omega)
  obtain ⟨A, cap, hv, _⟩ := id h
  subst hv
  go_enter Try.func107, Try.ntmps107
  go_wp2
  clear hmk
  go_loopw [4] (fun i wr => ∃ k : Nat, k ≤ l.length ∧ i = .int .i64 k ∧ OwL FOp 93 wr (.slice (some ⟨w.heap.size, 0, none⟩) l.length l.length) (l.take k ++ List.replicate (l.length - k) ⟨0, 0, 0, 0⟩) ∧ Below w.heap.size w wr) (fun i _ => l.length - (intOf i).toNat)
  case atStart => exact ⟨0, Nat.zero_le _, rfl, OwL.made FOp #[.int .i64 0, .int .i64 0, .int .i64 0, .int .i64 0] rfl l.length (by simp [maxLen]; omega) w 93, (Below.refl _ _).alloc (Nat.le_refl _) _⟩
  case round =>
    obtain ⟨i, hk, rfl, ho, hb⟩ := hrel
    by_cases hlt : i < l.length
    · obtain ⟨g, off, cap', he, hg, _, _, hc⟩ := (h.below hb).at_ (List.getElem?_eq_getElem hlt)
      injection he with he1 he2 he3
      subst he1 he3
      have p0 : wr.cell? ⟨g, off + i * 4, none⟩ = some (.int .i64 l[i].Kind) := hc 0 _ rfl
      have p1 : wr.cell? ⟨g, off + i * 4 + 1, none⟩ = some (.int .i64 l[i].Cell) := hc 1 _ rfl
      have p2 : wr.cell? ⟨g, off + i * 4 + 2, none⟩ = some (.int .i64 l[i].Size) := hc 2 _ rfl
      have p3 : wr.cell? ⟨g, off + i * 4 + 3, none⟩ = some (.int .i64 l[i].Val) := hc 3 _ rfl
      have hx := upd_get l ⟨0, 0, 0, 0⟩ i hlt
      have hz : w.heap.size < wr.heap.size := (World.ownsRow.lt ho _ rfl).2
      have hf := ho.frozen_
      have c0 : wr.cell? ⟨w.heap.size, i * 4, none⟩ = some (.int .i64 0) := ho.cell_ (j := 0) hx (by decide)
      have c1 : wr.cell? ⟨w.heap.size, i * 4 + 1, none⟩ = some (.int .i64 0) := ho.cell_ (j := 1) hx (by decide)
      have c2 : wr.cell? ⟨w.heap.size, i * 4 + 2, none⟩ = some (.int .i64 0) := ho.cell_ (j := 2) hx (by decide)
      have c3 : wr.cell? ⟨w.heap.size, i * 4 + 3, none⟩ = some (.int .i64 0) := ho.cell_ (j := 3) hx (by decide)
      clear hc
      go_wp2_with (go_at_call 130; refine (toOp_ct _ _ _ _ _).mono ?_; rintro e w1 ⟨rfl, hb1⟩; obtain ⟨os1, d1, rfl⟩ := below_grows hb1; clear hb1)
      clear hf c0 p0 c1 p1 c2 p2 c3 p3
      go_roundw
      case rel =>
        have s0 := ho.set_ (j := 0) (y := (⟨l[i].Kind, 0, 0, 0⟩ : Op)) (u := .int .i64 l[i].Kind) hx (by decide) rfl
        have s1 := s0.set_ (j := 1) (y := (⟨l[i].Kind, l[i].Cell, 0, 0⟩ : Op)) (u := .int .i64 l[i].Cell) (set_get (⟨l[i].Kind, 0, 0, 0⟩ : Op) hx) (by decide) rfl
        have s2 := s1.set_ (j := 2) (y := (⟨l[i].Kind, l[i].Cell, l[i].Size, 0⟩ : Op)) (u := .int .i64 l[i].Size) (set_get (⟨l[i].Kind, l[i].Cell, 0, 0⟩ : Op) (set_get (⟨l[i].Kind, 0, 0, 0⟩ : Op) hx)) (by decide) rfl
        have s3 := s2.set_ (j := 3) (y := (⟨l[i].Kind, l[i].Cell, l[i].Size, l[i].Val⟩ : Op)) (u := .int .i64 l[i].Val) (set_get (⟨l[i].Kind, l[i].Cell, l[i].Size, 0⟩ : Op) (set_get (⟨l[i].Kind, l[i].Cell, 0, 0⟩ : Op) (set_get (⟨l[i].Kind, 0, 0, 0⟩ : Op) hx))) (by decide) rfl
        simp only [List.set_set] at s3
        have e := upd_step l ⟨0, 0, 0, 0⟩ i hlt
        refine ⟨i + 1, by omega, by go_num, ?_, ?_⟩
        · rw [← e]
          first | exact OwL.grow_ s3 _ _ | exact s3
        · first | exact below_grow_of (Below.setCell (Below.setCell (Below.setCell (Below.setCell (hb) (by simp) _) (by simp) _) (by simp) _) (by simp) _) (by simp; omega) _ _ | exact (Below.setCell (Below.setCell (Below.setCell (Below.setCell (hb) (by simp) _) (by simp) _) (by simp) _) (by simp) _)
      case measure => simp [intOf]; omega
    · go_wp2
      go_ret
      obtain rfl : i = l.length := by omega
      exact ⟨rfl, by simpa using ho, hb⟩

set_option maxHeartbeats 1000000 in
theorem eqOpS_ct (w : World) (v1 v2 : Value) (l : List Op) (h1 : RdL FOp w w.heap.size v1 l) (h2 : RdL FOp w w.heap.size v2 l) (hs : l.length ≤ 1073741824) :
    Calls Try.prog 117 #[v1, v2] w fun e w' => e = .returned (.bool true) ∧ Below w.heap.size w w' := by
  obtain ⟨A1, c1, hv1, _⟩ := id h1
  obtain ⟨A2, c2, hv2, _⟩ := id h2
  subst hv1 hv2
  go_enter Try.func117, Try.ntmps117
  go_wp2
  go_loopw [5] (fun i wr => ∃ k : Nat, k ≤ l.length ∧ i = .int .i64 k ∧ Below w.heap.size w wr) (fun i _ => l.length - (intOf i).toNat)
  case atStart => exact ⟨0, Nat.zero_le _, rfl, Below.refl _ _⟩
  case round =>
    obtain ⟨i, hk, rfl, hb⟩ := hrel
    by_cases hlt : i < l.length
    · obtain ⟨g1, o1, cap1, e1, b1, _, _, q1⟩ := (h1.below hb).at_ (List.getElem?_eq_getElem hlt)
      obtain ⟨g2, o2, cap2, e2, b2, _, _, q2⟩ := (h2.below hb).at_ (List.getElem?_eq_getElem hlt)
      injection e1 with e11 _ e13
      injection e2 with e21 _ e23
      subst e11 e13 e21 e23
      have z1 : g1 < wr.heap.size := Nat.lt_of_lt_of_le b1 hb.size
      have z0 : w.heap.size ≤ wr.heap.size := hb.size
      have z2 : g2 < wr.heap.size := Nat.lt_of_lt_of_le b2 hb.size
      have p0 : wr.cell? ⟨g1, o1 + i * 4, none⟩ = some (.int .i64 l[i].Kind) := q1 0 _ rfl
      have p1 : wr.cell? ⟨g1, o1 + i * 4 + 1, none⟩ = some (.int .i64 l[i].Cell) := q1 1 _ rfl
      have p2 : wr.cell? ⟨g1, o1 + i * 4 + 2, none⟩ = some (.int .i64 l[i].Size) := q1 2 _ rfl
      have p3 : wr.cell? ⟨g1, o1 + i * 4 + 3, none⟩ = some (.int .i64 l[i].Val) := q1 3 _ rfl
      have r0 : wr.cell? ⟨g2, o2 + i * 4, none⟩ = some (.int .i64 l[i].Kind) := q2 0 _ rfl
      have r1 : wr.cell? ⟨g2, o2 + i * 4 + 1, none⟩ = some (.int .i64 l[i].Cell) := q2 1 _ rfl
      have r2 : wr.cell? ⟨g2, o2 + i * 4 + 2, none⟩ = some (.int .i64 l[i].Size) := q2 2 _ rfl
      have r3 : wr.cell? ⟨g2, o2 + i * 4 + 3, none⟩ = some (.int .i64 l[i].Val) := q2 3 _ rfl
      clear q1 q2
      go_wp2
      go_region_held3 (fun w' => w'.cell? ⟨g1, o1 + i * 4, none⟩ = some (.int .i64 l[i].Kind) ∧ w'.cell? ⟨g1, o1 + i * 4 + 1, none⟩ = some (.int .i64 l[i].Cell) ∧ w'.cell? ⟨g1, o1 + i * 4 + 2, none⟩ = some (.int .i64 l[i].Size) ∧ w'.cell? ⟨g1, o1 + i * 4 + 3, none⟩ = some (.int .i64 l[i].Val) ∧ w'.cell? ⟨g2, o2 + i * 4, none⟩ = some (.int .i64 l[i].Kind) ∧ w'.cell? ⟨g2, o2 + i * 4 + 1, none⟩ = some (.int .i64 l[i].Cell) ∧ w'.cell? ⟨g2, o2 + i * 4 + 2, none⟩ = some (.int .i64 l[i].Size) ∧ w'.cell? ⟨g2, o2 + i * 4 + 3, none⟩ = some (.int .i64 l[i].Val) ∧ g1 < w'.heap.size ∧ g2 < w'.heap.size ∧ Below w.heap.size w w') (first | (go_keep; done) | ((try go_split_ands); refine ⟨?_, ?_, ?_, ?_, ?_, ?_, ?_, ?_, ?_, ?_, ?_⟩; all_goals first | assumption | exact Below.drew (by assumption) | (simp [go_sem, *]; done) | exact below_grow_of (by assumption) (by omega) _ _ | (rw [size_grow]; omega))) ((go_at_call 136; refine (eqOp_ct _ _ _ _ _).mono ?_; rintro e w1 ⟨rfl, hb1⟩; obtain ⟨os1, d1, rfl⟩ := below_grows hb1; clear hb1))
      go_wp2
      go_roundw
      case rel => exact ⟨i + 1, by omega, by go_num, by first | assumption | (try go_split_ands; assumption)⟩
      case measure => simp [intOf]; omega
    · go_wp2
      go_ret
      exact ⟨rfl, hb⟩

set_option maxHeartbeats 1000000 in
theorem markOpS_ct (w : World) (v : Value) (l : List Op) (k : Int) (h : OwL FOp 93 w v l) (hk0 : 0 ≤ k) (hk1 : (k + (l.length : Int) * 4) ≤ 4611686018427387904) :
    Calls Try.prog 73 #[v, .int .i64 k] w fun e w' => e = .returned (.int .i64 (k + (l.length : Int) * 4)) ∧ OwL FOp 93 w' v (marks mkOp 4 l l.length k) ∧ w.grownBy w' v.ownBlock ∧ w'.heap.size = w.heap.size := by
  rcases h.form with ⟨rfl, rfl⟩ | ⟨g, cap, hv, hg, hl, hc⟩
  · go_enter Try.func73, Try.ntmps73
    go_wp2
    go_loop [1, 5] (fun q i => q = .int .i64 k ∧ i = .int .i64 0) (fun _ _ => 0)
    case atStart => exact ⟨rfl, rfl⟩
    case round =>
      obtain ⟨rfl, rfl⟩ := hrel
      go_wp2
      go_ret
      exact ⟨by simp, h, World.grownBy.refl _ _, rfl⟩
  subst hv
  go_enter Try.func73, Try.ntmps73
  go_wp2
  go_loopw [1, 5] (fun q i wr => ∃ i' : Nat, i' ≤ l.length ∧ i = .int .i64 i' ∧ q = .int .i64 (k + (i' : Int) * 4) ∧ OwL FOp 93 wr (.slice (some ⟨g, 0, none⟩) l.length cap) (marks mkOp 4 l i' k) ∧ w.grownBy wr (some g) ∧ wr.heap.size = w.heap.size) (fun _ i _ => l.length - (intOf i).toNat)
  case atStart => exact ⟨0, Nat.zero_le _, rfl, by simp, h, World.grownBy.refl _ _, rfl⟩
  case round =>
    obtain ⟨i, hi, rfl, rfl, ho, hgr, hsz⟩ := hrel
    by_cases hlt : i < l.length
    · have hx := marks_get mkOp 4 l i k hlt
      have hf := ho.frozen_
      have c0 : wr.cell? ⟨g, i * 4, none⟩ = some (.int .i64 l[i].Kind) := ho.cell_ (j := 0) hx (by decide)
      have c1 : wr.cell? ⟨g, i * 4 + 1, none⟩ = some (.int .i64 l[i].Cell) := ho.cell_ (j := 1) hx (by decide)
      have c2 : wr.cell? ⟨g, i * 4 + 2, none⟩ = some (.int .i64 l[i].Size) := ho.cell_ (j := 2) hx (by decide)
      have c3 : wr.cell? ⟨g, i * 4 + 3, none⟩ = some (.int .i64 l[i].Val) := ho.cell_ (j := 3) hx (by decide)
      clear h
      go_wp2
      clear hf c0 c1 c2 c3
      go_roundw
      case rel =>
        have s0 := ho.set_ (j := 0) (y := (⟨(k + (i : Int) * 4), l[i].Cell, l[i].Size, l[i].Val⟩ : Op)) (u := .int .i64 (k + (i : Int) * 4)) hx (by decide) rfl
        have s1 := s0.set_ (j := 1) (y := (⟨(k + (i : Int) * 4), (k + (i : Int) * 4 + 1), l[i].Size, l[i].Val⟩ : Op)) (u := .int .i64 (k + (i : Int) * 4 + 1)) (set_get (⟨(k + (i : Int) * 4), l[i].Cell, l[i].Size, l[i].Val⟩ : Op) hx) (by decide) rfl
        have s2 := s1.set_ (j := 2) (y := (⟨(k + (i : Int) * 4), (k + (i : Int) * 4 + 1), (k + (i : Int) * 4 + 1 + 1), l[i].Val⟩ : Op)) (u := .int .i64 (k + (i : Int) * 4 + 1 + 1)) (set_get (⟨(k + (i : Int) * 4), (k + (i : Int) * 4 + 1), l[i].Size, l[i].Val⟩ : Op) (set_get (⟨(k + (i : Int) * 4), l[i].Cell, l[i].Size, l[i].Val⟩ : Op) hx)) (by decide) rfl
        have s3 := s2.set_ (j := 3) (y := (⟨(k + (i : Int) * 4), (k + (i : Int) * 4 + 1), (k + (i : Int) * 4 + 1 + 1), (k + (i : Int) * 4 + 1 + 1 + 1)⟩ : Op)) (u := .int .i64 (k + (i : Int) * 4 + 1 + 1 + 1)) (set_get (⟨(k + (i : Int) * 4), (k + (i : Int) * 4 + 1), (k + (i : Int) * 4 + 1 + 1), l[i].Val⟩ : Op) (set_get (⟨(k + (i : Int) * 4), (k + (i : Int) * 4 + 1), l[i].Size, l[i].Val⟩ : Op) (set_get (⟨(k + (i : Int) * 4), l[i].Cell, l[i].Size, l[i].Val⟩ : Op) hx))) (by decide) rfl
        refine ⟨i + 1, by omega, by go_num, by go_num, ?_, grown_set (grown_set (grown_set (grown_set (hgr) _ _) _ _) _ _) _ _, by simp [hsz]⟩
        simp only [List.set_set] at s3
        have e := marks_step mkOp 4 l i k hlt
        rw [← e]
        exact s3
      case measure => simp [intOf]; omega
    · go_wp2
      go_ret
      obtain rfl : i = l.length := by omega
      exact ⟨rfl, ho, hgr, hsz⟩

set_option maxHeartbeats 1000000 in
theorem heldOpS_ct (w : World) (v : Value) (l : List Op) (k : Int) (h : RdL FOp w w.heap.size v (marks mkOp 4 l l.length k)) (hk0 : 0 ≤ k) (hk1 : (k + (l.length : Int) * 4) ≤ 4611686018427387904) :
    Calls Try.prog 121 #[v, .int .i64 k] w fun e w' => e = .returned (.int .i64 (k + (l.length : Int) * 4)) ∧ Below w.heap.size w w' := by
  obtain ⟨A, cap, hv, _⟩ := id h
  rw [marks_length] at hv
  subst hv
  go_enter Try.func121, Try.ntmps121
  go_wp2
  go_loopw [1, 5] (fun q i wr => ∃ i' : Nat, i' ≤ l.length ∧ i = .int .i64 i' ∧ q = .int .i64 (k + (i' : Int) * 4) ∧ Below w.heap.size w wr) (fun _ i _ => l.length - (intOf i).toNat)
  case atStart => exact ⟨0, Nat.zero_le _, rfl, by simp, Below.refl _ _⟩
  case round =>
    obtain ⟨i, hi, rfl, rfl, hb⟩ := hrel
    by_cases hlt : i < l.length
    · obtain ⟨g, off, cap', he, _, _, _, hq⟩ := (h.below hb).at_ (marks_at mkOp 4 l k i hlt)
      injection he with he1 he2 he3
      clear he2
      subst he1 he3
      have c0 : wr.cell? ⟨g, off + i * 4, none⟩ = some (.int .i64 (k + (i : Int) * 4)) := hq 0 _ rfl
      have c1 : wr.cell? ⟨g, off + i * 4 + 1, none⟩ = some (.int .i64 (k + (i : Int) * 4 + 1)) := hq 1 _ rfl
      have c2 : wr.cell? ⟨g, off + i * 4 + 2, none⟩ = some (.int .i64 (k + (i : Int) * 4 + 1 + 1)) := hq 2 _ rfl
      have c3 : wr.cell? ⟨g, off + i * 4 + 3, none⟩ = some (.int .i64 (k + (i : Int) * 4 + 1 + 1 + 1)) := hq 3 _ rfl
      clear hq
      go_wp2
      all_goals
        go_roundw
        case rel => exact ⟨i + 1, by omega, by go_num, by go_num, by first | exact hb | exact below_drewN hb _⟩
        case measure => simp [intOf]; omega
    · go_wp2
      go_ret
      obtain rfl : i = l.length := by omega
      exact ⟨rfl, hb⟩

set_option maxHeartbeats 400000 in
theorem eqQueue_ct (w : World) (v1 v2 : Value) (l : List Op) (h1 : RdL FOp w w.heap.size v1 l) (h2 : RdL FOp w w.heap.size v2 l) (hs : l.length ≤ 1073741824) :
    Calls Try.prog 72 #[.agg #[v1], .agg #[v2]] w fun e w' => e = .returned (.bool true) ∧ Below w.heap.size w w' := by
  obtain ⟨A1, c1, hv1, _⟩ := id h1
  obtain ⟨A2, c2, hv2, _⟩ := id h2
  subst hv1 hv2
  go_enter Try.func72, Try.ntmps72
  go_wp2_with (go_at_call 117; refine (eqOpS_ct _ _ _ l (rd_up h1 (by repeat (first | exact Below.refl _ _ | refine Below.alloc ?_ (by simp <;> omega) _ | refine below_grow_of ?_ (by simp <;> omega) _ _ | refine Below.drew ?_ | refine below_drewN ?_ _))) (rd_up h2 (by repeat (first | exact Below.refl _ _ | refine Below.alloc ?_ (by simp <;> omega) _ | refine below_grow_of ?_ (by simp <;> omega) _ _ | refine Below.drew ?_ | refine below_drewN ?_ _))) hs).mono ?_; rintro e w1 ⟨rfl, hb1⟩; obtain ⟨os1, d1, rfl⟩ := below_grows hb1; clear hb1)
  go_ret
  exact ⟨rfl, by repeat (first | exact Below.refl _ _ | refine Below.alloc ?_ (by simp <;> omega) _ | refine below_grow_of ?_ (by simp <;> omega) _ _ | refine Below.drew ?_ | refine below_drewN ?_ _)⟩

set_option maxHeartbeats 1000000 in
theorem eqQueueS_ct (w : World) (v1 v2 : Value) (t1 t2 : List SV) (ll : List (List Op)) (h1 : RdLL FOp w w.heap.size v1 t1 ll) (h2 : RdLL FOp w w.heap.size v2 t2 ll) (hs : szLL ll ≤ 1073741824) :
    Calls Try.prog 33 #[v1, v2] w fun e w' => e = .returned (.bool true) ∧ Below w.heap.size w w' := by
  obtain ⟨A1, c1, hv1, _⟩ := id h1.outer
  obtain ⟨A2, c2, hv2, _⟩ := id h2.outer
  have n1 := h1.len
  have n2 := h2.len
  rw [n1] at hv1
  rw [n2] at hv2
  have hs0 : ll.length ≤ 1073741824 := Nat.le_trans (Nat.le_add_right _ _) hs
  subst hv1 hv2
  have N1 : Hid (t1.length = ll.length) := n1
  have N2 : Hid (t2.length = ll.length) := n2
  clear n1 n2
  go_enter Try.func33, Try.ntmps33
  go_wp2
  go_loopw [5] (fun i wr => ∃ k : Nat, k ≤ ll.length ∧ i = .int .i64 k ∧ Below w.heap.size w wr) (fun i _ => ll.length - (intOf i).toNat)
  case atStart => exact ⟨0, Nat.zero_le _, rfl, Below.refl _ _⟩
  case round =>
    obtain ⟨i, hk, rfl, hb⟩ := hrel
    by_cases hlt : i < ll.length
    · have m1 : t1[i]? = some (t1[i]'(by rw [N1.out]; exact hlt)) := List.getElem?_eq_getElem _
      have m2 : t2[i]? = some (t2[i]'(by rw [N2.out]; exact hlt)) := List.getElem?_eq_getElem _
      have r1 := h1.inner i _ _ m1 (List.getElem?_eq_getElem hlt)
      have r2 := h2.inner i _ _ m2 (List.getElem?_eq_getElem hlt)
      obtain ⟨g1, o1, cap1, e1, b1, _, _, q1⟩ := (h1.outer.below hb).at_ m1
      obtain ⟨g2, o2, cap2, e2, b2, _, _, q2⟩ := (h2.outer.below hb).at_ m2
      generalize t1[i]'(by rw [N1.out]; exact hlt) = s1 at m1 r1 q1
      generalize t2[i]'(by rw [N2.out]; exact hlt) = s2 at m2 r2 q2
      injection e1 with e11 e12 e13
      injection e2 with e21 e22 e23
      clear e12 e22
      subst e11 e13 e21 e23
      have z1 : g1 < wr.heap.size := Nat.lt_of_lt_of_le b1 hb.size
      have z0 : w.heap.size ≤ wr.heap.size := hb.size
      have z2 : g2 < wr.heap.size := Nat.lt_of_lt_of_le b2 hb.size
      have p0 : wr.cell? ⟨g1, o1 + i, none⟩ = some (.slice s1.a s1.len s1.cap) := by simpa [FS] using q1 0 _ rfl
      have r0 : wr.cell? ⟨g2, o2 + i, none⟩ = some (.slice s2.a s2.len s2.cap) := by simpa [FS] using q2 0 _ rfl
      have hs1 : ll[i].length ≤ 1073741824 := Nat.le_trans (le_szLL (List.getElem_mem hlt)) hs
      clear q1 q2 m1 m2
      go_wp2
      go_region_held3 (fun w' => w'.cell? ⟨g1, o1 + i, none⟩ = some (.slice s1.a s1.len s1.cap) ∧ w'.cell? ⟨g2, o2 + i, none⟩ = some (.slice s2.a s2.len s2.cap) ∧ g1 < w'.heap.size ∧ g2 < w'.heap.size ∧ Below w.heap.size w w') (first | (go_keep; done) | ((try go_split_ands); refine ⟨?_, ?_, ?_, ?_, ?_⟩; all_goals first | assumption | exact Below.drew (by assumption) | (simp [go_sem, *]; done) | exact below_grow_of (by assumption) (by omega) _ _ | (rw [size_grow]; omega))) ((go_at_call 72; refine (eqQueue_ct _ _ _ _ (rd_up r1 (by go_split_ands; assumption)) (rd_up r2 (by go_split_ands; assumption)) hs1).mono ?_; rintro e w1 ⟨rfl, hb1⟩; obtain ⟨os1, d1, rfl⟩ := below_grows hb1; clear hb1))
      go_wp2
      go_roundw
      case rel => exact ⟨i + 1, by omega, by go_num, by first | assumption | (try go_split_ands; assumption)⟩
      case measure => simp [intOf]; omega
    · go_wp2
      go_ret
      exact ⟨rfl, hb⟩

set_option maxHeartbeats 1000000 in
theorem markQueueS_ct (w : World) (v : Value) (t : List SV) (ll : List (List Op)) (k : Int) (h : OwLL FOp 93 100 w v t ll) (hk0 : 0 ≤ k) (hk1 : (k + (totLL ll : Int) * 4) ≤ 4611686018427387904) :
    Calls Try.prog 34 #[v, .int .i64 k] w fun e w' => e = .returned (.int .i64 (k + (totLL ll : Int) * 4)) ∧ OwLL FOp 93 100 w' v t (markLL mkOp 4 ll k) ∧ Chg (foot2 v t) w w' := by
  obtain ⟨A, c, hv, _⟩ := id h.rd'.outer
  rw [h.len] at hv
  have hlt0 : ll.length ≤ 9223372036854775807 := by
    have := h.rd'.outer
    obtain ⟨_, c', _, q1, q2, _⟩ := this
    rw [h.len] at q1
    unfold maxLen at q2
    omega
  subst hv
  go_enter Try.func34, Try.ntmps34
  go_wp2
  go_loopw [1, 5] (fun q i wr => ∃ i' : Nat, i' ≤ ll.length ∧ i = .int .i64 i' ∧ q = .int .i64 (k + (totLL (ll.take i') : Int) * 4) ∧ OwLL FOp 93 100 wr (.slice A ll.length c) t (marksLL mkOp 4 ll i' k) ∧ Chg (foot2 (.slice A ll.length c) t) w wr) (fun _ i _ => ll.length - (intOf i).toNat)
  case atStart => exact ⟨0, Nat.zero_le _, rfl, by simp [totLL], h, Chg.refl _ _⟩
  case round =>
    obtain ⟨i, hi, rfl, rfl, ho, hch⟩ := hrel
    by_cases hlt : i < ll.length
    · have hT : Hid (t.length = ll.length) := h.len
      have m1 : t[i]? = some (t[i]'(by rw [hT.out]; exact hlt)) := List.getElem?_eq_getElem _
      generalize t[i]'(by rw [hT.out]; exact hlt) = s at m1
      have ro := ho.inner i s _ m1 (marksLL_get mkOp 4 ll i k hlt)
      obtain ⟨g, o1, cap1, e1, b1, _, _, q1⟩ := ho.rd'.outer.at_ m1
      injection e1 with e11 e12 e13
      clear e12
      subst e11 e13
      have p0 : wr.cell? ⟨g, o1 + i, none⟩ = some (.slice s.a s.len s.cap) := by simpa [FS] using q1 0 _ rfl
      have ht1 := totLL_take_succ ll i hlt
      have ht2 := totLL_take_le ll (i + 1)
      have HT : Hid (totLL (ll.take (i + 1)) = totLL (ll.take i) + ll[i].length) := ht1
      have kb : k + (totLL (ll.take i) : Int) * 4 + (ll[i].length : Int) * 4 ≤ 4611686018427387904 := by omega
      have k0 : 0 ≤ k + (totLL (ll.take i) : Int) * 4 := by omega
      clear q1 ht1 h
      go_wp2_with (go_at_call 73; refine (markOpS_ct _ s.val ll[i] _ ro (by omega) (by omega)).mono ?_; rintro e w1 ⟨rfl, ho1, hg1, hs1⟩)
      go_roundw
      case rel =>
        refine ⟨i + 1, by omega, by go_num, by rw [HT.out]; go_num, ?_, hch.trans ((Chg.of_grown hg1).mono fun g hg => mem_foot2.2 (.inr ⟨s, List.mem_of_getElem? m1, mem_foot1.1 hg⟩))⟩
        have e := marksLL_step mkOp 4 ll i k hlt
        rw [← e]
        refine ho.set_row m1 ?_ (Chg.of_grown hg1)
        exact ho1
      case measure => simp [intOf]; omega
    · go_wp2
      go_ret
      obtain rfl : i = ll.length := by omega
      exact ⟨by simp, by rw [← marksLL_all]; exact ho, hch⟩

set_option maxHeartbeats 1000000 in
theorem heldQueueS_ct (w : World) (v : Value) (t : List SV) (ll : List (List Op)) (k : Int) (h : RdLL FOp w w.heap.size v t (markLL mkOp 4 ll k)) (hk0 : 0 ≤ k) (hk1 : (k + (totLL ll : Int) * 4) ≤ 4611686018427387904) :
    Calls Try.prog 77 #[v, .int .i64 k] w fun e w' => e = .returned (.int .i64 (k + (totLL ll : Int) * 4)) ∧ Below w.heap.size w w' := by
  obtain ⟨A, c, hv, q1, q2, _⟩ := id h.outer
  have hlen : t.length = ll.length := h.len.trans (length_markLL _ _ _ _)
  rw [hlen] at hv q1
  have hlt0 : ll.length ≤ 9223372036854775807 := by
    unfold maxLen at q2
    omega
  subst hv
  have hT : Hid (t.length = ll.length) := hlen
  clear hlen
  go_enter Try.func77, Try.ntmps77
  go_wp2
  go_loopw [1, 5] (fun q i wr => ∃ i' : Nat, i' ≤ ll.length ∧ i = .int .i64 i' ∧ q = .int .i64 (k + (totLL (ll.take i') : Int) * 4) ∧ Below w.heap.size w wr) (fun _ i _ => ll.length - (intOf i).toNat)
  case atStart => exact ⟨0, Nat.zero_le _, rfl, by simp [totLL], Below.refl _ _⟩
  case round =>
    obtain ⟨i, hi, rfl, rfl, hb⟩ := hrel
    by_cases hlt : i < ll.length
    · have m1 : t[i]? = some (t[i]'(by rw [hT.out]; exact hlt)) := List.getElem?_eq_getElem _
      generalize t[i]'(by rw [hT.out]; exact hlt) = s at m1
      have ro := rd_up (h.inner i s _ m1 (markLL_get mkOp 4 ll i k hlt)) hb
      obtain ⟨g, o1, cap1, e1, b1, _, _, q1⟩ := (h.outer.below hb).at_ m1
      injection e1 with e11 e12 e13
      clear e12
      subst e11 e13
      have p0 : wr.cell? ⟨g, o1 + i, none⟩ = some (.slice s.a s.len s.cap) := by simpa [FS] using q1 0 _ rfl
      have ht1 := totLL_take_succ ll i hlt
      have ht2 := totLL_take_le ll (i + 1)
      have HT : Hid (totLL (ll.take (i + 1)) = totLL (ll.take i) + ll[i].length) := ht1
      have kb : k + (totLL (ll.take i) : Int) * 4 + (ll[i].length : Int) * 4 ≤ 4611686018427387904 := by omega
      have k0 : 0 ≤ k + (totLL (ll.take i) : Int) * 4 := by omega
      clear q1 ht1 h
      go_wp2_with (go_at_call 121; refine (heldOpS_ct _ s.val ll[i] _ ro (by omega) (by omega)).mono ?_; rintro e w1 ⟨rfl, hb1⟩; obtain ⟨os1, d1, rfl⟩ := below_grows hb1; clear hb1)
      go_roundw
      case rel => exact ⟨i + 1, by omega, by go_num, by rw [HT.out]; go_num, below_grow_of hb hb.size _ _⟩
      case measure => simp [intOf]; omega
    · go_wp2
      go_ret
      obtain rfl : i = ll.length := by omega
      exact ⟨by simp, hb⟩

set_option maxHeartbeats 400000 in
theorem toQueue_ct (w : World) (v : Value) (l : List Op) (h : RdL FOp w w.heap.size v l) (hs : l.length ≤ 1048576) :
    Calls Try.prog 68 #[.agg #[v]] w fun e w' => ∃ s : SV, e = .returned (.agg #[.slice s.a s.len s.cap]) ∧ OwL FOp 93 w' s.val l ∧ (∀ g ∈ foot1 s.val, w.heap.size ≤ g) ∧ Below w.heap.size w w' := by
  obtain ⟨A, c, hv, _⟩ := id h
  subst hv
  go_enter Try.func68, Try.ntmps68
  go_wp2_with fail
  refine (toOpS_ct _ _ l (rd_up h (by repeat (first | exact Below.refl _ _ | refine Below.alloc ?_ (by simp <;> omega) _ | refine below_grow_of ?_ (by simp <;> omega) _ _ | refine Below.drew ?_ | refine below_drewN ?_ _))) hs).mono ?_
  rintro e w1 ⟨rfl, ho, hb1⟩
  obtain ⟨os1, d1, rfl⟩ := below_grows hb1
  clear hb1
  go_wp2
  refine bodyPost_ret (v := .agg #[.slice (some ⟨w.heap.size + 1 + 1 + 1, 0, none⟩) l.length l.length]) (by simp [results, Try.results68, go_sem]) rfl ⟨⟨_, _, _⟩, rfl, ?_, ?_, ?_⟩
  · simp only [World.size_alloc] at ho
    refine OwL.regrow ho ?_ ?_ _
    · simp
    · simp [foot1, Value.ownBlock]
  · simp [foot1, Value.ownBlock, SV.val]; omega
  · repeat (first | exact Below.refl _ _ | refine Below.alloc ?_ (by simp <;> omega) _ | refine below_grow_of ?_ (by simp <;> omega) _ _ | refine Below.drew ?_ | refine below_drewN ?_ _)

theorem Try.infoQueue : (Try.prog.info? 100).map (fun i => (i.zero, i.size, i.bytes)) = some (some (.agg #[.slice none 0 0]), FS.n, 24) := by kernel_rfl
set_option maxHeartbeats 1000000 in
theorem toQueueS_ct (w : World) (v : Value) (t : List SV) (ll : List (List Op)) (h : RdLL FOp w w.heap.size v t ll) (hs : szLL ll ≤ 1048576) :
    Calls Try.prog 31 #[v] w fun e w' => ∃ t' : List SV, e = .returned (.slice (some ⟨w.heap.size, 0, none⟩) ll.length ll.length) ∧ OwLL FOp 93 100 w' (.slice (some ⟨w.heap.size, 0, none⟩) ll.length ll.length) t' ll ∧ (∀ g ∈ foot2 (.slice (some ⟨w.heap.size, 0, none⟩) ll.length ll.length) t', w.heap.size ≤ g) ∧ Below w.heap.size w w' := by
  have hs0 : ll.length ≤ 1048576 := Nat.le_trans (Nat.le_add_right _ _) hs
  have hmk := run_make_flat (P := Try.prog) FS 67 100 (.agg #[.slice none 0 0]) 24 Try.underlying67 Try.infoQueue ll.length (by omega) (by omega)
  obtain ⟨A, cap, hv, _⟩ := id h.outer
  have N1 : Hid (t.length = ll.length) := h.len
  rw [h.len] at hv
  subst hv
  go_enter Try.func31, Try.ntmps31
  go_wp2
  clear hmk
  go_loopw [4] (fun i wr => ∃ k : Nat, k ≤ ll.length ∧ i = .int .i64 k ∧ (∃ t' : List SV, OwLL FOp 93 100 wr (.slice (some ⟨w.heap.size, 0, none⟩) ll.length ll.length) t' (ll.take k ++ List.replicate (ll.length - k) []) ∧ (∀ g ∈ foot2 (.slice (some ⟨w.heap.size, 0, none⟩) ll.length ll.length) t', w.heap.size ≤ g)) ∧ Below w.heap.size w wr) (fun i _ => ll.length - (intOf i).toNat)
  case atStart => exact ⟨0, Nat.zero_le _, rfl, ⟨_, OwLL.made #[.slice none 0 0] rfl ll.length (by simp [maxLen]; omega) w FOp 93 100, foot2_made _ _⟩, (Below.refl _ _).alloc (Nat.le_refl _) _⟩
  case round =>
    obtain ⟨i, hk, rfl, ⟨t', ho, hfo⟩, hb⟩ := hrel
    by_cases hlt : i < ll.length
    · have m1 : t[i]? = some (t[i]'(by rw [N1.out]; exact hlt)) := List.getElem?_eq_getElem _
      have r1 := h.inner i _ _ m1 (List.getElem?_eq_getElem hlt)
      obtain ⟨g1, o1, cap1, e1, b1, _, _, q1⟩ := (h.outer.below hb).at_ m1
      generalize t[i]'(by rw [N1.out]; exact hlt) = s1 at m1 r1 q1
      injection e1 with e11 e12 e13
      clear e12
      subst e11 e13
      have p0 : wr.cell? ⟨g1, o1 + i, none⟩ = some (.slice s1.a s1.len s1.cap) := by simpa [FS] using q1 0 _ rfl
      have hs1 : ll[i].length ≤ 1048576 := Nat.le_trans (le_szLL (List.getElem_mem hlt)) hs
      have hx := upd_get ll [] i hlt
      have hti : i < t'.length := by rw [ho.len]; exact (List.getElem?_eq_some_iff.1 hx).1
      have m2 : t'[i]? = some t'[i] := List.getElem?_eq_getElem hti
      have hz : w.heap.size < wr.heap.size := (World.ownsRow.lt ho.outer _ rfl).2
      have hf := ho.outer.frozen_
      have c0 : wr.cell? ⟨w.heap.size, i, none⟩ = some (.slice t'[i].a t'[i].len t'[i].cap) := by simpa [FS] using ho.outer.cell_ (j := 0) m2 (by decide)
      clear q1 m1 h
      go_wp2_with (go_at_call 68; refine (toQueue_ct _ s1.val ll[i] (rd_up r1 hb) hs1).mono ?_; rintro e w1 ⟨s, rfl, hos, hfs, hb1⟩; obtain ⟨os1, d1, rfl⟩ := below_grows hb1; clear hb1)
      clear hf c0 p0
      go_roundw
      case rel =>
        have e := upd_step ll [] i hlt
        have hsv := (ho.grow_ os1 d1).set_sv m2 hos (fun b hb hm => by have a := hfs b hb; have c := ho.lt b hm; omega)
        rw [e] at hsv
        rw [← setCell_grow wr os1 d1 w.heap.size i (.slice s.a s.len s.cap) hz]
        refine ⟨i + 1, by omega, by go_num, ⟨_, hsv, fun b hb => ?_⟩, ?_⟩
        · rcases foot2_set hb with hb | hb
          · exact hfo b hb
          · have := hfs b hb
            omega
        · exact Below.setCell (below_grow_of hb hb.size _ _) (Nat.le_refl _) _
      case measure => simp [intOf]; omega
    · go_wp2
      go_ret
      obtain rfl : i = ll.length := by omega
      exact ⟨t', rfl, by simpa using ho, hfo, hb⟩

set_option maxHeartbeats 400000 in
theorem szQueue_ct (w : World) (A : Option Addr) (n c : Nat) (k : Nat) (hn : n ≤ 9223372036854775807) (hk : k ≤ 1073741824) :
    Calls Try.prog 64 #[.agg #[.slice A n c], .int .i64 k] w fun e w' => e = .returned (.int .i64 (leftOf k n)) ∧ Below w.heap.size w w' := by
  by_cases h : n ≤ k
  · go_enter Try.func64, Try.ntmps64
    go_wp2
    go_ret
    exact ⟨ret_i64 ((leftOf_pos h).symm), by repeat (first | exact Below.refl _ _ | refine Below.alloc ?_ (by simp <;> omega) _ | refine below_grow_of ?_ (by simp <;> omega) _ _ | refine Below.drew ?_ | refine below_drewN ?_ _)⟩
  · go_enter Try.func64, Try.ntmps64
    go_wp2
    go_ret
    exact ⟨ret_i64 ((leftOf_neg h).symm), by repeat (first | exact Below.refl _ _ | refine Below.alloc ?_ (by simp <;> omega) _ | refine below_grow_of ?_ (by simp <;> omega) _ _ | refine Below.drew ?_ | refine below_drewN ?_ _)⟩

set_option maxHeartbeats 1000000 in
theorem szQueueS_ct (w : World) (v : Value) (t : List SV) (ll : List (List Op)) (left : Nat) (h : RdLL FOp w w.heap.size v t ll) (hl : left ≤ 1073741824) :
    Calls Try.prog 29 #[v, .int .i64 left] w fun e w' => e = .returned (.int .i64 (leftOf left (szLL ll))) ∧ Below w.heap.size w w' := by
  obtain ⟨A, c, hv, q1, q2, _⟩ := id h.outer
  have N1 : Hid (t.length = ll.length) := h.len
  rw [h.len] at hv q1
  have hlt0 : ll.length ≤ 9223372036854775807 := by unfold maxLen at q2; omega
  subst hv
  clear q1 q2
  by_cases hbig : ll.length ≤ left
  case neg =>
    go_enter Try.func29, Try.ntmps29
    go_wp2
    go_ret
    exact ⟨ret_i64 (leftOf_neg (by unfold szLL; omega)).symm, Below.refl _ _⟩
  go_enter Try.func29, Try.ntmps29
  go_wp2
  go_loopw [1, 5] (fun q i wr => ∃ i' : Nat, i' ≤ ll.length ∧ i = .int .i64 i' ∧ (∃ q' : Nat, q = .int .i64 q' ∧ q' + ll.length + totLL (ll.take i') = left) ∧ Below w.heap.size w wr) (fun _ i _ => ll.length - (intOf i).toNat)
  case atStart => exact ⟨0, Nat.zero_le _, rfl, ⟨left - ll.length, by go_num, by simp [totLL]; omega⟩, Below.refl _ _⟩
  case round =>
    obtain ⟨i, hi, rfl, ⟨q, rfl, hq⟩, hb⟩ := hrel
    have HQ := Hid.mk_ hq
    clear hq
    by_cases hlt : i < ll.length
    · have m1 : t[i]? = some (t[i]'(by rw [N1.out]; exact hlt)) := List.getElem?_eq_getElem _
      obtain ⟨g1, o1, cap1, e1, b1, _, _, q1⟩ := (h.outer.below hb).at_ m1
      have r1 := h.inner i _ _ m1 (List.getElem?_eq_getElem hlt)
      generalize t[i]'(by rw [N1.out]; exact hlt) = s1 at m1 q1 r1
      injection e1 with e11 e12 e13
      clear e12
      subst e11 e13
      obtain ⟨A', c', hv', u1, u2, _⟩ := r1
      have p0 : wr.cell? ⟨g1, o1 + i, none⟩ = some (.slice A' ll[i].length c') := by
        have := q1 0 _ rfl
        rw [← hv']
        simpa [FS, SV.val] using this
      have hn1 : ll[i].length ≤ 9223372036854775807 := by unfold maxLen at u2; omega
      have ht1 := totLL_take_succ ll i hlt
      have HT : Hid (totLL (ll.take (i + 1)) = totLL (ll.take i) + ll[i].length) := ht1
      have ht2 := totLL_take_le ll (i + 1)
      have hq2 : q ≤ 1073741824 := by have := HQ.out; omega
      have hsz : szLL ll = ll.length + totLL ll := rfl
      have HS := Hid.mk_ hsz
      clear q1 m1 h ht1 hv' hsz
      by_cases hge : ll[i].length ≤ q
      · have e0 := Hid.mk_ (leftOf_pos hge)
        go_wp2_with (go_at_call 64; refine (szQueue_ct _ A' ll[i].length c' q hn1 hq2).mono ?_; rw [e0.out]; rintro e w1 ⟨rfl, hb1⟩; obtain ⟨os1, d1, rfl⟩ := below_grows hb1; clear hb1)
        go_roundw
        case rel => exact ⟨i + 1, by omega, by go_num, ⟨q - ll[i].length, by go_num, by have := HQ.out; rw [HT.out]; omega⟩, below_grow_of hb hb.size _ _⟩
        case measure => simp [intOf]; omega
      · have e0 := Hid.mk_ (leftOf_neg hge)
        go_wp2_with (go_at_call 64; refine (szQueue_ct _ A' ll[i].length c' q hn1 hq2).mono ?_; rw [e0.out]; rintro e w1 ⟨rfl, hb1⟩; obtain ⟨os1, d1, rfl⟩ := below_grows hb1; clear hb1)
        go_ret
        exact ⟨ret_i64 (leftOf_neg (by rw [HS.out]; have := HQ.out; have := HT.out; omega)).symm, below_grow_of hb hb.size _ _⟩
    · go_wp2
      go_ret
      obtain rfl : i = ll.length := by omega
      have hq := HQ.out
      rw [List.take_length] at hq
      exact ⟨ret_i64 (by rw [leftOf_pos (by unfold szLL; unfold totLL at hq; omega)]; unfold szLL; unfold totLL at hq; omega), hb⟩
theorem toQueueS_w (w : World) (K : SV) (t : List SV) (ll : List (List Op)) (h : RdLL FOp w w.heap.size K.val t ll) (hs : szLL ll ≤ 1048576) :
    Calls Try.prog 31 #[.slice K.a K.len K.cap] w fun e w' => ∃ (K' : SV) (t' : List SV), e = .returned (.slice K'.a K'.len K'.cap) ∧ OwLL FOp 93 100 w' K'.val t' ll ∧ (∀ g ∈ foot2 K'.val t', w.heap.size ≤ g) ∧ Below w.heap.size w w' :=
  (toQueueS_ct w _ t ll h hs).mono fun _ _ ⟨t', a, b, c, d⟩ => ⟨⟨_, _, _⟩, t', a, b, c, d⟩
theorem eqQueueS_w (w : World) (K1 : SV) (t1 : List SV) (K2 : SV) (t2 : List SV) (ll : List (List Op)) (h1 : RdLL FOp w w.heap.size K1.val t1 ll) (h2 : RdLL FOp w w.heap.size K2.val t2 ll) (hs : szLL ll ≤ 1073741824) :
    Calls Try.prog 33 #[.slice K1.a K1.len K1.cap, .slice K2.a K2.len K2.cap] w fun e w' => e = .returned (.bool true) ∧ Below w.heap.size w w' := eqQueueS_ct w _ _ t1 t2 ll h1 h2 hs
theorem szQueueS_w (w : World) (K : SV) (t : List SV) (ll : List (List Op)) (k : Nat) (h : RdLL FOp w w.heap.size K.val t ll) (hk : k ≤ 1073741824) :
    Calls Try.prog 29 #[.slice K.a K.len K.cap, .int .i64 k] w fun e w' => e = .returned (.int .i64 (leftOf k (szLL ll))) ∧ Below w.heap.size w w' := szQueueS_ct w _ t ll k h hk
theorem markQueueS_w (w : World) (K : SV) (t : List SV) (ll : List (List Op)) (k : Int) (h : OwLL FOp 93 100 w K.val t ll) (hk0 : 0 ≤ k) (hk1 : k + ((totLL ll * 4 : Nat) : Int) ≤ 4611686018427387904) :
    Calls Try.prog 34 #[.slice K.a K.len K.cap, .int .i64 k] w fun e w' => e = .returned (.int .i64 (k + ((totLL ll * 4 : Nat) : Int))) ∧ OwLL FOp 93 100 w' K.val t (markLL mkOp 4 ll k) ∧ Chg (foot2 K.val t) w w' :=
  (markQueueS_ct w _ t ll k h hk0 (by omega)).mono fun _ _ ⟨a, b, c⟩ => ⟨a.trans (ret_i64 (by omega)), b, c⟩
theorem heldQueueS_w (w : World) (K : SV) (t : List SV) (ll : List (List Op)) (k : Int) (h : RdLL FOp w w.heap.size K.val t (markLL mkOp 4 ll k)) (hk0 : 0 ≤ k) (hk1 : k + ((totLL ll * 4 : Nat) : Int) ≤ 4611686018427387904) :
    Calls Try.prog 77 #[.slice K.a K.len K.cap, .int .i64 k] w fun e w' => e = .returned (.int .i64 (k + ((totLL ll * 4 : Nat) : Int))) ∧ Below w.heap.size w w' :=
  (heldQueueS_ct w _ t ll k h hk0 (by omega)).mono fun _ _ ⟨a, b⟩ => ⟨a.trans (ret_i64 (by omega)), b⟩
end Go.Proofs.Ytdepckmjgpkjmaa

