/-
  Equal heaps, lists, memories, bases: the contracts.
-/
import Derived.Test.YtdepckmjgpkjmaaT
import Derived.Test.YtdepckmjgpkjmaaL
import Derived.Deep.QuietTactic
import Derived.BigQuiet
import Derived.Deep.LoopGhost
import Derived.Deep.RegionHeld3
import Derived.Test.YtdepckmjgpkjmaaN
import Derived.Test.YtdepckmjgpkjmaaA
import Derived.WalkSpells
import Derived.Laws.Cover3
import Derived.Test.YtdepckmjgpkjmaaSA
namespace Go.Proofs.Ytdepckmjgpkjmaa
open Go.RowKit

def sameHeapB (x y : Heap) : Bool := decide (x.Bytes = y.Bytes) && decide (x.Class = y.Class)
def sameListsB (x y : Lists) : Bool := decide (x.Global = y.Global) && decide (x.Own = y.Own)
def sameMemB (x y : Mem) : Bool := sameHeapB x.Heap y.Heap && sameListsB x.Lists y.Lists
def sameBaseB (x y : Base) : Bool := sameMemB x.Mem y.Mem && sameClockB x.Clock y.Clock && decide (x.Limbo = y.Limbo) && decide (x.Haz = y.Haz)

set_option maxRecDepth 100000 in
set_option maxHeartbeats 1000000 in
theorem l8Same_spec (w : World) (v1 v2 : Value) (t1 t2 : List SV) (a b : List (List Int)) (h1 : RdLL FI w w.heap.size v1 t1 a) (h2 : RdLL FI w w.heap.size v2 t2 b) :
    Calls Try.prog 170 #[v1, v2] w fun e w' => e = .returned (.bool (decide (a = b))) ∧ Below w.heap.size w w' := by
  obtain ⟨A1, c1, hv1, _⟩ := id h1.outer
  obtain ⟨A2, c2, hv2, _⟩ := id h2.outer
  subst hv1 hv2
  obtain ⟨en1, hcap1, hmx1⟩ := h1.len'
  obtain ⟨en2, _, hmx2⟩ := h2.len'
  have hlt1 : a.length ≤ 9223372036854775807 := by unfold maxLen at hmx1; omega
  have hlt2 : b.length ≤ 9223372036854775807 := by unfold maxLen at hmx2; omega
  rw [en1] at h1 ⊢
  rw [en2] at h2 ⊢
  clear en1 hcap1 hmx1 en2 hmx2
  by_cases hl : a.length = b.length
  case neg =>
    have HN := Hid.mk_ (show decide (a = b) = false from decide_eq_false (fun e => hl (by rw [e])))
    have hl' : ((a.length : Int) != (b.length : Int)) = true := by simp; omega
    go_enter Try.func170, Try.ntmps170
    go_wp2
    go_ret
    exact ⟨ret_bool HN.out.symm, Below.refl _ _⟩
  have HL := Hid.mk_ hl
  clear hlt2
  rw [← hl] at h2 ⊢
  clear hl
  go_enter Try.func170, Try.ntmps170
  go_wp2
  go_loopw [5] (fun i wr => ∃ k : Nat, k ≤ a.length ∧ i = .int .i64 k ∧ Hid (a.take k = b.take k) ∧ Below w.heap.size w wr) (fun i _ => a.length - (intOf i).toNat)
  case atStart => exact ⟨0, Nat.zero_le _, rfl, rfl, Below.refl _ _⟩
  case round =>
    obtain ⟨i, hi, rfl, HT, hb⟩ := hrel
    by_cases hlt : i < a.length
    · have hlt2 : i < b.length := by rw [← HL.out]; exact hlt
      obtain ⟨g1, o1, B1, d1, e1, hg1, p0, r1⟩ := h1.row hb hlt
      obtain ⟨g2, o2, B2, d2, e2, hg2, p1, r2⟩ := h2.row hb hlt2
      subst e1 e2
      have z2 : g2 < wr.heap.size := Nat.lt_of_lt_of_le hg2 hb.size
      have z1 : g1 < wr.heap.size := Nat.lt_of_lt_of_le hg1 hb.size
      have z0 : w.heap.size ≤ wr.heap.size := hb.size
      clear h1 h2
      have HX := Hid.mk_ (show ∀ (hh : a[i] = b[i]), a.take (i + 1) = b.take (i + 1) from fun hh => eq_take_step hlt hlt2 HT.out hh)
      have HY := Hid.mk_ (show ∀ (hh : a[i] ≠ b[i]), decide (a = b) = false from fun hh => decide_eq_false (ne_at hlt hlt2 hh))
      have hsb := fun (W : World) (hW : Below w.heap.size w W) => SameBytes_spec W _ _ a[i] b[i] (rd_up r1 hW) (rd_up r2 hW)
      obtain ⟨c, hc⟩ : ∃ c, c = decide (a[i] = b[i]) := ⟨_, rfl⟩
      rw [← hc] at hsb
      have HC := Hid.mk_ hc
      clear hc r1 r2
      generalize a[i].length = na at *
      generalize b[i].length = nb at *
      go_wp2
      go_region_held3 (fun w' => w'.cell? ⟨g1, o1 + i, none⟩ = some (.slice B1 na d1) ∧ w'.cell? ⟨g2, o2 + i, none⟩ = some (.slice B2 nb d2) ∧ g1 < w'.heap.size ∧ g2 < w'.heap.size ∧ Below w.heap.size w w') (first | (go_keep; done) | ((try go_split_ands); refine ⟨?_, ?_, ?_, ?_, ?_⟩; all_goals first | assumption | exact Below.drew (by assumption) | (simp [go_sem, *]; done) | exact below_grow_of (by assumption) (by omega) _ _ | (rw [size_grow]; omega))) ((go_at_call 53; refine (hsb _ (by go_split_ands; assumption)).mono ?_; rintro e w1 ⟨rfl, hb1⟩; obtain ⟨os1, d1, rfl⟩ := below_grows hb1; clear hb1))
      all_goals
        cases c with
        | true =>
          have HE := Hid.mk_ (HX.out (of_decide_eq_true HC.out.symm))
          go_wp2
          go_roundw
          case rel => exact ⟨i + 1, by omega, by go_num, HE, by first | assumption | (try go_split_ands; assumption)⟩
          case measure => simp [intOf]; omega
        | false =>
          have HN := Hid.mk_ (HY.out (of_decide_eq_false HC.out.symm))
          go_wp2
          go_ret
          exact ⟨ret_bool HN.out.symm, by first | assumption | (try go_split_ands; assumption)⟩
    · go_wp2
      go_ret
      obtain rfl : i = a.length := by omega
      exact ⟨ret_bool (decide_eq_true (eq_take_end HL.out HT.out)).symm, hb⟩

set_option maxRecDepth 100000 in
set_option maxHeartbeats 1000000 in
theorem SameHeap_impl (w : World) (H K : HHeap) (x y : Heap) (h1 : RdHeap w w.heap.size H x) (h2 : RdHeap w w.heap.size K y) :
    Calls Try.prog 140 #[.agg #[.slice H.Bytes.a H.Bytes.len H.Bytes.cap, .slice H.Class.a H.Class.len H.Class.cap], .agg #[.slice K.Bytes.a K.Bytes.len K.Bytes.cap, .slice K.Class.a K.Class.len K.Class.cap]] w fun e w' => e = .returned (.bool (sameHeapB x y)) ∧ Below w.heap.size w w' := by
  have k0 := fun (W : World) (hW : Below w.heap.size w W) => EqualInt_ct W _ _ x.Bytes y.Bytes (rd_up h1.Bytes hW) (rd_up h2.Bytes hW)
  have k1 := fun (W : World) (hW : Below w.heap.size w W) => EqualInt_ct W _ _ x.Class y.Class (rd_up h1.Class hW) (rd_up h2.Class hW)
  have HV : Hid (sameHeapB x y = (decide (x.Bytes = y.Bytes) && decide (x.Class = y.Class))) := (rfl : _ = _)
  generalize decide (x.Bytes = y.Bytes) = c0 at k0 HV
  generalize decide (x.Class = y.Class) = c1 at k1 HV
  cases c0 with
  | false =>
    replace HV : Hid (sameHeapB x y = false) := HV.out.trans (by simp)
    have B_a : Box ((w.alloc (.cells #[.slice H.Bytes.a H.Bytes.len H.Bytes.cap, .slice H.Class.a H.Class.len H.Class.cap] 54)).alloc (.cells #[.slice K.Bytes.a K.Bytes.len K.Bytes.cap, .slice K.Class.a K.Class.len K.Class.cap] 54)) (w.heap.size) [.slice H.Bytes.a H.Bytes.len H.Bytes.cap, .slice H.Class.a H.Class.len H.Class.cap] := by
      have hbx := Box.new w #[.slice H.Bytes.a H.Bytes.len H.Bytes.cap, .slice H.Class.a H.Class.len H.Class.cap] 54
      exact (hbx).alloc _
    have B_b : Box ((w.alloc (.cells #[.slice H.Bytes.a H.Bytes.len H.Bytes.cap, .slice H.Class.a H.Class.len H.Class.cap] 54)).alloc (.cells #[.slice K.Bytes.a K.Bytes.len K.Bytes.cap, .slice K.Class.a K.Class.len K.Class.cap] 54)) (w.heap.size + 1) [.slice K.Bytes.a K.Bytes.len K.Bytes.cap, .slice K.Class.a K.Class.len K.Class.cap] := by
      have hbx := Box.new (w.alloc (.cells #[.slice H.Bytes.a H.Bytes.len H.Bytes.cap, .slice H.Class.a H.Class.len H.Class.cap] 54)) #[.slice K.Bytes.a K.Bytes.len K.Bytes.cap, .slice K.Class.a K.Class.len K.Class.cap] 54
      simp only [World.size_alloc] at hbx
      exact hbx
    have hB : Below w.heap.size w ((w.alloc (.cells #[.slice H.Bytes.a H.Bytes.len H.Bytes.cap, .slice H.Class.a H.Class.len H.Class.cap] 54)).alloc (.cells #[.slice K.Bytes.a K.Bytes.len K.Bytes.cap, .slice K.Class.a K.Class.len K.Class.cap] 54)) := by repeat (first | exact Below.refl _ _ | refine Below.alloc ?_ (by simp <;> omega) _ | refine below_grow_of ?_ (by simp <;> omega) _ _ | refine Below.drew ?_ | refine below_drewN ?_ _)
    go_enter Try.func140, Try.ntmps140
    go_wp2_with fail
    generalize hW0 : ((w.alloc (.cells #[.slice H.Bytes.a H.Bytes.len H.Bytes.cap, .slice H.Class.a H.Class.len H.Class.cap] 54)).alloc (.cells #[.slice K.Bytes.a K.Bytes.len K.Bytes.cap, .slice K.Class.a K.Class.len K.Class.cap] 54)) = w0 at B_a B_b hB ⊢
    clear hW0
    have zz_a := B_a.lt
    have zz_b := B_b.lt
    have q_a_0 := B_a.cell 0 _ rfl
    have q_a_1 := B_a.cell 1 _ rfl
    have fr_a := B_a.fro
    have z_a := B_a.lt
    have q_b_0 := B_b.cell 0 _ rfl
    have q_b_1 := B_b.cell 1 _ rfl
    have fr_b := B_b.fro
    have z_b := B_b.lt
    refine (k0 _ hB).mono ?_
    rintro e w1 ⟨rfl, hb⟩
    replace B_a := B_a.below hb
    replace B_b := B_b.below hb
    replace hB := hB.trans (hb.mono hB.size)
    have sz := hb.size
    clear hb
    replace q_a_0 := B_a.cell 0 _ rfl
    replace q_a_1 := B_a.cell 1 _ rfl
    replace fr_a := B_a.fro
    replace z_a := B_a.lt
    replace q_b_0 := B_b.cell 0 _ rfl
    replace q_b_1 := B_b.cell 1 _ rfl
    replace fr_b := B_b.fro
    replace z_b := B_b.lt
    clear k0
    go_wp2_with fail
    go_ret
    exact ⟨ret_bool HV.out.symm, hB⟩
  | true =>
  cases c1 with
  | false =>
    replace HV : Hid (sameHeapB x y = false) := HV.out.trans (by simp)
    have B_a : Box ((w.alloc (.cells #[.slice H.Bytes.a H.Bytes.len H.Bytes.cap, .slice H.Class.a H.Class.len H.Class.cap] 54)).alloc (.cells #[.slice K.Bytes.a K.Bytes.len K.Bytes.cap, .slice K.Class.a K.Class.len K.Class.cap] 54)) (w.heap.size) [.slice H.Bytes.a H.Bytes.len H.Bytes.cap, .slice H.Class.a H.Class.len H.Class.cap] := by
      have hbx := Box.new w #[.slice H.Bytes.a H.Bytes.len H.Bytes.cap, .slice H.Class.a H.Class.len H.Class.cap] 54
      exact (hbx).alloc _
    have B_b : Box ((w.alloc (.cells #[.slice H.Bytes.a H.Bytes.len H.Bytes.cap, .slice H.Class.a H.Class.len H.Class.cap] 54)).alloc (.cells #[.slice K.Bytes.a K.Bytes.len K.Bytes.cap, .slice K.Class.a K.Class.len K.Class.cap] 54)) (w.heap.size + 1) [.slice K.Bytes.a K.Bytes.len K.Bytes.cap, .slice K.Class.a K.Class.len K.Class.cap] := by
      have hbx := Box.new (w.alloc (.cells #[.slice H.Bytes.a H.Bytes.len H.Bytes.cap, .slice H.Class.a H.Class.len H.Class.cap] 54)) #[.slice K.Bytes.a K.Bytes.len K.Bytes.cap, .slice K.Class.a K.Class.len K.Class.cap] 54
      simp only [World.size_alloc] at hbx
      exact hbx
    have hB : Below w.heap.size w ((w.alloc (.cells #[.slice H.Bytes.a H.Bytes.len H.Bytes.cap, .slice H.Class.a H.Class.len H.Class.cap] 54)).alloc (.cells #[.slice K.Bytes.a K.Bytes.len K.Bytes.cap, .slice K.Class.a K.Class.len K.Class.cap] 54)) := by repeat (first | exact Below.refl _ _ | refine Below.alloc ?_ (by simp <;> omega) _ | refine below_grow_of ?_ (by simp <;> omega) _ _ | refine Below.drew ?_ | refine below_drewN ?_ _)
    go_enter Try.func140, Try.ntmps140
    go_wp2_with fail
    generalize hW0 : ((w.alloc (.cells #[.slice H.Bytes.a H.Bytes.len H.Bytes.cap, .slice H.Class.a H.Class.len H.Class.cap] 54)).alloc (.cells #[.slice K.Bytes.a K.Bytes.len K.Bytes.cap, .slice K.Class.a K.Class.len K.Class.cap] 54)) = w0 at B_a B_b hB ⊢
    clear hW0
    have zz_a := B_a.lt
    have zz_b := B_b.lt
    have q_a_0 := B_a.cell 0 _ rfl
    have q_a_1 := B_a.cell 1 _ rfl
    have fr_a := B_a.fro
    have z_a := B_a.lt
    have q_b_0 := B_b.cell 0 _ rfl
    have q_b_1 := B_b.cell 1 _ rfl
    have fr_b := B_b.fro
    have z_b := B_b.lt
    refine (k0 _ hB).mono ?_
    rintro e w1 ⟨rfl, hb⟩
    replace B_a := B_a.below hb
    replace B_b := B_b.below hb
    replace hB := hB.trans (hb.mono hB.size)
    have sz := hb.size
    clear hb
    replace q_a_0 := B_a.cell 0 _ rfl
    replace q_a_1 := B_a.cell 1 _ rfl
    replace fr_a := B_a.fro
    replace z_a := B_a.lt
    replace q_b_0 := B_b.cell 0 _ rfl
    replace q_b_1 := B_b.cell 1 _ rfl
    replace fr_b := B_b.fro
    replace z_b := B_b.lt
    clear k0
    go_wp2_with fail
    refine (k1 _ hB).mono ?_
    rintro e w2 ⟨rfl, hb⟩
    replace B_a := B_a.below hb
    replace B_b := B_b.below hb
    replace hB := hB.trans (hb.mono hB.size)
    have sz := hb.size
    clear hb
    replace q_a_0 := B_a.cell 0 _ rfl
    replace q_a_1 := B_a.cell 1 _ rfl
    replace fr_a := B_a.fro
    replace z_a := B_a.lt
    replace q_b_0 := B_b.cell 0 _ rfl
    replace q_b_1 := B_b.cell 1 _ rfl
    replace fr_b := B_b.fro
    replace z_b := B_b.lt
    clear k1
    go_wp2_with fail
    go_ret
    exact ⟨ret_bool HV.out.symm, hB⟩
  | true =>
  replace HV : Hid (sameHeapB x y = true) := HV.out.trans (by simp)
  have B_a : Box ((w.alloc (.cells #[.slice H.Bytes.a H.Bytes.len H.Bytes.cap, .slice H.Class.a H.Class.len H.Class.cap] 54)).alloc (.cells #[.slice K.Bytes.a K.Bytes.len K.Bytes.cap, .slice K.Class.a K.Class.len K.Class.cap] 54)) (w.heap.size) [.slice H.Bytes.a H.Bytes.len H.Bytes.cap, .slice H.Class.a H.Class.len H.Class.cap] := by
    have hbx := Box.new w #[.slice H.Bytes.a H.Bytes.len H.Bytes.cap, .slice H.Class.a H.Class.len H.Class.cap] 54
    exact (hbx).alloc _
  have B_b : Box ((w.alloc (.cells #[.slice H.Bytes.a H.Bytes.len H.Bytes.cap, .slice H.Class.a H.Class.len H.Class.cap] 54)).alloc (.cells #[.slice K.Bytes.a K.Bytes.len K.Bytes.cap, .slice K.Class.a K.Class.len K.Class.cap] 54)) (w.heap.size + 1) [.slice K.Bytes.a K.Bytes.len K.Bytes.cap, .slice K.Class.a K.Class.len K.Class.cap] := by
    have hbx := Box.new (w.alloc (.cells #[.slice H.Bytes.a H.Bytes.len H.Bytes.cap, .slice H.Class.a H.Class.len H.Class.cap] 54)) #[.slice K.Bytes.a K.Bytes.len K.Bytes.cap, .slice K.Class.a K.Class.len K.Class.cap] 54
    simp only [World.size_alloc] at hbx
    exact hbx
  have hB : Below w.heap.size w ((w.alloc (.cells #[.slice H.Bytes.a H.Bytes.len H.Bytes.cap, .slice H.Class.a H.Class.len H.Class.cap] 54)).alloc (.cells #[.slice K.Bytes.a K.Bytes.len K.Bytes.cap, .slice K.Class.a K.Class.len K.Class.cap] 54)) := by repeat (first | exact Below.refl _ _ | refine Below.alloc ?_ (by simp <;> omega) _ | refine below_grow_of ?_ (by simp <;> omega) _ _ | refine Below.drew ?_ | refine below_drewN ?_ _)
  go_enter Try.func140, Try.ntmps140
  go_wp2_with fail
  generalize hW0 : ((w.alloc (.cells #[.slice H.Bytes.a H.Bytes.len H.Bytes.cap, .slice H.Class.a H.Class.len H.Class.cap] 54)).alloc (.cells #[.slice K.Bytes.a K.Bytes.len K.Bytes.cap, .slice K.Class.a K.Class.len K.Class.cap] 54)) = w0 at B_a B_b hB ⊢
  clear hW0
  have zz_a := B_a.lt
  have zz_b := B_b.lt
  have q_a_0 := B_a.cell 0 _ rfl
  have q_a_1 := B_a.cell 1 _ rfl
  have fr_a := B_a.fro
  have z_a := B_a.lt
  have q_b_0 := B_b.cell 0 _ rfl
  have q_b_1 := B_b.cell 1 _ rfl
  have fr_b := B_b.fro
  have z_b := B_b.lt
  refine (k0 _ hB).mono ?_
  rintro e w1 ⟨rfl, hb⟩
  replace B_a := B_a.below hb
  replace B_b := B_b.below hb
  replace hB := hB.trans (hb.mono hB.size)
  have sz := hb.size
  clear hb
  replace q_a_0 := B_a.cell 0 _ rfl
  replace q_a_1 := B_a.cell 1 _ rfl
  replace fr_a := B_a.fro
  replace z_a := B_a.lt
  replace q_b_0 := B_b.cell 0 _ rfl
  replace q_b_1 := B_b.cell 1 _ rfl
  replace fr_b := B_b.fro
  replace z_b := B_b.lt
  clear k0
  go_wp2_with fail
  refine (k1 _ hB).mono ?_
  rintro e w2 ⟨rfl, hb⟩
  replace B_a := B_a.below hb
  replace B_b := B_b.below hb
  replace hB := hB.trans (hb.mono hB.size)
  have sz := hb.size
  clear hb
  replace q_a_0 := B_a.cell 0 _ rfl
  replace q_a_1 := B_a.cell 1 _ rfl
  replace fr_a := B_a.fro
  replace z_a := B_a.lt
  replace q_b_0 := B_b.cell 0 _ rfl
  replace q_b_1 := B_b.cell 1 _ rfl
  replace fr_b := B_b.fro
  replace z_b := B_b.lt
  clear k1
  go_wp2_with fail
  go_ret
  exact ⟨ret_bool HV.out.symm, hB⟩

set_option maxRecDepth 100000 in
set_option maxHeartbeats 1000000 in
theorem SameHeap_spec (w : World) (H K : HHeap) (x y : Heap) (h1 : RdHeap w w.heap.size H x) (h2 : RdHeap w w.heap.size K y) :
    Calls Try.prog 138 #[.agg #[.slice H.Bytes.a H.Bytes.len H.Bytes.cap, .slice H.Class.a H.Class.len H.Class.cap], .agg #[.slice K.Bytes.a K.Bytes.len K.Bytes.cap, .slice K.Class.a K.Class.len K.Class.cap]] w fun e w' => e = .returned (.bool (sameHeapB x y)) ∧ Below w.heap.size w w' := by
  have k0 := fun (W : World) (hW : Below w.heap.size w W) => SameBytes_spec W _ _ x.Bytes y.Bytes (rd_up h1.Bytes hW) (rd_up h2.Bytes hW)
  have k1 := fun (W : World) (hW : Below w.heap.size w W) => SameBytes_spec W _ _ x.Class y.Class (rd_up h1.Class hW) (rd_up h2.Class hW)
  have HV : Hid (sameHeapB x y = (decide (x.Bytes = y.Bytes) && decide (x.Class = y.Class))) := (rfl : _ = _)
  generalize decide (x.Bytes = y.Bytes) = c0 at k0 HV
  generalize decide (x.Class = y.Class) = c1 at k1 HV
  cases c0 with
  | false =>
    replace HV : Hid (sameHeapB x y = false) := HV.out.trans (by simp)
    have B_a : Box ((w.alloc (.cells #[.slice H.Bytes.a H.Bytes.len H.Bytes.cap, .slice H.Class.a H.Class.len H.Class.cap] 54)).alloc (.cells #[.slice K.Bytes.a K.Bytes.len K.Bytes.cap, .slice K.Class.a K.Class.len K.Class.cap] 54)) (w.heap.size) [.slice H.Bytes.a H.Bytes.len H.Bytes.cap, .slice H.Class.a H.Class.len H.Class.cap] := by
      have hbx := Box.new w #[.slice H.Bytes.a H.Bytes.len H.Bytes.cap, .slice H.Class.a H.Class.len H.Class.cap] 54
      exact (hbx).alloc _
    have B_b : Box ((w.alloc (.cells #[.slice H.Bytes.a H.Bytes.len H.Bytes.cap, .slice H.Class.a H.Class.len H.Class.cap] 54)).alloc (.cells #[.slice K.Bytes.a K.Bytes.len K.Bytes.cap, .slice K.Class.a K.Class.len K.Class.cap] 54)) (w.heap.size + 1) [.slice K.Bytes.a K.Bytes.len K.Bytes.cap, .slice K.Class.a K.Class.len K.Class.cap] := by
      have hbx := Box.new (w.alloc (.cells #[.slice H.Bytes.a H.Bytes.len H.Bytes.cap, .slice H.Class.a H.Class.len H.Class.cap] 54)) #[.slice K.Bytes.a K.Bytes.len K.Bytes.cap, .slice K.Class.a K.Class.len K.Class.cap] 54
      simp only [World.size_alloc] at hbx
      exact hbx
    have hB : Below w.heap.size w ((w.alloc (.cells #[.slice H.Bytes.a H.Bytes.len H.Bytes.cap, .slice H.Class.a H.Class.len H.Class.cap] 54)).alloc (.cells #[.slice K.Bytes.a K.Bytes.len K.Bytes.cap, .slice K.Class.a K.Class.len K.Class.cap] 54)) := by repeat (first | exact Below.refl _ _ | refine Below.alloc ?_ (by simp <;> omega) _ | refine below_grow_of ?_ (by simp <;> omega) _ _ | refine Below.drew ?_ | refine below_drewN ?_ _)
    go_enter Try.func138, Try.ntmps138
    go_wp2_with fail
    generalize hW0 : ((w.alloc (.cells #[.slice H.Bytes.a H.Bytes.len H.Bytes.cap, .slice H.Class.a H.Class.len H.Class.cap] 54)).alloc (.cells #[.slice K.Bytes.a K.Bytes.len K.Bytes.cap, .slice K.Class.a K.Class.len K.Class.cap] 54)) = w0 at B_a B_b hB ⊢
    clear hW0
    have zz_a := B_a.lt
    have zz_b := B_b.lt
    have q_a_0 := B_a.cell 0 _ rfl
    have q_a_1 := B_a.cell 1 _ rfl
    have fr_a := B_a.fro
    have z_a := B_a.lt
    have q_b_0 := B_b.cell 0 _ rfl
    have q_b_1 := B_b.cell 1 _ rfl
    have fr_b := B_b.fro
    have z_b := B_b.lt
    refine (k0 _ hB).mono ?_
    rintro e w1 ⟨rfl, hb⟩
    replace B_a := B_a.below hb
    replace B_b := B_b.below hb
    replace hB := hB.trans (hb.mono hB.size)
    have sz := hb.size
    clear hb
    replace q_a_0 := B_a.cell 0 _ rfl
    replace q_a_1 := B_a.cell 1 _ rfl
    replace fr_a := B_a.fro
    replace z_a := B_a.lt
    replace q_b_0 := B_b.cell 0 _ rfl
    replace q_b_1 := B_b.cell 1 _ rfl
    replace fr_b := B_b.fro
    replace z_b := B_b.lt
    clear k0
    go_wp2_with fail
    go_ret
    exact ⟨ret_bool HV.out.symm, hB⟩
  | true =>
  cases c1 with
  | false =>
    replace HV : Hid (sameHeapB x y = false) := HV.out.trans (by simp)
    have B_a : Box ((w.alloc (.cells #[.slice H.Bytes.a H.Bytes.len H.Bytes.cap, .slice H.Class.a H.Class.len H.Class.cap] 54)).alloc (.cells #[.slice K.Bytes.a K.Bytes.len K.Bytes.cap, .slice K.Class.a K.Class.len K.Class.cap] 54)) (w.heap.size) [.slice H.Bytes.a H.Bytes.len H.Bytes.cap, .slice H.Class.a H.Class.len H.Class.cap] := by
      have hbx := Box.new w #[.slice H.Bytes.a H.Bytes.len H.Bytes.cap, .slice H.Class.a H.Class.len H.Class.cap] 54
      exact (hbx).alloc _
    have B_b : Box ((w.alloc (.cells #[.slice H.Bytes.a H.Bytes.len H.Bytes.cap, .slice H.Class.a H.Class.len H.Class.cap] 54)).alloc (.cells #[.slice K.Bytes.a K.Bytes.len K.Bytes.cap, .slice K.Class.a K.Class.len K.Class.cap] 54)) (w.heap.size + 1) [.slice K.Bytes.a K.Bytes.len K.Bytes.cap, .slice K.Class.a K.Class.len K.Class.cap] := by
      have hbx := Box.new (w.alloc (.cells #[.slice H.Bytes.a H.Bytes.len H.Bytes.cap, .slice H.Class.a H.Class.len H.Class.cap] 54)) #[.slice K.Bytes.a K.Bytes.len K.Bytes.cap, .slice K.Class.a K.Class.len K.Class.cap] 54
      simp only [World.size_alloc] at hbx
      exact hbx
    have hB : Below w.heap.size w ((w.alloc (.cells #[.slice H.Bytes.a H.Bytes.len H.Bytes.cap, .slice H.Class.a H.Class.len H.Class.cap] 54)).alloc (.cells #[.slice K.Bytes.a K.Bytes.len K.Bytes.cap, .slice K.Class.a K.Class.len K.Class.cap] 54)) := by repeat (first | exact Below.refl _ _ | refine Below.alloc ?_ (by simp <;> omega) _ | refine below_grow_of ?_ (by simp <;> omega) _ _ | refine Below.drew ?_ | refine below_drewN ?_ _)
    go_enter Try.func138, Try.ntmps138
    go_wp2_with fail
    generalize hW0 : ((w.alloc (.cells #[.slice H.Bytes.a H.Bytes.len H.Bytes.cap, .slice H.Class.a H.Class.len H.Class.cap] 54)).alloc (.cells #[.slice K.Bytes.a K.Bytes.len K.Bytes.cap, .slice K.Class.a K.Class.len K.Class.cap] 54)) = w0 at B_a B_b hB ⊢
    clear hW0
    have zz_a := B_a.lt
    have zz_b := B_b.lt
    have q_a_0 := B_a.cell 0 _ rfl
    have q_a_1 := B_a.cell 1 _ rfl
    have fr_a := B_a.fro
    have z_a := B_a.lt
    have q_b_0 := B_b.cell 0 _ rfl
    have q_b_1 := B_b.cell 1 _ rfl
    have fr_b := B_b.fro
    have z_b := B_b.lt
    refine (k0 _ hB).mono ?_
    rintro e w1 ⟨rfl, hb⟩
    replace B_a := B_a.below hb
    replace B_b := B_b.below hb
    replace hB := hB.trans (hb.mono hB.size)
    have sz := hb.size
    clear hb
    replace q_a_0 := B_a.cell 0 _ rfl
    replace q_a_1 := B_a.cell 1 _ rfl
    replace fr_a := B_a.fro
    replace z_a := B_a.lt
    replace q_b_0 := B_b.cell 0 _ rfl
    replace q_b_1 := B_b.cell 1 _ rfl
    replace fr_b := B_b.fro
    replace z_b := B_b.lt
    clear k0
    go_wp2_with fail
    refine (k1 _ hB).mono ?_
    rintro e w2 ⟨rfl, hb⟩
    replace B_a := B_a.below hb
    replace B_b := B_b.below hb
    replace hB := hB.trans (hb.mono hB.size)
    have sz := hb.size
    clear hb
    replace q_a_0 := B_a.cell 0 _ rfl
    replace q_a_1 := B_a.cell 1 _ rfl
    replace fr_a := B_a.fro
    replace z_a := B_a.lt
    replace q_b_0 := B_b.cell 0 _ rfl
    replace q_b_1 := B_b.cell 1 _ rfl
    replace fr_b := B_b.fro
    replace z_b := B_b.lt
    clear k1
    go_wp2_with fail
    go_ret
    exact ⟨ret_bool HV.out.symm, hB⟩
  | true =>
  replace HV : Hid (sameHeapB x y = true) := HV.out.trans (by simp)
  have B_a : Box ((w.alloc (.cells #[.slice H.Bytes.a H.Bytes.len H.Bytes.cap, .slice H.Class.a H.Class.len H.Class.cap] 54)).alloc (.cells #[.slice K.Bytes.a K.Bytes.len K.Bytes.cap, .slice K.Class.a K.Class.len K.Class.cap] 54)) (w.heap.size) [.slice H.Bytes.a H.Bytes.len H.Bytes.cap, .slice H.Class.a H.Class.len H.Class.cap] := by
    have hbx := Box.new w #[.slice H.Bytes.a H.Bytes.len H.Bytes.cap, .slice H.Class.a H.Class.len H.Class.cap] 54
    exact (hbx).alloc _
  have B_b : Box ((w.alloc (.cells #[.slice H.Bytes.a H.Bytes.len H.Bytes.cap, .slice H.Class.a H.Class.len H.Class.cap] 54)).alloc (.cells #[.slice K.Bytes.a K.Bytes.len K.Bytes.cap, .slice K.Class.a K.Class.len K.Class.cap] 54)) (w.heap.size + 1) [.slice K.Bytes.a K.Bytes.len K.Bytes.cap, .slice K.Class.a K.Class.len K.Class.cap] := by
    have hbx := Box.new (w.alloc (.cells #[.slice H.Bytes.a H.Bytes.len H.Bytes.cap, .slice H.Class.a H.Class.len H.Class.cap] 54)) #[.slice K.Bytes.a K.Bytes.len K.Bytes.cap, .slice K.Class.a K.Class.len K.Class.cap] 54
    simp only [World.size_alloc] at hbx
    exact hbx
  have hB : Below w.heap.size w ((w.alloc (.cells #[.slice H.Bytes.a H.Bytes.len H.Bytes.cap, .slice H.Class.a H.Class.len H.Class.cap] 54)).alloc (.cells #[.slice K.Bytes.a K.Bytes.len K.Bytes.cap, .slice K.Class.a K.Class.len K.Class.cap] 54)) := by repeat (first | exact Below.refl _ _ | refine Below.alloc ?_ (by simp <;> omega) _ | refine below_grow_of ?_ (by simp <;> omega) _ _ | refine Below.drew ?_ | refine below_drewN ?_ _)
  go_enter Try.func138, Try.ntmps138
  go_wp2_with fail
  generalize hW0 : ((w.alloc (.cells #[.slice H.Bytes.a H.Bytes.len H.Bytes.cap, .slice H.Class.a H.Class.len H.Class.cap] 54)).alloc (.cells #[.slice K.Bytes.a K.Bytes.len K.Bytes.cap, .slice K.Class.a K.Class.len K.Class.cap] 54)) = w0 at B_a B_b hB ⊢
  clear hW0
  have zz_a := B_a.lt
  have zz_b := B_b.lt
  have q_a_0 := B_a.cell 0 _ rfl
  have q_a_1 := B_a.cell 1 _ rfl
  have fr_a := B_a.fro
  have z_a := B_a.lt
  have q_b_0 := B_b.cell 0 _ rfl
  have q_b_1 := B_b.cell 1 _ rfl
  have fr_b := B_b.fro
  have z_b := B_b.lt
  refine (k0 _ hB).mono ?_
  rintro e w1 ⟨rfl, hb⟩
  replace B_a := B_a.below hb
  replace B_b := B_b.below hb
  replace hB := hB.trans (hb.mono hB.size)
  have sz := hb.size
  clear hb
  replace q_a_0 := B_a.cell 0 _ rfl
  replace q_a_1 := B_a.cell 1 _ rfl
  replace fr_a := B_a.fro
  replace z_a := B_a.lt
  replace q_b_0 := B_b.cell 0 _ rfl
  replace q_b_1 := B_b.cell 1 _ rfl
  replace fr_b := B_b.fro
  replace z_b := B_b.lt
  clear k0
  go_wp2_with fail
  refine (k1 _ hB).mono ?_
  rintro e w2 ⟨rfl, hb⟩
  replace B_a := B_a.below hb
  replace B_b := B_b.below hb
  replace hB := hB.trans (hb.mono hB.size)
  have sz := hb.size
  clear hb
  replace q_a_0 := B_a.cell 0 _ rfl
  replace q_a_1 := B_a.cell 1 _ rfl
  replace fr_a := B_a.fro
  replace z_a := B_a.lt
  replace q_b_0 := B_b.cell 0 _ rfl
  replace q_b_1 := B_b.cell 1 _ rfl
  replace fr_b := B_b.fro
  replace z_b := B_b.lt
  clear k1
  go_wp2_with fail
  go_ret
  exact ⟨ret_bool HV.out.symm, hB⟩

set_option maxRecDepth 100000 in
set_option maxHeartbeats 1000000 in
theorem SameLists_impl (w : World) (H K : HLists) (x y : Lists) (h1 : RdLists w w.heap.size H x) (h2 : RdLists w w.heap.size K y) :
    Calls Try.prog 141 #[.agg #[.slice H.Global.a H.Global.len H.Global.cap, .slice H.Own.a H.Own.len H.Own.cap], .agg #[.slice K.Global.a K.Global.len K.Global.cap, .slice K.Own.a K.Own.len K.Own.cap]] w fun e w' => e = .returned (.bool (sameListsB x y)) ∧ Below w.heap.size w w' := by
  have k0 := fun (W : World) (hW : Below w.heap.size w W) => EqualFuncSList_ct W _ _ _ _ x.Global y.Global (rdLL_up h1.Global hW) (rdLL_up h2.Global hW)
  have k1 := fun (W : World) (hW : Below w.heap.size w W) => EqualFuncSList_ct W _ _ _ _ x.Own y.Own (rdLL_up h1.Own hW) (rdLL_up h2.Own hW)
  have HV : Hid (sameListsB x y = (decide (x.Global = y.Global) && decide (x.Own = y.Own))) := (rfl : _ = _)
  generalize decide (x.Global = y.Global) = c0 at k0 HV
  generalize decide (x.Own = y.Own) = c1 at k1 HV
  cases c0 with
  | false =>
    replace HV : Hid (sameListsB x y = false) := HV.out.trans (by simp)
    have B_a : Box ((w.alloc (.cells #[.slice H.Global.a H.Global.len H.Global.cap, .slice H.Own.a H.Own.len H.Own.cap] 57)).alloc (.cells #[.slice K.Global.a K.Global.len K.Global.cap, .slice K.Own.a K.Own.len K.Own.cap] 57)) (w.heap.size) [.slice H.Global.a H.Global.len H.Global.cap, .slice H.Own.a H.Own.len H.Own.cap] := by
      have hbx := Box.new w #[.slice H.Global.a H.Global.len H.Global.cap, .slice H.Own.a H.Own.len H.Own.cap] 57
      exact (hbx).alloc _
    have B_b : Box ((w.alloc (.cells #[.slice H.Global.a H.Global.len H.Global.cap, .slice H.Own.a H.Own.len H.Own.cap] 57)).alloc (.cells #[.slice K.Global.a K.Global.len K.Global.cap, .slice K.Own.a K.Own.len K.Own.cap] 57)) (w.heap.size + 1) [.slice K.Global.a K.Global.len K.Global.cap, .slice K.Own.a K.Own.len K.Own.cap] := by
      have hbx := Box.new (w.alloc (.cells #[.slice H.Global.a H.Global.len H.Global.cap, .slice H.Own.a H.Own.len H.Own.cap] 57)) #[.slice K.Global.a K.Global.len K.Global.cap, .slice K.Own.a K.Own.len K.Own.cap] 57
      simp only [World.size_alloc] at hbx
      exact hbx
    have hB : Below w.heap.size w ((w.alloc (.cells #[.slice H.Global.a H.Global.len H.Global.cap, .slice H.Own.a H.Own.len H.Own.cap] 57)).alloc (.cells #[.slice K.Global.a K.Global.len K.Global.cap, .slice K.Own.a K.Own.len K.Own.cap] 57)) := by repeat (first | exact Below.refl _ _ | refine Below.alloc ?_ (by simp <;> omega) _ | refine below_grow_of ?_ (by simp <;> omega) _ _ | refine Below.drew ?_ | refine below_drewN ?_ _)
    go_enter Try.func141, Try.ntmps141
    go_wp2_with fail
    generalize hW0 : ((w.alloc (.cells #[.slice H.Global.a H.Global.len H.Global.cap, .slice H.Own.a H.Own.len H.Own.cap] 57)).alloc (.cells #[.slice K.Global.a K.Global.len K.Global.cap, .slice K.Own.a K.Own.len K.Own.cap] 57)) = w0 at B_a B_b hB ⊢
    clear hW0
    have zz_a := B_a.lt
    have zz_b := B_b.lt
    have q_a_0 := B_a.cell 0 _ rfl
    have q_a_1 := B_a.cell 1 _ rfl
    have fr_a := B_a.fro
    have z_a := B_a.lt
    have q_b_0 := B_b.cell 0 _ rfl
    have q_b_1 := B_b.cell 1 _ rfl
    have fr_b := B_b.fro
    have z_b := B_b.lt
    refine (k0 _ hB).mono ?_
    rintro e w1 ⟨rfl, hb⟩
    replace B_a := B_a.below hb
    replace B_b := B_b.below hb
    replace hB := hB.trans (hb.mono hB.size)
    have sz := hb.size
    clear hb
    replace q_a_0 := B_a.cell 0 _ rfl
    replace q_a_1 := B_a.cell 1 _ rfl
    replace fr_a := B_a.fro
    replace z_a := B_a.lt
    replace q_b_0 := B_b.cell 0 _ rfl
    replace q_b_1 := B_b.cell 1 _ rfl
    replace fr_b := B_b.fro
    replace z_b := B_b.lt
    clear k0
    go_wp2_with fail
    go_ret
    exact ⟨ret_bool HV.out.symm, hB⟩
  | true =>
  cases c1 with
  | false =>
    replace HV : Hid (sameListsB x y = false) := HV.out.trans (by simp)
    have B_a : Box ((w.alloc (.cells #[.slice H.Global.a H.Global.len H.Global.cap, .slice H.Own.a H.Own.len H.Own.cap] 57)).alloc (.cells #[.slice K.Global.a K.Global.len K.Global.cap, .slice K.Own.a K.Own.len K.Own.cap] 57)) (w.heap.size) [.slice H.Global.a H.Global.len H.Global.cap, .slice H.Own.a H.Own.len H.Own.cap] := by
      have hbx := Box.new w #[.slice H.Global.a H.Global.len H.Global.cap, .slice H.Own.a H.Own.len H.Own.cap] 57
      exact (hbx).alloc _
    have B_b : Box ((w.alloc (.cells #[.slice H.Global.a H.Global.len H.Global.cap, .slice H.Own.a H.Own.len H.Own.cap] 57)).alloc (.cells #[.slice K.Global.a K.Global.len K.Global.cap, .slice K.Own.a K.Own.len K.Own.cap] 57)) (w.heap.size + 1) [.slice K.Global.a K.Global.len K.Global.cap, .slice K.Own.a K.Own.len K.Own.cap] := by
      have hbx := Box.new (w.alloc (.cells #[.slice H.Global.a H.Global.len H.Global.cap, .slice H.Own.a H.Own.len H.Own.cap] 57)) #[.slice K.Global.a K.Global.len K.Global.cap, .slice K.Own.a K.Own.len K.Own.cap] 57
      simp only [World.size_alloc] at hbx
      exact hbx
    have hB : Below w.heap.size w ((w.alloc (.cells #[.slice H.Global.a H.Global.len H.Global.cap, .slice H.Own.a H.Own.len H.Own.cap] 57)).alloc (.cells #[.slice K.Global.a K.Global.len K.Global.cap, .slice K.Own.a K.Own.len K.Own.cap] 57)) := by repeat (first | exact Below.refl _ _ | refine Below.alloc ?_ (by simp <;> omega) _ | refine below_grow_of ?_ (by simp <;> omega) _ _ | refine Below.drew ?_ | refine below_drewN ?_ _)
    go_enter Try.func141, Try.ntmps141
    go_wp2_with fail
    generalize hW0 : ((w.alloc (.cells #[.slice H.Global.a H.Global.len H.Global.cap, .slice H.Own.a H.Own.len H.Own.cap] 57)).alloc (.cells #[.slice K.Global.a K.Global.len K.Global.cap, .slice K.Own.a K.Own.len K.Own.cap] 57)) = w0 at B_a B_b hB ⊢
    clear hW0
    have zz_a := B_a.lt
    have zz_b := B_b.lt
    have q_a_0 := B_a.cell 0 _ rfl
    have q_a_1 := B_a.cell 1 _ rfl
    have fr_a := B_a.fro
    have z_a := B_a.lt
    have q_b_0 := B_b.cell 0 _ rfl
    have q_b_1 := B_b.cell 1 _ rfl
    have fr_b := B_b.fro
    have z_b := B_b.lt
    refine (k0 _ hB).mono ?_
    rintro e w1 ⟨rfl, hb⟩
    replace B_a := B_a.below hb
    replace B_b := B_b.below hb
    replace hB := hB.trans (hb.mono hB.size)
    have sz := hb.size
    clear hb
    replace q_a_0 := B_a.cell 0 _ rfl
    replace q_a_1 := B_a.cell 1 _ rfl
    replace fr_a := B_a.fro
    replace z_a := B_a.lt
    replace q_b_0 := B_b.cell 0 _ rfl
    replace q_b_1 := B_b.cell 1 _ rfl
    replace fr_b := B_b.fro
    replace z_b := B_b.lt
    clear k0
    go_wp2_with fail
    refine (k1 _ hB).mono ?_
    rintro e w2 ⟨rfl, hb⟩
    replace B_a := B_a.below hb
    replace B_b := B_b.below hb
    replace hB := hB.trans (hb.mono hB.size)
    have sz := hb.size
    clear hb
    replace q_a_0 := B_a.cell 0 _ rfl
    replace q_a_1 := B_a.cell 1 _ rfl
    replace fr_a := B_a.fro
    replace z_a := B_a.lt
    replace q_b_0 := B_b.cell 0 _ rfl
    replace q_b_1 := B_b.cell 1 _ rfl
    replace fr_b := B_b.fro
    replace z_b := B_b.lt
    clear k1
    go_wp2_with fail
    go_ret
    exact ⟨ret_bool HV.out.symm, hB⟩
  | true =>
  replace HV : Hid (sameListsB x y = true) := HV.out.trans (by simp)
  have B_a : Box ((w.alloc (.cells #[.slice H.Global.a H.Global.len H.Global.cap, .slice H.Own.a H.Own.len H.Own.cap] 57)).alloc (.cells #[.slice K.Global.a K.Global.len K.Global.cap, .slice K.Own.a K.Own.len K.Own.cap] 57)) (w.heap.size) [.slice H.Global.a H.Global.len H.Global.cap, .slice H.Own.a H.Own.len H.Own.cap] := by
    have hbx := Box.new w #[.slice H.Global.a H.Global.len H.Global.cap, .slice H.Own.a H.Own.len H.Own.cap] 57
    exact (hbx).alloc _
  have B_b : Box ((w.alloc (.cells #[.slice H.Global.a H.Global.len H.Global.cap, .slice H.Own.a H.Own.len H.Own.cap] 57)).alloc (.cells #[.slice K.Global.a K.Global.len K.Global.cap, .slice K.Own.a K.Own.len K.Own.cap] 57)) (w.heap.size + 1) [.slice K.Global.a K.Global.len K.Global.cap, .slice K.Own.a K.Own.len K.Own.cap] := by
    have hbx := Box.new (w.alloc (.cells #[.slice H.Global.a H.Global.len H.Global.cap, .slice H.Own.a H.Own.len H.Own.cap] 57)) #[.slice K.Global.a K.Global.len K.Global.cap, .slice K.Own.a K.Own.len K.Own.cap] 57
    simp only [World.size_alloc] at hbx
    exact hbx
  have hB : Below w.heap.size w ((w.alloc (.cells #[.slice H.Global.a H.Global.len H.Global.cap, .slice H.Own.a H.Own.len H.Own.cap] 57)).alloc (.cells #[.slice K.Global.a K.Global.len K.Global.cap, .slice K.Own.a K.Own.len K.Own.cap] 57)) := by repeat (first | exact Below.refl _ _ | refine Below.alloc ?_ (by simp <;> omega) _ | refine below_grow_of ?_ (by simp <;> omega) _ _ | refine Below.drew ?_ | refine below_drewN ?_ _)
  go_enter Try.func141, Try.ntmps141
  go_wp2_with fail
  generalize hW0 : ((w.alloc (.cells #[.slice H.Global.a H.Global.len H.Global.cap, .slice H.Own.a H.Own.len H.Own.cap] 57)).alloc (.cells #[.slice K.Global.a K.Global.len K.Global.cap, .slice K.Own.a K.Own.len K.Own.cap] 57)) = w0 at B_a B_b hB ⊢
  clear hW0
  have zz_a := B_a.lt
  have zz_b := B_b.lt
  have q_a_0 := B_a.cell 0 _ rfl
  have q_a_1 := B_a.cell 1 _ rfl
  have fr_a := B_a.fro
  have z_a := B_a.lt
  have q_b_0 := B_b.cell 0 _ rfl
  have q_b_1 := B_b.cell 1 _ rfl
  have fr_b := B_b.fro
  have z_b := B_b.lt
  refine (k0 _ hB).mono ?_
  rintro e w1 ⟨rfl, hb⟩
  replace B_a := B_a.below hb
  replace B_b := B_b.below hb
  replace hB := hB.trans (hb.mono hB.size)
  have sz := hb.size
  clear hb
  replace q_a_0 := B_a.cell 0 _ rfl
  replace q_a_1 := B_a.cell 1 _ rfl
  replace fr_a := B_a.fro
  replace z_a := B_a.lt
  replace q_b_0 := B_b.cell 0 _ rfl
  replace q_b_1 := B_b.cell 1 _ rfl
  replace fr_b := B_b.fro
  replace z_b := B_b.lt
  clear k0
  go_wp2_with fail
  refine (k1 _ hB).mono ?_
  rintro e w2 ⟨rfl, hb⟩
  replace B_a := B_a.below hb
  replace B_b := B_b.below hb
  replace hB := hB.trans (hb.mono hB.size)
  have sz := hb.size
  clear hb
  replace q_a_0 := B_a.cell 0 _ rfl
  replace q_a_1 := B_a.cell 1 _ rfl
  replace fr_a := B_a.fro
  replace z_a := B_a.lt
  replace q_b_0 := B_b.cell 0 _ rfl
  replace q_b_1 := B_b.cell 1 _ rfl
  replace fr_b := B_b.fro
  replace z_b := B_b.lt
  clear k1
  go_wp2_with fail
  go_ret
  exact ⟨ret_bool HV.out.symm, hB⟩

set_option maxRecDepth 100000 in
set_option maxHeartbeats 1000000 in
theorem SameLists_spec (w : World) (H K : HLists) (x y : Lists) (h1 : RdLists w w.heap.size H x) (h2 : RdLists w w.heap.size K y) :
    Calls Try.prog 139 #[.agg #[.slice H.Global.a H.Global.len H.Global.cap, .slice H.Own.a H.Own.len H.Own.cap], .agg #[.slice K.Global.a K.Global.len K.Global.cap, .slice K.Own.a K.Own.len K.Own.cap]] w fun e w' => e = .returned (.bool (sameListsB x y)) ∧ Below w.heap.size w w' := by
  have k0 := fun (W : World) (hW : Below w.heap.size w W) => l8Same_spec W _ _ _ _ x.Global y.Global (rdLL_up h1.Global hW) (rdLL_up h2.Global hW)
  have k1 := fun (W : World) (hW : Below w.heap.size w W) => l8Same_spec W _ _ _ _ x.Own y.Own (rdLL_up h1.Own hW) (rdLL_up h2.Own hW)
  have HV : Hid (sameListsB x y = (decide (x.Global = y.Global) && decide (x.Own = y.Own))) := (rfl : _ = _)
  generalize decide (x.Global = y.Global) = c0 at k0 HV
  generalize decide (x.Own = y.Own) = c1 at k1 HV
  cases c0 with
  | false =>
    replace HV : Hid (sameListsB x y = false) := HV.out.trans (by simp)
    have B_a : Box ((w.alloc (.cells #[.slice H.Global.a H.Global.len H.Global.cap, .slice H.Own.a H.Own.len H.Own.cap] 57)).alloc (.cells #[.slice K.Global.a K.Global.len K.Global.cap, .slice K.Own.a K.Own.len K.Own.cap] 57)) (w.heap.size) [.slice H.Global.a H.Global.len H.Global.cap, .slice H.Own.a H.Own.len H.Own.cap] := by
      have hbx := Box.new w #[.slice H.Global.a H.Global.len H.Global.cap, .slice H.Own.a H.Own.len H.Own.cap] 57
      exact (hbx).alloc _
    have B_b : Box ((w.alloc (.cells #[.slice H.Global.a H.Global.len H.Global.cap, .slice H.Own.a H.Own.len H.Own.cap] 57)).alloc (.cells #[.slice K.Global.a K.Global.len K.Global.cap, .slice K.Own.a K.Own.len K.Own.cap] 57)) (w.heap.size + 1) [.slice K.Global.a K.Global.len K.Global.cap, .slice K.Own.a K.Own.len K.Own.cap] := by
      have hbx := Box.new (w.alloc (.cells #[.slice H.Global.a H.Global.len H.Global.cap, .slice H.Own.a H.Own.len H.Own.cap] 57)) #[.slice K.Global.a K.Global.len K.Global.cap, .slice K.Own.a K.Own.len K.Own.cap] 57
      simp only [World.size_alloc] at hbx
      exact hbx
    have hB : Below w.heap.size w ((w.alloc (.cells #[.slice H.Global.a H.Global.len H.Global.cap, .slice H.Own.a H.Own.len H.Own.cap] 57)).alloc (.cells #[.slice K.Global.a K.Global.len K.Global.cap, .slice K.Own.a K.Own.len K.Own.cap] 57)) := by repeat (first | exact Below.refl _ _ | refine Below.alloc ?_ (by simp <;> omega) _ | refine below_grow_of ?_ (by simp <;> omega) _ _ | refine Below.drew ?_ | refine below_drewN ?_ _)
    go_enter Try.func139, Try.ntmps139
    go_wp2_with fail
    generalize hW0 : ((w.alloc (.cells #[.slice H.Global.a H.Global.len H.Global.cap, .slice H.Own.a H.Own.len H.Own.cap] 57)).alloc (.cells #[.slice K.Global.a K.Global.len K.Global.cap, .slice K.Own.a K.Own.len K.Own.cap] 57)) = w0 at B_a B_b hB ⊢
    clear hW0
    have zz_a := B_a.lt
    have zz_b := B_b.lt
    have q_a_0 := B_a.cell 0 _ rfl
    have q_a_1 := B_a.cell 1 _ rfl
    have fr_a := B_a.fro
    have z_a := B_a.lt
    have q_b_0 := B_b.cell 0 _ rfl
    have q_b_1 := B_b.cell 1 _ rfl
    have fr_b := B_b.fro
    have z_b := B_b.lt
    refine (k0 _ hB).mono ?_
    rintro e w1 ⟨rfl, hb⟩
    replace B_a := B_a.below hb
    replace B_b := B_b.below hb
    replace hB := hB.trans (hb.mono hB.size)
    have sz := hb.size
    clear hb
    replace q_a_0 := B_a.cell 0 _ rfl
    replace q_a_1 := B_a.cell 1 _ rfl
    replace fr_a := B_a.fro
    replace z_a := B_a.lt
    replace q_b_0 := B_b.cell 0 _ rfl
    replace q_b_1 := B_b.cell 1 _ rfl
    replace fr_b := B_b.fro
    replace z_b := B_b.lt
    clear k0
    go_wp2_with fail
    go_ret
    exact ⟨ret_bool HV.out.symm, hB⟩
  | true =>
  cases c1 with
  | false =>
    replace HV : Hid (sameListsB x y = false) := HV.out.trans (by simp)
    have B_a : Box ((w.alloc (.cells #[.slice H.Global.a H.Global.len H.Global.cap, .slice H.Own.a H.Own.len H.Own.cap] 57)).alloc (.cells #[.slice K.Global.a K.Global.len K.Global.cap, .slice K.Own.a K.Own.len K.Own.cap] 57)) (w.heap.size) [.slice H.Global.a H.Global.len H.Global.cap, .slice H.Own.a H.Own.len H.Own.cap] := by
      have hbx := Box.new w #[.slice H.Global.a H.Global.len H.Global.cap, .slice H.Own.a H.Own.len H.Own.cap] 57
      exact (hbx).alloc _
    have B_b : Box ((w.alloc (.cells #[.slice H.Global.a H.Global.len H.Global.cap, .slice H.Own.a H.Own.len H.Own.cap] 57)).alloc (.cells #[.slice K.Global.a K.Global.len K.Global.cap, .slice K.Own.a K.Own.len K.Own.cap] 57)) (w.heap.size + 1) [.slice K.Global.a K.Global.len K.Global.cap, .slice K.Own.a K.Own.len K.Own.cap] := by
      have hbx := Box.new (w.alloc (.cells #[.slice H.Global.a H.Global.len H.Global.cap, .slice H.Own.a H.Own.len H.Own.cap] 57)) #[.slice K.Global.a K.Global.len K.Global.cap, .slice K.Own.a K.Own.len K.Own.cap] 57
      simp only [World.size_alloc] at hbx
      exact hbx
    have hB : Below w.heap.size w ((w.alloc (.cells #[.slice H.Global.a H.Global.len H.Global.cap, .slice H.Own.a H.Own.len H.Own.cap] 57)).alloc (.cells #[.slice K.Global.a K.Global.len K.Global.cap, .slice K.Own.a K.Own.len K.Own.cap] 57)) := by repeat (first | exact Below.refl _ _ | refine Below.alloc ?_ (by simp <;> omega) _ | refine below_grow_of ?_ (by simp <;> omega) _ _ | refine Below.drew ?_ | refine below_drewN ?_ _)
    go_enter Try.func139, Try.ntmps139
    go_wp2_with fail
    generalize hW0 : ((w.alloc (.cells #[.slice H.Global.a H.Global.len H.Global.cap, .slice H.Own.a H.Own.len H.Own.cap] 57)).alloc (.cells #[.slice K.Global.a K.Global.len K.Global.cap, .slice K.Own.a K.Own.len K.Own.cap] 57)) = w0 at B_a B_b hB ⊢
    clear hW0
    have zz_a := B_a.lt
    have zz_b := B_b.lt
    have q_a_0 := B_a.cell 0 _ rfl
    have q_a_1 := B_a.cell 1 _ rfl
    have fr_a := B_a.fro
    have z_a := B_a.lt
    have q_b_0 := B_b.cell 0 _ rfl
    have q_b_1 := B_b.cell 1 _ rfl
    have fr_b := B_b.fro
    have z_b := B_b.lt
    refine (k0 _ hB).mono ?_
    rintro e w1 ⟨rfl, hb⟩
    replace B_a := B_a.below hb
    replace B_b := B_b.below hb
    replace hB := hB.trans (hb.mono hB.size)
    have sz := hb.size
    clear hb
    replace q_a_0 := B_a.cell 0 _ rfl
    replace q_a_1 := B_a.cell 1 _ rfl
    replace fr_a := B_a.fro
    replace z_a := B_a.lt
    replace q_b_0 := B_b.cell 0 _ rfl
    replace q_b_1 := B_b.cell 1 _ rfl
    replace fr_b := B_b.fro
    replace z_b := B_b.lt
    clear k0
    go_wp2_with fail
    refine (k1 _ hB).mono ?_
    rintro e w2 ⟨rfl, hb⟩
    replace B_a := B_a.below hb
    replace B_b := B_b.below hb
    replace hB := hB.trans (hb.mono hB.size)
    have sz := hb.size
    clear hb
    replace q_a_0 := B_a.cell 0 _ rfl
    replace q_a_1 := B_a.cell 1 _ rfl
    replace fr_a := B_a.fro
    replace z_a := B_a.lt
    replace q_b_0 := B_b.cell 0 _ rfl
    replace q_b_1 := B_b.cell 1 _ rfl
    replace fr_b := B_b.fro
    replace z_b := B_b.lt
    clear k1
    go_wp2_with fail
    go_ret
    exact ⟨ret_bool HV.out.symm, hB⟩
  | true =>
  replace HV : Hid (sameListsB x y = true) := HV.out.trans (by simp)
  have B_a : Box ((w.alloc (.cells #[.slice H.Global.a H.Global.len H.Global.cap, .slice H.Own.a H.Own.len H.Own.cap] 57)).alloc (.cells #[.slice K.Global.a K.Global.len K.Global.cap, .slice K.Own.a K.Own.len K.Own.cap] 57)) (w.heap.size) [.slice H.Global.a H.Global.len H.Global.cap, .slice H.Own.a H.Own.len H.Own.cap] := by
    have hbx := Box.new w #[.slice H.Global.a H.Global.len H.Global.cap, .slice H.Own.a H.Own.len H.Own.cap] 57
    exact (hbx).alloc _
  have B_b : Box ((w.alloc (.cells #[.slice H.Global.a H.Global.len H.Global.cap, .slice H.Own.a H.Own.len H.Own.cap] 57)).alloc (.cells #[.slice K.Global.a K.Global.len K.Global.cap, .slice K.Own.a K.Own.len K.Own.cap] 57)) (w.heap.size + 1) [.slice K.Global.a K.Global.len K.Global.cap, .slice K.Own.a K.Own.len K.Own.cap] := by
    have hbx := Box.new (w.alloc (.cells #[.slice H.Global.a H.Global.len H.Global.cap, .slice H.Own.a H.Own.len H.Own.cap] 57)) #[.slice K.Global.a K.Global.len K.Global.cap, .slice K.Own.a K.Own.len K.Own.cap] 57
    simp only [World.size_alloc] at hbx
    exact hbx
  have hB : Below w.heap.size w ((w.alloc (.cells #[.slice H.Global.a H.Global.len H.Global.cap, .slice H.Own.a H.Own.len H.Own.cap] 57)).alloc (.cells #[.slice K.Global.a K.Global.len K.Global.cap, .slice K.Own.a K.Own.len K.Own.cap] 57)) := by repeat (first | exact Below.refl _ _ | refine Below.alloc ?_ (by simp <;> omega) _ | refine below_grow_of ?_ (by simp <;> omega) _ _ | refine Below.drew ?_ | refine below_drewN ?_ _)
  go_enter Try.func139, Try.ntmps139
  go_wp2_with fail
  generalize hW0 : ((w.alloc (.cells #[.slice H.Global.a H.Global.len H.Global.cap, .slice H.Own.a H.Own.len H.Own.cap] 57)).alloc (.cells #[.slice K.Global.a K.Global.len K.Global.cap, .slice K.Own.a K.Own.len K.Own.cap] 57)) = w0 at B_a B_b hB ⊢
  clear hW0
  have zz_a := B_a.lt
  have zz_b := B_b.lt
  have q_a_0 := B_a.cell 0 _ rfl
  have q_a_1 := B_a.cell 1 _ rfl
  have fr_a := B_a.fro
  have z_a := B_a.lt
  have q_b_0 := B_b.cell 0 _ rfl
  have q_b_1 := B_b.cell 1 _ rfl
  have fr_b := B_b.fro
  have z_b := B_b.lt
  refine (k0 _ hB).mono ?_
  rintro e w1 ⟨rfl, hb⟩
  replace B_a := B_a.below hb
  replace B_b := B_b.below hb
  replace hB := hB.trans (hb.mono hB.size)
  have sz := hb.size
  clear hb
  replace q_a_0 := B_a.cell 0 _ rfl
  replace q_a_1 := B_a.cell 1 _ rfl
  replace fr_a := B_a.fro
  replace z_a := B_a.lt
  replace q_b_0 := B_b.cell 0 _ rfl
  replace q_b_1 := B_b.cell 1 _ rfl
  replace fr_b := B_b.fro
  replace z_b := B_b.lt
  clear k0
  go_wp2_with fail
  refine (k1 _ hB).mono ?_
  rintro e w2 ⟨rfl, hb⟩
  replace B_a := B_a.below hb
  replace B_b := B_b.below hb
  replace hB := hB.trans (hb.mono hB.size)
  have sz := hb.size
  clear hb
  replace q_a_0 := B_a.cell 0 _ rfl
  replace q_a_1 := B_a.cell 1 _ rfl
  replace fr_a := B_a.fro
  replace z_a := B_a.lt
  replace q_b_0 := B_b.cell 0 _ rfl
  replace q_b_1 := B_b.cell 1 _ rfl
  replace fr_b := B_b.fro
  replace z_b := B_b.lt
  clear k1
  go_wp2_with fail
  go_ret
  exact ⟨ret_bool HV.out.symm, hB⟩

set_option maxRecDepth 100000 in
set_option maxHeartbeats 1000000 in
theorem SameMem_impl (w : World) (H K : HMem) (x y : Mem) (h1 : RdMem w w.heap.size H x) (h2 : RdMem w w.heap.size K y) :
    Calls Try.prog 95 #[.agg #[.slice H.Heap.Bytes.a H.Heap.Bytes.len H.Heap.Bytes.cap, .slice H.Heap.Class.a H.Heap.Class.len H.Heap.Class.cap, .slice H.Lists.Global.a H.Lists.Global.len H.Lists.Global.cap, .slice H.Lists.Own.a H.Lists.Own.len H.Lists.Own.cap], .agg #[.slice K.Heap.Bytes.a K.Heap.Bytes.len K.Heap.Bytes.cap, .slice K.Heap.Class.a K.Heap.Class.len K.Heap.Class.cap, .slice K.Lists.Global.a K.Lists.Global.len K.Lists.Global.cap, .slice K.Lists.Own.a K.Lists.Own.len K.Lists.Own.cap]] w fun e w' => e = .returned (.bool (sameMemB x y)) ∧ Below w.heap.size w w' := by
  have k0 := fun (W : World) (hW : Below w.heap.size w W) => SameHeap_impl W H.Heap K.Heap x.Heap y.Heap (rdHeap_up h1.Heap hW) (rdHeap_up h2.Heap hW)
  have k1 := fun (W : World) (hW : Below w.heap.size w W) => SameLists_impl W H.Lists K.Lists x.Lists y.Lists (rdLists_up h1.Lists hW) (rdLists_up h2.Lists hW)
  have HV : Hid (sameMemB x y = (sameHeapB x.Heap y.Heap && sameListsB x.Lists y.Lists)) := (rfl : _ = _)
  generalize sameHeapB x.Heap y.Heap = c0 at k0 HV
  generalize sameListsB x.Lists y.Lists = c1 at k1 HV
  cases c0 with
  | false =>
    replace HV : Hid (sameMemB x y = false) := HV.out.trans (by simp)
    have B_a : Box ((w.alloc (.cells #[.slice H.Heap.Bytes.a H.Heap.Bytes.len H.Heap.Bytes.cap, .slice H.Heap.Class.a H.Heap.Class.len H.Heap.Class.cap, .slice H.Lists.Global.a H.Lists.Global.len H.Lists.Global.cap, .slice H.Lists.Own.a H.Lists.Own.len H.Lists.Own.cap] 59)).alloc (.cells #[.slice K.Heap.Bytes.a K.Heap.Bytes.len K.Heap.Bytes.cap, .slice K.Heap.Class.a K.Heap.Class.len K.Heap.Class.cap, .slice K.Lists.Global.a K.Lists.Global.len K.Lists.Global.cap, .slice K.Lists.Own.a K.Lists.Own.len K.Lists.Own.cap] 59)) (w.heap.size) [.slice H.Heap.Bytes.a H.Heap.Bytes.len H.Heap.Bytes.cap, .slice H.Heap.Class.a H.Heap.Class.len H.Heap.Class.cap, .slice H.Lists.Global.a H.Lists.Global.len H.Lists.Global.cap, .slice H.Lists.Own.a H.Lists.Own.len H.Lists.Own.cap] := by
      have hbx := Box.new w #[.slice H.Heap.Bytes.a H.Heap.Bytes.len H.Heap.Bytes.cap, .slice H.Heap.Class.a H.Heap.Class.len H.Heap.Class.cap, .slice H.Lists.Global.a H.Lists.Global.len H.Lists.Global.cap, .slice H.Lists.Own.a H.Lists.Own.len H.Lists.Own.cap] 59
      exact (hbx).alloc _
    have B_b : Box ((w.alloc (.cells #[.slice H.Heap.Bytes.a H.Heap.Bytes.len H.Heap.Bytes.cap, .slice H.Heap.Class.a H.Heap.Class.len H.Heap.Class.cap, .slice H.Lists.Global.a H.Lists.Global.len H.Lists.Global.cap, .slice H.Lists.Own.a H.Lists.Own.len H.Lists.Own.cap] 59)).alloc (.cells #[.slice K.Heap.Bytes.a K.Heap.Bytes.len K.Heap.Bytes.cap, .slice K.Heap.Class.a K.Heap.Class.len K.Heap.Class.cap, .slice K.Lists.Global.a K.Lists.Global.len K.Lists.Global.cap, .slice K.Lists.Own.a K.Lists.Own.len K.Lists.Own.cap] 59)) (w.heap.size + 1) [.slice K.Heap.Bytes.a K.Heap.Bytes.len K.Heap.Bytes.cap, .slice K.Heap.Class.a K.Heap.Class.len K.Heap.Class.cap, .slice K.Lists.Global.a K.Lists.Global.len K.Lists.Global.cap, .slice K.Lists.Own.a K.Lists.Own.len K.Lists.Own.cap] := by
      have hbx := Box.new (w.alloc (.cells #[.slice H.Heap.Bytes.a H.Heap.Bytes.len H.Heap.Bytes.cap, .slice H.Heap.Class.a H.Heap.Class.len H.Heap.Class.cap, .slice H.Lists.Global.a H.Lists.Global.len H.Lists.Global.cap, .slice H.Lists.Own.a H.Lists.Own.len H.Lists.Own.cap] 59)) #[.slice K.Heap.Bytes.a K.Heap.Bytes.len K.Heap.Bytes.cap, .slice K.Heap.Class.a K.Heap.Class.len K.Heap.Class.cap, .slice K.Lists.Global.a K.Lists.Global.len K.Lists.Global.cap, .slice K.Lists.Own.a K.Lists.Own.len K.Lists.Own.cap] 59
      simp only [World.size_alloc] at hbx
      exact hbx
    have hB : Below w.heap.size w ((w.alloc (.cells #[.slice H.Heap.Bytes.a H.Heap.Bytes.len H.Heap.Bytes.cap, .slice H.Heap.Class.a H.Heap.Class.len H.Heap.Class.cap, .slice H.Lists.Global.a H.Lists.Global.len H.Lists.Global.cap, .slice H.Lists.Own.a H.Lists.Own.len H.Lists.Own.cap] 59)).alloc (.cells #[.slice K.Heap.Bytes.a K.Heap.Bytes.len K.Heap.Bytes.cap, .slice K.Heap.Class.a K.Heap.Class.len K.Heap.Class.cap, .slice K.Lists.Global.a K.Lists.Global.len K.Lists.Global.cap, .slice K.Lists.Own.a K.Lists.Own.len K.Lists.Own.cap] 59)) := by repeat (first | exact Below.refl _ _ | refine Below.alloc ?_ (by simp <;> omega) _ | refine below_grow_of ?_ (by simp <;> omega) _ _ | refine Below.drew ?_ | refine below_drewN ?_ _)
    go_enter Try.func95, Try.ntmps95
    go_wp2_with fail
    generalize hW0 : ((w.alloc (.cells #[.slice H.Heap.Bytes.a H.Heap.Bytes.len H.Heap.Bytes.cap, .slice H.Heap.Class.a H.Heap.Class.len H.Heap.Class.cap, .slice H.Lists.Global.a H.Lists.Global.len H.Lists.Global.cap, .slice H.Lists.Own.a H.Lists.Own.len H.Lists.Own.cap] 59)).alloc (.cells #[.slice K.Heap.Bytes.a K.Heap.Bytes.len K.Heap.Bytes.cap, .slice K.Heap.Class.a K.Heap.Class.len K.Heap.Class.cap, .slice K.Lists.Global.a K.Lists.Global.len K.Lists.Global.cap, .slice K.Lists.Own.a K.Lists.Own.len K.Lists.Own.cap] 59)) = w0 at B_a B_b hB ⊢
    clear hW0
    have zz_a := B_a.lt
    have zz_b := B_b.lt
    have q_a_0 := B_a.cell 0 _ rfl
    have q_a_1 := B_a.cell 1 _ rfl
    have q_a_2 := B_a.cell 2 _ rfl
    have q_a_3 := B_a.cell 3 _ rfl
    have fr_a := B_a.fro
    have z_a := B_a.lt
    have q_b_0 := B_b.cell 0 _ rfl
    have q_b_1 := B_b.cell 1 _ rfl
    have q_b_2 := B_b.cell 2 _ rfl
    have q_b_3 := B_b.cell 3 _ rfl
    have fr_b := B_b.fro
    have z_b := B_b.lt
    refine (k0 _ hB).mono ?_
    rintro e w1 ⟨rfl, hb⟩
    replace B_a := B_a.below hb
    replace B_b := B_b.below hb
    replace hB := hB.trans (hb.mono hB.size)
    have sz := hb.size
    clear hb
    replace q_a_0 := B_a.cell 0 _ rfl
    replace q_a_1 := B_a.cell 1 _ rfl
    replace q_a_2 := B_a.cell 2 _ rfl
    replace q_a_3 := B_a.cell 3 _ rfl
    replace fr_a := B_a.fro
    replace z_a := B_a.lt
    replace q_b_0 := B_b.cell 0 _ rfl
    replace q_b_1 := B_b.cell 1 _ rfl
    replace q_b_2 := B_b.cell 2 _ rfl
    replace q_b_3 := B_b.cell 3 _ rfl
    replace fr_b := B_b.fro
    replace z_b := B_b.lt
    clear k0
    go_wp2_with fail
    go_ret
    exact ⟨ret_bool HV.out.symm, hB⟩
  | true =>
  cases c1 with
  | false =>
    replace HV : Hid (sameMemB x y = false) := HV.out.trans (by simp)
    have B_a : Box ((w.alloc (.cells #[.slice H.Heap.Bytes.a H.Heap.Bytes.len H.Heap.Bytes.cap, .slice H.Heap.Class.a H.Heap.Class.len H.Heap.Class.cap, .slice H.Lists.Global.a H.Lists.Global.len H.Lists.Global.cap, .slice H.Lists.Own.a H.Lists.Own.len H.Lists.Own.cap] 59)).alloc (.cells #[.slice K.Heap.Bytes.a K.Heap.Bytes.len K.Heap.Bytes.cap, .slice K.Heap.Class.a K.Heap.Class.len K.Heap.Class.cap, .slice K.Lists.Global.a K.Lists.Global.len K.Lists.Global.cap, .slice K.Lists.Own.a K.Lists.Own.len K.Lists.Own.cap] 59)) (w.heap.size) [.slice H.Heap.Bytes.a H.Heap.Bytes.len H.Heap.Bytes.cap, .slice H.Heap.Class.a H.Heap.Class.len H.Heap.Class.cap, .slice H.Lists.Global.a H.Lists.Global.len H.Lists.Global.cap, .slice H.Lists.Own.a H.Lists.Own.len H.Lists.Own.cap] := by
      have hbx := Box.new w #[.slice H.Heap.Bytes.a H.Heap.Bytes.len H.Heap.Bytes.cap, .slice H.Heap.Class.a H.Heap.Class.len H.Heap.Class.cap, .slice H.Lists.Global.a H.Lists.Global.len H.Lists.Global.cap, .slice H.Lists.Own.a H.Lists.Own.len H.Lists.Own.cap] 59
      exact (hbx).alloc _
    have B_b : Box ((w.alloc (.cells #[.slice H.Heap.Bytes.a H.Heap.Bytes.len H.Heap.Bytes.cap, .slice H.Heap.Class.a H.Heap.Class.len H.Heap.Class.cap, .slice H.Lists.Global.a H.Lists.Global.len H.Lists.Global.cap, .slice H.Lists.Own.a H.Lists.Own.len H.Lists.Own.cap] 59)).alloc (.cells #[.slice K.Heap.Bytes.a K.Heap.Bytes.len K.Heap.Bytes.cap, .slice K.Heap.Class.a K.Heap.Class.len K.Heap.Class.cap, .slice K.Lists.Global.a K.Lists.Global.len K.Lists.Global.cap, .slice K.Lists.Own.a K.Lists.Own.len K.Lists.Own.cap] 59)) (w.heap.size + 1) [.slice K.Heap.Bytes.a K.Heap.Bytes.len K.Heap.Bytes.cap, .slice K.Heap.Class.a K.Heap.Class.len K.Heap.Class.cap, .slice K.Lists.Global.a K.Lists.Global.len K.Lists.Global.cap, .slice K.Lists.Own.a K.Lists.Own.len K.Lists.Own.cap] := by
      have hbx := Box.new (w.alloc (.cells #[.slice H.Heap.Bytes.a H.Heap.Bytes.len H.Heap.Bytes.cap, .slice H.Heap.Class.a H.Heap.Class.len H.Heap.Class.cap, .slice H.Lists.Global.a H.Lists.Global.len H.Lists.Global.cap, .slice H.Lists.Own.a H.Lists.Own.len H.Lists.Own.cap] 59)) #[.slice K.Heap.Bytes.a K.Heap.Bytes.len K.Heap.Bytes.cap, .slice K.Heap.Class.a K.Heap.Class.len K.Heap.Class.cap, .slice K.Lists.Global.a K.Lists.Global.len K.Lists.Global.cap, .slice K.Lists.Own.a K.Lists.Own.len K.Lists.Own.cap] 59
      simp only [World.size_alloc] at hbx
      exact hbx
    have hB : Below w.heap.size w ((w.alloc (.cells #[.slice H.Heap.Bytes.a H.Heap.Bytes.len H.Heap.Bytes.cap, .slice H.Heap.Class.a H.Heap.Class.len H.Heap.Class.cap, .slice H.Lists.Global.a H.Lists.Global.len H.Lists.Global.cap, .slice H.Lists.Own.a H.Lists.Own.len H.Lists.Own.cap] 59)).alloc (.cells #[.slice K.Heap.Bytes.a K.Heap.Bytes.len K.Heap.Bytes.cap, .slice K.Heap.Class.a K.Heap.Class.len K.Heap.Class.cap, .slice K.Lists.Global.a K.Lists.Global.len K.Lists.Global.cap, .slice K.Lists.Own.a K.Lists.Own.len K.Lists.Own.cap] 59)) := by repeat (first | exact Below.refl _ _ | refine Below.alloc ?_ (by simp <;> omega) _ | refine below_grow_of ?_ (by simp <;> omega) _ _ | refine Below.drew ?_ | refine below_drewN ?_ _)
    go_enter Try.func95, Try.ntmps95
    go_wp2_with fail
    generalize hW0 : ((w.alloc (.cells #[.slice H.Heap.Bytes.a H.Heap.Bytes.len H.Heap.Bytes.cap, .slice H.Heap.Class.a H.Heap.Class.len H.Heap.Class.cap, .slice H.Lists.Global.a H.Lists.Global.len H.Lists.Global.cap, .slice H.Lists.Own.a H.Lists.Own.len H.Lists.Own.cap] 59)).alloc (.cells #[.slice K.Heap.Bytes.a K.Heap.Bytes.len K.Heap.Bytes.cap, .slice K.Heap.Class.a K.Heap.Class.len K.Heap.Class.cap, .slice K.Lists.Global.a K.Lists.Global.len K.Lists.Global.cap, .slice K.Lists.Own.a K.Lists.Own.len K.Lists.Own.cap] 59)) = w0 at B_a B_b hB ⊢
    clear hW0
    have zz_a := B_a.lt
    have zz_b := B_b.lt
    have q_a_0 := B_a.cell 0 _ rfl
    have q_a_1 := B_a.cell 1 _ rfl
    have q_a_2 := B_a.cell 2 _ rfl
    have q_a_3 := B_a.cell 3 _ rfl
    have fr_a := B_a.fro
    have z_a := B_a.lt
    have q_b_0 := B_b.cell 0 _ rfl
    have q_b_1 := B_b.cell 1 _ rfl
    have q_b_2 := B_b.cell 2 _ rfl
    have q_b_3 := B_b.cell 3 _ rfl
    have fr_b := B_b.fro
    have z_b := B_b.lt
    refine (k0 _ hB).mono ?_
    rintro e w1 ⟨rfl, hb⟩
    replace B_a := B_a.below hb
    replace B_b := B_b.below hb
    replace hB := hB.trans (hb.mono hB.size)
    have sz := hb.size
    clear hb
    replace q_a_0 := B_a.cell 0 _ rfl
    replace q_a_1 := B_a.cell 1 _ rfl
    replace q_a_2 := B_a.cell 2 _ rfl
    replace q_a_3 := B_a.cell 3 _ rfl
    replace fr_a := B_a.fro
    replace z_a := B_a.lt
    replace q_b_0 := B_b.cell 0 _ rfl
    replace q_b_1 := B_b.cell 1 _ rfl
    replace q_b_2 := B_b.cell 2 _ rfl
    replace q_b_3 := B_b.cell 3 _ rfl
    replace fr_b := B_b.fro
    replace z_b := B_b.lt
    clear k0
    go_wp2_with fail
    refine (k1 _ hB).mono ?_
    rintro e w2 ⟨rfl, hb⟩
    replace B_a := B_a.below hb
    replace B_b := B_b.below hb
    replace hB := hB.trans (hb.mono hB.size)
    have sz := hb.size
    clear hb
    replace q_a_0 := B_a.cell 0 _ rfl
    replace q_a_1 := B_a.cell 1 _ rfl
    replace q_a_2 := B_a.cell 2 _ rfl
    replace q_a_3 := B_a.cell 3 _ rfl
    replace fr_a := B_a.fro
    replace z_a := B_a.lt
    replace q_b_0 := B_b.cell 0 _ rfl
    replace q_b_1 := B_b.cell 1 _ rfl
    replace q_b_2 := B_b.cell 2 _ rfl
    replace q_b_3 := B_b.cell 3 _ rfl
    replace fr_b := B_b.fro
    replace z_b := B_b.lt
    clear k1
    go_wp2_with fail
    go_ret
    exact ⟨ret_bool HV.out.symm, hB⟩
  | true =>
  replace HV : Hid (sameMemB x y = true) := HV.out.trans (by simp)
  have B_a : Box ((w.alloc (.cells #[.slice H.Heap.Bytes.a H.Heap.Bytes.len H.Heap.Bytes.cap, .slice H.Heap.Class.a H.Heap.Class.len H.Heap.Class.cap, .slice H.Lists.Global.a H.Lists.Global.len H.Lists.Global.cap, .slice H.Lists.Own.a H.Lists.Own.len H.Lists.Own.cap] 59)).alloc (.cells #[.slice K.Heap.Bytes.a K.Heap.Bytes.len K.Heap.Bytes.cap, .slice K.Heap.Class.a K.Heap.Class.len K.Heap.Class.cap, .slice K.Lists.Global.a K.Lists.Global.len K.Lists.Global.cap, .slice K.Lists.Own.a K.Lists.Own.len K.Lists.Own.cap] 59)) (w.heap.size) [.slice H.Heap.Bytes.a H.Heap.Bytes.len H.Heap.Bytes.cap, .slice H.Heap.Class.a H.Heap.Class.len H.Heap.Class.cap, .slice H.Lists.Global.a H.Lists.Global.len H.Lists.Global.cap, .slice H.Lists.Own.a H.Lists.Own.len H.Lists.Own.cap] := by
    have hbx := Box.new w #[.slice H.Heap.Bytes.a H.Heap.Bytes.len H.Heap.Bytes.cap, .slice H.Heap.Class.a H.Heap.Class.len H.Heap.Class.cap, .slice H.Lists.Global.a H.Lists.Global.len H.Lists.Global.cap, .slice H.Lists.Own.a H.Lists.Own.len H.Lists.Own.cap] 59
    exact (hbx).alloc _
  have B_b : Box ((w.alloc (.cells #[.slice H.Heap.Bytes.a H.Heap.Bytes.len H.Heap.Bytes.cap, .slice H.Heap.Class.a H.Heap.Class.len H.Heap.Class.cap, .slice H.Lists.Global.a H.Lists.Global.len H.Lists.Global.cap, .slice H.Lists.Own.a H.Lists.Own.len H.Lists.Own.cap] 59)).alloc (.cells #[.slice K.Heap.Bytes.a K.Heap.Bytes.len K.Heap.Bytes.cap, .slice K.Heap.Class.a K.Heap.Class.len K.Heap.Class.cap, .slice K.Lists.Global.a K.Lists.Global.len K.Lists.Global.cap, .slice K.Lists.Own.a K.Lists.Own.len K.Lists.Own.cap] 59)) (w.heap.size + 1) [.slice K.Heap.Bytes.a K.Heap.Bytes.len K.Heap.Bytes.cap, .slice K.Heap.Class.a K.Heap.Class.len K.Heap.Class.cap, .slice K.Lists.Global.a K.Lists.Global.len K.Lists.Global.cap, .slice K.Lists.Own.a K.Lists.Own.len K.Lists.Own.cap] := by
    have hbx := Box.new (w.alloc (.cells #[.slice H.Heap.Bytes.a H.Heap.Bytes.len H.Heap.Bytes.cap, .slice H.Heap.Class.a H.Heap.Class.len H.Heap.Class.cap, .slice H.Lists.Global.a H.Lists.Global.len H.Lists.Global.cap, .slice H.Lists.Own.a H.Lists.Own.len H.Lists.Own.cap] 59)) #[.slice K.Heap.Bytes.a K.Heap.Bytes.len K.Heap.Bytes.cap, .slice K.Heap.Class.a K.Heap.Class.len K.Heap.Class.cap, .slice K.Lists.Global.a K.Lists.Global.len K.Lists.Global.cap, .slice K.Lists.Own.a K.Lists.Own.len K.Lists.Own.cap] 59
    simp only [World.size_alloc] at hbx
    exact hbx
  have hB : Below w.heap.size w ((w.alloc (.cells #[.slice H.Heap.Bytes.a H.Heap.Bytes.len H.Heap.Bytes.cap, .slice H.Heap.Class.a H.Heap.Class.len H.Heap.Class.cap, .slice H.Lists.Global.a H.Lists.Global.len H.Lists.Global.cap, .slice H.Lists.Own.a H.Lists.Own.len H.Lists.Own.cap] 59)).alloc (.cells #[.slice K.Heap.Bytes.a K.Heap.Bytes.len K.Heap.Bytes.cap, .slice K.Heap.Class.a K.Heap.Class.len K.Heap.Class.cap, .slice K.Lists.Global.a K.Lists.Global.len K.Lists.Global.cap, .slice K.Lists.Own.a K.Lists.Own.len K.Lists.Own.cap] 59)) := by repeat (first | exact Below.refl _ _ | refine Below.alloc ?_ (by simp <;> omega) _ | refine below_grow_of ?_ (by simp <;> omega) _ _ | refine Below.drew ?_ | refine below_drewN ?_ _)
  go_enter Try.func95, Try.ntmps95
  go_wp2_with fail
  generalize hW0 : ((w.alloc (.cells #[.slice H.Heap.Bytes.a H.Heap.Bytes.len H.Heap.Bytes.cap, .slice H.Heap.Class.a H.Heap.Class.len H.Heap.Class.cap, .slice H.Lists.Global.a H.Lists.Global.len H.Lists.Global.cap, .slice H.Lists.Own.a H.Lists.Own.len H.Lists.Own.cap] 59)).alloc (.cells #[.slice K.Heap.Bytes.a K.Heap.Bytes.len K.Heap.Bytes.cap, .slice K.Heap.Class.a K.Heap.Class.len K.Heap.Class.cap, .slice K.Lists.Global.a K.Lists.Global.len K.Lists.Global.cap, .slice K.Lists.Own.a K.Lists.Own.len K.Lists.Own.cap] 59)) = w0 at B_a B_b hB ⊢
  clear hW0
  have zz_a := B_a.lt
  have zz_b := B_b.lt
  have q_a_0 := B_a.cell 0 _ rfl
  have q_a_1 := B_a.cell 1 _ rfl
  have q_a_2 := B_a.cell 2 _ rfl
  have q_a_3 := B_a.cell 3 _ rfl
  have fr_a := B_a.fro
  have z_a := B_a.lt
  have q_b_0 := B_b.cell 0 _ rfl
  have q_b_1 := B_b.cell 1 _ rfl
  have q_b_2 := B_b.cell 2 _ rfl
  have q_b_3 := B_b.cell 3 _ rfl
  have fr_b := B_b.fro
  have z_b := B_b.lt
  refine (k0 _ hB).mono ?_
  rintro e w1 ⟨rfl, hb⟩
  replace B_a := B_a.below hb
  replace B_b := B_b.below hb
  replace hB := hB.trans (hb.mono hB.size)
  have sz := hb.size
  clear hb
  replace q_a_0 := B_a.cell 0 _ rfl
  replace q_a_1 := B_a.cell 1 _ rfl
  replace q_a_2 := B_a.cell 2 _ rfl
  replace q_a_3 := B_a.cell 3 _ rfl
  replace fr_a := B_a.fro
  replace z_a := B_a.lt
  replace q_b_0 := B_b.cell 0 _ rfl
  replace q_b_1 := B_b.cell 1 _ rfl
  replace q_b_2 := B_b.cell 2 _ rfl
  replace q_b_3 := B_b.cell 3 _ rfl
  replace fr_b := B_b.fro
  replace z_b := B_b.lt
  clear k0
  go_wp2_with fail
  refine (k1 _ hB).mono ?_
  rintro e w2 ⟨rfl, hb⟩
  replace B_a := B_a.below hb
  replace B_b := B_b.below hb
  replace hB := hB.trans (hb.mono hB.size)
  have sz := hb.size
  clear hb
  replace q_a_0 := B_a.cell 0 _ rfl
  replace q_a_1 := B_a.cell 1 _ rfl
  replace q_a_2 := B_a.cell 2 _ rfl
  replace q_a_3 := B_a.cell 3 _ rfl
  replace fr_a := B_a.fro
  replace z_a := B_a.lt
  replace q_b_0 := B_b.cell 0 _ rfl
  replace q_b_1 := B_b.cell 1 _ rfl
  replace q_b_2 := B_b.cell 2 _ rfl
  replace q_b_3 := B_b.cell 3 _ rfl
  replace fr_b := B_b.fro
  replace z_b := B_b.lt
  clear k1
  go_wp2_with fail
  go_ret
  exact ⟨ret_bool HV.out.symm, hB⟩

set_option maxRecDepth 100000 in
set_option maxHeartbeats 1000000 in
theorem SameMem_spec (w : World) (H K : HMem) (x y : Mem) (h1 : RdMem w w.heap.size H x) (h2 : RdMem w w.heap.size K y) :
    Calls Try.prog 92 #[.agg #[.slice H.Heap.Bytes.a H.Heap.Bytes.len H.Heap.Bytes.cap, .slice H.Heap.Class.a H.Heap.Class.len H.Heap.Class.cap, .slice H.Lists.Global.a H.Lists.Global.len H.Lists.Global.cap, .slice H.Lists.Own.a H.Lists.Own.len H.Lists.Own.cap], .agg #[.slice K.Heap.Bytes.a K.Heap.Bytes.len K.Heap.Bytes.cap, .slice K.Heap.Class.a K.Heap.Class.len K.Heap.Class.cap, .slice K.Lists.Global.a K.Lists.Global.len K.Lists.Global.cap, .slice K.Lists.Own.a K.Lists.Own.len K.Lists.Own.cap]] w fun e w' => e = .returned (.bool (sameMemB x y)) ∧ Below w.heap.size w w' := by
  have k0 := fun (W : World) (hW : Below w.heap.size w W) => SameHeap_spec W H.Heap K.Heap x.Heap y.Heap (rdHeap_up h1.Heap hW) (rdHeap_up h2.Heap hW)
  have k1 := fun (W : World) (hW : Below w.heap.size w W) => SameLists_spec W H.Lists K.Lists x.Lists y.Lists (rdLists_up h1.Lists hW) (rdLists_up h2.Lists hW)
  have HV : Hid (sameMemB x y = (sameHeapB x.Heap y.Heap && sameListsB x.Lists y.Lists)) := (rfl : _ = _)
  generalize sameHeapB x.Heap y.Heap = c0 at k0 HV
  generalize sameListsB x.Lists y.Lists = c1 at k1 HV
  cases c0 with
  | false =>
    replace HV : Hid (sameMemB x y = false) := HV.out.trans (by simp)
    have B_a : Box ((w.alloc (.cells #[.slice H.Heap.Bytes.a H.Heap.Bytes.len H.Heap.Bytes.cap, .slice H.Heap.Class.a H.Heap.Class.len H.Heap.Class.cap, .slice H.Lists.Global.a H.Lists.Global.len H.Lists.Global.cap, .slice H.Lists.Own.a H.Lists.Own.len H.Lists.Own.cap] 59)).alloc (.cells #[.slice K.Heap.Bytes.a K.Heap.Bytes.len K.Heap.Bytes.cap, .slice K.Heap.Class.a K.Heap.Class.len K.Heap.Class.cap, .slice K.Lists.Global.a K.Lists.Global.len K.Lists.Global.cap, .slice K.Lists.Own.a K.Lists.Own.len K.Lists.Own.cap] 59)) (w.heap.size) [.slice H.Heap.Bytes.a H.Heap.Bytes.len H.Heap.Bytes.cap, .slice H.Heap.Class.a H.Heap.Class.len H.Heap.Class.cap, .slice H.Lists.Global.a H.Lists.Global.len H.Lists.Global.cap, .slice H.Lists.Own.a H.Lists.Own.len H.Lists.Own.cap] := by
      have hbx := Box.new w #[.slice H.Heap.Bytes.a H.Heap.Bytes.len H.Heap.Bytes.cap, .slice H.Heap.Class.a H.Heap.Class.len H.Heap.Class.cap, .slice H.Lists.Global.a H.Lists.Global.len H.Lists.Global.cap, .slice H.Lists.Own.a H.Lists.Own.len H.Lists.Own.cap] 59
      exact (hbx).alloc _
    have B_b : Box ((w.alloc (.cells #[.slice H.Heap.Bytes.a H.Heap.Bytes.len H.Heap.Bytes.cap, .slice H.Heap.Class.a H.Heap.Class.len H.Heap.Class.cap, .slice H.Lists.Global.a H.Lists.Global.len H.Lists.Global.cap, .slice H.Lists.Own.a H.Lists.Own.len H.Lists.Own.cap] 59)).alloc (.cells #[.slice K.Heap.Bytes.a K.Heap.Bytes.len K.Heap.Bytes.cap, .slice K.Heap.Class.a K.Heap.Class.len K.Heap.Class.cap, .slice K.Lists.Global.a K.Lists.Global.len K.Lists.Global.cap, .slice K.Lists.Own.a K.Lists.Own.len K.Lists.Own.cap] 59)) (w.heap.size + 1) [.slice K.Heap.Bytes.a K.Heap.Bytes.len K.Heap.Bytes.cap, .slice K.Heap.Class.a K.Heap.Class.len K.Heap.Class.cap, .slice K.Lists.Global.a K.Lists.Global.len K.Lists.Global.cap, .slice K.Lists.Own.a K.Lists.Own.len K.Lists.Own.cap] := by
      have hbx := Box.new (w.alloc (.cells #[.slice H.Heap.Bytes.a H.Heap.Bytes.len H.Heap.Bytes.cap, .slice H.Heap.Class.a H.Heap.Class.len H.Heap.Class.cap, .slice H.Lists.Global.a H.Lists.Global.len H.Lists.Global.cap, .slice H.Lists.Own.a H.Lists.Own.len H.Lists.Own.cap] 59)) #[.slice K.Heap.Bytes.a K.Heap.Bytes.len K.Heap.Bytes.cap, .slice K.Heap.Class.a K.Heap.Class.len K.Heap.Class.cap, .slice K.Lists.Global.a K.Lists.Global.len K.Lists.Global.cap, .slice K.Lists.Own.a K.Lists.Own.len K.Lists.Own.cap] 59
      simp only [World.size_alloc] at hbx
      exact hbx
    have hB : Below w.heap.size w ((w.alloc (.cells #[.slice H.Heap.Bytes.a H.Heap.Bytes.len H.Heap.Bytes.cap, .slice H.Heap.Class.a H.Heap.Class.len H.Heap.Class.cap, .slice H.Lists.Global.a H.Lists.Global.len H.Lists.Global.cap, .slice H.Lists.Own.a H.Lists.Own.len H.Lists.Own.cap] 59)).alloc (.cells #[.slice K.Heap.Bytes.a K.Heap.Bytes.len K.Heap.Bytes.cap, .slice K.Heap.Class.a K.Heap.Class.len K.Heap.Class.cap, .slice K.Lists.Global.a K.Lists.Global.len K.Lists.Global.cap, .slice K.Lists.Own.a K.Lists.Own.len K.Lists.Own.cap] 59)) := by repeat (first | exact Below.refl _ _ | refine Below.alloc ?_ (by simp <;> omega) _ | refine below_grow_of ?_ (by simp <;> omega) _ _ | refine Below.drew ?_ | refine below_drewN ?_ _)
    go_enter Try.func92, Try.ntmps92
    go_wp2_with fail
    generalize hW0 : ((w.alloc (.cells #[.slice H.Heap.Bytes.a H.Heap.Bytes.len H.Heap.Bytes.cap, .slice H.Heap.Class.a H.Heap.Class.len H.Heap.Class.cap, .slice H.Lists.Global.a H.Lists.Global.len H.Lists.Global.cap, .slice H.Lists.Own.a H.Lists.Own.len H.Lists.Own.cap] 59)).alloc (.cells #[.slice K.Heap.Bytes.a K.Heap.Bytes.len K.Heap.Bytes.cap, .slice K.Heap.Class.a K.Heap.Class.len K.Heap.Class.cap, .slice K.Lists.Global.a K.Lists.Global.len K.Lists.Global.cap, .slice K.Lists.Own.a K.Lists.Own.len K.Lists.Own.cap] 59)) = w0 at B_a B_b hB ⊢
    clear hW0
    have zz_a := B_a.lt
    have zz_b := B_b.lt
    have q_a_0 := B_a.cell 0 _ rfl
    have q_a_1 := B_a.cell 1 _ rfl
    have q_a_2 := B_a.cell 2 _ rfl
    have q_a_3 := B_a.cell 3 _ rfl
    have fr_a := B_a.fro
    have z_a := B_a.lt
    have q_b_0 := B_b.cell 0 _ rfl
    have q_b_1 := B_b.cell 1 _ rfl
    have q_b_2 := B_b.cell 2 _ rfl
    have q_b_3 := B_b.cell 3 _ rfl
    have fr_b := B_b.fro
    have z_b := B_b.lt
    refine (k0 _ hB).mono ?_
    rintro e w1 ⟨rfl, hb⟩
    replace B_a := B_a.below hb
    replace B_b := B_b.below hb
    replace hB := hB.trans (hb.mono hB.size)
    have sz := hb.size
    clear hb
    replace q_a_0 := B_a.cell 0 _ rfl
    replace q_a_1 := B_a.cell 1 _ rfl
    replace q_a_2 := B_a.cell 2 _ rfl
    replace q_a_3 := B_a.cell 3 _ rfl
    replace fr_a := B_a.fro
    replace z_a := B_a.lt
    replace q_b_0 := B_b.cell 0 _ rfl
    replace q_b_1 := B_b.cell 1 _ rfl
    replace q_b_2 := B_b.cell 2 _ rfl
    replace q_b_3 := B_b.cell 3 _ rfl
    replace fr_b := B_b.fro
    replace z_b := B_b.lt
    clear k0
    go_wp2_with fail
    go_ret
    exact ⟨ret_bool HV.out.symm, hB⟩
  | true =>
  cases c1 with
  | false =>
    replace HV : Hid (sameMemB x y = false) := HV.out.trans (by simp)
    have B_a : Box ((w.alloc (.cells #[.slice H.Heap.Bytes.a H.Heap.Bytes.len H.Heap.Bytes.cap, .slice H.Heap.Class.a H.Heap.Class.len H.Heap.Class.cap, .slice H.Lists.Global.a H.Lists.Global.len H.Lists.Global.cap, .slice H.Lists.Own.a H.Lists.Own.len H.Lists.Own.cap] 59)).alloc (.cells #[.slice K.Heap.Bytes.a K.Heap.Bytes.len K.Heap.Bytes.cap, .slice K.Heap.Class.a K.Heap.Class.len K.Heap.Class.cap, .slice K.Lists.Global.a K.Lists.Global.len K.Lists.Global.cap, .slice K.Lists.Own.a K.Lists.Own.len K.Lists.Own.cap] 59)) (w.heap.size) [.slice H.Heap.Bytes.a H.Heap.Bytes.len H.Heap.Bytes.cap, .slice H.Heap.Class.a H.Heap.Class.len H.Heap.Class.cap, .slice H.Lists.Global.a H.Lists.Global.len H.Lists.Global.cap, .slice H.Lists.Own.a H.Lists.Own.len H.Lists.Own.cap] := by
      have hbx := Box.new w #[.slice H.Heap.Bytes.a H.Heap.Bytes.len H.Heap.Bytes.cap, .slice H.Heap.Class.a H.Heap.Class.len H.Heap.Class.cap, .slice H.Lists.Global.a H.Lists.Global.len H.Lists.Global.cap, .slice H.Lists.Own.a H.Lists.Own.len H.Lists.Own.cap] 59
      exact (hbx).alloc _
    have B_b : Box ((w.alloc (.cells #[.slice H.Heap.Bytes.a H.Heap.Bytes.len H.Heap.Bytes.cap, .slice H.Heap.Class.a H.Heap.Class.len H.Heap.Class.cap, .slice H.Lists.Global.a H.Lists.Global.len H.Lists.Global.cap, .slice H.Lists.Own.a H.Lists.Own.len H.Lists.Own.cap] 59)).alloc (.cells #[.slice K.Heap.Bytes.a K.Heap.Bytes.len K.Heap.Bytes.cap, .slice K.Heap.Class.a K.Heap.Class.len K.Heap.Class.cap, .slice K.Lists.Global.a K.Lists.Global.len K.Lists.Global.cap, .slice K.Lists.Own.a K.Lists.Own.len K.Lists.Own.cap] 59)) (w.heap.size + 1) [.slice K.Heap.Bytes.a K.Heap.Bytes.len K.Heap.Bytes.cap, .slice K.Heap.Class.a K.Heap.Class.len K.Heap.Class.cap, .slice K.Lists.Global.a K.Lists.Global.len K.Lists.Global.cap, .slice K.Lists.Own.a K.Lists.Own.len K.Lists.Own.cap] := by
      have hbx := Box.new (w.alloc (.cells #[.slice H.Heap.Bytes.a H.Heap.Bytes.len H.Heap.Bytes.cap, .slice H.Heap.Class.a H.Heap.Class.len H.Heap.Class.cap, .slice H.Lists.Global.a H.Lists.Global.len H.Lists.Global.cap, .slice H.Lists.Own.a H.Lists.Own.len H.Lists.Own.cap] 59)) #[.slice K.Heap.Bytes.a K.Heap.Bytes.len K.Heap.Bytes.cap, .slice K.Heap.Class.a K.Heap.Class.len K.Heap.Class.cap, .slice K.Lists.Global.a K.Lists.Global.len K.Lists.Global.cap, .slice K.Lists.Own.a K.Lists.Own.len K.Lists.Own.cap] 59
      simp only [World.size_alloc] at hbx
      exact hbx
    have hB : Below w.heap.size w ((w.alloc (.cells #[.slice H.Heap.Bytes.a H.Heap.Bytes.len H.Heap.Bytes.cap, .slice H.Heap.Class.a H.Heap.Class.len H.Heap.Class.cap, .slice H.Lists.Global.a H.Lists.Global.len H.Lists.Global.cap, .slice H.Lists.Own.a H.Lists.Own.len H.Lists.Own.cap] 59)).alloc (.cells #[.slice K.Heap.Bytes.a K.Heap.Bytes.len K.Heap.Bytes.cap, .slice K.Heap.Class.a K.Heap.Class.len K.Heap.Class.cap, .slice K.Lists.Global.a K.Lists.Global.len K.Lists.Global.cap, .slice K.Lists.Own.a K.Lists.Own.len K.Lists.Own.cap] 59)) := by repeat (first | exact Below.refl _ _ | refine Below.alloc ?_ (by simp <;> omega) _ | refine below_grow_of ?_ (by simp <;> omega) _ _ | refine Below.drew ?_ | refine below_drewN ?_ _)
    go_enter Try.func92, Try.ntmps92
    go_wp2_with fail
    generalize hW0 : ((w.alloc (.cells #[.slice H.Heap.Bytes.a H.Heap.Bytes.len H.Heap.Bytes.cap, .slice H.Heap.Class.a H.Heap.Class.len H.Heap.Class.cap, .slice H.Lists.Global.a H.Lists.Global.len H.Lists.Global.cap, .slice H.Lists.Own.a H.Lists.Own.len H.Lists.Own.cap] 59)).alloc (.cells #[.slice K.Heap.Bytes.a K.Heap.Bytes.len K.Heap.Bytes.cap, .slice K.Heap.Class.a K.Heap.Class.len K.Heap.Class.cap, .slice K.Lists.Global.a K.Lists.Global.len K.Lists.Global.cap, .slice K.Lists.Own.a K.Lists.Own.len K.Lists.Own.cap] 59)) = w0 at B_a B_b hB ⊢
    clear hW0
    have zz_a := B_a.lt
    have zz_b := B_b.lt
    have q_a_0 := B_a.cell 0 _ rfl
    have q_a_1 := B_a.cell 1 _ rfl
    have q_a_2 := B_a.cell 2 _ rfl
    have q_a_3 := B_a.cell 3 _ rfl
    have fr_a := B_a.fro
    have z_a := B_a.lt
    have q_b_0 := B_b.cell 0 _ rfl
    have q_b_1 := B_b.cell 1 _ rfl
    have q_b_2 := B_b.cell 2 _ rfl
    have q_b_3 := B_b.cell 3 _ rfl
    have fr_b := B_b.fro
    have z_b := B_b.lt
    refine (k0 _ hB).mono ?_
    rintro e w1 ⟨rfl, hb⟩
    replace B_a := B_a.below hb
    replace B_b := B_b.below hb
    replace hB := hB.trans (hb.mono hB.size)
    have sz := hb.size
    clear hb
    replace q_a_0 := B_a.cell 0 _ rfl
    replace q_a_1 := B_a.cell 1 _ rfl
    replace q_a_2 := B_a.cell 2 _ rfl
    replace q_a_3 := B_a.cell 3 _ rfl
    replace fr_a := B_a.fro
    replace z_a := B_a.lt
    replace q_b_0 := B_b.cell 0 _ rfl
    replace q_b_1 := B_b.cell 1 _ rfl
    replace q_b_2 := B_b.cell 2 _ rfl
    replace q_b_3 := B_b.cell 3 _ rfl
    replace fr_b := B_b.fro
    replace z_b := B_b.lt
    clear k0
    go_wp2_with fail
    refine (k1 _ hB).mono ?_
    rintro e w2 ⟨rfl, hb⟩
    replace B_a := B_a.below hb
    replace B_b := B_b.below hb
    replace hB := hB.trans (hb.mono hB.size)
    have sz := hb.size
    clear hb
    replace q_a_0 := B_a.cell 0 _ rfl
    replace q_a_1 := B_a.cell 1 _ rfl
    replace q_a_2 := B_a.cell 2 _ rfl
    replace q_a_3 := B_a.cell 3 _ rfl
    replace fr_a := B_a.fro
    replace z_a := B_a.lt
    replace q_b_0 := B_b.cell 0 _ rfl
    replace q_b_1 := B_b.cell 1 _ rfl
    replace q_b_2 := B_b.cell 2 _ rfl
    replace q_b_3 := B_b.cell 3 _ rfl
    replace fr_b := B_b.fro
    replace z_b := B_b.lt
    clear k1
    go_wp2_with fail
    go_ret
    exact ⟨ret_bool HV.out.symm, hB⟩
  | true =>
  replace HV : Hid (sameMemB x y = true) := HV.out.trans (by simp)
  have B_a : Box ((w.alloc (.cells #[.slice H.Heap.Bytes.a H.Heap.Bytes.len H.Heap.Bytes.cap, .slice H.Heap.Class.a H.Heap.Class.len H.Heap.Class.cap, .slice H.Lists.Global.a H.Lists.Global.len H.Lists.Global.cap, .slice H.Lists.Own.a H.Lists.Own.len H.Lists.Own.cap] 59)).alloc (.cells #[.slice K.Heap.Bytes.a K.Heap.Bytes.len K.Heap.Bytes.cap, .slice K.Heap.Class.a K.Heap.Class.len K.Heap.Class.cap, .slice K.Lists.Global.a K.Lists.Global.len K.Lists.Global.cap, .slice K.Lists.Own.a K.Lists.Own.len K.Lists.Own.cap] 59)) (w.heap.size) [.slice H.Heap.Bytes.a H.Heap.Bytes.len H.Heap.Bytes.cap, .slice H.Heap.Class.a H.Heap.Class.len H.Heap.Class.cap, .slice H.Lists.Global.a H.Lists.Global.len H.Lists.Global.cap, .slice H.Lists.Own.a H.Lists.Own.len H.Lists.Own.cap] := by
    have hbx := Box.new w #[.slice H.Heap.Bytes.a H.Heap.Bytes.len H.Heap.Bytes.cap, .slice H.Heap.Class.a H.Heap.Class.len H.Heap.Class.cap, .slice H.Lists.Global.a H.Lists.Global.len H.Lists.Global.cap, .slice H.Lists.Own.a H.Lists.Own.len H.Lists.Own.cap] 59
    exact (hbx).alloc _
  have B_b : Box ((w.alloc (.cells #[.slice H.Heap.Bytes.a H.Heap.Bytes.len H.Heap.Bytes.cap, .slice H.Heap.Class.a H.Heap.Class.len H.Heap.Class.cap, .slice H.Lists.Global.a H.Lists.Global.len H.Lists.Global.cap, .slice H.Lists.Own.a H.Lists.Own.len H.Lists.Own.cap] 59)).alloc (.cells #[.slice K.Heap.Bytes.a K.Heap.Bytes.len K.Heap.Bytes.cap, .slice K.Heap.Class.a K.Heap.Class.len K.Heap.Class.cap, .slice K.Lists.Global.a K.Lists.Global.len K.Lists.Global.cap, .slice K.Lists.Own.a K.Lists.Own.len K.Lists.Own.cap] 59)) (w.heap.size + 1) [.slice K.Heap.Bytes.a K.Heap.Bytes.len K.Heap.Bytes.cap, .slice K.Heap.Class.a K.Heap.Class.len K.Heap.Class.cap, .slice K.Lists.Global.a K.Lists.Global.len K.Lists.Global.cap, .slice K.Lists.Own.a K.Lists.Own.len K.Lists.Own.cap] := by
    have hbx := Box.new (w.alloc (.cells #[.slice H.Heap.Bytes.a H.Heap.Bytes.len H.Heap.Bytes.cap, .slice H.Heap.Class.a H.Heap.Class.len H.Heap.Class.cap, .slice H.Lists.Global.a H.Lists.Global.len H.Lists.Global.cap, .slice H.Lists.Own.a H.Lists.Own.len H.Lists.Own.cap] 59)) #[.slice K.Heap.Bytes.a K.Heap.Bytes.len K.Heap.Bytes.cap, .slice K.Heap.Class.a K.Heap.Class.len K.Heap.Class.cap, .slice K.Lists.Global.a K.Lists.Global.len K.Lists.Global.cap, .slice K.Lists.Own.a K.Lists.Own.len K.Lists.Own.cap] 59
    simp only [World.size_alloc] at hbx
    exact hbx
  have hB : Below w.heap.size w ((w.alloc (.cells #[.slice H.Heap.Bytes.a H.Heap.Bytes.len H.Heap.Bytes.cap, .slice H.Heap.Class.a H.Heap.Class.len H.Heap.Class.cap, .slice H.Lists.Global.a H.Lists.Global.len H.Lists.Global.cap, .slice H.Lists.Own.a H.Lists.Own.len H.Lists.Own.cap] 59)).alloc (.cells #[.slice K.Heap.Bytes.a K.Heap.Bytes.len K.Heap.Bytes.cap, .slice K.Heap.Class.a K.Heap.Class.len K.Heap.Class.cap, .slice K.Lists.Global.a K.Lists.Global.len K.Lists.Global.cap, .slice K.Lists.Own.a K.Lists.Own.len K.Lists.Own.cap] 59)) := by repeat (first | exact Below.refl _ _ | refine Below.alloc ?_ (by simp <;> omega) _ | refine below_grow_of ?_ (by simp <;> omega) _ _ | refine Below.drew ?_ | refine below_drewN ?_ _)
  go_enter Try.func92, Try.ntmps92
  go_wp2_with fail
  generalize hW0 : ((w.alloc (.cells #[.slice H.Heap.Bytes.a H.Heap.Bytes.len H.Heap.Bytes.cap, .slice H.Heap.Class.a H.Heap.Class.len H.Heap.Class.cap, .slice H.Lists.Global.a H.Lists.Global.len H.Lists.Global.cap, .slice H.Lists.Own.a H.Lists.Own.len H.Lists.Own.cap] 59)).alloc (.cells #[.slice K.Heap.Bytes.a K.Heap.Bytes.len K.Heap.Bytes.cap, .slice K.Heap.Class.a K.Heap.Class.len K.Heap.Class.cap, .slice K.Lists.Global.a K.Lists.Global.len K.Lists.Global.cap, .slice K.Lists.Own.a K.Lists.Own.len K.Lists.Own.cap] 59)) = w0 at B_a B_b hB ⊢
  clear hW0
  have zz_a := B_a.lt
  have zz_b := B_b.lt
  have q_a_0 := B_a.cell 0 _ rfl
  have q_a_1 := B_a.cell 1 _ rfl
  have q_a_2 := B_a.cell 2 _ rfl
  have q_a_3 := B_a.cell 3 _ rfl
  have fr_a := B_a.fro
  have z_a := B_a.lt
  have q_b_0 := B_b.cell 0 _ rfl
  have q_b_1 := B_b.cell 1 _ rfl
  have q_b_2 := B_b.cell 2 _ rfl
  have q_b_3 := B_b.cell 3 _ rfl
  have fr_b := B_b.fro
  have z_b := B_b.lt
  refine (k0 _ hB).mono ?_
  rintro e w1 ⟨rfl, hb⟩
  replace B_a := B_a.below hb
  replace B_b := B_b.below hb
  replace hB := hB.trans (hb.mono hB.size)
  have sz := hb.size
  clear hb
  replace q_a_0 := B_a.cell 0 _ rfl
  replace q_a_1 := B_a.cell 1 _ rfl
  replace q_a_2 := B_a.cell 2 _ rfl
  replace q_a_3 := B_a.cell 3 _ rfl
  replace fr_a := B_a.fro
  replace z_a := B_a.lt
  replace q_b_0 := B_b.cell 0 _ rfl
  replace q_b_1 := B_b.cell 1 _ rfl
  replace q_b_2 := B_b.cell 2 _ rfl
  replace q_b_3 := B_b.cell 3 _ rfl
  replace fr_b := B_b.fro
  replace z_b := B_b.lt
  clear k0
  go_wp2_with fail
  refine (k1 _ hB).mono ?_
  rintro e w2 ⟨rfl, hb⟩
  replace B_a := B_a.below hb
  replace B_b := B_b.below hb
  replace hB := hB.trans (hb.mono hB.size)
  have sz := hb.size
  clear hb
  replace q_a_0 := B_a.cell 0 _ rfl
  replace q_a_1 := B_a.cell 1 _ rfl
  replace q_a_2 := B_a.cell 2 _ rfl
  replace q_a_3 := B_a.cell 3 _ rfl
  replace fr_a := B_a.fro
  replace z_a := B_a.lt
  replace q_b_0 := B_b.cell 0 _ rfl
  replace q_b_1 := B_b.cell 1 _ rfl
  replace q_b_2 := B_b.cell 2 _ rfl
  replace q_b_3 := B_b.cell 3 _ rfl
  replace fr_b := B_b.fro
  replace z_b := B_b.lt
  clear k1
  go_wp2_with fail
  go_ret
  exact ⟨ret_bool HV.out.symm, hB⟩

set_option maxRecDepth 100000 in
set_option maxHeartbeats 1000000 in
theorem SameBase_impl (w : World) (H K : HBase) (x y : Base) (h1 : RdBase w w.heap.size H x) (h2 : RdBase w w.heap.size K y) :
    Calls Try.prog 54 #[.agg #[.slice H.Mem.Heap.Bytes.a H.Mem.Heap.Bytes.len H.Mem.Heap.Bytes.cap, .slice H.Mem.Heap.Class.a H.Mem.Heap.Class.len H.Mem.Heap.Class.cap, .slice H.Mem.Lists.Global.a H.Mem.Lists.Global.len H.Mem.Lists.Global.cap, .slice H.Mem.Lists.Own.a H.Mem.Lists.Own.len H.Mem.Lists.Own.cap, .int .i64 x.Clock.Epoch, .slice H.Clock.Pins.a H.Clock.Pins.len H.Clock.Pins.cap, .slice H.Limbo.a H.Limbo.len H.Limbo.cap, .slice H.Haz.a H.Haz.len H.Haz.cap], .agg #[.slice K.Mem.Heap.Bytes.a K.Mem.Heap.Bytes.len K.Mem.Heap.Bytes.cap, .slice K.Mem.Heap.Class.a K.Mem.Heap.Class.len K.Mem.Heap.Class.cap, .slice K.Mem.Lists.Global.a K.Mem.Lists.Global.len K.Mem.Lists.Global.cap, .slice K.Mem.Lists.Own.a K.Mem.Lists.Own.len K.Mem.Lists.Own.cap, .int .i64 y.Clock.Epoch, .slice K.Clock.Pins.a K.Clock.Pins.len K.Clock.Pins.cap, .slice K.Limbo.a K.Limbo.len K.Limbo.cap, .slice K.Haz.a K.Haz.len K.Haz.cap]] w fun e w' => e = .returned (.bool (sameBaseB x y)) ∧ Below w.heap.size w w' := by
  have k0 := fun (W : World) (hW : Below w.heap.size w W) => SameMem_impl W H.Mem K.Mem x.Mem y.Mem (rdMem_up h1.Mem hW) (rdMem_up h2.Mem hW)
  have k1 := fun (W : World) (hW : Below w.heap.size w W) => SameClock_impl W H.Clock K.Clock x.Clock y.Clock (rdClock_up h1.Clock hW) (rdClock_up h2.Clock hW)
  have k2 := fun (W : World) (hW : Below w.heap.size w W) => SameLimbo_impl W _ _ _ _ x.Limbo y.Limbo (rdLL_up h1.Limbo hW) (rdLL_up h2.Limbo hW)
  have k3 := fun (W : World) (hW : Below w.heap.size w W) => EqualInt_ct W _ _ x.Haz y.Haz (rd_up h1.Haz hW) (rd_up h2.Haz hW)
  have HV : Hid (sameBaseB x y = (sameMemB x.Mem y.Mem && sameClockB x.Clock y.Clock && decide (x.Limbo = y.Limbo) && decide (x.Haz = y.Haz))) := (rfl : _ = _)
  generalize sameMemB x.Mem y.Mem = c0 at k0 HV
  generalize sameClockB x.Clock y.Clock = c1 at k1 HV
  generalize decide (x.Limbo = y.Limbo) = c2 at k2 HV
  generalize decide (x.Haz = y.Haz) = c3 at k3 HV
  cases c0 with
  | false =>
    replace HV : Hid (sameBaseB x y = false) := HV.out.trans (by simp)
    have B_a : Box ((w.alloc (.cells #[.slice H.Mem.Heap.Bytes.a H.Mem.Heap.Bytes.len H.Mem.Heap.Bytes.cap, .slice H.Mem.Heap.Class.a H.Mem.Heap.Class.len H.Mem.Heap.Class.cap, .slice H.Mem.Lists.Global.a H.Mem.Lists.Global.len H.Mem.Lists.Global.cap, .slice H.Mem.Lists.Own.a H.Mem.Lists.Own.len H.Mem.Lists.Own.cap, .int .i64 x.Clock.Epoch, .slice H.Clock.Pins.a H.Clock.Pins.len H.Clock.Pins.cap, .slice H.Limbo.a H.Limbo.len H.Limbo.cap, .slice H.Haz.a H.Haz.len H.Haz.cap] 65)).alloc (.cells #[.slice K.Mem.Heap.Bytes.a K.Mem.Heap.Bytes.len K.Mem.Heap.Bytes.cap, .slice K.Mem.Heap.Class.a K.Mem.Heap.Class.len K.Mem.Heap.Class.cap, .slice K.Mem.Lists.Global.a K.Mem.Lists.Global.len K.Mem.Lists.Global.cap, .slice K.Mem.Lists.Own.a K.Mem.Lists.Own.len K.Mem.Lists.Own.cap, .int .i64 y.Clock.Epoch, .slice K.Clock.Pins.a K.Clock.Pins.len K.Clock.Pins.cap, .slice K.Limbo.a K.Limbo.len K.Limbo.cap, .slice K.Haz.a K.Haz.len K.Haz.cap] 65)) (w.heap.size) [.slice H.Mem.Heap.Bytes.a H.Mem.Heap.Bytes.len H.Mem.Heap.Bytes.cap, .slice H.Mem.Heap.Class.a H.Mem.Heap.Class.len H.Mem.Heap.Class.cap, .slice H.Mem.Lists.Global.a H.Mem.Lists.Global.len H.Mem.Lists.Global.cap, .slice H.Mem.Lists.Own.a H.Mem.Lists.Own.len H.Mem.Lists.Own.cap, .int .i64 x.Clock.Epoch, .slice H.Clock.Pins.a H.Clock.Pins.len H.Clock.Pins.cap, .slice H.Limbo.a H.Limbo.len H.Limbo.cap, .slice H.Haz.a H.Haz.len H.Haz.cap] := by
      have hbx := Box.new w #[.slice H.Mem.Heap.Bytes.a H.Mem.Heap.Bytes.len H.Mem.Heap.Bytes.cap, .slice H.Mem.Heap.Class.a H.Mem.Heap.Class.len H.Mem.Heap.Class.cap, .slice H.Mem.Lists.Global.a H.Mem.Lists.Global.len H.Mem.Lists.Global.cap, .slice H.Mem.Lists.Own.a H.Mem.Lists.Own.len H.Mem.Lists.Own.cap, .int .i64 x.Clock.Epoch, .slice H.Clock.Pins.a H.Clock.Pins.len H.Clock.Pins.cap, .slice H.Limbo.a H.Limbo.len H.Limbo.cap, .slice H.Haz.a H.Haz.len H.Haz.cap] 65
      exact (hbx).alloc _
    have B_b : Box ((w.alloc (.cells #[.slice H.Mem.Heap.Bytes.a H.Mem.Heap.Bytes.len H.Mem.Heap.Bytes.cap, .slice H.Mem.Heap.Class.a H.Mem.Heap.Class.len H.Mem.Heap.Class.cap, .slice H.Mem.Lists.Global.a H.Mem.Lists.Global.len H.Mem.Lists.Global.cap, .slice H.Mem.Lists.Own.a H.Mem.Lists.Own.len H.Mem.Lists.Own.cap, .int .i64 x.Clock.Epoch, .slice H.Clock.Pins.a H.Clock.Pins.len H.Clock.Pins.cap, .slice H.Limbo.a H.Limbo.len H.Limbo.cap, .slice H.Haz.a H.Haz.len H.Haz.cap] 65)).alloc (.cells #[.slice K.Mem.Heap.Bytes.a K.Mem.Heap.Bytes.len K.Mem.Heap.Bytes.cap, .slice K.Mem.Heap.Class.a K.Mem.Heap.Class.len K.Mem.Heap.Class.cap, .slice K.Mem.Lists.Global.a K.Mem.Lists.Global.len K.Mem.Lists.Global.cap, .slice K.Mem.Lists.Own.a K.Mem.Lists.Own.len K.Mem.Lists.Own.cap, .int .i64 y.Clock.Epoch, .slice K.Clock.Pins.a K.Clock.Pins.len K.Clock.Pins.cap, .slice K.Limbo.a K.Limbo.len K.Limbo.cap, .slice K.Haz.a K.Haz.len K.Haz.cap] 65)) (w.heap.size + 1) [.slice K.Mem.Heap.Bytes.a K.Mem.Heap.Bytes.len K.Mem.Heap.Bytes.cap, .slice K.Mem.Heap.Class.a K.Mem.Heap.Class.len K.Mem.Heap.Class.cap, .slice K.Mem.Lists.Global.a K.Mem.Lists.Global.len K.Mem.Lists.Global.cap, .slice K.Mem.Lists.Own.a K.Mem.Lists.Own.len K.Mem.Lists.Own.cap, .int .i64 y.Clock.Epoch, .slice K.Clock.Pins.a K.Clock.Pins.len K.Clock.Pins.cap, .slice K.Limbo.a K.Limbo.len K.Limbo.cap, .slice K.Haz.a K.Haz.len K.Haz.cap] := by
      have hbx := Box.new (w.alloc (.cells #[.slice H.Mem.Heap.Bytes.a H.Mem.Heap.Bytes.len H.Mem.Heap.Bytes.cap, .slice H.Mem.Heap.Class.a H.Mem.Heap.Class.len H.Mem.Heap.Class.cap, .slice H.Mem.Lists.Global.a H.Mem.Lists.Global.len H.Mem.Lists.Global.cap, .slice H.Mem.Lists.Own.a H.Mem.Lists.Own.len H.Mem.Lists.Own.cap, .int .i64 x.Clock.Epoch, .slice H.Clock.Pins.a H.Clock.Pins.len H.Clock.Pins.cap, .slice H.Limbo.a H.Limbo.len H.Limbo.cap, .slice H.Haz.a H.Haz.len H.Haz.cap] 65)) #[.slice K.Mem.Heap.Bytes.a K.Mem.Heap.Bytes.len K.Mem.Heap.Bytes.cap, .slice K.Mem.Heap.Class.a K.Mem.Heap.Class.len K.Mem.Heap.Class.cap, .slice K.Mem.Lists.Global.a K.Mem.Lists.Global.len K.Mem.Lists.Global.cap, .slice K.Mem.Lists.Own.a K.Mem.Lists.Own.len K.Mem.Lists.Own.cap, .int .i64 y.Clock.Epoch, .slice K.Clock.Pins.a K.Clock.Pins.len K.Clock.Pins.cap, .slice K.Limbo.a K.Limbo.len K.Limbo.cap, .slice K.Haz.a K.Haz.len K.Haz.cap] 65
      simp only [World.size_alloc] at hbx
      exact hbx
    have hB : Below w.heap.size w ((w.alloc (.cells #[.slice H.Mem.Heap.Bytes.a H.Mem.Heap.Bytes.len H.Mem.Heap.Bytes.cap, .slice H.Mem.Heap.Class.a H.Mem.Heap.Class.len H.Mem.Heap.Class.cap, .slice H.Mem.Lists.Global.a H.Mem.Lists.Global.len H.Mem.Lists.Global.cap, .slice H.Mem.Lists.Own.a H.Mem.Lists.Own.len H.Mem.Lists.Own.cap, .int .i64 x.Clock.Epoch, .slice H.Clock.Pins.a H.Clock.Pins.len H.Clock.Pins.cap, .slice H.Limbo.a H.Limbo.len H.Limbo.cap, .slice H.Haz.a H.Haz.len H.Haz.cap] 65)).alloc (.cells #[.slice K.Mem.Heap.Bytes.a K.Mem.Heap.Bytes.len K.Mem.Heap.Bytes.cap, .slice K.Mem.Heap.Class.a K.Mem.Heap.Class.len K.Mem.Heap.Class.cap, .slice K.Mem.Lists.Global.a K.Mem.Lists.Global.len K.Mem.Lists.Global.cap, .slice K.Mem.Lists.Own.a K.Mem.Lists.Own.len K.Mem.Lists.Own.cap, .int .i64 y.Clock.Epoch, .slice K.Clock.Pins.a K.Clock.Pins.len K.Clock.Pins.cap, .slice K.Limbo.a K.Limbo.len K.Limbo.cap, .slice K.Haz.a K.Haz.len K.Haz.cap] 65)) := by repeat (first | exact Below.refl _ _ | refine Below.alloc ?_ (by simp <;> omega) _ | refine below_grow_of ?_ (by simp <;> omega) _ _ | refine Below.drew ?_ | refine below_drewN ?_ _)
    go_enter Try.func54, Try.ntmps54
    go_wp2_with fail
    generalize hW0 : ((w.alloc (.cells #[.slice H.Mem.Heap.Bytes.a H.Mem.Heap.Bytes.len H.Mem.Heap.Bytes.cap, .slice H.Mem.Heap.Class.a H.Mem.Heap.Class.len H.Mem.Heap.Class.cap, .slice H.Mem.Lists.Global.a H.Mem.Lists.Global.len H.Mem.Lists.Global.cap, .slice H.Mem.Lists.Own.a H.Mem.Lists.Own.len H.Mem.Lists.Own.cap, .int .i64 x.Clock.Epoch, .slice H.Clock.Pins.a H.Clock.Pins.len H.Clock.Pins.cap, .slice H.Limbo.a H.Limbo.len H.Limbo.cap, .slice H.Haz.a H.Haz.len H.Haz.cap] 65)).alloc (.cells #[.slice K.Mem.Heap.Bytes.a K.Mem.Heap.Bytes.len K.Mem.Heap.Bytes.cap, .slice K.Mem.Heap.Class.a K.Mem.Heap.Class.len K.Mem.Heap.Class.cap, .slice K.Mem.Lists.Global.a K.Mem.Lists.Global.len K.Mem.Lists.Global.cap, .slice K.Mem.Lists.Own.a K.Mem.Lists.Own.len K.Mem.Lists.Own.cap, .int .i64 y.Clock.Epoch, .slice K.Clock.Pins.a K.Clock.Pins.len K.Clock.Pins.cap, .slice K.Limbo.a K.Limbo.len K.Limbo.cap, .slice K.Haz.a K.Haz.len K.Haz.cap] 65)) = w0 at B_a B_b hB ⊢
    clear hW0
    have zz_a := B_a.lt
    have zz_b := B_b.lt
    have q_a_0 := B_a.cell 0 _ rfl
    have q_a_1 := B_a.cell 1 _ rfl
    have q_a_2 := B_a.cell 2 _ rfl
    have q_a_3 := B_a.cell 3 _ rfl
    have q_a_4 := B_a.cell 4 _ rfl
    have q_a_5 := B_a.cell 5 _ rfl
    have q_a_6 := B_a.cell 6 _ rfl
    have q_a_7 := B_a.cell 7 _ rfl
    have fr_a := B_a.fro
    have z_a := B_a.lt
    have q_b_0 := B_b.cell 0 _ rfl
    have q_b_1 := B_b.cell 1 _ rfl
    have q_b_2 := B_b.cell 2 _ rfl
    have q_b_3 := B_b.cell 3 _ rfl
    have q_b_4 := B_b.cell 4 _ rfl
    have q_b_5 := B_b.cell 5 _ rfl
    have q_b_6 := B_b.cell 6 _ rfl
    have q_b_7 := B_b.cell 7 _ rfl
    have fr_b := B_b.fro
    have z_b := B_b.lt
    refine (k0 _ hB).mono ?_
    rintro e w1 ⟨rfl, hb⟩
    replace B_a := B_a.below hb
    replace B_b := B_b.below hb
    replace hB := hB.trans (hb.mono hB.size)
    have sz := hb.size
    clear hb
    replace q_a_0 := B_a.cell 0 _ rfl
    replace q_a_1 := B_a.cell 1 _ rfl
    replace q_a_2 := B_a.cell 2 _ rfl
    replace q_a_3 := B_a.cell 3 _ rfl
    replace q_a_4 := B_a.cell 4 _ rfl
    replace q_a_5 := B_a.cell 5 _ rfl
    replace q_a_6 := B_a.cell 6 _ rfl
    replace q_a_7 := B_a.cell 7 _ rfl
    replace fr_a := B_a.fro
    replace z_a := B_a.lt
    replace q_b_0 := B_b.cell 0 _ rfl
    replace q_b_1 := B_b.cell 1 _ rfl
    replace q_b_2 := B_b.cell 2 _ rfl
    replace q_b_3 := B_b.cell 3 _ rfl
    replace q_b_4 := B_b.cell 4 _ rfl
    replace q_b_5 := B_b.cell 5 _ rfl
    replace q_b_6 := B_b.cell 6 _ rfl
    replace q_b_7 := B_b.cell 7 _ rfl
    replace fr_b := B_b.fro
    replace z_b := B_b.lt
    clear k0
    go_wp2_with fail
    go_ret
    exact ⟨ret_bool HV.out.symm, hB⟩
  | true =>
  cases c1 with
  | false =>
    replace HV : Hid (sameBaseB x y = false) := HV.out.trans (by simp)
    have B_a : Box ((w.alloc (.cells #[.slice H.Mem.Heap.Bytes.a H.Mem.Heap.Bytes.len H.Mem.Heap.Bytes.cap, .slice H.Mem.Heap.Class.a H.Mem.Heap.Class.len H.Mem.Heap.Class.cap, .slice H.Mem.Lists.Global.a H.Mem.Lists.Global.len H.Mem.Lists.Global.cap, .slice H.Mem.Lists.Own.a H.Mem.Lists.Own.len H.Mem.Lists.Own.cap, .int .i64 x.Clock.Epoch, .slice H.Clock.Pins.a H.Clock.Pins.len H.Clock.Pins.cap, .slice H.Limbo.a H.Limbo.len H.Limbo.cap, .slice H.Haz.a H.Haz.len H.Haz.cap] 65)).alloc (.cells #[.slice K.Mem.Heap.Bytes.a K.Mem.Heap.Bytes.len K.Mem.Heap.Bytes.cap, .slice K.Mem.Heap.Class.a K.Mem.Heap.Class.len K.Mem.Heap.Class.cap, .slice K.Mem.Lists.Global.a K.Mem.Lists.Global.len K.Mem.Lists.Global.cap, .slice K.Mem.Lists.Own.a K.Mem.Lists.Own.len K.Mem.Lists.Own.cap, .int .i64 y.Clock.Epoch, .slice K.Clock.Pins.a K.Clock.Pins.len K.Clock.Pins.cap, .slice K.Limbo.a K.Limbo.len K.Limbo.cap, .slice K.Haz.a K.Haz.len K.Haz.cap] 65)) (w.heap.size) [.slice H.Mem.Heap.Bytes.a H.Mem.Heap.Bytes.len H.Mem.Heap.Bytes.cap, .slice H.Mem.Heap.Class.a H.Mem.Heap.Class.len H.Mem.Heap.Class.cap, .slice H.Mem.Lists.Global.a H.Mem.Lists.Global.len H.Mem.Lists.Global.cap, .slice H.Mem.Lists.Own.a H.Mem.Lists.Own.len H.Mem.Lists.Own.cap, .int .i64 x.Clock.Epoch, .slice H.Clock.Pins.a H.Clock.Pins.len H.Clock.Pins.cap, .slice H.Limbo.a H.Limbo.len H.Limbo.cap, .slice H.Haz.a H.Haz.len H.Haz.cap] := by
      have hbx := Box.new w #[.slice H.Mem.Heap.Bytes.a H.Mem.Heap.Bytes.len H.Mem.Heap.Bytes.cap, .slice H.Mem.Heap.Class.a H.Mem.Heap.Class.len H.Mem.Heap.Class.cap, .slice H.Mem.Lists.Global.a H.Mem.Lists.Global.len H.Mem.Lists.Global.cap, .slice H.Mem.Lists.Own.a H.Mem.Lists.Own.len H.Mem.Lists.Own.cap, .int .i64 x.Clock.Epoch, .slice H.Clock.Pins.a H.Clock.Pins.len H.Clock.Pins.cap, .slice H.Limbo.a H.Limbo.len H.Limbo.cap, .slice H.Haz.a H.Haz.len H.Haz.cap] 65
      exact (hbx).alloc _
    have B_b : Box ((w.alloc (.cells #[.slice H.Mem.Heap.Bytes.a H.Mem.Heap.Bytes.len H.Mem.Heap.Bytes.cap, .slice H.Mem.Heap.Class.a H.Mem.Heap.Class.len H.Mem.Heap.Class.cap, .slice H.Mem.Lists.Global.a H.Mem.Lists.Global.len H.Mem.Lists.Global.cap, .slice H.Mem.Lists.Own.a H.Mem.Lists.Own.len H.Mem.Lists.Own.cap, .int .i64 x.Clock.Epoch, .slice H.Clock.Pins.a H.Clock.Pins.len H.Clock.Pins.cap, .slice H.Limbo.a H.Limbo.len H.Limbo.cap, .slice H.Haz.a H.Haz.len H.Haz.cap] 65)).alloc (.cells #[.slice K.Mem.Heap.Bytes.a K.Mem.Heap.Bytes.len K.Mem.Heap.Bytes.cap, .slice K.Mem.Heap.Class.a K.Mem.Heap.Class.len K.Mem.Heap.Class.cap, .slice K.Mem.Lists.Global.a K.Mem.Lists.Global.len K.Mem.Lists.Global.cap, .slice K.Mem.Lists.Own.a K.Mem.Lists.Own.len K.Mem.Lists.Own.cap, .int .i64 y.Clock.Epoch, .slice K.Clock.Pins.a K.Clock.Pins.len K.Clock.Pins.cap, .slice K.Limbo.a K.Limbo.len K.Limbo.cap, .slice K.Haz.a K.Haz.len K.Haz.cap] 65)) (w.heap.size + 1) [.slice K.Mem.Heap.Bytes.a K.Mem.Heap.Bytes.len K.Mem.Heap.Bytes.cap, .slice K.Mem.Heap.Class.a K.Mem.Heap.Class.len K.Mem.Heap.Class.cap, .slice K.Mem.Lists.Global.a K.Mem.Lists.Global.len K.Mem.Lists.Global.cap, .slice K.Mem.Lists.Own.a K.Mem.Lists.Own.len K.Mem.Lists.Own.cap, .int .i64 y.Clock.Epoch, .slice K.Clock.Pins.a K.Clock.Pins.len K.Clock.Pins.cap, .slice K.Limbo.a K.Limbo.len K.Limbo.cap, .slice K.Haz.a K.Haz.len K.Haz.cap] := by
      have hbx := Box.new (w.alloc (.cells #[.slice H.Mem.Heap.Bytes.a H.Mem.Heap.Bytes.len H.Mem.Heap.Bytes.cap, .slice H.Mem.Heap.Class.a H.Mem.Heap.Class.len H.Mem.Heap.Class.cap, .slice H.Mem.Lists.Global.a H.Mem.Lists.Global.len H.Mem.Lists.Global.cap, .slice H.Mem.Lists.Own.a H.Mem.Lists.Own.len H.Mem.Lists.Own.cap, .int .i64 x.Clock.Epoch, .slice H.Clock.Pins.a H.Clock.Pins.len H.Clock.Pins.cap, .slice H.Limbo.a H.Limbo.len H.Limbo.cap, .slice H.Haz.a H.Haz.len H.Haz.cap] 65)) #[.slice K.Mem.Heap.Bytes.a K.Mem.Heap.Bytes.len K.Mem.Heap.Bytes.cap, .slice K.Mem.Heap.Class.a K.Mem.Heap.Class.len K.Mem.Heap.Class.cap, .slice K.Mem.Lists.Global.a K.Mem.Lists.Global.len K.Mem.Lists.Global.cap, .slice K.Mem.Lists.Own.a K.Mem.Lists.Own.len K.Mem.Lists.Own.cap, .int .i64 y.Clock.Epoch, .slice K.Clock.Pins.a K.Clock.Pins.len K.Clock.Pins.cap, .slice K.Limbo.a K.Limbo.len K.Limbo.cap, .slice K.Haz.a K.Haz.len K.Haz.cap] 65
      simp only [World.size_alloc] at hbx
      exact hbx
    have hB : Below w.heap.size w ((w.alloc (.cells #[.slice H.Mem.Heap.Bytes.a H.Mem.Heap.Bytes.len H.Mem.Heap.Bytes.cap, .slice H.Mem.Heap.Class.a H.Mem.Heap.Class.len H.Mem.Heap.Class.cap, .slice H.Mem.Lists.Global.a H.Mem.Lists.Global.len H.Mem.Lists.Global.cap, .slice H.Mem.Lists.Own.a H.Mem.Lists.Own.len H.Mem.Lists.Own.cap, .int .i64 x.Clock.Epoch, .slice H.Clock.Pins.a H.Clock.Pins.len H.Clock.Pins.cap, .slice H.Limbo.a H.Limbo.len H.Limbo.cap, .slice H.Haz.a H.Haz.len H.Haz.cap] 65)).alloc (.cells #[.slice K.Mem.Heap.Bytes.a K.Mem.Heap.Bytes.len K.Mem.Heap.Bytes.cap, .slice K.Mem.Heap.Class.a K.Mem.Heap.Class.len K.Mem.Heap.Class.cap, .slice K.Mem.Lists.Global.a K.Mem.Lists.Global.len K.Mem.Lists.Global.cap, .slice K.Mem.Lists.Own.a K.Mem.Lists.Own.len K.Mem.Lists.Own.cap, .int .i64 y.Clock.Epoch, .slice K.Clock.Pins.a K.Clock.Pins.len K.Clock.Pins.cap, .slice K.Limbo.a K.Limbo.len K.Limbo.cap, .slice K.Haz.a K.Haz.len K.Haz.cap] 65)) := by repeat (first | exact Below.refl _ _ | refine Below.alloc ?_ (by simp <;> omega) _ | refine below_grow_of ?_ (by simp <;> omega) _ _ | refine Below.drew ?_ | refine below_drewN ?_ _)
    go_enter Try.func54, Try.ntmps54
    go_wp2_with fail
    generalize hW0 : ((w.alloc (.cells #[.slice H.Mem.Heap.Bytes.a H.Mem.Heap.Bytes.len H.Mem.Heap.Bytes.cap, .slice H.Mem.Heap.Class.a H.Mem.Heap.Class.len H.Mem.Heap.Class.cap, .slice H.Mem.Lists.Global.a H.Mem.Lists.Global.len H.Mem.Lists.Global.cap, .slice H.Mem.Lists.Own.a H.Mem.Lists.Own.len H.Mem.Lists.Own.cap, .int .i64 x.Clock.Epoch, .slice H.Clock.Pins.a H.Clock.Pins.len H.Clock.Pins.cap, .slice H.Limbo.a H.Limbo.len H.Limbo.cap, .slice H.Haz.a H.Haz.len H.Haz.cap] 65)).alloc (.cells #[.slice K.Mem.Heap.Bytes.a K.Mem.Heap.Bytes.len K.Mem.Heap.Bytes.cap, .slice K.Mem.Heap.Class.a K.Mem.Heap.Class.len K.Mem.Heap.Class.cap, .slice K.Mem.Lists.Global.a K.Mem.Lists.Global.len K.Mem.Lists.Global.cap, .slice K.Mem.Lists.Own.a K.Mem.Lists.Own.len K.Mem.Lists.Own.cap, .int .i64 y.Clock.Epoch, .slice K.Clock.Pins.a K.Clock.Pins.len K.Clock.Pins.cap, .slice K.Limbo.a K.Limbo.len K.Limbo.cap, .slice K.Haz.a K.Haz.len K.Haz.cap] 65)) = w0 at B_a B_b hB ⊢
    clear hW0
    have zz_a := B_a.lt
    have zz_b := B_b.lt
    have q_a_0 := B_a.cell 0 _ rfl
    have q_a_1 := B_a.cell 1 _ rfl
    have q_a_2 := B_a.cell 2 _ rfl
    have q_a_3 := B_a.cell 3 _ rfl
    have q_a_4 := B_a.cell 4 _ rfl
    have q_a_5 := B_a.cell 5 _ rfl
    have q_a_6 := B_a.cell 6 _ rfl
    have q_a_7 := B_a.cell 7 _ rfl
    have fr_a := B_a.fro
    have z_a := B_a.lt
    have q_b_0 := B_b.cell 0 _ rfl
    have q_b_1 := B_b.cell 1 _ rfl
    have q_b_2 := B_b.cell 2 _ rfl
    have q_b_3 := B_b.cell 3 _ rfl
    have q_b_4 := B_b.cell 4 _ rfl
    have q_b_5 := B_b.cell 5 _ rfl
    have q_b_6 := B_b.cell 6 _ rfl
    have q_b_7 := B_b.cell 7 _ rfl
    have fr_b := B_b.fro
    have z_b := B_b.lt
    refine (k0 _ hB).mono ?_
    rintro e w1 ⟨rfl, hb⟩
    replace B_a := B_a.below hb
    replace B_b := B_b.below hb
    replace hB := hB.trans (hb.mono hB.size)
    have sz := hb.size
    clear hb
    replace q_a_0 := B_a.cell 0 _ rfl
    replace q_a_1 := B_a.cell 1 _ rfl
    replace q_a_2 := B_a.cell 2 _ rfl
    replace q_a_3 := B_a.cell 3 _ rfl
    replace q_a_4 := B_a.cell 4 _ rfl
    replace q_a_5 := B_a.cell 5 _ rfl
    replace q_a_6 := B_a.cell 6 _ rfl
    replace q_a_7 := B_a.cell 7 _ rfl
    replace fr_a := B_a.fro
    replace z_a := B_a.lt
    replace q_b_0 := B_b.cell 0 _ rfl
    replace q_b_1 := B_b.cell 1 _ rfl
    replace q_b_2 := B_b.cell 2 _ rfl
    replace q_b_3 := B_b.cell 3 _ rfl
    replace q_b_4 := B_b.cell 4 _ rfl
    replace q_b_5 := B_b.cell 5 _ rfl
    replace q_b_6 := B_b.cell 6 _ rfl
    replace q_b_7 := B_b.cell 7 _ rfl
    replace fr_b := B_b.fro
    replace z_b := B_b.lt
    clear k0
    go_wp2_with fail
    refine (k1 _ hB).mono ?_
    rintro e w2 ⟨rfl, hb⟩
    replace B_a := B_a.below hb
    replace B_b := B_b.below hb
    replace hB := hB.trans (hb.mono hB.size)
    have sz := hb.size
    clear hb
    replace q_a_0 := B_a.cell 0 _ rfl
    replace q_a_1 := B_a.cell 1 _ rfl
    replace q_a_2 := B_a.cell 2 _ rfl
    replace q_a_3 := B_a.cell 3 _ rfl
    replace q_a_4 := B_a.cell 4 _ rfl
    replace q_a_5 := B_a.cell 5 _ rfl
    replace q_a_6 := B_a.cell 6 _ rfl
    replace q_a_7 := B_a.cell 7 _ rfl
    replace fr_a := B_a.fro
    replace z_a := B_a.lt
    replace q_b_0 := B_b.cell 0 _ rfl
    replace q_b_1 := B_b.cell 1 _ rfl
    replace q_b_2 := B_b.cell 2 _ rfl
    replace q_b_3 := B_b.cell 3 _ rfl
    replace q_b_4 := B_b.cell 4 _ rfl
    replace q_b_5 := B_b.cell 5 _ rfl
    replace q_b_6 := B_b.cell 6 _ rfl
    replace q_b_7 := B_b.cell 7 _ rfl
    replace fr_b := B_b.fro
    replace z_b := B_b.lt
    clear k1
    go_wp2_with fail
    go_ret
    exact ⟨ret_bool HV.out.symm, hB⟩
  | true =>
  cases c2 with
  | false =>
    replace HV : Hid (sameBaseB x y = false) := HV.out.trans (by simp)
    have B_a : Box ((w.alloc (.cells #[.slice H.Mem.Heap.Bytes.a H.Mem.Heap.Bytes.len H.Mem.Heap.Bytes.cap, .slice H.Mem.Heap.Class.a H.Mem.Heap.Class.len H.Mem.Heap.Class.cap, .slice H.Mem.Lists.Global.a H.Mem.Lists.Global.len H.Mem.Lists.Global.cap, .slice H.Mem.Lists.Own.a H.Mem.Lists.Own.len H.Mem.Lists.Own.cap, .int .i64 x.Clock.Epoch, .slice H.Clock.Pins.a H.Clock.Pins.len H.Clock.Pins.cap, .slice H.Limbo.a H.Limbo.len H.Limbo.cap, .slice H.Haz.a H.Haz.len H.Haz.cap] 65)).alloc (.cells #[.slice K.Mem.Heap.Bytes.a K.Mem.Heap.Bytes.len K.Mem.Heap.Bytes.cap, .slice K.Mem.Heap.Class.a K.Mem.Heap.Class.len K.Mem.Heap.Class.cap, .slice K.Mem.Lists.Global.a K.Mem.Lists.Global.len K.Mem.Lists.Global.cap, .slice K.Mem.Lists.Own.a K.Mem.Lists.Own.len K.Mem.Lists.Own.cap, .int .i64 y.Clock.Epoch, .slice K.Clock.Pins.a K.Clock.Pins.len K.Clock.Pins.cap, .slice K.Limbo.a K.Limbo.len K.Limbo.cap, .slice K.Haz.a K.Haz.len K.Haz.cap] 65)) (w.heap.size) [.slice H.Mem.Heap.Bytes.a H.Mem.Heap.Bytes.len H.Mem.Heap.Bytes.cap, .slice H.Mem.Heap.Class.a H.Mem.Heap.Class.len H.Mem.Heap.Class.cap, .slice H.Mem.Lists.Global.a H.Mem.Lists.Global.len H.Mem.Lists.Global.cap, .slice H.Mem.Lists.Own.a H.Mem.Lists.Own.len H.Mem.Lists.Own.cap, .int .i64 x.Clock.Epoch, .slice H.Clock.Pins.a H.Clock.Pins.len H.Clock.Pins.cap, .slice H.Limbo.a H.Limbo.len H.Limbo.cap, .slice H.Haz.a H.Haz.len H.Haz.cap] := by
      have hbx := Box.new w #[.slice H.Mem.Heap.Bytes.a H.Mem.Heap.Bytes.len H.Mem.Heap.Bytes.cap, .slice H.Mem.Heap.Class.a H.Mem.Heap.Class.len H.Mem.Heap.Class.cap, .slice H.Mem.Lists.Global.a H.Mem.Lists.Global.len H.Mem.Lists.Global.cap, .slice H.Mem.Lists.Own.a H.Mem.Lists.Own.len H.Mem.Lists.Own.cap, .int .i64 x.Clock.Epoch, .slice H.Clock.Pins.a H.Clock.Pins.len H.Clock.Pins.cap, .slice H.Limbo.a H.Limbo.len H.Limbo.cap, .slice H.Haz.a H.Haz.len H.Haz.cap] 65
      exact (hbx).alloc _
    have B_b : Box ((w.alloc (.cells #[.slice H.Mem.Heap.Bytes.a H.Mem.Heap.Bytes.len H.Mem.Heap.Bytes.cap, .slice H.Mem.Heap.Class.a H.Mem.Heap.Class.len H.Mem.Heap.Class.cap, .slice H.Mem.Lists.Global.a H.Mem.Lists.Global.len H.Mem.Lists.Global.cap, .slice H.Mem.Lists.Own.a H.Mem.Lists.Own.len H.Mem.Lists.Own.cap, .int .i64 x.Clock.Epoch, .slice H.Clock.Pins.a H.Clock.Pins.len H.Clock.Pins.cap, .slice H.Limbo.a H.Limbo.len H.Limbo.cap, .slice H.Haz.a H.Haz.len H.Haz.cap] 65)).alloc (.cells #[.slice K.Mem.Heap.Bytes.a K.Mem.Heap.Bytes.len K.Mem.Heap.Bytes.cap, .slice K.Mem.Heap.Class.a K.Mem.Heap.Class.len K.Mem.Heap.Class.cap, .slice K.Mem.Lists.Global.a K.Mem.Lists.Global.len K.Mem.Lists.Global.cap, .slice K.Mem.Lists.Own.a K.Mem.Lists.Own.len K.Mem.Lists.Own.cap, .int .i64 y.Clock.Epoch, .slice K.Clock.Pins.a K.Clock.Pins.len K.Clock.Pins.cap, .slice K.Limbo.a K.Limbo.len K.Limbo.cap, .slice K.Haz.a K.Haz.len K.Haz.cap] 65)) (w.heap.size + 1) [.slice K.Mem.Heap.Bytes.a K.Mem.Heap.Bytes.len K.Mem.Heap.Bytes.cap, .slice K.Mem.Heap.Class.a K.Mem.Heap.Class.len K.Mem.Heap.Class.cap, .slice K.Mem.Lists.Global.a K.Mem.Lists.Global.len K.Mem.Lists.Global.cap, .slice K.Mem.Lists.Own.a K.Mem.Lists.Own.len K.Mem.Lists.Own.cap, .int .i64 y.Clock.Epoch, .slice K.Clock.Pins.a K.Clock.Pins.len K.Clock.Pins.cap, .slice K.Limbo.a K.Limbo.len K.Limbo.cap, .slice K.Haz.a K.Haz.len K.Haz.cap] := by
      have hbx := Box.new (w.alloc (.cells #[.slice H.Mem.Heap.Bytes.a H.Mem.Heap.Bytes.len H.Mem.Heap.Bytes.cap, .slice H.Mem.Heap.Class.a H.Mem.Heap.Class.len H.Mem.Heap.Class.cap, .slice H.Mem.Lists.Global.a H.Mem.Lists.Global.len H.Mem.Lists.Global.cap, .slice H.Mem.Lists.Own.a H.Mem.Lists.Own.len H.Mem.Lists.Own.cap, .int .i64 x.Clock.Epoch, .slice H.Clock.Pins.a H.Clock.Pins.len H.Clock.Pins.cap, .slice H.Limbo.a H.Limbo.len H.Limbo.cap, .slice H.Haz.a H.Haz.len H.Haz.cap] 65)) #[.slice K.Mem.Heap.Bytes.a K.Mem.Heap.Bytes.len K.Mem.Heap.Bytes.cap, .slice K.Mem.Heap.Class.a K.Mem.Heap.Class.len K.Mem.Heap.Class.cap, .slice K.Mem.Lists.Global.a K.Mem.Lists.Global.len K.Mem.Lists.Global.cap, .slice K.Mem.Lists.Own.a K.Mem.Lists.Own.len K.Mem.Lists.Own.cap, .int .i64 y.Clock.Epoch, .slice K.Clock.Pins.a K.Clock.Pins.len K.Clock.Pins.cap, .slice K.Limbo.a K.Limbo.len K.Limbo.cap, .slice K.Haz.a K.Haz.len K.Haz.cap] 65
      simp only [World.size_alloc] at hbx
      exact hbx
    have hB : Below w.heap.size w ((w.alloc (.cells #[.slice H.Mem.Heap.Bytes.a H.Mem.Heap.Bytes.len H.Mem.Heap.Bytes.cap, .slice H.Mem.Heap.Class.a H.Mem.Heap.Class.len H.Mem.Heap.Class.cap, .slice H.Mem.Lists.Global.a H.Mem.Lists.Global.len H.Mem.Lists.Global.cap, .slice H.Mem.Lists.Own.a H.Mem.Lists.Own.len H.Mem.Lists.Own.cap, .int .i64 x.Clock.Epoch, .slice H.Clock.Pins.a H.Clock.Pins.len H.Clock.Pins.cap, .slice H.Limbo.a H.Limbo.len H.Limbo.cap, .slice H.Haz.a H.Haz.len H.Haz.cap] 65)).alloc (.cells #[.slice K.Mem.Heap.Bytes.a K.Mem.Heap.Bytes.len K.Mem.Heap.Bytes.cap, .slice K.Mem.Heap.Class.a K.Mem.Heap.Class.len K.Mem.Heap.Class.cap, .slice K.Mem.Lists.Global.a K.Mem.Lists.Global.len K.Mem.Lists.Global.cap, .slice K.Mem.Lists.Own.a K.Mem.Lists.Own.len K.Mem.Lists.Own.cap, .int .i64 y.Clock.Epoch, .slice K.Clock.Pins.a K.Clock.Pins.len K.Clock.Pins.cap, .slice K.Limbo.a K.Limbo.len K.Limbo.cap, .slice K.Haz.a K.Haz.len K.Haz.cap] 65)) := by repeat (first | exact Below.refl _ _ | refine Below.alloc ?_ (by simp <;> omega) _ | refine below_grow_of ?_ (by simp <;> omega) _ _ | refine Below.drew ?_ | refine below_drewN ?_ _)
    go_enter Try.func54, Try.ntmps54
    go_wp2_with fail
    generalize hW0 : ((w.alloc (.cells #[.slice H.Mem.Heap.Bytes.a H.Mem.Heap.Bytes.len H.Mem.Heap.Bytes.cap, .slice H.Mem.Heap.Class.a H.Mem.Heap.Class.len H.Mem.Heap.Class.cap, .slice H.Mem.Lists.Global.a H.Mem.Lists.Global.len H.Mem.Lists.Global.cap, .slice H.Mem.Lists.Own.a H.Mem.Lists.Own.len H.Mem.Lists.Own.cap, .int .i64 x.Clock.Epoch, .slice H.Clock.Pins.a H.Clock.Pins.len H.Clock.Pins.cap, .slice H.Limbo.a H.Limbo.len H.Limbo.cap, .slice H.Haz.a H.Haz.len H.Haz.cap] 65)).alloc (.cells #[.slice K.Mem.Heap.Bytes.a K.Mem.Heap.Bytes.len K.Mem.Heap.Bytes.cap, .slice K.Mem.Heap.Class.a K.Mem.Heap.Class.len K.Mem.Heap.Class.cap, .slice K.Mem.Lists.Global.a K.Mem.Lists.Global.len K.Mem.Lists.Global.cap, .slice K.Mem.Lists.Own.a K.Mem.Lists.Own.len K.Mem.Lists.Own.cap, .int .i64 y.Clock.Epoch, .slice K.Clock.Pins.a K.Clock.Pins.len K.Clock.Pins.cap, .slice K.Limbo.a K.Limbo.len K.Limbo.cap, .slice K.Haz.a K.Haz.len K.Haz.cap] 65)) = w0 at B_a B_b hB ⊢
    clear hW0
    have zz_a := B_a.lt
    have zz_b := B_b.lt
    have q_a_0 := B_a.cell 0 _ rfl
    have q_a_1 := B_a.cell 1 _ rfl
    have q_a_2 := B_a.cell 2 _ rfl
    have q_a_3 := B_a.cell 3 _ rfl
    have q_a_4 := B_a.cell 4 _ rfl
    have q_a_5 := B_a.cell 5 _ rfl
    have q_a_6 := B_a.cell 6 _ rfl
    have q_a_7 := B_a.cell 7 _ rfl
    have fr_a := B_a.fro
    have z_a := B_a.lt
    have q_b_0 := B_b.cell 0 _ rfl
    have q_b_1 := B_b.cell 1 _ rfl
    have q_b_2 := B_b.cell 2 _ rfl
    have q_b_3 := B_b.cell 3 _ rfl
    have q_b_4 := B_b.cell 4 _ rfl
    have q_b_5 := B_b.cell 5 _ rfl
    have q_b_6 := B_b.cell 6 _ rfl
    have q_b_7 := B_b.cell 7 _ rfl
    have fr_b := B_b.fro
    have z_b := B_b.lt
    refine (k0 _ hB).mono ?_
    rintro e w1 ⟨rfl, hb⟩
    replace B_a := B_a.below hb
    replace B_b := B_b.below hb
    replace hB := hB.trans (hb.mono hB.size)
    have sz := hb.size
    clear hb
    replace q_a_0 := B_a.cell 0 _ rfl
    replace q_a_1 := B_a.cell 1 _ rfl
    replace q_a_2 := B_a.cell 2 _ rfl
    replace q_a_3 := B_a.cell 3 _ rfl
    replace q_a_4 := B_a.cell 4 _ rfl
    replace q_a_5 := B_a.cell 5 _ rfl
    replace q_a_6 := B_a.cell 6 _ rfl
    replace q_a_7 := B_a.cell 7 _ rfl
    replace fr_a := B_a.fro
    replace z_a := B_a.lt
    replace q_b_0 := B_b.cell 0 _ rfl
    replace q_b_1 := B_b.cell 1 _ rfl
    replace q_b_2 := B_b.cell 2 _ rfl
    replace q_b_3 := B_b.cell 3 _ rfl
    replace q_b_4 := B_b.cell 4 _ rfl
    replace q_b_5 := B_b.cell 5 _ rfl
    replace q_b_6 := B_b.cell 6 _ rfl
    replace q_b_7 := B_b.cell 7 _ rfl
    replace fr_b := B_b.fro
    replace z_b := B_b.lt
    clear k0
    go_wp2_with fail
    refine (k1 _ hB).mono ?_
    rintro e w2 ⟨rfl, hb⟩
    replace B_a := B_a.below hb
    replace B_b := B_b.below hb
    replace hB := hB.trans (hb.mono hB.size)
    have sz := hb.size
    clear hb
    replace q_a_0 := B_a.cell 0 _ rfl
    replace q_a_1 := B_a.cell 1 _ rfl
    replace q_a_2 := B_a.cell 2 _ rfl
    replace q_a_3 := B_a.cell 3 _ rfl
    replace q_a_4 := B_a.cell 4 _ rfl
    replace q_a_5 := B_a.cell 5 _ rfl
    replace q_a_6 := B_a.cell 6 _ rfl
    replace q_a_7 := B_a.cell 7 _ rfl
    replace fr_a := B_a.fro
    replace z_a := B_a.lt
    replace q_b_0 := B_b.cell 0 _ rfl
    replace q_b_1 := B_b.cell 1 _ rfl
    replace q_b_2 := B_b.cell 2 _ rfl
    replace q_b_3 := B_b.cell 3 _ rfl
    replace q_b_4 := B_b.cell 4 _ rfl
    replace q_b_5 := B_b.cell 5 _ rfl
    replace q_b_6 := B_b.cell 6 _ rfl
    replace q_b_7 := B_b.cell 7 _ rfl
    replace fr_b := B_b.fro
    replace z_b := B_b.lt
    clear k1
    go_wp2_with fail
    refine (k2 _ hB).mono ?_
    rintro e w3 ⟨rfl, hb⟩
    replace B_a := B_a.below hb
    replace B_b := B_b.below hb
    replace hB := hB.trans (hb.mono hB.size)
    have sz := hb.size
    clear hb
    replace q_a_0 := B_a.cell 0 _ rfl
    replace q_a_1 := B_a.cell 1 _ rfl
    replace q_a_2 := B_a.cell 2 _ rfl
    replace q_a_3 := B_a.cell 3 _ rfl
    replace q_a_4 := B_a.cell 4 _ rfl
    replace q_a_5 := B_a.cell 5 _ rfl
    replace q_a_6 := B_a.cell 6 _ rfl
    replace q_a_7 := B_a.cell 7 _ rfl
    replace fr_a := B_a.fro
    replace z_a := B_a.lt
    replace q_b_0 := B_b.cell 0 _ rfl
    replace q_b_1 := B_b.cell 1 _ rfl
    replace q_b_2 := B_b.cell 2 _ rfl
    replace q_b_3 := B_b.cell 3 _ rfl
    replace q_b_4 := B_b.cell 4 _ rfl
    replace q_b_5 := B_b.cell 5 _ rfl
    replace q_b_6 := B_b.cell 6 _ rfl
    replace q_b_7 := B_b.cell 7 _ rfl
    replace fr_b := B_b.fro
    replace z_b := B_b.lt
    clear k2
    go_wp2_with fail
    go_ret
    exact ⟨ret_bool HV.out.symm, hB⟩
  | true =>
  cases c3 with
  | false =>
    replace HV : Hid (sameBaseB x y = false) := HV.out.trans (by simp)
    have B_a : Box ((w.alloc (.cells #[.slice H.Mem.Heap.Bytes.a H.Mem.Heap.Bytes.len H.Mem.Heap.Bytes.cap, .slice H.Mem.Heap.Class.a H.Mem.Heap.Class.len H.Mem.Heap.Class.cap, .slice H.Mem.Lists.Global.a H.Mem.Lists.Global.len H.Mem.Lists.Global.cap, .slice H.Mem.Lists.Own.a H.Mem.Lists.Own.len H.Mem.Lists.Own.cap, .int .i64 x.Clock.Epoch, .slice H.Clock.Pins.a H.Clock.Pins.len H.Clock.Pins.cap, .slice H.Limbo.a H.Limbo.len H.Limbo.cap, .slice H.Haz.a H.Haz.len H.Haz.cap] 65)).alloc (.cells #[.slice K.Mem.Heap.Bytes.a K.Mem.Heap.Bytes.len K.Mem.Heap.Bytes.cap, .slice K.Mem.Heap.Class.a K.Mem.Heap.Class.len K.Mem.Heap.Class.cap, .slice K.Mem.Lists.Global.a K.Mem.Lists.Global.len K.Mem.Lists.Global.cap, .slice K.Mem.Lists.Own.a K.Mem.Lists.Own.len K.Mem.Lists.Own.cap, .int .i64 y.Clock.Epoch, .slice K.Clock.Pins.a K.Clock.Pins.len K.Clock.Pins.cap, .slice K.Limbo.a K.Limbo.len K.Limbo.cap, .slice K.Haz.a K.Haz.len K.Haz.cap] 65)) (w.heap.size) [.slice H.Mem.Heap.Bytes.a H.Mem.Heap.Bytes.len H.Mem.Heap.Bytes.cap, .slice H.Mem.Heap.Class.a H.Mem.Heap.Class.len H.Mem.Heap.Class.cap, .slice H.Mem.Lists.Global.a H.Mem.Lists.Global.len H.Mem.Lists.Global.cap, .slice H.Mem.Lists.Own.a H.Mem.Lists.Own.len H.Mem.Lists.Own.cap, .int .i64 x.Clock.Epoch, .slice H.Clock.Pins.a H.Clock.Pins.len H.Clock.Pins.cap, .slice H.Limbo.a H.Limbo.len H.Limbo.cap, .slice H.Haz.a H.Haz.len H.Haz.cap] := by
      have hbx := Box.new w #[.slice H.Mem.Heap.Bytes.a H.Mem.Heap.Bytes.len H.Mem.Heap.Bytes.cap, .slice H.Mem.Heap.Class.a H.Mem.Heap.Class.len H.Mem.Heap.Class.cap, .slice H.Mem.Lists.Global.a H.Mem.Lists.Global.len H.Mem.Lists.Global.cap, .slice H.Mem.Lists.Own.a H.Mem.Lists.Own.len H.Mem.Lists.Own.cap, .int .i64 x.Clock.Epoch, .slice H.Clock.Pins.a H.Clock.Pins.len H.Clock.Pins.cap, .slice H.Limbo.a H.Limbo.len H.Limbo.cap, .slice H.Haz.a H.Haz.len H.Haz.cap] 65
      exact (hbx).alloc _
    have B_b : Box ((w.alloc (.cells #[.slice H.Mem.Heap.Bytes.a H.Mem.Heap.Bytes.len H.Mem.Heap.Bytes.cap, .slice H.Mem.Heap.Class.a H.Mem.Heap.Class.len H.Mem.Heap.Class.cap, .slice H.Mem.Lists.Global.a H.Mem.Lists.Global.len H.Mem.Lists.Global.cap, .slice H.Mem.Lists.Own.a H.Mem.Lists.Own.len H.Mem.Lists.Own.cap, .int .i64 x.Clock.Epoch, .slice H.Clock.Pins.a H.Clock.Pins.len H.Clock.Pins.cap, .slice H.Limbo.a H.Limbo.len H.Limbo.cap, .slice H.Haz.a H.Haz.len H.Haz.cap] 65)).alloc (.cells #[.slice K.Mem.Heap.Bytes.a K.Mem.Heap.Bytes.len K.Mem.Heap.Bytes.cap, .slice K.Mem.Heap.Class.a K.Mem.Heap.Class.len K.Mem.Heap.Class.cap, .slice K.Mem.Lists.Global.a K.Mem.Lists.Global.len K.Mem.Lists.Global.cap, .slice K.Mem.Lists.Own.a K.Mem.Lists.Own.len K.Mem.Lists.Own.cap, .int .i64 y.Clock.Epoch, .slice K.Clock.Pins.a K.Clock.Pins.len K.Clock.Pins.cap, .slice K.Limbo.a K.Limbo.len K.Limbo.cap, .slice K.Haz.a K.Haz.len K.Haz.cap] 65)) (w.heap.size + 1) [.slice K.Mem.Heap.Bytes.a K.Mem.Heap.Bytes.len K.Mem.Heap.Bytes.cap, .slice K.Mem.Heap.Class.a K.Mem.Heap.Class.len K.Mem.Heap.Class.cap, .slice K.Mem.Lists.Global.a K.Mem.Lists.Global.len K.Mem.Lists.Global.cap, .slice K.Mem.Lists.Own.a K.Mem.Lists.Own.len K.Mem.Lists.Own.cap, .int .i64 y.Clock.Epoch, .slice K.Clock.Pins.a K.Clock.Pins.len K.Clock.Pins.cap, .slice K.Limbo.a K.Limbo.len K.Limbo.cap, .slice K.Haz.a K.Haz.len K.Haz.cap] := by
      have hbx := Box.new (w.alloc (.cells #[.slice H.Mem.Heap.Bytes.a H.Mem.Heap.Bytes.len H.Mem.Heap.Bytes.cap, .slice H.Mem.Heap.Class.a H.Mem.Heap.Class.len H.Mem.Heap.Class.cap, .slice H.Mem.Lists.Global.a H.Mem.Lists.Global.len H.Mem.Lists.Global.cap, .slice H.Mem.Lists.Own.a H.Mem.Lists.Own.len H.Mem.Lists.Own.cap, .int .i64 x.Clock.Epoch, .slice H.Clock.Pins.a H.Clock.Pins.len H.Clock.Pins.cap, .slice H.Limbo.a H.Limbo.len H.Limbo.cap, .slice H.Haz.a H.Haz.len H.Haz.cap] 65)) #[.slice K.Mem.Heap.Bytes.a K.Mem.Heap.Bytes.len K.Mem.Heap.Bytes.cap, .slice K.Mem.Heap.Class.a K.Mem.Heap.Class.len K.Mem.Heap.Class.cap, .slice K.Mem.Lists.Global.a K.Mem.Lists.Global.len K.Mem.Lists.Global.cap, .slice K.Mem.Lists.Own.a K.Mem.Lists.Own.len K.Mem.Lists.Own.cap, .int .i64 y.Clock.Epoch, .slice K.Clock.Pins.a K.Clock.Pins.len K.Clock.Pins.cap, .slice K.Limbo.a K.Limbo.len K.Limbo.cap, .slice K.Haz.a K.Haz.len K.Haz.cap] 65
      simp only [World.size_alloc] at hbx
      exact hbx
    have hB : Below w.heap.size w ((w.alloc (.cells #[.slice H.Mem.Heap.Bytes.a H.Mem.Heap.Bytes.len H.Mem.Heap.Bytes.cap, .slice H.Mem.Heap.Class.a H.Mem.Heap.Class.len H.Mem.Heap.Class.cap, .slice H.Mem.Lists.Global.a H.Mem.Lists.Global.len H.Mem.Lists.Global.cap, .slice H.Mem.Lists.Own.a H.Mem.Lists.Own.len H.Mem.Lists.Own.cap, .int .i64 x.Clock.Epoch, .slice H.Clock.Pins.a H.Clock.Pins.len H.Clock.Pins.cap, .slice H.Limbo.a H.Limbo.len H.Limbo.cap, .slice H.Haz.a H.Haz.len H.Haz.cap] 65)).alloc (.cells #[.slice K.Mem.Heap.Bytes.a K.Mem.Heap.Bytes.len K.Mem.Heap.Bytes.cap, .slice K.Mem.Heap.Class.a K.Mem.Heap.Class.len K.Mem.Heap.Class.cap, .slice K.Mem.Lists.Global.a K.Mem.Lists.Global.len K.Mem.Lists.Global.cap, .slice K.Mem.Lists.Own.a K.Mem.Lists.Own.len K.Mem.Lists.Own.cap, .int .i64 y.Clock.Epoch, .slice K.Clock.Pins.a K.Clock.Pins.len K.Clock.Pins.cap, .slice K.Limbo.a K.Limbo.len K.Limbo.cap, .slice K.Haz.a K.Haz.len K.Haz.cap] 65)) := by repeat (first | exact Below.refl _ _ | refine Below.alloc ?_ (by simp <;> omega) _ | refine below_grow_of ?_ (by simp <;> omega) _ _ | refine Below.drew ?_ | refine below_drewN ?_ _)
    go_enter Try.func54, Try.ntmps54
    go_wp2_with fail
    generalize hW0 : ((w.alloc (.cells #[.slice H.Mem.Heap.Bytes.a H.Mem.Heap.Bytes.len H.Mem.Heap.Bytes.cap, .slice H.Mem.Heap.Class.a H.Mem.Heap.Class.len H.Mem.Heap.Class.cap, .slice H.Mem.Lists.Global.a H.Mem.Lists.Global.len H.Mem.Lists.Global.cap, .slice H.Mem.Lists.Own.a H.Mem.Lists.Own.len H.Mem.Lists.Own.cap, .int .i64 x.Clock.Epoch, .slice H.Clock.Pins.a H.Clock.Pins.len H.Clock.Pins.cap, .slice H.Limbo.a H.Limbo.len H.Limbo.cap, .slice H.Haz.a H.Haz.len H.Haz.cap] 65)).alloc (.cells #[.slice K.Mem.Heap.Bytes.a K.Mem.Heap.Bytes.len K.Mem.Heap.Bytes.cap, .slice K.Mem.Heap.Class.a K.Mem.Heap.Class.len K.Mem.Heap.Class.cap, .slice K.Mem.Lists.Global.a K.Mem.Lists.Global.len K.Mem.Lists.Global.cap, .slice K.Mem.Lists.Own.a K.Mem.Lists.Own.len K.Mem.Lists.Own.cap, .int .i64 y.Clock.Epoch, .slice K.Clock.Pins.a K.Clock.Pins.len K.Clock.Pins.cap, .slice K.Limbo.a K.Limbo.len K.Limbo.cap, .slice K.Haz.a K.Haz.len K.Haz.cap] 65)) = w0 at B_a B_b hB ⊢
    clear hW0
    have zz_a := B_a.lt
    have zz_b := B_b.lt
    have q_a_0 := B_a.cell 0 _ rfl
    have q_a_1 := B_a.cell 1 _ rfl
    have q_a_2 := B_a.cell 2 _ rfl
    have q_a_3 := B_a.cell 3 _ rfl
    have q_a_4 := B_a.cell 4 _ rfl
    have q_a_5 := B_a.cell 5 _ rfl
    have q_a_6 := B_a.cell 6 _ rfl
    have q_a_7 := B_a.cell 7 _ rfl
    have fr_a := B_a.fro
    have z_a := B_a.lt
    have q_b_0 := B_b.cell 0 _ rfl
    have q_b_1 := B_b.cell 1 _ rfl
    have q_b_2 := B_b.cell 2 _ rfl
    have q_b_3 := B_b.cell 3 _ rfl
    have q_b_4 := B_b.cell 4 _ rfl
    have q_b_5 := B_b.cell 5 _ rfl
    have q_b_6 := B_b.cell 6 _ rfl
    have q_b_7 := B_b.cell 7 _ rfl
    have fr_b := B_b.fro
    have z_b := B_b.lt
    refine (k0 _ hB).mono ?_
    rintro e w1 ⟨rfl, hb⟩
    replace B_a := B_a.below hb
    replace B_b := B_b.below hb
    replace hB := hB.trans (hb.mono hB.size)
    have sz := hb.size
    clear hb
    replace q_a_0 := B_a.cell 0 _ rfl
    replace q_a_1 := B_a.cell 1 _ rfl
    replace q_a_2 := B_a.cell 2 _ rfl
    replace q_a_3 := B_a.cell 3 _ rfl
    replace q_a_4 := B_a.cell 4 _ rfl
    replace q_a_5 := B_a.cell 5 _ rfl
    replace q_a_6 := B_a.cell 6 _ rfl
    replace q_a_7 := B_a.cell 7 _ rfl
    replace fr_a := B_a.fro
    replace z_a := B_a.lt
    replace q_b_0 := B_b.cell 0 _ rfl
    replace q_b_1 := B_b.cell 1 _ rfl
    replace q_b_2 := B_b.cell 2 _ rfl
    replace q_b_3 := B_b.cell 3 _ rfl
    replace q_b_4 := B_b.cell 4 _ rfl
    replace q_b_5 := B_b.cell 5 _ rfl
    replace q_b_6 := B_b.cell 6 _ rfl
    replace q_b_7 := B_b.cell 7 _ rfl
    replace fr_b := B_b.fro
    replace z_b := B_b.lt
    clear k0
    go_wp2_with fail
    refine (k1 _ hB).mono ?_
    rintro e w2 ⟨rfl, hb⟩
    replace B_a := B_a.below hb
    replace B_b := B_b.below hb
    replace hB := hB.trans (hb.mono hB.size)
    have sz := hb.size
    clear hb
    replace q_a_0 := B_a.cell 0 _ rfl
    replace q_a_1 := B_a.cell 1 _ rfl
    replace q_a_2 := B_a.cell 2 _ rfl
    replace q_a_3 := B_a.cell 3 _ rfl
    replace q_a_4 := B_a.cell 4 _ rfl
    replace q_a_5 := B_a.cell 5 _ rfl
    replace q_a_6 := B_a.cell 6 _ rfl
    replace q_a_7 := B_a.cell 7 _ rfl
    replace fr_a := B_a.fro
    replace z_a := B_a.lt
    replace q_b_0 := B_b.cell 0 _ rfl
    replace q_b_1 := B_b.cell 1 _ rfl
    replace q_b_2 := B_b.cell 2 _ rfl
    replace q_b_3 := B_b.cell 3 _ rfl
    replace q_b_4 := B_b.cell 4 _ rfl
    replace q_b_5 := B_b.cell 5 _ rfl
    replace q_b_6 := B_b.cell 6 _ rfl
    replace q_b_7 := B_b.cell 7 _ rfl
    replace fr_b := B_b.fro
    replace z_b := B_b.lt
    clear k1
    go_wp2_with fail
    refine (k2 _ hB).mono ?_
    rintro e w3 ⟨rfl, hb⟩
    replace B_a := B_a.below hb
    replace B_b := B_b.below hb
    replace hB := hB.trans (hb.mono hB.size)
    have sz := hb.size
    clear hb
    replace q_a_0 := B_a.cell 0 _ rfl
    replace q_a_1 := B_a.cell 1 _ rfl
    replace q_a_2 := B_a.cell 2 _ rfl
    replace q_a_3 := B_a.cell 3 _ rfl
    replace q_a_4 := B_a.cell 4 _ rfl
    replace q_a_5 := B_a.cell 5 _ rfl
    replace q_a_6 := B_a.cell 6 _ rfl
    replace q_a_7 := B_a.cell 7 _ rfl
    replace fr_a := B_a.fro
    replace z_a := B_a.lt
    replace q_b_0 := B_b.cell 0 _ rfl
    replace q_b_1 := B_b.cell 1 _ rfl
    replace q_b_2 := B_b.cell 2 _ rfl
    replace q_b_3 := B_b.cell 3 _ rfl
    replace q_b_4 := B_b.cell 4 _ rfl
    replace q_b_5 := B_b.cell 5 _ rfl
    replace q_b_6 := B_b.cell 6 _ rfl
    replace q_b_7 := B_b.cell 7 _ rfl
    replace fr_b := B_b.fro
    replace z_b := B_b.lt
    clear k2
    go_wp2_with fail
    refine (k3 _ hB).mono ?_
    rintro e w4 ⟨rfl, hb⟩
    replace B_a := B_a.below hb
    replace B_b := B_b.below hb
    replace hB := hB.trans (hb.mono hB.size)
    have sz := hb.size
    clear hb
    replace q_a_0 := B_a.cell 0 _ rfl
    replace q_a_1 := B_a.cell 1 _ rfl
    replace q_a_2 := B_a.cell 2 _ rfl
    replace q_a_3 := B_a.cell 3 _ rfl
    replace q_a_4 := B_a.cell 4 _ rfl
    replace q_a_5 := B_a.cell 5 _ rfl
    replace q_a_6 := B_a.cell 6 _ rfl
    replace q_a_7 := B_a.cell 7 _ rfl
    replace fr_a := B_a.fro
    replace z_a := B_a.lt
    replace q_b_0 := B_b.cell 0 _ rfl
    replace q_b_1 := B_b.cell 1 _ rfl
    replace q_b_2 := B_b.cell 2 _ rfl
    replace q_b_3 := B_b.cell 3 _ rfl
    replace q_b_4 := B_b.cell 4 _ rfl
    replace q_b_5 := B_b.cell 5 _ rfl
    replace q_b_6 := B_b.cell 6 _ rfl
    replace q_b_7 := B_b.cell 7 _ rfl
    replace fr_b := B_b.fro
    replace z_b := B_b.lt
    clear k3
    go_wp2_with fail
    go_ret
    exact ⟨ret_bool HV.out.symm, hB⟩
  | true =>
  replace HV : Hid (sameBaseB x y = true) := HV.out.trans (by simp)
  have B_a : Box ((w.alloc (.cells #[.slice H.Mem.Heap.Bytes.a H.Mem.Heap.Bytes.len H.Mem.Heap.Bytes.cap, .slice H.Mem.Heap.Class.a H.Mem.Heap.Class.len H.Mem.Heap.Class.cap, .slice H.Mem.Lists.Global.a H.Mem.Lists.Global.len H.Mem.Lists.Global.cap, .slice H.Mem.Lists.Own.a H.Mem.Lists.Own.len H.Mem.Lists.Own.cap, .int .i64 x.Clock.Epoch, .slice H.Clock.Pins.a H.Clock.Pins.len H.Clock.Pins.cap, .slice H.Limbo.a H.Limbo.len H.Limbo.cap, .slice H.Haz.a H.Haz.len H.Haz.cap] 65)).alloc (.cells #[.slice K.Mem.Heap.Bytes.a K.Mem.Heap.Bytes.len K.Mem.Heap.Bytes.cap, .slice K.Mem.Heap.Class.a K.Mem.Heap.Class.len K.Mem.Heap.Class.cap, .slice K.Mem.Lists.Global.a K.Mem.Lists.Global.len K.Mem.Lists.Global.cap, .slice K.Mem.Lists.Own.a K.Mem.Lists.Own.len K.Mem.Lists.Own.cap, .int .i64 y.Clock.Epoch, .slice K.Clock.Pins.a K.Clock.Pins.len K.Clock.Pins.cap, .slice K.Limbo.a K.Limbo.len K.Limbo.cap, .slice K.Haz.a K.Haz.len K.Haz.cap] 65)) (w.heap.size) [.slice H.Mem.Heap.Bytes.a H.Mem.Heap.Bytes.len H.Mem.Heap.Bytes.cap, .slice H.Mem.Heap.Class.a H.Mem.Heap.Class.len H.Mem.Heap.Class.cap, .slice H.Mem.Lists.Global.a H.Mem.Lists.Global.len H.Mem.Lists.Global.cap, .slice H.Mem.Lists.Own.a H.Mem.Lists.Own.len H.Mem.Lists.Own.cap, .int .i64 x.Clock.Epoch, .slice H.Clock.Pins.a H.Clock.Pins.len H.Clock.Pins.cap, .slice H.Limbo.a H.Limbo.len H.Limbo.cap, .slice H.Haz.a H.Haz.len H.Haz.cap] := by
    have hbx := Box.new w #[.slice H.Mem.Heap.Bytes.a H.Mem.Heap.Bytes.len H.Mem.Heap.Bytes.cap, .slice H.Mem.Heap.Class.a H.Mem.Heap.Class.len H.Mem.Heap.Class.cap, .slice H.Mem.Lists.Global.a H.Mem.Lists.Global.len H.Mem.Lists.Global.cap, .slice H.Mem.Lists.Own.a H.Mem.Lists.Own.len H.Mem.Lists.Own.cap, .int .i64 x.Clock.Epoch, .slice H.Clock.Pins.a H.Clock.Pins.len H.Clock.Pins.cap, .slice H.Limbo.a H.Limbo.len H.Limbo.cap, .slice H.Haz.a H.Haz.len H.Haz.cap] 65
    exact (hbx).alloc _
  have B_b : Box ((w.alloc (.cells #[.slice H.Mem.Heap.Bytes.a H.Mem.Heap.Bytes.len H.Mem.Heap.Bytes.cap, .slice H.Mem.Heap.Class.a H.Mem.Heap.Class.len H.Mem.Heap.Class.cap, .slice H.Mem.Lists.Global.a H.Mem.Lists.Global.len H.Mem.Lists.Global.cap, .slice H.Mem.Lists.Own.a H.Mem.Lists.Own.len H.Mem.Lists.Own.cap, .int .i64 x.Clock.Epoch, .slice H.Clock.Pins.a H.Clock.Pins.len H.Clock.Pins.cap, .slice H.Limbo.a H.Limbo.len H.Limbo.cap, .slice H.Haz.a H.Haz.len H.Haz.cap] 65)).alloc (.cells #[.slice K.Mem.Heap.Bytes.a K.Mem.Heap.Bytes.len K.Mem.Heap.Bytes.cap, .slice K.Mem.Heap.Class.a K.Mem.Heap.Class.len K.Mem.Heap.Class.cap, .slice K.Mem.Lists.Global.a K.Mem.Lists.Global.len K.Mem.Lists.Global.cap, .slice K.Mem.Lists.Own.a K.Mem.Lists.Own.len K.Mem.Lists.Own.cap, .int .i64 y.Clock.Epoch, .slice K.Clock.Pins.a K.Clock.Pins.len K.Clock.Pins.cap, .slice K.Limbo.a K.Limbo.len K.Limbo.cap, .slice K.Haz.a K.Haz.len K.Haz.cap] 65)) (w.heap.size + 1) [.slice K.Mem.Heap.Bytes.a K.Mem.Heap.Bytes.len K.Mem.Heap.Bytes.cap, .slice K.Mem.Heap.Class.a K.Mem.Heap.Class.len K.Mem.Heap.Class.cap, .slice K.Mem.Lists.Global.a K.Mem.Lists.Global.len K.Mem.Lists.Global.cap, .slice K.Mem.Lists.Own.a K.Mem.Lists.Own.len K.Mem.Lists.Own.cap, .int .i64 y.Clock.Epoch, .slice K.Clock.Pins.a K.Clock.Pins.len K.Clock.Pins.cap, .slice K.Limbo.a K.Limbo.len K.Limbo.cap, .slice K.Haz.a K.Haz.len K.Haz.cap] := by
    have hbx := Box.new (w.alloc (.cells #[.slice H.Mem.Heap.Bytes.a H.Mem.Heap.Bytes.len H.Mem.Heap.Bytes.cap, .slice H.Mem.Heap.Class.a H.Mem.Heap.Class.len H.Mem.Heap.Class.cap, .slice H.Mem.Lists.Global.a H.Mem.Lists.Global.len H.Mem.Lists.Global.cap, .slice H.Mem.Lists.Own.a H.Mem.Lists.Own.len H.Mem.Lists.Own.cap, .int .i64 x.Clock.Epoch, .slice H.Clock.Pins.a H.Clock.Pins.len H.Clock.Pins.cap, .slice H.Limbo.a H.Limbo.len H.Limbo.cap, .slice H.Haz.a H.Haz.len H.Haz.cap] 65)) #[.slice K.Mem.Heap.Bytes.a K.Mem.Heap.Bytes.len K.Mem.Heap.Bytes.cap, .slice K.Mem.Heap.Class.a K.Mem.Heap.Class.len K.Mem.Heap.Class.cap, .slice K.Mem.Lists.Global.a K.Mem.Lists.Global.len K.Mem.Lists.Global.cap, .slice K.Mem.Lists.Own.a K.Mem.Lists.Own.len K.Mem.Lists.Own.cap, .int .i64 y.Clock.Epoch, .slice K.Clock.Pins.a K.Clock.Pins.len K.Clock.Pins.cap, .slice K.Limbo.a K.Limbo.len K.Limbo.cap, .slice K.Haz.a K.Haz.len K.Haz.cap] 65
    simp only [World.size_alloc] at hbx
    exact hbx
  have hB : Below w.heap.size w ((w.alloc (.cells #[.slice H.Mem.Heap.Bytes.a H.Mem.Heap.Bytes.len H.Mem.Heap.Bytes.cap, .slice H.Mem.Heap.Class.a H.Mem.Heap.Class.len H.Mem.Heap.Class.cap, .slice H.Mem.Lists.Global.a H.Mem.Lists.Global.len H.Mem.Lists.Global.cap, .slice H.Mem.Lists.Own.a H.Mem.Lists.Own.len H.Mem.Lists.Own.cap, .int .i64 x.Clock.Epoch, .slice H.Clock.Pins.a H.Clock.Pins.len H.Clock.Pins.cap, .slice H.Limbo.a H.Limbo.len H.Limbo.cap, .slice H.Haz.a H.Haz.len H.Haz.cap] 65)).alloc (.cells #[.slice K.Mem.Heap.Bytes.a K.Mem.Heap.Bytes.len K.Mem.Heap.Bytes.cap, .slice K.Mem.Heap.Class.a K.Mem.Heap.Class.len K.Mem.Heap.Class.cap, .slice K.Mem.Lists.Global.a K.Mem.Lists.Global.len K.Mem.Lists.Global.cap, .slice K.Mem.Lists.Own.a K.Mem.Lists.Own.len K.Mem.Lists.Own.cap, .int .i64 y.Clock.Epoch, .slice K.Clock.Pins.a K.Clock.Pins.len K.Clock.Pins.cap, .slice K.Limbo.a K.Limbo.len K.Limbo.cap, .slice K.Haz.a K.Haz.len K.Haz.cap] 65)) := by repeat (first | exact Below.refl _ _ | refine Below.alloc ?_ (by simp <;> omega) _ | refine below_grow_of ?_ (by simp <;> omega) _ _ | refine Below.drew ?_ | refine below_drewN ?_ _)
  go_enter Try.func54, Try.ntmps54
  go_wp2_with fail
  generalize hW0 : ((w.alloc (.cells #[.slice H.Mem.Heap.Bytes.a H.Mem.Heap.Bytes.len H.Mem.Heap.Bytes.cap, .slice H.Mem.Heap.Class.a H.Mem.Heap.Class.len H.Mem.Heap.Class.cap, .slice H.Mem.Lists.Global.a H.Mem.Lists.Global.len H.Mem.Lists.Global.cap, .slice H.Mem.Lists.Own.a H.Mem.Lists.Own.len H.Mem.Lists.Own.cap, .int .i64 x.Clock.Epoch, .slice H.Clock.Pins.a H.Clock.Pins.len H.Clock.Pins.cap, .slice H.Limbo.a H.Limbo.len H.Limbo.cap, .slice H.Haz.a H.Haz.len H.Haz.cap] 65)).alloc (.cells #[.slice K.Mem.Heap.Bytes.a K.Mem.Heap.Bytes.len K.Mem.Heap.Bytes.cap, .slice K.Mem.Heap.Class.a K.Mem.Heap.Class.len K.Mem.Heap.Class.cap, .slice K.Mem.Lists.Global.a K.Mem.Lists.Global.len K.Mem.Lists.Global.cap, .slice K.Mem.Lists.Own.a K.Mem.Lists.Own.len K.Mem.Lists.Own.cap, .int .i64 y.Clock.Epoch, .slice K.Clock.Pins.a K.Clock.Pins.len K.Clock.Pins.cap, .slice K.Limbo.a K.Limbo.len K.Limbo.cap, .slice K.Haz.a K.Haz.len K.Haz.cap] 65)) = w0 at B_a B_b hB ⊢
  clear hW0
  have zz_a := B_a.lt
  have zz_b := B_b.lt
  have q_a_0 := B_a.cell 0 _ rfl
  have q_a_1 := B_a.cell 1 _ rfl
  have q_a_2 := B_a.cell 2 _ rfl
  have q_a_3 := B_a.cell 3 _ rfl
  have q_a_4 := B_a.cell 4 _ rfl
  have q_a_5 := B_a.cell 5 _ rfl
  have q_a_6 := B_a.cell 6 _ rfl
  have q_a_7 := B_a.cell 7 _ rfl
  have fr_a := B_a.fro
  have z_a := B_a.lt
  have q_b_0 := B_b.cell 0 _ rfl
  have q_b_1 := B_b.cell 1 _ rfl
  have q_b_2 := B_b.cell 2 _ rfl
  have q_b_3 := B_b.cell 3 _ rfl
  have q_b_4 := B_b.cell 4 _ rfl
  have q_b_5 := B_b.cell 5 _ rfl
  have q_b_6 := B_b.cell 6 _ rfl
  have q_b_7 := B_b.cell 7 _ rfl
  have fr_b := B_b.fro
  have z_b := B_b.lt
  refine (k0 _ hB).mono ?_
  rintro e w1 ⟨rfl, hb⟩
  replace B_a := B_a.below hb
  replace B_b := B_b.below hb
  replace hB := hB.trans (hb.mono hB.size)
  have sz := hb.size
  clear hb
  replace q_a_0 := B_a.cell 0 _ rfl
  replace q_a_1 := B_a.cell 1 _ rfl
  replace q_a_2 := B_a.cell 2 _ rfl
  replace q_a_3 := B_a.cell 3 _ rfl
  replace q_a_4 := B_a.cell 4 _ rfl
  replace q_a_5 := B_a.cell 5 _ rfl
  replace q_a_6 := B_a.cell 6 _ rfl
  replace q_a_7 := B_a.cell 7 _ rfl
  replace fr_a := B_a.fro
  replace z_a := B_a.lt
  replace q_b_0 := B_b.cell 0 _ rfl
  replace q_b_1 := B_b.cell 1 _ rfl
  replace q_b_2 := B_b.cell 2 _ rfl
  replace q_b_3 := B_b.cell 3 _ rfl
  replace q_b_4 := B_b.cell 4 _ rfl
  replace q_b_5 := B_b.cell 5 _ rfl
  replace q_b_6 := B_b.cell 6 _ rfl
  replace q_b_7 := B_b.cell 7 _ rfl
  replace fr_b := B_b.fro
  replace z_b := B_b.lt
  clear k0
  go_wp2_with fail
  refine (k1 _ hB).mono ?_
  rintro e w2 ⟨rfl, hb⟩
  replace B_a := B_a.below hb
  replace B_b := B_b.below hb
  replace hB := hB.trans (hb.mono hB.size)
  have sz := hb.size
  clear hb
  replace q_a_0 := B_a.cell 0 _ rfl
  replace q_a_1 := B_a.cell 1 _ rfl
  replace q_a_2 := B_a.cell 2 _ rfl
  replace q_a_3 := B_a.cell 3 _ rfl
  replace q_a_4 := B_a.cell 4 _ rfl
  replace q_a_5 := B_a.cell 5 _ rfl
  replace q_a_6 := B_a.cell 6 _ rfl
  replace q_a_7 := B_a.cell 7 _ rfl
  replace fr_a := B_a.fro
  replace z_a := B_a.lt
  replace q_b_0 := B_b.cell 0 _ rfl
  replace q_b_1 := B_b.cell 1 _ rfl
  replace q_b_2 := B_b.cell 2 _ rfl
  replace q_b_3 := B_b.cell 3 _ rfl
  replace q_b_4 := B_b.cell 4 _ rfl
  replace q_b_5 := B_b.cell 5 _ rfl
  replace q_b_6 := B_b.cell 6 _ rfl
  replace q_b_7 := B_b.cell 7 _ rfl
  replace fr_b := B_b.fro
  replace z_b := B_b.lt
  clear k1
  go_wp2_with fail
  refine (k2 _ hB).mono ?_
  rintro e w3 ⟨rfl, hb⟩
  replace B_a := B_a.below hb
  replace B_b := B_b.below hb
  replace hB := hB.trans (hb.mono hB.size)
  have sz := hb.size
  clear hb
  replace q_a_0 := B_a.cell 0 _ rfl
  replace q_a_1 := B_a.cell 1 _ rfl
  replace q_a_2 := B_a.cell 2 _ rfl
  replace q_a_3 := B_a.cell 3 _ rfl
  replace q_a_4 := B_a.cell 4 _ rfl
  replace q_a_5 := B_a.cell 5 _ rfl
  replace q_a_6 := B_a.cell 6 _ rfl
  replace q_a_7 := B_a.cell 7 _ rfl
  replace fr_a := B_a.fro
  replace z_a := B_a.lt
  replace q_b_0 := B_b.cell 0 _ rfl
  replace q_b_1 := B_b.cell 1 _ rfl
  replace q_b_2 := B_b.cell 2 _ rfl
  replace q_b_3 := B_b.cell 3 _ rfl
  replace q_b_4 := B_b.cell 4 _ rfl
  replace q_b_5 := B_b.cell 5 _ rfl
  replace q_b_6 := B_b.cell 6 _ rfl
  replace q_b_7 := B_b.cell 7 _ rfl
  replace fr_b := B_b.fro
  replace z_b := B_b.lt
  clear k2
  go_wp2_with fail
  refine (k3 _ hB).mono ?_
  rintro e w4 ⟨rfl, hb⟩
  replace B_a := B_a.below hb
  replace B_b := B_b.below hb
  replace hB := hB.trans (hb.mono hB.size)
  have sz := hb.size
  clear hb
  replace q_a_0 := B_a.cell 0 _ rfl
  replace q_a_1 := B_a.cell 1 _ rfl
  replace q_a_2 := B_a.cell 2 _ rfl
  replace q_a_3 := B_a.cell 3 _ rfl
  replace q_a_4 := B_a.cell 4 _ rfl
  replace q_a_5 := B_a.cell 5 _ rfl
  replace q_a_6 := B_a.cell 6 _ rfl
  replace q_a_7 := B_a.cell 7 _ rfl
  replace fr_a := B_a.fro
  replace z_a := B_a.lt
  replace q_b_0 := B_b.cell 0 _ rfl
  replace q_b_1 := B_b.cell 1 _ rfl
  replace q_b_2 := B_b.cell 2 _ rfl
  replace q_b_3 := B_b.cell 3 _ rfl
  replace q_b_4 := B_b.cell 4 _ rfl
  replace q_b_5 := B_b.cell 5 _ rfl
  replace q_b_6 := B_b.cell 6 _ rfl
  replace q_b_7 := B_b.cell 7 _ rfl
  replace fr_b := B_b.fro
  replace z_b := B_b.lt
  clear k3
  go_wp2_with fail
  go_ret
  exact ⟨ret_bool HV.out.symm, hB⟩

set_option maxRecDepth 100000 in
set_option maxHeartbeats 1000000 in
theorem SameBase_spec (w : World) (H K : HBase) (x y : Base) (h1 : RdBase w w.heap.size H x) (h2 : RdBase w w.heap.size K y) :
    Calls Try.prog 52 #[.agg #[.slice H.Mem.Heap.Bytes.a H.Mem.Heap.Bytes.len H.Mem.Heap.Bytes.cap, .slice H.Mem.Heap.Class.a H.Mem.Heap.Class.len H.Mem.Heap.Class.cap, .slice H.Mem.Lists.Global.a H.Mem.Lists.Global.len H.Mem.Lists.Global.cap, .slice H.Mem.Lists.Own.a H.Mem.Lists.Own.len H.Mem.Lists.Own.cap, .int .i64 x.Clock.Epoch, .slice H.Clock.Pins.a H.Clock.Pins.len H.Clock.Pins.cap, .slice H.Limbo.a H.Limbo.len H.Limbo.cap, .slice H.Haz.a H.Haz.len H.Haz.cap], .agg #[.slice K.Mem.Heap.Bytes.a K.Mem.Heap.Bytes.len K.Mem.Heap.Bytes.cap, .slice K.Mem.Heap.Class.a K.Mem.Heap.Class.len K.Mem.Heap.Class.cap, .slice K.Mem.Lists.Global.a K.Mem.Lists.Global.len K.Mem.Lists.Global.cap, .slice K.Mem.Lists.Own.a K.Mem.Lists.Own.len K.Mem.Lists.Own.cap, .int .i64 y.Clock.Epoch, .slice K.Clock.Pins.a K.Clock.Pins.len K.Clock.Pins.cap, .slice K.Limbo.a K.Limbo.len K.Limbo.cap, .slice K.Haz.a K.Haz.len K.Haz.cap]] w fun e w' => e = .returned (.bool (sameBaseB x y)) ∧ Below w.heap.size w w' := by
  have k0 := fun (W : World) (hW : Below w.heap.size w W) => SameMem_spec W H.Mem K.Mem x.Mem y.Mem (rdMem_up h1.Mem hW) (rdMem_up h2.Mem hW)
  have k1 := fun (W : World) (hW : Below w.heap.size w W) => SameClock_spec W H.Clock K.Clock x.Clock y.Clock (rdClock_up h1.Clock hW) (rdClock_up h2.Clock hW)
  have k2 := fun (W : World) (hW : Below w.heap.size w W) => SameLimbo_spec W _ _ _ _ x.Limbo y.Limbo (rdLL_up h1.Limbo hW) (rdLL_up h2.Limbo hW)
  have k3 := fun (W : World) (hW : Below w.heap.size w W) => SameBytes_spec W _ _ x.Haz y.Haz (rd_up h1.Haz hW) (rd_up h2.Haz hW)
  have HV : Hid (sameBaseB x y = (sameMemB x.Mem y.Mem && sameClockB x.Clock y.Clock && decide (x.Limbo = y.Limbo) && decide (x.Haz = y.Haz))) := (rfl : _ = _)
  generalize sameMemB x.Mem y.Mem = c0 at k0 HV
  generalize sameClockB x.Clock y.Clock = c1 at k1 HV
  generalize decide (x.Limbo = y.Limbo) = c2 at k2 HV
  generalize decide (x.Haz = y.Haz) = c3 at k3 HV
  cases c0 with
  | false =>
    replace HV : Hid (sameBaseB x y = false) := HV.out.trans (by simp)
    have B_a : Box ((w.alloc (.cells #[.slice H.Mem.Heap.Bytes.a H.Mem.Heap.Bytes.len H.Mem.Heap.Bytes.cap, .slice H.Mem.Heap.Class.a H.Mem.Heap.Class.len H.Mem.Heap.Class.cap, .slice H.Mem.Lists.Global.a H.Mem.Lists.Global.len H.Mem.Lists.Global.cap, .slice H.Mem.Lists.Own.a H.Mem.Lists.Own.len H.Mem.Lists.Own.cap, .int .i64 x.Clock.Epoch, .slice H.Clock.Pins.a H.Clock.Pins.len H.Clock.Pins.cap, .slice H.Limbo.a H.Limbo.len H.Limbo.cap, .slice H.Haz.a H.Haz.len H.Haz.cap] 65)).alloc (.cells #[.slice K.Mem.Heap.Bytes.a K.Mem.Heap.Bytes.len K.Mem.Heap.Bytes.cap, .slice K.Mem.Heap.Class.a K.Mem.Heap.Class.len K.Mem.Heap.Class.cap, .slice K.Mem.Lists.Global.a K.Mem.Lists.Global.len K.Mem.Lists.Global.cap, .slice K.Mem.Lists.Own.a K.Mem.Lists.Own.len K.Mem.Lists.Own.cap, .int .i64 y.Clock.Epoch, .slice K.Clock.Pins.a K.Clock.Pins.len K.Clock.Pins.cap, .slice K.Limbo.a K.Limbo.len K.Limbo.cap, .slice K.Haz.a K.Haz.len K.Haz.cap] 65)) (w.heap.size) [.slice H.Mem.Heap.Bytes.a H.Mem.Heap.Bytes.len H.Mem.Heap.Bytes.cap, .slice H.Mem.Heap.Class.a H.Mem.Heap.Class.len H.Mem.Heap.Class.cap, .slice H.Mem.Lists.Global.a H.Mem.Lists.Global.len H.Mem.Lists.Global.cap, .slice H.Mem.Lists.Own.a H.Mem.Lists.Own.len H.Mem.Lists.Own.cap, .int .i64 x.Clock.Epoch, .slice H.Clock.Pins.a H.Clock.Pins.len H.Clock.Pins.cap, .slice H.Limbo.a H.Limbo.len H.Limbo.cap, .slice H.Haz.a H.Haz.len H.Haz.cap] := by
      have hbx := Box.new w #[.slice H.Mem.Heap.Bytes.a H.Mem.Heap.Bytes.len H.Mem.Heap.Bytes.cap, .slice H.Mem.Heap.Class.a H.Mem.Heap.Class.len H.Mem.Heap.Class.cap, .slice H.Mem.Lists.Global.a H.Mem.Lists.Global.len H.Mem.Lists.Global.cap, .slice H.Mem.Lists.Own.a H.Mem.Lists.Own.len H.Mem.Lists.Own.cap, .int .i64 x.Clock.Epoch, .slice H.Clock.Pins.a H.Clock.Pins.len H.Clock.Pins.cap, .slice H.Limbo.a H.Limbo.len H.Limbo.cap, .slice H.Haz.a H.Haz.len H.Haz.cap] 65
      exact (hbx).alloc _
    have B_b : Box ((w.alloc (.cells #[.slice H.Mem.Heap.Bytes.a H.Mem.Heap.Bytes.len H.Mem.Heap.Bytes.cap, .slice H.Mem.Heap.Class.a H.Mem.Heap.Class.len H.Mem.Heap.Class.cap, .slice H.Mem.Lists.Global.a H.Mem.Lists.Global.len H.Mem.Lists.Global.cap, .slice H.Mem.Lists.Own.a H.Mem.Lists.Own.len H.Mem.Lists.Own.cap, .int .i64 x.Clock.Epoch, .slice H.Clock.Pins.a H.Clock.Pins.len H.Clock.Pins.cap, .slice H.Limbo.a H.Limbo.len H.Limbo.cap, .slice H.Haz.a H.Haz.len H.Haz.cap] 65)).alloc (.cells #[.slice K.Mem.Heap.Bytes.a K.Mem.Heap.Bytes.len K.Mem.Heap.Bytes.cap, .slice K.Mem.Heap.Class.a K.Mem.Heap.Class.len K.Mem.Heap.Class.cap, .slice K.Mem.Lists.Global.a K.Mem.Lists.Global.len K.Mem.Lists.Global.cap, .slice K.Mem.Lists.Own.a K.Mem.Lists.Own.len K.Mem.Lists.Own.cap, .int .i64 y.Clock.Epoch, .slice K.Clock.Pins.a K.Clock.Pins.len K.Clock.Pins.cap, .slice K.Limbo.a K.Limbo.len K.Limbo.cap, .slice K.Haz.a K.Haz.len K.Haz.cap] 65)) (w.heap.size + 1) [.slice K.Mem.Heap.Bytes.a K.Mem.Heap.Bytes.len K.Mem.Heap.Bytes.cap, .slice K.Mem.Heap.Class.a K.Mem.Heap.Class.len K.Mem.Heap.Class.cap, .slice K.Mem.Lists.Global.a K.Mem.Lists.Global.len K.Mem.Lists.Global.cap, .slice K.Mem.Lists.Own.a K.Mem.Lists.Own.len K.Mem.Lists.Own.cap, .int .i64 y.Clock.Epoch, .slice K.Clock.Pins.a K.Clock.Pins.len K.Clock.Pins.cap, .slice K.Limbo.a K.Limbo.len K.Limbo.cap, .slice K.Haz.a K.Haz.len K.Haz.cap] := by
      have hbx := Box.new (w.alloc (.cells #[.slice H.Mem.Heap.Bytes.a H.Mem.Heap.Bytes.len H.Mem.Heap.Bytes.cap, .slice H.Mem.Heap.Class.a H.Mem.Heap.Class.len H.Mem.Heap.Class.cap, .slice H.Mem.Lists.Global.a H.Mem.Lists.Global.len H.Mem.Lists.Global.cap, .slice H.Mem.Lists.Own.a H.Mem.Lists.Own.len H.Mem.Lists.Own.cap, .int .i64 x.Clock.Epoch, .slice H.Clock.Pins.a H.Clock.Pins.len H.Clock.Pins.cap, .slice H.Limbo.a H.Limbo.len H.Limbo.cap, .slice H.Haz.a H.Haz.len H.Haz.cap] 65)) #[.slice K.Mem.Heap.Bytes.a K.Mem.Heap.Bytes.len K.Mem.Heap.Bytes.cap, .slice K.Mem.Heap.Class.a K.Mem.Heap.Class.len K.Mem.Heap.Class.cap, .slice K.Mem.Lists.Global.a K.Mem.Lists.Global.len K.Mem.Lists.Global.cap, .slice K.Mem.Lists.Own.a K.Mem.Lists.Own.len K.Mem.Lists.Own.cap, .int .i64 y.Clock.Epoch, .slice K.Clock.Pins.a K.Clock.Pins.len K.Clock.Pins.cap, .slice K.Limbo.a K.Limbo.len K.Limbo.cap, .slice K.Haz.a K.Haz.len K.Haz.cap] 65
      simp only [World.size_alloc] at hbx
      exact hbx
    have hB : Below w.heap.size w ((w.alloc (.cells #[.slice H.Mem.Heap.Bytes.a H.Mem.Heap.Bytes.len H.Mem.Heap.Bytes.cap, .slice H.Mem.Heap.Class.a H.Mem.Heap.Class.len H.Mem.Heap.Class.cap, .slice H.Mem.Lists.Global.a H.Mem.Lists.Global.len H.Mem.Lists.Global.cap, .slice H.Mem.Lists.Own.a H.Mem.Lists.Own.len H.Mem.Lists.Own.cap, .int .i64 x.Clock.Epoch, .slice H.Clock.Pins.a H.Clock.Pins.len H.Clock.Pins.cap, .slice H.Limbo.a H.Limbo.len H.Limbo.cap, .slice H.Haz.a H.Haz.len H.Haz.cap] 65)).alloc (.cells #[.slice K.Mem.Heap.Bytes.a K.Mem.Heap.Bytes.len K.Mem.Heap.Bytes.cap, .slice K.Mem.Heap.Class.a K.Mem.Heap.Class.len K.Mem.Heap.Class.cap, .slice K.Mem.Lists.Global.a K.Mem.Lists.Global.len K.Mem.Lists.Global.cap, .slice K.Mem.Lists.Own.a K.Mem.Lists.Own.len K.Mem.Lists.Own.cap, .int .i64 y.Clock.Epoch, .slice K.Clock.Pins.a K.Clock.Pins.len K.Clock.Pins.cap, .slice K.Limbo.a K.Limbo.len K.Limbo.cap, .slice K.Haz.a K.Haz.len K.Haz.cap] 65)) := by repeat (first | exact Below.refl _ _ | refine Below.alloc ?_ (by simp <;> omega) _ | refine below_grow_of ?_ (by simp <;> omega) _ _ | refine Below.drew ?_ | refine below_drewN ?_ _)
    go_enter Try.func52, Try.ntmps52
    go_wp2_with fail
    generalize hW0 : ((w.alloc (.cells #[.slice H.Mem.Heap.Bytes.a H.Mem.Heap.Bytes.len H.Mem.Heap.Bytes.cap, .slice H.Mem.Heap.Class.a H.Mem.Heap.Class.len H.Mem.Heap.Class.cap, .slice H.Mem.Lists.Global.a H.Mem.Lists.Global.len H.Mem.Lists.Global.cap, .slice H.Mem.Lists.Own.a H.Mem.Lists.Own.len H.Mem.Lists.Own.cap, .int .i64 x.Clock.Epoch, .slice H.Clock.Pins.a H.Clock.Pins.len H.Clock.Pins.cap, .slice H.Limbo.a H.Limbo.len H.Limbo.cap, .slice H.Haz.a H.Haz.len H.Haz.cap] 65)).alloc (.cells #[.slice K.Mem.Heap.Bytes.a K.Mem.Heap.Bytes.len K.Mem.Heap.Bytes.cap, .slice K.Mem.Heap.Class.a K.Mem.Heap.Class.len K.Mem.Heap.Class.cap, .slice K.Mem.Lists.Global.a K.Mem.Lists.Global.len K.Mem.Lists.Global.cap, .slice K.Mem.Lists.Own.a K.Mem.Lists.Own.len K.Mem.Lists.Own.cap, .int .i64 y.Clock.Epoch, .slice K.Clock.Pins.a K.Clock.Pins.len K.Clock.Pins.cap, .slice K.Limbo.a K.Limbo.len K.Limbo.cap, .slice K.Haz.a K.Haz.len K.Haz.cap] 65)) = w0 at B_a B_b hB ⊢
    clear hW0
    have zz_a := B_a.lt
    have zz_b := B_b.lt
    have q_a_0 := B_a.cell 0 _ rfl
    have q_a_1 := B_a.cell 1 _ rfl
    have q_a_2 := B_a.cell 2 _ rfl
    have q_a_3 := B_a.cell 3 _ rfl
    have q_a_4 := B_a.cell 4 _ rfl
    have q_a_5 := B_a.cell 5 _ rfl
    have q_a_6 := B_a.cell 6 _ rfl
    have q_a_7 := B_a.cell 7 _ rfl
    have fr_a := B_a.fro
    have z_a := B_a.lt
    have q_b_0 := B_b.cell 0 _ rfl
    have q_b_1 := B_b.cell 1 _ rfl
    have q_b_2 := B_b.cell 2 _ rfl
    have q_b_3 := B_b.cell 3 _ rfl
    have q_b_4 := B_b.cell 4 _ rfl
    have q_b_5 := B_b.cell 5 _ rfl
    have q_b_6 := B_b.cell 6 _ rfl
    have q_b_7 := B_b.cell 7 _ rfl
    have fr_b := B_b.fro
    have z_b := B_b.lt
    refine (k0 _ hB).mono ?_
    rintro e w1 ⟨rfl, hb⟩
    replace B_a := B_a.below hb
    replace B_b := B_b.below hb
    replace hB := hB.trans (hb.mono hB.size)
    have sz := hb.size
    clear hb
    replace q_a_0 := B_a.cell 0 _ rfl
    replace q_a_1 := B_a.cell 1 _ rfl
    replace q_a_2 := B_a.cell 2 _ rfl
    replace q_a_3 := B_a.cell 3 _ rfl
    replace q_a_4 := B_a.cell 4 _ rfl
    replace q_a_5 := B_a.cell 5 _ rfl
    replace q_a_6 := B_a.cell 6 _ rfl
    replace q_a_7 := B_a.cell 7 _ rfl
    replace fr_a := B_a.fro
    replace z_a := B_a.lt
    replace q_b_0 := B_b.cell 0 _ rfl
    replace q_b_1 := B_b.cell 1 _ rfl
    replace q_b_2 := B_b.cell 2 _ rfl
    replace q_b_3 := B_b.cell 3 _ rfl
    replace q_b_4 := B_b.cell 4 _ rfl
    replace q_b_5 := B_b.cell 5 _ rfl
    replace q_b_6 := B_b.cell 6 _ rfl
    replace q_b_7 := B_b.cell 7 _ rfl
    replace fr_b := B_b.fro
    replace z_b := B_b.lt
    clear k0
    go_wp2_with fail
    go_ret
    exact ⟨ret_bool HV.out.symm, hB⟩
  | true =>
  cases c1 with
  | false =>
    replace HV : Hid (sameBaseB x y = false) := HV.out.trans (by simp)
    have B_a : Box ((w.alloc (.cells #[.slice H.Mem.Heap.Bytes.a H.Mem.Heap.Bytes.len H.Mem.Heap.Bytes.cap, .slice H.Mem.Heap.Class.a H.Mem.Heap.Class.len H.Mem.Heap.Class.cap, .slice H.Mem.Lists.Global.a H.Mem.Lists.Global.len H.Mem.Lists.Global.cap, .slice H.Mem.Lists.Own.a H.Mem.Lists.Own.len H.Mem.Lists.Own.cap, .int .i64 x.Clock.Epoch, .slice H.Clock.Pins.a H.Clock.Pins.len H.Clock.Pins.cap, .slice H.Limbo.a H.Limbo.len H.Limbo.cap, .slice H.Haz.a H.Haz.len H.Haz.cap] 65)).alloc (.cells #[.slice K.Mem.Heap.Bytes.a K.Mem.Heap.Bytes.len K.Mem.Heap.Bytes.cap, .slice K.Mem.Heap.Class.a K.Mem.Heap.Class.len K.Mem.Heap.Class.cap, .slice K.Mem.Lists.Global.a K.Mem.Lists.Global.len K.Mem.Lists.Global.cap, .slice K.Mem.Lists.Own.a K.Mem.Lists.Own.len K.Mem.Lists.Own.cap, .int .i64 y.Clock.Epoch, .slice K.Clock.Pins.a K.Clock.Pins.len K.Clock.Pins.cap, .slice K.Limbo.a K.Limbo.len K.Limbo.cap, .slice K.Haz.a K.Haz.len K.Haz.cap] 65)) (w.heap.size) [.slice H.Mem.Heap.Bytes.a H.Mem.Heap.Bytes.len H.Mem.Heap.Bytes.cap, .slice H.Mem.Heap.Class.a H.Mem.Heap.Class.len H.Mem.Heap.Class.cap, .slice H.Mem.Lists.Global.a H.Mem.Lists.Global.len H.Mem.Lists.Global.cap, .slice H.Mem.Lists.Own.a H.Mem.Lists.Own.len H.Mem.Lists.Own.cap, .int .i64 x.Clock.Epoch, .slice H.Clock.Pins.a H.Clock.Pins.len H.Clock.Pins.cap, .slice H.Limbo.a H.Limbo.len H.Limbo.cap, .slice H.Haz.a H.Haz.len H.Haz.cap] := by
      have hbx := Box.new w #[.slice H.Mem.Heap.Bytes.a H.Mem.Heap.Bytes.len H.Mem.Heap.Bytes.cap, .slice H.Mem.Heap.Class.a H.Mem.Heap.Class.len H.Mem.Heap.Class.cap, .slice H.Mem.Lists.Global.a H.Mem.Lists.Global.len H.Mem.Lists.Global.cap, .slice H.Mem.Lists.Own.a H.Mem.Lists.Own.len H.Mem.Lists.Own.cap, .int .i64 x.Clock.Epoch, .slice H.Clock.Pins.a H.Clock.Pins.len H.Clock.Pins.cap, .slice H.Limbo.a H.Limbo.len H.Limbo.cap, .slice H.Haz.a H.Haz.len H.Haz.cap] 65
      exact (hbx).alloc _
    have B_b : Box ((w.alloc (.cells #[.slice H.Mem.Heap.Bytes.a H.Mem.Heap.Bytes.len H.Mem.Heap.Bytes.cap, .slice H.Mem.Heap.Class.a H.Mem.Heap.Class.len H.Mem.Heap.Class.cap, .slice H.Mem.Lists.Global.a H.Mem.Lists.Global.len H.Mem.Lists.Global.cap, .slice H.Mem.Lists.Own.a H.Mem.Lists.Own.len H.Mem.Lists.Own.cap, .int .i64 x.Clock.Epoch, .slice H.Clock.Pins.a H.Clock.Pins.len H.Clock.Pins.cap, .slice H.Limbo.a H.Limbo.len H.Limbo.cap, .slice H.Haz.a H.Haz.len H.Haz.cap] 65)).alloc (.cells #[.slice K.Mem.Heap.Bytes.a K.Mem.Heap.Bytes.len K.Mem.Heap.Bytes.cap, .slice K.Mem.Heap.Class.a K.Mem.Heap.Class.len K.Mem.Heap.Class.cap, .slice K.Mem.Lists.Global.a K.Mem.Lists.Global.len K.Mem.Lists.Global.cap, .slice K.Mem.Lists.Own.a K.Mem.Lists.Own.len K.Mem.Lists.Own.cap, .int .i64 y.Clock.Epoch, .slice K.Clock.Pins.a K.Clock.Pins.len K.Clock.Pins.cap, .slice K.Limbo.a K.Limbo.len K.Limbo.cap, .slice K.Haz.a K.Haz.len K.Haz.cap] 65)) (w.heap.size + 1) [.slice K.Mem.Heap.Bytes.a K.Mem.Heap.Bytes.len K.Mem.Heap.Bytes.cap, .slice K.Mem.Heap.Class.a K.Mem.Heap.Class.len K.Mem.Heap.Class.cap, .slice K.Mem.Lists.Global.a K.Mem.Lists.Global.len K.Mem.Lists.Global.cap, .slice K.Mem.Lists.Own.a K.Mem.Lists.Own.len K.Mem.Lists.Own.cap, .int .i64 y.Clock.Epoch, .slice K.Clock.Pins.a K.Clock.Pins.len K.Clock.Pins.cap, .slice K.Limbo.a K.Limbo.len K.Limbo.cap, .slice K.Haz.a K.Haz.len K.Haz.cap] := by
      have hbx := Box.new (w.alloc (.cells #[.slice H.Mem.Heap.Bytes.a H.Mem.Heap.Bytes.len H.Mem.Heap.Bytes.cap, .slice H.Mem.Heap.Class.a H.Mem.Heap.Class.len H.Mem.Heap.Class.cap, .slice H.Mem.Lists.Global.a H.Mem.Lists.Global.len H.Mem.Lists.Global.cap, .slice H.Mem.Lists.Own.a H.Mem.Lists.Own.len H.Mem.Lists.Own.cap, .int .i64 x.Clock.Epoch, .slice H.Clock.Pins.a H.Clock.Pins.len H.Clock.Pins.cap, .slice H.Limbo.a H.Limbo.len H.Limbo.cap, .slice H.Haz.a H.Haz.len H.Haz.cap] 65)) #[.slice K.Mem.Heap.Bytes.a K.Mem.Heap.Bytes.len K.Mem.Heap.Bytes.cap, .slice K.Mem.Heap.Class.a K.Mem.Heap.Class.len K.Mem.Heap.Class.cap, .slice K.Mem.Lists.Global.a K.Mem.Lists.Global.len K.Mem.Lists.Global.cap, .slice K.Mem.Lists.Own.a K.Mem.Lists.Own.len K.Mem.Lists.Own.cap, .int .i64 y.Clock.Epoch, .slice K.Clock.Pins.a K.Clock.Pins.len K.Clock.Pins.cap, .slice K.Limbo.a K.Limbo.len K.Limbo.cap, .slice K.Haz.a K.Haz.len K.Haz.cap] 65
      simp only [World.size_alloc] at hbx
      exact hbx
    have hB : Below w.heap.size w ((w.alloc (.cells #[.slice H.Mem.Heap.Bytes.a H.Mem.Heap.Bytes.len H.Mem.Heap.Bytes.cap, .slice H.Mem.Heap.Class.a H.Mem.Heap.Class.len H.Mem.Heap.Class.cap, .slice H.Mem.Lists.Global.a H.Mem.Lists.Global.len H.Mem.Lists.Global.cap, .slice H.Mem.Lists.Own.a H.Mem.Lists.Own.len H.Mem.Lists.Own.cap, .int .i64 x.Clock.Epoch, .slice H.Clock.Pins.a H.Clock.Pins.len H.Clock.Pins.cap, .slice H.Limbo.a H.Limbo.len H.Limbo.cap, .slice H.Haz.a H.Haz.len H.Haz.cap] 65)).alloc (.cells #[.slice K.Mem.Heap.Bytes.a K.Mem.Heap.Bytes.len K.Mem.Heap.Bytes.cap, .slice K.Mem.Heap.Class.a K.Mem.Heap.Class.len K.Mem.Heap.Class.cap, .slice K.Mem.Lists.Global.a K.Mem.Lists.Global.len K.Mem.Lists.Global.cap, .slice K.Mem.Lists.Own.a K.Mem.Lists.Own.len K.Mem.Lists.Own.cap, .int .i64 y.Clock.Epoch, .slice K.Clock.Pins.a K.Clock.Pins.len K.Clock.Pins.cap, .slice K.Limbo.a K.Limbo.len K.Limbo.cap, .slice K.Haz.a K.Haz.len K.Haz.cap] 65)) := by repeat (first | exact Below.refl _ _ | refine Below.alloc ?_ (by simp <;> omega) _ | refine below_grow_of ?_ (by simp <;> omega) _ _ | refine Below.drew ?_ | refine below_drewN ?_ _)
    go_enter Try.func52, Try.ntmps52
    go_wp2_with fail
    generalize hW0 : ((w.alloc (.cells #[.slice H.Mem.Heap.Bytes.a H.Mem.Heap.Bytes.len H.Mem.Heap.Bytes.cap, .slice H.Mem.Heap.Class.a H.Mem.Heap.Class.len H.Mem.Heap.Class.cap, .slice H.Mem.Lists.Global.a H.Mem.Lists.Global.len H.Mem.Lists.Global.cap, .slice H.Mem.Lists.Own.a H.Mem.Lists.Own.len H.Mem.Lists.Own.cap, .int .i64 x.Clock.Epoch, .slice H.Clock.Pins.a H.Clock.Pins.len H.Clock.Pins.cap, .slice H.Limbo.a H.Limbo.len H.Limbo.cap, .slice H.Haz.a H.Haz.len H.Haz.cap] 65)).alloc (.cells #[.slice K.Mem.Heap.Bytes.a K.Mem.Heap.Bytes.len K.Mem.Heap.Bytes.cap, .slice K.Mem.Heap.Class.a K.Mem.Heap.Class.len K.Mem.Heap.Class.cap, .slice K.Mem.Lists.Global.a K.Mem.Lists.Global.len K.Mem.Lists.Global.cap, .slice K.Mem.Lists.Own.a K.Mem.Lists.Own.len K.Mem.Lists.Own.cap, .int .i64 y.Clock.Epoch, .slice K.Clock.Pins.a K.Clock.Pins.len K.Clock.Pins.cap, .slice K.Limbo.a K.Limbo.len K.Limbo.cap, .slice K.Haz.a K.Haz.len K.Haz.cap] 65)) = w0 at B_a B_b hB ⊢
    clear hW0
    have zz_a := B_a.lt
    have zz_b := B_b.lt
    have q_a_0 := B_a.cell 0 _ rfl
    have q_a_1 := B_a.cell 1 _ rfl
    have q_a_2 := B_a.cell 2 _ rfl
    have q_a_3 := B_a.cell 3 _ rfl
    have q_a_4 := B_a.cell 4 _ rfl
    have q_a_5 := B_a.cell 5 _ rfl
    have q_a_6 := B_a.cell 6 _ rfl
    have q_a_7 := B_a.cell 7 _ rfl
    have fr_a := B_a.fro
    have z_a := B_a.lt
    have q_b_0 := B_b.cell 0 _ rfl
    have q_b_1 := B_b.cell 1 _ rfl
    have q_b_2 := B_b.cell 2 _ rfl
    have q_b_3 := B_b.cell 3 _ rfl
    have q_b_4 := B_b.cell 4 _ rfl
    have q_b_5 := B_b.cell 5 _ rfl
    have q_b_6 := B_b.cell 6 _ rfl
    have q_b_7 := B_b.cell 7 _ rfl
    have fr_b := B_b.fro
    have z_b := B_b.lt
    refine (k0 _ hB).mono ?_
    rintro e w1 ⟨rfl, hb⟩
    replace B_a := B_a.below hb
    replace B_b := B_b.below hb
    replace hB := hB.trans (hb.mono hB.size)
    have sz := hb.size
    clear hb
    replace q_a_0 := B_a.cell 0 _ rfl
    replace q_a_1 := B_a.cell 1 _ rfl
    replace q_a_2 := B_a.cell 2 _ rfl
    replace q_a_3 := B_a.cell 3 _ rfl
    replace q_a_4 := B_a.cell 4 _ rfl
    replace q_a_5 := B_a.cell 5 _ rfl
    replace q_a_6 := B_a.cell 6 _ rfl
    replace q_a_7 := B_a.cell 7 _ rfl
    replace fr_a := B_a.fro
    replace z_a := B_a.lt
    replace q_b_0 := B_b.cell 0 _ rfl
    replace q_b_1 := B_b.cell 1 _ rfl
    replace q_b_2 := B_b.cell 2 _ rfl
    replace q_b_3 := B_b.cell 3 _ rfl
    replace q_b_4 := B_b.cell 4 _ rfl
    replace q_b_5 := B_b.cell 5 _ rfl
    replace q_b_6 := B_b.cell 6 _ rfl
    replace q_b_7 := B_b.cell 7 _ rfl
    replace fr_b := B_b.fro
    replace z_b := B_b.lt
    clear k0
    go_wp2_with fail
    refine (k1 _ hB).mono ?_
    rintro e w2 ⟨rfl, hb⟩
    replace B_a := B_a.below hb
    replace B_b := B_b.below hb
    replace hB := hB.trans (hb.mono hB.size)
    have sz := hb.size
    clear hb
    replace q_a_0 := B_a.cell 0 _ rfl
    replace q_a_1 := B_a.cell 1 _ rfl
    replace q_a_2 := B_a.cell 2 _ rfl
    replace q_a_3 := B_a.cell 3 _ rfl
    replace q_a_4 := B_a.cell 4 _ rfl
    replace q_a_5 := B_a.cell 5 _ rfl
    replace q_a_6 := B_a.cell 6 _ rfl
    replace q_a_7 := B_a.cell 7 _ rfl
    replace fr_a := B_a.fro
    replace z_a := B_a.lt
    replace q_b_0 := B_b.cell 0 _ rfl
    replace q_b_1 := B_b.cell 1 _ rfl
    replace q_b_2 := B_b.cell 2 _ rfl
    replace q_b_3 := B_b.cell 3 _ rfl
    replace q_b_4 := B_b.cell 4 _ rfl
    replace q_b_5 := B_b.cell 5 _ rfl
    replace q_b_6 := B_b.cell 6 _ rfl
    replace q_b_7 := B_b.cell 7 _ rfl
    replace fr_b := B_b.fro
    replace z_b := B_b.lt
    clear k1
    go_wp2_with fail
    go_ret
    exact ⟨ret_bool HV.out.symm, hB⟩
  | true =>
  cases c2 with
  | false =>
    replace HV : Hid (sameBaseB x y = false) := HV.out.trans (by simp)
    have B_a : Box ((w.alloc (.cells #[.slice H.Mem.Heap.Bytes.a H.Mem.Heap.Bytes.len H.Mem.Heap.Bytes.cap, .slice H.Mem.Heap.Class.a H.Mem.Heap.Class.len H.Mem.Heap.Class.cap, .slice H.Mem.Lists.Global.a H.Mem.Lists.Global.len H.Mem.Lists.Global.cap, .slice H.Mem.Lists.Own.a H.Mem.Lists.Own.len H.Mem.Lists.Own.cap, .int .i64 x.Clock.Epoch, .slice H.Clock.Pins.a H.Clock.Pins.len H.Clock.Pins.cap, .slice H.Limbo.a H.Limbo.len H.Limbo.cap, .slice H.Haz.a H.Haz.len H.Haz.cap] 65)).alloc (.cells #[.slice K.Mem.Heap.Bytes.a K.Mem.Heap.Bytes.len K.Mem.Heap.Bytes.cap, .slice K.Mem.Heap.Class.a K.Mem.Heap.Class.len K.Mem.Heap.Class.cap, .slice K.Mem.Lists.Global.a K.Mem.Lists.Global.len K.Mem.Lists.Global.cap, .slice K.Mem.Lists.Own.a K.Mem.Lists.Own.len K.Mem.Lists.Own.cap, .int .i64 y.Clock.Epoch, .slice K.Clock.Pins.a K.Clock.Pins.len K.Clock.Pins.cap, .slice K.Limbo.a K.Limbo.len K.Limbo.cap, .slice K.Haz.a K.Haz.len K.Haz.cap] 65)) (w.heap.size) [.slice H.Mem.Heap.Bytes.a H.Mem.Heap.Bytes.len H.Mem.Heap.Bytes.cap, .slice H.Mem.Heap.Class.a H.Mem.Heap.Class.len H.Mem.Heap.Class.cap, .slice H.Mem.Lists.Global.a H.Mem.Lists.Global.len H.Mem.Lists.Global.cap, .slice H.Mem.Lists.Own.a H.Mem.Lists.Own.len H.Mem.Lists.Own.cap, .int .i64 x.Clock.Epoch, .slice H.Clock.Pins.a H.Clock.Pins.len H.Clock.Pins.cap, .slice H.Limbo.a H.Limbo.len H.Limbo.cap, .slice H.Haz.a H.Haz.len H.Haz.cap] := by
      have hbx := Box.new w #[.slice H.Mem.Heap.Bytes.a H.Mem.Heap.Bytes.len H.Mem.Heap.Bytes.cap, .slice H.Mem.Heap.Class.a H.Mem.Heap.Class.len H.Mem.Heap.Class.cap, .slice H.Mem.Lists.Global.a H.Mem.Lists.Global.len H.Mem.Lists.Global.cap, .slice H.Mem.Lists.Own.a H.Mem.Lists.Own.len H.Mem.Lists.Own.cap, .int .i64 x.Clock.Epoch, .slice H.Clock.Pins.a H.Clock.Pins.len H.Clock.Pins.cap, .slice H.Limbo.a H.Limbo.len H.Limbo.cap, .slice H.Haz.a H.Haz.len H.Haz.cap] 65
      exact (hbx).alloc _
    have B_b : Box ((w.alloc (.cells #[.slice H.Mem.Heap.Bytes.a H.Mem.Heap.Bytes.len H.Mem.Heap.Bytes.cap, .slice H.Mem.Heap.Class.a H.Mem.Heap.Class.len H.Mem.Heap.Class.cap, .slice H.Mem.Lists.Global.a H.Mem.Lists.Global.len H.Mem.Lists.Global.cap, .slice H.Mem.Lists.Own.a H.Mem.Lists.Own.len H.Mem.Lists.Own.cap, .int .i64 x.Clock.Epoch, .slice H.Clock.Pins.a H.Clock.Pins.len H.Clock.Pins.cap, .slice H.Limbo.a H.Limbo.len H.Limbo.cap, .slice H.Haz.a H.Haz.len H.Haz.cap] 65)).alloc (.cells #[.slice K.Mem.Heap.Bytes.a K.Mem.Heap.Bytes.len K.Mem.Heap.Bytes.cap, .slice K.Mem.Heap.Class.a K.Mem.Heap.Class.len K.Mem.Heap.Class.cap, .slice K.Mem.Lists.Global.a K.Mem.Lists.Global.len K.Mem.Lists.Global.cap, .slice K.Mem.Lists.Own.a K.Mem.Lists.Own.len K.Mem.Lists.Own.cap, .int .i64 y.Clock.Epoch, .slice K.Clock.Pins.a K.Clock.Pins.len K.Clock.Pins.cap, .slice K.Limbo.a K.Limbo.len K.Limbo.cap, .slice K.Haz.a K.Haz.len K.Haz.cap] 65)) (w.heap.size + 1) [.slice K.Mem.Heap.Bytes.a K.Mem.Heap.Bytes.len K.Mem.Heap.Bytes.cap, .slice K.Mem.Heap.Class.a K.Mem.Heap.Class.len K.Mem.Heap.Class.cap, .slice K.Mem.Lists.Global.a K.Mem.Lists.Global.len K.Mem.Lists.Global.cap, .slice K.Mem.Lists.Own.a K.Mem.Lists.Own.len K.Mem.Lists.Own.cap, .int .i64 y.Clock.Epoch, .slice K.Clock.Pins.a K.Clock.Pins.len K.Clock.Pins.cap, .slice K.Limbo.a K.Limbo.len K.Limbo.cap, .slice K.Haz.a K.Haz.len K.Haz.cap] := by
      have hbx := Box.new (w.alloc (.cells #[.slice H.Mem.Heap.Bytes.a H.Mem.Heap.Bytes.len H.Mem.Heap.Bytes.cap, .slice H.Mem.Heap.Class.a H.Mem.Heap.Class.len H.Mem.Heap.Class.cap, .slice H.Mem.Lists.Global.a H.Mem.Lists.Global.len H.Mem.Lists.Global.cap, .slice H.Mem.Lists.Own.a H.Mem.Lists.Own.len H.Mem.Lists.Own.cap, .int .i64 x.Clock.Epoch, .slice H.Clock.Pins.a H.Clock.Pins.len H.Clock.Pins.cap, .slice H.Limbo.a H.Limbo.len H.Limbo.cap, .slice H.Haz.a H.Haz.len H.Haz.cap] 65)) #[.slice K.Mem.Heap.Bytes.a K.Mem.Heap.Bytes.len K.Mem.Heap.Bytes.cap, .slice K.Mem.Heap.Class.a K.Mem.Heap.Class.len K.Mem.Heap.Class.cap, .slice K.Mem.Lists.Global.a K.Mem.Lists.Global.len K.Mem.Lists.Global.cap, .slice K.Mem.Lists.Own.a K.Mem.Lists.Own.len K.Mem.Lists.Own.cap, .int .i64 y.Clock.Epoch, .slice K.Clock.Pins.a K.Clock.Pins.len K.Clock.Pins.cap, .slice K.Limbo.a K.Limbo.len K.Limbo.cap, .slice K.Haz.a K.Haz.len K.Haz.cap] 65
      simp only [World.size_alloc] at hbx
      exact hbx
    have hB : Below w.heap.size w ((w.alloc (.cells #[.slice H.Mem.Heap.Bytes.a H.Mem.Heap.Bytes.len H.Mem.Heap.Bytes.cap, .slice H.Mem.Heap.Class.a H.Mem.Heap.Class.len H.Mem.Heap.Class.cap, .slice H.Mem.Lists.Global.a H.Mem.Lists.Global.len H.Mem.Lists.Global.cap, .slice H.Mem.Lists.Own.a H.Mem.Lists.Own.len H.Mem.Lists.Own.cap, .int .i64 x.Clock.Epoch, .slice H.Clock.Pins.a H.Clock.Pins.len H.Clock.Pins.cap, .slice H.Limbo.a H.Limbo.len H.Limbo.cap, .slice H.Haz.a H.Haz.len H.Haz.cap] 65)).alloc (.cells #[.slice K.Mem.Heap.Bytes.a K.Mem.Heap.Bytes.len K.Mem.Heap.Bytes.cap, .slice K.Mem.Heap.Class.a K.Mem.Heap.Class.len K.Mem.Heap.Class.cap, .slice K.Mem.Lists.Global.a K.Mem.Lists.Global.len K.Mem.Lists.Global.cap, .slice K.Mem.Lists.Own.a K.Mem.Lists.Own.len K.Mem.Lists.Own.cap, .int .i64 y.Clock.Epoch, .slice K.Clock.Pins.a K.Clock.Pins.len K.Clock.Pins.cap, .slice K.Limbo.a K.Limbo.len K.Limbo.cap, .slice K.Haz.a K.Haz.len K.Haz.cap] 65)) := by repeat (first | exact Below.refl _ _ | refine Below.alloc ?_ (by simp <;> omega) _ | refine below_grow_of ?_ (by simp <;> omega) _ _ | refine Below.drew ?_ | refine below_drewN ?_ _)
    go_enter Try.func52, Try.ntmps52
    go_wp2_with fail
    generalize hW0 : ((w.alloc (.cells #[.slice H.Mem.Heap.Bytes.a H.Mem.Heap.Bytes.len H.Mem.Heap.Bytes.cap, .slice H.Mem.Heap.Class.a H.Mem.Heap.Class.len H.Mem.Heap.Class.cap, .slice H.Mem.Lists.Global.a H.Mem.Lists.Global.len H.Mem.Lists.Global.cap, .slice H.Mem.Lists.Own.a H.Mem.Lists.Own.len H.Mem.Lists.Own.cap, .int .i64 x.Clock.Epoch, .slice H.Clock.Pins.a H.Clock.Pins.len H.Clock.Pins.cap, .slice H.Limbo.a H.Limbo.len H.Limbo.cap, .slice H.Haz.a H.Haz.len H.Haz.cap] 65)).alloc (.cells #[.slice K.Mem.Heap.Bytes.a K.Mem.Heap.Bytes.len K.Mem.Heap.Bytes.cap, .slice K.Mem.Heap.Class.a K.Mem.Heap.Class.len K.Mem.Heap.Class.cap, .slice K.Mem.Lists.Global.a K.Mem.Lists.Global.len K.Mem.Lists.Global.cap, .slice K.Mem.Lists.Own.a K.Mem.Lists.Own.len K.Mem.Lists.Own.cap, .int .i64 y.Clock.Epoch, .slice K.Clock.Pins.a K.Clock.Pins.len K.Clock.Pins.cap, .slice K.Limbo.a K.Limbo.len K.Limbo.cap, .slice K.Haz.a K.Haz.len K.Haz.cap] 65)) = w0 at B_a B_b hB ⊢
    clear hW0
    have zz_a := B_a.lt
    have zz_b := B_b.lt
    have q_a_0 := B_a.cell 0 _ rfl
    have q_a_1 := B_a.cell 1 _ rfl
    have q_a_2 := B_a.cell 2 _ rfl
    have q_a_3 := B_a.cell 3 _ rfl
    have q_a_4 := B_a.cell 4 _ rfl
    have q_a_5 := B_a.cell 5 _ rfl
    have q_a_6 := B_a.cell 6 _ rfl
    have q_a_7 := B_a.cell 7 _ rfl
    have fr_a := B_a.fro
    have z_a := B_a.lt
    have q_b_0 := B_b.cell 0 _ rfl
    have q_b_1 := B_b.cell 1 _ rfl
    have q_b_2 := B_b.cell 2 _ rfl
    have q_b_3 := B_b.cell 3 _ rfl
    have q_b_4 := B_b.cell 4 _ rfl
    have q_b_5 := B_b.cell 5 _ rfl
    have q_b_6 := B_b.cell 6 _ rfl
    have q_b_7 := B_b.cell 7 _ rfl
    have fr_b := B_b.fro
    have z_b := B_b.lt
    refine (k0 _ hB).mono ?_
    rintro e w1 ⟨rfl, hb⟩
    replace B_a := B_a.below hb
    replace B_b := B_b.below hb
    replace hB := hB.trans (hb.mono hB.size)
    have sz := hb.size
    clear hb
    replace q_a_0 := B_a.cell 0 _ rfl
    replace q_a_1 := B_a.cell 1 _ rfl
    replace q_a_2 := B_a.cell 2 _ rfl
    replace q_a_3 := B_a.cell 3 _ rfl
    replace q_a_4 := B_a.cell 4 _ rfl
    replace q_a_5 := B_a.cell 5 _ rfl
    replace q_a_6 := B_a.cell 6 _ rfl
    replace q_a_7 := B_a.cell 7 _ rfl
    replace fr_a := B_a.fro
    replace z_a := B_a.lt
    replace q_b_0 := B_b.cell 0 _ rfl
    replace q_b_1 := B_b.cell 1 _ rfl
    replace q_b_2 := B_b.cell 2 _ rfl
    replace q_b_3 := B_b.cell 3 _ rfl
    replace q_b_4 := B_b.cell 4 _ rfl
    replace q_b_5 := B_b.cell 5 _ rfl
    replace q_b_6 := B_b.cell 6 _ rfl
    replace q_b_7 := B_b.cell 7 _ rfl
    replace fr_b := B_b.fro
    replace z_b := B_b.lt
    clear k0
    go_wp2_with fail
    refine (k1 _ hB).mono ?_
    rintro e w2 ⟨rfl, hb⟩
    replace B_a := B_a.below hb
    replace B_b := B_b.below hb
    replace hB := hB.trans (hb.mono hB.size)
    have sz := hb.size
    clear hb
    replace q_a_0 := B_a.cell 0 _ rfl
    replace q_a_1 := B_a.cell 1 _ rfl
    replace q_a_2 := B_a.cell 2 _ rfl
    replace q_a_3 := B_a.cell 3 _ rfl
    replace q_a_4 := B_a.cell 4 _ rfl
    replace q_a_5 := B_a.cell 5 _ rfl
    replace q_a_6 := B_a.cell 6 _ rfl
    replace q_a_7 := B_a.cell 7 _ rfl
    replace fr_a := B_a.fro
    replace z_a := B_a.lt
    replace q_b_0 := B_b.cell 0 _ rfl
    replace q_b_1 := B_b.cell 1 _ rfl
    replace q_b_2 := B_b.cell 2 _ rfl
    replace q_b_3 := B_b.cell 3 _ rfl
    replace q_b_4 := B_b.cell 4 _ rfl
    replace q_b_5 := B_b.cell 5 _ rfl
    replace q_b_6 := B_b.cell 6 _ rfl
    replace q_b_7 := B_b.cell 7 _ rfl
    replace fr_b := B_b.fro
    replace z_b := B_b.lt
    clear k1
    go_wp2_with fail
    refine (k2 _ hB).mono ?_
    rintro e w3 ⟨rfl, hb⟩
    replace B_a := B_a.below hb
    replace B_b := B_b.below hb
    replace hB := hB.trans (hb.mono hB.size)
    have sz := hb.size
    clear hb
    replace q_a_0 := B_a.cell 0 _ rfl
    replace q_a_1 := B_a.cell 1 _ rfl
    replace q_a_2 := B_a.cell 2 _ rfl
    replace q_a_3 := B_a.cell 3 _ rfl
    replace q_a_4 := B_a.cell 4 _ rfl
    replace q_a_5 := B_a.cell 5 _ rfl
    replace q_a_6 := B_a.cell 6 _ rfl
    replace q_a_7 := B_a.cell 7 _ rfl
    replace fr_a := B_a.fro
    replace z_a := B_a.lt
    replace q_b_0 := B_b.cell 0 _ rfl
    replace q_b_1 := B_b.cell 1 _ rfl
    replace q_b_2 := B_b.cell 2 _ rfl
    replace q_b_3 := B_b.cell 3 _ rfl
    replace q_b_4 := B_b.cell 4 _ rfl
    replace q_b_5 := B_b.cell 5 _ rfl
    replace q_b_6 := B_b.cell 6 _ rfl
    replace q_b_7 := B_b.cell 7 _ rfl
    replace fr_b := B_b.fro
    replace z_b := B_b.lt
    clear k2
    go_wp2_with fail
    go_ret
    exact ⟨ret_bool HV.out.symm, hB⟩
  | true =>
  cases c3 with
  | false =>
    replace HV : Hid (sameBaseB x y = false) := HV.out.trans (by simp)
    have B_a : Box ((w.alloc (.cells #[.slice H.Mem.Heap.Bytes.a H.Mem.Heap.Bytes.len H.Mem.Heap.Bytes.cap, .slice H.Mem.Heap.Class.a H.Mem.Heap.Class.len H.Mem.Heap.Class.cap, .slice H.Mem.Lists.Global.a H.Mem.Lists.Global.len H.Mem.Lists.Global.cap, .slice H.Mem.Lists.Own.a H.Mem.Lists.Own.len H.Mem.Lists.Own.cap, .int .i64 x.Clock.Epoch, .slice H.Clock.Pins.a H.Clock.Pins.len H.Clock.Pins.cap, .slice H.Limbo.a H.Limbo.len H.Limbo.cap, .slice H.Haz.a H.Haz.len H.Haz.cap] 65)).alloc (.cells #[.slice K.Mem.Heap.Bytes.a K.Mem.Heap.Bytes.len K.Mem.Heap.Bytes.cap, .slice K.Mem.Heap.Class.a K.Mem.Heap.Class.len K.Mem.Heap.Class.cap, .slice K.Mem.Lists.Global.a K.Mem.Lists.Global.len K.Mem.Lists.Global.cap, .slice K.Mem.Lists.Own.a K.Mem.Lists.Own.len K.Mem.Lists.Own.cap, .int .i64 y.Clock.Epoch, .slice K.Clock.Pins.a K.Clock.Pins.len K.Clock.Pins.cap, .slice K.Limbo.a K.Limbo.len K.Limbo.cap, .slice K.Haz.a K.Haz.len K.Haz.cap] 65)) (w.heap.size) [.slice H.Mem.Heap.Bytes.a H.Mem.Heap.Bytes.len H.Mem.Heap.Bytes.cap, .slice H.Mem.Heap.Class.a H.Mem.Heap.Class.len H.Mem.Heap.Class.cap, .slice H.Mem.Lists.Global.a H.Mem.Lists.Global.len H.Mem.Lists.Global.cap, .slice H.Mem.Lists.Own.a H.Mem.Lists.Own.len H.Mem.Lists.Own.cap, .int .i64 x.Clock.Epoch, .slice H.Clock.Pins.a H.Clock.Pins.len H.Clock.Pins.cap, .slice H.Limbo.a H.Limbo.len H.Limbo.cap, .slice H.Haz.a H.Haz.len H.Haz.cap] := by
      have hbx := Box.new w #[.slice H.Mem.Heap.Bytes.a H.Mem.Heap.Bytes.len H.Mem.Heap.Bytes.cap, .slice H.Mem.Heap.Class.a H.Mem.Heap.Class.len H.Mem.Heap.Class.cap, .slice H.Mem.Lists.Global.a H.Mem.Lists.Global.len H.Mem.Lists.Global.cap, .slice H.Mem.Lists.Own.a H.Mem.Lists.Own.len H.Mem.Lists.Own.cap, .int .i64 x.Clock.Epoch, .slice H.Clock.Pins.a H.Clock.Pins.len H.Clock.Pins.cap, .slice H.Limbo.a H.Limbo.len H.Limbo.cap, .slice H.Haz.a H.Haz.len H.Haz.cap] 65
      exact (hbx).alloc _
    have B_b : Box ((w.alloc (.cells #[.slice H.Mem.Heap.Bytes.a H.Mem.Heap.Bytes.len H.Mem.Heap.Bytes.cap, .slice H.Mem.Heap.Class.a H.Mem.Heap.Class.len H.Mem.Heap.Class.cap, .slice H.Mem.Lists.Global.a H.Mem.Lists.Global.len H.Mem.Lists.Global.cap, .slice H.Mem.Lists.Own.a H.Mem.Lists.Own.len H.Mem.Lists.Own.cap, .int .i64 x.Clock.Epoch, .slice H.Clock.Pins.a H.Clock.Pins.len H.Clock.Pins.cap, .slice H.Limbo.a H.Limbo.len H.Limbo.cap, .slice H.Haz.a H.Haz.len H.Haz.cap] 65)).alloc (.cells #[.slice K.Mem.Heap.Bytes.a K.Mem.Heap.Bytes.len K.Mem.Heap.Bytes.cap, .slice K.Mem.Heap.Class.a K.Mem.Heap.Class.len K.Mem.Heap.Class.cap, .slice K.Mem.Lists.Global.a K.Mem.Lists.Global.len K.Mem.Lists.Global.cap, .slice K.Mem.Lists.Own.a K.Mem.Lists.Own.len K.Mem.Lists.Own.cap, .int .i64 y.Clock.Epoch, .slice K.Clock.Pins.a K.Clock.Pins.len K.Clock.Pins.cap, .slice K.Limbo.a K.Limbo.len K.Limbo.cap, .slice K.Haz.a K.Haz.len K.Haz.cap] 65)) (w.heap.size + 1) [.slice K.Mem.Heap.Bytes.a K.Mem.Heap.Bytes.len K.Mem.Heap.Bytes.cap, .slice K.Mem.Heap.Class.a K.Mem.Heap.Class.len K.Mem.Heap.Class.cap, .slice K.Mem.Lists.Global.a K.Mem.Lists.Global.len K.Mem.Lists.Global.cap, .slice K.Mem.Lists.Own.a K.Mem.Lists.Own.len K.Mem.Lists.Own.cap, .int .i64 y.Clock.Epoch, .slice K.Clock.Pins.a K.Clock.Pins.len K.Clock.Pins.cap, .slice K.Limbo.a K.Limbo.len K.Limbo.cap, .slice K.Haz.a K.Haz.len K.Haz.cap] := by
      have hbx := Box.new (w.alloc (.cells #[.slice H.Mem.Heap.Bytes.a H.Mem.Heap.Bytes.len H.Mem.Heap.Bytes.cap, .slice H.Mem.Heap.Class.a H.Mem.Heap.Class.len H.Mem.Heap.Class.cap, .slice H.Mem.Lists.Global.a H.Mem.Lists.Global.len H.Mem.Lists.Global.cap, .slice H.Mem.Lists.Own.a H.Mem.Lists.Own.len H.Mem.Lists.Own.cap, .int .i64 x.Clock.Epoch, .slice H.Clock.Pins.a H.Clock.Pins.len H.Clock.Pins.cap, .slice H.Limbo.a H.Limbo.len H.Limbo.cap, .slice H.Haz.a H.Haz.len H.Haz.cap] 65)) #[.slice K.Mem.Heap.Bytes.a K.Mem.Heap.Bytes.len K.Mem.Heap.Bytes.cap, .slice K.Mem.Heap.Class.a K.Mem.Heap.Class.len K.Mem.Heap.Class.cap, .slice K.Mem.Lists.Global.a K.Mem.Lists.Global.len K.Mem.Lists.Global.cap, .slice K.Mem.Lists.Own.a K.Mem.Lists.Own.len K.Mem.Lists.Own.cap, .int .i64 y.Clock.Epoch, .slice K.Clock.Pins.a K.Clock.Pins.len K.Clock.Pins.cap, .slice K.Limbo.a K.Limbo.len K.Limbo.cap, .slice K.Haz.a K.Haz.len K.Haz.cap] 65
      simp only [World.size_alloc] at hbx
      exact hbx
    have hB : Below w.heap.size w ((w.alloc (.cells #[.slice H.Mem.Heap.Bytes.a H.Mem.Heap.Bytes.len H.Mem.Heap.Bytes.cap, .slice H.Mem.Heap.Class.a H.Mem.Heap.Class.len H.Mem.Heap.Class.cap, .slice H.Mem.Lists.Global.a H.Mem.Lists.Global.len H.Mem.Lists.Global.cap, .slice H.Mem.Lists.Own.a H.Mem.Lists.Own.len H.Mem.Lists.Own.cap, .int .i64 x.Clock.Epoch, .slice H.Clock.Pins.a H.Clock.Pins.len H.Clock.Pins.cap, .slice H.Limbo.a H.Limbo.len H.Limbo.cap, .slice H.Haz.a H.Haz.len H.Haz.cap] 65)).alloc (.cells #[.slice K.Mem.Heap.Bytes.a K.Mem.Heap.Bytes.len K.Mem.Heap.Bytes.cap, .slice K.Mem.Heap.Class.a K.Mem.Heap.Class.len K.Mem.Heap.Class.cap, .slice K.Mem.Lists.Global.a K.Mem.Lists.Global.len K.Mem.Lists.Global.cap, .slice K.Mem.Lists.Own.a K.Mem.Lists.Own.len K.Mem.Lists.Own.cap, .int .i64 y.Clock.Epoch, .slice K.Clock.Pins.a K.Clock.Pins.len K.Clock.Pins.cap, .slice K.Limbo.a K.Limbo.len K.Limbo.cap, .slice K.Haz.a K.Haz.len K.Haz.cap] 65)) := by repeat (first | exact Below.refl _ _ | refine Below.alloc ?_ (by simp <;> omega) _ | refine below_grow_of ?_ (by simp <;> omega) _ _ | refine Below.drew ?_ | refine below_drewN ?_ _)
    go_enter Try.func52, Try.ntmps52
    go_wp2_with fail
    generalize hW0 : ((w.alloc (.cells #[.slice H.Mem.Heap.Bytes.a H.Mem.Heap.Bytes.len H.Mem.Heap.Bytes.cap, .slice H.Mem.Heap.Class.a H.Mem.Heap.Class.len H.Mem.Heap.Class.cap, .slice H.Mem.Lists.Global.a H.Mem.Lists.Global.len H.Mem.Lists.Global.cap, .slice H.Mem.Lists.Own.a H.Mem.Lists.Own.len H.Mem.Lists.Own.cap, .int .i64 x.Clock.Epoch, .slice H.Clock.Pins.a H.Clock.Pins.len H.Clock.Pins.cap, .slice H.Limbo.a H.Limbo.len H.Limbo.cap, .slice H.Haz.a H.Haz.len H.Haz.cap] 65)).alloc (.cells #[.slice K.Mem.Heap.Bytes.a K.Mem.Heap.Bytes.len K.Mem.Heap.Bytes.cap, .slice K.Mem.Heap.Class.a K.Mem.Heap.Class.len K.Mem.Heap.Class.cap, .slice K.Mem.Lists.Global.a K.Mem.Lists.Global.len K.Mem.Lists.Global.cap, .slice K.Mem.Lists.Own.a K.Mem.Lists.Own.len K.Mem.Lists.Own.cap, .int .i64 y.Clock.Epoch, .slice K.Clock.Pins.a K.Clock.Pins.len K.Clock.Pins.cap, .slice K.Limbo.a K.Limbo.len K.Limbo.cap, .slice K.Haz.a K.Haz.len K.Haz.cap] 65)) = w0 at B_a B_b hB ⊢
    clear hW0
    have zz_a := B_a.lt
    have zz_b := B_b.lt
    have q_a_0 := B_a.cell 0 _ rfl
    have q_a_1 := B_a.cell 1 _ rfl
    have q_a_2 := B_a.cell 2 _ rfl
    have q_a_3 := B_a.cell 3 _ rfl
    have q_a_4 := B_a.cell 4 _ rfl
    have q_a_5 := B_a.cell 5 _ rfl
    have q_a_6 := B_a.cell 6 _ rfl
    have q_a_7 := B_a.cell 7 _ rfl
    have fr_a := B_a.fro
    have z_a := B_a.lt
    have q_b_0 := B_b.cell 0 _ rfl
    have q_b_1 := B_b.cell 1 _ rfl
    have q_b_2 := B_b.cell 2 _ rfl
    have q_b_3 := B_b.cell 3 _ rfl
    have q_b_4 := B_b.cell 4 _ rfl
    have q_b_5 := B_b.cell 5 _ rfl
    have q_b_6 := B_b.cell 6 _ rfl
    have q_b_7 := B_b.cell 7 _ rfl
    have fr_b := B_b.fro
    have z_b := B_b.lt
    refine (k0 _ hB).mono ?_
    rintro e w1 ⟨rfl, hb⟩
    replace B_a := B_a.below hb
    replace B_b := B_b.below hb
    replace hB := hB.trans (hb.mono hB.size)
    have sz := hb.size
    clear hb
    replace q_a_0 := B_a.cell 0 _ rfl
    replace q_a_1 := B_a.cell 1 _ rfl
    replace q_a_2 := B_a.cell 2 _ rfl
    replace q_a_3 := B_a.cell 3 _ rfl
    replace q_a_4 := B_a.cell 4 _ rfl
    replace q_a_5 := B_a.cell 5 _ rfl
    replace q_a_6 := B_a.cell 6 _ rfl
    replace q_a_7 := B_a.cell 7 _ rfl
    replace fr_a := B_a.fro
    replace z_a := B_a.lt
    replace q_b_0 := B_b.cell 0 _ rfl
    replace q_b_1 := B_b.cell 1 _ rfl
    replace q_b_2 := B_b.cell 2 _ rfl
    replace q_b_3 := B_b.cell 3 _ rfl
    replace q_b_4 := B_b.cell 4 _ rfl
    replace q_b_5 := B_b.cell 5 _ rfl
    replace q_b_6 := B_b.cell 6 _ rfl
    replace q_b_7 := B_b.cell 7 _ rfl
    replace fr_b := B_b.fro
    replace z_b := B_b.lt
    clear k0
    go_wp2_with fail
    refine (k1 _ hB).mono ?_
    rintro e w2 ⟨rfl, hb⟩
    replace B_a := B_a.below hb
    replace B_b := B_b.below hb
    replace hB := hB.trans (hb.mono hB.size)
    have sz := hb.size
    clear hb
    replace q_a_0 := B_a.cell 0 _ rfl
    replace q_a_1 := B_a.cell 1 _ rfl
    replace q_a_2 := B_a.cell 2 _ rfl
    replace q_a_3 := B_a.cell 3 _ rfl
    replace q_a_4 := B_a.cell 4 _ rfl
    replace q_a_5 := B_a.cell 5 _ rfl
    replace q_a_6 := B_a.cell 6 _ rfl
    replace q_a_7 := B_a.cell 7 _ rfl
    replace fr_a := B_a.fro
    replace z_a := B_a.lt
    replace q_b_0 := B_b.cell 0 _ rfl
    replace q_b_1 := B_b.cell 1 _ rfl
    replace q_b_2 := B_b.cell 2 _ rfl
    replace q_b_3 := B_b.cell 3 _ rfl
    replace q_b_4 := B_b.cell 4 _ rfl
    replace q_b_5 := B_b.cell 5 _ rfl
    replace q_b_6 := B_b.cell 6 _ rfl
    replace q_b_7 := B_b.cell 7 _ rfl
    replace fr_b := B_b.fro
    replace z_b := B_b.lt
    clear k1
    go_wp2_with fail
    refine (k2 _ hB).mono ?_
    rintro e w3 ⟨rfl, hb⟩
    replace B_a := B_a.below hb
    replace B_b := B_b.below hb
    replace hB := hB.trans (hb.mono hB.size)
    have sz := hb.size
    clear hb
    replace q_a_0 := B_a.cell 0 _ rfl
    replace q_a_1 := B_a.cell 1 _ rfl
    replace q_a_2 := B_a.cell 2 _ rfl
    replace q_a_3 := B_a.cell 3 _ rfl
    replace q_a_4 := B_a.cell 4 _ rfl
    replace q_a_5 := B_a.cell 5 _ rfl
    replace q_a_6 := B_a.cell 6 _ rfl
    replace q_a_7 := B_a.cell 7 _ rfl
    replace fr_a := B_a.fro
    replace z_a := B_a.lt
    replace q_b_0 := B_b.cell 0 _ rfl
    replace q_b_1 := B_b.cell 1 _ rfl
    replace q_b_2 := B_b.cell 2 _ rfl
    replace q_b_3 := B_b.cell 3 _ rfl
    replace q_b_4 := B_b.cell 4 _ rfl
    replace q_b_5 := B_b.cell 5 _ rfl
    replace q_b_6 := B_b.cell 6 _ rfl
    replace q_b_7 := B_b.cell 7 _ rfl
    replace fr_b := B_b.fro
    replace z_b := B_b.lt
    clear k2
    go_wp2_with fail
    refine (k3 _ hB).mono ?_
    rintro e w4 ⟨rfl, hb⟩
    replace B_a := B_a.below hb
    replace B_b := B_b.below hb
    replace hB := hB.trans (hb.mono hB.size)
    have sz := hb.size
    clear hb
    replace q_a_0 := B_a.cell 0 _ rfl
    replace q_a_1 := B_a.cell 1 _ rfl
    replace q_a_2 := B_a.cell 2 _ rfl
    replace q_a_3 := B_a.cell 3 _ rfl
    replace q_a_4 := B_a.cell 4 _ rfl
    replace q_a_5 := B_a.cell 5 _ rfl
    replace q_a_6 := B_a.cell 6 _ rfl
    replace q_a_7 := B_a.cell 7 _ rfl
    replace fr_a := B_a.fro
    replace z_a := B_a.lt
    replace q_b_0 := B_b.cell 0 _ rfl
    replace q_b_1 := B_b.cell 1 _ rfl
    replace q_b_2 := B_b.cell 2 _ rfl
    replace q_b_3 := B_b.cell 3 _ rfl
    replace q_b_4 := B_b.cell 4 _ rfl
    replace q_b_5 := B_b.cell 5 _ rfl
    replace q_b_6 := B_b.cell 6 _ rfl
    replace q_b_7 := B_b.cell 7 _ rfl
    replace fr_b := B_b.fro
    replace z_b := B_b.lt
    clear k3
    go_wp2_with fail
    go_ret
    exact ⟨ret_bool HV.out.symm, hB⟩
  | true =>
  replace HV : Hid (sameBaseB x y = true) := HV.out.trans (by simp)
  have B_a : Box ((w.alloc (.cells #[.slice H.Mem.Heap.Bytes.a H.Mem.Heap.Bytes.len H.Mem.Heap.Bytes.cap, .slice H.Mem.Heap.Class.a H.Mem.Heap.Class.len H.Mem.Heap.Class.cap, .slice H.Mem.Lists.Global.a H.Mem.Lists.Global.len H.Mem.Lists.Global.cap, .slice H.Mem.Lists.Own.a H.Mem.Lists.Own.len H.Mem.Lists.Own.cap, .int .i64 x.Clock.Epoch, .slice H.Clock.Pins.a H.Clock.Pins.len H.Clock.Pins.cap, .slice H.Limbo.a H.Limbo.len H.Limbo.cap, .slice H.Haz.a H.Haz.len H.Haz.cap] 65)).alloc (.cells #[.slice K.Mem.Heap.Bytes.a K.Mem.Heap.Bytes.len K.Mem.Heap.Bytes.cap, .slice K.Mem.Heap.Class.a K.Mem.Heap.Class.len K.Mem.Heap.Class.cap, .slice K.Mem.Lists.Global.a K.Mem.Lists.Global.len K.Mem.Lists.Global.cap, .slice K.Mem.Lists.Own.a K.Mem.Lists.Own.len K.Mem.Lists.Own.cap, .int .i64 y.Clock.Epoch, .slice K.Clock.Pins.a K.Clock.Pins.len K.Clock.Pins.cap, .slice K.Limbo.a K.Limbo.len K.Limbo.cap, .slice K.Haz.a K.Haz.len K.Haz.cap] 65)) (w.heap.size) [.slice H.Mem.Heap.Bytes.a H.Mem.Heap.Bytes.len H.Mem.Heap.Bytes.cap, .slice H.Mem.Heap.Class.a H.Mem.Heap.Class.len H.Mem.Heap.Class.cap, .slice H.Mem.Lists.Global.a H.Mem.Lists.Global.len H.Mem.Lists.Global.cap, .slice H.Mem.Lists.Own.a H.Mem.Lists.Own.len H.Mem.Lists.Own.cap, .int .i64 x.Clock.Epoch, .slice H.Clock.Pins.a H.Clock.Pins.len H.Clock.Pins.cap, .slice H.Limbo.a H.Limbo.len H.Limbo.cap, .slice H.Haz.a H.Haz.len H.Haz.cap] := by
    have hbx := Box.new w #[.slice H.Mem.Heap.Bytes.a H.Mem.Heap.Bytes.len H.Mem.Heap.Bytes.cap, .slice H.Mem.Heap.Class.a H.Mem.Heap.Class.len H.Mem.Heap.Class.cap, .slice H.Mem.Lists.Global.a H.Mem.Lists.Global.len H.Mem.Lists.Global.cap, .slice H.Mem.Lists.Own.a H.Mem.Lists.Own.len H.Mem.Lists.Own.cap, .int .i64 x.Clock.Epoch, .slice H.Clock.Pins.a H.Clock.Pins.len H.Clock.Pins.cap, .slice H.Limbo.a H.Limbo.len H.Limbo.cap, .slice H.Haz.a H.Haz.len H.Haz.cap] 65
    exact (hbx).alloc _
  have B_b : Box ((w.alloc (.cells #[.slice H.Mem.Heap.Bytes.a H.Mem.Heap.Bytes.len H.Mem.Heap.Bytes.cap, .slice H.Mem.Heap.Class.a H.Mem.Heap.Class.len H.Mem.Heap.Class.cap, .slice H.Mem.Lists.Global.a H.Mem.Lists.Global.len H.Mem.Lists.Global.cap, .slice H.Mem.Lists.Own.a H.Mem.Lists.Own.len H.Mem.Lists.Own.cap, .int .i64 x.Clock.Epoch, .slice H.Clock.Pins.a H.Clock.Pins.len H.Clock.Pins.cap, .slice H.Limbo.a H.Limbo.len H.Limbo.cap, .slice H.Haz.a H.Haz.len H.Haz.cap] 65)).alloc (.cells #[.slice K.Mem.Heap.Bytes.a K.Mem.Heap.Bytes.len K.Mem.Heap.Bytes.cap, .slice K.Mem.Heap.Class.a K.Mem.Heap.Class.len K.Mem.Heap.Class.cap, .slice K.Mem.Lists.Global.a K.Mem.Lists.Global.len K.Mem.Lists.Global.cap, .slice K.Mem.Lists.Own.a K.Mem.Lists.Own.len K.Mem.Lists.Own.cap, .int .i64 y.Clock.Epoch, .slice K.Clock.Pins.a K.Clock.Pins.len K.Clock.Pins.cap, .slice K.Limbo.a K.Limbo.len K.Limbo.cap, .slice K.Haz.a K.Haz.len K.Haz.cap] 65)) (w.heap.size + 1) [.slice K.Mem.Heap.Bytes.a K.Mem.Heap.Bytes.len K.Mem.Heap.Bytes.cap, .slice K.Mem.Heap.Class.a K.Mem.Heap.Class.len K.Mem.Heap.Class.cap, .slice K.Mem.Lists.Global.a K.Mem.Lists.Global.len K.Mem.Lists.Global.cap, .slice K.Mem.Lists.Own.a K.Mem.Lists.Own.len K.Mem.Lists.Own.cap, .int .i64 y.Clock.Epoch, .slice K.Clock.Pins.a K.Clock.Pins.len K.Clock.Pins.cap, .slice K.Limbo.a K.Limbo.len K.Limbo.cap, .slice K.Haz.a K.Haz.len K.Haz.cap] := by
    have hbx := Box.new (w.alloc (.cells #[.slice H.Mem.Heap.Bytes.a H.Mem.Heap.Bytes.len H.Mem.Heap.Bytes.cap, .slice H.Mem.Heap.Class.a H.Mem.Heap.Class.len H.Mem.Heap.Class.cap, .slice H.Mem.Lists.Global.a H.Mem.Lists.Global.len H.Mem.Lists.Global.cap, .slice H.Mem.Lists.Own.a H.Mem.Lists.Own.len H.Mem.Lists.Own.cap, .int .i64 x.Clock.Epoch, .slice H.Clock.Pins.a H.Clock.Pins.len H.Clock.Pins.cap, .slice H.Limbo.a H.Limbo.len H.Limbo.cap, .slice H.Haz.a H.Haz.len H.Haz.cap] 65)) #[.slice K.Mem.Heap.Bytes.a K.Mem.Heap.Bytes.len K.Mem.Heap.Bytes.cap, .slice K.Mem.Heap.Class.a K.Mem.Heap.Class.len K.Mem.Heap.Class.cap, .slice K.Mem.Lists.Global.a K.Mem.Lists.Global.len K.Mem.Lists.Global.cap, .slice K.Mem.Lists.Own.a K.Mem.Lists.Own.len K.Mem.Lists.Own.cap, .int .i64 y.Clock.Epoch, .slice K.Clock.Pins.a K.Clock.Pins.len K.Clock.Pins.cap, .slice K.Limbo.a K.Limbo.len K.Limbo.cap, .slice K.Haz.a K.Haz.len K.Haz.cap] 65
    simp only [World.size_alloc] at hbx
    exact hbx
  have hB : Below w.heap.size w ((w.alloc (.cells #[.slice H.Mem.Heap.Bytes.a H.Mem.Heap.Bytes.len H.Mem.Heap.Bytes.cap, .slice H.Mem.Heap.Class.a H.Mem.Heap.Class.len H.Mem.Heap.Class.cap, .slice H.Mem.Lists.Global.a H.Mem.Lists.Global.len H.Mem.Lists.Global.cap, .slice H.Mem.Lists.Own.a H.Mem.Lists.Own.len H.Mem.Lists.Own.cap, .int .i64 x.Clock.Epoch, .slice H.Clock.Pins.a H.Clock.Pins.len H.Clock.Pins.cap, .slice H.Limbo.a H.Limbo.len H.Limbo.cap, .slice H.Haz.a H.Haz.len H.Haz.cap] 65)).alloc (.cells #[.slice K.Mem.Heap.Bytes.a K.Mem.Heap.Bytes.len K.Mem.Heap.Bytes.cap, .slice K.Mem.Heap.Class.a K.Mem.Heap.Class.len K.Mem.Heap.Class.cap, .slice K.Mem.Lists.Global.a K.Mem.Lists.Global.len K.Mem.Lists.Global.cap, .slice K.Mem.Lists.Own.a K.Mem.Lists.Own.len K.Mem.Lists.Own.cap, .int .i64 y.Clock.Epoch, .slice K.Clock.Pins.a K.Clock.Pins.len K.Clock.Pins.cap, .slice K.Limbo.a K.Limbo.len K.Limbo.cap, .slice K.Haz.a K.Haz.len K.Haz.cap] 65)) := by repeat (first | exact Below.refl _ _ | refine Below.alloc ?_ (by simp <;> omega) _ | refine below_grow_of ?_ (by simp <;> omega) _ _ | refine Below.drew ?_ | refine below_drewN ?_ _)
  go_enter Try.func52, Try.ntmps52
  go_wp2_with fail
  generalize hW0 : ((w.alloc (.cells #[.slice H.Mem.Heap.Bytes.a H.Mem.Heap.Bytes.len H.Mem.Heap.Bytes.cap, .slice H.Mem.Heap.Class.a H.Mem.Heap.Class.len H.Mem.Heap.Class.cap, .slice H.Mem.Lists.Global.a H.Mem.Lists.Global.len H.Mem.Lists.Global.cap, .slice H.Mem.Lists.Own.a H.Mem.Lists.Own.len H.Mem.Lists.Own.cap, .int .i64 x.Clock.Epoch, .slice H.Clock.Pins.a H.Clock.Pins.len H.Clock.Pins.cap, .slice H.Limbo.a H.Limbo.len H.Limbo.cap, .slice H.Haz.a H.Haz.len H.Haz.cap] 65)).alloc (.cells #[.slice K.Mem.Heap.Bytes.a K.Mem.Heap.Bytes.len K.Mem.Heap.Bytes.cap, .slice K.Mem.Heap.Class.a K.Mem.Heap.Class.len K.Mem.Heap.Class.cap, .slice K.Mem.Lists.Global.a K.Mem.Lists.Global.len K.Mem.Lists.Global.cap, .slice K.Mem.Lists.Own.a K.Mem.Lists.Own.len K.Mem.Lists.Own.cap, .int .i64 y.Clock.Epoch, .slice K.Clock.Pins.a K.Clock.Pins.len K.Clock.Pins.cap, .slice K.Limbo.a K.Limbo.len K.Limbo.cap, .slice K.Haz.a K.Haz.len K.Haz.cap] 65)) = w0 at B_a B_b hB ⊢
  clear hW0
  have zz_a := B_a.lt
  have zz_b := B_b.lt
  have q_a_0 := B_a.cell 0 _ rfl
  have q_a_1 := B_a.cell 1 _ rfl
  have q_a_2 := B_a.cell 2 _ rfl
  have q_a_3 := B_a.cell 3 _ rfl
  have q_a_4 := B_a.cell 4 _ rfl
  have q_a_5 := B_a.cell 5 _ rfl
  have q_a_6 := B_a.cell 6 _ rfl
  have q_a_7 := B_a.cell 7 _ rfl
  have fr_a := B_a.fro
  have z_a := B_a.lt
  have q_b_0 := B_b.cell 0 _ rfl
  have q_b_1 := B_b.cell 1 _ rfl
  have q_b_2 := B_b.cell 2 _ rfl
  have q_b_3 := B_b.cell 3 _ rfl
  have q_b_4 := B_b.cell 4 _ rfl
  have q_b_5 := B_b.cell 5 _ rfl
  have q_b_6 := B_b.cell 6 _ rfl
  have q_b_7 := B_b.cell 7 _ rfl
  have fr_b := B_b.fro
  have z_b := B_b.lt
  refine (k0 _ hB).mono ?_
  rintro e w1 ⟨rfl, hb⟩
  replace B_a := B_a.below hb
  replace B_b := B_b.below hb
  replace hB := hB.trans (hb.mono hB.size)
  have sz := hb.size
  clear hb
  replace q_a_0 := B_a.cell 0 _ rfl
  replace q_a_1 := B_a.cell 1 _ rfl
  replace q_a_2 := B_a.cell 2 _ rfl
  replace q_a_3 := B_a.cell 3 _ rfl
  replace q_a_4 := B_a.cell 4 _ rfl
  replace q_a_5 := B_a.cell 5 _ rfl
  replace q_a_6 := B_a.cell 6 _ rfl
  replace q_a_7 := B_a.cell 7 _ rfl
  replace fr_a := B_a.fro
  replace z_a := B_a.lt
  replace q_b_0 := B_b.cell 0 _ rfl
  replace q_b_1 := B_b.cell 1 _ rfl
  replace q_b_2 := B_b.cell 2 _ rfl
  replace q_b_3 := B_b.cell 3 _ rfl
  replace q_b_4 := B_b.cell 4 _ rfl
  replace q_b_5 := B_b.cell 5 _ rfl
  replace q_b_6 := B_b.cell 6 _ rfl
  replace q_b_7 := B_b.cell 7 _ rfl
  replace fr_b := B_b.fro
  replace z_b := B_b.lt
  clear k0
  go_wp2_with fail
  refine (k1 _ hB).mono ?_
  rintro e w2 ⟨rfl, hb⟩
  replace B_a := B_a.below hb
  replace B_b := B_b.below hb
  replace hB := hB.trans (hb.mono hB.size)
  have sz := hb.size
  clear hb
  replace q_a_0 := B_a.cell 0 _ rfl
  replace q_a_1 := B_a.cell 1 _ rfl
  replace q_a_2 := B_a.cell 2 _ rfl
  replace q_a_3 := B_a.cell 3 _ rfl
  replace q_a_4 := B_a.cell 4 _ rfl
  replace q_a_5 := B_a.cell 5 _ rfl
  replace q_a_6 := B_a.cell 6 _ rfl
  replace q_a_7 := B_a.cell 7 _ rfl
  replace fr_a := B_a.fro
  replace z_a := B_a.lt
  replace q_b_0 := B_b.cell 0 _ rfl
  replace q_b_1 := B_b.cell 1 _ rfl
  replace q_b_2 := B_b.cell 2 _ rfl
  replace q_b_3 := B_b.cell 3 _ rfl
  replace q_b_4 := B_b.cell 4 _ rfl
  replace q_b_5 := B_b.cell 5 _ rfl
  replace q_b_6 := B_b.cell 6 _ rfl
  replace q_b_7 := B_b.cell 7 _ rfl
  replace fr_b := B_b.fro
  replace z_b := B_b.lt
  clear k1
  go_wp2_with fail
  refine (k2 _ hB).mono ?_
  rintro e w3 ⟨rfl, hb⟩
  replace B_a := B_a.below hb
  replace B_b := B_b.below hb
  replace hB := hB.trans (hb.mono hB.size)
  have sz := hb.size
  clear hb
  replace q_a_0 := B_a.cell 0 _ rfl
  replace q_a_1 := B_a.cell 1 _ rfl
  replace q_a_2 := B_a.cell 2 _ rfl
  replace q_a_3 := B_a.cell 3 _ rfl
  replace q_a_4 := B_a.cell 4 _ rfl
  replace q_a_5 := B_a.cell 5 _ rfl
  replace q_a_6 := B_a.cell 6 _ rfl
  replace q_a_7 := B_a.cell 7 _ rfl
  replace fr_a := B_a.fro
  replace z_a := B_a.lt
  replace q_b_0 := B_b.cell 0 _ rfl
  replace q_b_1 := B_b.cell 1 _ rfl
  replace q_b_2 := B_b.cell 2 _ rfl
  replace q_b_3 := B_b.cell 3 _ rfl
  replace q_b_4 := B_b.cell 4 _ rfl
  replace q_b_5 := B_b.cell 5 _ rfl
  replace q_b_6 := B_b.cell 6 _ rfl
  replace q_b_7 := B_b.cell 7 _ rfl
  replace fr_b := B_b.fro
  replace z_b := B_b.lt
  clear k2
  go_wp2_with fail
  refine (k3 _ hB).mono ?_
  rintro e w4 ⟨rfl, hb⟩
  replace B_a := B_a.below hb
  replace B_b := B_b.below hb
  replace hB := hB.trans (hb.mono hB.size)
  have sz := hb.size
  clear hb
  replace q_a_0 := B_a.cell 0 _ rfl
  replace q_a_1 := B_a.cell 1 _ rfl
  replace q_a_2 := B_a.cell 2 _ rfl
  replace q_a_3 := B_a.cell 3 _ rfl
  replace q_a_4 := B_a.cell 4 _ rfl
  replace q_a_5 := B_a.cell 5 _ rfl
  replace q_a_6 := B_a.cell 6 _ rfl
  replace q_a_7 := B_a.cell 7 _ rfl
  replace fr_a := B_a.fro
  replace z_a := B_a.lt
  replace q_b_0 := B_b.cell 0 _ rfl
  replace q_b_1 := B_b.cell 1 _ rfl
  replace q_b_2 := B_b.cell 2 _ rfl
  replace q_b_3 := B_b.cell 3 _ rfl
  replace q_b_4 := B_b.cell 4 _ rfl
  replace q_b_5 := B_b.cell 5 _ rfl
  replace q_b_6 := B_b.cell 6 _ rfl
  replace q_b_7 := B_b.cell 7 _ rfl
  replace fr_b := B_b.fro
  replace z_b := B_b.lt
  clear k3
  go_wp2_with fail
  go_ret
  exact ⟨ret_bool HV.out.symm, hB⟩
end Go.Proofs.Ytdepckmjgpkjmaa
