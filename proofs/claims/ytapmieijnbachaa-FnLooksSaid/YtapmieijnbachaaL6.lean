/-
  Clocks behind, new, the same: the contracts.
-/
import Derived.Test.YtapmieijnbachaaT
import Derived.Test.YtapmieijnbachaaL
import Derived.Deep.QuietTactic
import Derived.BigQuiet
import Derived.Deep.LoopGhost
import Derived.Deep.RegionHeld3
import Derived.Test.YtapmieijnbachaaN
import Derived.Test.YtapmieijnbachaaA
import Derived.WalkSpells
import Derived.Laws.Cover3
import Derived.Test.YtapmieijnbachaaL0
namespace Go.Proofs.Ytapmieijnbachaa
open Go.RowKit

theorem Try.stInt : ST Try.prog FI 49 3 := ⟨Try.underlying49, .int .i64 0, 8, by kernel_rfl, rfl, by decide⟩

def behB (x : Clock) (p : Pin) : Bool := p.On && !p.Marked && decide (p.Epoch < x.Epoch)
def behTo (x : Clock) (k : Nat) : List Int := ((List.range k).filter fun j => behB x (x.Pins.getD j pin0)).map fun (j : Nat) => (j : Int)
def behL (x : Clock) : List Int := if clockOkB x = true then behTo x 3 else []
theorem behTo_len (x : Clock) (k : Nat) : (behTo x k).length ≤ k := by
  unfold behTo
  rw [List.length_map]
  exact Nat.le_trans (List.length_filter_le _ _) (by simp)
theorem behTo_yes (x : Clock) (k : Nat) (h : behB x (x.Pins.getD k pin0) = true) : behTo x (k + 1) = behTo x k ++ [(k : Int)] := by
  have h' : behB x (x.Pins[k]?.getD pin0) = true := h
  simp only [behTo, List.range_succ, List.filter_append, List.map_append]
  simp [h']
theorem behTo_no (x : Clock) (k : Nat) (h : behB x (x.Pins.getD k pin0) = false) : behTo x (k + 1) = behTo x k := by
  have h' : behB x (x.Pins[k]?.getD pin0) = false := h
  simp only [behTo, List.range_succ, List.filter_append, List.map_append]
  simp [h']

set_option maxRecDepth 100000 in
set_option maxHeartbeats 1000000 in
theorem Behind_impl (w : World) (H : HClock) (x : Clock) (h : RdClock w w.heap.size H x) :
    Calls Try.prog 24 #[.agg #[.int .i64 x.Epoch, .slice H.Pins.a H.Pins.len H.Pins.cap]] w fun e w' => ∃ v', e = .returned v' ∧ OwL FI 3 w' v' (behL x) ∧ (∀ g ∈ foot1 v', w.heap.size ≤ g) ∧ Below w.heap.size w w' := by
  obtain ⟨⟨A, n, c⟩⟩ := H
  obtain ⟨ep, l⟩ := x
  have hr : RdL FPin w w.heap.size (.slice A n c) l := h.Pins
  obtain ⟨_, _, hv, q1, q2, qx⟩ := id hr
  simp only [Value.slice.injEq] at hv
  obtain ⟨rfl, rfl, rfl⟩ := hv
  have hlt0 : l.length ≤ 9223372036854775807 := by unfold maxLen at q2; omega
  clear q1 q2 qx h
  show Calls Try.prog 24 #[.agg #[.int .i64 ep, .slice A l.length c]] _ _
  have o00 : OwL FI 3 ((w.alloc (.cells #[.int .i64 ep, .slice A l.length c] 38)).alloc (.cells #[] 3)) (.slice (some ⟨w.heap.size + 1, 0, none⟩) 0 0) [] := (by simpa using OwL.lit FI [] #[] rfl (by decide) (w.alloc (.cells #[.int .i64 ep, .slice A l.length c] 38)) 3)
  have hB0 : Below w.heap.size w ((w.alloc (.cells #[.int .i64 ep, .slice A l.length c] 38)).alloc (.cells #[] 3)) := by repeat (first | exact Below.refl _ _ | refine Below.alloc ?_ (by simp <;> omega) _ | refine below_grow_of ?_ (by simp <;> omega) _ _ | refine Below.drew ?_)
  by_cases c1 : clockOkB ⟨ep, l⟩ = true
  case neg =>
    have c1' : clockOkB ⟨ep, l⟩ = false := (Bool.not_eq_true _).mp c1
    have HN := Hid.mk_ (show behL ⟨ep, l⟩ = [] from if_neg c1)
    clear c1
    go_enter Try.func24, Try.ntmps24
    go_wp2_with fail
    refine (ClockOk_impl _ ⟨⟨A, l.length, c⟩⟩ ⟨ep, l⟩ ⟨rd_up hr hB0⟩).mono ?_
    rw [c1']
    rintro e w2 ⟨rfl, hb2⟩
    have p0 : w2.cell? ⟨w.heap.size, 0, none⟩ = some (.int .i64 ep) := cell_up hb2 (by simp <;> omega) (by simp [go_sem])
    have p1 : w2.cell? ⟨w.heap.size, 1, none⟩ = some (.slice A l.length c) := cell_up hb2 (by simp <;> omega) (by simp [go_sem])
    have hB2 : Below w.heap.size w w2 := hB0.trans (hb2.mono (by simp; omega))
    have ho0 := o00.keep (fun g hg => hb2.block g (foot_lt o00 g (mem_foot1.2 hg)))
    have hz2 : w.heap.size < w2.heap.size := by have := hb2.size; simp at this; omega
    clear hb2
    go_wp2_with fail
    go_ret
    exact ⟨_, rfl, by rw [HN.out]; exact ho0, by simp [foot1, Value.ownBlock], hB2⟩
  have HN := Hid.mk_ (show behL ⟨ep, l⟩ = behTo ⟨ep, l⟩ 3 from if_pos c1)
  have H3 := Hid.mk_ (clockOk_len c1)
  simp only at H3
  go_enter Try.func24, Try.ntmps24
  go_wp2_with fail
  refine (ClockOk_impl _ ⟨⟨A, l.length, c⟩⟩ ⟨ep, l⟩ ⟨rd_up hr hB0⟩).mono ?_
  rw [c1]
  rintro e w2 ⟨rfl, hb2⟩
  have p0 : w2.cell? ⟨w.heap.size, 0, none⟩ = some (.int .i64 ep) := cell_up hb2 (by simp <;> omega) (by simp [go_sem])
  have p1 : w2.cell? ⟨w.heap.size, 1, none⟩ = some (.slice A l.length c) := cell_up hb2 (by simp <;> omega) (by simp [go_sem])
  have hB2 : Below w.heap.size w w2 := hB0.trans (hb2.mono (by simp; omega))
  have ho0 := o00.keep (fun g hg => hb2.block g (foot_lt o00 g (mem_foot1.2 hg)))
  have hz2 : w.heap.size < w2.heap.size := by have := hb2.size; simp at this; omega
  clear hb2
  clear o00 hB0
  go_wp2_with fail
  go_loopw [3, 4, 5, 14] (fun o _ _ i wr => ∃ k : Nat, k ≤ l.length ∧ i = .int .i64 k ∧ OwL FI 3 wr o (behTo ⟨ep, l⟩ k) ∧ (∀ g ∈ foot1 o, w.heap.size + 1 ≤ g) ∧ Below w.heap.size w wr ∧ wr.cell? ⟨w.heap.size, 0, none⟩ = some (.int .i64 ep) ∧ w.heap.size < wr.heap.size) (fun _ _ _ i _ => l.length - (intOf i).toNat)
  case atStart => exact ⟨0, Nat.zero_le _, rfl, ho0, by simp [foot1, Value.ownBlock], hB2, p0, hz2⟩
  case round =>
    obtain ⟨i, hi, rfl, ho, hfo, hb, pc0, hz⟩ := hrel
    clear ho0 hB2 p0 p1 hz2
    by_cases hlt : i < l.length
    · obtain ⟨g, off, cap', he, hg, _, _, hc⟩ := (hr.below hb).at_ (List.getElem?_eq_getElem hlt)
      injection he with he1 he2 he3
      clear he2
      subst he1 he3
      have p0 : wr.cell? ⟨g, off + i * 4, none⟩ = some (.bool l[i].On) := hc 0 _ rfl
      have p1 : wr.cell? ⟨g, off + i * 4 + 1, none⟩ = some (.int .i64 l[i].Epoch) := hc 1 _ rfl
      have p2 : wr.cell? ⟨g, off + i * 4 + 2, none⟩ = some (.bool l[i].Marked) := hc 2 _ rfl
      have p3 : wr.cell? ⟨g, off + i * 4 + 3, none⟩ = some (.int .i64 l[i].Seen) := hc 3 _ rfl
      have hgd : l.getD i pin0 = l[i] := by simp [List.getD, hlt]
      have HY := Hid.mk_ (fun hh => behTo_yes ⟨ep, l⟩ i hh)
      have HF := Hid.mk_ (fun hh => behTo_no ⟨ep, l⟩ i hh)
      simp only [hgd] at HY HF
      clear hc hr hgd
      generalize l[i] = p at *
      obtain ⟨on, pe, mk, ps⟩ := p
      simp only at p0 p1 p2 p3
      have hbx : behB ⟨ep, l⟩ ⟨on, pe, mk, ps⟩ = (on && !mk && decide (pe < ep)) := rfl
      rw [hbx] at HY HF
      clear hbx
      have hlen := behTo_len ⟨ep, l⟩ i
      by_cases ce : (on && !mk) = true
      · have ec : Calls Try.prog 37 #[.agg #[.bool on, .int .i64 pe, .bool mk, .int .i64 ps]] (wr.alloc (.cells #[.bool on, .int .i64 pe, .bool mk, .int .i64 ps] 66)) fun e w' => e = .returned (.bool true) ∧ Below (wr.alloc (.cells #[.bool on, .int .i64 pe, .bool mk, .int .i64 ps] 66)).heap.size (wr.alloc (.cells #[.bool on, .int .i64 pe, .bool mk, .int .i64 ps] 66)) w' := (effective_ct ⟨on, pe, mk, ps⟩ _).mono fun e w' hh => ⟨by rw [hh.1, ce], hh.2⟩
        rw [ce, Bool.true_and] at HY HF
        clear ce
        by_cases cl : pe < ep
        · have HS := Hid.mk_ (HY.out (by simpa using cl))
          clear HY HF
          go_wp2_with (first | (go_at_call 37; refine ec.mono ?_; clear ec; rintro e w4 ⟨rfl, hb4⟩; have pc4 := up2 hb4 hz pc0; have hz4 : w.heap.size < w4.heap.size := (by have := hb4.size; simp at this; omega); have pq1 := new_cell hb4 (j := 1) rfl; have ho4 := ho.step hb4; have hB4 := below_step hb hb4 hb.size; clear hb4) | (at_builtin; refine wpList_append_flat Try.stInt rfl _ _ rfl (v := u3) (y := .slice (some ⟨w4.heap.size, 0, none⟩) 1 1) (l := behTo ⟨ep, l⟩ i) (m := [(i : Int)]) rfl rfl (ho4.alloc_ _) (OwL.lit FI [(i : Int)] #[.int .i64 i] rfl (by simp [maxLen]) w4 3).rd' (by have := H3.out; simp; omega) ?_; intro v' w5 ho5 hg5 hat5))
          have hB5 : Below w.heap.size w w5 := (hB4.alloc hB4.size _).grown hg5 (by simp; omega) (fun k hk => by have := hfo k (mem_foot1.2 hk); omega)
          have pc5 : w5.cell? ⟨w.heap.size, 0, none⟩ = some (.int .i64 ep) := ((Chg.of_grown hg5).cell w.heap.size 0 (by simp; omega) (fun hm => by have := hfo _ hm; omega)).trans ((cell_old w4 _ _ _ hz4).trans pc4)
          have hz5 : w.heap.size < w5.heap.size := by have := hg5.size; simp at this; omega
          go_roundw
          case rel => exact ⟨i + 1, by omega, by go_num, by rw [HS.out]; exact ho5, fun b hb' => by rcases foot_app hat5 b hb' with h | h; (exact hfo b h); (simp at h; omega), hB5, pc5, hz5⟩
          case measure => simp [intOf]; omega
        · have HS := Hid.mk_ (HF.out (by simpa using cl))
          clear HY HF
          go_wp2_with (first | (go_at_call 37; refine ec.mono ?_; clear ec; rintro e w4 ⟨rfl, hb4⟩; have pc4 := up2 hb4 hz pc0; have hz4 : w.heap.size < w4.heap.size := (by have := hb4.size; simp at this; omega); have pq1 := new_cell hb4 (j := 1) rfl; have ho4 := ho.step hb4; have hB4 := below_step hb hb4 hb.size; clear hb4))
          go_roundw
          case rel => exact ⟨i + 1, by omega, by go_num, by rw [HS.out]; exact ho4, hfo, hB4, pc4, hz4⟩
          case measure => simp [intOf]; omega
      · have ce' : (on && !mk) = false := (Bool.not_eq_true _).mp ce
        have ec : Calls Try.prog 37 #[.agg #[.bool on, .int .i64 pe, .bool mk, .int .i64 ps]] (wr.alloc (.cells #[.bool on, .int .i64 pe, .bool mk, .int .i64 ps] 66)) fun e w' => e = .returned (.bool false) ∧ Below (wr.alloc (.cells #[.bool on, .int .i64 pe, .bool mk, .int .i64 ps] 66)).heap.size (wr.alloc (.cells #[.bool on, .int .i64 pe, .bool mk, .int .i64 ps] 66)) w' := (effective_ct ⟨on, pe, mk, ps⟩ _).mono fun e w' hh => ⟨by rw [hh.1, ce'], hh.2⟩
        have HS := Hid.mk_ (HF.out (by rw [ce']; rfl))
        clear HY HF ce ce'
        go_wp2_with (first | (go_at_call 37; refine ec.mono ?_; clear ec; rintro e w4 ⟨rfl, hb4⟩; have pc4 := up2 hb4 hz pc0; have hz4 : w.heap.size < w4.heap.size := (by have := hb4.size; simp at this; omega); have ho4 := ho.step hb4; have hB4 := below_step hb hb4 hb.size; clear hb4))
        go_roundw
        case rel => exact ⟨i + 1, by omega, by go_num, by rw [HS.out]; exact ho4, hfo, hB4, pc4, hz4⟩
        case measure => simp [intOf]; omega
    · go_wp2
      go_ret
      obtain rfl : i = l.length := by omega
      exact ⟨u3, rfl, by rw [HN.out]; have a := ho; rw [H3.out] at a; exact a, fun g hg => by have := hfo g hg; omega, hb⟩

def newClk : Clock := ⟨0, [pin0, pin0, pin0]⟩

set_option maxHeartbeats 400000 in
theorem ClockNew_spec (w : World) : Calls Try.prog 46 #[] w fun e w' => ∃ H' : HClock, e = .returned (H'.val newClk) ∧ OwClock w' H' newClk ∧ (∀ g ∈ H'.foot, w.heap.size ≤ g) ∧ Below w.heap.size w w' := by
  have hmk : ∀ w, (Instr.makeSlice 36 (.int .i64 3) (.int .i64 3)).run Try.prog w = .ok (.slice (some ⟨w.heap.size, 0, none⟩) 3 3) (w.alloc (.cells (madeCells #[.bool false, .int .i64 0, .bool false, .int .i64 0] (3 * FPin.n)) 66)) := run_make_flat (P := Try.prog) FPin 36 66 (.agg #[.bool false, .int .i64 0, .bool false, .int .i64 0]) 32 Try.underlying36 Try.infoPin 3 (by omega) (by omega)
  go_enter Try.func46, Try.ntmps46
  go_wp2
  have ho := OwL.made FPin #[.bool false, .int .i64 0, .bool false, .int .i64 0] rfl 3 (by simp [maxLen]) (w.alloc (.cells #[.int .i64 0, .slice none 0 0] 38)) 66
  refine bodyPost_ret (v := .agg #[.int .i64 0, .slice (some ⟨w.heap.size + 1, 0, none⟩) 3 3]) (by simp [results, Try.results46, go_sem]) rfl ⟨⟨⟨some ⟨w.heap.size + 1, 0, none⟩, 3, 3⟩⟩, rfl, ⟨?_⟩, ?_, ?_⟩
  · simp only [World.size_alloc] at ho
    refine ho.keep ?_
    intro g hg
    simp [Value.ownBlock] at hg
    subst hg
    have e : ∀ o o2, ((w.alloc o).alloc o2).heap[w.heap.size + 1]? = some o2 := fun o o2 => by
      have := heap_alloc_new (w.alloc o) o2
      rwa [World.size_alloc] at this
    rw [e, e]
  · simp [HClock.foot, foot1, Value.ownBlock, SV.val]
  · repeat (first | exact Below.refl _ _ | refine Below.alloc ?_ (by simp <;> omega) _ | refine below_grow_of ?_ (by simp <;> omega) _ _ | refine Below.drew ?_)

theorem eq_take_end {α : Type} {x y : List α} (hl : x.length = y.length) (h : x.take x.length = y.take x.length) : x = y := by
  rw [List.take_length, hl, List.take_length] at h
  exact h
theorem eq_take_step {α : Type} {x y : List α} {i : Nat} (hx : i < x.length) (hy : i < y.length) (h : x.take i = y.take i) (he : x[i] = y[i]) : x.take (i + 1) = y.take (i + 1) := by
  rw [List.take_succ_eq_append_getElem hx, List.take_succ_eq_append_getElem hy, h, he]
theorem ne_at {α : Type} {x y : List α} {i : Nat} (hx : i < x.length) (hy : i < y.length) (he : x[i] ≠ y[i]) : x ≠ y := by
  rintro rfl
  exact he rfl
def sameClockB (x y : Clock) : Bool := (x.Epoch == y.Epoch) && decide (x.Pins = y.Pins)
set_option maxRecDepth 100000 in
set_option maxHeartbeats 1000000 in
theorem SameClock_spec (w : World) (H K : HClock) (x y : Clock) (h1 : RdClock w w.heap.size H x) (h2 : RdClock w w.heap.size K y) :
    Calls Try.prog 20 #[.agg #[.int .i64 x.Epoch, .slice H.Pins.a H.Pins.len H.Pins.cap], .agg #[.int .i64 y.Epoch, .slice K.Pins.a K.Pins.len K.Pins.cap]] w fun e w' => e = .returned (.bool (sameClockB x y)) ∧ Below w.heap.size w w' := by
  obtain ⟨⟨A1, n1, c1⟩⟩ := H
  obtain ⟨⟨A2, n2, c2⟩⟩ := K
  obtain ⟨ex, a⟩ := x
  obtain ⟨ey, b⟩ := y
  have r1 : RdL FPin w w.heap.size (.slice A1 n1 c1) a := h1.Pins
  have r2 : RdL FPin w w.heap.size (.slice A2 n2 c2) b := h2.Pins
  obtain ⟨_, _, hv, q1, q2, qx⟩ := id r1
  simp only [Value.slice.injEq] at hv
  obtain ⟨rfl, rfl, rfl⟩ := hv
  have hlt0 : a.length ≤ 9223372036854775807 := by unfold maxLen at q2; omega
  clear q1 q2 qx h1
  obtain ⟨_, _, hv, q1, q2, qx⟩ := id r2
  simp only [Value.slice.injEq] at hv
  obtain ⟨rfl, rfl, rfl⟩ := hv
  clear q1 q2 qx h2
  show Calls Try.prog 20 #[.agg #[.int .i64 ex, .slice A1 a.length c1], .agg #[.int .i64 ey, .slice A2 b.length c2]] w fun e w' => e = .returned (.bool ((ex == ey) && decide (a = b))) ∧ Below w.heap.size w w'
  by_cases he : ex = ey
  case neg =>
    have he' : (ex != ey) = true := by simpa using he
    have HS := Hid.mk_ (show ((ex == ey) && decide (a = b)) = false by rw [show (ex == ey) = false by simpa using he]; rfl)
    clear he
    go_enter Try.func20, Try.ntmps20
    go_wp2_with fail
    go_ret
    exact ⟨ret_bool HS.out.symm, by repeat (first | exact Below.refl _ _ | refine Below.alloc ?_ (by simp <;> omega) _ | refine below_grow_of ?_ (by simp <;> omega) _ _ | refine Below.drew ?_)⟩
  have HS := Hid.mk_ (show ((ex == ey) && decide (a = b)) = decide (a = b) by rw [show (ex == ey) = true by simpa using he]; rfl)
  have he' : (ex != ey) = false := by simpa using he
  clear he
  by_cases hl : a.length = b.length
  case neg =>
    have HN := Hid.mk_ (show decide (a = b) = false from decide_eq_false (fun e => hl (by rw [e])))
    have hl' : ((a.length : Int) != (b.length : Int)) = true := by simp; omega
    go_enter Try.func20, Try.ntmps20
    go_wp2_with fail
    go_ret
    exact ⟨ret_bool (by rw [HS.out, HN.out]), by repeat (first | exact Below.refl _ _ | refine Below.alloc ?_ (by simp <;> omega) _ | refine below_grow_of ?_ (by simp <;> omega) _ _ | refine Below.drew ?_)⟩
  have HL := Hid.mk_ hl
  rw [← hl] at r2 ⊢
  clear hl
  go_enter Try.func20, Try.ntmps20
  go_wp2_with fail
  go_loopw [5] (fun i wr => ∃ k : Nat, k ≤ a.length ∧ i = .int .i64 k ∧ Hid (a.take k = b.take k) ∧ Below w.heap.size w wr ∧ wr.cell? ⟨w.heap.size, 1, none⟩ = some (.slice A1 a.length c1) ∧ wr.cell? ⟨w.heap.size + 1, 1, none⟩ = some (.slice A2 a.length c2)) (fun i _ => a.length - (intOf i).toNat)
  case atStart => exact ⟨0, Nat.zero_le _, rfl, rfl, by repeat (first | exact Below.refl _ _ | refine Below.alloc ?_ (by simp <;> omega) _ | refine below_grow_of ?_ (by simp <;> omega) _ _ | refine Below.drew ?_), by simp [go_sem], by simp [go_sem]⟩
  case round =>
    obtain ⟨i, hi, rfl, HT, hb, pc1, pc2⟩ := hrel
    by_cases hlt : i < a.length
    · have hlt2 : i < b.length := by rw [← HL.out]; exact hlt
      obtain ⟨g1, o1, cap1, he1, hg1, _, _, hc1⟩ := (r1.below hb).at_ (List.getElem?_eq_getElem hlt)
      obtain ⟨g2, o2, cap2, he2, hg2, _, _, hc2⟩ := (r2.below hb).at_ (List.getElem?_eq_getElem hlt2)
      injection he1 with e11 e12 e13
      injection he2 with e21 e22 e23
      clear e12 e22
      subst e11 e13 e21 e23
      have p0 : wr.cell? ⟨g1, o1 + i * 4, none⟩ = some (.bool a[i].On) := hc1 0 _ rfl
      have p1 : wr.cell? ⟨g1, o1 + i * 4 + 1, none⟩ = some (.int .i64 a[i].Epoch) := hc1 1 _ rfl
      have p2 : wr.cell? ⟨g1, o1 + i * 4 + 2, none⟩ = some (.bool a[i].Marked) := hc1 2 _ rfl
      have p3 : wr.cell? ⟨g1, o1 + i * 4 + 3, none⟩ = some (.int .i64 a[i].Seen) := hc1 3 _ rfl
      have s0 : wr.cell? ⟨g2, o2 + i * 4, none⟩ = some (.bool b[i].On) := hc2 0 _ rfl
      have s1 : wr.cell? ⟨g2, o2 + i * 4 + 1, none⟩ = some (.int .i64 b[i].Epoch) := hc2 1 _ rfl
      have s2 : wr.cell? ⟨g2, o2 + i * 4 + 2, none⟩ = some (.bool b[i].Marked) := hc2 2 _ rfl
      have s3 : wr.cell? ⟨g2, o2 + i * 4 + 3, none⟩ = some (.int .i64 b[i].Seen) := hc2 3 _ rfl
      clear hc1 hc2 r1 r2
      have HX := Hid.mk_ (show ∀ (hh : a[i] = b[i]), a.take (i + 1) = b.take (i + 1) from fun hh => eq_take_step hlt hlt2 HT.out hh)
      have HY := Hid.mk_ (show ∀ (hh : a[i] ≠ b[i]), decide (a = b) = false from fun hh => decide_eq_false (ne_at hlt hlt2 hh))
      generalize a[i] = u at *
      generalize b[i] = v at *
      have hq := neqRunPin u v
      by_cases hh : u = v
      · have HE := Hid.mk_ (HX.out hh)
        rw [decide_eq_true hh] at hq
        clear hh
        go_wp2
        go_region
        all_goals go_wp2
        all_goals go_roundw
        case rel => exact ⟨i + 1, by omega, by go_num, HE, by first | exact hb | exact hb.drew | exact hb.drew.drew, by first | exact pc1 | simpa using pc1, by first | exact pc2 | simpa using pc2⟩
        case measure => simp [intOf]; omega
      · have HN := Hid.mk_ (HY.out hh)
        rw [decide_eq_false hh] at hq
        clear hh
        go_wp2
        go_region
        all_goals go_wp2
        all_goals go_ret
        all_goals exact ⟨ret_bool (by rw [HS.out, HN.out]), by first | exact hb | exact hb.drew | exact hb.drew.drew⟩
    · go_wp2
      go_ret
      obtain rfl : i = a.length := by omega
      exact ⟨ret_bool (by rw [HS.out]; exact (decide_eq_true (eq_take_end HL.out HT.out)).symm), hb⟩
end Go.Proofs.Ytapmieijnbachaa
