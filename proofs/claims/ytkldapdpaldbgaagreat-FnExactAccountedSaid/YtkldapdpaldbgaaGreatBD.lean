/-
  Memories valid: the reference.
-/
import Derived.Test.YtkldapdpaldbgaaGreatT
import Derived.Test.YtkldapdpaldbgaaGreatL
import Derived.Deep.QuietTactic
import Derived.BigQuiet
import Derived.Deep.LoopGhost
import Derived.Deep.RegionHeld3
import Derived.Test.YtkldapdpaldbgaaGreatN
import Derived.Test.YtkldapdpaldbgaaGreatA
import Derived.WalkSpells
import Derived.Laws.Cover3
import Derived.Test.YtkldapdpaldbgaaGreatBC
namespace Go.Proofs.YtkldapdpaldbgaaGreat
open Go.RowKit
theorem held_up4 {B g0 g k : Nat} {v0 v1 v2 v3 u : Value} {W w w' : World} (h : w.cell? ⟨g0, 0, none⟩ = some v0 ∧ w.cell? ⟨g0, 1, none⟩ = some v1 ∧ w.cell? ⟨g0, 2, none⟩ = some v2 ∧ w.cell? ⟨g0, 3, none⟩ = some v3 ∧ w.cell? ⟨g, k, none⟩ = some u ∧ g0 < w.heap.size ∧ g < w.heap.size ∧ Below B W w) (hb : Below w.heap.size w w') (hB : B ≤ g0) :
    w'.cell? ⟨g0, 0, none⟩ = some v0 ∧ w'.cell? ⟨g0, 1, none⟩ = some v1 ∧ w'.cell? ⟨g0, 2, none⟩ = some v2 ∧ w'.cell? ⟨g0, 3, none⟩ = some v3 ∧ w'.cell? ⟨g, k, none⟩ = some u ∧ g0 < w'.heap.size ∧ g < w'.heap.size ∧ Below B W w' := by
  obtain ⟨a, b, a', b', c, d, e, f⟩ := h
  exact ⟨cell_up hb d a, cell_up hb d b, cell_up hb d a', cell_up hb d b', cell_up hb e c, Nat.lt_of_lt_of_le d hb.size, Nat.lt_of_lt_of_le e hb.size, f.trans (hb.mono (by omega))⟩
def gFit (m : Mem) (c : Nat) : Bool := (m.Lists.Global.getD c []).all (fitsB m.Heap c)
def oFit (m : Mem) (k : Nat) : Bool := (m.Lists.Own.getD k []).all (fitsB m.Heap ((k % 3 : Nat) : Int))
theorem fits_yes {m : Mem} (h : ∀ c < 3, gFit m c = true ∧ ∀ w < 3, oFit m (w * 3 + c) = true) : fitsTo m 3 = true ∧ fitsOwn m 9 = true := by
  constructor
  · exact List.all_eq_true.2 fun c hc => (h c (List.mem_range.1 hc)).1
  · refine List.all_eq_true.2 fun k hk => ?_
    have hk9 := List.mem_range.1 hk
    have a := (h (k % 3) (by omega)).2 (k / 3) (by omega)
    rwa [show k / 3 * 3 + k % 3 = k by omega] at a
set_option maxHeartbeats 1000000 in
theorem OwnAt_spec (a c : Nat) (ha : a < 3) (hc : c < 3) (w : World) : Calls Tryz.prog 129 #[.int .i64 a, .int .i64 c] w fun e w' => e = .returned (.int .i64 ((a * 3 + c : Nat) : Int)) ∧ w = w' := by
  have h1 : inB 0 2 (a : Int) = true := inB_iff.2 ⟨by omega, by omega⟩
  have h2 : inB 0 2 (c : Int) = true := inB_iff.2 ⟨by omega, by omega⟩
  have a1 : (a : Int) ≤ 2 := by omega
  have c1 : (c : Int) ≤ 2 := by omega
  go_enter Tryz.func129, Tryz.ntmps129
  go_wp2_with (go_at_call 107; refine (l1In_ct _ _ _ _).mono ?_; rintro e w1 ⟨rfl, rfl⟩)
  go_ret
  exact ⟨ret_i64 (by omega), rfl⟩
set_option maxRecDepth 100000 in
set_option maxHeartbeats 4000000 in
theorem MemOk_spec (w : World) (H : HMem) (x : Mem) (h : RdMem w w.heap.size H x) (hs1 : szLL x.Lists.Global ≤ 536870912) (hs2 : szLL x.Lists.Own ≤ 536870912) :
    Calls Tryz.prog 48 #[.agg #[.slice H.Heap.Bytes.a H.Heap.Bytes.len H.Heap.Bytes.cap, .slice H.Heap.Class.a H.Heap.Class.len H.Heap.Class.cap, .slice H.Lists.Global.a H.Lists.Global.len H.Lists.Global.cap, .slice H.Lists.Own.a H.Lists.Own.len H.Lists.Own.cap]] w fun e w' => e = .returned (.bool (memOkB x)) ∧ Below w.heap.size w w' := by
  have ba0 : Box (w.alloc (.cells #[.slice H.Heap.Bytes.a H.Heap.Bytes.len H.Heap.Bytes.cap, .slice H.Heap.Class.a H.Heap.Class.len H.Heap.Class.cap, .slice H.Lists.Global.a H.Lists.Global.len H.Lists.Global.cap, .slice H.Lists.Own.a H.Lists.Own.len H.Lists.Own.cap] 31)) w.heap.size [.slice H.Heap.Bytes.a H.Heap.Bytes.len H.Heap.Bytes.cap, .slice H.Heap.Class.a H.Heap.Class.len H.Heap.Class.cap, .slice H.Lists.Global.a H.Lists.Global.len H.Lists.Global.cap, .slice H.Lists.Own.a H.Lists.Own.len H.Lists.Own.cap] := Box.new w #[.slice H.Heap.Bytes.a H.Heap.Bytes.len H.Heap.Bytes.cap, .slice H.Heap.Class.a H.Heap.Class.len H.Heap.Class.cap, .slice H.Lists.Global.a H.Lists.Global.len H.Lists.Global.cap, .slice H.Lists.Own.a H.Lists.Own.len H.Lists.Own.cap] _
  have hB0 : Below w.heap.size w (w.alloc (.cells #[.slice H.Heap.Bytes.a H.Heap.Bytes.len H.Heap.Bytes.cap, .slice H.Heap.Class.a H.Heap.Class.len H.Heap.Class.cap, .slice H.Lists.Global.a H.Lists.Global.len H.Lists.Global.cap, .slice H.Lists.Own.a H.Lists.Own.len H.Lists.Own.cap] 31)) := by repeat (first | exact Below.refl _ _ | refine Below.alloc ?_ (by simp <;> omega) _ | refine below_grow_of ?_ (by simp <;> omega) _ _ | refine Below.drew ?_ | refine below_drewN ?_ _)
  have HE := Hid.mk_ (memOkB_eq x)
  go_enter Tryz.func48, Tryz.ntmps48
  go_wp2_with fail
  refine (HeapOk_spec _ H.Heap x.Heap (rdHeap_up h.Heap hB0)).mono ?_
  rintro e w1 ⟨rfl, hb⟩
  have ba1 := ba0.below hb
  have hB1 := hB0.trans (hb.mono hB0.size)
  clear hb ba0 hB0
  by_cases k1 : heapOkB x.Heap = true
  case neg =>
    have k1' : heapOkB x.Heap = false := (Bool.not_eq_true _).mp k1
    have HN := Hid.mk_ (show memOkB x = false by rw [HE.out, k1']; rfl)
    rw [k1']
    clear k1 k1'
    go_wp2
    go_ret
    exact ⟨ret_bool HN.out.symm, hB1⟩
  have K1 := Hid.mk_ k1
  rw [k1]
  clear k1
  have qa0 := ba1.cell 0 _ rfl
  have qa1 := ba1.cell 1 _ rfl
  have qa2 := ba1.cell 2 _ rfl
  have qa3 := ba1.cell 3 _ rfl
  go_wp2_with fail
  refine (ListsOk_spec _ H.Lists x.Lists (rdLists_up h.Lists hB1) hs1 hs2).mono ?_
  rintro e w2 ⟨rfl, hb⟩
  have ba2 := ba1.below hb
  have hB2 := hB1.trans (hb.mono hB1.size)
  clear hb ba1 hB1 qa0 qa1 qa2 qa3
  by_cases k2 : listsOkB x.Lists = true
  case neg =>
    have k2' : listsOkB x.Lists = false := (Bool.not_eq_true _).mp k2
    have HN := Hid.mk_ (show memOkB x = false by rw [HE.out, k2']; simp)
    rw [k2']
    clear k2 k2'
    go_wp2
    go_ret
    exact ⟨ret_bool HN.out.symm, hB2⟩
  rw [k2]
  have hs := Hid.mk_ (heap_shape K1.out)
  have HL := Hid.mk_ (lists_len k2)
  have HE2 := Hid.mk_ (show memOkB x = (fitsTo x 3 && fitsOwn x 9) by rw [HE.out, K1.out, k2]; rfl)
  clear k2 HE
  obtain ⟨en1, _, hm1⟩ := (show RdLL FI w w.heap.size (.slice H.Lists.Global.a H.Lists.Global.len H.Lists.Global.cap) H.Lists.GlobalT x.Lists.Global from h.Lists.Global).len'
  obtain ⟨en2, _, hm2⟩ := (show RdLL FI w w.heap.size (.slice H.Lists.Own.a H.Lists.Own.len H.Lists.Own.cap) H.Lists.OwnT x.Lists.Own from h.Lists.Own).len'
  have en1' : H.Lists.Global.len = 3 := by rw [en1, HL.out.1]
  have en2' : H.Lists.Own.len = 9 := by rw [en2, HL.out.2]
  have hgr : RdLL FI w w.heap.size (.slice H.Lists.Global.a 3 H.Lists.Global.cap) H.Lists.GlobalT x.Lists.Global := by rw [← en1']; exact h.Lists.Global
  have hor : RdLL FI w w.heap.size (.slice H.Lists.Own.a 9 H.Lists.Own.cap) H.Lists.OwnT x.Lists.Own := by rw [← en2']; exact h.Lists.Own
  rw [en1', en2'] at ba2
  clear en1 en2 hm1 hm2 en1' en2'
  obtain ⟨gG, oG, _, _, eG, _, _, _⟩ := hgr.row (Below.refl _ _) (show 0 < x.Lists.Global.length by rw [HL.out.1]; decide)
  obtain ⟨gO, oO, _, _, eO, _, _, _⟩ := hor.row (Below.refl _ _) (show 0 < x.Lists.Own.length by rw [HL.out.2]; decide)
  rw [eG] at hgr ba2
  rw [eO] at hor ba2
  go_wp2
  go_loopw [3, 4] (fun i _ wr => ∃ k : Nat, k ≤ 3 ∧ i = .int .i64 k ∧ Hid (∀ c < k, gFit x c = true ∧ ∀ a < 3, oFit x (a * 3 + c) = true) ∧ Below w.heap.size w wr ∧ wr.cell? ⟨w.heap.size, 0, none⟩ = some (.slice H.Heap.Bytes.a H.Heap.Bytes.len H.Heap.Bytes.cap) ∧ wr.cell? ⟨w.heap.size, 1, none⟩ = some (.slice H.Heap.Class.a H.Heap.Class.len H.Heap.Class.cap) ∧ wr.cell? ⟨w.heap.size, 2, none⟩ = some (.slice (some ⟨gG, oG, none⟩) 3 H.Lists.Global.cap) ∧ wr.cell? ⟨w.heap.size, 3, none⟩ = some (.slice (some ⟨gO, oO, none⟩) 9 H.Lists.Own.cap) ∧ w.heap.size < wr.heap.size) (fun i _ _ => 3 - (intOf i).toNat)
  case atStart => exact ⟨0, Nat.zero_le _, rfl, Hid.mk_ (fun c hc => absurd hc (Nat.not_lt_zero c)), hB2, ba2.cell 0 _ rfl, ba2.cell 1 _ rfl, ba2.cell 2 _ rfl, ba2.cell 3 _ rfl, ba2.lt⟩
  case round =>
    obtain ⟨i, hi, rfl, HT, hb, qa0, qa1, qa2, qa3, zl⟩ := hrel
    clear ba2 hB2
    by_cases hlt : i < 3
    · have hltI : (i : Int) < 3 := by omega
      have hig : i < x.Lists.Global.length := by rw [HL.out.1]; exact hlt
      obtain ⟨g, o, A', c', hAe, hg, p0, rr⟩ := hgr.row hb hig
      injection hAe with hAe
      injection hAe with hA1 hA2
      subst hA1 hA2
      have hgw : gG < wr.heap.size := Nat.lt_of_lt_of_le hg hb.size
      have HX := Hid.mk_ (show gFit x i = (x.Lists.Global[i]).all (fitsB x.Heap i) by unfold gFit; rw [getD_at hig])
      have HNo := Hid.mk_ (fun hf : gFit x i = false => fitsTo_no (m := x) (k := i) (n := 3) hlt hf)
      generalize x.Lists.Global[i] = row at p0 rr HX
      have hq1 := fun (W : World) (hW : Below w.heap.size w W) => l9Listed_spec W H.Heap x.Heap A' c' row i (rdHeap_up h.Heap hW) hs.out (rd_up rr hW) (by omega)
      rw [← HX.out] at hq1
      by_cases k3 : gFit x i = true
      case neg =>
        have k3' : gFit x i = false := (Bool.not_eq_true _).mp k3
        have HN := Hid.mk_ (show memOkB x = false by rw [HE2.out, HNo.out k3']; rfl)
        rw [k3'] at hq1
        clear k3 k3' HX HNo
        go_wp2
        go_region_held3 (fun w' => w'.cell? ⟨w.heap.size, 0, none⟩ = some (.slice H.Heap.Bytes.a H.Heap.Bytes.len H.Heap.Bytes.cap) ∧ w'.cell? ⟨w.heap.size, 1, none⟩ = some (.slice H.Heap.Class.a H.Heap.Class.len H.Heap.Class.cap) ∧ w'.cell? ⟨w.heap.size, 2, none⟩ = some (.slice (some ⟨gG, oG, none⟩) 3 H.Lists.Global.cap) ∧ w'.cell? ⟨w.heap.size, 3, none⟩ = some (.slice (some ⟨gO, oO, none⟩) 9 H.Lists.Own.cap) ∧ w'.cell? ⟨gG, oG + i, none⟩ = some (.slice A' row.length c') ∧ w.heap.size < w'.heap.size ∧ gG < w'.heap.size ∧ Below w.heap.size w w') (first | (go_keep; done) | exact held_up4 (by assumption) (by assumption) (Nat.le_refl _) | exact ⟨by assumption, by assumption, by assumption, by assumption, by assumption, by assumption, by assumption, Below.drew (by assumption)⟩) ((go_at_call 128; refine (hq1 _ (by go_split_ands; assumption)).mono ?_; rintro e w3 ⟨rfl, hb3⟩))
        go_wp2
        go_ret
        exact ⟨ret_bool HN.out.symm, by first | assumption | (go_split_ands; assumption)⟩
      have K3 := Hid.mk_ k3
      rw [k3] at hq1
      clear k3 HX HNo
      go_wp2
      go_region_held3 (fun w' => w'.cell? ⟨w.heap.size, 0, none⟩ = some (.slice H.Heap.Bytes.a H.Heap.Bytes.len H.Heap.Bytes.cap) ∧ w'.cell? ⟨w.heap.size, 1, none⟩ = some (.slice H.Heap.Class.a H.Heap.Class.len H.Heap.Class.cap) ∧ w'.cell? ⟨w.heap.size, 2, none⟩ = some (.slice (some ⟨gG, oG, none⟩) 3 H.Lists.Global.cap) ∧ w'.cell? ⟨w.heap.size, 3, none⟩ = some (.slice (some ⟨gO, oO, none⟩) 9 H.Lists.Own.cap) ∧ w'.cell? ⟨gG, oG + i, none⟩ = some (.slice A' row.length c') ∧ w.heap.size < w'.heap.size ∧ gG < w'.heap.size ∧ Below w.heap.size w w') (first | (go_keep; done) | exact held_up4 (by assumption) (by assumption) (Nat.le_refl _) | exact ⟨by assumption, by assumption, by assumption, by assumption, by assumption, by assumption, by assumption, Below.drew (by assumption)⟩) ((go_at_call 128; refine (hq1 _ (by go_split_ands; assumption)).mono ?_; rintro e w3 ⟨rfl, hb3⟩))
      rename_i hh
      obtain ⟨qa0, qa1, qa2, qa3, _, zl2, _, hb2⟩ := hh
      clear hq1 p0
      go_wp2
      go_loopw [4] (fun j wr => ∃ k : Nat, k ≤ 3 ∧ j = .int .i64 k ∧ Hid (∀ a < k, oFit x (a * 3 + i) = true) ∧ Below w.heap.size w wr ∧ wr.cell? ⟨w.heap.size, 0, none⟩ = some (.slice H.Heap.Bytes.a H.Heap.Bytes.len H.Heap.Bytes.cap) ∧ wr.cell? ⟨w.heap.size, 1, none⟩ = some (.slice H.Heap.Class.a H.Heap.Class.len H.Heap.Class.cap) ∧ wr.cell? ⟨w.heap.size, 2, none⟩ = some (.slice (some ⟨gG, oG, none⟩) 3 H.Lists.Global.cap) ∧ wr.cell? ⟨w.heap.size, 3, none⟩ = some (.slice (some ⟨gO, oO, none⟩) 9 H.Lists.Own.cap) ∧ w.heap.size < wr.heap.size) (fun j _ => 3 - (intOf j).toNat)
      case atStart => exact ⟨0, Nat.zero_le _, rfl, Hid.mk_ (fun a ha => absurd ha (Nat.not_lt_zero a)), by assumption, by assumption, by assumption, by assumption, by assumption, by assumption⟩
      case round =>
        obtain ⟨j, hj, rfl, HU, hb, qa0, qa1, qa2, qa3, zl⟩ := hrel
        by_cases hlj : j < 3
        · have hltJ : (j : Int) < 3 := by omega
          have hig2 : j * 3 + i < x.Lists.Own.length := by rw [HL.out.2]; omega
          obtain ⟨g, o, A2', c2', hAe, hg, p0, rr⟩ := hor.row hb hig2
          injection hAe with hAe
          injection hAe with hA1 hA2
          subst hA1 hA2
          have hgw : gO < wr.heap.size := Nat.lt_of_lt_of_le hg hb.size
          have HX := Hid.mk_ (show oFit x (j * 3 + i) = (x.Lists.Own[j * 3 + i]).all (fitsB x.Heap i) by unfold oFit; rw [getD_at hig2, show (j * 3 + i) % 3 = i by omega])
          have HNo := Hid.mk_ (fun hf : oFit x (j * 3 + i) = false => fitsOwn_no (m := x) (k := j * 3 + i) (n := 9) (by omega) hf)
          generalize x.Lists.Own[j * 3 + i] = row2 at p0 rr HX
          have hq1 := fun (W : World) (hW : Below w.heap.size w W) => l9Listed_spec W H.Heap x.Heap A2' c2' row2 i (rdHeap_up h.Heap hW) hs.out (rd_up rr hW) (by omega)
          have hq2 := fun (W : World) => OwnAt_spec j i hlj hlt W
          rw [← HX.out] at hq1
          have n0 : (0 : Int) ≤ ((j * 3 + i : Nat) : Int) := by omega
          have n1 : ((j * 3 + i : Nat) : Int) < 9 := by omega
          have n2 : j * 3 + i < 9 := by omega
          have n3 : ((j * 3 + i : Nat) : Int).toNat = j * 3 + i := by omega
          obtain ⟨kk, hkk⟩ : ∃ kk, kk = j * 3 + i := ⟨_, rfl⟩
          rw [← hkk] at p0 n0 n1 n2 n3
          simp only [← hkk] at hq2
          clear hkk
          by_cases k4 : oFit x (j * 3 + i) = true
          · have HN := Hid.mk_ (show ∀ a < j + 1, oFit x (a * 3 + i) = true from fun a ha => by
              by_cases e : a = j
              · rw [e]; exact k4
              · exact HU.out a (by omega))
            rw [k4] at hq1
            clear k4 HX HNo
            go_wp2
            go_region_held3 (fun w' => w'.cell? ⟨w.heap.size, 0, none⟩ = some (.slice H.Heap.Bytes.a H.Heap.Bytes.len H.Heap.Bytes.cap) ∧ w'.cell? ⟨w.heap.size, 1, none⟩ = some (.slice H.Heap.Class.a H.Heap.Class.len H.Heap.Class.cap) ∧ w'.cell? ⟨w.heap.size, 2, none⟩ = some (.slice (some ⟨gG, oG, none⟩) 3 H.Lists.Global.cap) ∧ w'.cell? ⟨w.heap.size, 3, none⟩ = some (.slice (some ⟨gO, oO, none⟩) 9 H.Lists.Own.cap) ∧ w'.cell? ⟨gO, oO + kk, none⟩ = some (.slice A2' row2.length c2') ∧ w.heap.size < w'.heap.size ∧ gO < w'.heap.size ∧ Below w.heap.size w w') (first | (go_keep; done) | exact held_up4 (by assumption) (by assumption) (Nat.le_refl _) | exact ⟨by assumption, by assumption, by assumption, by assumption, by assumption, by assumption, by assumption, Below.drew (by assumption)⟩) (first | (go_at_call 129; refine (hq2 _).mono ?_; rintro e w3 ⟨rfl, rfl⟩) | (go_at_call 128; refine (hq1 _ (by go_split_ands; assumption)).mono ?_; rintro e w3 ⟨rfl, hb3⟩))
            go_wp2
            go_roundw
            case rel => exact ⟨j + 1, by omega, by go_num, HN, by first | assumption | (go_split_ands; assumption), by first | assumption | (go_split_ands; assumption), by first | assumption | (go_split_ands; assumption), by first | assumption | (go_split_ands; assumption), by first | assumption | (go_split_ands; assumption), by first | assumption | (go_split_ands; assumption)⟩
            case measure => simp [intOf]; omega
          · have k4' : oFit x (j * 3 + i) = false := (Bool.not_eq_true _).mp k4
            have HN := Hid.mk_ (show memOkB x = false by rw [HE2.out, HNo.out k4']; simp)
            rw [k4'] at hq1
            clear k4 k4' HX HNo
            go_wp2
            go_region_held3 (fun w' => w'.cell? ⟨w.heap.size, 0, none⟩ = some (.slice H.Heap.Bytes.a H.Heap.Bytes.len H.Heap.Bytes.cap) ∧ w'.cell? ⟨w.heap.size, 1, none⟩ = some (.slice H.Heap.Class.a H.Heap.Class.len H.Heap.Class.cap) ∧ w'.cell? ⟨w.heap.size, 2, none⟩ = some (.slice (some ⟨gG, oG, none⟩) 3 H.Lists.Global.cap) ∧ w'.cell? ⟨w.heap.size, 3, none⟩ = some (.slice (some ⟨gO, oO, none⟩) 9 H.Lists.Own.cap) ∧ w'.cell? ⟨gO, oO + kk, none⟩ = some (.slice A2' row2.length c2') ∧ w.heap.size < w'.heap.size ∧ gO < w'.heap.size ∧ Below w.heap.size w w') (first | (go_keep; done) | exact held_up4 (by assumption) (by assumption) (Nat.le_refl _) | exact ⟨by assumption, by assumption, by assumption, by assumption, by assumption, by assumption, by assumption, Below.drew (by assumption)⟩) (first | (go_at_call 129; refine (hq2 _).mono ?_; rintro e w3 ⟨rfl, rfl⟩) | (go_at_call 128; refine (hq1 _ (by go_split_ands; assumption)).mono ?_; rintro e w3 ⟨rfl, hb3⟩))
            go_wp2
            go_ret
            exact ⟨ret_bool HN.out.symm, by first | assumption | (go_split_ands; assumption)⟩
        · obtain rfl : j = 3 := by omega
          go_wp2
          go_roundw
          case rel =>
            refine ⟨i + 1, by omega, by go_num, Hid.mk_ (fun c hc => ?_), hb, qa0, qa1, qa2, qa3, zl⟩
            by_cases e : c = i
            · rw [e]; exact ⟨K3.out, HU.out⟩
            · exact HT.out c (by omega)
          case measure => simp [intOf]; omega
    · obtain rfl : i = 3 := by omega
      have HN := Hid.mk_ (show memOkB x = true by rw [HE2.out, (fits_yes HT.out).1, (fits_yes HT.out).2]; rfl)
      go_wp2
      go_ret
      exact ⟨ret_bool HN.out.symm, hb⟩
end Go.Proofs.YtkldapdpaldbgaaGreat
