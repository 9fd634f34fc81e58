/-
  Several texts in one: lemmas and contracts that the claim rests on.
-/
import Derived.Test.YtpjijbonpjoamaaGreatUHAllocNow1
import Derived.Deep.QuietTactic
import Derived.BigQuiet
import Derived.Deep.LoopGhost
import Derived.Deep.RegionHeld3
import Derived.WalkSpells
import Derived.Laws.Cover3
import Derived.Test.YtpjijbonpjoamaaGreatUHAllocNow5
import Derived.Test.YtpjijbonpjoamaaGreatUHAllocNow2
import Derived.Deep.RegionLaw
/-
  Memories valid: the reference.
-/
namespace Go.Proofs.YtpjijbonpjoamaaGreat
open Go.RowKit
theorem held_up4 {B g0 g k : Nat} {v0 v1 v2 v3 u : Value} {W w w' : World} (h : w.cell? ⟨g0, 0, none⟩ = some v0 ∧ w.cell? ⟨g0, 1, none⟩ = some v1 ∧ w.cell? ⟨g0, 2, none⟩ = some v2 ∧ w.cell? ⟨g0, 3, none⟩ = some v3 ∧ w.cell? ⟨g, k, none⟩ = some u ∧ g0 < w.heap.size ∧ g < w.heap.size ∧ Below B W w) (hb : Below w.heap.size w w') (hB : B ≤ g0) :
    w'.cell? ⟨g0, 0, none⟩ = some v0 ∧ w'.cell? ⟨g0, 1, none⟩ = some v1 ∧ w'.cell? ⟨g0, 2, none⟩ = some v2 ∧ w'.cell? ⟨g0, 3, none⟩ = some v3 ∧ w'.cell? ⟨g, k, none⟩ = some u ∧ g0 < w'.heap.size ∧ g < w'.heap.size ∧ Below B W w' := by
  obtain ⟨a, b, a', b', c, d, e, f⟩ := h
  exact ⟨cell_up hb d a, cell_up hb d b, cell_up hb d a', cell_up hb d b', cell_up hb e c, Nat.lt_of_lt_of_le d hb.size, Nat.lt_of_lt_of_le e hb.size, f.trans (hb.mono (by omega))⟩
def gFit (m : Mem) (c : Nat) : Bool := (m.Lists.Global.getD c []).all (fitsB m.Heap c)
def oFit (m : Mem) (k : Nat) : Bool := (m.Lists.Own.getD k []).all (fitsB m.Heap ((k % 3 : Nat) : Int))
theorem fits_yes {m : Mem} (h : ∀ c < 3, gFit m c = true ∧ ∀ w < 3, oFit m (w * 3 + c) = true) : fitsTo m 3 = true ∧ fitsOwn m 9 = true := by
  constructor
  · exact List.all_eq_true.2 fun c hc => (h c (List.mem_range.1 hc)).1
  · refine List.all_eq_true.2 fun k hk => ?_
    have hk9 := List.mem_range.1 hk
    have a := (h (k % 3) (by omega)).2 (k / 3) (by omega)
    rwa [show k / 3 * 3 + k % 3 = k by omega] at a
set_option maxHeartbeats 1000000 in
theorem OwnAt_spec (a c : Nat) (ha : a < 3) (hc : c < 3) (w : World) : Calls Tryz.prog 62 #[.int .i64 a, .int .i64 c] w fun e w' => e = .returned (.int .i64 ((a * 3 + c : Nat) : Int)) ∧ w = w' := by
  have h1 : inB 0 2 (a : Int) = true := inB_iff.2 ⟨by omega, by omega⟩
  have h2 : inB 0 2 (c : Int) = true := inB_iff.2 ⟨by omega, by omega⟩
  have a1 : (a : Int) ≤ 2 := by omega
  have c1 : (c : Int) ≤ 2 := by omega
  go_enter Tryz.func62, Tryz.ntmps62
  go_wp2_with (go_at_call 21; refine (l1In_ct _ _ _ _).mono ?_; rintro e w1 ⟨rfl, rfl⟩)
  go_ret
  exact ⟨ret_i64 (by omega), rfl⟩
set_option maxRecDepth 100000 in
set_option maxHeartbeats 4000000 in
theorem MemOk_spec (w : World) (H : HMem) (x : Mem) (h : RdMem w w.heap.size H x) (hs1 : szLL x.Lists.Global ≤ 536870912) (hs2 : szLL x.Lists.Own ≤ 536870912) :
    Calls Tryz.prog 20 #[.agg #[.slice H.Heap.Bytes.a H.Heap.Bytes.len H.Heap.Bytes.cap, .slice H.Heap.Class.a H.Heap.Class.len H.Heap.Class.cap, .slice H.Lists.Global.a H.Lists.Global.len H.Lists.Global.cap, .slice H.Lists.Own.a H.Lists.Own.len H.Lists.Own.cap]] w fun e w' => e = .returned (.bool (memOkB x)) ∧ Below w.heap.size w w' := by
  have ba0 : Box (w.alloc (.cells #[.slice H.Heap.Bytes.a H.Heap.Bytes.len H.Heap.Bytes.cap, .slice H.Heap.Class.a H.Heap.Class.len H.Heap.Class.cap, .slice H.Lists.Global.a H.Lists.Global.len H.Lists.Global.cap, .slice H.Lists.Own.a H.Lists.Own.len H.Lists.Own.cap] 36)) w.heap.size [.slice H.Heap.Bytes.a H.Heap.Bytes.len H.Heap.Bytes.cap, .slice H.Heap.Class.a H.Heap.Class.len H.Heap.Class.cap, .slice H.Lists.Global.a H.Lists.Global.len H.Lists.Global.cap, .slice H.Lists.Own.a H.Lists.Own.len H.Lists.Own.cap] := Box.new w #[.slice H.Heap.Bytes.a H.Heap.Bytes.len H.Heap.Bytes.cap, .slice H.Heap.Class.a H.Heap.Class.len H.Heap.Class.cap, .slice H.Lists.Global.a H.Lists.Global.len H.Lists.Global.cap, .slice H.Lists.Own.a H.Lists.Own.len H.Lists.Own.cap] _
  have hB0 : Below w.heap.size w (w.alloc (.cells #[.slice H.Heap.Bytes.a H.Heap.Bytes.len H.Heap.Bytes.cap, .slice H.Heap.Class.a H.Heap.Class.len H.Heap.Class.cap, .slice H.Lists.Global.a H.Lists.Global.len H.Lists.Global.cap, .slice H.Lists.Own.a H.Lists.Own.len H.Lists.Own.cap] 36)) := by repeat (first | exact Below.refl _ _ | refine Below.alloc ?_ (by simp <;> omega) _ | refine below_grow_of ?_ (by simp <;> omega) _ _ | refine Below.drew ?_ | refine below_drewN ?_ _)
  have HE := Hid.mk_ (memOkB_eq x)
  go_enter Tryz.func20, Tryz.ntmps20
  go_wp2_with fail
  refine (HeapOk_spec _ H.Heap x.Heap (rdHeap_up h.Heap hB0)).mono ?_
  rintro e w1 ⟨rfl, hb⟩
  have ba1 := ba0.below hb
  have hB1 := hB0.trans (hb.mono hB0.size)
  clear hb ba0 hB0
  by_cases k1 : heapOkB x.Heap = true
  case neg =>
    have k1' : heapOkB x.Heap = false := (Bool.not_eq_true _).mp k1
    have HN := Hid.mk_ (show memOkB x = false by rw [HE.out, k1']; rfl)
    rw [k1']
    clear k1 k1'
    go_wp2
    go_ret
    exact ⟨ret_bool HN.out.symm, hB1⟩
  have K1 := Hid.mk_ k1
  rw [k1]
  clear k1
  have qa0 := ba1.cell 0 _ rfl
  have qa1 := ba1.cell 1 _ rfl
  have qa2 := ba1.cell 2 _ rfl
  have qa3 := ba1.cell 3 _ rfl
  go_wp2_with fail
  refine (ListsOk_spec _ H.Lists x.Lists (rdLists_up h.Lists hB1) hs1 hs2).mono ?_
  rintro e w2 ⟨rfl, hb⟩
  have ba2 := ba1.below hb
  have hB2 := hB1.trans (hb.mono hB1.size)
  clear hb ba1 hB1 qa0 qa1 qa2 qa3
  by_cases k2 : listsOkB x.Lists = true
  case neg =>
    have k2' : listsOkB x.Lists = false := (Bool.not_eq_true _).mp k2
    have HN := Hid.mk_ (show memOkB x = false by rw [HE.out, k2']; simp)
    rw [k2']
    clear k2 k2'
    go_wp2
    go_ret
    exact ⟨ret_bool HN.out.symm, hB2⟩
  rw [k2]
  have hs := Hid.mk_ (heap_shape K1.out)
  have HL := Hid.mk_ (lists_len k2)
  have HE2 := Hid.mk_ (show memOkB x = (fitsTo x 3 && fitsOwn x 9) by rw [HE.out, K1.out, k2]; rfl)
  clear k2 HE
  obtain ⟨en1, _, hm1⟩ := (show RdLL FI w w.heap.size (.slice H.Lists.Global.a H.Lists.Global.len H.Lists.Global.cap) H.Lists.GlobalT x.Lists.Global from h.Lists.Global).len'
  obtain ⟨en2, _, hm2⟩ := (show RdLL FI w w.heap.size (.slice H.Lists.Own.a H.Lists.Own.len H.Lists.Own.cap) H.Lists.OwnT x.Lists.Own from h.Lists.Own).len'
  have en1' : H.Lists.Global.len = 3 := by rw [en1, HL.out.1]
  have en2' : H.Lists.Own.len = 9 := by rw [en2, HL.out.2]
  have hgr : RdLL FI w w.heap.size (.slice H.Lists.Global.a 3 H.Lists.Global.cap) H.Lists.GlobalT x.Lists.Global := by rw [← en1']; exact h.Lists.Global
  have hor : RdLL FI w w.heap.size (.slice H.Lists.Own.a 9 H.Lists.Own.cap) H.Lists.OwnT x.Lists.Own := by rw [← en2']; exact h.Lists.Own
  rw [en1', en2'] at ba2
  clear en1 en2 hm1 hm2 en1' en2'
  obtain ⟨gG, oG, _, _, eG, _, _, _⟩ := hgr.row (Below.refl _ _) (show 0 < x.Lists.Global.length by rw [HL.out.1]; decide)
  obtain ⟨gO, oO, _, _, eO, _, _, _⟩ := hor.row (Below.refl _ _) (show 0 < x.Lists.Own.length by rw [HL.out.2]; decide)
  rw [eG] at hgr ba2
  rw [eO] at hor ba2
  go_wp2
  go_loopw [3, 4] (fun i _ wr => ∃ k : Nat, k ≤ 3 ∧ i = .int .i64 k ∧ Hid (∀ c < k, gFit x c = true ∧ ∀ a < 3, oFit x (a * 3 + c) = true) ∧ Below w.heap.size w wr ∧ wr.cell? ⟨w.heap.size, 0, none⟩ = some (.slice H.Heap.Bytes.a H.Heap.Bytes.len H.Heap.Bytes.cap) ∧ wr.cell? ⟨w.heap.size, 1, none⟩ = some (.slice H.Heap.Class.a H.Heap.Class.len H.Heap.Class.cap) ∧ wr.cell? ⟨w.heap.size, 2, none⟩ = some (.slice (some ⟨gG, oG, none⟩) 3 H.Lists.Global.cap) ∧ wr.cell? ⟨w.heap.size, 3, none⟩ = some (.slice (some ⟨gO, oO, none⟩) 9 H.Lists.Own.cap) ∧ w.heap.size < wr.heap.size) (fun i _ _ => 3 - (intOf i).toNat)
  case atStart => exact ⟨0, Nat.zero_le _, rfl, Hid.mk_ (fun c hc => absurd hc (Nat.not_lt_zero c)), hB2, ba2.cell 0 _ rfl, ba2.cell 1 _ rfl, ba2.cell 2 _ rfl, ba2.cell 3 _ rfl, ba2.lt⟩
  case round =>
    obtain ⟨i, hi, rfl, HT, hb, qa0, qa1, qa2, qa3, zl⟩ := hrel
    clear ba2 hB2
    by_cases hlt : i < 3
    · have hltI : (i : Int) < 3 := by omega
      have hig : i < x.Lists.Global.length := by rw [HL.out.1]; exact hlt
      obtain ⟨g, o, A', c', hAe, hg, p0, rr⟩ := hgr.row hb hig
      injection hAe with hAe
      injection hAe with hA1 hA2
      subst hA1 hA2
      have hgw : gG < wr.heap.size := Nat.lt_of_lt_of_le hg hb.size
      have HX := Hid.mk_ (show gFit x i = (x.Lists.Global[i]).all (fitsB x.Heap i) by unfold gFit; rw [getD_at hig])
      have HNo := Hid.mk_ (fun hf : gFit x i = false => fitsTo_no (m := x) (k := i) (n := 3) hlt hf)
      generalize x.Lists.Global[i] = row at p0 rr HX
      have hq1 := fun (W : World) (hW : Below w.heap.size w W) => l9Listed_spec W H.Heap x.Heap A' c' row i (rdHeap_up h.Heap hW) hs.out (rd_up rr hW) (by omega)
      rw [← HX.out] at hq1
      by_cases k3 : gFit x i = true
      case neg =>
        have k3' : gFit x i = false := (Bool.not_eq_true _).mp k3
        have HN := Hid.mk_ (show memOkB x = false by rw [HE2.out, HNo.out k3']; rfl)
        rw [k3'] at hq1
        clear k3 k3' HX HNo
        go_wp2
        go_region_held3 (fun w' => w'.cell? ⟨w.heap.size, 0, none⟩ = some (.slice H.Heap.Bytes.a H.Heap.Bytes.len H.Heap.Bytes.cap) ∧ w'.cell? ⟨w.heap.size, 1, none⟩ = some (.slice H.Heap.Class.a H.Heap.Class.len H.Heap.Class.cap) ∧ w'.cell? ⟨w.heap.size, 2, none⟩ = some (.slice (some ⟨gG, oG, none⟩) 3 H.Lists.Global.cap) ∧ w'.cell? ⟨w.heap.size, 3, none⟩ = some (.slice (some ⟨gO, oO, none⟩) 9 H.Lists.Own.cap) ∧ w'.cell? ⟨gG, oG + i, none⟩ = some (.slice A' row.length c') ∧ w.heap.size < w'.heap.size ∧ gG < w'.heap.size ∧ Below w.heap.size w w') (first | (go_keep; done) | exact held_up4 (by assumption) (by assumption) (Nat.le_refl _) | exact ⟨by assumption, by assumption, by assumption, by assumption, by assumption, by assumption, by assumption, Below.drew (by assumption)⟩) ((go_at_call 61; refine (hq1 _ (by go_split_ands; assumption)).mono ?_; rintro e w3 ⟨rfl, hb3⟩))
        go_wp2
        go_ret
        exact ⟨ret_bool HN.out.symm, by first | assumption | (go_split_ands; assumption)⟩
      have K3 := Hid.mk_ k3
      rw [k3] at hq1
      clear k3 HX HNo
      go_wp2
      go_region_held3 (fun w' => w'.cell? ⟨w.heap.size, 0, none⟩ = some (.slice H.Heap.Bytes.a H.Heap.Bytes.len H.Heap.Bytes.cap) ∧ w'.cell? ⟨w.heap.size, 1, none⟩ = some (.slice H.Heap.Class.a H.Heap.Class.len H.Heap.Class.cap) ∧ w'.cell? ⟨w.heap.size, 2, none⟩ = some (.slice (some ⟨gG, oG, none⟩) 3 H.Lists.Global.cap) ∧ w'.cell? ⟨w.heap.size, 3, none⟩ = some (.slice (some ⟨gO, oO, none⟩) 9 H.Lists.Own.cap) ∧ w'.cell? ⟨gG, oG + i, none⟩ = some (.slice A' row.length c') ∧ w.heap.size < w'.heap.size ∧ gG < w'.heap.size ∧ Below w.heap.size w w') (first | (go_keep; done) | exact held_up4 (by assumption) (by assumption) (Nat.le_refl _) | exact ⟨by assumption, by assumption, by assumption, by assumption, by assumption, by assumption, by assumption, Below.drew (by assumption)⟩) ((go_at_call 61; refine (hq1 _ (by go_split_ands; assumption)).mono ?_; rintro e w3 ⟨rfl, hb3⟩))
      rename_i hh
      obtain ⟨qa0, qa1, qa2, qa3, _, zl2, _, hb2⟩ := hh
      clear hq1 p0
      go_wp2
      go_loopw [4] (fun j wr => ∃ k : Nat, k ≤ 3 ∧ j = .int .i64 k ∧ Hid (∀ a < k, oFit x (a * 3 + i) = true) ∧ Below w.heap.size w wr ∧ wr.cell? ⟨w.heap.size, 0, none⟩ = some (.slice H.Heap.Bytes.a H.Heap.Bytes.len H.Heap.Bytes.cap) ∧ wr.cell? ⟨w.heap.size, 1, none⟩ = some (.slice H.Heap.Class.a H.Heap.Class.len H.Heap.Class.cap) ∧ wr.cell? ⟨w.heap.size, 2, none⟩ = some (.slice (some ⟨gG, oG, none⟩) 3 H.Lists.Global.cap) ∧ wr.cell? ⟨w.heap.size, 3, none⟩ = some (.slice (some ⟨gO, oO, none⟩) 9 H.Lists.Own.cap) ∧ w.heap.size < wr.heap.size) (fun j _ => 3 - (intOf j).toNat)
      case atStart => exact ⟨0, Nat.zero_le _, rfl, Hid.mk_ (fun a ha => absurd ha (Nat.not_lt_zero a)), by assumption, by assumption, by assumption, by assumption, by assumption, by assumption⟩
      case round =>
        obtain ⟨j, hj, rfl, HU, hb, qa0, qa1, qa2, qa3, zl⟩ := hrel
        by_cases hlj : j < 3
        · have hltJ : (j : Int) < 3 := by omega
          have hig2 : j * 3 + i < x.Lists.Own.length := by rw [HL.out.2]; omega
          obtain ⟨g, o, A2', c2', hAe, hg, p0, rr⟩ := hor.row hb hig2
          injection hAe with hAe
          injection hAe with hA1 hA2
          subst hA1 hA2
          have hgw : gO < wr.heap.size := Nat.lt_of_lt_of_le hg hb.size
          have HX := Hid.mk_ (show oFit x (j * 3 + i) = (x.Lists.Own[j * 3 + i]).all (fitsB x.Heap i) by unfold oFit; rw [getD_at hig2, show (j * 3 + i) % 3 = i by omega])
          have HNo := Hid.mk_ (fun hf : oFit x (j * 3 + i) = false => fitsOwn_no (m := x) (k := j * 3 + i) (n := 9) (by omega) hf)
          generalize x.Lists.Own[j * 3 + i] = row2 at p0 rr HX
          have hq1 := fun (W : World) (hW : Below w.heap.size w W) => l9Listed_spec W H.Heap x.Heap A2' c2' row2 i (rdHeap_up h.Heap hW) hs.out (rd_up rr hW) (by omega)
          have hq2 := fun (W : World) => OwnAt_spec j i hlj hlt W
          rw [← HX.out] at hq1
          have n0 : (0 : Int) ≤ ((j * 3 + i : Nat) : Int) := by omega
          have n1 : ((j * 3 + i : Nat) : Int) < 9 := by omega
          have n2 : j * 3 + i < 9 := by omega
          have n3 : ((j * 3 + i : Nat) : Int).toNat = j * 3 + i := by omega
          obtain ⟨kk, hkk⟩ : ∃ kk, kk = j * 3 + i := ⟨_, rfl⟩
          rw [← hkk] at p0 n0 n1 n2 n3
          simp only [← hkk] at hq2
          clear hkk
          by_cases k4 : oFit x (j * 3 + i) = true
          · have HN := Hid.mk_ (show ∀ a < j + 1, oFit x (a * 3 + i) = true from fun a ha => by
              by_cases e : a = j
              · rw [e]; exact k4
              · exact HU.out a (by omega))
            rw [k4] at hq1
            clear k4 HX HNo
            go_wp2
            go_region_held3 (fun w' => w'.cell? ⟨w.heap.size, 0, none⟩ = some (.slice H.Heap.Bytes.a H.Heap.Bytes.len H.Heap.Bytes.cap) ∧ w'.cell? ⟨w.heap.size, 1, none⟩ = some (.slice H.Heap.Class.a H.Heap.Class.len H.Heap.Class.cap) ∧ w'.cell? ⟨w.heap.size, 2, none⟩ = some (.slice (some ⟨gG, oG, none⟩) 3 H.Lists.Global.cap) ∧ w'.cell? ⟨w.heap.size, 3, none⟩ = some (.slice (some ⟨gO, oO, none⟩) 9 H.Lists.Own.cap) ∧ w'.cell? ⟨gO, oO + kk, none⟩ = some (.slice A2' row2.length c2') ∧ w.heap.size < w'.heap.size ∧ gO < w'.heap.size ∧ Below w.heap.size w w') (first | (go_keep; done) | exact held_up4 (by assumption) (by assumption) (Nat.le_refl _) | exact ⟨by assumption, by assumption, by assumption, by assumption, by assumption, by assumption, by assumption, Below.drew (by assumption)⟩) (first | (go_at_call 62; refine (hq2 _).mono ?_; rintro e w3 ⟨rfl, rfl⟩) | (go_at_call 61; refine (hq1 _ (by go_split_ands; assumption)).mono ?_; rintro e w3 ⟨rfl, hb3⟩))
            go_wp2
            go_roundw
            case rel => exact ⟨j + 1, by omega, by go_num, HN, by first | assumption | (go_split_ands; assumption), by first | assumption | (go_split_ands; assumption), by first | assumption | (go_split_ands; assumption), by first | assumption | (go_split_ands; assumption), by first | assumption | (go_split_ands; assumption), by first | assumption | (go_split_ands; assumption)⟩
            case measure => simp [intOf]; omega
          · have k4' : oFit x (j * 3 + i) = false := (Bool.not_eq_true _).mp k4
            have HN := Hid.mk_ (show memOkB x = false by rw [HE2.out, HNo.out k4']; simp)
            rw [k4'] at hq1
            clear k4 k4' HX HNo
            go_wp2
            go_region_held3 (fun w' => w'.cell? ⟨w.heap.size, 0, none⟩ = some (.slice H.Heap.Bytes.a H.Heap.Bytes.len H.Heap.Bytes.cap) ∧ w'.cell? ⟨w.heap.size, 1, none⟩ = some (.slice H.Heap.Class.a H.Heap.Class.len H.Heap.Class.cap) ∧ w'.cell? ⟨w.heap.size, 2, none⟩ = some (.slice (some ⟨gG, oG, none⟩) 3 H.Lists.Global.cap) ∧ w'.cell? ⟨w.heap.size, 3, none⟩ = some (.slice (some ⟨gO, oO, none⟩) 9 H.Lists.Own.cap) ∧ w'.cell? ⟨gO, oO + kk, none⟩ = some (.slice A2' row2.length c2') ∧ w.heap.size < w'.heap.size ∧ gO < w'.heap.size ∧ Below w.heap.size w w') (first | (go_keep; done) | exact held_up4 (by assumption) (by assumption) (Nat.le_refl _) | exact ⟨by assumption, by assumption, by assumption, by assumption, by assumption, by assumption, by assumption, Below.drew (by assumption)⟩) (first | (go_at_call 62; refine (hq2 _).mono ?_; rintro e w3 ⟨rfl, rfl⟩) | (go_at_call 61; refine (hq1 _ (by go_split_ands; assumption)).mono ?_; rintro e w3 ⟨rfl, hb3⟩))
            go_wp2
            go_ret
            exact ⟨ret_bool HN.out.symm, by first | assumption | (go_split_ands; assumption)⟩
        · obtain rfl : j = 3 := by omega
          go_wp2
          go_roundw
          case rel =>
            refine ⟨i + 1, by omega, by go_num, Hid.mk_ (fun c hc => ?_), hb, qa0, qa1, qa2, qa3, zl⟩
            by_cases e : c = i
            · rw [e]; exact ⟨K3.out, HU.out⟩
            · exact HT.out c (by omega)
          case measure => simp [intOf]; omega
    · obtain rfl : i = 3 := by omega
      have HN := Hid.mk_ (show memOkB x = true by rw [HE2.out, (fits_yes HT.out).1, (fits_yes HT.out).2]; rfl)
      go_wp2
      go_ret
      exact ⟨ret_bool HN.out.symm, hb⟩
end Go.Proofs.YtpjijbonpjoamaaGreat

/-
  Memories: handles, the states of slots.
-/
namespace Go.Proofs.YtpjijbonpjoamaaGreat
open Go.RowKit
end Go.Proofs.YtpjijbonpjoamaaGreat

/-
  Memories: live handles.
-/
namespace Go.Proofs.YtpjijbonpjoamaaGreat
open Go.RowKit
end Go.Proofs.YtpjijbonpjoamaaGreat

/-
  Memories: the state of a slot, valid handles: the contracts.
-/
namespace Go.Proofs.YtpjijbonpjoamaaGreat
open Go.RowKit
theorem mem_shape {m : Mem} (k : memOkB m = true) : shapeB m.Heap = true := heap_shape (mem_heap k)
end Go.Proofs.YtpjijbonpjoamaaGreat
/-
  Ranges of slots, and what is loaded from them: the contracts.
-/
namespace Go.Proofs.YtpjijbonpjoamaaGreat
open Go.RowKit
end Go.Proofs.YtpjijbonpjoamaaGreat

/-
  What is loaded through a handle: the contracts.
-/
namespace Go.Proofs.YtpjijbonpjoamaaGreat
open Go.RowKit
end Go.Proofs.YtpjijbonpjoamaaGreat
/-
  Words for the laws on memories.
-/
namespace Go.Proofs.YtpjijbonpjoamaaGreat
open Go.RowKit
theorem up2 {w1 w2 : World} {o : Obj} {g i : Nat} {u : Value} (hb : Below (w1.alloc o).heap.size (w1.alloc o) w2) (hg : g < w1.heap.size) (h : w1.cell? ⟨g, i, none⟩ = some u) : w2.cell? ⟨g, i, none⟩ = some u := cell_up hb (by simp; omega) ((cell_old w1 o g i hg).trans h)

theorem below_step {B : Nat} {w0 w w' : World} {o : Obj} (hB : Below B w0 w) (hb : Below (w.alloc o).heap.size (w.alloc o) w') (h : B ≤ w.heap.size) : Below B w0 w' := (hB.alloc h o).trans (hb.mono (by simp; omega))
theorem below_step0 {B : Nat} {w0 w w' : World} (hB : Below B w0 w) (hb : Below w.heap.size w w') (h : B ≤ w.heap.size) : Below B w0 w' := hB.trans (hb.mono h)
theorem new_cell {w w' : World} {cs : Array Value} {t : TypeId} {j : Nat} {v : Value} (hb : Below (w.alloc (.cells cs t)).heap.size (w.alloc (.cells cs t)) w') (h : cs[j]? = some v) : w'.cell? ⟨w.heap.size, j, none⟩ = some v := by
  refine cell_up hb (by simp) ?_
  rw [cell_of_row _ _ _ _ _ _ (heap_alloc_new w _)]
  exact h
theorem OwL.step {α : Type} {T : FT α} {e : TypeId} {w w' : World} {o : Obj} {v : Value} {l : List α} (h : OwL T e w v l) (hb : Below (w.alloc o).heap.size (w.alloc o) w') : OwL T e w' v l := (h.alloc_ o).keep (fun g hg => hb.block g (foot_lt (h.alloc_ o) g (mem_foot1.2 hg)))
theorem OwL.step0 {α : Type} {T : FT α} {e : TypeId} {w w' : World} {v : Value} {l : List α} (h : OwL T e w v l) (hb : Below w.heap.size w w') : OwL T e w' v l := h.keep (fun g hg => hb.block g (foot_lt h g (mem_foot1.2 hg)))
theorem OwLL.step {α : Type} {T : FT α} {e E : TypeId} {w w' : World} {o : Obj} {v : Value} {s : List SV} {l : List (List α)} (h : OwLL T e E w v s l) (hb : Below (w.alloc o).heap.size (w.alloc o) w') : OwLL T e E w' v s l := (h.alloc_ o).keep (fun g hg => hb.block g ((h.alloc_ o).lt g hg))
theorem OwLL.step0 {α : Type} {T : FT α} {e E : TypeId} {w w' : World} {v : Value} {s : List SV} {l : List (List α)} (h : OwLL T e E w v s l) (hb : Below w.heap.size w w') : OwLL T e E w' v s l := h.keep (fun g hg => hb.block g (h.lt g hg))

theorem undrew {w w' : World} (hb : Below w.drew.heap.size w.drew w') : Below w.heap.size w w' := ⟨hb.os, hb.tape, hb.output, hb.size, hb.block⟩
theorem fcdrew {w : World} {F : List Nat} (h : ∀ g ∈ F, w.drew.heap.size ≤ g) : ∀ g ∈ F, w.heap.size ≤ g := h
theorem lt_step {w w' : World} {o : Obj} {a : Nat} (z : a < w.heap.size) (hb : Below (w.alloc o).heap.size (w.alloc o) w') : a < w'.heap.size := by
  have := hb.size
  simp at this
  omega
theorem lt_step0 {w w' : World} {a : Nat} (z : a < w.heap.size) (hb : Below w.heap.size w w') : a < w'.heap.size := Nat.lt_of_lt_of_le z hb.size
theorem new_lt {w w' : World} {o : Obj} (hb : Below (w.alloc o).heap.size (w.alloc o) w') : w.heap.size < w'.heap.size := by
  have := hb.size
  simp at this
  omega

theorem OwHeap.alloc_ {w : World} {H : HHeap} {x : Heap} (h : OwHeap w H x) (o : Obj) : OwHeap (w.alloc o) H x := h.keep fun g hg => Below.heap_alloc w o g (h.lt g hg)
theorem OwHeap.step {w w' : World} {o : Obj} {H : HHeap} {x : Heap} (h : OwHeap w H x) (hb : Below (w.alloc o).heap.size (w.alloc o) w') : OwHeap w' H x := (h.alloc_ o).keep (fun g hg => hb.block g ((h.alloc_ o).lt g hg))
theorem OwHeap.step0 {w w' : World} {H : HHeap} {x : Heap} (h : OwHeap w H x) (hb : Below w.heap.size w w') : OwHeap w' H x := h.keep (fun g hg => hb.block g (h.lt g hg))

theorem OwLists.alloc_ {w : World} {H : HLists} {x : Lists} (h : OwLists w H x) (o : Obj) : OwLists (w.alloc o) H x := h.keep fun g hg => Below.heap_alloc w o g (h.lt g hg)
theorem OwLists.step {w w' : World} {o : Obj} {H : HLists} {x : Lists} (h : OwLists w H x) (hb : Below (w.alloc o).heap.size (w.alloc o) w') : OwLists w' H x := (h.alloc_ o).keep (fun g hg => hb.block g ((h.alloc_ o).lt g hg))
theorem OwLists.step0 {w w' : World} {H : HLists} {x : Lists} (h : OwLists w H x) (hb : Below w.heap.size w w') : OwLists w' H x := h.keep (fun g hg => hb.block g (h.lt g hg))

theorem OwMem.alloc_ {w : World} {H : HMem} {x : Mem} (h : OwMem w H x) (o : Obj) : OwMem (w.alloc o) H x := h.keep fun g hg => Below.heap_alloc w o g (h.lt g hg)
theorem OwMem.step {w w' : World} {o : Obj} {H : HMem} {x : Mem} (h : OwMem w H x) (hb : Below (w.alloc o).heap.size (w.alloc o) w') : OwMem w' H x := (h.alloc_ o).keep (fun g hg => hb.block g ((h.alloc_ o).lt g hg))
theorem OwMem.step0 {w w' : World} {H : HMem} {x : Mem} (h : OwMem w H x) (hb : Below w.heap.size w w') : OwMem w' H x := h.keep (fun g hg => hb.block g (h.lt g hg))

theorem nMark_size_Heap (x : Heap) : nMarkHeap x ≤ sizeHeap x := Nat.le_refl _
theorem nMark_size_Lists (x : Lists) : nMarkLists x ≤ sizeLists x := Nat.add_le_add (Nat.le_add_left _ _) (Nat.le_add_left _ _)
theorem nMark_size_Mem (x : Mem) : nMarkMem x ≤ sizeMem x := Nat.add_le_add (nMark_size_Heap _) (nMark_size_Lists _)
end Go.Proofs.YtpjijbonpjoamaaGreat

/-
  Copies of bytes, lists, heaps: the contracts.
-/
namespace Go.Proofs.YtpjijbonpjoamaaGreat
open Go.RowKit

theorem Chg.drew_ {F : List Nat} {w w' : World} (h : Chg F w w') : Chg F w w'.drew := ⟨h.os, h.tape, h.output, h.size, h.block⟩
theorem foot1_nodup (v : Value) : (foot1 v).Nodup := by
  unfold foot1
  cases v.ownBlock <;> simp
theorem OwLL.snoc {α : Type} {T : FT α} {e E : TypeId} {w w' : World} {v v' : Value} {svs : List SV} {ll : List (List α)} (h : OwLL T e E w v svs ll) {s : SV} {l : List α} (hl : OwL T e w s.val l) (hd : ∀ g ∈ foot1 s.val, g ∉ foot2 v svs)
    (ho : OwL FS E w' v' (svs ++ [s])) (hg : w.grownBy w' v.ownBlock) (hat : v'.ownBlock = v.ownBlock ∨ v'.ownBlock = some w.heap.size) : OwLL T e E w' v' (svs ++ [s]) (ll ++ [l]) := by
  have hc := Chg.of_grown hg
  have hn := h.nodup
  unfold foot2 at hn
  rw [List.nodup_append] at hn
  obtain ⟨hn1, hn2, hn3⟩ := hn
  refine ⟨by simp [h.len], ho, fun k s' l' hk hl' => ?_, ?_⟩
  · by_cases hks : k < svs.length
    · rw [List.getElem?_append_left hks] at hk
      rw [List.getElem?_append_left (by rw [← h.len]; exact hks)] at hl'
      have hi := h.inner k s' l' hk hl'
      exact hi.chg hc fun g hg1 hg2 => hn3 g hg2 g (List.mem_flatMap.2 ⟨s', List.mem_of_getElem? hk, hg1⟩) rfl
    · rw [List.getElem?_append_right (by omega)] at hk
      rw [List.getElem?_append_right (by rw [← h.len]; omega), ← h.len] at hl'
      have hk0 : k - svs.length = 0 := by
        have := (List.getElem?_eq_some_iff.1 hk).1
        simp at this
        omega
      rw [hk0] at hk hl'
      cases hk
      cases hl'
      exact hl.chg hc fun g hg1 hg2 => hd g hg1 (mem_foot2.2 (.inl (mem_foot1.1 hg2)))
  · unfold foot2
    rw [List.flatMap_append, List.nodup_append]
    refine ⟨foot1_nodup _, ?_, fun a ha b hb => ?_⟩
    · rw [List.nodup_append]
      refine ⟨hn2, by simpa using foot1_nodup s.val, fun a ha b hb => ?_⟩
      rintro rfl
      have hb' : a ∈ foot1 s.val := by simpa using hb
      exact hd a hb' (by unfold foot2; exact List.mem_append.2 (.inr ha))
    · rintro rfl
      rcases foot_app hat a ha with h1 | h1
      · rcases List.mem_append.1 hb with h2 | h2
        · exact hn3 a h1 a h2 rfl
        · have h2' : a ∈ foot1 s.val := by simpa using h2
          exact hd a h2' (mem_foot2.2 (.inl (mem_foot1.1 h1)))
      · rcases List.mem_append.1 hb with h2 | h2
        · have := h.lt a (by unfold foot2; exact List.mem_append.2 (.inr h2))
          omega
        · have h2' : a ∈ foot1 s.val := by simpa using h2
          have := foot_lt hl a h2'
          omega
set_option maxHeartbeats 400000 in
theorem CloneInt_ct (w : World) (v : Value) (l : List Int) (h : RdL FI w w.heap.size v l) (hs : l.length ≤ 1073741824) :
    Calls Tryz.prog 122 #[v] w fun e w' => ∃ v', e = .returned v' ∧ OwL FI 3 w' v' l ∧ (∀ g ∈ foot1 v', w.heap.size ≤ g) ∧ Below w.heap.size w w' := by
  obtain ⟨A, c, hv, _, _, q3⟩ := id h
  subst hv
  have heq := fun w => Lib.run_eql_slice_nil (P := Tryz.prog) w 22 3 A l.length c 0 0 Tryz.underlying22
  cases A with
  | none =>
    have hl : l = [] := by
      apply Classical.byContradiction
      intro hne
      obtain ⟨g, off, hA, _⟩ := q3 hne
      cases hA
    have HL := Hid.mk_ hl
    clear hl q3 h
    go_enter Tryz.func122, Tryz.ntmps122
    go_wp2
    go_ret
    exact ⟨_, rfl, by rw [HL.out]; exact World.ownsRow_nil _ _ _ _, by simp [foot1, Value.ownBlock], Below.refl _ _⟩
  | some a =>
    go_enter Tryz.func122, Tryz.ntmps122
    go_wp2_with (at_builtin; refine wpList_append_flat Tryz.stInt rfl _ _ rfl (v := .slice (some ⟨w.heap.size, 0, none⟩) 0 0) (y := .slice (some a) l.length c) (l := []) (m := l) rfl rfl (OwL.lit FI [] #[] rfl (by simp [maxLen]) _ _) (h.alloc_ (Nat.le_refl _) (Nat.le_succ _) _) (by simpa using hs) ?_; intro v' w1 ho hg hat)
    go_ret
    have hb : Below w.heap.size w w1 := ((Below.refl _ _).alloc (Nat.le_refl _) _).grown hg (by simp) (by simp [Value.ownBlock])
    exact ⟨v', rfl, by simpa using ho, fun g hg' => by rcases foot_app hat g hg' with h | h; (simp [foot1, Value.ownBlock] at h; omega); (simp at h; omega), hb⟩

set_option maxHeartbeats 400000 in
theorem l3Copy_ct (w : World) (v : Value) (l : List Int) (h : RdL FI w w.heap.size v l) (hs : l.length ≤ 1073741824) :
    Calls Tryz.prog 105 #[v] w fun e w' => ∃ v', e = .returned v' ∧ OwL FI 3 w' v' l ∧ (∀ g ∈ foot1 v', w.heap.size ≤ g) ∧ Below w.heap.size w w' := by
  obtain ⟨A, c, hv, _, _, q3⟩ := id h
  subst hv
  go_enter Tryz.func105, Tryz.ntmps105
  go_wp2_with (at_builtin; refine wpList_append_flat Tryz.stInt rfl _ _ rfl (v := .slice (some ⟨w.heap.size, 0, none⟩) 0 0) (y := .slice A l.length c) (l := []) (m := l) rfl rfl (OwL.lit FI [] #[] rfl (by simp [maxLen]) _ _) (h.alloc_ (Nat.le_refl _) (Nat.le_succ _) _) (by simpa using hs) ?_; intro v' w1 ho hg hat)
  go_ret
  have hb : Below w.heap.size w w1 := ((Below.refl _ _).alloc (Nat.le_refl _) _).grown hg (by simp) (by simp [Value.ownBlock])
  exact ⟨v', rfl, by simpa using ho, fun g hg' => by rcases foot_app hat g hg' with h | h; (simp [foot1, Value.ownBlock] at h; omega); (simp at h; omega), hb⟩

set_option maxRecDepth 100000 in
set_option maxHeartbeats 1000000 in
theorem l8Rows_spec (w : World) (v : Value) (t : List SV) (ll : List (List Int)) (h : RdLL FI w w.heap.size v t ll) (hs : szLL ll ≤ 536870912) :
    Calls Tryz.prog 106 #[v] w fun e w' => ∃ v' t', e = .returned v' ∧ OwLL FI 3 80 w' v' t' ll ∧ (∀ g ∈ foot2 v' t', w.heap.size ≤ g) ∧ Below w.heap.size w w' := by
  obtain ⟨A, c, hv, _⟩ := id h.outer
  subst hv
  obtain ⟨en, hcap, hmx⟩ := h.len'
  have hlt0 : ll.length ≤ 9223372036854775807 := by unfold maxLen at hmx; omega
  rw [en] at h ⊢
  clear en hcap hmx
  have hs0 : ll.length ≤ 536870912 := Nat.le_trans (Nat.le_add_right _ _) hs
  have o0 : OwLL FI 3 80 (w.alloc (.cells #[] 80)) (.slice (some ⟨w.heap.size, 0, none⟩) 0 0) [] [] := ⟨rfl, OwL.lit FS [] #[] rfl (by decide) w 80, fun k s l h => by simp at h, by simp [foot2, foot1, Value.ownBlock]⟩
  go_enter Tryz.func106, Tryz.ntmps106
  go_wp2
  go_loopw [3, 4] (fun o i wr => ∃ k : Nat, k ≤ ll.length ∧ i = .int .i64 k ∧ (∃ t', OwLL FI 3 80 wr o t' (ll.take k) ∧ (∀ g ∈ foot2 o t', w.heap.size ≤ g)) ∧ Below w.heap.size w wr) (fun _ i _ => ll.length - (intOf i).toNat)
  case atStart => exact ⟨0, Nat.zero_le _, rfl, ⟨[], o0, by simp [foot2, foot1, Value.ownBlock]⟩, (Below.refl _ _).alloc (Nat.le_refl _) _⟩
  case round =>
    obtain ⟨i, hi, rfl, ⟨t', ho, hfo⟩, hb⟩ := hrel
    clear o0
    by_cases hlt : i < ll.length
    · obtain ⟨g, o, A', c', rfl, hg, p0, r1⟩ := h.row hb hlt
      have hlen : ll[i].length ≤ 1073741824 := by have := le_szLL (List.getElem_mem hlt); omega
      have htl : t'.length ≤ 536870912 := by rw [ho.len, List.length_take]; omega
      have z1 : g < wr.heap.size := Nat.lt_of_lt_of_le hg hb.size
      have HTk := Hid.mk_ (List.take_succ_eq_append_getElem hlt)
      clear h
      go_wp2_with (first | (go_at_call 105; refine (l3Copy_ct _ _ ll[i] (rd_up r1 hb) hlen).mono ?_; rintro e w1 ⟨vs, rfl, hos, hfs2, hbb⟩; obtain ⟨A2, c2, hv2, _⟩ := hos.rd'; subst hv2) | (at_builtin; refine wpList_append_flat Tryz.stSL rfl _ _ rfl (v := u3) (y := .slice (some ⟨w1.heap.size, 0, none⟩) 1 1) (l := t') (m := [⟨A2, ll[i].length, c2⟩]) rfl rfl ((ho.keep (fun g hg => hbb.block g (ho.lt g hg))).outer.alloc_ _) (OwL.lit FS [⟨A2, ll[i].length, c2⟩] #[.slice A2 ll[i].length c2] rfl (by simp [maxLen]) w1 80).rd' (by simp only [List.length_singleton]; omega) ?_; intro v' w3 ho' hg' hat'))
      have hsn := OwLL.snoc ((ho.keep (fun g hg => hbb.block g (ho.lt g hg))).alloc_ (.cells #[.slice A2 ll[i].length c2] 80)) (s := ⟨A2, ll[i].length, c2⟩) (hos.alloc_ _) (fun g hg hm => by have a := hfs2 g hg; have b := ho.lt g hm; omega) ho' hg' hat'
      have hbb2 : Below w.heap.size w w1 := hb.trans (hbb.mono hb.size)
      have hb3 : Below w.heap.size w w3 := (hbb2.alloc hbb2.size _).grown hg' (by simp; exact Nat.le_succ_of_le hbb2.size) (fun k hk => hfo k (mem_foot2.2 (.inl hk)))
      go_roundw
      case rel =>
        refine ⟨i + 1, by omega, by go_num, ⟨_, by rw [HTk.out]; exact hsn, fun b hb' => ?_⟩, hb3⟩
        unfold foot2 at hb'
        rw [List.flatMap_append] at hb'
        rcases List.mem_append.1 hb' with h1 | h1
        · rcases foot_app hat' b h1 with h2 | h2
          · exact hfo b (mem_foot2.2 (.inl (mem_foot1.1 h2)))
          · have := hbb2.size
            simp at h2
            omega
        · rcases List.mem_append.1 h1 with h2 | h2
          · exact hfo b (by unfold foot2; exact List.mem_append.2 (.inr h2))
          · have h4 : b ∈ foot1 (SV.val ⟨A2, ll[i].length, c2⟩) := by simpa using h2
            have := hfs2 b h4
            have := hb.size
            omega
      case measure => simp [intOf]; omega
    · go_wp2
      go_ret
      obtain rfl : i = ll.length := by omega
      exact ⟨u3, t', rfl, by simpa using ho, hfo, hb⟩

theorem CloneInt_w (w : World) (K : SV) (l : List Int) (h : RdL FI w w.heap.size K.val l) (hs : l.length ≤ 1073741824) :
    Calls Tryz.prog 122 #[.slice K.a K.len K.cap] w fun e w' => ∃ K' : SV, e = .returned (.slice K'.a K'.len K'.cap) ∧ OwL FI 3 w' K'.val l ∧ (∀ g ∈ foot1 K'.val, w.heap.size ≤ g) ∧ Below w.heap.size w w' := by
  refine (CloneInt_ct w _ l h hs).mono ?_
  rintro e w1 ⟨v, rfl, ho, hf, hb⟩
  obtain ⟨A, c, hv, _⟩ := ho.rd'
  subst hv
  exact ⟨⟨A, l.length, c⟩, rfl, ho, hf, hb⟩
theorem l3Copy_w (w : World) (K : SV) (l : List Int) (h : RdL FI w w.heap.size K.val l) (hs : l.length ≤ 1073741824) :
    Calls Tryz.prog 105 #[.slice K.a K.len K.cap] w fun e w' => ∃ K' : SV, e = .returned (.slice K'.a K'.len K'.cap) ∧ OwL FI 3 w' K'.val l ∧ (∀ g ∈ foot1 K'.val, w.heap.size ≤ g) ∧ Below w.heap.size w w' := by
  refine (l3Copy_ct w _ l h hs).mono ?_
  rintro e w1 ⟨v, rfl, ho, hf, hb⟩
  obtain ⟨A, c, hv, _⟩ := ho.rd'
  subst hv
  exact ⟨⟨A, l.length, c⟩, rfl, ho, hf, hb⟩
theorem l8Rows_w (w : World) (K : SV) (t : List SV) (ll : List (List Int)) (h : RdLL FI w w.heap.size K.val t ll) (hs : szLL ll ≤ 536870912) :
    Calls Tryz.prog 106 #[.slice K.a K.len K.cap] w fun e w' => ∃ (K' : SV) (t' : List SV), e = .returned (.slice K'.a K'.len K'.cap) ∧ OwLL FI 3 80 w' K'.val t' ll ∧ (∀ g ∈ foot2 K'.val t', w.heap.size ≤ g) ∧ Below w.heap.size w w' := by
  refine (l8Rows_spec w _ t ll h hs).mono ?_
  rintro e w1 ⟨v, t', rfl, ho, hf, hb⟩
  obtain ⟨A, c, hv, _⟩ := ho.rd'.outer
  subst hv
  exact ⟨⟨A, t'.length, c⟩, t', rfl, ho, hf, hb⟩

set_option maxRecDepth 100000 in
set_option maxHeartbeats 2000000 in
theorem copyHeap_impl (w : World) (H : HHeap) (x : Heap) (h : RdHeap w w.heap.size H x) (hs : sizeHeap x ≤ 1073741824) :
    Calls Tryz.prog 76 #[.agg #[.slice H.Bytes.a H.Bytes.len H.Bytes.cap, .slice H.Class.a H.Class.len H.Class.cap]] w fun e w' => ∃ H' : HHeap, e = .returned (H'.val x) ∧ OwHeap w' H' x ∧ (∀ g ∈ H'.foot, w.heap.size ≤ g) ∧ Below w.heap.size w w' := by
  have hs1 : x.Bytes.length ≤ 1073741824 := Nat.le_trans (Nat.le_add_right _ _) hs
  have hs2 : x.Class.length ≤ 1073741824 := Nat.le_trans (Nat.le_add_left _ _) hs
  clear hs
  have ba : Box ((w.alloc (.cells #[.slice H.Bytes.a H.Bytes.len H.Bytes.cap, .slice H.Class.a H.Class.len H.Class.cap] 31)).alloc (.cells #[.slice none 0 0, .slice none 0 0] 31)) w.heap.size [.slice H.Bytes.a H.Bytes.len H.Bytes.cap, .slice H.Class.a H.Class.len H.Class.cap] := (Box.new w #[.slice H.Bytes.a H.Bytes.len H.Bytes.cap, .slice H.Class.a H.Class.len H.Class.cap] _).alloc _
  have br : Box ((w.alloc (.cells #[.slice H.Bytes.a H.Bytes.len H.Bytes.cap, .slice H.Class.a H.Class.len H.Class.cap] 31)).alloc (.cells #[.slice none 0 0, .slice none 0 0] 31)) (w.heap.size + 1) [.slice none 0 0, .slice none 0 0] := by
    have hb := Box.new (w.alloc (.cells #[.slice H.Bytes.a H.Bytes.len H.Bytes.cap, .slice H.Class.a H.Class.len H.Class.cap] 31)) #[.slice none 0 0, .slice none 0 0] 31
    rw [World.size_alloc] at hb
    exact hb
  have hB : Below w.heap.size w ((w.alloc (.cells #[.slice H.Bytes.a H.Bytes.len H.Bytes.cap, .slice H.Class.a H.Class.len H.Class.cap] 31)).alloc (.cells #[.slice none 0 0, .slice none 0 0] 31)) := by repeat (first | exact Below.refl _ _ | refine Below.alloc ?_ (by simp <;> omega) _ | refine below_grow_of ?_ (by simp <;> omega) _ _ | refine Below.drew ?_ | refine below_drewN ?_ _)
  go_enter Tryz.func76, Tryz.ntmps76
  go_wp2_with fail
  generalize hW0 : ((w.alloc (.cells #[.slice H.Bytes.a H.Bytes.len H.Bytes.cap, .slice H.Class.a H.Class.len H.Class.cap] 31)).alloc (.cells #[.slice none 0 0, .slice none 0 0] 31)) = w0 at ba br hB ⊢
  clear hW0
  have qa0 := ba.cell 0 _ rfl
  have qr0 := br.cell 0 _ rfl
  have qa1 := ba.cell 1 _ rfl
  have qr1 := br.cell 1 _ rfl
  have fr := br.fro
  have z0 := br.lt
  go_region_with (first | (go_at_call 122; (first | ((with_reducible refine (CloneInt_w _ H.Bytes x.Bytes (rd_up h.Bytes hB) hs1).mono ?_); rintro e w1 ⟨K0, rfl, o0, f0, hb⟩; replace ba := ba.below hb; replace br := br.below hb; replace hB := hB.trans (hb.mono hB.size); have sz := hb.size; have u0 := foot_lt o0; (try replace o1 := o1.step0 hb); replace qa0 := ba.cell 0 _ rfl; replace qr0 := br.cell 0 _ rfl; replace qa1 := ba.cell 1 _ rfl; replace qr1 := br.cell 1 _ rfl; replace fr := br.fro; clear hb) | ((with_reducible refine (CloneInt_w _ H.Bytes x.Bytes (rd_up h.Bytes hB.drew) hs1).mono ?_); rintro e w1 ⟨K0, rfl, o0, f0, hb⟩; replace hb := undrew hb; replace f0 := fcdrew f0; replace ba := ba.below hb; replace br := br.below hb; replace hB := hB.trans (hb.mono hB.size); have sz := hb.size; have u0 := foot_lt o0; (try replace o1 := o1.step0 hb); replace qa0 := ba.cell 0 _ rfl; replace qr0 := br.cell 0 _ rfl; replace qa1 := ba.cell 1 _ rfl; replace qr1 := br.cell 1 _ rfl; replace fr := br.fro; clear hb) | ((with_reducible refine (CloneInt_w _ H.Class x.Class (rd_up h.Class hB) hs2).mono ?_); rintro e w2 ⟨K1, rfl, o1, f1, hb⟩; replace ba := ba.below hb; replace br := br.below hb; replace hB := hB.trans (hb.mono hB.size); have sz := hb.size; have u1 := foot_lt o1; (try replace o0 := o0.step0 hb); replace qa0 := ba.cell 0 _ rfl; replace qr0 := br.cell 0 _ rfl; replace qa1 := ba.cell 1 _ rfl; replace qr1 := br.cell 1 _ rfl; replace fr := br.fro; clear hb) | ((with_reducible refine (CloneInt_w _ H.Class x.Class (rd_up h.Class hB.drew) hs2).mono ?_); rintro e w2 ⟨K1, rfl, o1, f1, hb⟩; replace hb := undrew hb; replace f1 := fcdrew f1; replace ba := ba.below hb; replace br := br.below hb; replace hB := hB.trans (hb.mono hB.size); have sz := hb.size; have u1 := foot_lt o1; (try replace o0 := o0.step0 hb); replace qa0 := ba.cell 0 _ rfl; replace qr0 := br.cell 0 _ rfl; replace qa1 := ba.cell 1 _ rfl; replace qr1 := br.cell 1 _ rfl; replace fr := br.fro; clear hb))))
  all_goals
    go_wp2_with fail
    refine bodyPost_ret (v := .agg #[.slice K0.a K0.len K0.cap, .slice K1.a K1.len K1.cap]) (by simp [results, Tryz.results76, go_sem, qr0, qr1]) rfl ⟨⟨K0, K1⟩, rfl, ⟨o0.chg (F := [w.heap.size + 1]) (by repeat (first | exact Chg.refl _ _ | refine Chg.set_ ?_ (by simp) _ | refine Chg.drew_ ?_)) (fun g hg hm => by simp only [List.mem_cons, List.not_mem_nil, or_false] at hm; have := f0 g hg; omega), o1.chg (F := [w.heap.size + 1]) (by repeat (first | exact Chg.refl _ _ | refine Chg.set_ ?_ (by simp) _ | refine Chg.drew_ ?_)) (fun g hg hm => by simp only [List.mem_cons, List.not_mem_nil, or_false] at hm; have := f1 g hg; omega), fun g hg hm => by have := u0 g hg; have := f0 g hg; have := u1 g hm; have := f1 g hm; omega⟩, fun g hg => ?_, ?_⟩
    · rcases HHeap.mem_foot.1 hg with hg | hg
      · have := f0 g hg
        omega
      · have := f1 g hg
        omega
    · exact Below.trans hB (by repeat (first | exact Below.refl _ _ | refine Below.setCell ?_ (by simp <;> omega) _ | refine Below.drew ?_))

set_option maxRecDepth 100000 in
set_option maxHeartbeats 2000000 in
theorem l7Copy_spec (w : World) (H : HHeap) (x : Heap) (h : RdHeap w w.heap.size H x) (hs : sizeHeap x ≤ 1073741824) :
    Calls Tryz.prog 57 #[.agg #[.slice H.Bytes.a H.Bytes.len H.Bytes.cap, .slice H.Class.a H.Class.len H.Class.cap]] w fun e w' => ∃ H' : HHeap, e = .returned (H'.val x) ∧ OwHeap w' H' x ∧ (∀ g ∈ H'.foot, w.heap.size ≤ g) ∧ Below w.heap.size w w' := by
  have hs1 : x.Bytes.length ≤ 1073741824 := Nat.le_trans (Nat.le_add_right _ _) hs
  have hs2 : x.Class.length ≤ 1073741824 := Nat.le_trans (Nat.le_add_left _ _) hs
  clear hs
  have ba : Box ((w.alloc (.cells #[.slice H.Bytes.a H.Bytes.len H.Bytes.cap, .slice H.Class.a H.Class.len H.Class.cap] 31)).alloc (.cells #[.slice none 0 0, .slice none 0 0] 31)) w.heap.size [.slice H.Bytes.a H.Bytes.len H.Bytes.cap, .slice H.Class.a H.Class.len H.Class.cap] := (Box.new w #[.slice H.Bytes.a H.Bytes.len H.Bytes.cap, .slice H.Class.a H.Class.len H.Class.cap] _).alloc _
  have br : Box ((w.alloc (.cells #[.slice H.Bytes.a H.Bytes.len H.Bytes.cap, .slice H.Class.a H.Class.len H.Class.cap] 31)).alloc (.cells #[.slice none 0 0, .slice none 0 0] 31)) (w.heap.size + 1) [.slice none 0 0, .slice none 0 0] := by
    have hb := Box.new (w.alloc (.cells #[.slice H.Bytes.a H.Bytes.len H.Bytes.cap, .slice H.Class.a H.Class.len H.Class.cap] 31)) #[.slice none 0 0, .slice none 0 0] 31
    rw [World.size_alloc] at hb
    exact hb
  have hB : Below w.heap.size w ((w.alloc (.cells #[.slice H.Bytes.a H.Bytes.len H.Bytes.cap, .slice H.Class.a H.Class.len H.Class.cap] 31)).alloc (.cells #[.slice none 0 0, .slice none 0 0] 31)) := by repeat (first | exact Below.refl _ _ | refine Below.alloc ?_ (by simp <;> omega) _ | refine below_grow_of ?_ (by simp <;> omega) _ _ | refine Below.drew ?_ | refine below_drewN ?_ _)
  go_enter Tryz.func57, Tryz.ntmps57
  go_wp2_with fail
  generalize hW0 : ((w.alloc (.cells #[.slice H.Bytes.a H.Bytes.len H.Bytes.cap, .slice H.Class.a H.Class.len H.Class.cap] 31)).alloc (.cells #[.slice none 0 0, .slice none 0 0] 31)) = w0 at ba br hB ⊢
  clear hW0
  have qa0 := ba.cell 0 _ rfl
  have qr0 := br.cell 0 _ rfl
  have qa1 := ba.cell 1 _ rfl
  have qr1 := br.cell 1 _ rfl
  have fr := br.fro
  have z0 := br.lt
  go_region_with (first | (go_at_call 105; (first | ((with_reducible refine (l3Copy_w _ H.Bytes x.Bytes (rd_up h.Bytes hB) hs1).mono ?_); rintro e w1 ⟨K0, rfl, o0, f0, hb⟩; replace ba := ba.below hb; replace br := br.below hb; replace hB := hB.trans (hb.mono hB.size); have sz := hb.size; have u0 := foot_lt o0; (try replace o1 := o1.step0 hb); replace qa0 := ba.cell 0 _ rfl; replace qr0 := br.cell 0 _ rfl; replace qa1 := ba.cell 1 _ rfl; replace qr1 := br.cell 1 _ rfl; replace fr := br.fro; clear hb) | ((with_reducible refine (l3Copy_w _ H.Bytes x.Bytes (rd_up h.Bytes hB.drew) hs1).mono ?_); rintro e w1 ⟨K0, rfl, o0, f0, hb⟩; replace hb := undrew hb; replace f0 := fcdrew f0; replace ba := ba.below hb; replace br := br.below hb; replace hB := hB.trans (hb.mono hB.size); have sz := hb.size; have u0 := foot_lt o0; (try replace o1 := o1.step0 hb); replace qa0 := ba.cell 0 _ rfl; replace qr0 := br.cell 0 _ rfl; replace qa1 := ba.cell 1 _ rfl; replace qr1 := br.cell 1 _ rfl; replace fr := br.fro; clear hb) | ((with_reducible refine (l3Copy_w _ H.Class x.Class (rd_up h.Class hB) hs2).mono ?_); rintro e w2 ⟨K1, rfl, o1, f1, hb⟩; replace ba := ba.below hb; replace br := br.below hb; replace hB := hB.trans (hb.mono hB.size); have sz := hb.size; have u1 := foot_lt o1; (try replace o0 := o0.step0 hb); replace qa0 := ba.cell 0 _ rfl; replace qr0 := br.cell 0 _ rfl; replace qa1 := ba.cell 1 _ rfl; replace qr1 := br.cell 1 _ rfl; replace fr := br.fro; clear hb) | ((with_reducible refine (l3Copy_w _ H.Class x.Class (rd_up h.Class hB.drew) hs2).mono ?_); rintro e w2 ⟨K1, rfl, o1, f1, hb⟩; replace hb := undrew hb; replace f1 := fcdrew f1; replace ba := ba.below hb; replace br := br.below hb; replace hB := hB.trans (hb.mono hB.size); have sz := hb.size; have u1 := foot_lt o1; (try replace o0 := o0.step0 hb); replace qa0 := ba.cell 0 _ rfl; replace qr0 := br.cell 0 _ rfl; replace qa1 := ba.cell 1 _ rfl; replace qr1 := br.cell 1 _ rfl; replace fr := br.fro; clear hb))))
  all_goals
    go_wp2_with fail
    refine bodyPost_ret (v := .agg #[.slice K0.a K0.len K0.cap, .slice K1.a K1.len K1.cap]) (by simp [results, Tryz.results57, go_sem, qr0, qr1]) rfl ⟨⟨K0, K1⟩, rfl, ⟨o0.chg (F := [w.heap.size + 1]) (by repeat (first | exact Chg.refl _ _ | refine Chg.set_ ?_ (by simp) _ | refine Chg.drew_ ?_)) (fun g hg hm => by simp only [List.mem_cons, List.not_mem_nil, or_false] at hm; have := f0 g hg; omega), o1.chg (F := [w.heap.size + 1]) (by repeat (first | exact Chg.refl _ _ | refine Chg.set_ ?_ (by simp) _ | refine Chg.drew_ ?_)) (fun g hg hm => by simp only [List.mem_cons, List.not_mem_nil, or_false] at hm; have := f1 g hg; omega), fun g hg hm => by have := u0 g hg; have := f0 g hg; have := u1 g hm; have := f1 g hm; omega⟩, fun g hg => ?_, ?_⟩
    · rcases HHeap.mem_foot.1 hg with hg | hg
      · have := f0 g hg
        omega
      · have := f1 g hg
        omega
    · exact Below.trans hB (by repeat (first | exact Below.refl _ _ | refine Below.setCell ?_ (by simp <;> omega) _ | refine Below.drew ?_))

set_option maxRecDepth 100000 in
set_option maxHeartbeats 2000000 in
theorem l8Copy_spec (w : World) (H : HLists) (x : Lists) (h : RdLists w w.heap.size H x) (hs : sizeLists x ≤ 536870912) :
    Calls Tryz.prog 58 #[.agg #[.slice H.Global.a H.Global.len H.Global.cap, .slice H.Own.a H.Own.len H.Own.cap]] w fun e w' => ∃ H' : HLists, e = .returned (H'.val x) ∧ OwLists w' H' x ∧ (∀ g ∈ H'.foot, w.heap.size ≤ g) ∧ Below w.heap.size w w' := by
  have hs1 : szLL x.Global ≤ 536870912 := Nat.le_trans (Nat.le_add_right _ _) hs
  have hs2 : szLL x.Own ≤ 536870912 := Nat.le_trans (Nat.le_add_left _ _) hs
  clear hs
  have ba : Box ((w.alloc (.cells #[.slice H.Global.a H.Global.len H.Global.cap, .slice H.Own.a H.Own.len H.Own.cap] 34)).alloc (.cells #[.slice none 0 0, .slice none 0 0] 34)) w.heap.size [.slice H.Global.a H.Global.len H.Global.cap, .slice H.Own.a H.Own.len H.Own.cap] := (Box.new w #[.slice H.Global.a H.Global.len H.Global.cap, .slice H.Own.a H.Own.len H.Own.cap] _).alloc _
  have br : Box ((w.alloc (.cells #[.slice H.Global.a H.Global.len H.Global.cap, .slice H.Own.a H.Own.len H.Own.cap] 34)).alloc (.cells #[.slice none 0 0, .slice none 0 0] 34)) (w.heap.size + 1) [.slice none 0 0, .slice none 0 0] := by
    have hb := Box.new (w.alloc (.cells #[.slice H.Global.a H.Global.len H.Global.cap, .slice H.Own.a H.Own.len H.Own.cap] 34)) #[.slice none 0 0, .slice none 0 0] 34
    rw [World.size_alloc] at hb
    exact hb
  have hB : Below w.heap.size w ((w.alloc (.cells #[.slice H.Global.a H.Global.len H.Global.cap, .slice H.Own.a H.Own.len H.Own.cap] 34)).alloc (.cells #[.slice none 0 0, .slice none 0 0] 34)) := by repeat (first | exact Below.refl _ _ | refine Below.alloc ?_ (by simp <;> omega) _ | refine below_grow_of ?_ (by simp <;> omega) _ _ | refine Below.drew ?_ | refine below_drewN ?_ _)
  go_enter Tryz.func58, Tryz.ntmps58
  go_wp2_with fail
  generalize hW0 : ((w.alloc (.cells #[.slice H.Global.a H.Global.len H.Global.cap, .slice H.Own.a H.Own.len H.Own.cap] 34)).alloc (.cells #[.slice none 0 0, .slice none 0 0] 34)) = w0 at ba br hB ⊢
  clear hW0
  have qa0 := ba.cell 0 _ rfl
  have qr0 := br.cell 0 _ rfl
  have qa1 := ba.cell 1 _ rfl
  have qr1 := br.cell 1 _ rfl
  have fr := br.fro
  have z0 := br.lt
  go_region_with (first | (go_at_call 106; (first | ((with_reducible refine (l8Rows_w _ H.Global H.GlobalT x.Global (rdLL_up h.Global hB) hs1).mono ?_); rintro e w1 ⟨K0, t0, rfl, o0, f0, hb⟩; replace ba := ba.below hb; replace br := br.below hb; replace hB := hB.trans (hb.mono hB.size); have sz := hb.size; have u0 := o0.lt; (try replace o1 := o1.step0 hb); replace qa0 := ba.cell 0 _ rfl; replace qr0 := br.cell 0 _ rfl; replace qa1 := ba.cell 1 _ rfl; replace qr1 := br.cell 1 _ rfl; replace fr := br.fro; clear hb) | ((with_reducible refine (l8Rows_w _ H.Global H.GlobalT x.Global (rdLL_up h.Global hB.drew) hs1).mono ?_); rintro e w1 ⟨K0, t0, rfl, o0, f0, hb⟩; replace hb := undrew hb; replace f0 := fcdrew f0; replace ba := ba.below hb; replace br := br.below hb; replace hB := hB.trans (hb.mono hB.size); have sz := hb.size; have u0 := o0.lt; (try replace o1 := o1.step0 hb); replace qa0 := ba.cell 0 _ rfl; replace qr0 := br.cell 0 _ rfl; replace qa1 := ba.cell 1 _ rfl; replace qr1 := br.cell 1 _ rfl; replace fr := br.fro; clear hb) | ((with_reducible refine (l8Rows_w _ H.Own H.OwnT x.Own (rdLL_up h.Own hB) hs2).mono ?_); rintro e w2 ⟨K1, t1, rfl, o1, f1, hb⟩; replace ba := ba.below hb; replace br := br.below hb; replace hB := hB.trans (hb.mono hB.size); have sz := hb.size; have u1 := o1.lt; (try replace o0 := o0.step0 hb); replace qa0 := ba.cell 0 _ rfl; replace qr0 := br.cell 0 _ rfl; replace qa1 := ba.cell 1 _ rfl; replace qr1 := br.cell 1 _ rfl; replace fr := br.fro; clear hb) | ((with_reducible refine (l8Rows_w _ H.Own H.OwnT x.Own (rdLL_up h.Own hB.drew) hs2).mono ?_); rintro e w2 ⟨K1, t1, rfl, o1, f1, hb⟩; replace hb := undrew hb; replace f1 := fcdrew f1; replace ba := ba.below hb; replace br := br.below hb; replace hB := hB.trans (hb.mono hB.size); have sz := hb.size; have u1 := o1.lt; (try replace o0 := o0.step0 hb); replace qa0 := ba.cell 0 _ rfl; replace qr0 := br.cell 0 _ rfl; replace qa1 := ba.cell 1 _ rfl; replace qr1 := br.cell 1 _ rfl; replace fr := br.fro; clear hb))))
  all_goals
    go_wp2_with fail
    refine bodyPost_ret (v := .agg #[.slice K0.a K0.len K0.cap, .slice K1.a K1.len K1.cap]) (by simp [results, Tryz.results58, go_sem, qr0, qr1]) rfl ⟨⟨K0, t0, K1, t1⟩, rfl, ⟨o0.chg (F := [w.heap.size + 1]) (by repeat (first | exact Chg.refl _ _ | refine Chg.set_ ?_ (by simp) _ | refine Chg.drew_ ?_)) (fun g hg hm => by simp only [List.mem_cons, List.not_mem_nil, or_false] at hm; have := f0 g hg; omega), o1.chg (F := [w.heap.size + 1]) (by repeat (first | exact Chg.refl _ _ | refine Chg.set_ ?_ (by simp) _ | refine Chg.drew_ ?_)) (fun g hg hm => by simp only [List.mem_cons, List.not_mem_nil, or_false] at hm; have := f1 g hg; omega), fun g hg hm => by have := u0 g hg; have := f0 g hg; have := u1 g hm; have := f1 g hm; omega⟩, fun g hg => ?_, ?_⟩
    · rcases HLists.mem_foot.1 hg with hg | hg
      · have := f0 g hg
        omega
      · have := f1 g hg
        omega
    · exact Below.trans hB (by repeat (first | exact Below.refl _ _ | refine Below.setCell ?_ (by simp <;> omega) _ | refine Below.drew ?_))
end Go.Proofs.YtpjijbonpjoamaaGreat

/-
  Copies of lists, memories: the contracts.
-/
namespace Go.Proofs.YtpjijbonpjoamaaGreat
open Go.RowKit

theorem OwLL.nil_ {α : Type} {T : FT α} {e E : TypeId} {w : World} : OwLL T e E w (.slice none 0 0) [] [] := ⟨rfl, World.ownsRow_nil _ _ _ _, fun k s l h => by simp at h, by simp [foot2, foot1, Value.ownBlock]⟩
theorem Chg.then_ {F : List Nat} {a b c : World} (h : Chg F a b) (hb : Below a.heap.size b c) : Chg F a c :=
  ⟨hb.os.trans h.os, hb.tape.trans h.tape, hb.output.trans h.output, Nat.le_trans h.size hb.size, fun k hk hn => (hb.block k hk).trans (h.block k hk hn)⟩
set_option maxRecDepth 100000 in
set_option maxHeartbeats 4000000 in
theorem copyLists_impl (w : World) (H : HLists) (x : Lists) (h : RdLists w w.heap.size H x) (hs : sizeLists x ≤ 536870912) :
    Calls Tryz.prog 77 #[.agg #[.slice H.Global.a H.Global.len H.Global.cap, .slice H.Own.a H.Own.len H.Own.cap]] w fun e w' => ∃ H' : HLists, e = .returned (H'.val x) ∧ OwLists w' H' x ∧ (∀ g ∈ H'.foot, w.heap.size ≤ g) ∧ Below w.heap.size w w' := by
  have hs1 : szLL x.Global ≤ 536870912 := Nat.le_trans (Nat.le_add_right _ _) hs
  have hs2 : szLL x.Own ≤ 536870912 := Nat.le_trans (Nat.le_add_left _ _) hs
  have hl1 : x.Global.length ≤ 536870912 := Nat.le_trans (Nat.le_add_right _ _) hs1
  have hl2 : x.Own.length ≤ 536870912 := Nat.le_trans (Nat.le_add_right _ _) hs2
  obtain ⟨⟨A1, n1, c1⟩, t1, ⟨A2, n2, c2⟩, t2⟩ := H
  have hGlobal : RdLL FI w w.heap.size (.slice A1 n1 c1) t1 x.Global := h.Global
  have hOwn : RdLL FI w w.heap.size (.slice A2 n2 c2) t2 x.Own := h.Own
  clear h hs
  obtain ⟨rfl, _, _⟩ := hGlobal.len'
  obtain ⟨rfl, _, _⟩ := hOwn.len'
  show Calls Tryz.prog 77 #[.agg #[.slice A1 x.Global.length c1, .slice A2 x.Own.length c2]] _ _
  have ba : Box (((w.alloc (.cells #[.slice A1 x.Global.length c1, .slice A2 x.Own.length c2] 34)).alloc (.cells #[.slice none 0 0, .slice none 0 0] 34)).alloc (.cells #[.slice none 0 0, .slice none 0 0] 34)) w.heap.size [.slice A1 x.Global.length c1, .slice A2 x.Own.length c2] := ((Box.new w #[.slice A1 x.Global.length c1, .slice A2 x.Own.length c2] _).alloc _).alloc _
  have br : Box (((w.alloc (.cells #[.slice A1 x.Global.length c1, .slice A2 x.Own.length c2] 34)).alloc (.cells #[.slice none 0 0, .slice none 0 0] 34)).alloc (.cells #[.slice none 0 0, .slice none 0 0] 34)) (w.heap.size + 1) [.slice none 0 0, .slice none 0 0] := by
    have hb := (Box.new (w.alloc (.cells #[.slice A1 x.Global.length c1, .slice A2 x.Own.length c2] 34)) #[.slice none 0 0, .slice none 0 0] 34).alloc (.cells #[.slice none 0 0, .slice none 0 0] 34)
    rw [World.size_alloc] at hb
    exact hb
  have bo : Box (((w.alloc (.cells #[.slice A1 x.Global.length c1, .slice A2 x.Own.length c2] 34)).alloc (.cells #[.slice none 0 0, .slice none 0 0] 34)).alloc (.cells #[.slice none 0 0, .slice none 0 0] 34)) (w.heap.size + 1 + 1) [.slice none 0 0, .slice none 0 0] := by
    have hb := Box.new ((w.alloc (.cells #[.slice A1 x.Global.length c1, .slice A2 x.Own.length c2] 34)).alloc (.cells #[.slice none 0 0, .slice none 0 0] 34)) #[.slice none 0 0, .slice none 0 0] 34
    rw [World.size_alloc, World.size_alloc] at hb
    exact hb
  have hB : Below w.heap.size w (((w.alloc (.cells #[.slice A1 x.Global.length c1, .slice A2 x.Own.length c2] 34)).alloc (.cells #[.slice none 0 0, .slice none 0 0] 34)).alloc (.cells #[.slice none 0 0, .slice none 0 0] 34)) := by repeat (first | exact Below.refl _ _ | refine Below.alloc ?_ (by simp <;> omega) _ | refine below_grow_of ?_ (by simp <;> omega) _ _ | refine Below.drew ?_ | refine below_drewN ?_ _)
  go_enter Tryz.func77, Tryz.ntmps77
  go_wp2_with fail
  generalize hW0 : (((w.alloc (.cells #[.slice A1 x.Global.length c1, .slice A2 x.Own.length c2] 34)).alloc (.cells #[.slice none 0 0, .slice none 0 0] 34)).alloc (.cells #[.slice none 0 0, .slice none 0 0] 34)) = wS0 at ba br bo hB ⊢
  clear hW0
  have zS := bo.lt
  go_loopw [12] (fun i wr => ∃ k : Nat, k ≤ x.Global.length ∧ i = .int .i64 k ∧ (∃ (K : SV) (t' : List SV), OwLL FI 3 80 wr K.val t' (x.Global.take k) ∧ (∀ g ∈ foot2 K.val t', wS0.heap.size ≤ g) ∧ Box wr (w.heap.size + 1 + 1) [.slice K.a K.len K.cap, .slice none 0 0]) ∧ Chg [w.heap.size + 1 + 1] wS0 wr) (fun i _ => x.Global.length - (intOf i).toNat)
  case atStart => exact ⟨0, Nat.zero_le _, rfl, ⟨⟨none, 0, 0⟩, [], OwLL.nil_, by simp [foot2, foot1, SV.val, Value.ownBlock], bo⟩, Chg.refl _ _⟩
  case round =>
    obtain ⟨i, hi, rfl, ⟨K, t', ho, hfo, bo⟩, hc⟩ := hrel
    have hb : Below w.heap.size w wr := hB.trans (hc.below hB.size (by simp <;> omega)) 
    have hz : w.heap.size + 1 + 1 < wr.heap.size := Nat.lt_of_lt_of_le zS hc.size
    by_cases hlt : i < x.Global.length
    · obtain ⟨g, o, A', c', he, hg, p0, r1⟩ := hGlobal.row hb hlt
      subst he
      have hlen : x.Global[i].length ≤ 1073741824 := by have := le_szLL (List.getElem_mem hlt); omega
      have htl : t'.length ≤ 536870912 := by rw [ho.len, List.length_take]; omega
      have HTk := Hid.mk_ (List.take_succ_eq_append_getElem hlt)
      have z1 : g < wr.heap.size := Nat.lt_of_lt_of_le hg hb.size
      have HC := Hid.mk_ hc.size
      generalize x.Global[i] = row at *
      have q0 := (bo.alloc (.cells #[.slice A' row.length c'] 80)).cell 0 _ rfl
      have f0 := bo.fro 0
      have hr1 := rd_up r1 (hb.alloc hb.size (.cells #[.slice A' row.length c'] 80)).drew
      have bo1 := (bo.alloc (.cells #[.slice A' row.length c'] 80)).drew
      go_wp2_with fail
      go_region_law (first | (refine step_append_flat Tryz.stSL rfl (.tmp 17) (.tmp 22) rfl (v := K.val) (y := .slice (some ⟨w1.heap.size, 0, none⟩) 1 1) (l := t') (m := [⟨A2, row.length, c2⟩]) (by simp [Act.eval, SV.val]) (by simp [Act.eval]) (ho1.outer.alloc_ _) (OwL.lit FS [⟨A2, row.length, c2⟩] #[.slice A2 row.length c2] rfl (by simp [maxLen]) w1 80).rd' (by simp only [List.length_singleton]; omega) ?_; intro v' w3 ho3 hg3 hat3; obtain ⟨A3, c3, hv3, _⟩ := ho3.rd'; simp only [List.length_append, List.length_cons, List.length_nil] at hv3; subst hv3; have bo3 := (bo2.alloc (.cells #[.slice A2 row.length c2] 80)).chg (Chg.of_grown hg3) (fun hm => by have := hfo _ (mem_foot2.2 (.inl (mem_foot1.1 hm))); omega); have q3 := bo3.cell 0 _ rfl; have f3 := bo3.fro 0) | (go_simp; go_at_call 122; ((with_reducible refine (CloneInt_ct _ _ row hr1 hlen).mono ?_); rintro e w1 ⟨vs, rfl, hos, hfs, hb1⟩; have hb1' : Below wr.heap.size wr w1 := ((Below.refl _ _).alloc (Nat.le_refl _) _).drew.trans (hb1.mono (by simp)); have ho1 := ho.step0 hb1'; have bo2 := bo1.below hb1; have q2 := bo2.cell 0 _ rfl; have f2 := bo2.fro 0; have q2b := fun o => (bo2.alloc o).cell 0 _ rfl; have hfs2 : ∀ g ∈ foot1 vs, wr.heap.size < g := (fun g hg => by have := hfs g hg; simp at this; omega); obtain ⟨A2, c2, hv2, _⟩ := hos.rd'; subst hv2)))
      all_goals
        have hsn := OwLL.snoc (ho1.alloc_ (.cells #[.slice A2 row.length c2] 80)) (s := ⟨A2, row.length, c2⟩) (hos.alloc_ _) (fun g hg hm => by have a := hfs2 g hg; have b := ho.lt g hm; omega) ho3 hg3 hat3
        have hbN : Below wS0.heap.size wr w3 := (((Below.refl _ _).trans (hb1'.mono HC.out)).alloc (Nat.le_trans HC.out hb1'.size) _).grown hg3 (by simp; exact Nat.le_succ_of_le (Nat.le_trans HC.out hb1'.size)) (fun k hk => hfo k (mem_foot2.2 (.inl hk)))
        have hcN := (hc.then_ hbN).set_ (g := w.heap.size + 1 + 1) (i := 0) (by simp) (.slice A3 (t'.length + (0 + 1)) c3)
        have boN := bo3.set 0 (.slice A3 (t'.length + (0 + 1)) c3)
        have hfN : ∀ b ∈ foot2 (SV.val ⟨A3, t'.length + (0 + 1), c3⟩) (t' ++ [⟨A2, row.length, c2⟩]), wS0.heap.size ≤ b := by
          intro b hb'
          unfold foot2 at hb'
          rw [List.flatMap_append] at hb'
          rcases List.mem_append.1 hb' with h1 | h1
          · rcases foot_app hat3 b h1 with h2 | h2
            · exact hfo b (mem_foot2.2 (.inl (mem_foot1.1 h2)))
            · have := hb1'.size
              have := HC.out
              simp at h2
              omega
          · rcases List.mem_append.1 h1 with h2 | h2
            · exact hfo b (by unfold foot2; exact List.mem_append.2 (.inr h2))
            · have h4 : b ∈ foot1 (SV.val ⟨A2, row.length, c2⟩) := by simpa using h2
              have := hfs2 b h4
              have := HC.out
              omega
        have hoN := hsn.chg ((Chg.refl [w.heap.size + 1 + 1] w3).set_ (g := w.heap.size + 1 + 1) (i := 0) (by simp) (.slice A3 (t'.length + (0 + 1)) c3)) (fun b hb hm => by have := hfN b hb; simp only [List.mem_cons, List.not_mem_nil, or_false] at hm; omega)
        go_wp2_with fail
        go_roundw
        case rel => exact ⟨i + 1, by omega, by go_num, ⟨⟨A3, t'.length + (0 + 1), c3⟩, _, by rw [HTk.out]; exact hoN, hfN, boN⟩, hcN⟩
        case measure => simp [intOf]; omega
    · obtain rfl : i = x.Global.length := by omega
      rw [List.take_length] at ho
      obtain ⟨wS1, rfl⟩ : ∃ W : World, W = wr := ⟨_, rfl⟩
      obtain ⟨K0, rfl⟩ : ∃ Q, Q = K := ⟨_, rfl⟩
      obtain ⟨t0, rfl⟩ : ∃ Q, Q = t' := ⟨_, rfl⟩
      have oK := ho
      have fK := hfo
      have uK := ho.lt
      have ba1 := ba.chg hc (by simp <;> omega)
      have br1 := br.chg hc (by simp <;> omega)
      have qa1 := ba1.cell 1 _ rfl
      have szK := hc.size
      have zS0 := zS
      clear ba br zS ho hfo hB hc
      have zS := hz
      have hB := hb
      clear hz hb
      go_wp2_with fail
      go_loopw [29] (fun i wr => ∃ k : Nat, k ≤ x.Own.length ∧ i = .int .i64 k ∧ (∃ (K : SV) (t' : List SV), OwLL FI 3 80 wr K.val t' (x.Own.take k) ∧ (∀ g ∈ foot2 K.val t', wS1.heap.size ≤ g) ∧ Box wr (w.heap.size + 1 + 1) [.slice K0.a K0.len K0.cap, .slice K.a K.len K.cap]) ∧ Chg [w.heap.size + 1 + 1] wS1 wr) (fun i _ => x.Own.length - (intOf i).toNat)
      case atStart => exact ⟨0, Nat.zero_le _, rfl, ⟨⟨none, 0, 0⟩, [], OwLL.nil_, by simp [foot2, foot1, SV.val, Value.ownBlock], bo⟩, Chg.refl _ _⟩
      case round =>
        obtain ⟨i, hi, rfl, ⟨K, t', ho, hfo, bo⟩, hc⟩ := hrel
        have hb : Below w.heap.size w wr := hB.trans (hc.below hB.size (by simp <;> omega)) 
        have hz : w.heap.size + 1 + 1 < wr.heap.size := Nat.lt_of_lt_of_le zS hc.size
        by_cases hlt : i < x.Own.length
        · obtain ⟨g, o, A', c', he, hg, p0, r1⟩ := hOwn.row hb hlt
          subst he
          have hlen : x.Own[i].length ≤ 1073741824 := by have := le_szLL (List.getElem_mem hlt); omega
          have htl : t'.length ≤ 536870912 := by rw [ho.len, List.length_take]; omega
          have HTk := Hid.mk_ (List.take_succ_eq_append_getElem hlt)
          have z1 : g < wr.heap.size := Nat.lt_of_lt_of_le hg hb.size
          have HC := Hid.mk_ hc.size
          generalize x.Own[i] = row at *
          have q0 := (bo.alloc (.cells #[.slice A' row.length c'] 80)).cell 1 _ rfl
          have f0 := bo.fro 1
          have hr1 := rd_up r1 (hb.alloc hb.size (.cells #[.slice A' row.length c'] 80)).drew
          have bo1 := (bo.alloc (.cells #[.slice A' row.length c'] 80)).drew
          go_wp2_with fail
          go_region_law (first | (refine step_append_flat Tryz.stSL rfl (.tmp 34) (.tmp 39) rfl (v := K.val) (y := .slice (some ⟨w1.heap.size, 0, none⟩) 1 1) (l := t') (m := [⟨A2, row.length, c2⟩]) (by simp [Act.eval, SV.val]) (by simp [Act.eval]) (ho1.outer.alloc_ _) (OwL.lit FS [⟨A2, row.length, c2⟩] #[.slice A2 row.length c2] rfl (by simp [maxLen]) w1 80).rd' (by simp only [List.length_singleton]; omega) ?_; intro v' w3 ho3 hg3 hat3; obtain ⟨A3, c3, hv3, _⟩ := ho3.rd'; simp only [List.length_append, List.length_cons, List.length_nil] at hv3; subst hv3; have bo3 := (bo2.alloc (.cells #[.slice A2 row.length c2] 80)).chg (Chg.of_grown hg3) (fun hm => by have := hfo _ (mem_foot2.2 (.inl (mem_foot1.1 hm))); omega); have q3 := bo3.cell 1 _ rfl; have f3 := bo3.fro 1) | (go_simp; go_at_call 122; ((with_reducible refine (CloneInt_ct _ _ row hr1 hlen).mono ?_); rintro e w1 ⟨vs, rfl, hos, hfs, hb1⟩; have hb1' : Below wr.heap.size wr w1 := ((Below.refl _ _).alloc (Nat.le_refl _) _).drew.trans (hb1.mono (by simp)); have ho1 := ho.step0 hb1'; have bo2 := bo1.below hb1; have q2 := bo2.cell 1 _ rfl; have f2 := bo2.fro 1; have q2b := fun o => (bo2.alloc o).cell 1 _ rfl; have hfs2 : ∀ g ∈ foot1 vs, wr.heap.size < g := (fun g hg => by have := hfs g hg; simp at this; omega); obtain ⟨A2, c2, hv2, _⟩ := hos.rd'; subst hv2)))
          all_goals
            have hsn := OwLL.snoc (ho1.alloc_ (.cells #[.slice A2 row.length c2] 80)) (s := ⟨A2, row.length, c2⟩) (hos.alloc_ _) (fun g hg hm => by have a := hfs2 g hg; have b := ho.lt g hm; omega) ho3 hg3 hat3
            have hbN : Below wS1.heap.size wr w3 := (((Below.refl _ _).trans (hb1'.mono HC.out)).alloc (Nat.le_trans HC.out hb1'.size) _).grown hg3 (by simp; exact Nat.le_succ_of_le (Nat.le_trans HC.out hb1'.size)) (fun k hk => hfo k (mem_foot2.2 (.inl hk)))
            have hcN := (hc.then_ hbN).set_ (g := w.heap.size + 1 + 1) (i := 1) (by simp) (.slice A3 (t'.length + (0 + 1)) c3)
            have boN := bo3.set 1 (.slice A3 (t'.length + (0 + 1)) c3)
            have hfN : ∀ b ∈ foot2 (SV.val ⟨A3, t'.length + (0 + 1), c3⟩) (t' ++ [⟨A2, row.length, c2⟩]), wS1.heap.size ≤ b := by
              intro b hb'
              unfold foot2 at hb'
              rw [List.flatMap_append] at hb'
              rcases List.mem_append.1 hb' with h1 | h1
              · rcases foot_app hat3 b h1 with h2 | h2
                · exact hfo b (mem_foot2.2 (.inl (mem_foot1.1 h2)))
                · have := hb1'.size
                  have := HC.out
                  simp at h2
                  omega
              · rcases List.mem_append.1 h1 with h2 | h2
                · exact hfo b (by unfold foot2; exact List.mem_append.2 (.inr h2))
                · have h4 : b ∈ foot1 (SV.val ⟨A2, row.length, c2⟩) := by simpa using h2
                  have := hfs2 b h4
                  have := HC.out
                  omega
            have hoN := hsn.chg ((Chg.refl [w.heap.size + 1 + 1] w3).set_ (g := w.heap.size + 1 + 1) (i := 1) (by simp) (.slice A3 (t'.length + (0 + 1)) c3)) (fun b hb hm => by have := hfN b hb; simp only [List.mem_cons, List.not_mem_nil, or_false] at hm; omega)
            go_wp2_with fail
            go_roundw
            case rel => exact ⟨i + 1, by omega, by go_num, ⟨⟨A3, t'.length + (0 + 1), c3⟩, _, by rw [HTk.out]; exact hoN, hfN, boN⟩, hcN⟩
            case measure => simp [intOf]; omega
        · obtain rfl : i = x.Own.length := by omega
          rw [List.take_length] at ho
          have brN := br1.chg hc (by simp <;> omega)
          have oK2 := oK.chg hc (fun g hg hm => by simp only [List.mem_cons, List.not_mem_nil, or_false] at hm; have := fK g hg; omega)
          have q0 := bo.cell 0 _ rfl
          have q1 := bo.cell 1 _ rfl
          have r0 := brN.cell 0 _ rfl
          have r1 := brN.cell 1 _ rfl
          have fr := brN.fro
          have hzr := brN.lt
          go_wp2_with fail
          refine bodyPost_ret (v := .agg #[.slice K0.a K0.len K0.cap, .slice K.a K.len K.cap]) (by simp [results, Tryz.results77, go_sem, r0, r1]) rfl ⟨⟨K0, t0, K, t'⟩, rfl, ⟨oK2.chg (F := [w.heap.size + 1]) (by repeat (first | exact Chg.refl _ _ | refine Chg.set_ ?_ (by simp) _ | refine Chg.drew_ ?_)) (fun g hg hm => by simp only [List.mem_cons, List.not_mem_nil, or_false] at hm; have := fK g hg; omega), ho.chg (F := [w.heap.size + 1]) (by repeat (first | exact Chg.refl _ _ | refine Chg.set_ ?_ (by simp) _ | refine Chg.drew_ ?_)) (fun g hg hm => by simp only [List.mem_cons, List.not_mem_nil, or_false] at hm; have := hfo g hg; omega), fun g hg hm => by have := uK g hg; have := hfo g hm; omega⟩, fun g hg => ?_, ?_⟩
          · rcases HLists.mem_foot.1 hg with hg | hg
            · have := fK g hg
              omega
            · have := hfo g hg
              omega
          · exact Below.trans hb (by repeat (first | exact Below.refl _ _ | refine Below.setCell ?_ (by simp <;> omega) _ | refine Below.drew ?_))

set_option maxRecDepth 100000 in
set_option maxHeartbeats 2000000 in
theorem copyMem_impl (w : World) (H : HMem) (x : Mem) (h : RdMem w w.heap.size H x) (hs : sizeMem x ≤ 536870912) :
    Calls Tryz.prog 29 #[.agg #[.slice H.Heap.Bytes.a H.Heap.Bytes.len H.Heap.Bytes.cap, .slice H.Heap.Class.a H.Heap.Class.len H.Heap.Class.cap, .slice H.Lists.Global.a H.Lists.Global.len H.Lists.Global.cap, .slice H.Lists.Own.a H.Lists.Own.len H.Lists.Own.cap]] w fun e w' => ∃ H' : HMem, e = .returned (H'.val x) ∧ OwMem w' H' x ∧ (∀ g ∈ H'.foot, w.heap.size ≤ g) ∧ Below w.heap.size w w' := by
  have hs1 : sizeHeap x.Heap ≤ 1073741824 := by unfold sizeMem at hs; omega
  have hs2 : sizeLists x.Lists ≤ 536870912 := by unfold sizeMem at hs; omega
  clear hs
  have ba : Box ((w.alloc (.cells #[.slice H.Heap.Bytes.a H.Heap.Bytes.len H.Heap.Bytes.cap, .slice H.Heap.Class.a H.Heap.Class.len H.Heap.Class.cap, .slice H.Lists.Global.a H.Lists.Global.len H.Lists.Global.cap, .slice H.Lists.Own.a H.Lists.Own.len H.Lists.Own.cap] 36)).alloc (.cells #[.slice none 0 0, .slice none 0 0, .slice none 0 0, .slice none 0 0] 36)) w.heap.size [.slice H.Heap.Bytes.a H.Heap.Bytes.len H.Heap.Bytes.cap, .slice H.Heap.Class.a H.Heap.Class.len H.Heap.Class.cap, .slice H.Lists.Global.a H.Lists.Global.len H.Lists.Global.cap, .slice H.Lists.Own.a H.Lists.Own.len H.Lists.Own.cap] := (Box.new w #[.slice H.Heap.Bytes.a H.Heap.Bytes.len H.Heap.Bytes.cap, .slice H.Heap.Class.a H.Heap.Class.len H.Heap.Class.cap, .slice H.Lists.Global.a H.Lists.Global.len H.Lists.Global.cap, .slice H.Lists.Own.a H.Lists.Own.len H.Lists.Own.cap] _).alloc _
  have br : Box ((w.alloc (.cells #[.slice H.Heap.Bytes.a H.Heap.Bytes.len H.Heap.Bytes.cap, .slice H.Heap.Class.a H.Heap.Class.len H.Heap.Class.cap, .slice H.Lists.Global.a H.Lists.Global.len H.Lists.Global.cap, .slice H.Lists.Own.a H.Lists.Own.len H.Lists.Own.cap] 36)).alloc (.cells #[.slice none 0 0, .slice none 0 0, .slice none 0 0, .slice none 0 0] 36)) (w.heap.size + 1) [.slice none 0 0, .slice none 0 0, .slice none 0 0, .slice none 0 0] := by
    have hb := Box.new (w.alloc (.cells #[.slice H.Heap.Bytes.a H.Heap.Bytes.len H.Heap.Bytes.cap, .slice H.Heap.Class.a H.Heap.Class.len H.Heap.Class.cap, .slice H.Lists.Global.a H.Lists.Global.len H.Lists.Global.cap, .slice H.Lists.Own.a H.Lists.Own.len H.Lists.Own.cap] 36)) #[.slice none 0 0, .slice none 0 0, .slice none 0 0, .slice none 0 0] 36
    rw [World.size_alloc] at hb
    exact hb
  have hB : Below w.heap.size w ((w.alloc (.cells #[.slice H.Heap.Bytes.a H.Heap.Bytes.len H.Heap.Bytes.cap, .slice H.Heap.Class.a H.Heap.Class.len H.Heap.Class.cap, .slice H.Lists.Global.a H.Lists.Global.len H.Lists.Global.cap, .slice H.Lists.Own.a H.Lists.Own.len H.Lists.Own.cap] 36)).alloc (.cells #[.slice none 0 0, .slice none 0 0, .slice none 0 0, .slice none 0 0] 36)) := by repeat (first | exact Below.refl _ _ | refine Below.alloc ?_ (by simp <;> omega) _ | refine below_grow_of ?_ (by simp <;> omega) _ _ | refine Below.drew ?_ | refine below_drewN ?_ _)
  go_enter Tryz.func29, Tryz.ntmps29
  go_wp2_with fail
  generalize hW0 : ((w.alloc (.cells #[.slice H.Heap.Bytes.a H.Heap.Bytes.len H.Heap.Bytes.cap, .slice H.Heap.Class.a H.Heap.Class.len H.Heap.Class.cap, .slice H.Lists.Global.a H.Lists.Global.len H.Lists.Global.cap, .slice H.Lists.Own.a H.Lists.Own.len H.Lists.Own.cap] 36)).alloc (.cells #[.slice none 0 0, .slice none 0 0, .slice none 0 0, .slice none 0 0] 36)) = w0 at ba br hB ⊢
  clear hW0
  have qa0 := ba.cell 0 _ rfl
  have qr0 := br.cell 0 _ rfl
  have qa1 := ba.cell 1 _ rfl
  have qr1 := br.cell 1 _ rfl
  have qa2 := ba.cell 2 _ rfl
  have qr2 := br.cell 2 _ rfl
  have qa3 := ba.cell 3 _ rfl
  have qr3 := br.cell 3 _ rfl
  have fr := br.fro
  have z0 := br.lt
  go_region_with (first | (go_at_call 76; (first | ((with_reducible refine (copyHeap_impl _ H.Heap x.Heap (rdHeap_up h.Heap hB) hs1).mono ?_); rintro e w1 ⟨K0, rfl, o0, f0, hb⟩; replace ba := ba.below hb; replace br := br.below hb; replace hB := hB.trans (hb.mono hB.size); have sz := hb.size; have u0 := o0.lt; (try replace o1 := o1.step0 hb); replace qa0 := ba.cell 0 _ rfl; replace qr0 := br.cell 0 _ rfl; replace qa1 := ba.cell 1 _ rfl; replace qr1 := br.cell 1 _ rfl; replace qa2 := ba.cell 2 _ rfl; replace qr2 := br.cell 2 _ rfl; replace qa3 := ba.cell 3 _ rfl; replace qr3 := br.cell 3 _ rfl; replace fr := br.fro; clear hb) | ((with_reducible refine (copyHeap_impl _ H.Heap x.Heap (rdHeap_up h.Heap hB.drew) hs1).mono ?_); rintro e w1 ⟨K0, rfl, o0, f0, hb⟩; replace hb := undrew hb; replace f0 := fcdrew f0; replace ba := ba.below hb; replace br := br.below hb; replace hB := hB.trans (hb.mono hB.size); have sz := hb.size; have u0 := o0.lt; (try replace o1 := o1.step0 hb); replace qa0 := ba.cell 0 _ rfl; replace qr0 := br.cell 0 _ rfl; replace qa1 := ba.cell 1 _ rfl; replace qr1 := br.cell 1 _ rfl; replace qa2 := ba.cell 2 _ rfl; replace qr2 := br.cell 2 _ rfl; replace qa3 := ba.cell 3 _ rfl; replace qr3 := br.cell 3 _ rfl; replace fr := br.fro; clear hb))) | (go_at_call 77; (first | ((with_reducible refine (copyLists_impl _ H.Lists x.Lists (rdLists_up h.Lists hB) hs2).mono ?_); rintro e w2 ⟨K1, rfl, o1, f1, hb⟩; replace ba := ba.below hb; replace br := br.below hb; replace hB := hB.trans (hb.mono hB.size); have sz := hb.size; have u1 := o1.lt; (try replace o0 := o0.step0 hb); replace qa0 := ba.cell 0 _ rfl; replace qr0 := br.cell 0 _ rfl; replace qa1 := ba.cell 1 _ rfl; replace qr1 := br.cell 1 _ rfl; replace qa2 := ba.cell 2 _ rfl; replace qr2 := br.cell 2 _ rfl; replace qa3 := ba.cell 3 _ rfl; replace qr3 := br.cell 3 _ rfl; replace fr := br.fro; clear hb) | ((with_reducible refine (copyLists_impl _ H.Lists x.Lists (rdLists_up h.Lists hB.drew) hs2).mono ?_); rintro e w2 ⟨K1, rfl, o1, f1, hb⟩; replace hb := undrew hb; replace f1 := fcdrew f1; replace ba := ba.below hb; replace br := br.below hb; replace hB := hB.trans (hb.mono hB.size); have sz := hb.size; have u1 := o1.lt; (try replace o0 := o0.step0 hb); replace qa0 := ba.cell 0 _ rfl; replace qr0 := br.cell 0 _ rfl; replace qa1 := ba.cell 1 _ rfl; replace qr1 := br.cell 1 _ rfl; replace qa2 := ba.cell 2 _ rfl; replace qr2 := br.cell 2 _ rfl; replace qa3 := ba.cell 3 _ rfl; replace qr3 := br.cell 3 _ rfl; replace fr := br.fro; clear hb))))
  all_goals
    go_wp2_with fail
    refine bodyPost_ret (v := .agg #[.slice K0.Bytes.a K0.Bytes.len K0.Bytes.cap, .slice K0.Class.a K0.Class.len K0.Class.cap, .slice K1.Global.a K1.Global.len K1.Global.cap, .slice K1.Own.a K1.Own.len K1.Own.cap]) (by simp [results, Tryz.results29, go_sem, qr0, qr1, qr2, qr3]) rfl ⟨⟨K0, K1⟩, rfl, ⟨o0.chg (F := [w.heap.size + 1]) (by repeat (first | exact Chg.refl _ _ | refine Chg.set_ ?_ (by simp) _ | refine Chg.drew_ ?_)) (fun g hg hm => by simp only [List.mem_cons, List.not_mem_nil, or_false] at hm; have := f0 g hg; omega), o1.chg (F := [w.heap.size + 1]) (by repeat (first | exact Chg.refl _ _ | refine Chg.set_ ?_ (by simp) _ | refine Chg.drew_ ?_)) (fun g hg hm => by simp only [List.mem_cons, List.not_mem_nil, or_false] at hm; have := f1 g hg; omega), fun g hg hm => by have := u0 g hg; have := f0 g hg; have := u1 g hm; have := f1 g hm; omega⟩, fun g hg => ?_, ?_⟩
    · rcases HMem.mem_foot.1 hg with hg | hg
      · have := f0 g hg
        omega
      · have := f1 g hg
        omega
    · exact Below.trans hB (by repeat (first | exact Below.refl _ _ | refine Below.setCell ?_ (by simp <;> omega) _ | refine Below.drew ?_))

set_option maxRecDepth 100000 in
set_option maxHeartbeats 2000000 in
theorem l9Copy_spec (w : World) (H : HMem) (x : Mem) (h : RdMem w w.heap.size H x) (hs : sizeMem x ≤ 536870912) :
    Calls Tryz.prog 19 #[.agg #[.slice H.Heap.Bytes.a H.Heap.Bytes.len H.Heap.Bytes.cap, .slice H.Heap.Class.a H.Heap.Class.len H.Heap.Class.cap, .slice H.Lists.Global.a H.Lists.Global.len H.Lists.Global.cap, .slice H.Lists.Own.a H.Lists.Own.len H.Lists.Own.cap]] w fun e w' => ∃ H' : HMem, e = .returned (H'.val x) ∧ OwMem w' H' x ∧ (∀ g ∈ H'.foot, w.heap.size ≤ g) ∧ Below w.heap.size w w' := by
  have hs1 : sizeHeap x.Heap ≤ 1073741824 := by unfold sizeMem at hs; omega
  have hs2 : sizeLists x.Lists ≤ 536870912 := by unfold sizeMem at hs; omega
  clear hs
  have ba : Box ((w.alloc (.cells #[.slice H.Heap.Bytes.a H.Heap.Bytes.len H.Heap.Bytes.cap, .slice H.Heap.Class.a H.Heap.Class.len H.Heap.Class.cap, .slice H.Lists.Global.a H.Lists.Global.len H.Lists.Global.cap, .slice H.Lists.Own.a H.Lists.Own.len H.Lists.Own.cap] 36)).alloc (.cells #[.slice none 0 0, .slice none 0 0, .slice none 0 0, .slice none 0 0] 36)) w.heap.size [.slice H.Heap.Bytes.a H.Heap.Bytes.len H.Heap.Bytes.cap, .slice H.Heap.Class.a H.Heap.Class.len H.Heap.Class.cap, .slice H.Lists.Global.a H.Lists.Global.len H.Lists.Global.cap, .slice H.Lists.Own.a H.Lists.Own.len H.Lists.Own.cap] := (Box.new w #[.slice H.Heap.Bytes.a H.Heap.Bytes.len H.Heap.Bytes.cap, .slice H.Heap.Class.a H.Heap.Class.len H.Heap.Class.cap, .slice H.Lists.Global.a H.Lists.Global.len H.Lists.Global.cap, .slice H.Lists.Own.a H.Lists.Own.len H.Lists.Own.cap] _).alloc _
  have br : Box ((w.alloc (.cells #[.slice H.Heap.Bytes.a H.Heap.Bytes.len H.Heap.Bytes.cap, .slice H.Heap.Class.a H.Heap.Class.len H.Heap.Class.cap, .slice H.Lists.Global.a H.Lists.Global.len H.Lists.Global.cap, .slice H.Lists.Own.a H.Lists.Own.len H.Lists.Own.cap] 36)).alloc (.cells #[.slice none 0 0, .slice none 0 0, .slice none 0 0, .slice none 0 0] 36)) (w.heap.size + 1) [.slice none 0 0, .slice none 0 0, .slice none 0 0, .slice none 0 0] := by
    have hb := Box.new (w.alloc (.cells #[.slice H.Heap.Bytes.a H.Heap.Bytes.len H.Heap.Bytes.cap, .slice H.Heap.Class.a H.Heap.Class.len H.Heap.Class.cap, .slice H.Lists.Global.a H.Lists.Global.len H.Lists.Global.cap, .slice H.Lists.Own.a H.Lists.Own.len H.Lists.Own.cap] 36)) #[.slice none 0 0, .slice none 0 0, .slice none 0 0, .slice none 0 0] 36
    rw [World.size_alloc] at hb
    exact hb
  have hB : Below w.heap.size w ((w.alloc (.cells #[.slice H.Heap.Bytes.a H.Heap.Bytes.len H.Heap.Bytes.cap, .slice H.Heap.Class.a H.Heap.Class.len H.Heap.Class.cap, .slice H.Lists.Global.a H.Lists.Global.len H.Lists.Global.cap, .slice H.Lists.Own.a H.Lists.Own.len H.Lists.Own.cap] 36)).alloc (.cells #[.slice none 0 0, .slice none 0 0, .slice none 0 0, .slice none 0 0] 36)) := by repeat (first | exact Below.refl _ _ | refine Below.alloc ?_ (by simp <;> omega) _ | refine below_grow_of ?_ (by simp <;> omega) _ _ | refine Below.drew ?_ | refine below_drewN ?_ _)
  go_enter Tryz.func19, Tryz.ntmps19
  go_wp2_with fail
  generalize hW0 : ((w.alloc (.cells #[.slice H.Heap.Bytes.a H.Heap.Bytes.len H.Heap.Bytes.cap, .slice H.Heap.Class.a H.Heap.Class.len H.Heap.Class.cap, .slice H.Lists.Global.a H.Lists.Global.len H.Lists.Global.cap, .slice H.Lists.Own.a H.Lists.Own.len H.Lists.Own.cap] 36)).alloc (.cells #[.slice none 0 0, .slice none 0 0, .slice none 0 0, .slice none 0 0] 36)) = w0 at ba br hB ⊢
  clear hW0
  have qa0 := ba.cell 0 _ rfl
  have qr0 := br.cell 0 _ rfl
  have qa1 := ba.cell 1 _ rfl
  have qr1 := br.cell 1 _ rfl
  have qa2 := ba.cell 2 _ rfl
  have qr2 := br.cell 2 _ rfl
  have qa3 := ba.cell 3 _ rfl
  have qr3 := br.cell 3 _ rfl
  have fr := br.fro
  have z0 := br.lt
  go_region_with (first | (go_at_call 57; (first | ((with_reducible refine (l7Copy_spec _ H.Heap x.Heap (rdHeap_up h.Heap hB) hs1).mono ?_); rintro e w1 ⟨K0, rfl, o0, f0, hb⟩; replace ba := ba.below hb; replace br := br.below hb; replace hB := hB.trans (hb.mono hB.size); have sz := hb.size; have u0 := o0.lt; (try replace o1 := o1.step0 hb); replace qa0 := ba.cell 0 _ rfl; replace qr0 := br.cell 0 _ rfl; replace qa1 := ba.cell 1 _ rfl; replace qr1 := br.cell 1 _ rfl; replace qa2 := ba.cell 2 _ rfl; replace qr2 := br.cell 2 _ rfl; replace qa3 := ba.cell 3 _ rfl; replace qr3 := br.cell 3 _ rfl; replace fr := br.fro; clear hb) | ((with_reducible refine (l7Copy_spec _ H.Heap x.Heap (rdHeap_up h.Heap hB.drew) hs1).mono ?_); rintro e w1 ⟨K0, rfl, o0, f0, hb⟩; replace hb := undrew hb; replace f0 := fcdrew f0; replace ba := ba.below hb; replace br := br.below hb; replace hB := hB.trans (hb.mono hB.size); have sz := hb.size; have u0 := o0.lt; (try replace o1 := o1.step0 hb); replace qa0 := ba.cell 0 _ rfl; replace qr0 := br.cell 0 _ rfl; replace qa1 := ba.cell 1 _ rfl; replace qr1 := br.cell 1 _ rfl; replace qa2 := ba.cell 2 _ rfl; replace qr2 := br.cell 2 _ rfl; replace qa3 := ba.cell 3 _ rfl; replace qr3 := br.cell 3 _ rfl; replace fr := br.fro; clear hb))) | (go_at_call 58; (first | ((with_reducible refine (l8Copy_spec _ H.Lists x.Lists (rdLists_up h.Lists hB) hs2).mono ?_); rintro e w2 ⟨K1, rfl, o1, f1, hb⟩; replace ba := ba.below hb; replace br := br.below hb; replace hB := hB.trans (hb.mono hB.size); have sz := hb.size; have u1 := o1.lt; (try replace o0 := o0.step0 hb); replace qa0 := ba.cell 0 _ rfl; replace qr0 := br.cell 0 _ rfl; replace qa1 := ba.cell 1 _ rfl; replace qr1 := br.cell 1 _ rfl; replace qa2 := ba.cell 2 _ rfl; replace qr2 := br.cell 2 _ rfl; replace qa3 := ba.cell 3 _ rfl; replace qr3 := br.cell 3 _ rfl; replace fr := br.fro; clear hb) | ((with_reducible refine (l8Copy_spec _ H.Lists x.Lists (rdLists_up h.Lists hB.drew) hs2).mono ?_); rintro e w2 ⟨K1, rfl, o1, f1, hb⟩; replace hb := undrew hb; replace f1 := fcdrew f1; replace ba := ba.below hb; replace br := br.below hb; replace hB := hB.trans (hb.mono hB.size); have sz := hb.size; have u1 := o1.lt; (try replace o0 := o0.step0 hb); replace qa0 := ba.cell 0 _ rfl; replace qr0 := br.cell 0 _ rfl; replace qa1 := ba.cell 1 _ rfl; replace qr1 := br.cell 1 _ rfl; replace qa2 := ba.cell 2 _ rfl; replace qr2 := br.cell 2 _ rfl; replace qa3 := ba.cell 3 _ rfl; replace qr3 := br.cell 3 _ rfl; replace fr := br.fro; clear hb))))
  all_goals
    go_wp2_with fail
    refine bodyPost_ret (v := .agg #[.slice K0.Bytes.a K0.Bytes.len K0.Bytes.cap, .slice K0.Class.a K0.Class.len K0.Class.cap, .slice K1.Global.a K1.Global.len K1.Global.cap, .slice K1.Own.a K1.Own.len K1.Own.cap]) (by simp [results, Tryz.results19, go_sem, qr0, qr1, qr2, qr3]) rfl ⟨⟨K0, K1⟩, rfl, ⟨o0.chg (F := [w.heap.size + 1]) (by repeat (first | exact Chg.refl _ _ | refine Chg.set_ ?_ (by simp) _ | refine Chg.drew_ ?_)) (fun g hg hm => by simp only [List.mem_cons, List.not_mem_nil, or_false] at hm; have := f0 g hg; omega), o1.chg (F := [w.heap.size + 1]) (by repeat (first | exact Chg.refl _ _ | refine Chg.set_ ?_ (by simp) _ | refine Chg.drew_ ?_)) (fun g hg hm => by simp only [List.mem_cons, List.not_mem_nil, or_false] at hm; have := f1 g hg; omega), fun g hg hm => by have := u0 g hg; have := f0 g hg; have := u1 g hm; have := f1 g hm; omega⟩, fun g hg => ?_, ?_⟩
    · rcases HMem.mem_foot.1 hg with hg | hg
      · have := f0 g hg
        omega
      · have := f1 g hg
        omega
    · exact Below.trans hB (by repeat (first | exact Below.refl _ _ | refine Below.setCell ?_ (by simp <;> omega) _ | refine Below.drew ?_))
end Go.Proofs.YtpjijbonpjoamaaGreat

