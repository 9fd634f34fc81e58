/-
  Memories valid, the states of slots: the program.
-/
import Derived.Test.YtkldapdpaldbgaaGreatT
import Derived.Test.YtkldapdpaldbgaaGreatL
import Derived.Deep.QuietTactic
import Derived.BigQuiet
import Derived.Deep.LoopGhost
import Derived.Deep.RegionHeld3
import Derived.Test.YtkldapdpaldbgaaGreatN
import Derived.Test.YtkldapdpaldbgaaGreatA
import Derived.WalkSpells
import Derived.Laws.Cover3
import Derived.Test.YtkldapdpaldbgaaGreatBB
namespace Go.Proofs.YtkldapdpaldbgaaGreat
open Go.RowKit
theorem Mem.rdHeap {w : World} {B : Nat} {H : HMem} {x : Mem} (h : RdMem w B H x) : RdHeap w B H.Heap x.Heap := h.Heap
def fitsTo (m : Mem) (k : Nat) : Bool := (List.range k).all fun c => (m.Lists.Global.getD c []).all (fitsB m.Heap c)
def fitsOwn (m : Mem) (k : Nat) : Bool := (List.range k).all fun k => (m.Lists.Own.getD k []).all (fitsB m.Heap ((k % 3 : Nat) : Int))
theorem memOkB_eq (m : Mem) : memOkB m = (heapOkB m.Heap && listsOkB m.Lists && fitsTo m 3 && fitsOwn m 9) := rfl
theorem fitsTo_succ (m : Mem) (k : Nat) : fitsTo m (k + 1) = (fitsTo m k && (m.Lists.Global.getD k []).all (fitsB m.Heap k)) := by
  unfold fitsTo
  rw [List.range_succ, List.all_append]
  simp
theorem fitsOwn_succ (m : Mem) (k : Nat) : fitsOwn m (k + 1) = (fitsOwn m k && (m.Lists.Own.getD k []).all (fitsB m.Heap ((k % 3 : Nat) : Int))) := by
  unfold fitsOwn
  rw [List.range_succ, List.all_append]
  simp
theorem fitsTo_no {m : Mem} {k n : Nat} (hk : k < n) (h : (m.Lists.Global.getD k []).all (fitsB m.Heap k) = false) : fitsTo m n = false :=
  List.all_eq_false.2 ⟨k, List.mem_range.2 hk, by rw [h]; decide⟩
theorem fitsOwn_no {m : Mem} {k n : Nat} (hk : k < n) (h : (m.Lists.Own.getD k []).all (fitsB m.Heap ((k % 3 : Nat) : Int)) = false) : fitsOwn m n = false :=
  List.all_eq_false.2 ⟨k, List.mem_range.2 hk, by rw [h]; decide⟩
theorem lists_len {l : Lists} (h : listsOkB l = true) : l.Global.length = 3 ∧ l.Own.length = 9 := by
  unfold listsOkB at h
  simp only [Bool.and_eq_true, beq_iff_eq] at h
  exact ⟨h.1.1.1, h.1.1.2⟩
set_option maxRecDepth 100000 in
set_option maxHeartbeats 4000000 in
theorem MemOk_impl (w : World) (H : HMem) (x : Mem) (h : RdMem w w.heap.size H x) :
    Calls Tryz.prog 88 #[.agg #[.slice H.Heap.Bytes.a H.Heap.Bytes.len H.Heap.Bytes.cap, .slice H.Heap.Class.a H.Heap.Class.len H.Heap.Class.cap, .slice H.Lists.Global.a H.Lists.Global.len H.Lists.Global.cap, .slice H.Lists.Own.a H.Lists.Own.len H.Lists.Own.cap]] w fun e w' => e = .returned (.bool (memOkB x)) ∧ Below w.heap.size w w' := by
  have ba0 : Box (w.alloc (.cells #[.slice H.Heap.Bytes.a H.Heap.Bytes.len H.Heap.Bytes.cap, .slice H.Heap.Class.a H.Heap.Class.len H.Heap.Class.cap, .slice H.Lists.Global.a H.Lists.Global.len H.Lists.Global.cap, .slice H.Lists.Own.a H.Lists.Own.len H.Lists.Own.cap] 31)) w.heap.size [.slice H.Heap.Bytes.a H.Heap.Bytes.len H.Heap.Bytes.cap, .slice H.Heap.Class.a H.Heap.Class.len H.Heap.Class.cap, .slice H.Lists.Global.a H.Lists.Global.len H.Lists.Global.cap, .slice H.Lists.Own.a H.Lists.Own.len H.Lists.Own.cap] := Box.new w #[.slice H.Heap.Bytes.a H.Heap.Bytes.len H.Heap.Bytes.cap, .slice H.Heap.Class.a H.Heap.Class.len H.Heap.Class.cap, .slice H.Lists.Global.a H.Lists.Global.len H.Lists.Global.cap, .slice H.Lists.Own.a H.Lists.Own.len H.Lists.Own.cap] _
  have hB0 : Below w.heap.size w (w.alloc (.cells #[.slice H.Heap.Bytes.a H.Heap.Bytes.len H.Heap.Bytes.cap, .slice H.Heap.Class.a H.Heap.Class.len H.Heap.Class.cap, .slice H.Lists.Global.a H.Lists.Global.len H.Lists.Global.cap, .slice H.Lists.Own.a H.Lists.Own.len H.Lists.Own.cap] 31)) := by repeat (first | exact Below.refl _ _ | refine Below.alloc ?_ (by simp <;> omega) _ | refine below_grow_of ?_ (by simp <;> omega) _ _ | refine Below.drew ?_ | refine below_drewN ?_ _)
  have HE := Hid.mk_ (memOkB_eq x)
  go_enter Tryz.func88, Tryz.ntmps88
  go_wp2_with fail
  refine (HeapOk_impl _ H.Heap x.Heap (rdHeap_up h.Heap hB0)).mono ?_
  rintro e w1 ⟨rfl, hb⟩
  have ba1 := ba0.below hb
  have hB1 := hB0.trans (hb.mono hB0.size)
  clear hb ba0 hB0
  by_cases k1 : heapOkB x.Heap = true
  case neg =>
    have k1' : heapOkB x.Heap = false := (Bool.not_eq_true _).mp k1
    have HN := Hid.mk_ (show memOkB x = false by rw [HE.out, k1']; rfl)
    rw [k1']
    clear k1 k1'
    go_wp2
    go_ret
    exact ⟨ret_bool HN.out.symm, hB1⟩
  have K1 := Hid.mk_ k1
  rw [k1]
  clear k1
  have qa0 := ba1.cell 0 _ rfl
  have qa1 := ba1.cell 1 _ rfl
  have qa2 := ba1.cell 2 _ rfl
  have qa3 := ba1.cell 3 _ rfl
  go_wp2_with fail
  refine (ListsOk_impl _ H.Lists x.Lists (rdLists_up h.Lists hB1)).mono ?_
  rintro e w2 ⟨rfl, hb⟩
  have ba2 := ba1.below hb
  have hB2 := hB1.trans (hb.mono hB1.size)
  clear hb ba1 hB1 qa0 qa1 qa2 qa3
  by_cases k2 : listsOkB x.Lists = true
  case neg =>
    have k2' : listsOkB x.Lists = false := (Bool.not_eq_true _).mp k2
    have HN := Hid.mk_ (show memOkB x = false by rw [HE.out, k2']; simp)
    rw [k2']
    clear k2 k2'
    go_wp2
    go_ret
    exact ⟨ret_bool HN.out.symm, hB2⟩
  rw [k2]
  have hs := Hid.mk_ (heap_shape K1.out)
  have HL := Hid.mk_ (lists_len k2)
  have HE2 := Hid.mk_ (show memOkB x = (fitsTo x 3 && fitsOwn x 9) by rw [HE.out, K1.out, k2]; rfl)
  clear k2 HE
  obtain ⟨en1, _, hm1⟩ := (show RdLL FI w w.heap.size (.slice H.Lists.Global.a H.Lists.Global.len H.Lists.Global.cap) H.Lists.GlobalT x.Lists.Global from h.Lists.Global).len'
  obtain ⟨en2, _, hm2⟩ := (show RdLL FI w w.heap.size (.slice H.Lists.Own.a H.Lists.Own.len H.Lists.Own.cap) H.Lists.OwnT x.Lists.Own from h.Lists.Own).len'
  have en1' : H.Lists.Global.len = 3 := by rw [en1, HL.out.1]
  have en2' : H.Lists.Own.len = 9 := by rw [en2, HL.out.2]
  have hgr : RdLL FI w w.heap.size (.slice H.Lists.Global.a 3 H.Lists.Global.cap) H.Lists.GlobalT x.Lists.Global := by rw [← en1']; exact h.Lists.Global
  have hor : RdLL FI w w.heap.size (.slice H.Lists.Own.a 9 H.Lists.Own.cap) H.Lists.OwnT x.Lists.Own := by rw [← en2']; exact h.Lists.Own
  rw [en1', en2'] at ba2
  clear en1 en2 hm1 hm2 en1' en2'
  obtain ⟨gG, oG, _, _, eG, _, _, _⟩ := hgr.row (Below.refl _ _) (show 0 < x.Lists.Global.length by rw [HL.out.1]; decide)
  obtain ⟨gO, oO, _, _, eO, _, _, _⟩ := hor.row (Below.refl _ _) (show 0 < x.Lists.Own.length by rw [HL.out.2]; decide)
  rw [eG] at hgr ba2
  rw [eO] at hor ba2
  have qa0 := ba2.cell 0 _ rfl
  have qa1 := ba2.cell 1 _ rfl
  have qa2 := ba2.cell 2 _ rfl
  have qa3 := ba2.cell 3 _ rfl
  go_wp2
  go_loopw [3, 4, 21] (fun _ _ i wr => ∃ k : Nat, k ≤ 3 ∧ i = .int .i64 k ∧ Hid (fitsTo x k = true) ∧ Below w.heap.size w wr ∧ Box wr w.heap.size [.slice H.Heap.Bytes.a H.Heap.Bytes.len H.Heap.Bytes.cap, .slice H.Heap.Class.a H.Heap.Class.len H.Heap.Class.cap, .slice (some ⟨gG, oG, none⟩) 3 H.Lists.Global.cap, .slice (some ⟨gO, oO, none⟩) 9 H.Lists.Own.cap]) (fun _ _ i _ => 3 - (intOf i).toNat)
  case atStart => exact ⟨0, Nat.zero_le _, rfl, rfl, hB2, ba2⟩
  case round =>
    obtain ⟨i, hi, rfl, HT, hb, ba⟩ := hrel
    clear ba2 hB2 qa0 qa1 qa2 qa3
    have zl := ba.lt
    by_cases hlt : i < 3
    · have hltI : (i : Int) < 3 := by omega
      have hig : i < x.Lists.Global.length := by rw [HL.out.1]; exact hlt
      obtain ⟨g, o, A', c', hAe, hg, p0, rr⟩ := hgr.row hb hig
      injection hAe with hAe
      injection hAe with hA1 hA2
      subst hA1 hA2
      have hgw : gG < wr.heap.size := Nat.lt_of_lt_of_le hg hb.size
      have hln := (RdL.len_ rr).2
      have HX := Hid.mk_ (show x.Lists.Global.getD i [] = x.Lists.Global[i] by rw [getD_at hig])
      have HSu := Hid.mk_ (fitsTo_succ x i)
      have HNo := Hid.mk_ (fun hf => fitsTo_no (m := x) (k := i) (n := 3) hlt hf)
      rw [HX.out] at HSu HNo
      clear HX
      generalize x.Lists.Global[i] = row at p0 rr hln HSu HNo
      have qa0 := ba.cell 0 _ rfl
      have qa1 := ba.cell 1 _ rfl
      have qa2 := ba.cell 2 _ rfl
      have qa3 := ba.cell 3 _ rfl
      go_wp2_with fail
      have hb' : Below w.heap.size w (wr.alloc (.cells #[.slice A' row.length c'] 163)) := hb.alloc hb.size _
      have ba' := ba.alloc (.cells #[.slice A' row.length c'] 163)
      refine (listFits_impl _ H.Heap x.Heap A' c' row i (rdHeap_up h.Heap hb') hs.out (rd_up rr hb')).mono ?_
      rintro e w3 ⟨rfl, hb3⟩
      have ba3 := ba'.below hb3
      have hB3 := hb'.trans (hb3.mono hb'.size)
      clear hb3 hb' ba' hb ba p0 qa0 qa1 qa2 qa3
      by_cases k3 : row.all (fitsB x.Heap i) = true
      · have HN := Hid.mk_ (show fitsTo x (i + 1) = true by rw [HSu.out, HT.out, k3]; rfl)
        rw [k3]
        clear k3
        go_wp2
        go_roundw
        case rel => exact ⟨i + 1, by omega, by go_num, HN, hB3, ba3⟩
        case measure => simp [intOf]; omega
      · have k3' : row.all (fitsB x.Heap i) = false := (Bool.not_eq_true _).mp k3
        have HN := Hid.mk_ (show memOkB x = false by rw [HE2.out, HNo.out k3']; rfl)
        rw [k3']
        clear k3 k3'
        go_wp2
        go_ret
        exact ⟨ret_bool HN.out.symm, hB3⟩
    · obtain rfl : i = 3 := by omega
      have HE3 := Hid.mk_ (show memOkB x = fitsOwn x 9 by rw [HE2.out, HT.out]; rfl)
      clear HT HE2
      rw [show ((3 : Nat) : Int) = 3 from rfl]
      have qa0 := ba.cell 0 _ rfl
      have qa1 := ba.cell 1 _ rfl
      have qa2 := ba.cell 2 _ rfl
      have qa3 := ba.cell 3 _ rfl
      go_wp2
      go_loopw [5, 6, 37] (fun _ _ i wr => ∃ k : Nat, k ≤ 9 ∧ i = .int .i64 k ∧ Hid (fitsOwn x k = true) ∧ Below w.heap.size w wr ∧ Box wr w.heap.size [.slice H.Heap.Bytes.a H.Heap.Bytes.len H.Heap.Bytes.cap, .slice H.Heap.Class.a H.Heap.Class.len H.Heap.Class.cap, .slice (some ⟨gG, oG, none⟩) 3 H.Lists.Global.cap, .slice (some ⟨gO, oO, none⟩) 9 H.Lists.Own.cap]) (fun _ _ i _ => 9 - (intOf i).toNat)
      case atStart => exact ⟨0, Nat.zero_le _, rfl, rfl, hb, ba⟩
      case round =>
        obtain ⟨i, hi, rfl, HT, hb, ba⟩ := hrel
        clear qa0 qa1 qa2 qa3
        have zl := ba.lt
        by_cases hlt : i < 9
        · have hltI : (i : Int) < 9 := by omega
          have hig : i < x.Lists.Own.length := by rw [HL.out.2]; exact hlt
          obtain ⟨g, o, A', c', hAe, hg, p0, rr⟩ := hor.row hb hig
          injection hAe with hAe
          injection hAe with hA1 hA2
          subst hA1 hA2
          have hgw : gO < wr.heap.size := Nat.lt_of_lt_of_le hg hb.size
          have hln := (RdL.len_ rr).2
          have HX := Hid.mk_ (show x.Lists.Own.getD i [] = x.Lists.Own[i] by rw [getD_at hig])
          have HSu := Hid.mk_ (fitsOwn_succ x i)
          have HNo := Hid.mk_ (fun hf => fitsOwn_no (m := x) (k := i) (n := 9) hlt hf)
          rw [HX.out] at HSu HNo
          clear HX
          generalize x.Lists.Own[i] = row at p0 rr hln HSu HNo
          have qa0 := ba.cell 0 _ rfl
          have qa1 := ba.cell 1 _ rfl
          have qa2 := ba.cell 2 _ rfl
          have qa3 := ba.cell 3 _ rfl
          go_wp2_with fail
          have hb' : Below w.heap.size w (wr.alloc (.cells #[.slice A' row.length c'] 163)) := hb.alloc hb.size _
          have ba' := ba.alloc (.cells #[.slice A' row.length c'] 163)
          refine (listFits_impl _ H.Heap x.Heap A' c' row ((i % 3 : Nat) : Int) (rdHeap_up h.Heap hb') hs.out (rd_up rr hb')).mono ?_
          rintro e w3 ⟨rfl, hb3⟩
          have ba3 := ba'.below hb3
          have hB3 := hb'.trans (hb3.mono hb'.size)
          clear hb3 hb' ba' hb ba p0 qa0 qa1 qa2 qa3
          by_cases k3 : row.all (fitsB x.Heap ((i % 3 : Nat) : Int)) = true
          · have HN := Hid.mk_ (show fitsOwn x (i + 1) = true by rw [HSu.out, HT.out, k3]; rfl)
            rw [k3]
            clear k3
            go_wp2
            go_roundw
            case rel => exact ⟨i + 1, by omega, by go_num, HN, hB3, ba3⟩
            case measure => simp [intOf]; omega
          · have k3' : row.all (fitsB x.Heap ((i % 3 : Nat) : Int)) = false := (Bool.not_eq_true _).mp k3
            have HN := Hid.mk_ (show memOkB x = false by rw [HE3.out, HNo.out k3'])
            rw [k3']
            clear k3 k3'
            go_wp2
            go_ret
            exact ⟨ret_bool HN.out.symm, hB3⟩
        · obtain rfl : i = 9 := by omega
          have HN := Hid.mk_ (show memOkB x = true by rw [HE3.out, HT.out])
          go_wp2
          go_ret
          exact ⟨ret_bool HN.out.symm, hb⟩
end Go.Proofs.YtkldapdpaldbgaaGreat
