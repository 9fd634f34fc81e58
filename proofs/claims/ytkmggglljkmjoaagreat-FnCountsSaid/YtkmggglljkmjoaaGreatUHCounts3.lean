/-
  Several texts in one: lemmas and contracts that the claim rests on.
-/
import Derived.Test.YtkmggglljkmjoaaGreatUHCounts1
import Derived.Deep.QuietTactic
import Derived.BigQuiet
import Derived.Deep.LoopGhost
import Derived.Deep.RegionHeld3
import Derived.WalkSpells
import Derived.Laws.Cover3
import Derived.Test.YtkmggglljkmjoaaGreatUHCounts2
import Derived.Deep.RegionLaw
import Derived.Laws.BytesArg
import Derived.Lib.Bytes
import Derived.Deep.CutRange
/-
  Memories: do the slots on a list fit to their class?
-/
namespace Go.Proofs.YtkmggglljkmjoaaGreat
open Go.RowKit
set_option maxRecDepth 100000 in
set_option maxHeartbeats 2000000 in
theorem listFits_impl (w : World) (H : HHeap) (x : Heap) (A : Option Addr) (cap : Nat) (l : List Int) (c : Int) (h : RdHeap w w.heap.size H x) (hs : shapeB x = true) (hr : RdL FI w w.heap.size (.slice A l.length cap) l) :
    Calls Tryz.prog 142 #[.agg #[.slice H.Bytes.a H.Bytes.len H.Bytes.cap, .slice H.Class.a H.Class.len H.Class.cap], .agg #[.slice A l.length cap], .int .i64 c] w fun e w' => e = .returned (.bool (l.all (fitsB x c))) ∧ Below w.heap.size w w' := by
  have hlt0 := (RdL.len_ hr).2
  have ba0 : Box ((w.alloc (.cells #[.slice H.Bytes.a H.Bytes.len H.Bytes.cap, .slice H.Class.a H.Class.len H.Class.cap] 26)).alloc (.cells #[.slice A l.length cap] 94)) w.heap.size [.slice H.Bytes.a H.Bytes.len H.Bytes.cap, .slice H.Class.a H.Class.len H.Class.cap] := (Box.new w #[.slice H.Bytes.a H.Bytes.len H.Bytes.cap, .slice H.Class.a H.Class.len H.Class.cap] _).alloc _
  have hB0 : Below w.heap.size w ((w.alloc (.cells #[.slice H.Bytes.a H.Bytes.len H.Bytes.cap, .slice H.Class.a H.Class.len H.Class.cap] 26)).alloc (.cells #[.slice A l.length cap] 94)) := by repeat (first | exact Below.refl _ _ | refine Below.alloc ?_ (by simp <;> omega) _ | refine below_grow_of ?_ (by simp <;> omega) _ _ | refine Below.drew ?_ | refine below_drewN ?_ _)
  go_enter Tryz.func142, Tryz.ntmps142
  go_wp2
  generalize ((w.alloc (.cells #[.slice H.Bytes.a H.Bytes.len H.Bytes.cap, .slice H.Class.a H.Class.len H.Class.cap] 26)).alloc (.cells #[.slice A l.length cap] 94)) = w0 at ba0 hB0
  go_loopw [8, 12] (fun _ i wr => ∃ k : Nat, k ≤ l.length ∧ i = .int .i64 k ∧ Hid ((l.take k).all (fitsB x c) = true) ∧ Below w.heap.size w wr ∧ Box wr w.heap.size [.slice H.Bytes.a H.Bytes.len H.Bytes.cap, .slice H.Class.a H.Class.len H.Class.cap]) (fun _ i _ => l.length - (intOf i).toNat)
  case atStart => exact ⟨0, Nat.zero_le _, rfl, rfl, hB0, ba0⟩
  case round =>
    obtain ⟨i, hi, rfl, HT, hb, ba⟩ := hrel
    clear ba0 hB0
    by_cases hlt : i < l.length
    · obtain ⟨g, off, cap', he, hg, _, _, hc⟩ := (hr.below hb).at_ (List.getElem?_eq_getElem hlt)
      injection he with he1 he2 he3
      clear he2
      subst he1 he3
      have p0 : wr.cell? ⟨g, off + i, none⟩ = some (.int .i64 l[i]) := by simpa [FI] using hc 0 _ rfl
      clear hc
      have qa0 := ba.cell 0 _ rfl
      have qa1 := ba.cell 1 _ rfl
      have HF := Hid.mk_ (show fitsB x c l[i] = ((classInB x l[i] == c) && decide (genInB x l[i] ≤ 6)) from rfl)
      have HY := Hid.mk_ (fun hp => all_step (p := fitsB x c) hlt HT.out hp)
      have HZ := Hid.mk_ (fun hp => all_no (p := fitsB x c) hlt hp)
      generalize l[i] = s at p0 HF HY HZ
      go_wp2_with fail
      refine (classIn_impl _ H x s (rdHeap_up h hb) hs).mono ?_
      rintro e w1 ⟨rfl, hb1⟩
      have ba1 := ba.below hb1
      have hB1 := hb.trans (hb1.mono hb.size)
      clear hb1 p0 qa0 qa1 ba hb
      by_cases k1 : classInB x s = c
      case neg =>
        have k1' : (classInB x s != c) = true := by simpa using k1
        have HN := Hid.mk_ (HZ.out (by rw [HF.out, show (classInB x s == c) = false by simpa using k1]; rfl))
        clear k1
        go_wp2
        go_ret
        exact ⟨ret_bool HN.out.symm, hB1⟩
      have k1' : (classInB x s != c) = false := by simpa using k1
      have K1 := Hid.mk_ k1
      clear k1
      have qa0 := ba1.cell 0 _ rfl
      have qa1 := ba1.cell 1 _ rfl
      go_wp2_with fail
      refine (GenIn_impl _ H x s (rdHeap_up h hB1) hs).mono ?_
      rintro e w2 ⟨rfl, hb2⟩
      have ba2 := ba1.below hb2
      have hB2 := hB1.trans (hb2.mono hB1.size)
      clear hb2 qa0 qa1 ba1 hB1
      by_cases k2 : genInB x s ≤ 6
      · have k2' : ¬ 6 < genInB x s := by omega
        have HN := Hid.mk_ (HY.out (by rw [HF.out, K1.out]; simp [k2]))
        go_wp2
        go_roundw
        case rel => exact ⟨i + 1, by omega, by go_num, HN, hB2, ba2⟩
        case measure => simp [intOf]; omega
      · have k2' : 6 < genInB x s := by omega
        have HN := Hid.mk_ (HZ.out (by rw [HF.out, K1.out]; simp [k2]))
        clear k2
        go_wp2
        go_ret
        exact ⟨ret_bool HN.out.symm, hB2⟩
    · obtain rfl : i = l.length := by omega
      have HN := Hid.mk_ (show l.all (fitsB x c) = true by have a := HT.out; rwa [List.take_length] at a)
      go_wp2
      go_ret
      exact ⟨ret_bool HN.out.symm, hb⟩
theorem held_up {B g0 g k : Nat} {v0 v1 u : Value} {W w w' : World} (h : w.cell? ⟨g0, 0, none⟩ = some v0 ∧ w.cell? ⟨g0, 1, none⟩ = some v1 ∧ w.cell? ⟨g, k, none⟩ = some u ∧ g0 < w.heap.size ∧ g < w.heap.size ∧ Below B W w) (hb : Below w.heap.size w w') (hB : B ≤ g0) :
    w'.cell? ⟨g0, 0, none⟩ = some v0 ∧ w'.cell? ⟨g0, 1, none⟩ = some v1 ∧ w'.cell? ⟨g, k, none⟩ = some u ∧ g0 < w'.heap.size ∧ g < w'.heap.size ∧ Below B W w' := by
  obtain ⟨a, b, c, d, e, f⟩ := h
  exact ⟨cell_up hb d a, cell_up hb d b, cell_up hb e c, Nat.lt_of_lt_of_le d hb.size, Nat.lt_of_lt_of_le e hb.size, f.trans (hb.mono (by omega))⟩
set_option maxRecDepth 100000 in
set_option maxHeartbeats 2000000 in
theorem l9Listed_spec (w : World) (H : HHeap) (x : Heap) (A : Option Addr) (cap : Nat) (l : List Int) (c : Int) (h : RdHeap w w.heap.size H x) (hs : shapeB x = true) (hr : RdL FI w w.heap.size (.slice A l.length cap) l) (hc0 : 0 ≤ c) :
    Calls Tryz.prog 74 #[.agg #[.slice H.Bytes.a H.Bytes.len H.Bytes.cap, .slice H.Class.a H.Class.len H.Class.cap], .slice A l.length cap, .int .i64 c] w fun e w' => e = .returned (.bool (l.all (fitsB x c))) ∧ Below w.heap.size w w' := by
  have hlt0 := (RdL.len_ hr).2
  have ba0 : Box (w.alloc (.cells #[.slice H.Bytes.a H.Bytes.len H.Bytes.cap, .slice H.Class.a H.Class.len H.Class.cap] 26)) w.heap.size [.slice H.Bytes.a H.Bytes.len H.Bytes.cap, .slice H.Class.a H.Class.len H.Class.cap] := Box.new w #[.slice H.Bytes.a H.Bytes.len H.Bytes.cap, .slice H.Class.a H.Class.len H.Class.cap] _
  have hB0 : Below w.heap.size w (w.alloc (.cells #[.slice H.Bytes.a H.Bytes.len H.Bytes.cap, .slice H.Class.a H.Class.len H.Class.cap] 26)) := by repeat (first | exact Below.refl _ _ | refine Below.alloc ?_ (by simp <;> omega) _ | refine below_grow_of ?_ (by simp <;> omega) _ _ | refine Below.drew ?_ | refine below_drewN ?_ _)
  go_enter Tryz.func74, Tryz.ntmps74
  go_wp2
  generalize (w.alloc (.cells #[.slice H.Bytes.a H.Bytes.len H.Bytes.cap, .slice H.Class.a H.Class.len H.Class.cap] 26)) = w0 at ba0 hB0
  go_loopw [7] (fun i wr => ∃ k : Nat, k ≤ l.length ∧ i = .int .i64 k ∧ Hid ((l.take k).all (fitsB x c) = true) ∧ Below w.heap.size w wr ∧ wr.cell? ⟨w.heap.size, 0, none⟩ = some (.slice H.Bytes.a H.Bytes.len H.Bytes.cap) ∧ wr.cell? ⟨w.heap.size, 1, none⟩ = some (.slice H.Class.a H.Class.len H.Class.cap) ∧ w.heap.size < wr.heap.size) (fun i _ => l.length - (intOf i).toNat)
  case atStart => exact ⟨0, Nat.zero_le _, rfl, rfl, hB0, ba0.cell 0 _ rfl, ba0.cell 1 _ rfl, ba0.lt⟩
  case round =>
    obtain ⟨i, hi, rfl, HT, hb, qa0, qa1, zl⟩ := hrel
    clear ba0 hB0
    by_cases hlt : i < l.length
    · obtain ⟨g, off, cap', he, hg, _, _, hc⟩ := (hr.below hb).at_ (List.getElem?_eq_getElem hlt)
      injection he with he1 he2 he3
      clear he2
      subst he1 he3
      have p0 : wr.cell? ⟨g, off + i, none⟩ = some (.int .i64 l[i]) := by simpa [FI] using hc 0 _ rfl
      clear hc
      have HF := Hid.mk_ (show fitsB x c l[i] = ((classInB x l[i] == c) && decide (genInB x l[i] ≤ 6)) from rfl)
      have HY := Hid.mk_ (fun hp => all_step (p := fitsB x c) hlt HT.out hp)
      have HZ := Hid.mk_ (fun hp => all_no (p := fitsB x c) hlt hp)
      generalize l[i] = s at p0 HF HY HZ
      clear hr
      by_cases k1 : classInB x s = c
      case neg =>
        have k1' : (classInB x s != c) = true := by simpa using k1
        have HN := Hid.mk_ (HZ.out (by rw [HF.out, show (classInB x s == c) = false by simpa using k1]; rfl))
        have hq1 := fun (W : World) (hW : RdHeap W W.heap.size H x) => l7Class_spec W H x s hW hs
        generalize classInB x s = cl at k1 k1' hq1
        clear k1 HF HY HZ
        go_wp2
        obtain ⟨wz, hwz⟩ : ∃ wz : World, wz = wr := ⟨_, rfl⟩
        first | (go_region_with (first | (go_at_call 77; refine (hq1 _ (rdHeap_up h (by first | exact hb.drew | exact below_drewN hb _ | exact hb))).mono ?_; rintro e w1 ⟨rfl, hb1⟩; obtain ⟨os1, d1, rfl⟩ := below_grows hb1; clear hb1))) | fail
        all_goals go_wp2
        all_goals go_ret
        all_goals exact ⟨ret_bool HN.out.symm, by first | exact below_grow_of hb (by omega) _ _ | repeat (first | exact Below.refl _ _ | refine Below.alloc ?_ (by simp <;> omega) _ | refine below_grow_of ?_ (by simp <;> omega) _ _ | refine Below.drew ?_ | refine below_drewN ?_ _)⟩
      have HN0 := Hid.mk_ k1
      have hgw : g < wr.heap.size := Nat.lt_of_lt_of_le hg hb.size
      have k1' : (classInB x s != c) = false := by simpa using k1
      have hq1 := fun (W : World) (hW : RdHeap W W.heap.size H x) => l7Class_spec W H x s hW hs
      have hq2 := fun (W : World) (hW : RdHeap W W.heap.size H x) => l7Gen_spec W H x s hW hs (by omega)
      rw [k1] at hq1
      clear k1'
      by_cases k2 : genInB x s ≤ 6
      · have HN := Hid.mk_ (HY.out (by rw [HF.out, HN0.out]; simp [k2]))
        have k2' : decide (6 < genInB x s) = false := by simp; omega
        generalize genInB x s = gn at k2 k2' hq2
        clear k1 k2 HF HY HZ HN0
        go_wp2
        go_region_held3 (fun w' => w'.cell? ⟨w.heap.size, 0, none⟩ = some (.slice H.Bytes.a H.Bytes.len H.Bytes.cap) ∧ w'.cell? ⟨w.heap.size, 1, none⟩ = some (.slice H.Class.a H.Class.len H.Class.cap) ∧ w'.cell? ⟨g, off + i, none⟩ = some (.int .i64 s) ∧ w.heap.size < w'.heap.size ∧ g < w'.heap.size ∧ Below w.heap.size w w') (first | (go_keep; done) | exact held_up (by assumption) (by assumption) (Nat.le_refl _) | exact ⟨by assumption, by assumption, by assumption, by assumption, by assumption, Below.drew (by assumption)⟩) (first | (go_at_call 77; refine (hq1 _ (rdHeap_up h (by go_split_ands; assumption))).mono ?_; rintro e w1 ⟨rfl, hb1⟩) | (go_at_call 108; refine (hq2 _ (rdHeap_up h (by go_split_ands; assumption))).mono ?_; rintro e w1 ⟨rfl, hb1⟩))
        go_wp2
        go_roundw
        case rel => exact ⟨i + 1, by omega, by go_num, HN, by first | assumption | (go_split_ands; assumption), by first | assumption | (go_split_ands; assumption), by first | assumption | (go_split_ands; assumption), by first | assumption | (go_split_ands; assumption)⟩
        case measure => simp [intOf]; omega
      · have HN := Hid.mk_ (HZ.out (by rw [HF.out, HN0.out]; simp [k2]))
        have k2' : decide (6 < genInB x s) = true := by simp; omega
        generalize genInB x s = gn at k2 k2' hq2
        clear k1 k2 HF HY HZ HN0
        go_wp2
        go_region_held3 (fun w' => w'.cell? ⟨w.heap.size, 0, none⟩ = some (.slice H.Bytes.a H.Bytes.len H.Bytes.cap) ∧ w'.cell? ⟨w.heap.size, 1, none⟩ = some (.slice H.Class.a H.Class.len H.Class.cap) ∧ w'.cell? ⟨g, off + i, none⟩ = some (.int .i64 s) ∧ w.heap.size < w'.heap.size ∧ g < w'.heap.size ∧ Below w.heap.size w w') (first | (go_keep; done) | exact held_up (by assumption) (by assumption) (Nat.le_refl _) | exact ⟨by assumption, by assumption, by assumption, by assumption, by assumption, Below.drew (by assumption)⟩) (first | (go_at_call 77; refine (hq1 _ (rdHeap_up h (by go_split_ands; assumption))).mono ?_; rintro e w1 ⟨rfl, hb1⟩) | (go_at_call 108; refine (hq2 _ (rdHeap_up h (by go_split_ands; assumption))).mono ?_; rintro e w1 ⟨rfl, hb1⟩))
        go_wp2
        go_ret
        exact ⟨ret_bool HN.out.symm, by first | assumption | (go_split_ands; assumption)⟩
    · obtain rfl : i = l.length := by omega
      have HN := Hid.mk_ (show l.all (fitsB x c) = true by have a := HT.out; rwa [List.take_length] at a)
      go_wp2
      go_ret
      exact ⟨ret_bool HN.out.symm, hb⟩
end Go.Proofs.YtkmggglljkmjoaaGreat

/-
  Memories valid, the states of slots: the program.
-/
namespace Go.Proofs.YtkmggglljkmjoaaGreat
open Go.RowKit
def fitsTo (m : Mem) (k : Nat) : Bool := (List.range k).all fun c => (m.Lists.Global.getD c []).all (fitsB m.Heap c)
def fitsOwn (m : Mem) (k : Nat) : Bool := (List.range k).all fun k => (m.Lists.Own.getD k []).all (fitsB m.Heap ((k % 3 : Nat) : Int))
theorem memOkB_eq (m : Mem) : memOkB m = (heapOkB m.Heap && listsOkB m.Lists && fitsTo m 3 && fitsOwn m 9) := rfl
theorem fitsTo_succ (m : Mem) (k : Nat) : fitsTo m (k + 1) = (fitsTo m k && (m.Lists.Global.getD k []).all (fitsB m.Heap k)) := by
  unfold fitsTo
  rw [List.range_succ, List.all_append]
  simp
theorem fitsOwn_succ (m : Mem) (k : Nat) : fitsOwn m (k + 1) = (fitsOwn m k && (m.Lists.Own.getD k []).all (fitsB m.Heap ((k % 3 : Nat) : Int))) := by
  unfold fitsOwn
  rw [List.range_succ, List.all_append]
  simp
theorem fitsTo_no {m : Mem} {k n : Nat} (hk : k < n) (h : (m.Lists.Global.getD k []).all (fitsB m.Heap k) = false) : fitsTo m n = false :=
  List.all_eq_false.2 ⟨k, List.mem_range.2 hk, by rw [h]; decide⟩
theorem fitsOwn_no {m : Mem} {k n : Nat} (hk : k < n) (h : (m.Lists.Own.getD k []).all (fitsB m.Heap ((k % 3 : Nat) : Int)) = false) : fitsOwn m n = false :=
  List.all_eq_false.2 ⟨k, List.mem_range.2 hk, by rw [h]; decide⟩
theorem lists_len {l : Lists} (h : listsOkB l = true) : l.Global.length = 3 ∧ l.Own.length = 9 := by
  unfold listsOkB at h
  simp only [Bool.and_eq_true, beq_iff_eq] at h
  exact ⟨h.1.1.1, h.1.1.2⟩
set_option maxRecDepth 100000 in
set_option maxHeartbeats 4000000 in
theorem MemOk_impl (w : World) (H : HMem) (x : Mem) (h : RdMem w w.heap.size H x) :
    Calls Tryz.prog 70 #[.agg #[.slice H.Heap.Bytes.a H.Heap.Bytes.len H.Heap.Bytes.cap, .slice H.Heap.Class.a H.Heap.Class.len H.Heap.Class.cap, .slice H.Lists.Global.a H.Lists.Global.len H.Lists.Global.cap, .slice H.Lists.Own.a H.Lists.Own.len H.Lists.Own.cap]] w fun e w' => e = .returned (.bool (memOkB x)) ∧ Below w.heap.size w w' := by
  have ba0 : Box (w.alloc (.cells #[.slice H.Heap.Bytes.a H.Heap.Bytes.len H.Heap.Bytes.cap, .slice H.Heap.Class.a H.Heap.Class.len H.Heap.Class.cap, .slice H.Lists.Global.a H.Lists.Global.len H.Lists.Global.cap, .slice H.Lists.Own.a H.Lists.Own.len H.Lists.Own.cap] 31)) w.heap.size [.slice H.Heap.Bytes.a H.Heap.Bytes.len H.Heap.Bytes.cap, .slice H.Heap.Class.a H.Heap.Class.len H.Heap.Class.cap, .slice H.Lists.Global.a H.Lists.Global.len H.Lists.Global.cap, .slice H.Lists.Own.a H.Lists.Own.len H.Lists.Own.cap] := Box.new w #[.slice H.Heap.Bytes.a H.Heap.Bytes.len H.Heap.Bytes.cap, .slice H.Heap.Class.a H.Heap.Class.len H.Heap.Class.cap, .slice H.Lists.Global.a H.Lists.Global.len H.Lists.Global.cap, .slice H.Lists.Own.a H.Lists.Own.len H.Lists.Own.cap] _
  have hB0 : Below w.heap.size w (w.alloc (.cells #[.slice H.Heap.Bytes.a H.Heap.Bytes.len H.Heap.Bytes.cap, .slice H.Heap.Class.a H.Heap.Class.len H.Heap.Class.cap, .slice H.Lists.Global.a H.Lists.Global.len H.Lists.Global.cap, .slice H.Lists.Own.a H.Lists.Own.len H.Lists.Own.cap] 31)) := by repeat (first | exact Below.refl _ _ | refine Below.alloc ?_ (by simp <;> omega) _ | refine below_grow_of ?_ (by simp <;> omega) _ _ | refine Below.drew ?_ | refine below_drewN ?_ _)
  have HE := Hid.mk_ (memOkB_eq x)
  go_enter Tryz.func70, Tryz.ntmps70
  go_wp2_with fail
  refine (HeapOk_impl _ H.Heap x.Heap (rdHeap_up h.Heap hB0)).mono ?_
  rintro e w1 ⟨rfl, hb⟩
  have ba1 := ba0.below hb
  have hB1 := hB0.trans (hb.mono hB0.size)
  clear hb ba0 hB0
  by_cases k1 : heapOkB x.Heap = true
  case neg =>
    have k1' : heapOkB x.Heap = false := (Bool.not_eq_true _).mp k1
    have HN := Hid.mk_ (show memOkB x = false by rw [HE.out, k1']; rfl)
    rw [k1']
    clear k1 k1'
    go_wp2
    go_ret
    exact ⟨ret_bool HN.out.symm, hB1⟩
  have K1 := Hid.mk_ k1
  rw [k1]
  clear k1
  have qa0 := ba1.cell 0 _ rfl
  have qa1 := ba1.cell 1 _ rfl
  have qa2 := ba1.cell 2 _ rfl
  have qa3 := ba1.cell 3 _ rfl
  go_wp2_with fail
  refine (ListsOk_impl _ H.Lists x.Lists (rdLists_up h.Lists hB1)).mono ?_
  rintro e w2 ⟨rfl, hb⟩
  have ba2 := ba1.below hb
  have hB2 := hB1.trans (hb.mono hB1.size)
  clear hb ba1 hB1 qa0 qa1 qa2 qa3
  by_cases k2 : listsOkB x.Lists = true
  case neg =>
    have k2' : listsOkB x.Lists = false := (Bool.not_eq_true _).mp k2
    have HN := Hid.mk_ (show memOkB x = false by rw [HE.out, k2']; simp)
    rw [k2']
    clear k2 k2'
    go_wp2
    go_ret
    exact ⟨ret_bool HN.out.symm, hB2⟩
  rw [k2]
  have hs := Hid.mk_ (heap_shape K1.out)
  have HL := Hid.mk_ (lists_len k2)
  have HE2 := Hid.mk_ (show memOkB x = (fitsTo x 3 && fitsOwn x 9) by rw [HE.out, K1.out, k2]; rfl)
  clear k2 HE
  obtain ⟨en1, _, hm1⟩ := (show RdLL FI w w.heap.size (.slice H.Lists.Global.a H.Lists.Global.len H.Lists.Global.cap) H.Lists.GlobalT x.Lists.Global from h.Lists.Global).len'
  obtain ⟨en2, _, hm2⟩ := (show RdLL FI w w.heap.size (.slice H.Lists.Own.a H.Lists.Own.len H.Lists.Own.cap) H.Lists.OwnT x.Lists.Own from h.Lists.Own).len'
  have en1' : H.Lists.Global.len = 3 := by rw [en1, HL.out.1]
  have en2' : H.Lists.Own.len = 9 := by rw [en2, HL.out.2]
  have hgr : RdLL FI w w.heap.size (.slice H.Lists.Global.a 3 H.Lists.Global.cap) H.Lists.GlobalT x.Lists.Global := by rw [← en1']; exact h.Lists.Global
  have hor : RdLL FI w w.heap.size (.slice H.Lists.Own.a 9 H.Lists.Own.cap) H.Lists.OwnT x.Lists.Own := by rw [← en2']; exact h.Lists.Own
  rw [en1', en2'] at ba2
  clear en1 en2 hm1 hm2 en1' en2'
  obtain ⟨gG, oG, _, _, eG, _, _, _⟩ := hgr.row (Below.refl _ _) (show 0 < x.Lists.Global.length by rw [HL.out.1]; decide)
  obtain ⟨gO, oO, _, _, eO, _, _, _⟩ := hor.row (Below.refl _ _) (show 0 < x.Lists.Own.length by rw [HL.out.2]; decide)
  rw [eG] at hgr ba2
  rw [eO] at hor ba2
  have qa0 := ba2.cell 0 _ rfl
  have qa1 := ba2.cell 1 _ rfl
  have qa2 := ba2.cell 2 _ rfl
  have qa3 := ba2.cell 3 _ rfl
  go_wp2
  go_loopw [3, 4, 21] (fun _ _ i wr => ∃ k : Nat, k ≤ 3 ∧ i = .int .i64 k ∧ Hid (fitsTo x k = true) ∧ Below w.heap.size w wr ∧ Box wr w.heap.size [.slice H.Heap.Bytes.a H.Heap.Bytes.len H.Heap.Bytes.cap, .slice H.Heap.Class.a H.Heap.Class.len H.Heap.Class.cap, .slice (some ⟨gG, oG, none⟩) 3 H.Lists.Global.cap, .slice (some ⟨gO, oO, none⟩) 9 H.Lists.Own.cap]) (fun _ _ i _ => 3 - (intOf i).toNat)
  case atStart => exact ⟨0, Nat.zero_le _, rfl, rfl, hB2, ba2⟩
  case round =>
    obtain ⟨i, hi, rfl, HT, hb, ba⟩ := hrel
    clear ba2 hB2 qa0 qa1 qa2 qa3
    have zl := ba.lt
    by_cases hlt : i < 3
    · have hltI : (i : Int) < 3 := by omega
      have hig : i < x.Lists.Global.length := by rw [HL.out.1]; exact hlt
      obtain ⟨g, o, A', c', hAe, hg, p0, rr⟩ := hgr.row hb hig
      injection hAe with hAe
      injection hAe with hA1 hA2
      subst hA1 hA2
      have hgw : gG < wr.heap.size := Nat.lt_of_lt_of_le hg hb.size
      have hln := (RdL.len_ rr).2
      have HX := Hid.mk_ (show x.Lists.Global.getD i [] = x.Lists.Global[i] by rw [getD_at hig])
      have HSu := Hid.mk_ (fitsTo_succ x i)
      have HNo := Hid.mk_ (fun hf => fitsTo_no (m := x) (k := i) (n := 3) hlt hf)
      rw [HX.out] at HSu HNo
      clear HX
      generalize x.Lists.Global[i] = row at p0 rr hln HSu HNo
      have qa0 := ba.cell 0 _ rfl
      have qa1 := ba.cell 1 _ rfl
      have qa2 := ba.cell 2 _ rfl
      have qa3 := ba.cell 3 _ rfl
      go_wp2_with fail
      have hb' : Below w.heap.size w (wr.alloc (.cells #[.slice A' row.length c'] 94)) := hb.alloc hb.size _
      have ba' := ba.alloc (.cells #[.slice A' row.length c'] 94)
      refine (listFits_impl _ H.Heap x.Heap A' c' row i (rdHeap_up h.Heap hb') hs.out (rd_up rr hb')).mono ?_
      rintro e w3 ⟨rfl, hb3⟩
      have ba3 := ba'.below hb3
      have hB3 := hb'.trans (hb3.mono hb'.size)
      clear hb3 hb' ba' hb ba p0 qa0 qa1 qa2 qa3
      by_cases k3 : row.all (fitsB x.Heap i) = true
      · have HN := Hid.mk_ (show fitsTo x (i + 1) = true by rw [HSu.out, HT.out, k3]; rfl)
        rw [k3]
        clear k3
        go_wp2
        go_roundw
        case rel => exact ⟨i + 1, by omega, by go_num, HN, hB3, ba3⟩
        case measure => simp [intOf]; omega
      · have k3' : row.all (fitsB x.Heap i) = false := (Bool.not_eq_true _).mp k3
        have HN := Hid.mk_ (show memOkB x = false by rw [HE2.out, HNo.out k3']; rfl)
        rw [k3']
        clear k3 k3'
        go_wp2
        go_ret
        exact ⟨ret_bool HN.out.symm, hB3⟩
    · obtain rfl : i = 3 := by omega
      have HE3 := Hid.mk_ (show memOkB x = fitsOwn x 9 by rw [HE2.out, HT.out]; rfl)
      clear HT HE2
      rw [show ((3 : Nat) : Int) = 3 from rfl]
      have qa0 := ba.cell 0 _ rfl
      have qa1 := ba.cell 1 _ rfl
      have qa2 := ba.cell 2 _ rfl
      have qa3 := ba.cell 3 _ rfl
      go_wp2
      go_loopw [5, 6, 37] (fun _ _ i wr => ∃ k : Nat, k ≤ 9 ∧ i = .int .i64 k ∧ Hid (fitsOwn x k = true) ∧ Below w.heap.size w wr ∧ Box wr w.heap.size [.slice H.Heap.Bytes.a H.Heap.Bytes.len H.Heap.Bytes.cap, .slice H.Heap.Class.a H.Heap.Class.len H.Heap.Class.cap, .slice (some ⟨gG, oG, none⟩) 3 H.Lists.Global.cap, .slice (some ⟨gO, oO, none⟩) 9 H.Lists.Own.cap]) (fun _ _ i _ => 9 - (intOf i).toNat)
      case atStart => exact ⟨0, Nat.zero_le _, rfl, rfl, hb, ba⟩
      case round =>
        obtain ⟨i, hi, rfl, HT, hb, ba⟩ := hrel
        clear qa0 qa1 qa2 qa3
        have zl := ba.lt
        by_cases hlt : i < 9
        · have hltI : (i : Int) < 9 := by omega
          have hig : i < x.Lists.Own.length := by rw [HL.out.2]; exact hlt
          obtain ⟨g, o, A', c', hAe, hg, p0, rr⟩ := hor.row hb hig
          injection hAe with hAe
          injection hAe with hA1 hA2
          subst hA1 hA2
          have hgw : gO < wr.heap.size := Nat.lt_of_lt_of_le hg hb.size
          have hln := (RdL.len_ rr).2
          have HX := Hid.mk_ (show x.Lists.Own.getD i [] = x.Lists.Own[i] by rw [getD_at hig])
          have HSu := Hid.mk_ (fitsOwn_succ x i)
          have HNo := Hid.mk_ (fun hf => fitsOwn_no (m := x) (k := i) (n := 9) hlt hf)
          rw [HX.out] at HSu HNo
          clear HX
          generalize x.Lists.Own[i] = row at p0 rr hln HSu HNo
          have qa0 := ba.cell 0 _ rfl
          have qa1 := ba.cell 1 _ rfl
          have qa2 := ba.cell 2 _ rfl
          have qa3 := ba.cell 3 _ rfl
          go_wp2_with fail
          have hb' : Below w.heap.size w (wr.alloc (.cells #[.slice A' row.length c'] 94)) := hb.alloc hb.size _
          have ba' := ba.alloc (.cells #[.slice A' row.length c'] 94)
          refine (listFits_impl _ H.Heap x.Heap A' c' row ((i % 3 : Nat) : Int) (rdHeap_up h.Heap hb') hs.out (rd_up rr hb')).mono ?_
          rintro e w3 ⟨rfl, hb3⟩
          have ba3 := ba'.below hb3
          have hB3 := hb'.trans (hb3.mono hb'.size)
          clear hb3 hb' ba' hb ba p0 qa0 qa1 qa2 qa3
          by_cases k3 : row.all (fitsB x.Heap ((i % 3 : Nat) : Int)) = true
          · have HN := Hid.mk_ (show fitsOwn x (i + 1) = true by rw [HSu.out, HT.out, k3]; rfl)
            rw [k3]
            clear k3
            go_wp2
            go_roundw
            case rel => exact ⟨i + 1, by omega, by go_num, HN, hB3, ba3⟩
            case measure => simp [intOf]; omega
          · have k3' : row.all (fitsB x.Heap ((i % 3 : Nat) : Int)) = false := (Bool.not_eq_true _).mp k3
            have HN := Hid.mk_ (show memOkB x = false by rw [HE3.out, HNo.out k3'])
            rw [k3']
            clear k3 k3'
            go_wp2
            go_ret
            exact ⟨ret_bool HN.out.symm, hB3⟩
        · obtain rfl : i = 9 := by omega
          have HN := Hid.mk_ (show memOkB x = true by rw [HE3.out, HT.out])
          go_wp2
          go_ret
          exact ⟨ret_bool HN.out.symm, hb⟩
end Go.Proofs.YtkmggglljkmjoaaGreat

/-
  Memories valid: the reference.
-/
namespace Go.Proofs.YtkmggglljkmjoaaGreat
open Go.RowKit
theorem held_up4 {B g0 g k : Nat} {v0 v1 v2 v3 u : Value} {W w w' : World} (h : w.cell? ⟨g0, 0, none⟩ = some v0 ∧ w.cell? ⟨g0, 1, none⟩ = some v1 ∧ w.cell? ⟨g0, 2, none⟩ = some v2 ∧ w.cell? ⟨g0, 3, none⟩ = some v3 ∧ w.cell? ⟨g, k, none⟩ = some u ∧ g0 < w.heap.size ∧ g < w.heap.size ∧ Below B W w) (hb : Below w.heap.size w w') (hB : B ≤ g0) :
    w'.cell? ⟨g0, 0, none⟩ = some v0 ∧ w'.cell? ⟨g0, 1, none⟩ = some v1 ∧ w'.cell? ⟨g0, 2, none⟩ = some v2 ∧ w'.cell? ⟨g0, 3, none⟩ = some v3 ∧ w'.cell? ⟨g, k, none⟩ = some u ∧ g0 < w'.heap.size ∧ g < w'.heap.size ∧ Below B W w' := by
  obtain ⟨a, b, a', b', c, d, e, f⟩ := h
  exact ⟨cell_up hb d a, cell_up hb d b, cell_up hb d a', cell_up hb d b', cell_up hb e c, Nat.lt_of_lt_of_le d hb.size, Nat.lt_of_lt_of_le e hb.size, f.trans (hb.mono (by omega))⟩
def gFit (m : Mem) (c : Nat) : Bool := (m.Lists.Global.getD c []).all (fitsB m.Heap c)
def oFit (m : Mem) (k : Nat) : Bool := (m.Lists.Own.getD k []).all (fitsB m.Heap ((k % 3 : Nat) : Int))
theorem fits_yes {m : Mem} (h : ∀ c < 3, gFit m c = true ∧ ∀ w < 3, oFit m (w * 3 + c) = true) : fitsTo m 3 = true ∧ fitsOwn m 9 = true := by
  constructor
  · exact List.all_eq_true.2 fun c hc => (h c (List.mem_range.1 hc)).1
  · refine List.all_eq_true.2 fun k hk => ?_
    have hk9 := List.mem_range.1 hk
    have a := (h (k % 3) (by omega)).2 (k / 3) (by omega)
    rwa [show k / 3 * 3 + k % 3 = k by omega] at a
set_option maxHeartbeats 1000000 in
theorem OwnAt_spec (a c : Nat) (ha : a < 3) (hc : c < 3) (w : World) : Calls Tryz.prog 75 #[.int .i64 a, .int .i64 c] w fun e w' => e = .returned (.int .i64 ((a * 3 + c : Nat) : Int)) ∧ w = w' := by
  have h1 : inB 0 2 (a : Int) = true := inB_iff.2 ⟨by omega, by omega⟩
  have h2 : inB 0 2 (c : Int) = true := inB_iff.2 ⟨by omega, by omega⟩
  have a1 : (a : Int) ≤ 2 := by omega
  have c1 : (c : Int) ≤ 2 := by omega
  go_enter Tryz.func75, Tryz.ntmps75
  go_wp2_with (go_at_call 102; refine (l1In_ct _ _ _ _).mono ?_; rintro e w1 ⟨rfl, rfl⟩)
  go_ret
  exact ⟨ret_i64 (by omega), rfl⟩
set_option maxRecDepth 100000 in
set_option maxHeartbeats 4000000 in
theorem MemOk_spec (w : World) (H : HMem) (x : Mem) (h : RdMem w w.heap.size H x) (hs1 : szLL x.Lists.Global ≤ 536870912) (hs2 : szLL x.Lists.Own ≤ 536870912) :
    Calls Tryz.prog 19 #[.agg #[.slice H.Heap.Bytes.a H.Heap.Bytes.len H.Heap.Bytes.cap, .slice H.Heap.Class.a H.Heap.Class.len H.Heap.Class.cap, .slice H.Lists.Global.a H.Lists.Global.len H.Lists.Global.cap, .slice H.Lists.Own.a H.Lists.Own.len H.Lists.Own.cap]] w fun e w' => e = .returned (.bool (memOkB x)) ∧ Below w.heap.size w w' := by
  have ba0 : Box (w.alloc (.cells #[.slice H.Heap.Bytes.a H.Heap.Bytes.len H.Heap.Bytes.cap, .slice H.Heap.Class.a H.Heap.Class.len H.Heap.Class.cap, .slice H.Lists.Global.a H.Lists.Global.len H.Lists.Global.cap, .slice H.Lists.Own.a H.Lists.Own.len H.Lists.Own.cap] 31)) w.heap.size [.slice H.Heap.Bytes.a H.Heap.Bytes.len H.Heap.Bytes.cap, .slice H.Heap.Class.a H.Heap.Class.len H.Heap.Class.cap, .slice H.Lists.Global.a H.Lists.Global.len H.Lists.Global.cap, .slice H.Lists.Own.a H.Lists.Own.len H.Lists.Own.cap] := Box.new w #[.slice H.Heap.Bytes.a H.Heap.Bytes.len H.Heap.Bytes.cap, .slice H.Heap.Class.a H.Heap.Class.len H.Heap.Class.cap, .slice H.Lists.Global.a H.Lists.Global.len H.Lists.Global.cap, .slice H.Lists.Own.a H.Lists.Own.len H.Lists.Own.cap] _
  have hB0 : Below w.heap.size w (w.alloc (.cells #[.slice H.Heap.Bytes.a H.Heap.Bytes.len H.Heap.Bytes.cap, .slice H.Heap.Class.a H.Heap.Class.len H.Heap.Class.cap, .slice H.Lists.Global.a H.Lists.Global.len H.Lists.Global.cap, .slice H.Lists.Own.a H.Lists.Own.len H.Lists.Own.cap] 31)) := by repeat (first | exact Below.refl _ _ | refine Below.alloc ?_ (by simp <;> omega) _ | refine below_grow_of ?_ (by simp <;> omega) _ _ | refine Below.drew ?_ | refine below_drewN ?_ _)
  have HE := Hid.mk_ (memOkB_eq x)
  go_enter Tryz.func19, Tryz.ntmps19
  go_wp2_with fail
  refine (HeapOk_spec _ H.Heap x.Heap (rdHeap_up h.Heap hB0)).mono ?_
  rintro e w1 ⟨rfl, hb⟩
  have ba1 := ba0.below hb
  have hB1 := hB0.trans (hb.mono hB0.size)
  clear hb ba0 hB0
  by_cases k1 : heapOkB x.Heap = true
  case neg =>
    have k1' : heapOkB x.Heap = false := (Bool.not_eq_true _).mp k1
    have HN := Hid.mk_ (show memOkB x = false by rw [HE.out, k1']; rfl)
    rw [k1']
    clear k1 k1'
    go_wp2
    go_ret
    exact ⟨ret_bool HN.out.symm, hB1⟩
  have K1 := Hid.mk_ k1
  rw [k1]
  clear k1
  have qa0 := ba1.cell 0 _ rfl
  have qa1 := ba1.cell 1 _ rfl
  have qa2 := ba1.cell 2 _ rfl
  have qa3 := ba1.cell 3 _ rfl
  go_wp2_with fail
  refine (ListsOk_spec _ H.Lists x.Lists (rdLists_up h.Lists hB1) hs1 hs2).mono ?_
  rintro e w2 ⟨rfl, hb⟩
  have ba2 := ba1.below hb
  have hB2 := hB1.trans (hb.mono hB1.size)
  clear hb ba1 hB1 qa0 qa1 qa2 qa3
  by_cases k2 : listsOkB x.Lists = true
  case neg =>
    have k2' : listsOkB x.Lists = false := (Bool.not_eq_true _).mp k2
    have HN := Hid.mk_ (show memOkB x = false by rw [HE.out, k2']; simp)
    rw [k2']
    clear k2 k2'
    go_wp2
    go_ret
    exact ⟨ret_bool HN.out.symm, hB2⟩
  rw [k2]
  have hs := Hid.mk_ (heap_shape K1.out)
  have HL := Hid.mk_ (lists_len k2)
  have HE2 := Hid.mk_ (show memOkB x = (fitsTo x 3 && fitsOwn x 9) by rw [HE.out, K1.out, k2]; rfl)
  clear k2 HE
  obtain ⟨en1, _, hm1⟩ := (show RdLL FI w w.heap.size (.slice H.Lists.Global.a H.Lists.Global.len H.Lists.Global.cap) H.Lists.GlobalT x.Lists.Global from h.Lists.Global).len'
  obtain ⟨en2, _, hm2⟩ := (show RdLL FI w w.heap.size (.slice H.Lists.Own.a H.Lists.Own.len H.Lists.Own.cap) H.Lists.OwnT x.Lists.Own from h.Lists.Own).len'
  have en1' : H.Lists.Global.len = 3 := by rw [en1, HL.out.1]
  have en2' : H.Lists.Own.len = 9 := by rw [en2, HL.out.2]
  have hgr : RdLL FI w w.heap.size (.slice H.Lists.Global.a 3 H.Lists.Global.cap) H.Lists.GlobalT x.Lists.Global := by rw [← en1']; exact h.Lists.Global
  have hor : RdLL FI w w.heap.size (.slice H.Lists.Own.a 9 H.Lists.Own.cap) H.Lists.OwnT x.Lists.Own := by rw [← en2']; exact h.Lists.Own
  rw [en1', en2'] at ba2
  clear en1 en2 hm1 hm2 en1' en2'
  obtain ⟨gG, oG, _, _, eG, _, _, _⟩ := hgr.row (Below.refl _ _) (show 0 < x.Lists.Global.length by rw [HL.out.1]; decide)
  obtain ⟨gO, oO, _, _, eO, _, _, _⟩ := hor.row (Below.refl _ _) (show 0 < x.Lists.Own.length by rw [HL.out.2]; decide)
  rw [eG] at hgr ba2
  rw [eO] at hor ba2
  go_wp2
  go_loopw [3, 4] (fun i _ wr => ∃ k : Nat, k ≤ 3 ∧ i = .int .i64 k ∧ Hid (∀ c < k, gFit x c = true ∧ ∀ a < 3, oFit x (a * 3 + c) = true) ∧ Below w.heap.size w wr ∧ wr.cell? ⟨w.heap.size, 0, none⟩ = some (.slice H.Heap.Bytes.a H.Heap.Bytes.len H.Heap.Bytes.cap) ∧ wr.cell? ⟨w.heap.size, 1, none⟩ = some (.slice H.Heap.Class.a H.Heap.Class.len H.Heap.Class.cap) ∧ wr.cell? ⟨w.heap.size, 2, none⟩ = some (.slice (some ⟨gG, oG, none⟩) 3 H.Lists.Global.cap) ∧ wr.cell? ⟨w.heap.size, 3, none⟩ = some (.slice (some ⟨gO, oO, none⟩) 9 H.Lists.Own.cap) ∧ w.heap.size < wr.heap.size) (fun i _ _ => 3 - (intOf i).toNat)
  case atStart => exact ⟨0, Nat.zero_le _, rfl, Hid.mk_ (fun c hc => absurd hc (Nat.not_lt_zero c)), hB2, ba2.cell 0 _ rfl, ba2.cell 1 _ rfl, ba2.cell 2 _ rfl, ba2.cell 3 _ rfl, ba2.lt⟩
  case round =>
    obtain ⟨i, hi, rfl, HT, hb, qa0, qa1, qa2, qa3, zl⟩ := hrel
    clear ba2 hB2
    by_cases hlt : i < 3
    · have hltI : (i : Int) < 3 := by omega
      have hig : i < x.Lists.Global.length := by rw [HL.out.1]; exact hlt
      obtain ⟨g, o, A', c', hAe, hg, p0, rr⟩ := hgr.row hb hig
      injection hAe with hAe
      injection hAe with hA1 hA2
      subst hA1 hA2
      have hgw : gG < wr.heap.size := Nat.lt_of_lt_of_le hg hb.size
      have HX := Hid.mk_ (show gFit x i = (x.Lists.Global[i]).all (fitsB x.Heap i) by unfold gFit; rw [getD_at hig])
      have HNo := Hid.mk_ (fun hf : gFit x i = false => fitsTo_no (m := x) (k := i) (n := 3) hlt hf)
      generalize x.Lists.Global[i] = row at p0 rr HX
      have hq1 := fun (W : World) (hW : Below w.heap.size w W) => l9Listed_spec W H.Heap x.Heap A' c' row i (rdHeap_up h.Heap hW) hs.out (rd_up rr hW) (by omega)
      rw [← HX.out] at hq1
      by_cases k3 : gFit x i = true
      case neg =>
        have k3' : gFit x i = false := (Bool.not_eq_true _).mp k3
        have HN := Hid.mk_ (show memOkB x = false by rw [HE2.out, HNo.out k3']; rfl)
        rw [k3'] at hq1
        clear k3 k3' HX HNo
        go_wp2
        go_region_held3 (fun w' => w'.cell? ⟨w.heap.size, 0, none⟩ = some (.slice H.Heap.Bytes.a H.Heap.Bytes.len H.Heap.Bytes.cap) ∧ w'.cell? ⟨w.heap.size, 1, none⟩ = some (.slice H.Heap.Class.a H.Heap.Class.len H.Heap.Class.cap) ∧ w'.cell? ⟨w.heap.size, 2, none⟩ = some (.slice (some ⟨gG, oG, none⟩) 3 H.Lists.Global.cap) ∧ w'.cell? ⟨w.heap.size, 3, none⟩ = some (.slice (some ⟨gO, oO, none⟩) 9 H.Lists.Own.cap) ∧ w'.cell? ⟨gG, oG + i, none⟩ = some (.slice A' row.length c') ∧ w.heap.size < w'.heap.size ∧ gG < w'.heap.size ∧ Below w.heap.size w w') (first | (go_keep; done) | exact held_up4 (by assumption) (by assumption) (Nat.le_refl _) | exact ⟨by assumption, by assumption, by assumption, by assumption, by assumption, by assumption, by assumption, Below.drew (by assumption)⟩) ((go_at_call 74; refine (hq1 _ (by go_split_ands; assumption)).mono ?_; rintro e w3 ⟨rfl, hb3⟩))
        go_wp2
        go_ret
        exact ⟨ret_bool HN.out.symm, by first | assumption | (go_split_ands; assumption)⟩
      have K3 := Hid.mk_ k3
      rw [k3] at hq1
      clear k3 HX HNo
      go_wp2
      go_region_held3 (fun w' => w'.cell? ⟨w.heap.size, 0, none⟩ = some (.slice H.Heap.Bytes.a H.Heap.Bytes.len H.Heap.Bytes.cap) ∧ w'.cell? ⟨w.heap.size, 1, none⟩ = some (.slice H.Heap.Class.a H.Heap.Class.len H.Heap.Class.cap) ∧ w'.cell? ⟨w.heap.size, 2, none⟩ = some (.slice (some ⟨gG, oG, none⟩) 3 H.Lists.Global.cap) ∧ w'.cell? ⟨w.heap.size, 3, none⟩ = some (.slice (some ⟨gO, oO, none⟩) 9 H.Lists.Own.cap) ∧ w'.cell? ⟨gG, oG + i, none⟩ = some (.slice A' row.length c') ∧ w.heap.size < w'.heap.size ∧ gG < w'.heap.size ∧ Below w.heap.size w w') (first | (go_keep; done) | exact held_up4 (by assumption) (by assumption) (Nat.le_refl _) | exact ⟨by assumption, by assumption, by assumption, by assumption, by assumption, by assumption, by assumption, Below.drew (by assumption)⟩) ((go_at_call 74; refine (hq1 _ (by go_split_ands; assumption)).mono ?_; rintro e w3 ⟨rfl, hb3⟩))
      rename_i hh
      obtain ⟨qa0, qa1, qa2, qa3, _, zl2, _, hb2⟩ := hh
      clear hq1 p0
      go_wp2
      go_loopw [4] (fun j wr => ∃ k : Nat, k ≤ 3 ∧ j = .int .i64 k ∧ Hid (∀ a < k, oFit x (a * 3 + i) = true) ∧ Below w.heap.size w wr ∧ wr.cell? ⟨w.heap.size, 0, none⟩ = some (.slice H.Heap.Bytes.a H.Heap.Bytes.len H.Heap.Bytes.cap) ∧ wr.cell? ⟨w.heap.size, 1, none⟩ = some (.slice H.Heap.Class.a H.Heap.Class.len H.Heap.Class.cap) ∧ wr.cell? ⟨w.heap.size, 2, none⟩ = some (.slice (some ⟨gG, oG, none⟩) 3 H.Lists.Global.cap) ∧ wr.cell? ⟨w.heap.size, 3, none⟩ = some (.slice (some ⟨gO, oO, none⟩) 9 H.Lists.Own.cap) ∧ w.heap.size < wr.heap.size) (fun j _ => 3 - (intOf j).toNat)
      case atStart => exact ⟨0, Nat.zero_le _, rfl, Hid.mk_ (fun a ha => absurd ha (Nat.not_lt_zero a)), by assumption, by assumption, by assumption, by assumption, by assumption, by assumption⟩
      case round =>
        obtain ⟨j, hj, rfl, HU, hb, qa0, qa1, qa2, qa3, zl⟩ := hrel
        by_cases hlj : j < 3
        · have hltJ : (j : Int) < 3 := by omega
          have hig2 : j * 3 + i < x.Lists.Own.length := by rw [HL.out.2]; omega
          obtain ⟨g, o, A2', c2', hAe, hg, p0, rr⟩ := hor.row hb hig2
          injection hAe with hAe
          injection hAe with hA1 hA2
          subst hA1 hA2
          have hgw : gO < wr.heap.size := Nat.lt_of_lt_of_le hg hb.size
          have HX := Hid.mk_ (show oFit x (j * 3 + i) = (x.Lists.Own[j * 3 + i]).all (fitsB x.Heap i) by unfold oFit; rw [getD_at hig2, show (j * 3 + i) % 3 = i by omega])
          have HNo := Hid.mk_ (fun hf : oFit x (j * 3 + i) = false => fitsOwn_no (m := x) (k := j * 3 + i) (n := 9) (by omega) hf)
          generalize x.Lists.Own[j * 3 + i] = row2 at p0 rr HX
          have hq1 := fun (W : World) (hW : Below w.heap.size w W) => l9Listed_spec W H.Heap x.Heap A2' c2' row2 i (rdHeap_up h.Heap hW) hs.out (rd_up rr hW) (by omega)
          have hq2 := fun (W : World) => OwnAt_spec j i hlj hlt W
          rw [← HX.out] at hq1
          have n0 : (0 : Int) ≤ ((j * 3 + i : Nat) : Int) := by omega
          have n1 : ((j * 3 + i : Nat) : Int) < 9 := by omega
          have n2 : j * 3 + i < 9 := by omega
          have n3 : ((j * 3 + i : Nat) : Int).toNat = j * 3 + i := by omega
          obtain ⟨kk, hkk⟩ : ∃ kk, kk = j * 3 + i := ⟨_, rfl⟩
          rw [← hkk] at p0 n0 n1 n2 n3
          simp only [← hkk] at hq2
          clear hkk
          by_cases k4 : oFit x (j * 3 + i) = true
          · have HN := Hid.mk_ (show ∀ a < j + 1, oFit x (a * 3 + i) = true from fun a ha => by
              by_cases e : a = j
              · rw [e]; exact k4
              · exact HU.out a (by omega))
            rw [k4] at hq1
            clear k4 HX HNo
            go_wp2
            go_region_held3 (fun w' => w'.cell? ⟨w.heap.size, 0, none⟩ = some (.slice H.Heap.Bytes.a H.Heap.Bytes.len H.Heap.Bytes.cap) ∧ w'.cell? ⟨w.heap.size, 1, none⟩ = some (.slice H.Heap.Class.a H.Heap.Class.len H.Heap.Class.cap) ∧ w'.cell? ⟨w.heap.size, 2, none⟩ = some (.slice (some ⟨gG, oG, none⟩) 3 H.Lists.Global.cap) ∧ w'.cell? ⟨w.heap.size, 3, none⟩ = some (.slice (some ⟨gO, oO, none⟩) 9 H.Lists.Own.cap) ∧ w'.cell? ⟨gO, oO + kk, none⟩ = some (.slice A2' row2.length c2') ∧ w.heap.size < w'.heap.size ∧ gO < w'.heap.size ∧ Below w.heap.size w w') (first | (go_keep; done) | exact held_up4 (by assumption) (by assumption) (Nat.le_refl _) | exact ⟨by assumption, by assumption, by assumption, by assumption, by assumption, by assumption, by assumption, Below.drew (by assumption)⟩) (first | (go_at_call 75; refine (hq2 _).mono ?_; rintro e w3 ⟨rfl, rfl⟩) | (go_at_call 74; refine (hq1 _ (by go_split_ands; assumption)).mono ?_; rintro e w3 ⟨rfl, hb3⟩))
            go_wp2
            go_roundw
            case rel => exact ⟨j + 1, by omega, by go_num, HN, by first | assumption | (go_split_ands; assumption), by first | assumption | (go_split_ands; assumption), by first | assumption | (go_split_ands; assumption), by first | assumption | (go_split_ands; assumption), by first | assumption | (go_split_ands; assumption), by first | assumption | (go_split_ands; assumption)⟩
            case measure => simp [intOf]; omega
          · have k4' : oFit x (j * 3 + i) = false := (Bool.not_eq_true _).mp k4
            have HN := Hid.mk_ (show memOkB x = false by rw [HE2.out, HNo.out k4']; simp)
            rw [k4'] at hq1
            clear k4 k4' HX HNo
            go_wp2
            go_region_held3 (fun w' => w'.cell? ⟨w.heap.size, 0, none⟩ = some (.slice H.Heap.Bytes.a H.Heap.Bytes.len H.Heap.Bytes.cap) ∧ w'.cell? ⟨w.heap.size, 1, none⟩ = some (.slice H.Heap.Class.a H.Heap.Class.len H.Heap.Class.cap) ∧ w'.cell? ⟨w.heap.size, 2, none⟩ = some (.slice (some ⟨gG, oG, none⟩) 3 H.Lists.Global.cap) ∧ w'.cell? ⟨w.heap.size, 3, none⟩ = some (.slice (some ⟨gO, oO, none⟩) 9 H.Lists.Own.cap) ∧ w'.cell? ⟨gO, oO + kk, none⟩ = some (.slice A2' row2.length c2') ∧ w.heap.size < w'.heap.size ∧ gO < w'.heap.size ∧ Below w.heap.size w w') (first | (go_keep; done) | exact held_up4 (by assumption) (by assumption) (Nat.le_refl _) | exact ⟨by assumption, by assumption, by assumption, by assumption, by assumption, by assumption, by assumption, Below.drew (by assumption)⟩) (first | (go_at_call 75; refine (hq2 _).mono ?_; rintro e w3 ⟨rfl, rfl⟩) | (go_at_call 74; refine (hq1 _ (by go_split_ands; assumption)).mono ?_; rintro e w3 ⟨rfl, hb3⟩))
            go_wp2
            go_ret
            exact ⟨ret_bool HN.out.symm, by first | assumption | (go_split_ands; assumption)⟩
        · obtain rfl : j = 3 := by omega
          go_wp2
          go_roundw
          case rel =>
            refine ⟨i + 1, by omega, by go_num, Hid.mk_ (fun c hc => ?_), hb, qa0, qa1, qa2, qa3, zl⟩
            by_cases e : c = i
            · rw [e]; exact ⟨K3.out, HU.out⟩
            · exact HT.out c (by omega)
          case measure => simp [intOf]; omega
    · obtain rfl : i = 3 := by omega
      have HN := Hid.mk_ (show memOkB x = true by rw [HE2.out, (fits_yes HT.out).1, (fits_yes HT.out).2]; rfl)
      go_wp2
      go_ret
      exact ⟨ret_bool HN.out.symm, hb⟩
end Go.Proofs.YtkmggglljkmjoaaGreat

/-
  Memories: handles, the states of slots.
-/
namespace Go.Proofs.YtkmggglljkmjoaaGreat
open Go.RowKit
set_option maxHeartbeats 400000 in
theorem HandleOk_spec (h : Int) (w : World) : Calls Tryz.prog 91 #[.int .i64 h] w fun e w' => e = .returned (.bool (handleOkB h)) ∧ w = w' := by
  by_cases h1 : 32 ≤ h
  · by_cases h2 : h ≤ 223
    · go_enter Tryz.func91, Tryz.ntmps91
      go_wp2
      go_ret
      exact ⟨ret_bool (by simp [handleOkB, h1, h2]), rfl⟩
    · go_enter Tryz.func91, Tryz.ntmps91
      go_wp2
      go_ret
      exact ⟨ret_bool (by simp [handleOkB]; omega), rfl⟩
  · go_enter Tryz.func91, Tryz.ntmps91
    go_wp2
    go_ret
    exact ⟨ret_bool (by simp [handleOkB]; omega), rfl⟩
theorem handleOk_bd {h : Int} (k : handleOkB h = true) : 32 ≤ h ∧ h ≤ 223 ∧ h % 32 < 24 ∧ inB 0 23 (h % 32) = true ∧ h.tmod 32 = h % 32 ∧ h.tdiv 32 = h / 32 := by
  unfold handleOkB at k
  simp only [Bool.and_eq_true, decide_eq_true_eq] at k
  obtain ⟨⟨a, b⟩, c⟩ := k
  exact ⟨a, b, c, inB_iff.2 ⟨by omega, by omega⟩, Int.tmod_eq_emod_of_nonneg (by omega), Int.tdiv_eq_ediv_of_nonneg (by omega)⟩
set_option maxHeartbeats 400000 in
theorem HandleSlot_spec (h : Int) (w : World) (k : handleOkB h = true) : Calls Tryz.prog 30 #[.int .i64 h] w fun e w' => e = .returned (.int .i64 (h % 32)) ∧ w = w' := by
  obtain ⟨a, b, _, _, c, _⟩ := handleOk_bd k
  have HC := Hid.mk_ c
  clear c
  go_enter Tryz.func30, Tryz.ntmps30
  go_wp2_with (go_at_call 91; refine (HandleOk_spec _ _).mono ?_; rw [k]; rintro e w1 ⟨rfl, rfl⟩)
  go_ret
  exact ⟨ret_i64 (by first | rfl | rw [HC.out]), rfl⟩
set_option maxHeartbeats 400000 in
theorem HandleGen_spec (h : Int) (w : World) (k : handleOkB h = true) : Calls Tryz.prog 123 #[.int .i64 h] w fun e w' => e = .returned (.int .i64 (h / 32)) ∧ w = w' := by
  obtain ⟨a, b, _, _, _, c⟩ := handleOk_bd k
  have HC := Hid.mk_ c
  clear c
  go_enter Tryz.func123, Tryz.ntmps123
  go_wp2_with (go_at_call 91; refine (HandleOk_spec _ _).mono ?_; rw [k]; rintro e w1 ⟨rfl, rfl⟩)
  go_ret
  exact ⟨ret_i64 (by first | rfl | rw [HC.out]), rfl⟩
set_option maxRecDepth 100000 in
set_option maxHeartbeats 4000000 in
theorem stateOf_impl (w : World) (H : HMem) (x : Mem) (s : Int) (h : RdMem w w.heap.size H x) (hs : shapeB x.Heap = true) :
    Calls Tryz.prog 71 #[.agg #[.slice H.Heap.Bytes.a H.Heap.Bytes.len H.Heap.Bytes.cap, .slice H.Heap.Class.a H.Heap.Class.len H.Heap.Class.cap, .slice H.Lists.Global.a H.Lists.Global.len H.Lists.Global.cap, .slice H.Lists.Own.a H.Lists.Own.len H.Lists.Own.cap], .int .i64 s] w fun e w' => e = .returned (.int .i64 (stateB x s)) ∧ Below w.heap.size w w' := by
  have ba0 : Box (w.alloc (.cells #[.slice H.Heap.Bytes.a H.Heap.Bytes.len H.Heap.Bytes.cap, .slice H.Heap.Class.a H.Heap.Class.len H.Heap.Class.cap, .slice H.Lists.Global.a H.Lists.Global.len H.Lists.Global.cap, .slice H.Lists.Own.a H.Lists.Own.len H.Lists.Own.cap] 31)) w.heap.size [.slice H.Heap.Bytes.a H.Heap.Bytes.len H.Heap.Bytes.cap, .slice H.Heap.Class.a H.Heap.Class.len H.Heap.Class.cap, .slice H.Lists.Global.a H.Lists.Global.len H.Lists.Global.cap, .slice H.Lists.Own.a H.Lists.Own.len H.Lists.Own.cap] := Box.new w #[.slice H.Heap.Bytes.a H.Heap.Bytes.len H.Heap.Bytes.cap, .slice H.Heap.Class.a H.Heap.Class.len H.Heap.Class.cap, .slice H.Lists.Global.a H.Lists.Global.len H.Lists.Global.cap, .slice H.Lists.Own.a H.Lists.Own.len H.Lists.Own.cap] _
  have hB0 : Below w.heap.size w (w.alloc (.cells #[.slice H.Heap.Bytes.a H.Heap.Bytes.len H.Heap.Bytes.cap, .slice H.Heap.Class.a H.Heap.Class.len H.Heap.Class.cap, .slice H.Lists.Global.a H.Lists.Global.len H.Lists.Global.cap, .slice H.Lists.Own.a H.Lists.Own.len H.Lists.Own.cap] 31)) := by repeat (first | exact Below.refl _ _ | refine Below.alloc ?_ (by simp <;> omega) _ | refine below_grow_of ?_ (by simp <;> omega) _ _ | refine Below.drew ?_ | refine below_drewN ?_ _)
  have HE := Hid.mk_ (show stateB x s = (if classInB x.Heap s < 0 then 0 else if onListB x.Lists s = true then 1 else if 6 < genInB x.Heap s then 2 else 3) from rfl)
  have HS := Hid.mk_ hs
  clear hs
  go_enter Tryz.func71, Tryz.ntmps71
  go_wp2_with fail
  refine (classIn_impl _ H.Heap x.Heap s (rdHeap_up h.Heap hB0) HS.out).mono ?_
  rintro e w1 ⟨rfl, hb⟩
  have ba1 := ba0.below hb
  have hB1 := hB0.trans (hb.mono hB0.size)
  clear hb ba0 hB0
  by_cases k1 : classInB x.Heap s < 0
  · have HN := Hid.mk_ (show stateB x s = 0 by rw [HE.out, if_pos k1])
    go_wp2
    go_ret
    exact ⟨ret_i64 HN.out.symm, hB1⟩
  have K1 := Hid.mk_ k1
  have qa0 := ba1.cell 0 _ rfl
  have qa1 := ba1.cell 1 _ rfl
  have qa2 := ba1.cell 2 _ rfl
  have qa3 := ba1.cell 3 _ rfl
  go_wp2_with fail
  refine (OnList_impl _ H.Lists x.Lists s (rdLists_up h.Lists hB1)).mono ?_
  rintro e w2 ⟨rfl, hb⟩
  have ba2 := ba1.below hb
  have hB2 := hB1.trans (hb.mono hB1.size)
  clear qa0 qa1 qa2 qa3 hb ba1 hB1 k1
  by_cases k2 : onListB x.Lists s = true
  · have HN := Hid.mk_ (show stateB x s = 1 by rw [HE.out, if_neg (show ¬ classInB x.Heap s < 0 by have := K1.out; omega), if_pos k2])
    rw [k2]
    clear k2
    go_wp2
    go_ret
    exact ⟨ret_i64 HN.out.symm, hB2⟩
  have K2 := Hid.mk_ ((Bool.not_eq_true _).mp k2)
  rw [(Bool.not_eq_true _).mp k2]
  clear k2
  have qa0 := ba2.cell 0 _ rfl
  have qa1 := ba2.cell 1 _ rfl
  have qa2 := ba2.cell 2 _ rfl
  have qa3 := ba2.cell 3 _ rfl
  go_wp2_with fail
  refine (GenIn_impl _ H.Heap x.Heap s (rdHeap_up h.Heap hB2) HS.out).mono ?_
  rintro e w3 ⟨rfl, hb⟩
  have hB3 := hB2.trans (hb.mono hB2.size)
  clear qa0 qa1 qa2 qa3 hb ba2 hB2
  by_cases k3 : 6 < genInB x.Heap s
  · have HN := Hid.mk_ (show stateB x s = 2 by rw [HE.out, if_neg (show ¬ classInB x.Heap s < 0 by have := K1.out; omega), if_neg (show ¬ onListB x.Lists s = true by rw [K2.out]; decide), if_pos k3])
    go_wp2
    go_ret
    exact ⟨ret_i64 HN.out.symm, hB3⟩
  · have HN := Hid.mk_ (show stateB x s = 3 by rw [HE.out, if_neg (show ¬ classInB x.Heap s < 0 by have := K1.out; omega), if_neg (show ¬ onListB x.Lists s = true by rw [K2.out]; decide), if_neg (show ¬ 6 < genInB x.Heap s by omega)])
    go_wp2
    go_ret
    exact ⟨ret_i64 HN.out.symm, hB3⟩
set_option maxRecDepth 100000 in
set_option maxHeartbeats 4000000 in
theorem l9State_spec (w : World) (H : HMem) (x : Mem) (s : Int) (h : RdMem w w.heap.size H x) (hs : shapeB x.Heap = true) (hs1 : szLL x.Lists.Global ≤ 536870912) (hs2 : szLL x.Lists.Own ≤ 536870912) :
    Calls Tryz.prog 78 #[.agg #[.slice H.Heap.Bytes.a H.Heap.Bytes.len H.Heap.Bytes.cap, .slice H.Heap.Class.a H.Heap.Class.len H.Heap.Class.cap, .slice H.Lists.Global.a H.Lists.Global.len H.Lists.Global.cap, .slice H.Lists.Own.a H.Lists.Own.len H.Lists.Own.cap], .int .i64 s] w fun e w' => e = .returned (.int .i64 (stateB x s)) ∧ Below w.heap.size w w' := by
  have ba0 : Box (w.alloc (.cells #[.slice H.Heap.Bytes.a H.Heap.Bytes.len H.Heap.Bytes.cap, .slice H.Heap.Class.a H.Heap.Class.len H.Heap.Class.cap, .slice H.Lists.Global.a H.Lists.Global.len H.Lists.Global.cap, .slice H.Lists.Own.a H.Lists.Own.len H.Lists.Own.cap] 31)) w.heap.size [.slice H.Heap.Bytes.a H.Heap.Bytes.len H.Heap.Bytes.cap, .slice H.Heap.Class.a H.Heap.Class.len H.Heap.Class.cap, .slice H.Lists.Global.a H.Lists.Global.len H.Lists.Global.cap, .slice H.Lists.Own.a H.Lists.Own.len H.Lists.Own.cap] := Box.new w #[.slice H.Heap.Bytes.a H.Heap.Bytes.len H.Heap.Bytes.cap, .slice H.Heap.Class.a H.Heap.Class.len H.Heap.Class.cap, .slice H.Lists.Global.a H.Lists.Global.len H.Lists.Global.cap, .slice H.Lists.Own.a H.Lists.Own.len H.Lists.Own.cap] _
  have hB0 : Below w.heap.size w (w.alloc (.cells #[.slice H.Heap.Bytes.a H.Heap.Bytes.len H.Heap.Bytes.cap, .slice H.Heap.Class.a H.Heap.Class.len H.Heap.Class.cap, .slice H.Lists.Global.a H.Lists.Global.len H.Lists.Global.cap, .slice H.Lists.Own.a H.Lists.Own.len H.Lists.Own.cap] 31)) := by repeat (first | exact Below.refl _ _ | refine Below.alloc ?_ (by simp <;> omega) _ | refine below_grow_of ?_ (by simp <;> omega) _ _ | refine Below.drew ?_ | refine below_drewN ?_ _)
  have HE := Hid.mk_ (show stateB x s = (if classInB x.Heap s < 0 then 0 else if onListB x.Lists s = true then 1 else if 6 < genInB x.Heap s then 2 else 3) from rfl)
  have HS := Hid.mk_ hs
  clear hs
  go_enter Tryz.func78, Tryz.ntmps78
  go_wp2_with fail
  refine (l7Class_spec _ H.Heap x.Heap s (rdHeap_up h.Heap hB0) HS.out).mono ?_
  rintro e w1 ⟨rfl, hb⟩
  have ba1 := ba0.below hb
  have hB1 := hB0.trans (hb.mono hB0.size)
  clear hb ba0 hB0
  by_cases k1 : classInB x.Heap s < 0
  · have HN := Hid.mk_ (show stateB x s = 0 by rw [HE.out, if_pos k1])
    go_wp2
    go_ret
    exact ⟨ret_i64 HN.out.symm, hB1⟩
  have K1 := Hid.mk_ k1
  have qa0 := ba1.cell 0 _ rfl
  have qa1 := ba1.cell 1 _ rfl
  have qa2 := ba1.cell 2 _ rfl
  have qa3 := ba1.cell 3 _ rfl
  go_wp2_with fail
  refine (OnList_spec _ H.Lists x.Lists s (rdLists_up h.Lists hB1) hs1 hs2).mono ?_
  rintro e w2 ⟨rfl, hb⟩
  have ba2 := ba1.below hb
  have hB2 := hB1.trans (hb.mono hB1.size)
  clear qa0 qa1 qa2 qa3 hb ba1 hB1 k1
  by_cases k2 : onListB x.Lists s = true
  · have HN := Hid.mk_ (show stateB x s = 1 by rw [HE.out, if_neg (show ¬ classInB x.Heap s < 0 by have := K1.out; omega), if_pos k2])
    rw [k2]
    clear k2
    go_wp2
    go_ret
    exact ⟨ret_i64 HN.out.symm, hB2⟩
  have K2 := Hid.mk_ ((Bool.not_eq_true _).mp k2)
  rw [(Bool.not_eq_true _).mp k2]
  clear k2
  have qa0 := ba2.cell 0 _ rfl
  have qa1 := ba2.cell 1 _ rfl
  have qa2 := ba2.cell 2 _ rfl
  have qa3 := ba2.cell 3 _ rfl
  go_wp2_with fail
  refine (l7Gen_spec _ H.Heap x.Heap s (rdHeap_up h.Heap hB2) HS.out (by have := K1.out; omega)).mono ?_
  rintro e w3 ⟨rfl, hb⟩
  have hB3 := hB2.trans (hb.mono hB2.size)
  clear qa0 qa1 qa2 qa3 hb ba2 hB2
  by_cases k3 : 6 < genInB x.Heap s
  · have HN := Hid.mk_ (show stateB x s = 2 by rw [HE.out, if_neg (show ¬ classInB x.Heap s < 0 by have := K1.out; omega), if_neg (show ¬ onListB x.Lists s = true by rw [K2.out]; decide), if_pos k3])
    go_wp2
    go_ret
    exact ⟨ret_i64 HN.out.symm, hB3⟩
  · have HN := Hid.mk_ (show stateB x s = 3 by rw [HE.out, if_neg (show ¬ classInB x.Heap s < 0 by have := K1.out; omega), if_neg (show ¬ onListB x.Lists s = true by rw [K2.out]; decide), if_neg (show ¬ 6 < genInB x.Heap s by omega)])
    go_wp2
    go_ret
    exact ⟨ret_i64 HN.out.symm, hB3⟩
theorem state_cls {x : Mem} {s : Int} (h : stateB x s ≠ 0) : ¬ classInB x.Heap s < 0 := fun k => h (if_pos k)
theorem state_bd (x : Mem) (s : Int) : stateB x s = 0 ∨ stateB x s = 1 ∨ stateB x s = 2 ∨ stateB x s = 3 := by
  unfold stateB
  repeat' split
  all_goals simp
end Go.Proofs.YtkmggglljkmjoaaGreat

/-
  Memories: live handles.
-/
namespace Go.Proofs.YtkmggglljkmjoaaGreat
open Go.RowKit
theorem held_upM {B g0 : Nat} {v0 v1 v2 v3 : Value} {W w w' : World} (h : w.cell? ⟨g0, 0, none⟩ = some v0 ∧ w.cell? ⟨g0, 1, none⟩ = some v1 ∧ w.cell? ⟨g0, 2, none⟩ = some v2 ∧ w.cell? ⟨g0, 3, none⟩ = some v3 ∧ g0 < w.heap.size ∧ Below B W w) (hb : Below w.heap.size w w') (hB : B ≤ g0) :
    w'.cell? ⟨g0, 0, none⟩ = some v0 ∧ w'.cell? ⟨g0, 1, none⟩ = some v1 ∧ w'.cell? ⟨g0, 2, none⟩ = some v2 ∧ w'.cell? ⟨g0, 3, none⟩ = some v3 ∧ g0 < w'.heap.size ∧ Below B W w' := by
  obtain ⟨a, b, a', b', d, f⟩ := h
  exact ⟨cell_up hb d a, cell_up hb d b, cell_up hb d a', cell_up hb d b', Nat.lt_of_lt_of_le d hb.size, f.trans (hb.mono (by omega))⟩
set_option maxRecDepth 100000 in
set_option maxHeartbeats 8000000 in
theorem l9Valid_spec (w : World) (H : HMem) (x : Mem) (s : Int) (h : RdMem w w.heap.size H x) (hs : shapeB x.Heap = true) (hs1 : szLL x.Lists.Global ≤ 536870912) (hs2 : szLL x.Lists.Own ≤ 536870912) :
    Calls Tryz.prog 59 #[.agg #[.slice H.Heap.Bytes.a H.Heap.Bytes.len H.Heap.Bytes.cap, .slice H.Heap.Class.a H.Heap.Class.len H.Heap.Class.cap, .slice H.Lists.Global.a H.Lists.Global.len H.Lists.Global.cap, .slice H.Lists.Own.a H.Lists.Own.len H.Lists.Own.cap], .int .i64 s] w fun e w' => e = .returned (.bool (liveB x s)) ∧ Below w.heap.size w w' := by
  have ba0 : Box (w.alloc (.cells #[.slice H.Heap.Bytes.a H.Heap.Bytes.len H.Heap.Bytes.cap, .slice H.Heap.Class.a H.Heap.Class.len H.Heap.Class.cap, .slice H.Lists.Global.a H.Lists.Global.len H.Lists.Global.cap, .slice H.Lists.Own.a H.Lists.Own.len H.Lists.Own.cap] 31)) w.heap.size [.slice H.Heap.Bytes.a H.Heap.Bytes.len H.Heap.Bytes.cap, .slice H.Heap.Class.a H.Heap.Class.len H.Heap.Class.cap, .slice H.Lists.Global.a H.Lists.Global.len H.Lists.Global.cap, .slice H.Lists.Own.a H.Lists.Own.len H.Lists.Own.cap] := Box.new w #[.slice H.Heap.Bytes.a H.Heap.Bytes.len H.Heap.Bytes.cap, .slice H.Heap.Class.a H.Heap.Class.len H.Heap.Class.cap, .slice H.Lists.Global.a H.Lists.Global.len H.Lists.Global.cap, .slice H.Lists.Own.a H.Lists.Own.len H.Lists.Own.cap] _
  have hB0 : Below w.heap.size w (w.alloc (.cells #[.slice H.Heap.Bytes.a H.Heap.Bytes.len H.Heap.Bytes.cap, .slice H.Heap.Class.a H.Heap.Class.len H.Heap.Class.cap, .slice H.Lists.Global.a H.Lists.Global.len H.Lists.Global.cap, .slice H.Lists.Own.a H.Lists.Own.len H.Lists.Own.cap] 31)) := by repeat (first | exact Below.refl _ _ | refine Below.alloc ?_ (by simp <;> omega) _ | refine below_grow_of ?_ (by simp <;> omega) _ _ | refine Below.drew ?_ | refine below_drewN ?_ _)
  have HE := Hid.mk_ (show liveB x s = (handleOkB s && (stateB x (s % 32) == 3) && (genInB x.Heap (s % 32) == s / 32)) from rfl)
  have HS := Hid.mk_ hs
  clear hs
  go_enter Tryz.func59, Tryz.ntmps59
  go_wp2
  generalize (w.alloc (.cells #[.slice H.Heap.Bytes.a H.Heap.Bytes.len H.Heap.Bytes.cap, .slice H.Heap.Class.a H.Heap.Class.len H.Heap.Class.cap, .slice H.Lists.Global.a H.Lists.Global.len H.Lists.Global.cap, .slice H.Lists.Own.a H.Lists.Own.len H.Lists.Own.cap] 31)) = w0 at ba0 hB0 ⊢
  have qa0 := ba0.cell 0 _ rfl
  have qa1 := ba0.cell 1 _ rfl
  have qa2 := ba0.cell 2 _ rfl
  have qa3 := ba0.cell 3 _ rfl
  have zl := ba0.lt
  by_cases k1 : handleOkB s = true
  case neg =>
    have k1' : handleOkB s = false := (Bool.not_eq_true _).mp k1
    have HN := Hid.mk_ (show liveB x s = false by rw [HE.out, k1']; rfl)
    have hq1 : ∀ W : World, Calls Tryz.prog 91 #[.int .i64 s] W fun e w' => e = .returned (.bool false) ∧ W = w' := fun W => (HandleOk_spec s W).mono fun e w' ⟨u, v⟩ => ⟨by rw [u, k1'], v⟩
    clear k1 k1'
    go_quiet ((go_at_call 91; exact quiet_left (hq1 _)))
    go_wp2
    go_ret
    exact ⟨ret_bool HN.out.symm, by first | exact hB0 | exact hB0.drew | exact below_drewN hB0 _⟩
  have hq1 : ∀ W : World, Calls Tryz.prog 91 #[.int .i64 s] W fun e w' => e = .returned (.bool true) ∧ W = w' := fun W => (HandleOk_spec s W).mono fun e w' ⟨u, v⟩ => ⟨by rw [u, k1], v⟩
  have hq2 := fun W : World => HandleSlot_spec s W k1
  have hq3 := fun W : World => HandleGen_spec s W k1
  have HF := Hid.mk_ (show liveB x s = ((stateB x (s % 32) == 3) && (genInB x.Heap (s % 32) == s / 32)) by rw [HE.out, k1]; rfl)
  have hq4 := fun (W : World) (hW : Below w.heap.size w W) => l9State_spec W H x (s % 32) (rdMem_up h hW) HS.out hs1 hs2
  have hq5 := fun (W : World) (hW : Below w.heap.size w W) (k : stateB x (s % 32) ≠ 0) => l7Gen_spec W H.Heap x.Heap (s % 32) (rdHeap_up h.Heap hW) HS.out (state_cls k)
  clear k1 HE
  generalize s % 32 = sl at hq2 hq4 hq5 HF
  generalize s / 32 = gn at hq3 HF
  generalize stateB x sl = st at hq4 hq5 HF
  generalize genInB x.Heap sl = ge at hq5 HF
  by_cases k2 : st = 3
  case neg =>
    have HN := Hid.mk_ (show liveB x s = false by rw [HF.out, show (st == 3) = false by simpa using k2]; rfl)
    have k2' : (st == 3) = false := by simpa using k2
    clear k2 HF hq5 hq3
    first | (go_region_with (first | (go_at_call 91; refine (hq1 _).mono ?_; rintro e w1 ⟨rfl, rfl⟩) | (go_at_call 30; refine (hq2 _).mono ?_; rintro e w1 ⟨rfl, rfl⟩) | (go_at_call 78; refine (hq4 _ (by first | exact hB0.drew | exact below_drewN hB0 _ | exact hB0)).mono ?_; rintro e w1 ⟨rfl, hb1⟩; obtain ⟨os1, d1, rfl⟩ := below_grows hb1; clear hb1))) | fail
    all_goals go_wp2
    all_goals go_ret
    all_goals exact ⟨ret_bool HN.out.symm, by first | exact below_grow_of hB0 (by omega) _ _ | repeat (first | exact Below.refl _ _ | refine Below.alloc ?_ (by simp <;> omega) _ | refine below_grow_of ?_ (by simp <;> omega) _ _ | refine Below.drew ?_ | refine below_drewN ?_ _)⟩
  subst k2
  have hq5' := fun (W : World) (hW : Below w.heap.size w W) => hq5 W hW (by decide)
  clear hq5
  have HG := Hid.mk_ (show liveB x s = (ge == gn) by rw [HF.out]; simp)
  clear HF
  go_region_held3 (fun w' => w'.cell? ⟨w.heap.size, 0, none⟩ = some (.slice H.Heap.Bytes.a H.Heap.Bytes.len H.Heap.Bytes.cap) ∧ w'.cell? ⟨w.heap.size, 1, none⟩ = some (.slice H.Heap.Class.a H.Heap.Class.len H.Heap.Class.cap) ∧ w'.cell? ⟨w.heap.size, 2, none⟩ = some (.slice H.Lists.Global.a H.Lists.Global.len H.Lists.Global.cap) ∧ w'.cell? ⟨w.heap.size, 3, none⟩ = some (.slice H.Lists.Own.a H.Lists.Own.len H.Lists.Own.cap) ∧ w.heap.size < w'.heap.size ∧ Below w.heap.size w w') (first | (go_keep; done) | exact held_upM (by assumption) (by assumption) (Nat.le_refl _) | exact ⟨by assumption, by assumption, by assumption, by assumption, by assumption, Below.drew (by assumption)⟩) (first | (go_at_call 91; refine (hq1 _).mono ?_; rintro e w1 ⟨rfl, rfl⟩) | (go_at_call 30; refine (hq2 _).mono ?_; rintro e w1 ⟨rfl, rfl⟩) | (go_at_call 123; refine (hq3 _).mono ?_; rintro e w1 ⟨rfl, rfl⟩) | (go_at_call 78; refine (hq4 _ (by go_split_ands; assumption)).mono ?_; rintro e w1 ⟨rfl, hb1⟩) | (go_at_call 108; refine (hq5' _ (by go_split_ands; assumption)).mono ?_; rintro e w1 ⟨rfl, hb1⟩))
  go_wp2
  go_ret
  exact ⟨ret_bool HG.out.symm, by first | assumption | (go_split_ands; assumption)⟩
end Go.Proofs.YtkmggglljkmjoaaGreat

/-
  Memories: the state of a slot, valid handles: the contracts.
-/
namespace Go.Proofs.YtkmggglljkmjoaaGreat
open Go.RowKit
def validB (m : Mem) (h : Int) : Bool := memOkB m && liveB m h
theorem mem_shape {m : Mem} (k : memOkB m = true) : shapeB m.Heap = true := heap_shape (mem_heap k)
end Go.Proofs.YtkmggglljkmjoaaGreat

/-
  Lists of ints, lists of lists: compared, made, measured, marked.
-/
namespace Go.Proofs.YtkmggglljkmjoaaGreat
open Go.RowKit

theorem Tryz.infoSList : (Tryz.prog.info? 94).map (fun i => (i.zero, i.size, i.bytes)) = some (some (.agg #[.slice none 0 0]), FS.n, 24) := by kernel_rfl
end Go.Proofs.YtkmggglljkmjoaaGreat
/-
  Clocks: what a value reads as, and what the call owns.
-/
namespace Go.Proofs.YtkmggglljkmjoaaGreat
open Go.RowKit
structure Clock where
  Epoch : Int
  Pins : List Pin
structure HClock where
  Pins : SV
@[reducible] def HClock.val (H : HClock) (x : Clock) : Value := .agg #[.int .i64 x.Epoch, .slice H.Pins.a H.Pins.len H.Pins.cap]
def HClock.foot (H : HClock) : List Nat := foot1 H.Pins.val
structure RdClock (w : World) (B : Nat) (H : HClock) (x : Clock) : Prop where
  Pins : RdL FPin w B H.Pins.val x.Pins
structure OwClock (w : World) (H : HClock) (x : Clock) : Prop where
  Pins : OwL FPin 120 w H.Pins.val x.Pins
theorem RdClock.keep {w w' : World} {B B' : Nat} {H : HClock} {x : Clock} (h : RdClock w B H x) (hk : ∀ k, k < B → w'.heap[k]? = w.heap[k]?) (hB : B ≤ B') : RdClock w' B' H x :=
  ⟨h.Pins.keep hk hB⟩
theorem HClock.mem_foot {H : HClock} {g : Nat} : g ∈ H.foot ↔ g ∈ foot1 H.Pins.val := Iff.rfl
theorem OwClock.lt {w : World} {H : HClock} {x : Clock} (h : OwClock w H x) : ∀ g ∈ H.foot, g < w.heap.size := by
  intro g hg
  exact (foot_lt h.Pins) g hg
theorem OwClock.keep {w w' : World} {H : HClock} {x : Clock} (h : OwClock w H x) (hk : ∀ g ∈ H.foot, w'.heap[g]? = w.heap[g]?) : OwClock w' H x :=
  ⟨h.Pins.keep (fun g hg => hk g (HClock.mem_foot.2 (mem_foot1.2 hg)))⟩
theorem OwClock.chg {w w' : World} {H : HClock} {x : Clock} {F : List Nat} (h : OwClock w H x) (hc : Chg F w w') (hd : ∀ g ∈ H.foot, g ∉ F) : OwClock w' H x := h.keep fun g hg => hc.block g (h.lt g hg) (hd g hg)
theorem OwClock.rd {w : World} {B : Nat} {H : HClock} {x : Clock} (h : OwClock w H x) (hB : ∀ g ∈ H.foot, g < B) : RdClock w B H x :=
  ⟨h.Pins.rd (fun g hg => hB g (HClock.mem_foot.2 (mem_foot1.2 hg)))⟩
theorem OwClock.rd' {w : World} {H : HClock} {x : Clock} (h : OwClock w H x) : RdClock w w.heap.size H x := h.rd h.lt
end Go.Proofs.YtkmggglljkmjoaaGreat

/-
  Pins and clocks: compared, made, measured, marked.
-/
namespace Go.Proofs.YtkmggglljkmjoaaGreat
open Go.RowKit
end Go.Proofs.YtkmggglljkmjoaaGreat
/-
  Bases: what a value reads as, and what the call owns.
-/
namespace Go.Proofs.YtkmggglljkmjoaaGreat
open Go.RowKit
structure Base where
  Mem : Mem
  Clock : Clock
  Limbo : List (List LRow)
  Haz : List Int
structure HBase where
  Mem : HMem
  Clock : HClock
  Limbo : SV
  LimboT : List SV
  Haz : SV
@[reducible] def HBase.val (H : HBase) (x : Base) : Value := .agg #[.slice H.Mem.Heap.Bytes.a H.Mem.Heap.Bytes.len H.Mem.Heap.Bytes.cap, .slice H.Mem.Heap.Class.a H.Mem.Heap.Class.len H.Mem.Heap.Class.cap, .slice H.Mem.Lists.Global.a H.Mem.Lists.Global.len H.Mem.Lists.Global.cap, .slice H.Mem.Lists.Own.a H.Mem.Lists.Own.len H.Mem.Lists.Own.cap, .int .i64 x.Clock.Epoch, .slice H.Clock.Pins.a H.Clock.Pins.len H.Clock.Pins.cap, .slice H.Limbo.a H.Limbo.len H.Limbo.cap, .slice H.Haz.a H.Haz.len H.Haz.cap]
def HBase.foot (H : HBase) : List Nat := H.Mem.foot ++ H.Clock.foot ++ foot2 H.Limbo.val H.LimboT ++ foot1 H.Haz.val
structure RdBase (w : World) (B : Nat) (H : HBase) (x : Base) : Prop where
  Mem : RdMem w B H.Mem x.Mem
  Clock : RdClock w B H.Clock x.Clock
  Limbo : RdLL FLRow w B H.Limbo.val H.LimboT x.Limbo
  Haz : RdL FI w B H.Haz.val x.Haz
structure OwBase (w : World) (H : HBase) (x : Base) : Prop where
  Mem : OwMem w H.Mem x.Mem
  Clock : OwClock w H.Clock x.Clock
  Limbo : OwLL FLRow 83 123 w H.Limbo.val H.LimboT x.Limbo
  Haz : OwL FI 3 w H.Haz.val x.Haz
  d01 : ∀ g ∈ H.Mem.foot, g ∉ H.Clock.foot
  d02 : ∀ g ∈ H.Mem.foot, g ∉ foot2 H.Limbo.val H.LimboT
  d03 : ∀ g ∈ H.Mem.foot, g ∉ foot1 H.Haz.val
  d12 : ∀ g ∈ H.Clock.foot, g ∉ foot2 H.Limbo.val H.LimboT
  d13 : ∀ g ∈ H.Clock.foot, g ∉ foot1 H.Haz.val
  d23 : ∀ g ∈ foot2 H.Limbo.val H.LimboT, g ∉ foot1 H.Haz.val
theorem RdBase.keep {w w' : World} {B B' : Nat} {H : HBase} {x : Base} (h : RdBase w B H x) (hk : ∀ k, k < B → w'.heap[k]? = w.heap[k]?) (hB : B ≤ B') : RdBase w' B' H x :=
  ⟨h.Mem.keep hk hB, h.Clock.keep hk hB, h.Limbo.keep hk hB, h.Haz.keep hk hB⟩
theorem HBase.mem_foot {H : HBase} {g : Nat} : g ∈ H.foot ↔ g ∈ H.Mem.foot ∨ g ∈ H.Clock.foot ∨ g ∈ foot2 H.Limbo.val H.LimboT ∨ g ∈ foot1 H.Haz.val := by
  unfold HBase.foot
  simp only [List.mem_append, or_assoc]
theorem OwBase.lt {w : World} {H : HBase} {x : Base} (h : OwBase w H x) : ∀ g ∈ H.foot, g < w.heap.size := by
  intro g hg
  rcases HBase.mem_foot.1 hg with hg | hg | hg | hg
  · exact h.Mem.lt g hg
  · exact h.Clock.lt g hg
  · exact h.Limbo.lt g hg
  · exact (foot_lt h.Haz) g hg
theorem OwBase.keep {w w' : World} {H : HBase} {x : Base} (h : OwBase w H x) (hk : ∀ g ∈ H.foot, w'.heap[g]? = w.heap[g]?) : OwBase w' H x :=
  ⟨h.Mem.keep (fun g hg => hk g (HBase.mem_foot.2 (.inl hg))), h.Clock.keep (fun g hg => hk g (HBase.mem_foot.2 ((.inr (.inl hg))))), h.Limbo.keep (fun g hg => hk g (HBase.mem_foot.2 ((.inr ((.inr (.inl hg))))))), h.Haz.keep (fun g hg => hk g (HBase.mem_foot.2 ((.inr ((.inr ((.inr (mem_foot1.2 hg))))))))), h.d01, h.d02, h.d03, h.d12, h.d13, h.d23⟩
theorem OwBase.chg {w w' : World} {H : HBase} {x : Base} {F : List Nat} (h : OwBase w H x) (hc : Chg F w w') (hd : ∀ g ∈ H.foot, g ∉ F) : OwBase w' H x := h.keep fun g hg => hc.block g (h.lt g hg) (hd g hg)
theorem OwBase.rd {w : World} {B : Nat} {H : HBase} {x : Base} (h : OwBase w H x) (hB : ∀ g ∈ H.foot, g < B) : RdBase w B H x :=
  ⟨h.Mem.rd (fun g hg => hB g (HBase.mem_foot.2 (.inl hg))), h.Clock.rd (fun g hg => hB g (HBase.mem_foot.2 ((.inr (.inl hg))))), h.Limbo.rd (fun g hg => hB g (HBase.mem_foot.2 ((.inr ((.inr (.inl hg))))))), h.Haz.rd (fun g hg => hB g (HBase.mem_foot.2 ((.inr ((.inr ((.inr (mem_foot1.2 hg)))))))))⟩
theorem OwBase.rd' {w : World} {H : HBase} {x : Base} (h : OwBase w H x) : RdBase w w.heap.size H x := h.rd h.lt
end Go.Proofs.YtkmggglljkmjoaaGreat

/-
  Rows in limbo: compared, made, measured, marked.
-/
namespace Go.Proofs.YtkmggglljkmjoaaGreat
open Go.RowKit
end Go.Proofs.YtkmggglljkmjoaaGreat
/-
  Heap: compared, made, measured, marked.
-/
namespace Go.Proofs.YtkmggglljkmjoaaGreat
open Go.RowKit
end Go.Proofs.YtkmggglljkmjoaaGreat
/-
  Lists: compared, made, measured, marked.
-/
namespace Go.Proofs.YtkmggglljkmjoaaGreat
open Go.RowKit
end Go.Proofs.YtkmggglljkmjoaaGreat
/-
  Mem: compared, made, measured, marked.
-/
namespace Go.Proofs.YtkmggglljkmjoaaGreat
open Go.RowKit
end Go.Proofs.YtkmggglljkmjoaaGreat
/-
  Bases: compared, made, measured, marked.
-/
namespace Go.Proofs.YtkmggglljkmjoaaGreat
open Go.RowKit
end Go.Proofs.YtkmggglljkmjoaaGreat
/-
  Words for the laws on bases.
-/
namespace Go.Proofs.YtkmggglljkmjoaaGreat
open Go.RowKit
theorem below_step {B : Nat} {w0 w w' : World} {o : Obj} (hB : Below B w0 w) (hb : Below (w.alloc o).heap.size (w.alloc o) w') (h : B ≤ w.heap.size) : Below B w0 w' := (hB.alloc h o).trans (hb.mono (by simp; omega))
theorem OwL.step {α : Type} {T : FT α} {e : TypeId} {w w' : World} {o : Obj} {v : Value} {l : List α} (h : OwL T e w v l) (hb : Below (w.alloc o).heap.size (w.alloc o) w') : OwL T e w' v l := (h.alloc_ o).keep (fun g hg => hb.block g (foot_lt (h.alloc_ o) g (mem_foot1.2 hg)))
theorem OwL.step0 {α : Type} {T : FT α} {e : TypeId} {w w' : World} {v : Value} {l : List α} (h : OwL T e w v l) (hb : Below w.heap.size w w') : OwL T e w' v l := h.keep (fun g hg => hb.block g (foot_lt h g (mem_foot1.2 hg)))
theorem OwLL.step {α : Type} {T : FT α} {e E : TypeId} {w w' : World} {o : Obj} {v : Value} {s : List SV} {l : List (List α)} (h : OwLL T e E w v s l) (hb : Below (w.alloc o).heap.size (w.alloc o) w') : OwLL T e E w' v s l := (h.alloc_ o).keep (fun g hg => hb.block g ((h.alloc_ o).lt g hg))
theorem OwLL.step0 {α : Type} {T : FT α} {e E : TypeId} {w w' : World} {v : Value} {s : List SV} {l : List (List α)} (h : OwLL T e E w v s l) (hb : Below w.heap.size w w') : OwLL T e E w' v s l := h.keep (fun g hg => hb.block g (h.lt g hg))

theorem undrew {w w' : World} (hb : Below w.drew.heap.size w.drew w') : Below w.heap.size w w' := ⟨hb.os, hb.tape, hb.output, hb.size, hb.block⟩
theorem fcdrew {w : World} {F : List Nat} (h : ∀ g ∈ F, w.drew.heap.size ≤ g) : ∀ g ∈ F, w.heap.size ≤ g := h
theorem OwHeap.alloc_ {w : World} {H : HHeap} {x : Heap} (h : OwHeap w H x) (o : Obj) : OwHeap (w.alloc o) H x := h.keep fun g hg => Below.heap_alloc w o g (h.lt g hg)
theorem OwHeap.step {w w' : World} {o : Obj} {H : HHeap} {x : Heap} (h : OwHeap w H x) (hb : Below (w.alloc o).heap.size (w.alloc o) w') : OwHeap w' H x := (h.alloc_ o).keep (fun g hg => hb.block g ((h.alloc_ o).lt g hg))
theorem OwHeap.step0 {w w' : World} {H : HHeap} {x : Heap} (h : OwHeap w H x) (hb : Below w.heap.size w w') : OwHeap w' H x := h.keep (fun g hg => hb.block g (h.lt g hg))

theorem OwLists.alloc_ {w : World} {H : HLists} {x : Lists} (h : OwLists w H x) (o : Obj) : OwLists (w.alloc o) H x := h.keep fun g hg => Below.heap_alloc w o g (h.lt g hg)
theorem OwLists.step {w w' : World} {o : Obj} {H : HLists} {x : Lists} (h : OwLists w H x) (hb : Below (w.alloc o).heap.size (w.alloc o) w') : OwLists w' H x := (h.alloc_ o).keep (fun g hg => hb.block g ((h.alloc_ o).lt g hg))
theorem OwLists.step0 {w w' : World} {H : HLists} {x : Lists} (h : OwLists w H x) (hb : Below w.heap.size w w') : OwLists w' H x := h.keep (fun g hg => hb.block g (h.lt g hg))

theorem OwMem.alloc_ {w : World} {H : HMem} {x : Mem} (h : OwMem w H x) (o : Obj) : OwMem (w.alloc o) H x := h.keep fun g hg => Below.heap_alloc w o g (h.lt g hg)
theorem OwMem.step {w w' : World} {o : Obj} {H : HMem} {x : Mem} (h : OwMem w H x) (hb : Below (w.alloc o).heap.size (w.alloc o) w') : OwMem w' H x := (h.alloc_ o).keep (fun g hg => hb.block g ((h.alloc_ o).lt g hg))
theorem OwMem.step0 {w w' : World} {H : HMem} {x : Mem} (h : OwMem w H x) (hb : Below w.heap.size w w') : OwMem w' H x := h.keep (fun g hg => hb.block g (h.lt g hg))

theorem OwClock.alloc_ {w : World} {H : HClock} {x : Clock} (h : OwClock w H x) (o : Obj) : OwClock (w.alloc o) H x := h.keep fun g hg => Below.heap_alloc w o g (h.lt g hg)
theorem OwClock.step {w w' : World} {o : Obj} {H : HClock} {x : Clock} (h : OwClock w H x) (hb : Below (w.alloc o).heap.size (w.alloc o) w') : OwClock w' H x := (h.alloc_ o).keep (fun g hg => hb.block g ((h.alloc_ o).lt g hg))
theorem OwClock.step0 {w w' : World} {H : HClock} {x : Clock} (h : OwClock w H x) (hb : Below w.heap.size w w') : OwClock w' H x := h.keep (fun g hg => hb.block g (h.lt g hg))

theorem OwBase.alloc_ {w : World} {H : HBase} {x : Base} (h : OwBase w H x) (o : Obj) : OwBase (w.alloc o) H x := h.keep fun g hg => Below.heap_alloc w o g (h.lt g hg)
theorem OwBase.step {w w' : World} {o : Obj} {H : HBase} {x : Base} (h : OwBase w H x) (hb : Below (w.alloc o).heap.size (w.alloc o) w') : OwBase w' H x := (h.alloc_ o).keep (fun g hg => hb.block g ((h.alloc_ o).lt g hg))
theorem OwBase.step0 {w w' : World} {H : HBase} {x : Base} (h : OwBase w H x) (hb : Below w.heap.size w w') : OwBase w' H x := h.keep (fun g hg => hb.block g (h.lt g hg))

end Go.Proofs.YtkmggglljkmjoaaGreat

/-
  ClassAt, GenIn: the reference.
-/
namespace Go.Proofs.YtkmggglljkmjoaaGreat
open Go.RowKit

set_option maxRecDepth 100000 in
set_option maxHeartbeats 2000000 in
theorem ClassAt_spec (w : World) (H : HHeap) (x : Heap) (s : Int) (h : RdHeap w w.heap.size H x) :
    Calls Tryz.prog 29 #[.agg #[.slice H.Bytes.a H.Bytes.len H.Bytes.cap, .slice H.Class.a H.Class.len H.Class.cap], .int .i64 s] w fun e w' => e = .returned (.int .i64 (classAtB x s)) ∧ Below w.heap.size w w' := by
  have k0 := fun (W : World) (hW : Below w.heap.size w W) => l7Shape_spec W H x (rdHeap_up h hW)
  have k1 := fun (W : World) (hW : Below w.heap.size w W) hsh => l7Class_spec W H x s (rdHeap_up h hW) hsh
  have HV : Hid (classAtB x s = if shapeB x = true then classInB x s else -1) := Hid.mk_ rfl
  generalize shapeB x = c0 at k0 k1 HV
  generalize classInB x s = v at k1 HV
  cases c0 with
  | false =>
    replace HV : Hid (classAtB x s = -1) := Hid.mk_ HV.out
    have B_a : Box (w.alloc (.cells #[.slice H.Bytes.a H.Bytes.len H.Bytes.cap, .slice H.Class.a H.Class.len H.Class.cap] 26)) (w.heap.size) [.slice H.Bytes.a H.Bytes.len H.Bytes.cap, .slice H.Class.a H.Class.len H.Class.cap] := by
      have hbx := Box.new w #[.slice H.Bytes.a H.Bytes.len H.Bytes.cap, .slice H.Class.a H.Class.len H.Class.cap] 26
      exact hbx
    have hB : Below w.heap.size w (w.alloc (.cells #[.slice H.Bytes.a H.Bytes.len H.Bytes.cap, .slice H.Class.a H.Class.len H.Class.cap] 26)) := by repeat (first | exact Below.refl _ _ | refine Below.alloc ?_ (by simp <;> omega) _ | refine below_grow_of ?_ (by simp <;> omega) _ _ | refine Below.drew ?_ | refine below_drewN ?_ _)
    go_enter Tryz.func29, Tryz.ntmps29
    go_wp2_with fail
    generalize hW0 : (w.alloc (.cells #[.slice H.Bytes.a H.Bytes.len H.Bytes.cap, .slice H.Class.a H.Class.len H.Class.cap] 26)) = w0 at B_a hB ⊢
    clear hW0
    have zz_a := B_a.lt
    have q_a_0 := B_a.cell 0 _ rfl
    have q_a_1 := B_a.cell 1 _ rfl
    have fr_a := B_a.fro
    have z_a := B_a.lt
    refine (k0 _ hB).mono ?_
    rintro e w1 ⟨rfl, hb⟩
    replace B_a := B_a.below hb
    replace hB := hB.trans (hb.mono hB.size)
    have sz := hb.size
    clear hb
    replace q_a_0 := B_a.cell 0 _ rfl
    replace q_a_1 := B_a.cell 1 _ rfl
    replace fr_a := B_a.fro
    replace z_a := B_a.lt
    clear k0
    go_wp2_with fail
    go_ret
    exact ⟨ret_i64 HV.out.symm, by first | exact hB | exact hB.drew⟩
  | true =>
    replace HV : Hid (classAtB x s = v) := Hid.mk_ HV.out
    have B_a : Box (w.alloc (.cells #[.slice H.Bytes.a H.Bytes.len H.Bytes.cap, .slice H.Class.a H.Class.len H.Class.cap] 26)) (w.heap.size) [.slice H.Bytes.a H.Bytes.len H.Bytes.cap, .slice H.Class.a H.Class.len H.Class.cap] := by
      have hbx := Box.new w #[.slice H.Bytes.a H.Bytes.len H.Bytes.cap, .slice H.Class.a H.Class.len H.Class.cap] 26
      exact hbx
    have hB : Below w.heap.size w (w.alloc (.cells #[.slice H.Bytes.a H.Bytes.len H.Bytes.cap, .slice H.Class.a H.Class.len H.Class.cap] 26)) := by repeat (first | exact Below.refl _ _ | refine Below.alloc ?_ (by simp <;> omega) _ | refine below_grow_of ?_ (by simp <;> omega) _ _ | refine Below.drew ?_ | refine below_drewN ?_ _)
    go_enter Tryz.func29, Tryz.ntmps29
    go_wp2_with fail
    generalize hW0 : (w.alloc (.cells #[.slice H.Bytes.a H.Bytes.len H.Bytes.cap, .slice H.Class.a H.Class.len H.Class.cap] 26)) = w0 at B_a hB ⊢
    clear hW0
    have zz_a := B_a.lt
    have q_a_0 := B_a.cell 0 _ rfl
    have q_a_1 := B_a.cell 1 _ rfl
    have fr_a := B_a.fro
    have z_a := B_a.lt
    refine (k0 _ hB).mono ?_
    rintro e w1 ⟨rfl, hb⟩
    replace B_a := B_a.below hb
    replace hB := hB.trans (hb.mono hB.size)
    have sz := hb.size
    clear hb
    replace q_a_0 := B_a.cell 0 _ rfl
    replace q_a_1 := B_a.cell 1 _ rfl
    replace fr_a := B_a.fro
    replace z_a := B_a.lt
    clear k0
    go_wp2_with fail
    refine (k1 _ hB trivial).mono ?_
    rintro e w2 ⟨rfl, hb⟩
    replace B_a := B_a.below hb
    replace hB := hB.trans (hb.mono hB.size)
    have sz := hb.size
    clear hb
    replace q_a_0 := B_a.cell 0 _ rfl
    replace q_a_1 := B_a.cell 1 _ rfl
    replace fr_a := B_a.fro
    replace z_a := B_a.lt
    clear k1
    go_wp2_with fail
    go_ret
    exact ⟨ret_i64 HV.out.symm, by first | exact hB | exact hB.drew⟩

theorem classAt_pos {x : Heap} {s : Int} (h : ¬ classAtB x s < 0) : shapeB x = true ∧ ¬ classInB x s < 0 ∧ classAtB x s = classInB x s := by
  unfold classAtB at h ⊢
  by_cases c : shapeB x = true
  · rw [if_pos c] at h ⊢
    exact ⟨c, h, rfl⟩
  · rw [if_neg c] at h
    exact absurd (by decide) h

end Go.Proofs.YtkmggglljkmjoaaGreat

/-
  Ranges of slots, and what is loaded from them: the contracts.
-/
namespace Go.Proofs.YtkmggglljkmjoaaGreat
open Go.RowKit
def rngF (s c : Int) : Int := if startAt s c < 0 then 0 else startAt s c
def rngT (s c : Int) : Int := if startAt s c < 0 then 0 else startAt s c + sizeOfC c
theorem startAt_cases (s c : Int) : (genAt s c = -1 ∧ startAt s c = -1) ∨ (8 ≤ genAt s c ∧ genAt s c + 4 + sizeOfC c ≤ 384 ∧ startAt s c = genAt s c + 4) := by
  rcases genAt_bd s c with hg | ⟨hg1, hg2⟩
  · exact .inl ⟨hg, if_pos (by rw [hg]; decide)⟩
  · exact .inr ⟨hg1, hg2, if_neg (by omega)⟩
theorem rng_cases (s c : Int) : (startAt s c = -1 ∧ rngF s c = 0 ∧ rngT s c = 0) ∨ (12 ≤ startAt s c ∧ rngF s c = startAt s c ∧ rngT s c = startAt s c + sizeOfC c ∧ rngT s c ≤ 384) := by
  rcases startAt_cases s c with ⟨_, h⟩ | ⟨h1, h2, h3⟩
  · exact .inl ⟨h, if_pos (by rw [h]; decide), if_pos (by rw [h]; decide)⟩
  · have e : rngT s c = startAt s c + sizeOfC c := if_neg (by omega)
    exact .inr ⟨by omega, if_neg (by omega), e, by omega⟩
set_option maxHeartbeats 400000 in
theorem StartOf_spec (s c : Int) (w : World) : Calls Tryz.prog 92 #[.int .i64 s, .int .i64 c] w fun e w' => e = .returned (.int .i64 (startAt s c)) ∧ w = w' := by
  have hz := sizeOfC_bd c
  have hq := fun W => GenAt_spec s c W
  rcases startAt_cases s c with ⟨h, h1⟩ | ⟨h, h2, h3⟩
  · have HS := Hid.mk_ h1
    rw [h] at hq
    clear h h1
    go_enter Tryz.func92, Tryz.ntmps92
    go_wp2_with fail
    refine (hq _).mono ?_
    clear hq
    rintro e w1 ⟨rfl, rfl⟩
    go_wp2
    go_ret
    exact ⟨ret_i64 HS.out.symm, rfl⟩
  · have HS := Hid.mk_ h3
    clear h3
    generalize genAt s c = g at *
    have h4 : ¬ g < 0 := by omega
    have h5 : g ≤ 384 := by omega
    clear h2
    go_enter Tryz.func92, Tryz.ntmps92
    go_wp2_with fail
    refine (hq _).mono ?_
    clear hq
    rintro e w1 ⟨rfl, rfl⟩
    go_wp2
    go_ret
    exact ⟨ret_i64 HS.out.symm, rfl⟩
end Go.Proofs.YtkmggglljkmjoaaGreat

/-
  What is loaded through a handle: the contracts.
-/
namespace Go.Proofs.YtkmggglljkmjoaaGreat
open Go.RowKit
def spotB (m : Mem) (h a k : Int) : Int × Int :=
  if memOkB m = false ∨ inB 1 7 k = false then (0, 1) else if liveB m h = false then (0, 4)
  else if inB 0 (sizeOfC (classInB m.Heap (h % 32)) - k) a = true then (startAt (h % 32) (classInB m.Heap (h % 32)) + a, 0) else (0, 2)
def loadInP (m : Mem) (h a k : Int) : Int × Int := if (spotB m h a k).2 = 0 then (loadN m.Heap.Bytes (spotB m h a k).1 k, 0) else (0, (spotB m h a k).2)
theorem spot_no1 {m : Mem} {h a k : Int} (c : memOkB m = false) : spotB m h a k = (0, 1) := if_pos (.inl c)
theorem spot_no2 {m : Mem} {h a k : Int} (c : inB 1 7 k = false) : spotB m h a k = (0, 1) := if_pos (.inr c)
theorem spot_no3 {m : Mem} {h a k : Int} (c : memOkB m = true) (c2 : inB 1 7 k = true) (c3 : liveB m h = false) : spotB m h a k = (0, 4) := by
  unfold spotB
  rw [if_neg (by rw [c, c2]; decide), if_pos c3]
theorem spot_no4 {m : Mem} {h a k : Int} (c : memOkB m = true) (c2 : inB 1 7 k = true) (c3 : liveB m h = true) (c4 : inB 0 (sizeOfC (classInB m.Heap (h % 32)) - k) a = false) : spotB m h a k = (0, 2) := by
  unfold spotB
  rw [if_neg (by rw [c, c2]; decide), if_neg (by rw [c3]; decide), if_neg (by rw [c4]; decide)]
theorem spot_yes {m : Mem} {h a k : Int} (c : memOkB m = true) (c2 : inB 1 7 k = true) (c3 : liveB m h = true) (c4 : inB 0 (sizeOfC (classInB m.Heap (h % 32)) - k) a = true) : spotB m h a k = (startAt (h % 32) (classInB m.Heap (h % 32)) + a, 0) := by
  unfold spotB
  rw [if_neg (by rw [c, c2]; decide), if_neg (by rw [c3]; decide), if_pos c4]
theorem live_parts {m : Mem} {h : Int} (c : liveB m h = true) : handleOkB h = true ∧ stateB m (h % 32) = 3 ∧ genInB m.Heap (h % 32) = h / 32 := by
  unfold liveB at c
  simp only [Bool.and_eq_true, beq_iff_eq] at c
  exact ⟨c.1.1, c.1.2, c.2⟩
theorem live_cls {m : Mem} {h : Int} (c : liveB m h = true) : ¬ classInB m.Heap (h % 32) < 0 := state_cls (by rw [(live_parts c).2.1]; decide)
theorem cls_start {h : Heap} {s : Int} (c : ¬ classInB h s < 0) : 12 ≤ startAt s (classInB h s) ∧ startAt s (classInB h s) + sizeOfC (classInB h s) ≤ 384 ∧ rngF s (classInB h s) = startAt s (classInB h s) ∧ rngT s (classInB h s) = startAt s (classInB h s) + sizeOfC (classInB h s) := by
  rcases classInB_cases h s with ⟨e, _⟩ | ⟨e, h1, h2, _, _⟩
  · omega
  · rw [← e] at h1 h2
    rcases rng_cases s (classInB h s) with ⟨k1, _⟩ | ⟨k1, k2, k3, k4⟩
    · rcases startAt_cases s (classInB h s) with ⟨j, _⟩ | ⟨_, _, j⟩ <;> omega
    · exact ⟨k1, by omega, k2, k3⟩
theorem load_yes {m : Mem} {h a k p : Int} (e : spotB m h a k = (p, 0)) : loadInP m h a k = (loadN m.Heap.Bytes p k, 0) := by
  unfold loadInP
  rw [e]
  exact if_pos rfl
theorem ret_pair {a b : Int} {p : Int × Int} (h : p = (a, b)) : Ending.returned (.tuple #[.int .i64 a, .int .i64 b]) = .returned (.tuple #[.int .i64 p.1, .int .i64 p.2]) := by rw [h]
set_option maxRecDepth 100000 in
set_option maxHeartbeats 2000000 in
theorem l9Spot_spec (w : World) (H : HMem) (x : Mem) (s a k : Int) (h : RdMem w w.heap.size H x) (hs1 : szLL x.Lists.Global ≤ 536870912) (hs2 : szLL x.Lists.Own ≤ 536870912) :
    Calls Tryz.prog 84 #[.agg #[.slice H.Heap.Bytes.a H.Heap.Bytes.len H.Heap.Bytes.cap, .slice H.Heap.Class.a H.Heap.Class.len H.Heap.Class.cap, .slice H.Lists.Global.a H.Lists.Global.len H.Lists.Global.cap, .slice H.Lists.Own.a H.Lists.Own.len H.Lists.Own.cap], .int .i64 s, .int .i64 a, .int .i64 k] w fun e w' => e = .returned (.tuple #[.int .i64 (spotB x s a k).1, .int .i64 (spotB x s a k).2]) ∧ Below w.heap.size w w' := by
  have ba0 : Box (w.alloc (.cells #[.slice H.Heap.Bytes.a H.Heap.Bytes.len H.Heap.Bytes.cap, .slice H.Heap.Class.a H.Heap.Class.len H.Heap.Class.cap, .slice H.Lists.Global.a H.Lists.Global.len H.Lists.Global.cap, .slice H.Lists.Own.a H.Lists.Own.len H.Lists.Own.cap] 31)) w.heap.size [.slice H.Heap.Bytes.a H.Heap.Bytes.len H.Heap.Bytes.cap, .slice H.Heap.Class.a H.Heap.Class.len H.Heap.Class.cap, .slice H.Lists.Global.a H.Lists.Global.len H.Lists.Global.cap, .slice H.Lists.Own.a H.Lists.Own.len H.Lists.Own.cap] := Box.new w #[.slice H.Heap.Bytes.a H.Heap.Bytes.len H.Heap.Bytes.cap, .slice H.Heap.Class.a H.Heap.Class.len H.Heap.Class.cap, .slice H.Lists.Global.a H.Lists.Global.len H.Lists.Global.cap, .slice H.Lists.Own.a H.Lists.Own.len H.Lists.Own.cap] _
  have hB0 : Below w.heap.size w (w.alloc (.cells #[.slice H.Heap.Bytes.a H.Heap.Bytes.len H.Heap.Bytes.cap, .slice H.Heap.Class.a H.Heap.Class.len H.Heap.Class.cap, .slice H.Lists.Global.a H.Lists.Global.len H.Lists.Global.cap, .slice H.Lists.Own.a H.Lists.Own.len H.Lists.Own.cap] 31)) := by repeat (first | exact Below.refl _ _ | refine Below.alloc ?_ (by simp <;> omega) _ | refine below_grow_of ?_ (by simp <;> omega) _ _ | refine Below.drew ?_ | refine below_drewN ?_ _)
  by_cases c1 : memOkB x = true
  case neg =>
    have c1' : memOkB x = false := (Bool.not_eq_true _).mp c1
    have HN := Hid.mk_ (spot_no1 (h := s) (a := a) (k := k) c1')
    clear c1
    go_enter Tryz.func84, Tryz.ntmps84
    go_wp2_with fail
    refine (MemOk_spec _ H x (rdMem_up h hB0) hs1 hs2).mono ?_
    rw [c1']
    rintro e w1 ⟨rfl, hb⟩
    have ba1 := ba0.below hb
    have hB1 := hB0.trans (hb.mono hB0.size)
    clear hb ba0 hB0
    go_wp2
    go_ret2
    exact ⟨ret_pair HN.out, hB1⟩
  by_cases c2 : inB 1 7 k = true
  case neg =>
    have c2' : inB 1 7 k = false := (Bool.not_eq_true _).mp c2
    have HN := Hid.mk_ (spot_no2 (m := x) (h := s) (a := a) c2')
    clear c2
    go_enter Tryz.func84, Tryz.ntmps84
    go_wp2_with fail
    refine (MemOk_spec _ H x (rdMem_up h hB0) hs1 hs2).mono ?_
    rw [c1]
    rintro e w1 ⟨rfl, hb⟩
    have ba1 := ba0.below hb
    have hB1 := hB0.trans (hb.mono hB0.size)
    clear hb ba0 hB0
    clear c1
    go_wp2_with (go_at_call 102; refine (l1In_ct _ _ _ _).mono ?_; rw [c2']; rintro e w2 ⟨rfl, rfl⟩)
    go_ret2
    exact ⟨ret_pair HN.out, hB1⟩
  have HS := Hid.mk_ (mem_shape c1)
  by_cases c3 : liveB x s = true
  case neg =>
    have c3' : liveB x s = false := (Bool.not_eq_true _).mp c3
    have HN := Hid.mk_ (spot_no3 (a := a) c1 c2 c3')
    clear c3
    go_enter Tryz.func84, Tryz.ntmps84
    go_wp2_with fail
    refine (MemOk_spec _ H x (rdMem_up h hB0) hs1 hs2).mono ?_
    rw [c1]
    rintro e w1 ⟨rfl, hb⟩
    have ba1 := ba0.below hb
    have hB1 := hB0.trans (hb.mono hB0.size)
    clear hb ba0 hB0
    clear c1
    have qa0 := ba1.cell 0 _ rfl
    have qa1 := ba1.cell 1 _ rfl
    have qa2 := ba1.cell 2 _ rfl
    have qa3 := ba1.cell 3 _ rfl
    go_wp2_with (go_at_call 102; refine (l1In_ct _ _ _ _).mono ?_; rw [c2]; rintro e w2 ⟨rfl, rfl⟩)
    clear c2
    refine (l9Valid_spec _ H x s (rdMem_up h hB1) HS.out hs1 hs2).mono ?_
    rw [c3']
    rintro e w2 ⟨rfl, hb⟩
    have ba2 := ba1.below hb
    have hB2 := hB1.trans (hb.mono hB1.size)
    clear hb ba1 hB1
    clear qa0 qa1 qa2 qa3
    go_wp2
    go_ret2
    exact ⟨ret_pair HN.out, hB2⟩
  obtain ⟨b1, b2⟩ := inB_iff.1 c2
  have hh := (live_parts c3).1
  have kc := live_cls c3
  obtain ⟨f1, f2, _, _⟩ := cls_start kc
  have hsz := sizeOfC_bd (classInB x.Heap (s % 32))
  have hq1 := fun W => HandleSlot_spec s W hh
  have hq2 := fun (W : World) (hW : Below w.heap.size w W) => l7Class_spec W H.Heap x.Heap (s % 32) (rdHeap_up h.Heap hW) HS.out
  have hq3 := fun W => StartOf_spec (s % 32) (classInB x.Heap (s % 32)) W
  have hq4 := fun W => SizeOf_spec (classInB x.Heap (s % 32)) W
  have HP := Hid.mk_ (spot_yes (a := a) c1 c2 c3)
  have HR := Hid.mk_ (spot_no4 (a := a) c1 c2 c3)
  clear hh kc
  generalize startAt (s % 32) (classInB x.Heap (s % 32)) = st at *
  generalize sizeOfC (classInB x.Heap (s % 32)) = sz at *
  generalize classInB x.Heap (s % 32) = cl at *
  go_enter Tryz.func84, Tryz.ntmps84
  go_wp2_with fail
  refine (MemOk_spec _ H x (rdMem_up h hB0) hs1 hs2).mono ?_
  rw [c1]
  rintro e w1 ⟨rfl, hb⟩
  have ba1 := ba0.below hb
  have hB1 := hB0.trans (hb.mono hB0.size)
  clear hb ba0 hB0
  clear c1
  have qa0 := ba1.cell 0 _ rfl
  have qa1 := ba1.cell 1 _ rfl
  have qa2 := ba1.cell 2 _ rfl
  have qa3 := ba1.cell 3 _ rfl
  go_wp2_with (go_at_call 102; refine (l1In_ct _ _ _ _).mono ?_; rw [c2]; rintro e w2 ⟨rfl, rfl⟩)
  clear c2
  refine (l9Valid_spec _ H x s (rdMem_up h hB1) HS.out hs1 hs2).mono ?_
  rw [c3]
  rintro e w2 ⟨rfl, hb⟩
  have ba2 := ba1.below hb
  have hB2 := hB1.trans (hb.mono hB1.size)
  clear hb ba1 hB1
  clear qa0 qa1 qa2 qa3 c3
  have qa0 := ba2.cell 0 _ rfl
  have qa1 := ba2.cell 1 _ rfl
  have qa2 := ba2.cell 2 _ rfl
  have qa3 := ba2.cell 3 _ rfl
  go_wp2_with (go_at_call 30; refine (hq1 _).mono ?_; rintro e w3 ⟨rfl, rfl⟩)
  refine (hq2 _ hB2).mono ?_
  rintro e w3 ⟨rfl, hb⟩
  have ba3 := ba2.below hb
  have hB3 := hB2.trans (hb.mono hB2.size)
  clear hb ba2 hB2
  clear qa0 qa1 qa2 qa3 hq1 hq2
  by_cases d1 : inB 0 (sz - 1) a = true
  case neg =>
    have d1' := (Bool.not_eq_true _).mp d1
    have HN := Hid.mk_ (HR.out (inB_no (by have := inB_not d1'; omega)))
    clear d1
    go_wp2_with (first | (go_at_call 28; refine (hq4 _).mono ?_; rintro e w4 ⟨rfl, rfl⟩) | (go_at_call 102; refine (l1In_ct _ _ _ _).mono ?_; rw [d1']; rintro e w2 ⟨rfl, rfl⟩))
    go_ret2
    exact ⟨ret_pair HN.out, hB3⟩
  obtain ⟨g1, g2⟩ := inB_iff.1 d1
  by_cases d2 : sz - a < k
  · have HN := Hid.mk_ (HR.out (inB_no (by omega)))
    go_wp2_with (first | (go_at_call 28; refine (hq4 _).mono ?_; rintro e w4 ⟨rfl, rfl⟩) | (go_at_call 102; refine (l1In_ct _ _ _ _).mono ?_; rw [d1]; rintro e w2 ⟨rfl, rfl⟩))
    go_ret2
    exact ⟨ret_pair HN.out, hB3⟩
  · have HN := Hid.mk_ (HP.out (inB_iff.2 ⟨by omega, by omega⟩))
    go_wp2_with (first | (go_at_call 28; refine (hq4 _).mono ?_; rintro e w4 ⟨rfl, rfl⟩) | (go_at_call 102; refine (l1In_ct _ _ _ _).mono ?_; rw [d1]; rintro e w2 ⟨rfl, rfl⟩) | (go_at_call 92; refine (hq3 _).mono ?_; rintro e w4 ⟨rfl, rfl⟩))
    go_ret2
    exact ⟨ret_pair HN.out, hB3⟩
theorem spot_zero {m : Mem} {h a k : Int} (c : (spotB m h a k).2 = 0) : memOkB m = true ∧ 1 ≤ k ∧ k ≤ 7 ∧ liveB m h = true ∧ 12 ≤ (spotB m h a k).1 ∧ (spotB m h a k).1 + k ≤ 384 ∧ inB 0 (sizeOfC (classInB m.Heap (h % 32)) - k) a = true ∧ (spotB m h a k).1 = startAt (h % 32) (classInB m.Heap (h % 32)) + a := by
  by_cases c1 : memOkB m = false
  · rw [spot_no1 c1] at c
    exact absurd c (by decide)
  by_cases c2 : inB 1 7 k = false
  · rw [spot_no2 c2] at c
    exact absurd c (by decide)
  have c1' : memOkB m = true := by simpa using c1
  have c2' : inB 1 7 k = true := by simpa using c2
  by_cases c3 : liveB m h = false
  · rw [spot_no3 c1' c2' c3] at c
    exact absurd c (by decide)
  have c3' : liveB m h = true := by simpa using c3
  by_cases c4 : inB 0 (sizeOfC (classInB m.Heap (h % 32)) - k) a = false
  · rw [spot_no4 c1' c2' c3' c4] at c
    exact absurd c (by decide)
  have c4' : inB 0 (sizeOfC (classInB m.Heap (h % 32)) - k) a = true := by simpa using c4
  obtain ⟨b1, b2⟩ := inB_iff.1 c2'
  obtain ⟨g1, g2⟩ := inB_iff.1 c4'
  obtain ⟨f1, f2, _, _⟩ := cls_start (live_cls c3')
  rw [spot_yes c1' c2' c3' c4']
  exact ⟨c1', b1, b2, c3', by simp only; omega, by simp only; omega, c4', rfl⟩
end Go.Proofs.YtkmggglljkmjoaaGreat

/-
  Copies of bytes, lists, heaps: the contracts.
-/
namespace Go.Proofs.YtkmggglljkmjoaaGreat
open Go.RowKit

theorem Chg.drew_ {F : List Nat} {w w' : World} (h : Chg F w w') : Chg F w w'.drew := ⟨h.os, h.tape, h.output, h.size, h.block⟩
theorem foot1_nodup (v : Value) : (foot1 v).Nodup := by
  unfold foot1
  cases v.ownBlock <;> simp
theorem OwLL.snoc {α : Type} {T : FT α} {e E : TypeId} {w w' : World} {v v' : Value} {svs : List SV} {ll : List (List α)} (h : OwLL T e E w v svs ll) {s : SV} {l : List α} (hl : OwL T e w s.val l) (hd : ∀ g ∈ foot1 s.val, g ∉ foot2 v svs)
    (ho : OwL FS E w' v' (svs ++ [s])) (hg : w.grownBy w' v.ownBlock) (hat : v'.ownBlock = v.ownBlock ∨ v'.ownBlock = some w.heap.size) : OwLL T e E w' v' (svs ++ [s]) (ll ++ [l]) := by
  have hc := Chg.of_grown hg
  have hn := h.nodup
  unfold foot2 at hn
  rw [List.nodup_append] at hn
  obtain ⟨hn1, hn2, hn3⟩ := hn
  refine ⟨by simp [h.len], ho, fun k s' l' hk hl' => ?_, ?_⟩
  · by_cases hks : k < svs.length
    · rw [List.getElem?_append_left hks] at hk
      rw [List.getElem?_append_left (by rw [← h.len]; exact hks)] at hl'
      have hi := h.inner k s' l' hk hl'
      exact hi.chg hc fun g hg1 hg2 => hn3 g hg2 g (List.mem_flatMap.2 ⟨s', List.mem_of_getElem? hk, hg1⟩) rfl
    · rw [List.getElem?_append_right (by omega)] at hk
      rw [List.getElem?_append_right (by rw [← h.len]; omega), ← h.len] at hl'
      have hk0 : k - svs.length = 0 := by
        have := (List.getElem?_eq_some_iff.1 hk).1
        simp at this
        omega
      rw [hk0] at hk hl'
      cases hk
      cases hl'
      exact hl.chg hc fun g hg1 hg2 => hd g hg1 (mem_foot2.2 (.inl (mem_foot1.1 hg2)))
  · unfold foot2
    rw [List.flatMap_append, List.nodup_append]
    refine ⟨foot1_nodup _, ?_, fun a ha b hb => ?_⟩
    · rw [List.nodup_append]
      refine ⟨hn2, by simpa using foot1_nodup s.val, fun a ha b hb => ?_⟩
      rintro rfl
      have hb' : a ∈ foot1 s.val := by simpa using hb
      exact hd a hb' (by unfold foot2; exact List.mem_append.2 (.inr ha))
    · rintro rfl
      rcases foot_app hat a ha with h1 | h1
      · rcases List.mem_append.1 hb with h2 | h2
        · exact hn3 a h1 a h2 rfl
        · have h2' : a ∈ foot1 s.val := by simpa using h2
          exact hd a h2' (mem_foot2.2 (.inl (mem_foot1.1 h1)))
      · rcases List.mem_append.1 hb with h2 | h2
        · have := h.lt a (by unfold foot2; exact List.mem_append.2 (.inr h2))
          omega
        · have h2' : a ∈ foot1 s.val := by simpa using h2
          have := foot_lt hl a h2'
          omega
set_option maxHeartbeats 400000 in
theorem l3Copy_ct (w : World) (v : Value) (l : List Int) (h : RdL FI w w.heap.size v l) (hs : l.length ≤ 1073741824) :
    Calls Tryz.prog 205 #[v] w fun e w' => ∃ v', e = .returned v' ∧ OwL FI 3 w' v' l ∧ (∀ g ∈ foot1 v', w.heap.size ≤ g) ∧ Below w.heap.size w w' := by
  obtain ⟨A, c, hv, _, _, q3⟩ := id h
  subst hv
  go_enter Tryz.func205, Tryz.ntmps205
  go_wp2_with (at_builtin; refine wpList_append_flat Tryz.stInt rfl _ _ rfl (v := .slice (some ⟨w.heap.size, 0, none⟩) 0 0) (y := .slice A l.length c) (l := []) (m := l) rfl rfl (OwL.lit FI [] #[] rfl (by simp [maxLen]) _ _) (h.alloc_ (Nat.le_refl _) (Nat.le_succ _) _) (by simpa using hs) ?_; intro v' w1 ho hg hat)
  go_ret
  have hb : Below w.heap.size w w1 := ((Below.refl _ _).alloc (Nat.le_refl _) _).grown hg (by simp) (by simp [Value.ownBlock])
  exact ⟨v', rfl, by simpa using ho, fun g hg' => by rcases foot_app hat g hg' with h | h; (simp [foot1, Value.ownBlock] at h; omega); (simp at h; omega), hb⟩

set_option maxRecDepth 100000 in
set_option maxHeartbeats 1000000 in
theorem l8Rows_spec (w : World) (v : Value) (t : List SV) (ll : List (List Int)) (h : RdLL FI w w.heap.size v t ll) (hs : szLL ll ≤ 536870912) :
    Calls Tryz.prog 206 #[v] w fun e w' => ∃ v' t', e = .returned v' ∧ OwLL FI 3 94 w' v' t' ll ∧ (∀ g ∈ foot2 v' t', w.heap.size ≤ g) ∧ Below w.heap.size w w' := by
  obtain ⟨A, c, hv, _⟩ := id h.outer
  subst hv
  obtain ⟨en, hcap, hmx⟩ := h.len'
  have hlt0 : ll.length ≤ 9223372036854775807 := by unfold maxLen at hmx; omega
  rw [en] at h ⊢
  clear en hcap hmx
  have hs0 : ll.length ≤ 536870912 := Nat.le_trans (Nat.le_add_right _ _) hs
  have o0 : OwLL FI 3 94 (w.alloc (.cells #[] 94)) (.slice (some ⟨w.heap.size, 0, none⟩) 0 0) [] [] := ⟨rfl, OwL.lit FS [] #[] rfl (by decide) w 94, fun k s l h => by simp at h, by simp [foot2, foot1, Value.ownBlock]⟩
  go_enter Tryz.func206, Tryz.ntmps206
  go_wp2
  go_loopw [3, 4] (fun o i wr => ∃ k : Nat, k ≤ ll.length ∧ i = .int .i64 k ∧ (∃ t', OwLL FI 3 94 wr o t' (ll.take k) ∧ (∀ g ∈ foot2 o t', w.heap.size ≤ g)) ∧ Below w.heap.size w wr) (fun _ i _ => ll.length - (intOf i).toNat)
  case atStart => exact ⟨0, Nat.zero_le _, rfl, ⟨[], o0, by simp [foot2, foot1, Value.ownBlock]⟩, (Below.refl _ _).alloc (Nat.le_refl _) _⟩
  case round =>
    obtain ⟨i, hi, rfl, ⟨t', ho, hfo⟩, hb⟩ := hrel
    clear o0
    by_cases hlt : i < ll.length
    · obtain ⟨g, o, A', c', rfl, hg, p0, r1⟩ := h.row hb hlt
      have hlen : ll[i].length ≤ 1073741824 := by have := le_szLL (List.getElem_mem hlt); omega
      have htl : t'.length ≤ 536870912 := by rw [ho.len, List.length_take]; omega
      have z1 : g < wr.heap.size := Nat.lt_of_lt_of_le hg hb.size
      have HTk := Hid.mk_ (List.take_succ_eq_append_getElem hlt)
      clear h
      go_wp2_with (first | (go_at_call 205; refine (l3Copy_ct _ _ ll[i] (rd_up r1 hb) hlen).mono ?_; rintro e w1 ⟨vs, rfl, hos, hfs2, hbb⟩; obtain ⟨A2, c2, hv2, _⟩ := hos.rd'; subst hv2) | (at_builtin; refine wpList_append_flat Tryz.stSL rfl _ _ rfl (v := u3) (y := .slice (some ⟨w1.heap.size, 0, none⟩) 1 1) (l := t') (m := [⟨A2, ll[i].length, c2⟩]) rfl rfl ((ho.keep (fun g hg => hbb.block g (ho.lt g hg))).outer.alloc_ _) (OwL.lit FS [⟨A2, ll[i].length, c2⟩] #[.slice A2 ll[i].length c2] rfl (by simp [maxLen]) w1 94).rd' (by simp only [List.length_singleton]; omega) ?_; intro v' w3 ho' hg' hat'))
      have hsn := OwLL.snoc ((ho.keep (fun g hg => hbb.block g (ho.lt g hg))).alloc_ (.cells #[.slice A2 ll[i].length c2] 94)) (s := ⟨A2, ll[i].length, c2⟩) (hos.alloc_ _) (fun g hg hm => by have a := hfs2 g hg; have b := ho.lt g hm; omega) ho' hg' hat'
      have hbb2 : Below w.heap.size w w1 := hb.trans (hbb.mono hb.size)
      have hb3 : Below w.heap.size w w3 := (hbb2.alloc hbb2.size _).grown hg' (by simp; exact Nat.le_succ_of_le hbb2.size) (fun k hk => hfo k (mem_foot2.2 (.inl hk)))
      go_roundw
      case rel =>
        refine ⟨i + 1, by omega, by go_num, ⟨_, by rw [HTk.out]; exact hsn, fun b hb' => ?_⟩, hb3⟩
        unfold foot2 at hb'
        rw [List.flatMap_append] at hb'
        rcases List.mem_append.1 hb' with h1 | h1
        · rcases foot_app hat' b h1 with h2 | h2
          · exact hfo b (mem_foot2.2 (.inl (mem_foot1.1 h2)))
          · have := hbb2.size
            simp at h2
            omega
        · rcases List.mem_append.1 h1 with h2 | h2
          · exact hfo b (by unfold foot2; exact List.mem_append.2 (.inr h2))
          · have h4 : b ∈ foot1 (SV.val ⟨A2, ll[i].length, c2⟩) := by simpa using h2
            have := hfs2 b h4
            have := hb.size
            omega
      case measure => simp [intOf]; omega
    · go_wp2
      go_ret
      obtain rfl : i = ll.length := by omega
      exact ⟨u3, t', rfl, by simpa using ho, hfo, hb⟩

theorem l3Copy_w (w : World) (K : SV) (l : List Int) (h : RdL FI w w.heap.size K.val l) (hs : l.length ≤ 1073741824) :
    Calls Tryz.prog 205 #[.slice K.a K.len K.cap] w fun e w' => ∃ K' : SV, e = .returned (.slice K'.a K'.len K'.cap) ∧ OwL FI 3 w' K'.val l ∧ (∀ g ∈ foot1 K'.val, w.heap.size ≤ g) ∧ Below w.heap.size w w' := by
  refine (l3Copy_ct w _ l h hs).mono ?_
  rintro e w1 ⟨v, rfl, ho, hf, hb⟩
  obtain ⟨A, c, hv, _⟩ := ho.rd'
  subst hv
  exact ⟨⟨A, l.length, c⟩, rfl, ho, hf, hb⟩
theorem l8Rows_w (w : World) (K : SV) (t : List SV) (ll : List (List Int)) (h : RdLL FI w w.heap.size K.val t ll) (hs : szLL ll ≤ 536870912) :
    Calls Tryz.prog 206 #[.slice K.a K.len K.cap] w fun e w' => ∃ (K' : SV) (t' : List SV), e = .returned (.slice K'.a K'.len K'.cap) ∧ OwLL FI 3 94 w' K'.val t' ll ∧ (∀ g ∈ foot2 K'.val t', w.heap.size ≤ g) ∧ Below w.heap.size w w' := by
  refine (l8Rows_spec w _ t ll h hs).mono ?_
  rintro e w1 ⟨v, t', rfl, ho, hf, hb⟩
  obtain ⟨A, c, hv, _⟩ := ho.rd'.outer
  subst hv
  exact ⟨⟨A, t'.length, c⟩, t', rfl, ho, hf, hb⟩

set_option maxRecDepth 100000 in
set_option maxHeartbeats 2000000 in
theorem l7Copy_spec (w : World) (H : HHeap) (x : Heap) (h : RdHeap w w.heap.size H x) (hs : sizeHeap x ≤ 1073741824) :
    Calls Tryz.prog 155 #[.agg #[.slice H.Bytes.a H.Bytes.len H.Bytes.cap, .slice H.Class.a H.Class.len H.Class.cap]] w fun e w' => ∃ H' : HHeap, e = .returned (H'.val x) ∧ OwHeap w' H' x ∧ (∀ g ∈ H'.foot, w.heap.size ≤ g) ∧ Below w.heap.size w w' := by
  have hs1 : x.Bytes.length ≤ 1073741824 := Nat.le_trans (Nat.le_add_right _ _) hs
  have hs2 : x.Class.length ≤ 1073741824 := Nat.le_trans (Nat.le_add_left _ _) hs
  clear hs
  have ba : Box ((w.alloc (.cells #[.slice H.Bytes.a H.Bytes.len H.Bytes.cap, .slice H.Class.a H.Class.len H.Class.cap] 26)).alloc (.cells #[.slice none 0 0, .slice none 0 0] 26)) w.heap.size [.slice H.Bytes.a H.Bytes.len H.Bytes.cap, .slice H.Class.a H.Class.len H.Class.cap] := (Box.new w #[.slice H.Bytes.a H.Bytes.len H.Bytes.cap, .slice H.Class.a H.Class.len H.Class.cap] _).alloc _
  have br : Box ((w.alloc (.cells #[.slice H.Bytes.a H.Bytes.len H.Bytes.cap, .slice H.Class.a H.Class.len H.Class.cap] 26)).alloc (.cells #[.slice none 0 0, .slice none 0 0] 26)) (w.heap.size + 1) [.slice none 0 0, .slice none 0 0] := by
    have hb := Box.new (w.alloc (.cells #[.slice H.Bytes.a H.Bytes.len H.Bytes.cap, .slice H.Class.a H.Class.len H.Class.cap] 26)) #[.slice none 0 0, .slice none 0 0] 26
    rw [World.size_alloc] at hb
    exact hb
  have hB : Below w.heap.size w ((w.alloc (.cells #[.slice H.Bytes.a H.Bytes.len H.Bytes.cap, .slice H.Class.a H.Class.len H.Class.cap] 26)).alloc (.cells #[.slice none 0 0, .slice none 0 0] 26)) := by repeat (first | exact Below.refl _ _ | refine Below.alloc ?_ (by simp <;> omega) _ | refine below_grow_of ?_ (by simp <;> omega) _ _ | refine Below.drew ?_ | refine below_drewN ?_ _)
  go_enter Tryz.func155, Tryz.ntmps155
  go_wp2_with fail
  generalize hW0 : ((w.alloc (.cells #[.slice H.Bytes.a H.Bytes.len H.Bytes.cap, .slice H.Class.a H.Class.len H.Class.cap] 26)).alloc (.cells #[.slice none 0 0, .slice none 0 0] 26)) = w0 at ba br hB ⊢
  clear hW0
  have qa0 := ba.cell 0 _ rfl
  have qr0 := br.cell 0 _ rfl
  have qa1 := ba.cell 1 _ rfl
  have qr1 := br.cell 1 _ rfl
  have fr := br.fro
  have z0 := br.lt
  go_region_with (first | (go_at_call 205; (first | ((with_reducible refine (l3Copy_w _ H.Bytes x.Bytes (rd_up h.Bytes hB) hs1).mono ?_); rintro e w1 ⟨K0, rfl, o0, f0, hb⟩; replace ba := ba.below hb; replace br := br.below hb; replace hB := hB.trans (hb.mono hB.size); have sz := hb.size; have u0 := foot_lt o0; (try replace o1 := o1.step0 hb); replace qa0 := ba.cell 0 _ rfl; replace qr0 := br.cell 0 _ rfl; replace qa1 := ba.cell 1 _ rfl; replace qr1 := br.cell 1 _ rfl; replace fr := br.fro; clear hb) | ((with_reducible refine (l3Copy_w _ H.Bytes x.Bytes (rd_up h.Bytes hB.drew) hs1).mono ?_); rintro e w1 ⟨K0, rfl, o0, f0, hb⟩; replace hb := undrew hb; replace f0 := fcdrew f0; replace ba := ba.below hb; replace br := br.below hb; replace hB := hB.trans (hb.mono hB.size); have sz := hb.size; have u0 := foot_lt o0; (try replace o1 := o1.step0 hb); replace qa0 := ba.cell 0 _ rfl; replace qr0 := br.cell 0 _ rfl; replace qa1 := ba.cell 1 _ rfl; replace qr1 := br.cell 1 _ rfl; replace fr := br.fro; clear hb) | ((with_reducible refine (l3Copy_w _ H.Class x.Class (rd_up h.Class hB) hs2).mono ?_); rintro e w2 ⟨K1, rfl, o1, f1, hb⟩; replace ba := ba.below hb; replace br := br.below hb; replace hB := hB.trans (hb.mono hB.size); have sz := hb.size; have u1 := foot_lt o1; (try replace o0 := o0.step0 hb); replace qa0 := ba.cell 0 _ rfl; replace qr0 := br.cell 0 _ rfl; replace qa1 := ba.cell 1 _ rfl; replace qr1 := br.cell 1 _ rfl; replace fr := br.fro; clear hb) | ((with_reducible refine (l3Copy_w _ H.Class x.Class (rd_up h.Class hB.drew) hs2).mono ?_); rintro e w2 ⟨K1, rfl, o1, f1, hb⟩; replace hb := undrew hb; replace f1 := fcdrew f1; replace ba := ba.below hb; replace br := br.below hb; replace hB := hB.trans (hb.mono hB.size); have sz := hb.size; have u1 := foot_lt o1; (try replace o0 := o0.step0 hb); replace qa0 := ba.cell 0 _ rfl; replace qr0 := br.cell 0 _ rfl; replace qa1 := ba.cell 1 _ rfl; replace qr1 := br.cell 1 _ rfl; replace fr := br.fro; clear hb))))
  all_goals
    go_wp2_with fail
    refine bodyPost_ret (v := .agg #[.slice K0.a K0.len K0.cap, .slice K1.a K1.len K1.cap]) (by simp [results, Tryz.results155, go_sem, qr0, qr1]) rfl ⟨⟨K0, K1⟩, rfl, ⟨o0.chg (F := [w.heap.size + 1]) (by repeat (first | exact Chg.refl _ _ | refine Chg.set_ ?_ (by simp) _ | refine Chg.drew_ ?_)) (fun g hg hm => by simp only [List.mem_cons, List.not_mem_nil, or_false] at hm; have := f0 g hg; omega), o1.chg (F := [w.heap.size + 1]) (by repeat (first | exact Chg.refl _ _ | refine Chg.set_ ?_ (by simp) _ | refine Chg.drew_ ?_)) (fun g hg hm => by simp only [List.mem_cons, List.not_mem_nil, or_false] at hm; have := f1 g hg; omega), fun g hg hm => by have := u0 g hg; have := f0 g hg; have := u1 g hm; have := f1 g hm; omega⟩, fun g hg => ?_, ?_⟩
    · rcases HHeap.mem_foot.1 hg with hg | hg
      · have := f0 g hg
        omega
      · have := f1 g hg
        omega
    · exact Below.trans hB (by repeat (first | exact Below.refl _ _ | refine Below.setCell ?_ (by simp <;> omega) _ | refine Below.drew ?_))

set_option maxRecDepth 100000 in
set_option maxHeartbeats 2000000 in
theorem l8Copy_spec (w : World) (H : HLists) (x : Lists) (h : RdLists w w.heap.size H x) (hs : sizeLists x ≤ 536870912) :
    Calls Tryz.prog 156 #[.agg #[.slice H.Global.a H.Global.len H.Global.cap, .slice H.Own.a H.Own.len H.Own.cap]] w fun e w' => ∃ H' : HLists, e = .returned (H'.val x) ∧ OwLists w' H' x ∧ (∀ g ∈ H'.foot, w.heap.size ≤ g) ∧ Below w.heap.size w w' := by
  have hs1 : szLL x.Global ≤ 536870912 := Nat.le_trans (Nat.le_add_right _ _) hs
  have hs2 : szLL x.Own ≤ 536870912 := Nat.le_trans (Nat.le_add_left _ _) hs
  clear hs
  have ba : Box ((w.alloc (.cells #[.slice H.Global.a H.Global.len H.Global.cap, .slice H.Own.a H.Own.len H.Own.cap] 29)).alloc (.cells #[.slice none 0 0, .slice none 0 0] 29)) w.heap.size [.slice H.Global.a H.Global.len H.Global.cap, .slice H.Own.a H.Own.len H.Own.cap] := (Box.new w #[.slice H.Global.a H.Global.len H.Global.cap, .slice H.Own.a H.Own.len H.Own.cap] _).alloc _
  have br : Box ((w.alloc (.cells #[.slice H.Global.a H.Global.len H.Global.cap, .slice H.Own.a H.Own.len H.Own.cap] 29)).alloc (.cells #[.slice none 0 0, .slice none 0 0] 29)) (w.heap.size + 1) [.slice none 0 0, .slice none 0 0] := by
    have hb := Box.new (w.alloc (.cells #[.slice H.Global.a H.Global.len H.Global.cap, .slice H.Own.a H.Own.len H.Own.cap] 29)) #[.slice none 0 0, .slice none 0 0] 29
    rw [World.size_alloc] at hb
    exact hb
  have hB : Below w.heap.size w ((w.alloc (.cells #[.slice H.Global.a H.Global.len H.Global.cap, .slice H.Own.a H.Own.len H.Own.cap] 29)).alloc (.cells #[.slice none 0 0, .slice none 0 0] 29)) := by repeat (first | exact Below.refl _ _ | refine Below.alloc ?_ (by simp <;> omega) _ | refine below_grow_of ?_ (by simp <;> omega) _ _ | refine Below.drew ?_ | refine below_drewN ?_ _)
  go_enter Tryz.func156, Tryz.ntmps156
  go_wp2_with fail
  generalize hW0 : ((w.alloc (.cells #[.slice H.Global.a H.Global.len H.Global.cap, .slice H.Own.a H.Own.len H.Own.cap] 29)).alloc (.cells #[.slice none 0 0, .slice none 0 0] 29)) = w0 at ba br hB ⊢
  clear hW0
  have qa0 := ba.cell 0 _ rfl
  have qr0 := br.cell 0 _ rfl
  have qa1 := ba.cell 1 _ rfl
  have qr1 := br.cell 1 _ rfl
  have fr := br.fro
  have z0 := br.lt
  go_region_with (first | (go_at_call 206; (first | ((with_reducible refine (l8Rows_w _ H.Global H.GlobalT x.Global (rdLL_up h.Global hB) hs1).mono ?_); rintro e w1 ⟨K0, t0, rfl, o0, f0, hb⟩; replace ba := ba.below hb; replace br := br.below hb; replace hB := hB.trans (hb.mono hB.size); have sz := hb.size; have u0 := o0.lt; (try replace o1 := o1.step0 hb); replace qa0 := ba.cell 0 _ rfl; replace qr0 := br.cell 0 _ rfl; replace qa1 := ba.cell 1 _ rfl; replace qr1 := br.cell 1 _ rfl; replace fr := br.fro; clear hb) | ((with_reducible refine (l8Rows_w _ H.Global H.GlobalT x.Global (rdLL_up h.Global hB.drew) hs1).mono ?_); rintro e w1 ⟨K0, t0, rfl, o0, f0, hb⟩; replace hb := undrew hb; replace f0 := fcdrew f0; replace ba := ba.below hb; replace br := br.below hb; replace hB := hB.trans (hb.mono hB.size); have sz := hb.size; have u0 := o0.lt; (try replace o1 := o1.step0 hb); replace qa0 := ba.cell 0 _ rfl; replace qr0 := br.cell 0 _ rfl; replace qa1 := ba.cell 1 _ rfl; replace qr1 := br.cell 1 _ rfl; replace fr := br.fro; clear hb) | ((with_reducible refine (l8Rows_w _ H.Own H.OwnT x.Own (rdLL_up h.Own hB) hs2).mono ?_); rintro e w2 ⟨K1, t1, rfl, o1, f1, hb⟩; replace ba := ba.below hb; replace br := br.below hb; replace hB := hB.trans (hb.mono hB.size); have sz := hb.size; have u1 := o1.lt; (try replace o0 := o0.step0 hb); replace qa0 := ba.cell 0 _ rfl; replace qr0 := br.cell 0 _ rfl; replace qa1 := ba.cell 1 _ rfl; replace qr1 := br.cell 1 _ rfl; replace fr := br.fro; clear hb) | ((with_reducible refine (l8Rows_w _ H.Own H.OwnT x.Own (rdLL_up h.Own hB.drew) hs2).mono ?_); rintro e w2 ⟨K1, t1, rfl, o1, f1, hb⟩; replace hb := undrew hb; replace f1 := fcdrew f1; replace ba := ba.below hb; replace br := br.below hb; replace hB := hB.trans (hb.mono hB.size); have sz := hb.size; have u1 := o1.lt; (try replace o0 := o0.step0 hb); replace qa0 := ba.cell 0 _ rfl; replace qr0 := br.cell 0 _ rfl; replace qa1 := ba.cell 1 _ rfl; replace qr1 := br.cell 1 _ rfl; replace fr := br.fro; clear hb))))
  all_goals
    go_wp2_with fail
    refine bodyPost_ret (v := .agg #[.slice K0.a K0.len K0.cap, .slice K1.a K1.len K1.cap]) (by simp [results, Tryz.results156, go_sem, qr0, qr1]) rfl ⟨⟨K0, t0, K1, t1⟩, rfl, ⟨o0.chg (F := [w.heap.size + 1]) (by repeat (first | exact Chg.refl _ _ | refine Chg.set_ ?_ (by simp) _ | refine Chg.drew_ ?_)) (fun g hg hm => by simp only [List.mem_cons, List.not_mem_nil, or_false] at hm; have := f0 g hg; omega), o1.chg (F := [w.heap.size + 1]) (by repeat (first | exact Chg.refl _ _ | refine Chg.set_ ?_ (by simp) _ | refine Chg.drew_ ?_)) (fun g hg hm => by simp only [List.mem_cons, List.not_mem_nil, or_false] at hm; have := f1 g hg; omega), fun g hg hm => by have := u0 g hg; have := f0 g hg; have := u1 g hm; have := f1 g hm; omega⟩, fun g hg => ?_, ?_⟩
    · rcases HLists.mem_foot.1 hg with hg | hg
      · have := f0 g hg
        omega
      · have := f1 g hg
        omega
    · exact Below.trans hB (by repeat (first | exact Below.refl _ _ | refine Below.setCell ?_ (by simp <;> omega) _ | refine Below.drew ?_))
end Go.Proofs.YtkmggglljkmjoaaGreat

/-
  Copies of lists, memories: the contracts.
-/
namespace Go.Proofs.YtkmggglljkmjoaaGreat
open Go.RowKit

theorem OwLL.nil_ {α : Type} {T : FT α} {e E : TypeId} {w : World} : OwLL T e E w (.slice none 0 0) [] [] := ⟨rfl, World.ownsRow_nil _ _ _ _, fun k s l h => by simp at h, by simp [foot2, foot1, Value.ownBlock]⟩
theorem Chg.then_ {F : List Nat} {a b c : World} (h : Chg F a b) (hb : Below a.heap.size b c) : Chg F a c :=
  ⟨hb.os.trans h.os, hb.tape.trans h.tape, hb.output.trans h.output, Nat.le_trans h.size hb.size, fun k hk hn => (hb.block k hk).trans (h.block k hk hn)⟩
set_option maxRecDepth 100000 in
set_option maxHeartbeats 2000000 in
theorem l9Copy_spec (w : World) (H : HMem) (x : Mem) (h : RdMem w w.heap.size H x) (hs : sizeMem x ≤ 536870912) :
    Calls Tryz.prog 83 #[.agg #[.slice H.Heap.Bytes.a H.Heap.Bytes.len H.Heap.Bytes.cap, .slice H.Heap.Class.a H.Heap.Class.len H.Heap.Class.cap, .slice H.Lists.Global.a H.Lists.Global.len H.Lists.Global.cap, .slice H.Lists.Own.a H.Lists.Own.len H.Lists.Own.cap]] w fun e w' => ∃ H' : HMem, e = .returned (H'.val x) ∧ OwMem w' H' x ∧ (∀ g ∈ H'.foot, w.heap.size ≤ g) ∧ Below w.heap.size w w' := by
  have hs1 : sizeHeap x.Heap ≤ 1073741824 := by unfold sizeMem at hs; omega
  have hs2 : sizeLists x.Lists ≤ 536870912 := by unfold sizeMem at hs; omega
  clear hs
  have ba : Box ((w.alloc (.cells #[.slice H.Heap.Bytes.a H.Heap.Bytes.len H.Heap.Bytes.cap, .slice H.Heap.Class.a H.Heap.Class.len H.Heap.Class.cap, .slice H.Lists.Global.a H.Lists.Global.len H.Lists.Global.cap, .slice H.Lists.Own.a H.Lists.Own.len H.Lists.Own.cap] 31)).alloc (.cells #[.slice none 0 0, .slice none 0 0, .slice none 0 0, .slice none 0 0] 31)) w.heap.size [.slice H.Heap.Bytes.a H.Heap.Bytes.len H.Heap.Bytes.cap, .slice H.Heap.Class.a H.Heap.Class.len H.Heap.Class.cap, .slice H.Lists.Global.a H.Lists.Global.len H.Lists.Global.cap, .slice H.Lists.Own.a H.Lists.Own.len H.Lists.Own.cap] := (Box.new w #[.slice H.Heap.Bytes.a H.Heap.Bytes.len H.Heap.Bytes.cap, .slice H.Heap.Class.a H.Heap.Class.len H.Heap.Class.cap, .slice H.Lists.Global.a H.Lists.Global.len H.Lists.Global.cap, .slice H.Lists.Own.a H.Lists.Own.len H.Lists.Own.cap] _).alloc _
  have br : Box ((w.alloc (.cells #[.slice H.Heap.Bytes.a H.Heap.Bytes.len H.Heap.Bytes.cap, .slice H.Heap.Class.a H.Heap.Class.len H.Heap.Class.cap, .slice H.Lists.Global.a H.Lists.Global.len H.Lists.Global.cap, .slice H.Lists.Own.a H.Lists.Own.len H.Lists.Own.cap] 31)).alloc (.cells #[.slice none 0 0, .slice none 0 0, .slice none 0 0, .slice none 0 0] 31)) (w.heap.size + 1) [.slice none 0 0, .slice none 0 0, .slice none 0 0, .slice none 0 0] := by
    have hb := Box.new (w.alloc (.cells #[.slice H.Heap.Bytes.a H.Heap.Bytes.len H.Heap.Bytes.cap, .slice H.Heap.Class.a H.Heap.Class.len H.Heap.Class.cap, .slice H.Lists.Global.a H.Lists.Global.len H.Lists.Global.cap, .slice H.Lists.Own.a H.Lists.Own.len H.Lists.Own.cap] 31)) #[.slice none 0 0, .slice none 0 0, .slice none 0 0, .slice none 0 0] 31
    rw [World.size_alloc] at hb
    exact hb
  have hB : Below w.heap.size w ((w.alloc (.cells #[.slice H.Heap.Bytes.a H.Heap.Bytes.len H.Heap.Bytes.cap, .slice H.Heap.Class.a H.Heap.Class.len H.Heap.Class.cap, .slice H.Lists.Global.a H.Lists.Global.len H.Lists.Global.cap, .slice H.Lists.Own.a H.Lists.Own.len H.Lists.Own.cap] 31)).alloc (.cells #[.slice none 0 0, .slice none 0 0, .slice none 0 0, .slice none 0 0] 31)) := by repeat (first | exact Below.refl _ _ | refine Below.alloc ?_ (by simp <;> omega) _ | refine below_grow_of ?_ (by simp <;> omega) _ _ | refine Below.drew ?_ | refine below_drewN ?_ _)
  go_enter Tryz.func83, Tryz.ntmps83
  go_wp2_with fail
  generalize hW0 : ((w.alloc (.cells #[.slice H.Heap.Bytes.a H.Heap.Bytes.len H.Heap.Bytes.cap, .slice H.Heap.Class.a H.Heap.Class.len H.Heap.Class.cap, .slice H.Lists.Global.a H.Lists.Global.len H.Lists.Global.cap, .slice H.Lists.Own.a H.Lists.Own.len H.Lists.Own.cap] 31)).alloc (.cells #[.slice none 0 0, .slice none 0 0, .slice none 0 0, .slice none 0 0] 31)) = w0 at ba br hB ⊢
  clear hW0
  have qa0 := ba.cell 0 _ rfl
  have qr0 := br.cell 0 _ rfl
  have qa1 := ba.cell 1 _ rfl
  have qr1 := br.cell 1 _ rfl
  have qa2 := ba.cell 2 _ rfl
  have qr2 := br.cell 2 _ rfl
  have qa3 := ba.cell 3 _ rfl
  have qr3 := br.cell 3 _ rfl
  have fr := br.fro
  have z0 := br.lt
  go_region_with (first | (go_at_call 155; (first | ((with_reducible refine (l7Copy_spec _ H.Heap x.Heap (rdHeap_up h.Heap hB) hs1).mono ?_); rintro e w1 ⟨K0, rfl, o0, f0, hb⟩; replace ba := ba.below hb; replace br := br.below hb; replace hB := hB.trans (hb.mono hB.size); have sz := hb.size; have u0 := o0.lt; (try replace o1 := o1.step0 hb); replace qa0 := ba.cell 0 _ rfl; replace qr0 := br.cell 0 _ rfl; replace qa1 := ba.cell 1 _ rfl; replace qr1 := br.cell 1 _ rfl; replace qa2 := ba.cell 2 _ rfl; replace qr2 := br.cell 2 _ rfl; replace qa3 := ba.cell 3 _ rfl; replace qr3 := br.cell 3 _ rfl; replace fr := br.fro; clear hb) | ((with_reducible refine (l7Copy_spec _ H.Heap x.Heap (rdHeap_up h.Heap hB.drew) hs1).mono ?_); rintro e w1 ⟨K0, rfl, o0, f0, hb⟩; replace hb := undrew hb; replace f0 := fcdrew f0; replace ba := ba.below hb; replace br := br.below hb; replace hB := hB.trans (hb.mono hB.size); have sz := hb.size; have u0 := o0.lt; (try replace o1 := o1.step0 hb); replace qa0 := ba.cell 0 _ rfl; replace qr0 := br.cell 0 _ rfl; replace qa1 := ba.cell 1 _ rfl; replace qr1 := br.cell 1 _ rfl; replace qa2 := ba.cell 2 _ rfl; replace qr2 := br.cell 2 _ rfl; replace qa3 := ba.cell 3 _ rfl; replace qr3 := br.cell 3 _ rfl; replace fr := br.fro; clear hb))) | (go_at_call 156; (first | ((with_reducible refine (l8Copy_spec _ H.Lists x.Lists (rdLists_up h.Lists hB) hs2).mono ?_); rintro e w2 ⟨K1, rfl, o1, f1, hb⟩; replace ba := ba.below hb; replace br := br.below hb; replace hB := hB.trans (hb.mono hB.size); have sz := hb.size; have u1 := o1.lt; (try replace o0 := o0.step0 hb); replace qa0 := ba.cell 0 _ rfl; replace qr0 := br.cell 0 _ rfl; replace qa1 := ba.cell 1 _ rfl; replace qr1 := br.cell 1 _ rfl; replace qa2 := ba.cell 2 _ rfl; replace qr2 := br.cell 2 _ rfl; replace qa3 := ba.cell 3 _ rfl; replace qr3 := br.cell 3 _ rfl; replace fr := br.fro; clear hb) | ((with_reducible refine (l8Copy_spec _ H.Lists x.Lists (rdLists_up h.Lists hB.drew) hs2).mono ?_); rintro e w2 ⟨K1, rfl, o1, f1, hb⟩; replace hb := undrew hb; replace f1 := fcdrew f1; replace ba := ba.below hb; replace br := br.below hb; replace hB := hB.trans (hb.mono hB.size); have sz := hb.size; have u1 := o1.lt; (try replace o0 := o0.step0 hb); replace qa0 := ba.cell 0 _ rfl; replace qr0 := br.cell 0 _ rfl; replace qa1 := ba.cell 1 _ rfl; replace qr1 := br.cell 1 _ rfl; replace qa2 := ba.cell 2 _ rfl; replace qr2 := br.cell 2 _ rfl; replace qa3 := ba.cell 3 _ rfl; replace qr3 := br.cell 3 _ rfl; replace fr := br.fro; clear hb))))
  all_goals
    go_wp2_with fail
    refine bodyPost_ret (v := .agg #[.slice K0.Bytes.a K0.Bytes.len K0.Bytes.cap, .slice K0.Class.a K0.Class.len K0.Class.cap, .slice K1.Global.a K1.Global.len K1.Global.cap, .slice K1.Own.a K1.Own.len K1.Own.cap]) (by simp [results, Tryz.results83, go_sem, qr0, qr1, qr2, qr3]) rfl ⟨⟨K0, K1⟩, rfl, ⟨o0.chg (F := [w.heap.size + 1]) (by repeat (first | exact Chg.refl _ _ | refine Chg.set_ ?_ (by simp) _ | refine Chg.drew_ ?_)) (fun g hg hm => by simp only [List.mem_cons, List.not_mem_nil, or_false] at hm; have := f0 g hg; omega), o1.chg (F := [w.heap.size + 1]) (by repeat (first | exact Chg.refl _ _ | refine Chg.set_ ?_ (by simp) _ | refine Chg.drew_ ?_)) (fun g hg hm => by simp only [List.mem_cons, List.not_mem_nil, or_false] at hm; have := f1 g hg; omega), fun g hg hm => by have := u0 g hg; have := f0 g hg; have := u1 g hm; have := f1 g hm; omega⟩, fun g hg => ?_, ?_⟩
    · rcases HMem.mem_foot.1 hg with hg | hg
      · have := f0 g hg
        omega
      · have := f1 g hg
        omega
    · exact Below.trans hB (by repeat (first | exact Below.refl _ _ | refine Below.setCell ?_ (by simp <;> omega) _ | refine Below.drew ?_))
end Go.Proofs.YtkmggglljkmjoaaGreat

/-
  Numbers as bytes, and where they are put: plain facts.
-/
namespace Go.Proofs.YtkmggglljkmjoaaGreat
open Go.RowKit
def digs : Nat → Int → List Int
  | 0, _ => []
  | k + 1, n => digs k (n / 256) ++ [n % 256]
theorem digs_succ (k : Nat) (n : Int) : digs (k + 1) n = digs k (n / 256) ++ [n % 256] := rfl
theorem digs_len : ∀ (k : Nat) (n : Int), (digs k n).length = k
  | 0, _ => rfl
  | k + 1, n => by simp [digs, digs_len k]
theorem digs_at : ∀ (k : Nat) (n : Int) (j : Nat), j < k → (digs k n)[k - 1 - j]? = some (n / 256 ^ j % 256)
  | 0, _, j, h => absurd h (by omega)
  | k + 1, n, 0, _ => by
    have := digs_len k (n / 256)
    simp [digs, this]
  | k + 1, n, j + 1, h => by
    have hl := digs_len k (n / 256)
    have ih := digs_at k (n / 256) j (by omega)
    have e : k + 1 - 1 - (j + 1) = k - 1 - j := by omega
    rw [e]
    unfold digs
    rw [List.getElem?_append_left (by omega), ih, Int.ediv_ediv_of_nonneg (by omega), Int.pow_succ', Int.mul_comm]
theorem digs_bd : ∀ (k : Nat) (n : Int), (digs k n).all (inB 0 255) = true
  | 0, _ => rfl
  | k + 1, n => by
    have h1 : 0 ≤ n % 256 := Int.emod_nonneg _ (by omega)
    have h2 : n % 256 < 256 := Int.emod_lt_of_pos _ (by omega)
    unfold digs
    rw [List.all_append, digs_bd k]
    simp [inB]
    omega
def putAt (b : List Int) (a : Nat) (ds : List Int) : List Int := b.take a ++ ds ++ b.drop (a + ds.length)
def backTo (b : List Int) (a : Nat) (ds : List Int) (i : Nat) : List Int := b.take (a + i) ++ ds.drop i ++ b.drop (a + ds.length)
def putN (b : List Int) (a k n : Int) : List Int := putAt b a.toNat (digs k.toNat n)
theorem putAt_len {b : List Int} {a : Nat} {ds : List Int} (h : a + ds.length ≤ b.length) : (putAt b a ds).length = b.length := by
  simp [putAt]
  omega
theorem backTo_end {b : List Int} {a : Nat} {ds : List Int} : backTo b a ds ds.length = b := by simp [backTo]
theorem backTo_zero {b : List Int} {a : Nat} {ds : List Int} : backTo b a ds 0 = putAt b a ds := by simp [backTo, putAt]
theorem backTo_len {b : List Int} {a : Nat} {ds : List Int} {i : Nat} (h : a + ds.length ≤ b.length) (hi : i ≤ ds.length) : (backTo b a ds i).length = b.length := by
  simp [backTo]
  omega
theorem backTo_step {b : List Int} {a : Nat} {ds : List Int} {i : Nat} (h : a + ds.length ≤ b.length) (hi : i < ds.length) : (backTo b a ds (i + 1)).set (a + i) ds[i] = backTo b a ds i := by
  have hd : ds.drop i = ds[i] :: ds.drop (i + 1) := List.drop_eq_getElem_cons hi
  have ht : b.take (a + (i + 1)) = b.take (a + i) ++ [b[a + i]'(by omega)] := by rw [← Nat.add_assoc, List.take_succ_eq_append_getElem (by omega)]
  unfold backTo
  rw [hd, ht, List.append_assoc, List.append_assoc, List.set_append_right _ _ (by simp; omega)]
  have e : a + i - (b.take (a + i)).length = 0 := by simp; omega
  rw [e]
  simp only [List.append_assoc, List.cons_append, List.nil_append, List.set_cons_zero]
theorem putAt_all {p : Int → Bool} {b : List Int} {a : Nat} {ds : List Int} (hb : b.all p = true) (hd : ds.all p = true) : (putAt b a ds).all p = true := by
  unfold putAt
  rw [List.all_append, List.all_append, hd, Bool.and_true, Bool.and_eq_true]
  exact ⟨List.all_eq_true.2 fun x hx => List.all_eq_true.1 hb x (List.mem_of_mem_take hx), List.all_eq_true.2 fun x hx => List.all_eq_true.1 hb x (List.mem_of_mem_drop hx)⟩
theorem putAt_get_out {b : List Int} {a : Nat} {ds : List Int} {i : Nat} (h : a + ds.length ≤ b.length) (hi : i < a ∨ a + ds.length ≤ i) : (putAt b a ds)[i]? = b[i]? := by
  unfold putAt
  rcases hi with hi | hi
  · rw [List.append_assoc, List.getElem?_append_left (by simp; omega), List.getElem?_take_of_lt hi]
  · rw [List.getElem?_append_right (by simp; omega), List.getElem?_drop]
    congr 1
    simp
    omega
theorem putAt_get_in {b : List Int} {a : Nat} {ds : List Int} {j : Nat} (h : a + ds.length ≤ b.length) (hj : j < ds.length) : (putAt b a ds)[a + j]? = ds[j]? := by
  unfold putAt
  rw [List.append_assoc, List.getElem?_append_right (by simp; omega), List.getElem?_append_left (by simp; omega)]
  congr 1
  simp
  omega
theorem loadTo_put : ∀ (k : Nat) (n : Int) (b : List Int) (a : Nat), (∀ j < k, b.getD (a + j) 0 = (digs k n).getD j 0) → 0 ≤ n → n < 256 ^ k → loadTo b a k = n
  | 0, n, _, _, _, h0, h1 => by simp at h1; simp [loadTo]; omega
  | k + 1, n, b, a, hb, h0, h1 => by
    have hl := digs_len k (n / 256)
    have h3 : n / 256 < 256 ^ k := by
      rw [Int.pow_succ] at h1
      exact Int.ediv_lt_of_lt_mul (by omega) h1
    have ih := loadTo_put k (n / 256) b a (fun j hj => by
      rw [hb j (by omega), digs_succ]
      simp [List.getD, List.getElem?_append_left, hl, hj]) (Int.ediv_nonneg h0 (by omega)) h3
    have hk := hb k (by omega)
    have e : (digs (k + 1) n).getD k 0 = n % 256 := by
      rw [digs_succ]
      simp [List.getD, hl]
    rw [e] at hk
    simp only [loadTo]
    rw [ih, hk]
    omega
end Go.Proofs.YtkmggglljkmjoaaGreat

/-
  Numbers as bytes: the contracts.
-/
namespace Go.Proofs.YtkmggglljkmjoaaGreat
open Go.RowKit
def FU8 : FT Int := { n := 1, enc := fun x => [.int .u8 x], dflt := 0, len := fun _ => rfl, one := by intro x u hu; simp at hu; subst hu; rfl, pos := by decide, small := by decide }
theorem OwL.form_pos {α : Type} {T : FT α} {e : TypeId} {w : World} {v : Value} {l : List α} (h : OwL T e w v l) (hl : 0 < l.length) : ∃ g cap, v = .slice (some ⟨g, 0, none⟩) l.length cap ∧ g < w.heap.size := by
  rcases h.form with ⟨_, rfl⟩ | ⟨g, cap, hv, hg, _, _⟩
  · simp at hl
  · exact ⟨g, cap, hv, hg⟩
theorem shr_step {n : Int} (_h0 : 0 ≤ n) (j : Nat) : n / 256 ^ j / 256 = n / 256 ^ (j + 1) := by
  rw [Int.ediv_ediv_of_nonneg (Int.pow_nonneg (by decide)), ← Int.pow_succ]
theorem RdL.ofI {w : World} {B : Nat} {v : Value} {l : List Int} (h : RdL FI w B v l) : ∃ A c, v = .slice A l.length c ∧ l.length ≤ 9223372036854775807 := by
  obtain ⟨A, c, hv, q1, q2, _⟩ := h
  exact ⟨A, c, hv, by unfold maxLen at q2; omega⟩
set_option maxRecDepth 100000 in
set_option maxHeartbeats 1000000 in
theorem l3Store_spec (w : World) (v : Value) (b : List Int) (a K : Nat) (n : Int) (h : OwL FI 3 w v b) (h1 : 1 ≤ K) (h7 : K ≤ 7) (h0 : 0 ≤ n) (hm0 : n ≤ 72057594037927936) (ha : a + K ≤ b.length) :
    Calls Tryz.prog 86 #[v, .int .i64 (a : Int), .int .i64 (K : Int), .int .i64 n] w fun e w' => e = .returned v ∧ OwL FI 3 w' v (putAt b a (digs K n)) ∧ Chg (foot1 v) w w' := by
  obtain ⟨A, c, hv, hlt0⟩ := h.rd'.ofI
  subst hv
  have hdl := digs_len K n
  have HN := Hid.mk_ h0
  have HD := Hid.mk_ (fun j (hj : j < K) => digs_at K n j hj)
  have hO : OwL FI 3 w (.slice A b.length c) (backTo b a (digs K n) K) := by
    have e := backTo_end (b := b) (a := a) (ds := digs K n)
    rw [hdl] at e
    rw [e]
    exact h
  have HL := Hid.mk_ (fun (i : Nat) (hi : i ≤ K) => backTo_len (b := b) (a := a) (ds := digs K n) (i := i) (by omega) (by omega))
  go_enter Tryz.func86, Tryz.ntmps86
  go_wp2
  go_loopw [3, 9] (fun u i wr => ∃ m : Nat, m ≤ K ∧ i = .int .i64 ((m : Int) - 1) ∧ u = .int .i64 (n / 256 ^ (K - m)) ∧ OwL FI 3 wr (.slice A b.length c) (backTo b a (digs K n) m) ∧ Chg (foot1 (.slice A b.length c)) w wr) (fun _ i _ => (intOf i + 1).toNat)
  case atStart => exact ⟨K, Nat.le_refl _, rfl, by simp, hO, Chg.refl _ _⟩
  case round =>
    obtain ⟨m, hm, rfl, rfl, ho, hc⟩ := hrel
    clear hO h
    have hbt := HL.out m hm
    cases m with
    | zero =>
      rw [backTo_zero] at ho
      go_wp2
      go_ret
      exact ⟨rfl, ho, hc⟩
    | succ q =>
      have hi0 : (((q + 1 : Nat) : Int) - 1) = (q : Int) := by omega
      rw [hi0]
      have hv0 : 0 ≤ n / 256 ^ (K - (q + 1)) := Int.ediv_nonneg HN.out (Int.pow_nonneg (by decide))
      have HV := Hid.mk_ (shr_step HN.out (K - (q + 1)))
      have HG := Hid.mk_ (HD.out (K - (q + 1)) (by omega))
      rw [show K - 1 - (K - (q + 1)) = q by omega] at HG
      have HT := Hid.mk_ (backTo_step (b := b) (a := a) (ds := digs K n) (i := q) (by omega) (by omega))
      have hv1 : n / 256 ^ (K - (q + 1)) ≤ 72057594037927936 := Int.le_trans (Int.ediv_le_self _ HN.out) hm0
      generalize n / 256 ^ (K - (q + 1)) = v at *
      obtain ⟨g, cap, hv, hg⟩ := ho.form_pos (by omega)
      injection hv with e1 e2 e3
      clear e2
      subst e1 e3
      have hz1 : a + q < (backTo b a (digs K n) (q + 1)).length := by rw [hbt]; omega
      have hf := ho.frozen_ (a + q)
      have hx := ho.cell_ (List.getElem?_eq_getElem hz1) FI.pos
      have HSET := Hid.mk_ (fun (y : Int) => ho.set_ (y := y) (u := .int .i64 y) (List.getElem?_eq_getElem hz1) FI.pos rfl)
      simp only [FI, Nat.mul_one, Nat.add_zero] at hx
      go_wp2
      have HE : OwL FI 3 (wr.setCell ⟨g, a + q, none⟩ (.int .i64 (v % 256))) (.slice (some ⟨g, 0, none⟩) b.length c) (backTo b a (digs K n) q) := by
        have p := HSET.out (v % 256)
        have r := HT.out
        obtain ⟨_, d⟩ := List.getElem?_eq_some_iff.1 HG.out
        rw [d] at r
        rw [r, show (a + q) * FI.n + 0 = a + q by simp [FI]] at p
        exact p
      have HV2 : Value.int .i64 (v / 256) = Value.int .i64 (n / 256 ^ (K - q)) := by
        rw [HV.out, show K - (q + 1) + 1 = K - q by omega]
      go_roundw
      case rel => exact ⟨q, by omega, rfl, HV2, HE, hc.set_ (by simp [foot1, Value.ownBlock]) _⟩
      case measure => simp [intOf]
def fixOk (n k : Int) : Bool := inB 1 7 k && decide (0 ≤ n) && decide (n < 256 ^ k.toNat)
theorem fixOk_yes {n k : Int} (h : fixOk n k = true) : 1 ≤ k ∧ k ≤ 7 ∧ 0 ≤ n ∧ n < 256 ^ k.toNat := by
  unfold fixOk at h
  simp only [Bool.and_eq_true, decide_eq_true_eq] at h
  obtain ⟨⟨a, b⟩, c⟩ := h
  exact ⟨(inB_iff.1 a).1, (inB_iff.1 a).2, b, c⟩
theorem pow_small {K : Nat} (h7 : K ≤ 7) : (256 : Int) ^ K ≤ 72057594037927936 := by
  have : K = 0 ∨ K = 1 ∨ K = 2 ∨ K = 3 ∨ K = 4 ∨ K = 5 ∨ K = 6 ∨ K = 7 := by omega
  rcases this with rfl | rfl | rfl | rfl | rfl | rfl | rfl | rfl <;> decide
theorem isEmpty_size {s : ByteArray} : s.toList.isEmpty = decide (s.size = 0) := by
  have h : s.toList.length = s.size := by rw [Lib.toList_data]; simp
  cases hx : s.toList with
  | nil => rw [hx] at h; simp at h; rw [← h]; rfl
  | cons a l => rw [hx] at h; simp at h; rw [← h]; simp
set_option maxRecDepth 100000 in
set_option maxHeartbeats 1000000 in
theorem FixedSpec_no (n k : Int) (w : World) (h : inB 1 7 k = false ∨ n < 0) : Calls Tryz.prog 85 #[.int .i64 n, .int .i64 k] w fun e w' => e = .returned (.string ⟨#[]⟩) ∧ w = w' := by
  by_cases hk : inB 1 7 k = true
  case neg =>
    have hk' : inB 1 7 k = false := (Bool.not_eq_true _).mp hk
    clear h hk
    go_enter Tryz.func85, Tryz.ntmps85
    go_wp2_with (go_at_call 102; refine (l1In_ct _ _ _ _).mono ?_; rw [hk']; rintro e w2 ⟨rfl, rfl⟩)
    go_ret
    exact ⟨rfl, rfl⟩
  have h0 : n < 0 := by
    rcases h with h | h
    · rw [hk] at h
      exact absurd h (by decide)
    · exact h
  clear h
  go_enter Tryz.func85, Tryz.ntmps85
  go_wp2_with (go_at_call 102; refine (l1In_ct _ _ _ _).mono ?_; rw [hk]; rintro e w2 ⟨rfl, rfl⟩)
  go_ret
  exact ⟨rfl, rfl⟩
theorem div_zero_iff {n : Int} (h0 : 0 ≤ n) (K : Nat) : (0 < n / 256 ^ K) ↔ 256 ^ K ≤ n := by
  have hp : (0 : Int) < 256 ^ K := Int.pow_pos (by decide)
  constructor
  · intro h
    apply Int.not_lt.1
    intro hh
    rw [Int.ediv_eq_zero_of_lt h0 hh] at h
    omega
  · intro h
    have : 1 * (256 : Int) ^ K ≤ n := by omega
    have := (Int.le_ediv_iff_mul_le hp).2 this
    omega
def FixedEnd (n : Int) (K : Nat) (w : World) (e : Ending) (w' : World) : Prop := (∃ s : ByteArray, e = .returned (.string s) ∧ s.toList.isEmpty = !(decide (n < 256 ^ K))) ∧ Below w.heap.size w w'
def FixedRel (n : Int) (K : Nat) (w : World) (v o i : Value) (wr : World) : Prop := ∃ (j : Nat) (s : ByteArray), j ≤ K ∧ i = .int .i64 j ∧ v = .int .i64 (n / 256 ^ j) ∧ o = .string s ∧ s.size = j ∧ Below w.heap.size w wr
set_option maxRecDepth 100000 in
set_option maxHeartbeats 1000000 in
theorem FixedSpec_go (n : Int) (K : Nat) (w : World) (h1 : 1 ≤ K) (h7 : K ≤ 7) (h0 : 0 ≤ n) (hm : n ≤ 9223372036854775807) : Calls Tryz.prog 85 #[.int .i64 n, .int .i64 (K : Int)] w (FixedEnd n K w) := by
  have hk : inB 1 7 (K : Int) = true := inB_iff.2 ⟨by omega, by omega⟩
  have HN := Hid.mk_ h0
  have HM := Hid.mk_ hm
  have HD := Hid.mk_ (div_zero_iff h0 K)
  clear hm
  go_enter Tryz.func85, Tryz.ntmps85
  go_wp2_with (go_at_call 102; refine (l1In_ct _ _ _ _).mono ?_; rw [hk]; rintro e w2 ⟨rfl, rfl⟩)
  go_loopw [0, 5, 6] (fun v o i wr => FixedRel n K w v o i wr) (fun _ _ i _ => K - (intOf i).toNat)
  case atStart => exact ⟨0, _, Nat.zero_le _, rfl, by simp, rfl, rfl, Below.refl _ _⟩
  case round =>
    obtain ⟨j, s, hj, rfl, rfl, rfl, hs0, hb⟩ := hrel
    have hs := Hid.mk_ hs0
    clear hs0
    have hv0 : 0 ≤ n / 256 ^ j := Int.ediv_nonneg HN.out (Int.pow_nonneg (by decide))
    have hv1 : n / 256 ^ j ≤ 9223372036854775807 := Int.le_trans (Int.ediv_le_self _ HN.out) HM.out
    have HV := Hid.mk_ (shr_step HN.out j)
    by_cases hlt : j < K
    · generalize n / 256 ^ j = v at *
      have hcv := fun (u : Int) => run_convert_bytes_arg (P := Tryz.prog) (w := wr.alloc (.cells #[.int .u8 u] 5)) 22 5 Tryz.underlying22 Tryz.underlying5 wr.heap.size 0 1 1 [u] rfl (fun i hi => by
        obtain rfl : i = 0 := by omega
        simp [go_sem]) 9 Tryz.underlying9
      have hs1 : (strOfNums [v % 256]).size ≤ 1 := by rw [strOfNums_size]; exact Nat.le_refl _
      have hs2 : s.size ≤ 7 := by rw [hs.out]; omega
      go_wp2
      go_roundw
      case rel => exact ⟨j + 1, _, by omega, by go_num, by rw [HV.out], rfl, by rw [ByteArray.size_append, strOfNums_size, hs.out]; simp; omega, hb.alloc hb.size _⟩
      case measure => simp [intOf]; omega
    · obtain rfl : j = K := by omega
      have HD2 := Hid.mk_ (HD.out)
      by_cases hp : 0 < n / 256 ^ j
      · have HX : Hid (decide (n < 256 ^ j) = false) := decide_eq_false (Int.not_lt.2 (HD2.out.1 hp))
        generalize n / 256 ^ j = v at *
        go_wp2
        go_ret
        exact ⟨⟨_, rfl, by rw [HX.out, isEmpty_size]; rfl⟩, hb⟩
      · have HX : Hid (decide (n < 256 ^ j) = true) := decide_eq_true (Classical.byContradiction (fun hh => hp (HD2.out.2 (Int.not_lt.1 hh))))
        generalize n / 256 ^ j = v at *
        go_wp2
        go_ret
        exact ⟨⟨_, rfl, by rw [HX.out, isEmpty_size, hs.out]; simp; omega⟩, hb⟩
end Go.Proofs.YtkmggglljkmjoaaGreat

/-
  What is stored through a handle: the contracts.
-/
namespace Go.Proofs.YtkmggglljkmjoaaGreat
open Go.RowKit

theorem HMem.bytes_foot {H : HMem} {g : Nat} (h : g ∈ foot1 H.Heap.Bytes.val) : g ∈ H.foot := HMem.mem_foot.2 (.inl (HHeap.mem_foot.2 (.inl h)))
theorem OwMem.setBytes {w w' : World} {H : HMem} {x : Mem} {b : List Int} (h : OwMem w H x) (hb : OwL FI 3 w' H.Heap.Bytes.val b) (hc : Chg (foot1 H.Heap.Bytes.val) w w') : OwMem w' H { x with Heap := { x.Heap with Bytes := b } } :=
  ⟨⟨hb, h.Heap.Class.chg hc (fun g hg hm => h.Heap.d01 g hm hg), h.Heap.d01⟩, h.Lists.chg hc (fun g hg hm => h.d01 g (HHeap.mem_foot.2 (.inl hm)) hg), h.d01⟩
def storeInP (m : Mem) (h a k n : Int) : Mem × Int := if (spotB m h a k).2 ≠ 0 then (m, (spotB m h a k).2) else if fixOk n k = false then (m, 1) else ({ m with Heap := { m.Heap with Bytes := putN m.Heap.Bytes (spotB m h a k).1 k n } }, 0)
theorem store_no1 {m : Mem} {h a k n : Int} (c : (spotB m h a k).2 ≠ 0) : storeInP m h a k n = (m, (spotB m h a k).2) := if_pos c
theorem store_no2 {m : Mem} {h a k n : Int} (c : (spotB m h a k).2 = 0) (f : fixOk n k = false) : storeInP m h a k n = (m, 1) := by
  unfold storeInP
  rw [if_neg (by rw [c]; decide), if_pos f]
theorem store_yes {m : Mem} {h a k n : Int} (c : (spotB m h a k).2 = 0) (f : fixOk n k = true) : storeInP m h a k n = ({ m with Heap := { m.Heap with Bytes := putN m.Heap.Bytes (spotB m h a k).1 k n } }, 0) := by
  unfold storeInP
  rw [if_neg (by rw [c]; decide), if_neg (by rw [f]; decide)]

end Go.Proofs.YtkmggglljkmjoaaGreat

/-
  Generations set: the contract.
-/
namespace Go.Proofs.YtkmggglljkmjoaaGreat
open Go.RowKit
theorem flatMap_set_same {svs : List SV} {i : Nat} {s s' : SV} (hi : svs[i]? = some s) (hf : foot1 s'.val = foot1 s.val) : ((svs.set i s').flatMap fun s => foot1 s.val) = svs.flatMap fun s => foot1 s.val := by
  induction svs generalizing i with
  | nil => simp at hi
  | cons x xs ih =>
    cases i with
    | zero =>
      simp only [List.getElem?_cons_zero, Option.some.injEq] at hi
      subst hi
      simp [hf]
    | succ i =>
      simp only [List.getElem?_cons_succ] at hi
      simp only [List.set_cons_succ, List.flatMap_cons, ih hi]

/-- A row has been appended to, or changed in place, and its head is stored anew. -/
theorem OwLL.app_row {α : Type} {T : FT α} {e E : TypeId} {w w' : World} {g n c : Nat} {svs : List SV} {ll : List (List α)} (h : OwLL T e E w (.slice (some ⟨g, 0, none⟩) n c) svs ll) {i : Nat} {s s' : SV} {l' : List α} (hi : svs[i]? = some s)
    (hl : OwL T e w' s'.val l') (hg : w.grownBy w' s.val.ownBlock) (hat : s'.val.ownBlock = s.val.ownBlock ∨ s'.val.ownBlock = some w.heap.size) :
    OwLL T e E (w'.setCell ⟨g, i, none⟩ s'.val) (.slice (some ⟨g, 0, none⟩) n c) (svs.set i s') (ll.set i l') := by
  have hs : s ∈ svs := List.mem_of_getElem? hi
  have hc := Chg.of_grown hg
  have hn := h.nodup
  have hlt := h.lt
  have hgz : g < w.heap.size := hlt g (mem_foot2.2 (.inl rfl))
  unfold foot2 at hn
  rw [List.nodup_append] at hn
  obtain ⟨hn1, hn2, hn3⟩ := hn
  have hgs : ∀ s' ∈ svs, s'.val.ownBlock ≠ some g := fun s' hs' he => hn3 g (mem_foot1.2 rfl) g (List.mem_flatMap.2 ⟨s', hs', mem_foot1.2 he⟩) rfl
  have hg' : s'.val.ownBlock ≠ some g := by
    rcases hat with h1 | h1
    · rw [h1]; exact hgs s hs
    · rw [h1]; intro he; injection he with he; omega
  have hkeep : ∀ b, b ≠ g → (w'.setCell ⟨g, i, none⟩ s'.val).heap[b]? = w'.heap[b]? := fun b hb => Below.heap_setCell _ _ _ _ hb
  have hik := (List.getElem?_eq_some_iff.1 hi).1
  refine ⟨by rw [List.length_set, List.length_set]; exact h.len, ?_, fun k s1 l1 hk hl1 => ?_, ?_⟩
  · have ho := h.outer.chg hc (fun b hb hm => hn3 b hb b (List.mem_flatMap.2 ⟨s, hs, hm⟩) rfl)
    have := ho.set_ (j := 0) (y := s') (u := .slice s'.a s'.len s'.cap) hi (by decide) rfl
    rw [show i * FS.n + 0 = i by simp [FS]] at this
    exact this
  · by_cases hki : i = k
    · subst hki
      rw [List.getElem?_set_self hik] at hk
      rw [List.getElem?_set_self (by rw [← h.len]; exact hik)] at hl1
      cases hk
      cases hl1
      exact hl.keep fun b hb => hkeep b fun e => hg' (by rw [hb, e])
    · rw [List.getElem?_set_ne hki] at hk hl1
      have ho := h.inner k s1 l1 hk hl1
      refine (ho.chg hc (fun b hb hm => nodup_rows hn2 hi hk hki (mem_foot1.1 hm) (mem_foot1.1 hb))).keep fun b hb => hkeep b fun e => hgs s1 (List.mem_of_getElem? hk) (by rw [hb, e])
  · have hfr : s'.val.ownBlock = some w.heap.size → ∀ b ∈ foot1 s'.val, b ∉ foot2 (.slice (some ⟨g, 0, none⟩) n c) svs := by
      intro h1 b hb hm
      rw [mem_foot1, h1] at hb
      injection hb with hb
      have := hlt b hm
      omega
    unfold foot2
    rw [List.nodup_append]
    rcases hat with h1 | h1
    · have hff : foot1 s'.val = foot1 s.val := by unfold foot1; rw [h1]
      rw [flatMap_set_same hi hff]
      exact ⟨hn1, hn2, hn3⟩
    · refine ⟨hn1, nodup_set hn2 (fun b hb hm => hfr h1 b hb (List.mem_append.2 (.inr hm))), fun a ha b hb e => ?_⟩
      subst e
      obtain ⟨y, hy, hm⟩ := List.mem_flatMap.1 hb
      rcases List.mem_or_eq_of_mem_set hy with hy | rfl
      · exact hn3 a ha a (List.mem_flatMap.2 ⟨y, hy, hm⟩) rfl
      · exact hfr h1 a hm (List.mem_append.2 (.inl ha))

theorem szLL_set_le {α : Type} (ll : List (List α)) (i : Nat) (l : List α) : szLL (ll.set i l) ≤ szLL ll + l.length := by
  have : ∀ (ll : List (List α)) i, ((ll.set i l).map List.length).sum ≤ (ll.map List.length).sum + l.length := by
    intro ll
    induction ll with
    | nil => intro i; simp
    | cons x xs ih =>
      intro i
      cases i with
      | zero => simp; omega
      | succ i => have := ih i; simp at this ⊢; omega
  have := this ll i
  unfold szLL
  simp only [List.length_set]
  omega

theorem OwLL.at_form {α : Type} {T : FT α} {e E : TypeId} {w : World} {v : Value} {svs : List SV} {ll : List (List α)} (h : OwLL T e E w v svs ll) (hl : 0 < ll.length) : ∃ g cap, v = .slice (some ⟨g, 0, none⟩) ll.length cap ∧ g < w.heap.size := by
  have := h.outer.form_pos (by rw [h.len]; exact hl)
  rwa [h.len] at this

theorem OwLL.head_ne {α : Type} {T : FT α} {e E : TypeId} {w : World} {g n c : Nat} {svs : List SV} {ll : List (List α)} (h : OwLL T e E w (.slice (some ⟨g, 0, none⟩) n c) svs ll) {i : Nat} {s : SV} (hi : svs[i]? = some s) : g ∉ foot1 s.val := by
  have hn := h.nodup
  unfold foot2 at hn
  rw [List.nodup_append] at hn
  exact fun hm => hn.2.2 g (mem_foot1.2 rfl) g (List.mem_flatMap.2 ⟨s, List.mem_of_getElem? hi, hm⟩) rfl

theorem Box.ad {w : World} {g : Nat} {vs : List Value} (b : Box w g vs) : ∃ a, a = g ∧ Box w a vs := ⟨g, rfl, b⟩
def giveL (x : Lists) (k c : Nat) (s : Int) : Lists := if (x.Own.getD k []).length < 2 then { x with Own := x.Own.set k (x.Own.getD k [] ++ [s]) } else { x with Global := x.Global.set c (x.Global.getD c [] ++ [s]) }
def setGenB (h : Heap) (s g : Int) : Heap := { h with Bytes := putAt h.Bytes (genAt s (classInB h s)).toNat (digs 4 g) }
def freedM (m : Mem) (w : Nat) (s : Int) : Mem := { Heap := setGenB m.Heap s (genInB m.Heap s + 1), Lists := if genInB m.Heap s + 1 ≤ 6 then giveL m.Lists (w * 3 + (classInB m.Heap s).toNat) (classInB m.Heap s).toNat s else m.Lists }
def freeP (m : Mem) (w h : Int) : Mem × Int := if memOkB m = false ∨ inB 0 2 w = false then (m, 1) else if liveB m h = false then (m, 4) else (freedM m w.toNat (h % 32), 0)
theorem free_no1 {m : Mem} {w h : Int} (c : memOkB m = false ∨ inB 0 2 w = false) : freeP m w h = (m, 1) := if_pos c
theorem free_no2 {m : Mem} {w h : Int} (c1 : memOkB m = true) (c2 : inB 0 2 w = true) (c3 : liveB m h = false) : freeP m w h = (m, 4) := by
  unfold freeP
  rw [if_neg (by rw [c1, c2]; decide), if_pos c3]
theorem free_yes {m : Mem} {w h : Int} (c1 : memOkB m = true) (c2 : inB 0 2 w = true) (c3 : liveB m h = true) : freeP m w h = (freedM m w.toNat (h % 32), 0) := by
  unfold freeP
  rw [if_neg (by rw [c1, c2]; decide), if_neg (by rw [c3]; decide)]
theorem HHeap.bytes_foot {H : HHeap} {g : Nat} (h : g ∈ foot1 H.Bytes.val) : g ∈ H.foot := HHeap.mem_foot.2 (.inl h)
theorem OwHeap.setBytes {w w' : World} {H : HHeap} {x : Heap} {b : List Int} (h : OwHeap w H x) (hb : OwL FI 3 w' H.Bytes.val b) (hc : Chg (foot1 H.Bytes.val) w w') : OwHeap w' H { x with Bytes := b } :=
  ⟨hb, h.Class.chg hc (fun g hg hm => h.d01 g hm hg), h.d01⟩
end Go.Proofs.YtkmggglljkmjoaaGreat

