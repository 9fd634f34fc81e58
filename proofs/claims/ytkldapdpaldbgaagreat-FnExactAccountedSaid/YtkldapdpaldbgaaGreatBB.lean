/-
  Memories: do the slots on a list fit to their class?
-/
import Derived.Test.YtkldapdpaldbgaaGreatT
import Derived.Test.YtkldapdpaldbgaaGreatL
import Derived.Deep.QuietTactic
import Derived.BigQuiet
import Derived.Deep.LoopGhost
import Derived.Deep.RegionHeld3
import Derived.Test.YtkldapdpaldbgaaGreatN
import Derived.Test.YtkldapdpaldbgaaGreatA
import Derived.WalkSpells
import Derived.Laws.Cover3
import Derived.Test.YtkldapdpaldbgaaGreatBA
namespace Go.Proofs.YtkldapdpaldbgaaGreat
open Go.RowKit
set_option maxRecDepth 100000 in
set_option maxHeartbeats 2000000 in
theorem listFits_impl (w : World) (H : HHeap) (x : Heap) (A : Option Addr) (cap : Nat) (l : List Int) (c : Int) (h : RdHeap w w.heap.size H x) (hs : shapeB x = true) (hr : RdL FI w w.heap.size (.slice A l.length cap) l) :
    Calls Tryz.prog 165 #[.agg #[.slice H.Bytes.a H.Bytes.len H.Bytes.cap, .slice H.Class.a H.Class.len H.Class.cap], .agg #[.slice A l.length cap], .int .i64 c] w fun e w' => e = .returned (.bool (l.all (fitsB x c))) ∧ Below w.heap.size w w' := by
  have hlt0 := (RdL.len_ hr).2
  have ba0 : Box ((w.alloc (.cells #[.slice H.Bytes.a H.Bytes.len H.Bytes.cap, .slice H.Class.a H.Class.len H.Class.cap] 26)).alloc (.cells #[.slice A l.length cap] 163)) w.heap.size [.slice H.Bytes.a H.Bytes.len H.Bytes.cap, .slice H.Class.a H.Class.len H.Class.cap] := (Box.new w #[.slice H.Bytes.a H.Bytes.len H.Bytes.cap, .slice H.Class.a H.Class.len H.Class.cap] _).alloc _
  have hB0 : Below w.heap.size w ((w.alloc (.cells #[.slice H.Bytes.a H.Bytes.len H.Bytes.cap, .slice H.Class.a H.Class.len H.Class.cap] 26)).alloc (.cells #[.slice A l.length cap] 163)) := by repeat (first | exact Below.refl _ _ | refine Below.alloc ?_ (by simp <;> omega) _ | refine below_grow_of ?_ (by simp <;> omega) _ _ | refine Below.drew ?_ | refine below_drewN ?_ _)
  go_enter Tryz.func165, Tryz.ntmps165
  go_wp2
  generalize ((w.alloc (.cells #[.slice H.Bytes.a H.Bytes.len H.Bytes.cap, .slice H.Class.a H.Class.len H.Class.cap] 26)).alloc (.cells #[.slice A l.length cap] 163)) = w0 at ba0 hB0
  go_loopw [8, 12] (fun _ i wr => ∃ k : Nat, k ≤ l.length ∧ i = .int .i64 k ∧ Hid ((l.take k).all (fitsB x c) = true) ∧ Below w.heap.size w wr ∧ Box wr w.heap.size [.slice H.Bytes.a H.Bytes.len H.Bytes.cap, .slice H.Class.a H.Class.len H.Class.cap]) (fun _ i _ => l.length - (intOf i).toNat)
  case atStart => exact ⟨0, Nat.zero_le _, rfl, rfl, hB0, ba0⟩
  case round =>
    obtain ⟨i, hi, rfl, HT, hb, ba⟩ := hrel
    clear ba0 hB0
    by_cases hlt : i < l.length
    · obtain ⟨g, off, cap', he, hg, _, _, hc⟩ := (hr.below hb).at_ (List.getElem?_eq_getElem hlt)
      injection he with he1 he2 he3
      clear he2
      subst he1 he3
      have p0 : wr.cell? ⟨g, off + i, none⟩ = some (.int .i64 l[i]) := by simpa [FI] using hc 0 _ rfl
      clear hc
      have qa0 := ba.cell 0 _ rfl
      have qa1 := ba.cell 1 _ rfl
      have HF := Hid.mk_ (show fitsB x c l[i] = ((classInB x l[i] == c) && decide (genInB x l[i] ≤ 6)) from rfl)
      have HY := Hid.mk_ (fun hp => all_step (p := fitsB x c) hlt HT.out hp)
      have HZ := Hid.mk_ (fun hp => all_no (p := fitsB x c) hlt hp)
      generalize l[i] = s at p0 HF HY HZ
      go_wp2_with fail
      refine (classIn_impl _ H x s (rdHeap_up h hb) hs).mono ?_
      rintro e w1 ⟨rfl, hb1⟩
      have ba1 := ba.below hb1
      have hB1 := hb.trans (hb1.mono hb.size)
      clear hb1 p0 qa0 qa1 ba hb
      by_cases k1 : classInB x s = c
      case neg =>
        have k1' : (classInB x s != c) = true := by simpa using k1
        have HN := Hid.mk_ (HZ.out (by rw [HF.out, show (classInB x s == c) = false by simpa using k1]; rfl))
        clear k1
        go_wp2
        go_ret
        exact ⟨ret_bool HN.out.symm, hB1⟩
      have k1' : (classInB x s != c) = false := by simpa using k1
      have K1 := Hid.mk_ k1
      clear k1
      have qa0 := ba1.cell 0 _ rfl
      have qa1 := ba1.cell 1 _ rfl
      go_wp2_with fail
      refine (GenIn_impl _ H x s (rdHeap_up h hB1) hs).mono ?_
      rintro e w2 ⟨rfl, hb2⟩
      have ba2 := ba1.below hb2
      have hB2 := hB1.trans (hb2.mono hB1.size)
      clear hb2 qa0 qa1 ba1 hB1
      by_cases k2 : genInB x s ≤ 6
      · have k2' : ¬ 6 < genInB x s := by omega
        have HN := Hid.mk_ (HY.out (by rw [HF.out, K1.out]; simp [k2]))
        go_wp2
        go_roundw
        case rel => exact ⟨i + 1, by omega, by go_num, HN, hB2, ba2⟩
        case measure => simp [intOf]; omega
      · have k2' : 6 < genInB x s := by omega
        have HN := Hid.mk_ (HZ.out (by rw [HF.out, K1.out]; simp [k2]))
        clear k2
        go_wp2
        go_ret
        exact ⟨ret_bool HN.out.symm, hB2⟩
    · obtain rfl : i = l.length := by omega
      have HN := Hid.mk_ (show l.all (fitsB x c) = true by have a := HT.out; rwa [List.take_length] at a)
      go_wp2
      go_ret
      exact ⟨ret_bool HN.out.symm, hb⟩
theorem held_up {B g0 g k : Nat} {v0 v1 u : Value} {W w w' : World} (h : w.cell? ⟨g0, 0, none⟩ = some v0 ∧ w.cell? ⟨g0, 1, none⟩ = some v1 ∧ w.cell? ⟨g, k, none⟩ = some u ∧ g0 < w.heap.size ∧ g < w.heap.size ∧ Below B W w) (hb : Below w.heap.size w w') (hB : B ≤ g0) :
    w'.cell? ⟨g0, 0, none⟩ = some v0 ∧ w'.cell? ⟨g0, 1, none⟩ = some v1 ∧ w'.cell? ⟨g, k, none⟩ = some u ∧ g0 < w'.heap.size ∧ g < w'.heap.size ∧ Below B W w' := by
  obtain ⟨a, b, c, d, e, f⟩ := h
  exact ⟨cell_up hb d a, cell_up hb d b, cell_up hb e c, Nat.lt_of_lt_of_le d hb.size, Nat.lt_of_lt_of_le e hb.size, f.trans (hb.mono (by omega))⟩
set_option maxRecDepth 100000 in
set_option maxHeartbeats 2000000 in
theorem l9Listed_spec (w : World) (H : HHeap) (x : Heap) (A : Option Addr) (cap : Nat) (l : List Int) (c : Int) (h : RdHeap w w.heap.size H x) (hs : shapeB x = true) (hr : RdL FI w w.heap.size (.slice A l.length cap) l) (hc0 : 0 ≤ c) :
    Calls Tryz.prog 128 #[.agg #[.slice H.Bytes.a H.Bytes.len H.Bytes.cap, .slice H.Class.a H.Class.len H.Class.cap], .slice A l.length cap, .int .i64 c] w fun e w' => e = .returned (.bool (l.all (fitsB x c))) ∧ Below w.heap.size w w' := by
  have hlt0 := (RdL.len_ hr).2
  have ba0 : Box (w.alloc (.cells #[.slice H.Bytes.a H.Bytes.len H.Bytes.cap, .slice H.Class.a H.Class.len H.Class.cap] 26)) w.heap.size [.slice H.Bytes.a H.Bytes.len H.Bytes.cap, .slice H.Class.a H.Class.len H.Class.cap] := Box.new w #[.slice H.Bytes.a H.Bytes.len H.Bytes.cap, .slice H.Class.a H.Class.len H.Class.cap] _
  have hB0 : Below w.heap.size w (w.alloc (.cells #[.slice H.Bytes.a H.Bytes.len H.Bytes.cap, .slice H.Class.a H.Class.len H.Class.cap] 26)) := by repeat (first | exact Below.refl _ _ | refine Below.alloc ?_ (by simp <;> omega) _ | refine below_grow_of ?_ (by simp <;> omega) _ _ | refine Below.drew ?_ | refine below_drewN ?_ _)
  go_enter Tryz.func128, Tryz.ntmps128
  go_wp2
  generalize (w.alloc (.cells #[.slice H.Bytes.a H.Bytes.len H.Bytes.cap, .slice H.Class.a H.Class.len H.Class.cap] 26)) = w0 at ba0 hB0
  go_loopw [7] (fun i wr => ∃ k : Nat, k ≤ l.length ∧ i = .int .i64 k ∧ Hid ((l.take k).all (fitsB x c) = true) ∧ Below w.heap.size w wr ∧ wr.cell? ⟨w.heap.size, 0, none⟩ = some (.slice H.Bytes.a H.Bytes.len H.Bytes.cap) ∧ wr.cell? ⟨w.heap.size, 1, none⟩ = some (.slice H.Class.a H.Class.len H.Class.cap) ∧ w.heap.size < wr.heap.size) (fun i _ => l.length - (intOf i).toNat)
  case atStart => exact ⟨0, Nat.zero_le _, rfl, rfl, hB0, ba0.cell 0 _ rfl, ba0.cell 1 _ rfl, ba0.lt⟩
  case round =>
    obtain ⟨i, hi, rfl, HT, hb, qa0, qa1, zl⟩ := hrel
    clear ba0 hB0
    by_cases hlt : i < l.length
    · obtain ⟨g, off, cap', he, hg, _, _, hc⟩ := (hr.below hb).at_ (List.getElem?_eq_getElem hlt)
      injection he with he1 he2 he3
      clear he2
      subst he1 he3
      have p0 : wr.cell? ⟨g, off + i, none⟩ = some (.int .i64 l[i]) := by simpa [FI] using hc 0 _ rfl
      clear hc
      have HF := Hid.mk_ (show fitsB x c l[i] = ((classInB x l[i] == c) && decide (genInB x l[i] ≤ 6)) from rfl)
      have HY := Hid.mk_ (fun hp => all_step (p := fitsB x c) hlt HT.out hp)
      have HZ := Hid.mk_ (fun hp => all_no (p := fitsB x c) hlt hp)
      generalize l[i] = s at p0 HF HY HZ
      clear hr
      by_cases k1 : classInB x s = c
      case neg =>
        have k1' : (classInB x s != c) = true := by simpa using k1
        have HN := Hid.mk_ (HZ.out (by rw [HF.out, show (classInB x s == c) = false by simpa using k1]; rfl))
        have hq1 := fun (W : World) (hW : RdHeap W W.heap.size H x) => l7Class_spec W H x s hW hs
        generalize classInB x s = cl at k1 k1' hq1
        clear k1 HF HY HZ
        go_wp2
        obtain ⟨wz, hwz⟩ : ∃ wz : World, wz = wr := ⟨_, rfl⟩
        first | (go_region_with (first | (go_at_call 104; refine (hq1 _ (rdHeap_up h (by first | exact hb.drew | exact below_drewN hb _ | exact hb))).mono ?_; rintro e w1 ⟨rfl, hb1⟩; obtain ⟨os1, d1, rfl⟩ := below_grows hb1; clear hb1))) | fail
        all_goals go_wp2
        all_goals go_ret
        all_goals exact ⟨ret_bool HN.out.symm, by first | exact below_grow_of hb (by omega) _ _ | repeat (first | exact Below.refl _ _ | refine Below.alloc ?_ (by simp <;> omega) _ | refine below_grow_of ?_ (by simp <;> omega) _ _ | refine Below.drew ?_ | refine below_drewN ?_ _)⟩
      have HN0 := Hid.mk_ k1
      have hgw : g < wr.heap.size := Nat.lt_of_lt_of_le hg hb.size
      have k1' : (classInB x s != c) = false := by simpa using k1
      have hq1 := fun (W : World) (hW : RdHeap W W.heap.size H x) => l7Class_spec W H x s hW hs
      have hq2 := fun (W : World) (hW : RdHeap W W.heap.size H x) => l7Gen_spec W H x s hW hs (by omega)
      rw [k1] at hq1
      clear k1'
      by_cases k2 : genInB x s ≤ 6
      · have HN := Hid.mk_ (HY.out (by rw [HF.out, HN0.out]; simp [k2]))
        have k2' : decide (6 < genInB x s) = false := by simp; omega
        generalize genInB x s = gn at k2 k2' hq2
        clear k1 k2 HF HY HZ HN0
        go_wp2
        go_region_held3 (fun w' => w'.cell? ⟨w.heap.size, 0, none⟩ = some (.slice H.Bytes.a H.Bytes.len H.Bytes.cap) ∧ w'.cell? ⟨w.heap.size, 1, none⟩ = some (.slice H.Class.a H.Class.len H.Class.cap) ∧ w'.cell? ⟨g, off + i, none⟩ = some (.int .i64 s) ∧ w.heap.size < w'.heap.size ∧ g < w'.heap.size ∧ Below w.heap.size w w') (first | (go_keep; done) | exact held_up (by assumption) (by assumption) (Nat.le_refl _) | exact ⟨by assumption, by assumption, by assumption, by assumption, by assumption, Below.drew (by assumption)⟩) (first | (go_at_call 104; refine (hq1 _ (rdHeap_up h (by go_split_ands; assumption))).mono ?_; rintro e w1 ⟨rfl, hb1⟩) | (go_at_call 133; refine (hq2 _ (rdHeap_up h (by go_split_ands; assumption))).mono ?_; rintro e w1 ⟨rfl, hb1⟩))
        go_wp2
        go_roundw
        case rel => exact ⟨i + 1, by omega, by go_num, HN, by first | assumption | (go_split_ands; assumption), by first | assumption | (go_split_ands; assumption), by first | assumption | (go_split_ands; assumption), by first | assumption | (go_split_ands; assumption)⟩
        case measure => simp [intOf]; omega
      · have HN := Hid.mk_ (HZ.out (by rw [HF.out, HN0.out]; simp [k2]))
        have k2' : decide (6 < genInB x s) = true := by simp; omega
        generalize genInB x s = gn at k2 k2' hq2
        clear k1 k2 HF HY HZ HN0
        go_wp2
        go_region_held3 (fun w' => w'.cell? ⟨w.heap.size, 0, none⟩ = some (.slice H.Bytes.a H.Bytes.len H.Bytes.cap) ∧ w'.cell? ⟨w.heap.size, 1, none⟩ = some (.slice H.Class.a H.Class.len H.Class.cap) ∧ w'.cell? ⟨g, off + i, none⟩ = some (.int .i64 s) ∧ w.heap.size < w'.heap.size ∧ g < w'.heap.size ∧ Below w.heap.size w w') (first | (go_keep; done) | exact held_up (by assumption) (by assumption) (Nat.le_refl _) | exact ⟨by assumption, by assumption, by assumption, by assumption, by assumption, Below.drew (by assumption)⟩) (first | (go_at_call 104; refine (hq1 _ (rdHeap_up h (by go_split_ands; assumption))).mono ?_; rintro e w1 ⟨rfl, hb1⟩) | (go_at_call 133; refine (hq2 _ (rdHeap_up h (by go_split_ands; assumption))).mono ?_; rintro e w1 ⟨rfl, hb1⟩))
        go_wp2
        go_ret
        exact ⟨ret_bool HN.out.symm, by first | assumption | (go_split_ands; assumption)⟩
    · obtain rfl : i = l.length := by omega
      have HN := Hid.mk_ (show l.all (fitsB x c) = true by have a := HT.out; rwa [List.take_length] at a)
      go_wp2
      go_ret
      exact ⟨ret_bool HN.out.symm, hb⟩
end Go.Proofs.YtkldapdpaldbgaaGreat
