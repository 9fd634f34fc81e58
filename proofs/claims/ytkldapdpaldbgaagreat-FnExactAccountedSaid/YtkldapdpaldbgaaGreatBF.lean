/-
  Memories: live handles.
-/
import Derived.Test.YtkldapdpaldbgaaGreatT
import Derived.Test.YtkldapdpaldbgaaGreatL
import Derived.Deep.QuietTactic
import Derived.BigQuiet
import Derived.Deep.LoopGhost
import Derived.Deep.RegionHeld3
import Derived.Test.YtkldapdpaldbgaaGreatN
import Derived.Test.YtkldapdpaldbgaaGreatA
import Derived.WalkSpells
import Derived.Laws.Cover3
import Derived.Test.YtkldapdpaldbgaaGreatBE
namespace Go.Proofs.YtkldapdpaldbgaaGreat
open Go.RowKit
theorem held_upM {B g0 : Nat} {v0 v1 v2 v3 : Value} {W w w' : World} (h : w.cell? ⟨g0, 0, none⟩ = some v0 ∧ w.cell? ⟨g0, 1, none⟩ = some v1 ∧ w.cell? ⟨g0, 2, none⟩ = some v2 ∧ w.cell? ⟨g0, 3, none⟩ = some v3 ∧ g0 < w.heap.size ∧ Below B W w) (hb : Below w.heap.size w w') (hB : B ≤ g0) :
    w'.cell? ⟨g0, 0, none⟩ = some v0 ∧ w'.cell? ⟨g0, 1, none⟩ = some v1 ∧ w'.cell? ⟨g0, 2, none⟩ = some v2 ∧ w'.cell? ⟨g0, 3, none⟩ = some v3 ∧ g0 < w'.heap.size ∧ Below B W w' := by
  obtain ⟨a, b, a', b', d, f⟩ := h
  exact ⟨cell_up hb d a, cell_up hb d b, cell_up hb d a', cell_up hb d b', Nat.lt_of_lt_of_le d hb.size, f.trans (hb.mono (by omega))⟩
set_option maxRecDepth 100000 in
set_option maxHeartbeats 4000000 in
theorem isLive_impl (w : World) (H : HMem) (x : Mem) (s : Int) (h : RdMem w w.heap.size H x) (hs : shapeB x.Heap = true) :
    Calls Tryz.prog 73 #[.agg #[.slice H.Heap.Bytes.a H.Heap.Bytes.len H.Heap.Bytes.cap, .slice H.Heap.Class.a H.Heap.Class.len H.Heap.Class.cap, .slice H.Lists.Global.a H.Lists.Global.len H.Lists.Global.cap, .slice H.Lists.Own.a H.Lists.Own.len H.Lists.Own.cap], .int .i64 s] w fun e w' => e = .returned (.bool (liveB x s)) ∧ Below w.heap.size w w' := by
  have ba0 : Box (w.alloc (.cells #[.slice H.Heap.Bytes.a H.Heap.Bytes.len H.Heap.Bytes.cap, .slice H.Heap.Class.a H.Heap.Class.len H.Heap.Class.cap, .slice H.Lists.Global.a H.Lists.Global.len H.Lists.Global.cap, .slice H.Lists.Own.a H.Lists.Own.len H.Lists.Own.cap] 31)) w.heap.size [.slice H.Heap.Bytes.a H.Heap.Bytes.len H.Heap.Bytes.cap, .slice H.Heap.Class.a H.Heap.Class.len H.Heap.Class.cap, .slice H.Lists.Global.a H.Lists.Global.len H.Lists.Global.cap, .slice H.Lists.Own.a H.Lists.Own.len H.Lists.Own.cap] := Box.new w #[.slice H.Heap.Bytes.a H.Heap.Bytes.len H.Heap.Bytes.cap, .slice H.Heap.Class.a H.Heap.Class.len H.Heap.Class.cap, .slice H.Lists.Global.a H.Lists.Global.len H.Lists.Global.cap, .slice H.Lists.Own.a H.Lists.Own.len H.Lists.Own.cap] _
  have hB0 : Below w.heap.size w (w.alloc (.cells #[.slice H.Heap.Bytes.a H.Heap.Bytes.len H.Heap.Bytes.cap, .slice H.Heap.Class.a H.Heap.Class.len H.Heap.Class.cap, .slice H.Lists.Global.a H.Lists.Global.len H.Lists.Global.cap, .slice H.Lists.Own.a H.Lists.Own.len H.Lists.Own.cap] 31)) := by repeat (first | exact Below.refl _ _ | refine Below.alloc ?_ (by simp <;> omega) _ | refine below_grow_of ?_ (by simp <;> omega) _ _ | refine Below.drew ?_ | refine below_drewN ?_ _)
  have HE := Hid.mk_ (show liveB x s = (handleOkB s && (stateB x (s % 32) == 3) && (genInB x.Heap (s % 32) == s / 32)) from rfl)
  have HS := Hid.mk_ hs
  clear hs
  go_enter Tryz.func73, Tryz.ntmps73
  by_cases k1 : handleOkB s = true
  case neg =>
    have k1' : handleOkB s = false := (Bool.not_eq_true _).mp k1
    have HN := Hid.mk_ (show liveB x s = false by rw [HE.out, k1']; rfl)
    clear k1
    go_wp2_with (go_at_call 148; refine (HandleOk_impl _ _).mono ?_; rw [k1']; rintro e w1 ⟨rfl, rfl⟩)
    go_ret
    exact ⟨ret_bool HN.out.symm, hB0⟩
  obtain ⟨a1, a2, a3, a4, a5, a6⟩ := handleOk_bd k1
  have K1 := Hid.mk_ k1
  go_wp2_with (go_at_call 148; refine (HandleOk_impl _ _).mono ?_; rw [k1]; rintro e w1 ⟨rfl, rfl⟩)
  clear k1
  refine (stateOf_impl _ H x (s % 32) (rdMem_up h hB0) HS.out).mono ?_
  rintro e w1 ⟨rfl, hb⟩
  have ba1 := ba0.below hb
  have hB1 := hB0.trans (hb.mono hB0.size)
  clear hb ba0 hB0
  by_cases k2 : (stateB x (s % 32) == 3) = true
  case neg =>
    have k2' : (stateB x (s % 32) == 3) = false := (Bool.not_eq_true _).mp k2
    have HN := Hid.mk_ (show liveB x s = false by rw [HE.out, k2']; simp)
    clear k2
    go_wp2
    go_ret
    exact ⟨ret_bool HN.out.symm, hB1⟩
  have K2 := Hid.mk_ k2
  have qa0 := ba1.cell 0 _ rfl
  have qa1 := ba1.cell 1 _ rfl
  have qa2 := ba1.cell 2 _ rfl
  have qa3 := ba1.cell 3 _ rfl
  go_wp2_with fail
  refine (GenIn_impl _ H.Heap x.Heap (s % 32) (rdHeap_up h.Heap hB1) HS.out).mono ?_
  rintro e w3 ⟨rfl, hb⟩
  have hB3 := hB1.trans (hb.mono hB1.size)
  clear qa0 qa1 qa2 qa3 hb ba1 hB1 k2
  by_cases k3 : (genInB x.Heap (s % 32) == s / 32) = true
  · have HN := Hid.mk_ (show liveB x s = true by rw [HE.out, K1.out, K2.out, k3]; rfl)
    go_wp2
    go_ret
    exact ⟨ret_bool HN.out.symm, hB3⟩
  · have k3' : (genInB x.Heap (s % 32) == s / 32) = false := (Bool.not_eq_true _).mp k3
    have HN := Hid.mk_ (show liveB x s = false by rw [HE.out, k3']; simp)
    clear k3
    go_wp2
    go_ret
    exact ⟨ret_bool HN.out.symm, hB3⟩
set_option maxRecDepth 100000 in
set_option maxHeartbeats 8000000 in
theorem l9Valid_spec (w : World) (H : HMem) (x : Mem) (s : Int) (h : RdMem w w.heap.size H x) (hs : shapeB x.Heap = true) (hs1 : szLL x.Lists.Global ≤ 536870912) (hs2 : szLL x.Lists.Own ≤ 536870912) :
    Calls Tryz.prog 53 #[.agg #[.slice H.Heap.Bytes.a H.Heap.Bytes.len H.Heap.Bytes.cap, .slice H.Heap.Class.a H.Heap.Class.len H.Heap.Class.cap, .slice H.Lists.Global.a H.Lists.Global.len H.Lists.Global.cap, .slice H.Lists.Own.a H.Lists.Own.len H.Lists.Own.cap], .int .i64 s] w fun e w' => e = .returned (.bool (liveB x s)) ∧ Below w.heap.size w w' := by
  have ba0 : Box (w.alloc (.cells #[.slice H.Heap.Bytes.a H.Heap.Bytes.len H.Heap.Bytes.cap, .slice H.Heap.Class.a H.Heap.Class.len H.Heap.Class.cap, .slice H.Lists.Global.a H.Lists.Global.len H.Lists.Global.cap, .slice H.Lists.Own.a H.Lists.Own.len H.Lists.Own.cap] 31)) w.heap.size [.slice H.Heap.Bytes.a H.Heap.Bytes.len H.Heap.Bytes.cap, .slice H.Heap.Class.a H.Heap.Class.len H.Heap.Class.cap, .slice H.Lists.Global.a H.Lists.Global.len H.Lists.Global.cap, .slice H.Lists.Own.a H.Lists.Own.len H.Lists.Own.cap] := Box.new w #[.slice H.Heap.Bytes.a H.Heap.Bytes.len H.Heap.Bytes.cap, .slice H.Heap.Class.a H.Heap.Class.len H.Heap.Class.cap, .slice H.Lists.Global.a H.Lists.Global.len H.Lists.Global.cap, .slice H.Lists.Own.a H.Lists.Own.len H.Lists.Own.cap] _
  have hB0 : Below w.heap.size w (w.alloc (.cells #[.slice H.Heap.Bytes.a H.Heap.Bytes.len H.Heap.Bytes.cap, .slice H.Heap.Class.a H.Heap.Class.len H.Heap.Class.cap, .slice H.Lists.Global.a H.Lists.Global.len H.Lists.Global.cap, .slice H.Lists.Own.a H.Lists.Own.len H.Lists.Own.cap] 31)) := by repeat (first | exact Below.refl _ _ | refine Below.alloc ?_ (by simp <;> omega) _ | refine below_grow_of ?_ (by simp <;> omega) _ _ | refine Below.drew ?_ | refine below_drewN ?_ _)
  have HE := Hid.mk_ (show liveB x s = (handleOkB s && (stateB x (s % 32) == 3) && (genInB x.Heap (s % 32) == s / 32)) from rfl)
  have HS := Hid.mk_ hs
  clear hs
  go_enter Tryz.func53, Tryz.ntmps53
  go_wp2
  generalize (w.alloc (.cells #[.slice H.Heap.Bytes.a H.Heap.Bytes.len H.Heap.Bytes.cap, .slice H.Heap.Class.a H.Heap.Class.len H.Heap.Class.cap, .slice H.Lists.Global.a H.Lists.Global.len H.Lists.Global.cap, .slice H.Lists.Own.a H.Lists.Own.len H.Lists.Own.cap] 31)) = w0 at ba0 hB0 ⊢
  have qa0 := ba0.cell 0 _ rfl
  have qa1 := ba0.cell 1 _ rfl
  have qa2 := ba0.cell 2 _ rfl
  have qa3 := ba0.cell 3 _ rfl
  have zl := ba0.lt
  by_cases k1 : handleOkB s = true
  case neg =>
    have k1' : handleOkB s = false := (Bool.not_eq_true _).mp k1
    have HN := Hid.mk_ (show liveB x s = false by rw [HE.out, k1']; rfl)
    have hq1 : ∀ W : World, Calls Tryz.prog 131 #[.int .i64 s] W fun e w' => e = .returned (.bool false) ∧ W = w' := fun W => (HandleOk_spec s W).mono fun e w' ⟨u, v⟩ => ⟨by rw [u, k1'], v⟩
    clear k1 k1'
    go_quiet ((go_at_call 131; exact quiet_left (hq1 _)))
    go_wp2
    go_ret
    exact ⟨ret_bool HN.out.symm, by first | exact hB0 | exact hB0.drew | exact below_drewN hB0 _⟩
  have hq1 : ∀ W : World, Calls Tryz.prog 131 #[.int .i64 s] W fun e w' => e = .returned (.bool true) ∧ W = w' := fun W => (HandleOk_spec s W).mono fun e w' ⟨u, v⟩ => ⟨by rw [u, k1], v⟩
  have hq2 := fun W : World => HandleSlot_spec s W k1
  have hq3 := fun W : World => HandleGen_spec s W k1
  have HF := Hid.mk_ (show liveB x s = ((stateB x (s % 32) == 3) && (genInB x.Heap (s % 32) == s / 32)) by rw [HE.out, k1]; rfl)
  have hq4 := fun (W : World) (hW : Below w.heap.size w W) => l9State_spec W H x (s % 32) (rdMem_up h hW) HS.out hs1 hs2
  have hq5 := fun (W : World) (hW : Below w.heap.size w W) (k : stateB x (s % 32) ≠ 0) => l7Gen_spec W H.Heap x.Heap (s % 32) (rdHeap_up h.Heap hW) HS.out (state_cls k)
  clear k1 HE
  generalize s % 32 = sl at hq2 hq4 hq5 HF
  generalize s / 32 = gn at hq3 HF
  generalize stateB x sl = st at hq4 hq5 HF
  generalize genInB x.Heap sl = ge at hq5 HF
  by_cases k2 : st = 3
  case neg =>
    have HN := Hid.mk_ (show liveB x s = false by rw [HF.out, show (st == 3) = false by simpa using k2]; rfl)
    have k2' : (st == 3) = false := by simpa using k2
    clear k2 HF hq5 hq3
    first | (go_region_with (first | (go_at_call 131; refine (hq1 _).mono ?_; rintro e w1 ⟨rfl, rfl⟩) | (go_at_call 79; refine (hq2 _).mono ?_; rintro e w1 ⟨rfl, rfl⟩) | (go_at_call 132; refine (hq4 _ (by first | exact hB0.drew | exact below_drewN hB0 _ | exact hB0)).mono ?_; rintro e w1 ⟨rfl, hb1⟩; obtain ⟨os1, d1, rfl⟩ := below_grows hb1; clear hb1))) | fail
    all_goals go_wp2
    all_goals go_ret
    all_goals exact ⟨ret_bool HN.out.symm, by first | exact below_grow_of hB0 (by omega) _ _ | repeat (first | exact Below.refl _ _ | refine Below.alloc ?_ (by simp <;> omega) _ | refine below_grow_of ?_ (by simp <;> omega) _ _ | refine Below.drew ?_ | refine below_drewN ?_ _)⟩
  subst k2
  have hq5' := fun (W : World) (hW : Below w.heap.size w W) => hq5 W hW (by decide)
  clear hq5
  have HG := Hid.mk_ (show liveB x s = (ge == gn) by rw [HF.out]; simp)
  clear HF
  go_region_held3 (fun w' => w'.cell? ⟨w.heap.size, 0, none⟩ = some (.slice H.Heap.Bytes.a H.Heap.Bytes.len H.Heap.Bytes.cap) ∧ w'.cell? ⟨w.heap.size, 1, none⟩ = some (.slice H.Heap.Class.a H.Heap.Class.len H.Heap.Class.cap) ∧ w'.cell? ⟨w.heap.size, 2, none⟩ = some (.slice H.Lists.Global.a H.Lists.Global.len H.Lists.Global.cap) ∧ w'.cell? ⟨w.heap.size, 3, none⟩ = some (.slice H.Lists.Own.a H.Lists.Own.len H.Lists.Own.cap) ∧ w.heap.size < w'.heap.size ∧ Below w.heap.size w w') (first | (go_keep; done) | exact held_upM (by assumption) (by assumption) (Nat.le_refl _) | exact ⟨by assumption, by assumption, by assumption, by assumption, by assumption, Below.drew (by assumption)⟩) (first | (go_at_call 131; refine (hq1 _).mono ?_; rintro e w1 ⟨rfl, rfl⟩) | (go_at_call 79; refine (hq2 _).mono ?_; rintro e w1 ⟨rfl, rfl⟩) | (go_at_call 134; refine (hq3 _).mono ?_; rintro e w1 ⟨rfl, rfl⟩) | (go_at_call 132; refine (hq4 _ (by go_split_ands; assumption)).mono ?_; rintro e w1 ⟨rfl, hb1⟩) | (go_at_call 133; refine (hq5' _ (by go_split_ands; assumption)).mono ?_; rintro e w1 ⟨rfl, hb1⟩))
  go_wp2
  go_ret
  exact ⟨ret_bool HG.out.symm, by first | assumption | (go_split_ands; assumption)⟩
end Go.Proofs.YtkldapdpaldbgaaGreat
