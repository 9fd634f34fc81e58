/-
  RawLoad: the contract.
-/
import Derived.Test.YtodbkbolpcbooaaT
import Derived.Test.YtodbkbolpcbooaaL
import Derived.Deep.QuietTactic
import Derived.BigQuiet
import Derived.Deep.LoopGhost
import Derived.Deep.RegionHeld3
import Derived.Test.YtodbkbolpcbooaaN
import Derived.Test.YtodbkbolpcbooaaA
import Derived.WalkSpells
import Derived.Laws.Cover3
import Derived.Test.YtodbkbolpcbooaaBI
import Derived.Test.YtodbkbolpcbooaaSB
namespace Go.Proofs.Ytodbkbolpcbooaa
open Go.RowKit

def rawP (x : Heap) (h a k : Int) : Int × Bool := if shapeB x = true ∧ handleOkB h = true ∧ ¬ classInB x (h % 32) < 0 ∧ inB 1 7 k = true ∧ inB 0 (sizeOfC (classInB x (h % 32)) - k) a = true then (loadN x.Bytes (startAt (h % 32) (classInB x (h % 32)) + a) k, true) else (0, false)
theorem raw_no {x : Heap} {h a k : Int} (c : ¬ (shapeB x = true ∧ handleOkB h = true ∧ ¬ classInB x (h % 32) < 0 ∧ inB 1 7 k = true ∧ inB 0 (sizeOfC (classInB x (h % 32)) - k) a = true)) : rawP x h a k = (0, false) := if_neg c
theorem raw_yes {x : Heap} {h a k : Int} (c1 : shapeB x = true) (c2 : handleOkB h = true) (c3 : ¬ classInB x (h % 32) < 0) (c4 : inB 1 7 k = true) (c5 : inB 0 (sizeOfC (classInB x (h % 32)) - k) a = true) : rawP x h a k = (loadN x.Bytes (startAt (h % 32) (classInB x (h % 32)) + a) k, true) := if_pos ⟨c1, c2, c3, c4, c5⟩
theorem ret_ib {a : Int} {b : Bool} {p : Int × Bool} (h : p = (a, b)) : Ending.returned (.tuple #[.int .i64 a, .bool b]) = .returned (.tuple #[.int .i64 p.1, .bool p.2]) := by rw [h]

set_option maxRecDepth 100000 in
set_option maxHeartbeats 2000000 in
theorem RawLoad_impl (w : World) (H : HBase) (x : Base) (s a k : Int) (h : RdBase w w.heap.size H x) :
    Calls Try.prog 42 #[.agg #[.slice H.Mem.Heap.Bytes.a H.Mem.Heap.Bytes.len H.Mem.Heap.Bytes.cap, .slice H.Mem.Heap.Class.a H.Mem.Heap.Class.len H.Mem.Heap.Class.cap, .slice H.Mem.Lists.Global.a H.Mem.Lists.Global.len H.Mem.Lists.Global.cap, .slice H.Mem.Lists.Own.a H.Mem.Lists.Own.len H.Mem.Lists.Own.cap, .int .i64 x.Clock.Epoch, .slice H.Clock.Pins.a H.Clock.Pins.len H.Clock.Pins.cap, .slice H.Limbo.a H.Limbo.len H.Limbo.cap, .slice H.Haz.a H.Haz.len H.Haz.cap], .int .i64 s, .int .i64 a, .int .i64 k] w fun e w' => e = .returned (.tuple #[.int .i64 (rawP x.Mem.Heap s a k).1, .bool (rawP x.Mem.Heap s a k).2]) ∧ Below w.heap.size w w' := by
  by_cases c1 : handleOkB s = true
  case neg =>
    have c1' := (Bool.not_eq_true _).mp c1
    have HN := Hid.mk_ (raw_no (x := x.Mem.Heap) (h := s) (a := a) (k := k) (fun c => c1 c.2.1))
    clear c1 h
    have B_a : Box ((w.alloc (.cells #[.slice H.Mem.Heap.Bytes.a H.Mem.Heap.Bytes.len H.Mem.Heap.Bytes.cap, .slice H.Mem.Heap.Class.a H.Mem.Heap.Class.len H.Mem.Heap.Class.cap, .slice H.Mem.Lists.Global.a H.Mem.Lists.Global.len H.Mem.Lists.Global.cap, .slice H.Mem.Lists.Own.a H.Mem.Lists.Own.len H.Mem.Lists.Own.cap, .int .i64 x.Clock.Epoch, .slice H.Clock.Pins.a H.Clock.Pins.len H.Clock.Pins.cap, .slice H.Limbo.a H.Limbo.len H.Limbo.cap, .slice H.Haz.a H.Haz.len H.Haz.cap] 60)).alloc (.cells #[.slice H.Mem.Heap.Bytes.a H.Mem.Heap.Bytes.len H.Mem.Heap.Bytes.cap, .slice H.Mem.Heap.Class.a H.Mem.Heap.Class.len H.Mem.Heap.Class.cap] 52)) (w.heap.size) [.slice H.Mem.Heap.Bytes.a H.Mem.Heap.Bytes.len H.Mem.Heap.Bytes.cap, .slice H.Mem.Heap.Class.a H.Mem.Heap.Class.len H.Mem.Heap.Class.cap, .slice H.Mem.Lists.Global.a H.Mem.Lists.Global.len H.Mem.Lists.Global.cap, .slice H.Mem.Lists.Own.a H.Mem.Lists.Own.len H.Mem.Lists.Own.cap, .int .i64 x.Clock.Epoch, .slice H.Clock.Pins.a H.Clock.Pins.len H.Clock.Pins.cap, .slice H.Limbo.a H.Limbo.len H.Limbo.cap, .slice H.Haz.a H.Haz.len H.Haz.cap] := by
      have hbx := Box.new w #[.slice H.Mem.Heap.Bytes.a H.Mem.Heap.Bytes.len H.Mem.Heap.Bytes.cap, .slice H.Mem.Heap.Class.a H.Mem.Heap.Class.len H.Mem.Heap.Class.cap, .slice H.Mem.Lists.Global.a H.Mem.Lists.Global.len H.Mem.Lists.Global.cap, .slice H.Mem.Lists.Own.a H.Mem.Lists.Own.len H.Mem.Lists.Own.cap, .int .i64 x.Clock.Epoch, .slice H.Clock.Pins.a H.Clock.Pins.len H.Clock.Pins.cap, .slice H.Limbo.a H.Limbo.len H.Limbo.cap, .slice H.Haz.a H.Haz.len H.Haz.cap] 60
      exact (hbx).alloc _
    have B_p : Box ((w.alloc (.cells #[.slice H.Mem.Heap.Bytes.a H.Mem.Heap.Bytes.len H.Mem.Heap.Bytes.cap, .slice H.Mem.Heap.Class.a H.Mem.Heap.Class.len H.Mem.Heap.Class.cap, .slice H.Mem.Lists.Global.a H.Mem.Lists.Global.len H.Mem.Lists.Global.cap, .slice H.Mem.Lists.Own.a H.Mem.Lists.Own.len H.Mem.Lists.Own.cap, .int .i64 x.Clock.Epoch, .slice H.Clock.Pins.a H.Clock.Pins.len H.Clock.Pins.cap, .slice H.Limbo.a H.Limbo.len H.Limbo.cap, .slice H.Haz.a H.Haz.len H.Haz.cap] 60)).alloc (.cells #[.slice H.Mem.Heap.Bytes.a H.Mem.Heap.Bytes.len H.Mem.Heap.Bytes.cap, .slice H.Mem.Heap.Class.a H.Mem.Heap.Class.len H.Mem.Heap.Class.cap] 52)) (w.heap.size + 1) [.slice H.Mem.Heap.Bytes.a H.Mem.Heap.Bytes.len H.Mem.Heap.Bytes.cap, .slice H.Mem.Heap.Class.a H.Mem.Heap.Class.len H.Mem.Heap.Class.cap] := by
      have hbx := Box.new (w.alloc (.cells #[.slice H.Mem.Heap.Bytes.a H.Mem.Heap.Bytes.len H.Mem.Heap.Bytes.cap, .slice H.Mem.Heap.Class.a H.Mem.Heap.Class.len H.Mem.Heap.Class.cap, .slice H.Mem.Lists.Global.a H.Mem.Lists.Global.len H.Mem.Lists.Global.cap, .slice H.Mem.Lists.Own.a H.Mem.Lists.Own.len H.Mem.Lists.Own.cap, .int .i64 x.Clock.Epoch, .slice H.Clock.Pins.a H.Clock.Pins.len H.Clock.Pins.cap, .slice H.Limbo.a H.Limbo.len H.Limbo.cap, .slice H.Haz.a H.Haz.len H.Haz.cap] 60)) #[.slice H.Mem.Heap.Bytes.a H.Mem.Heap.Bytes.len H.Mem.Heap.Bytes.cap, .slice H.Mem.Heap.Class.a H.Mem.Heap.Class.len H.Mem.Heap.Class.cap] 52
      simp only [World.size_alloc] at hbx
      exact hbx
    have hB : Below w.heap.size w ((w.alloc (.cells #[.slice H.Mem.Heap.Bytes.a H.Mem.Heap.Bytes.len H.Mem.Heap.Bytes.cap, .slice H.Mem.Heap.Class.a H.Mem.Heap.Class.len H.Mem.Heap.Class.cap, .slice H.Mem.Lists.Global.a H.Mem.Lists.Global.len H.Mem.Lists.Global.cap, .slice H.Mem.Lists.Own.a H.Mem.Lists.Own.len H.Mem.Lists.Own.cap, .int .i64 x.Clock.Epoch, .slice H.Clock.Pins.a H.Clock.Pins.len H.Clock.Pins.cap, .slice H.Limbo.a H.Limbo.len H.Limbo.cap, .slice H.Haz.a H.Haz.len H.Haz.cap] 60)).alloc (.cells #[.slice H.Mem.Heap.Bytes.a H.Mem.Heap.Bytes.len H.Mem.Heap.Bytes.cap, .slice H.Mem.Heap.Class.a H.Mem.Heap.Class.len H.Mem.Heap.Class.cap] 52)) := by repeat (first | exact Below.refl _ _ | refine Below.alloc ?_ (by simp <;> omega) _ | refine below_grow_of ?_ (by simp <;> omega) _ _ | refine Below.drew ?_ | refine below_drewN ?_ _)
    go_enter Try.func42, Try.ntmps42
    go_wp2_with fail
    generalize hW0 : ((w.alloc (.cells #[.slice H.Mem.Heap.Bytes.a H.Mem.Heap.Bytes.len H.Mem.Heap.Bytes.cap, .slice H.Mem.Heap.Class.a H.Mem.Heap.Class.len H.Mem.Heap.Class.cap, .slice H.Mem.Lists.Global.a H.Mem.Lists.Global.len H.Mem.Lists.Global.cap, .slice H.Mem.Lists.Own.a H.Mem.Lists.Own.len H.Mem.Lists.Own.cap, .int .i64 x.Clock.Epoch, .slice H.Clock.Pins.a H.Clock.Pins.len H.Clock.Pins.cap, .slice H.Limbo.a H.Limbo.len H.Limbo.cap, .slice H.Haz.a H.Haz.len H.Haz.cap] 60)).alloc (.cells #[.slice H.Mem.Heap.Bytes.a H.Mem.Heap.Bytes.len H.Mem.Heap.Bytes.cap, .slice H.Mem.Heap.Class.a H.Mem.Heap.Class.len H.Mem.Heap.Class.cap] 52)) = w0 at B_a B_p hB ⊢
    clear hW0
    have zz_a := B_a.lt
    have zz_p := B_p.lt
    have q_a_0 := B_a.cell 0 _ rfl
    have q_a_1 := B_a.cell 1 _ rfl
    have q_a_2 := B_a.cell 2 _ rfl
    have q_a_3 := B_a.cell 3 _ rfl
    have q_a_4 := B_a.cell 4 _ rfl
    have q_a_5 := B_a.cell 5 _ rfl
    have q_a_6 := B_a.cell 6 _ rfl
    have q_a_7 := B_a.cell 7 _ rfl
    have fr_a := B_a.fro
    have z_a := B_a.lt
    have q_p_0 := B_p.cell 0 _ rfl
    have q_p_1 := B_p.cell 1 _ rfl
    have fr_p := B_p.fro
    have z_p := B_p.lt
    go_wp2_with (go_at_call 112; refine (HandleOk_impl _ _).mono ?_; rw [c1']; rintro e wv ⟨rfl, rfl⟩)
    go_ret2
    exact ⟨ret_ib HN.out, hB⟩
  obtain ⟨e1, e2, _, _, _, _⟩ := handleOk_bd c1
  have hca := fun (W : World) (hW : Below w.heap.size w W) => ClassAt_impl W H.Mem.Heap x.Mem.Heap (s % 32) (rdHeap_up h.Mem.Heap hW)
  by_cases c2 : classAtB x.Mem.Heap (s % 32) < 0
  case pos =>
    have HN := Hid.mk_ (raw_no (x := x.Mem.Heap) (h := s) (a := a) (k := k) (fun c => c.2.2.1 (by unfold classAtB at c2; rw [if_pos c.1] at c2; exact c2)))
    generalize classAtB x.Mem.Heap (s % 32) = c at *
    clear h
    have B_a : Box ((w.alloc (.cells #[.slice H.Mem.Heap.Bytes.a H.Mem.Heap.Bytes.len H.Mem.Heap.Bytes.cap, .slice H.Mem.Heap.Class.a H.Mem.Heap.Class.len H.Mem.Heap.Class.cap, .slice H.Mem.Lists.Global.a H.Mem.Lists.Global.len H.Mem.Lists.Global.cap, .slice H.Mem.Lists.Own.a H.Mem.Lists.Own.len H.Mem.Lists.Own.cap, .int .i64 x.Clock.Epoch, .slice H.Clock.Pins.a H.Clock.Pins.len H.Clock.Pins.cap, .slice H.Limbo.a H.Limbo.len H.Limbo.cap, .slice H.Haz.a H.Haz.len H.Haz.cap] 60)).alloc (.cells #[.slice H.Mem.Heap.Bytes.a H.Mem.Heap.Bytes.len H.Mem.Heap.Bytes.cap, .slice H.Mem.Heap.Class.a H.Mem.Heap.Class.len H.Mem.Heap.Class.cap] 52)) (w.heap.size) [.slice H.Mem.Heap.Bytes.a H.Mem.Heap.Bytes.len H.Mem.Heap.Bytes.cap, .slice H.Mem.Heap.Class.a H.Mem.Heap.Class.len H.Mem.Heap.Class.cap, .slice H.Mem.Lists.Global.a H.Mem.Lists.Global.len H.Mem.Lists.Global.cap, .slice H.Mem.Lists.Own.a H.Mem.Lists.Own.len H.Mem.Lists.Own.cap, .int .i64 x.Clock.Epoch, .slice H.Clock.Pins.a H.Clock.Pins.len H.Clock.Pins.cap, .slice H.Limbo.a H.Limbo.len H.Limbo.cap, .slice H.Haz.a H.Haz.len H.Haz.cap] := by
      have hbx := Box.new w #[.slice H.Mem.Heap.Bytes.a H.Mem.Heap.Bytes.len H.Mem.Heap.Bytes.cap, .slice H.Mem.Heap.Class.a H.Mem.Heap.Class.len H.Mem.Heap.Class.cap, .slice H.Mem.Lists.Global.a H.Mem.Lists.Global.len H.Mem.Lists.Global.cap, .slice H.Mem.Lists.Own.a H.Mem.Lists.Own.len H.Mem.Lists.Own.cap, .int .i64 x.Clock.Epoch, .slice H.Clock.Pins.a H.Clock.Pins.len H.Clock.Pins.cap, .slice H.Limbo.a H.Limbo.len H.Limbo.cap, .slice H.Haz.a H.Haz.len H.Haz.cap] 60
      exact (hbx).alloc _
    have B_p : Box ((w.alloc (.cells #[.slice H.Mem.Heap.Bytes.a H.Mem.Heap.Bytes.len H.Mem.Heap.Bytes.cap, .slice H.Mem.Heap.Class.a H.Mem.Heap.Class.len H.Mem.Heap.Class.cap, .slice H.Mem.Lists.Global.a H.Mem.Lists.Global.len H.Mem.Lists.Global.cap, .slice H.Mem.Lists.Own.a H.Mem.Lists.Own.len H.Mem.Lists.Own.cap, .int .i64 x.Clock.Epoch, .slice H.Clock.Pins.a H.Clock.Pins.len H.Clock.Pins.cap, .slice H.Limbo.a H.Limbo.len H.Limbo.cap, .slice H.Haz.a H.Haz.len H.Haz.cap] 60)).alloc (.cells #[.slice H.Mem.Heap.Bytes.a H.Mem.Heap.Bytes.len H.Mem.Heap.Bytes.cap, .slice H.Mem.Heap.Class.a H.Mem.Heap.Class.len H.Mem.Heap.Class.cap] 52)) (w.heap.size + 1) [.slice H.Mem.Heap.Bytes.a H.Mem.Heap.Bytes.len H.Mem.Heap.Bytes.cap, .slice H.Mem.Heap.Class.a H.Mem.Heap.Class.len H.Mem.Heap.Class.cap] := by
      have hbx := Box.new (w.alloc (.cells #[.slice H.Mem.Heap.Bytes.a H.Mem.Heap.Bytes.len H.Mem.Heap.Bytes.cap, .slice H.Mem.Heap.Class.a H.Mem.Heap.Class.len H.Mem.Heap.Class.cap, .slice H.Mem.Lists.Global.a H.Mem.Lists.Global.len H.Mem.Lists.Global.cap, .slice H.Mem.Lists.Own.a H.Mem.Lists.Own.len H.Mem.Lists.Own.cap, .int .i64 x.Clock.Epoch, .slice H.Clock.Pins.a H.Clock.Pins.len H.Clock.Pins.cap, .slice H.Limbo.a H.Limbo.len H.Limbo.cap, .slice H.Haz.a H.Haz.len H.Haz.cap] 60)) #[.slice H.Mem.Heap.Bytes.a H.Mem.Heap.Bytes.len H.Mem.Heap.Bytes.cap, .slice H.Mem.Heap.Class.a H.Mem.Heap.Class.len H.Mem.Heap.Class.cap] 52
      simp only [World.size_alloc] at hbx
      exact hbx
    have hB : Below w.heap.size w ((w.alloc (.cells #[.slice H.Mem.Heap.Bytes.a H.Mem.Heap.Bytes.len H.Mem.Heap.Bytes.cap, .slice H.Mem.Heap.Class.a H.Mem.Heap.Class.len H.Mem.Heap.Class.cap, .slice H.Mem.Lists.Global.a H.Mem.Lists.Global.len H.Mem.Lists.Global.cap, .slice H.Mem.Lists.Own.a H.Mem.Lists.Own.len H.Mem.Lists.Own.cap, .int .i64 x.Clock.Epoch, .slice H.Clock.Pins.a H.Clock.Pins.len H.Clock.Pins.cap, .slice H.Limbo.a H.Limbo.len H.Limbo.cap, .slice H.Haz.a H.Haz.len H.Haz.cap] 60)).alloc (.cells #[.slice H.Mem.Heap.Bytes.a H.Mem.Heap.Bytes.len H.Mem.Heap.Bytes.cap, .slice H.Mem.Heap.Class.a H.Mem.Heap.Class.len H.Mem.Heap.Class.cap] 52)) := by repeat (first | exact Below.refl _ _ | refine Below.alloc ?_ (by simp <;> omega) _ | refine below_grow_of ?_ (by simp <;> omega) _ _ | refine Below.drew ?_ | refine below_drewN ?_ _)
    go_enter Try.func42, Try.ntmps42
    go_wp2_with fail
    generalize hW0 : ((w.alloc (.cells #[.slice H.Mem.Heap.Bytes.a H.Mem.Heap.Bytes.len H.Mem.Heap.Bytes.cap, .slice H.Mem.Heap.Class.a H.Mem.Heap.Class.len H.Mem.Heap.Class.cap, .slice H.Mem.Lists.Global.a H.Mem.Lists.Global.len H.Mem.Lists.Global.cap, .slice H.Mem.Lists.Own.a H.Mem.Lists.Own.len H.Mem.Lists.Own.cap, .int .i64 x.Clock.Epoch, .slice H.Clock.Pins.a H.Clock.Pins.len H.Clock.Pins.cap, .slice H.Limbo.a H.Limbo.len H.Limbo.cap, .slice H.Haz.a H.Haz.len H.Haz.cap] 60)).alloc (.cells #[.slice H.Mem.Heap.Bytes.a H.Mem.Heap.Bytes.len H.Mem.Heap.Bytes.cap, .slice H.Mem.Heap.Class.a H.Mem.Heap.Class.len H.Mem.Heap.Class.cap] 52)) = w0 at B_a B_p hB ⊢
    clear hW0
    have zz_a := B_a.lt
    have zz_p := B_p.lt
    have q_a_0 := B_a.cell 0 _ rfl
    have q_a_1 := B_a.cell 1 _ rfl
    have q_a_2 := B_a.cell 2 _ rfl
    have q_a_3 := B_a.cell 3 _ rfl
    have q_a_4 := B_a.cell 4 _ rfl
    have q_a_5 := B_a.cell 5 _ rfl
    have q_a_6 := B_a.cell 6 _ rfl
    have q_a_7 := B_a.cell 7 _ rfl
    have fr_a := B_a.fro
    have z_a := B_a.lt
    have q_p_0 := B_p.cell 0 _ rfl
    have q_p_1 := B_p.cell 1 _ rfl
    have fr_p := B_p.fro
    have z_p := B_p.lt
    go_wp2_with (go_at_call 112; refine (HandleOk_impl _ _).mono ?_; rw [c1]; rintro e wv ⟨rfl, rfl⟩)
    refine (hca _ hB).mono ?_
    rintro e w1 ⟨rfl, hb⟩
    replace B_a := B_a.below hb
    replace B_p := B_p.below hb
    replace hB := hB.trans (hb.mono hB.size)
    have sz := hb.size
    clear hb
    replace q_a_0 := B_a.cell 0 _ rfl
    replace q_a_1 := B_a.cell 1 _ rfl
    replace q_a_2 := B_a.cell 2 _ rfl
    replace q_a_3 := B_a.cell 3 _ rfl
    replace q_a_4 := B_a.cell 4 _ rfl
    replace q_a_5 := B_a.cell 5 _ rfl
    replace q_a_6 := B_a.cell 6 _ rfl
    replace q_a_7 := B_a.cell 7 _ rfl
    replace fr_a := B_a.fro
    replace z_a := B_a.lt
    replace q_p_0 := B_p.cell 0 _ rfl
    replace q_p_1 := B_p.cell 1 _ rfl
    replace fr_p := B_p.fro
    replace z_p := B_p.lt
    clear hca
    go_wp2
    go_ret2
    exact ⟨ret_ib HN.out, hB⟩
  have c3 : shapeB x.Mem.Heap = true := by
    cases hh : shapeB x.Mem.Heap with
    | true => rfl
    | false => exact absurd (show classAtB x.Mem.Heap (s % 32) < 0 by unfold classAtB; rw [if_neg (by rw [hh]; decide)]; omega) c2
  have hcl : classAtB x.Mem.Heap (s % 32) = classInB x.Mem.Heap (s % 32) := if_pos c3
  rw [hcl] at c2 hca
  by_cases c4 : inB 1 7 k = true
  case neg =>
    have c4' := (Bool.not_eq_true _).mp c4
    have HN := Hid.mk_ (raw_no (x := x.Mem.Heap) (h := s) (a := a) (k := k) (fun c => c4 c.2.2.2.1))
    clear c4 hcl h c3
    generalize classInB x.Mem.Heap (s % 32) = c at *
    have B_a : Box ((w.alloc (.cells #[.slice H.Mem.Heap.Bytes.a H.Mem.Heap.Bytes.len H.Mem.Heap.Bytes.cap, .slice H.Mem.Heap.Class.a H.Mem.Heap.Class.len H.Mem.Heap.Class.cap, .slice H.Mem.Lists.Global.a H.Mem.Lists.Global.len H.Mem.Lists.Global.cap, .slice H.Mem.Lists.Own.a H.Mem.Lists.Own.len H.Mem.Lists.Own.cap, .int .i64 x.Clock.Epoch, .slice H.Clock.Pins.a H.Clock.Pins.len H.Clock.Pins.cap, .slice H.Limbo.a H.Limbo.len H.Limbo.cap, .slice H.Haz.a H.Haz.len H.Haz.cap] 60)).alloc (.cells #[.slice H.Mem.Heap.Bytes.a H.Mem.Heap.Bytes.len H.Mem.Heap.Bytes.cap, .slice H.Mem.Heap.Class.a H.Mem.Heap.Class.len H.Mem.Heap.Class.cap] 52)) (w.heap.size) [.slice H.Mem.Heap.Bytes.a H.Mem.Heap.Bytes.len H.Mem.Heap.Bytes.cap, .slice H.Mem.Heap.Class.a H.Mem.Heap.Class.len H.Mem.Heap.Class.cap, .slice H.Mem.Lists.Global.a H.Mem.Lists.Global.len H.Mem.Lists.Global.cap, .slice H.Mem.Lists.Own.a H.Mem.Lists.Own.len H.Mem.Lists.Own.cap, .int .i64 x.Clock.Epoch, .slice H.Clock.Pins.a H.Clock.Pins.len H.Clock.Pins.cap, .slice H.Limbo.a H.Limbo.len H.Limbo.cap, .slice H.Haz.a H.Haz.len H.Haz.cap] := by
      have hbx := Box.new w #[.slice H.Mem.Heap.Bytes.a H.Mem.Heap.Bytes.len H.Mem.Heap.Bytes.cap, .slice H.Mem.Heap.Class.a H.Mem.Heap.Class.len H.Mem.Heap.Class.cap, .slice H.Mem.Lists.Global.a H.Mem.Lists.Global.len H.Mem.Lists.Global.cap, .slice H.Mem.Lists.Own.a H.Mem.Lists.Own.len H.Mem.Lists.Own.cap, .int .i64 x.Clock.Epoch, .slice H.Clock.Pins.a H.Clock.Pins.len H.Clock.Pins.cap, .slice H.Limbo.a H.Limbo.len H.Limbo.cap, .slice H.Haz.a H.Haz.len H.Haz.cap] 60
      exact (hbx).alloc _
    have B_p : Box ((w.alloc (.cells #[.slice H.Mem.Heap.Bytes.a H.Mem.Heap.Bytes.len H.Mem.Heap.Bytes.cap, .slice H.Mem.Heap.Class.a H.Mem.Heap.Class.len H.Mem.Heap.Class.cap, .slice H.Mem.Lists.Global.a H.Mem.Lists.Global.len H.Mem.Lists.Global.cap, .slice H.Mem.Lists.Own.a H.Mem.Lists.Own.len H.Mem.Lists.Own.cap, .int .i64 x.Clock.Epoch, .slice H.Clock.Pins.a H.Clock.Pins.len H.Clock.Pins.cap, .slice H.Limbo.a H.Limbo.len H.Limbo.cap, .slice H.Haz.a H.Haz.len H.Haz.cap] 60)).alloc (.cells #[.slice H.Mem.Heap.Bytes.a H.Mem.Heap.Bytes.len H.Mem.Heap.Bytes.cap, .slice H.Mem.Heap.Class.a H.Mem.Heap.Class.len H.Mem.Heap.Class.cap] 52)) (w.heap.size + 1) [.slice H.Mem.Heap.Bytes.a H.Mem.Heap.Bytes.len H.Mem.Heap.Bytes.cap, .slice H.Mem.Heap.Class.a H.Mem.Heap.Class.len H.Mem.Heap.Class.cap] := by
      have hbx := Box.new (w.alloc (.cells #[.slice H.Mem.Heap.Bytes.a H.Mem.Heap.Bytes.len H.Mem.Heap.Bytes.cap, .slice H.Mem.Heap.Class.a H.Mem.Heap.Class.len H.Mem.Heap.Class.cap, .slice H.Mem.Lists.Global.a H.Mem.Lists.Global.len H.Mem.Lists.Global.cap, .slice H.Mem.Lists.Own.a H.Mem.Lists.Own.len H.Mem.Lists.Own.cap, .int .i64 x.Clock.Epoch, .slice H.Clock.Pins.a H.Clock.Pins.len H.Clock.Pins.cap, .slice H.Limbo.a H.Limbo.len H.Limbo.cap, .slice H.Haz.a H.Haz.len H.Haz.cap] 60)) #[.slice H.Mem.Heap.Bytes.a H.Mem.Heap.Bytes.len H.Mem.Heap.Bytes.cap, .slice H.Mem.Heap.Class.a H.Mem.Heap.Class.len H.Mem.Heap.Class.cap] 52
      simp only [World.size_alloc] at hbx
      exact hbx
    have hB : Below w.heap.size w ((w.alloc (.cells #[.slice H.Mem.Heap.Bytes.a H.Mem.Heap.Bytes.len H.Mem.Heap.Bytes.cap, .slice H.Mem.Heap.Class.a H.Mem.Heap.Class.len H.Mem.Heap.Class.cap, .slice H.Mem.Lists.Global.a H.Mem.Lists.Global.len H.Mem.Lists.Global.cap, .slice H.Mem.Lists.Own.a H.Mem.Lists.Own.len H.Mem.Lists.Own.cap, .int .i64 x.Clock.Epoch, .slice H.Clock.Pins.a H.Clock.Pins.len H.Clock.Pins.cap, .slice H.Limbo.a H.Limbo.len H.Limbo.cap, .slice H.Haz.a H.Haz.len H.Haz.cap] 60)).alloc (.cells #[.slice H.Mem.Heap.Bytes.a H.Mem.Heap.Bytes.len H.Mem.Heap.Bytes.cap, .slice H.Mem.Heap.Class.a H.Mem.Heap.Class.len H.Mem.Heap.Class.cap] 52)) := by repeat (first | exact Below.refl _ _ | refine Below.alloc ?_ (by simp <;> omega) _ | refine below_grow_of ?_ (by simp <;> omega) _ _ | refine Below.drew ?_ | refine below_drewN ?_ _)
    go_enter Try.func42, Try.ntmps42
    go_wp2_with fail
    generalize hW0 : ((w.alloc (.cells #[.slice H.Mem.Heap.Bytes.a H.Mem.Heap.Bytes.len H.Mem.Heap.Bytes.cap, .slice H.Mem.Heap.Class.a H.Mem.Heap.Class.len H.Mem.Heap.Class.cap, .slice H.Mem.Lists.Global.a H.Mem.Lists.Global.len H.Mem.Lists.Global.cap, .slice H.Mem.Lists.Own.a H.Mem.Lists.Own.len H.Mem.Lists.Own.cap, .int .i64 x.Clock.Epoch, .slice H.Clock.Pins.a H.Clock.Pins.len H.Clock.Pins.cap, .slice H.Limbo.a H.Limbo.len H.Limbo.cap, .slice H.Haz.a H.Haz.len H.Haz.cap] 60)).alloc (.cells #[.slice H.Mem.Heap.Bytes.a H.Mem.Heap.Bytes.len H.Mem.Heap.Bytes.cap, .slice H.Mem.Heap.Class.a H.Mem.Heap.Class.len H.Mem.Heap.Class.cap] 52)) = w0 at B_a B_p hB ⊢
    clear hW0
    have zz_a := B_a.lt
    have zz_p := B_p.lt
    have q_a_0 := B_a.cell 0 _ rfl
    have q_a_1 := B_a.cell 1 _ rfl
    have q_a_2 := B_a.cell 2 _ rfl
    have q_a_3 := B_a.cell 3 _ rfl
    have q_a_4 := B_a.cell 4 _ rfl
    have q_a_5 := B_a.cell 5 _ rfl
    have q_a_6 := B_a.cell 6 _ rfl
    have q_a_7 := B_a.cell 7 _ rfl
    have fr_a := B_a.fro
    have z_a := B_a.lt
    have q_p_0 := B_p.cell 0 _ rfl
    have q_p_1 := B_p.cell 1 _ rfl
    have fr_p := B_p.fro
    have z_p := B_p.lt
    go_wp2_with (go_at_call 112; refine (HandleOk_impl _ _).mono ?_; rw [c1]; rintro e wv ⟨rfl, rfl⟩)
    refine (hca _ hB).mono ?_
    rintro e w1 ⟨rfl, hb⟩
    replace B_a := B_a.below hb
    replace B_p := B_p.below hb
    replace hB := hB.trans (hb.mono hB.size)
    have sz := hb.size
    clear hb
    replace q_a_0 := B_a.cell 0 _ rfl
    replace q_a_1 := B_a.cell 1 _ rfl
    replace q_a_2 := B_a.cell 2 _ rfl
    replace q_a_3 := B_a.cell 3 _ rfl
    replace q_a_4 := B_a.cell 4 _ rfl
    replace q_a_5 := B_a.cell 5 _ rfl
    replace q_a_6 := B_a.cell 6 _ rfl
    replace q_a_7 := B_a.cell 7 _ rfl
    replace fr_a := B_a.fro
    replace z_a := B_a.lt
    replace q_p_0 := B_p.cell 0 _ rfl
    replace q_p_1 := B_p.cell 1 _ rfl
    replace fr_p := B_p.fro
    replace z_p := B_p.lt
    clear hca
    go_wp2_with (go_at_call 114; refine (isWidth_ct _ _).mono ?_; rw [c4']; rintro e wv ⟨rfl, rfl⟩)
    go_ret2
    exact ⟨ret_ib HN.out, hB⟩
  obtain ⟨b1, b2⟩ := inB_iff.1 c4
  have hir := inRange_live (a := a) (k := k) c2
  have hq := fun (W : World) (hW : Below w.heap.size w W) => inRange_impl W H.Mem.Heap x.Mem.Heap (s % 32) a k (rdHeap_up h.Mem.Heap hW) c3 b1 b2
  by_cases c5 : inB 0 (sizeOfC (classInB x.Mem.Heap (s % 32)) - k) a = true
  case neg =>
    have HN := Hid.mk_ (raw_no (x := x.Mem.Heap) (h := s) (a := a) (k := k) (fun c => c5 c.2.2.2.2))
    rw [if_neg c5] at hir
    rw [hir] at hq
    clear c5 hcl hir h c3
    generalize classInB x.Mem.Heap (s % 32) = c at *
    have B_a : Box ((w.alloc (.cells #[.slice H.Mem.Heap.Bytes.a H.Mem.Heap.Bytes.len H.Mem.Heap.Bytes.cap, .slice H.Mem.Heap.Class.a H.Mem.Heap.Class.len H.Mem.Heap.Class.cap, .slice H.Mem.Lists.Global.a H.Mem.Lists.Global.len H.Mem.Lists.Global.cap, .slice H.Mem.Lists.Own.a H.Mem.Lists.Own.len H.Mem.Lists.Own.cap, .int .i64 x.Clock.Epoch, .slice H.Clock.Pins.a H.Clock.Pins.len H.Clock.Pins.cap, .slice H.Limbo.a H.Limbo.len H.Limbo.cap, .slice H.Haz.a H.Haz.len H.Haz.cap] 60)).alloc (.cells #[.slice H.Mem.Heap.Bytes.a H.Mem.Heap.Bytes.len H.Mem.Heap.Bytes.cap, .slice H.Mem.Heap.Class.a H.Mem.Heap.Class.len H.Mem.Heap.Class.cap] 52)) (w.heap.size) [.slice H.Mem.Heap.Bytes.a H.Mem.Heap.Bytes.len H.Mem.Heap.Bytes.cap, .slice H.Mem.Heap.Class.a H.Mem.Heap.Class.len H.Mem.Heap.Class.cap, .slice H.Mem.Lists.Global.a H.Mem.Lists.Global.len H.Mem.Lists.Global.cap, .slice H.Mem.Lists.Own.a H.Mem.Lists.Own.len H.Mem.Lists.Own.cap, .int .i64 x.Clock.Epoch, .slice H.Clock.Pins.a H.Clock.Pins.len H.Clock.Pins.cap, .slice H.Limbo.a H.Limbo.len H.Limbo.cap, .slice H.Haz.a H.Haz.len H.Haz.cap] := by
      have hbx := Box.new w #[.slice H.Mem.Heap.Bytes.a H.Mem.Heap.Bytes.len H.Mem.Heap.Bytes.cap, .slice H.Mem.Heap.Class.a H.Mem.Heap.Class.len H.Mem.Heap.Class.cap, .slice H.Mem.Lists.Global.a H.Mem.Lists.Global.len H.Mem.Lists.Global.cap, .slice H.Mem.Lists.Own.a H.Mem.Lists.Own.len H.Mem.Lists.Own.cap, .int .i64 x.Clock.Epoch, .slice H.Clock.Pins.a H.Clock.Pins.len H.Clock.Pins.cap, .slice H.Limbo.a H.Limbo.len H.Limbo.cap, .slice H.Haz.a H.Haz.len H.Haz.cap] 60
      exact (hbx).alloc _
    have B_p : Box ((w.alloc (.cells #[.slice H.Mem.Heap.Bytes.a H.Mem.Heap.Bytes.len H.Mem.Heap.Bytes.cap, .slice H.Mem.Heap.Class.a H.Mem.Heap.Class.len H.Mem.Heap.Class.cap, .slice H.Mem.Lists.Global.a H.Mem.Lists.Global.len H.Mem.Lists.Global.cap, .slice H.Mem.Lists.Own.a H.Mem.Lists.Own.len H.Mem.Lists.Own.cap, .int .i64 x.Clock.Epoch, .slice H.Clock.Pins.a H.Clock.Pins.len H.Clock.Pins.cap, .slice H.Limbo.a H.Limbo.len H.Limbo.cap, .slice H.Haz.a H.Haz.len H.Haz.cap] 60)).alloc (.cells #[.slice H.Mem.Heap.Bytes.a H.Mem.Heap.Bytes.len H.Mem.Heap.Bytes.cap, .slice H.Mem.Heap.Class.a H.Mem.Heap.Class.len H.Mem.Heap.Class.cap] 52)) (w.heap.size + 1) [.slice H.Mem.Heap.Bytes.a H.Mem.Heap.Bytes.len H.Mem.Heap.Bytes.cap, .slice H.Mem.Heap.Class.a H.Mem.Heap.Class.len H.Mem.Heap.Class.cap] := by
      have hbx := Box.new (w.alloc (.cells #[.slice H.Mem.Heap.Bytes.a H.Mem.Heap.Bytes.len H.Mem.Heap.Bytes.cap, .slice H.Mem.Heap.Class.a H.Mem.Heap.Class.len H.Mem.Heap.Class.cap, .slice H.Mem.Lists.Global.a H.Mem.Lists.Global.len H.Mem.Lists.Global.cap, .slice H.Mem.Lists.Own.a H.Mem.Lists.Own.len H.Mem.Lists.Own.cap, .int .i64 x.Clock.Epoch, .slice H.Clock.Pins.a H.Clock.Pins.len H.Clock.Pins.cap, .slice H.Limbo.a H.Limbo.len H.Limbo.cap, .slice H.Haz.a H.Haz.len H.Haz.cap] 60)) #[.slice H.Mem.Heap.Bytes.a H.Mem.Heap.Bytes.len H.Mem.Heap.Bytes.cap, .slice H.Mem.Heap.Class.a H.Mem.Heap.Class.len H.Mem.Heap.Class.cap] 52
      simp only [World.size_alloc] at hbx
      exact hbx
    have hB : Below w.heap.size w ((w.alloc (.cells #[.slice H.Mem.Heap.Bytes.a H.Mem.Heap.Bytes.len H.Mem.Heap.Bytes.cap, .slice H.Mem.Heap.Class.a H.Mem.Heap.Class.len H.Mem.Heap.Class.cap, .slice H.Mem.Lists.Global.a H.Mem.Lists.Global.len H.Mem.Lists.Global.cap, .slice H.Mem.Lists.Own.a H.Mem.Lists.Own.len H.Mem.Lists.Own.cap, .int .i64 x.Clock.Epoch, .slice H.Clock.Pins.a H.Clock.Pins.len H.Clock.Pins.cap, .slice H.Limbo.a H.Limbo.len H.Limbo.cap, .slice H.Haz.a H.Haz.len H.Haz.cap] 60)).alloc (.cells #[.slice H.Mem.Heap.Bytes.a H.Mem.Heap.Bytes.len H.Mem.Heap.Bytes.cap, .slice H.Mem.Heap.Class.a H.Mem.Heap.Class.len H.Mem.Heap.Class.cap] 52)) := by repeat (first | exact Below.refl _ _ | refine Below.alloc ?_ (by simp <;> omega) _ | refine below_grow_of ?_ (by simp <;> omega) _ _ | refine Below.drew ?_ | refine below_drewN ?_ _)
    go_enter Try.func42, Try.ntmps42
    go_wp2_with fail
    generalize hW0 : ((w.alloc (.cells #[.slice H.Mem.Heap.Bytes.a H.Mem.Heap.Bytes.len H.Mem.Heap.Bytes.cap, .slice H.Mem.Heap.Class.a H.Mem.Heap.Class.len H.Mem.Heap.Class.cap, .slice H.Mem.Lists.Global.a H.Mem.Lists.Global.len H.Mem.Lists.Global.cap, .slice H.Mem.Lists.Own.a H.Mem.Lists.Own.len H.Mem.Lists.Own.cap, .int .i64 x.Clock.Epoch, .slice H.Clock.Pins.a H.Clock.Pins.len H.Clock.Pins.cap, .slice H.Limbo.a H.Limbo.len H.Limbo.cap, .slice H.Haz.a H.Haz.len H.Haz.cap] 60)).alloc (.cells #[.slice H.Mem.Heap.Bytes.a H.Mem.Heap.Bytes.len H.Mem.Heap.Bytes.cap, .slice H.Mem.Heap.Class.a H.Mem.Heap.Class.len H.Mem.Heap.Class.cap] 52)) = w0 at B_a B_p hB ⊢
    clear hW0
    have zz_a := B_a.lt
    have zz_p := B_p.lt
    have q_a_0 := B_a.cell 0 _ rfl
    have q_a_1 := B_a.cell 1 _ rfl
    have q_a_2 := B_a.cell 2 _ rfl
    have q_a_3 := B_a.cell 3 _ rfl
    have q_a_4 := B_a.cell 4 _ rfl
    have q_a_5 := B_a.cell 5 _ rfl
    have q_a_6 := B_a.cell 6 _ rfl
    have q_a_7 := B_a.cell 7 _ rfl
    have fr_a := B_a.fro
    have z_a := B_a.lt
    have q_p_0 := B_p.cell 0 _ rfl
    have q_p_1 := B_p.cell 1 _ rfl
    have fr_p := B_p.fro
    have z_p := B_p.lt
    go_wp2_with (go_at_call 112; refine (HandleOk_impl _ _).mono ?_; rw [c1]; rintro e wv ⟨rfl, rfl⟩)
    refine (hca _ hB).mono ?_
    rintro e w1 ⟨rfl, hb⟩
    replace B_a := B_a.below hb
    replace B_p := B_p.below hb
    replace hB := hB.trans (hb.mono hB.size)
    have sz := hb.size
    clear hb
    replace q_a_0 := B_a.cell 0 _ rfl
    replace q_a_1 := B_a.cell 1 _ rfl
    replace q_a_2 := B_a.cell 2 _ rfl
    replace q_a_3 := B_a.cell 3 _ rfl
    replace q_a_4 := B_a.cell 4 _ rfl
    replace q_a_5 := B_a.cell 5 _ rfl
    replace q_a_6 := B_a.cell 6 _ rfl
    replace q_a_7 := B_a.cell 7 _ rfl
    replace fr_a := B_a.fro
    replace z_a := B_a.lt
    replace q_p_0 := B_p.cell 0 _ rfl
    replace q_p_1 := B_p.cell 1 _ rfl
    replace fr_p := B_p.fro
    replace z_p := B_p.lt
    clear hca
    go_wp2_with ((go_at_call 114; refine (isWidth_ct _ _).mono ?_; rw [c4]; rintro e wv ⟨rfl, rfl⟩))
    refine (hq _ hB).mono ?_
    rintro e w2 ⟨rfl, hb⟩
    replace B_a := B_a.below hb
    replace B_p := B_p.below hb
    replace hB := hB.trans (hb.mono hB.size)
    have sz := hb.size
    clear hb
    replace q_a_0 := B_a.cell 0 _ rfl
    replace q_a_1 := B_a.cell 1 _ rfl
    replace q_a_2 := B_a.cell 2 _ rfl
    replace q_a_3 := B_a.cell 3 _ rfl
    replace q_a_4 := B_a.cell 4 _ rfl
    replace q_a_5 := B_a.cell 5 _ rfl
    replace q_a_6 := B_a.cell 6 _ rfl
    replace q_a_7 := B_a.cell 7 _ rfl
    replace fr_a := B_a.fro
    replace z_a := B_a.lt
    replace q_p_0 := B_p.cell 0 _ rfl
    replace q_p_1 := B_p.cell 1 _ rfl
    replace fr_p := B_p.fro
    replace z_p := B_p.lt
    clear hq
    go_wp2
    go_ret2
    exact ⟨ret_ib HN.out, hB⟩
  have HN := Hid.mk_ (raw_yes c3 c1 c2 c4 c5)
  rw [if_pos c5] at hir
  rw [hir] at hq
  obtain ⟨g1, g2⟩ := inB_iff.1 c5
  obtain ⟨f1, f2, _, _⟩ := cls_start c2
  have sh := shape_of c3
  have hn : (x.Mem.Heap.Bytes.length : Int) = 384 := by rw [sh.bl]; rfl
  have p1 : 0 ≤ startAt (s % 32) (classInB x.Mem.Heap (s % 32)) + a := by omega
  have p2 : startAt (s % 32) (classInB x.Mem.Heap (s % 32)) + a + k ≤ x.Mem.Heap.Bytes.length := by omega
  have hq2 := fun (W : World) (hW : Below w.heap.size w W) => loadNum_impl W H.Mem.Heap.Bytes.val x.Mem.Heap.Bytes _ k (rd_up h.Mem.Heap.Bytes hW) p1 b1 b2 p2 sh.by_
  clear c5 hir hcl f1 f2 sh g1 g2 hn p2 h c3
  generalize startAt (s % 32) (classInB x.Mem.Heap (s % 32)) + a = p at *
  generalize classInB x.Mem.Heap (s % 32) = c at *
  have p3 : ¬ p < 0 := by omega
  have B_a : Box ((w.alloc (.cells #[.slice H.Mem.Heap.Bytes.a H.Mem.Heap.Bytes.len H.Mem.Heap.Bytes.cap, .slice H.Mem.Heap.Class.a H.Mem.Heap.Class.len H.Mem.Heap.Class.cap, .slice H.Mem.Lists.Global.a H.Mem.Lists.Global.len H.Mem.Lists.Global.cap, .slice H.Mem.Lists.Own.a H.Mem.Lists.Own.len H.Mem.Lists.Own.cap, .int .i64 x.Clock.Epoch, .slice H.Clock.Pins.a H.Clock.Pins.len H.Clock.Pins.cap, .slice H.Limbo.a H.Limbo.len H.Limbo.cap, .slice H.Haz.a H.Haz.len H.Haz.cap] 60)).alloc (.cells #[.slice H.Mem.Heap.Bytes.a H.Mem.Heap.Bytes.len H.Mem.Heap.Bytes.cap, .slice H.Mem.Heap.Class.a H.Mem.Heap.Class.len H.Mem.Heap.Class.cap] 52)) (w.heap.size) [.slice H.Mem.Heap.Bytes.a H.Mem.Heap.Bytes.len H.Mem.Heap.Bytes.cap, .slice H.Mem.Heap.Class.a H.Mem.Heap.Class.len H.Mem.Heap.Class.cap, .slice H.Mem.Lists.Global.a H.Mem.Lists.Global.len H.Mem.Lists.Global.cap, .slice H.Mem.Lists.Own.a H.Mem.Lists.Own.len H.Mem.Lists.Own.cap, .int .i64 x.Clock.Epoch, .slice H.Clock.Pins.a H.Clock.Pins.len H.Clock.Pins.cap, .slice H.Limbo.a H.Limbo.len H.Limbo.cap, .slice H.Haz.a H.Haz.len H.Haz.cap] := by
    have hbx := Box.new w #[.slice H.Mem.Heap.Bytes.a H.Mem.Heap.Bytes.len H.Mem.Heap.Bytes.cap, .slice H.Mem.Heap.Class.a H.Mem.Heap.Class.len H.Mem.Heap.Class.cap, .slice H.Mem.Lists.Global.a H.Mem.Lists.Global.len H.Mem.Lists.Global.cap, .slice H.Mem.Lists.Own.a H.Mem.Lists.Own.len H.Mem.Lists.Own.cap, .int .i64 x.Clock.Epoch, .slice H.Clock.Pins.a H.Clock.Pins.len H.Clock.Pins.cap, .slice H.Limbo.a H.Limbo.len H.Limbo.cap, .slice H.Haz.a H.Haz.len H.Haz.cap] 60
    exact (hbx).alloc _
  have B_p : Box ((w.alloc (.cells #[.slice H.Mem.Heap.Bytes.a H.Mem.Heap.Bytes.len H.Mem.Heap.Bytes.cap, .slice H.Mem.Heap.Class.a H.Mem.Heap.Class.len H.Mem.Heap.Class.cap, .slice H.Mem.Lists.Global.a H.Mem.Lists.Global.len H.Mem.Lists.Global.cap, .slice H.Mem.Lists.Own.a H.Mem.Lists.Own.len H.Mem.Lists.Own.cap, .int .i64 x.Clock.Epoch, .slice H.Clock.Pins.a H.Clock.Pins.len H.Clock.Pins.cap, .slice H.Limbo.a H.Limbo.len H.Limbo.cap, .slice H.Haz.a H.Haz.len H.Haz.cap] 60)).alloc (.cells #[.slice H.Mem.Heap.Bytes.a H.Mem.Heap.Bytes.len H.Mem.Heap.Bytes.cap, .slice H.Mem.Heap.Class.a H.Mem.Heap.Class.len H.Mem.Heap.Class.cap] 52)) (w.heap.size + 1) [.slice H.Mem.Heap.Bytes.a H.Mem.Heap.Bytes.len H.Mem.Heap.Bytes.cap, .slice H.Mem.Heap.Class.a H.Mem.Heap.Class.len H.Mem.Heap.Class.cap] := by
    have hbx := Box.new (w.alloc (.cells #[.slice H.Mem.Heap.Bytes.a H.Mem.Heap.Bytes.len H.Mem.Heap.Bytes.cap, .slice H.Mem.Heap.Class.a H.Mem.Heap.Class.len H.Mem.Heap.Class.cap, .slice H.Mem.Lists.Global.a H.Mem.Lists.Global.len H.Mem.Lists.Global.cap, .slice H.Mem.Lists.Own.a H.Mem.Lists.Own.len H.Mem.Lists.Own.cap, .int .i64 x.Clock.Epoch, .slice H.Clock.Pins.a H.Clock.Pins.len H.Clock.Pins.cap, .slice H.Limbo.a H.Limbo.len H.Limbo.cap, .slice H.Haz.a H.Haz.len H.Haz.cap] 60)) #[.slice H.Mem.Heap.Bytes.a H.Mem.Heap.Bytes.len H.Mem.Heap.Bytes.cap, .slice H.Mem.Heap.Class.a H.Mem.Heap.Class.len H.Mem.Heap.Class.cap] 52
    simp only [World.size_alloc] at hbx
    exact hbx
  have hB : Below w.heap.size w ((w.alloc (.cells #[.slice H.Mem.Heap.Bytes.a H.Mem.Heap.Bytes.len H.Mem.Heap.Bytes.cap, .slice H.Mem.Heap.Class.a H.Mem.Heap.Class.len H.Mem.Heap.Class.cap, .slice H.Mem.Lists.Global.a H.Mem.Lists.Global.len H.Mem.Lists.Global.cap, .slice H.Mem.Lists.Own.a H.Mem.Lists.Own.len H.Mem.Lists.Own.cap, .int .i64 x.Clock.Epoch, .slice H.Clock.Pins.a H.Clock.Pins.len H.Clock.Pins.cap, .slice H.Limbo.a H.Limbo.len H.Limbo.cap, .slice H.Haz.a H.Haz.len H.Haz.cap] 60)).alloc (.cells #[.slice H.Mem.Heap.Bytes.a H.Mem.Heap.Bytes.len H.Mem.Heap.Bytes.cap, .slice H.Mem.Heap.Class.a H.Mem.Heap.Class.len H.Mem.Heap.Class.cap] 52)) := by repeat (first | exact Below.refl _ _ | refine Below.alloc ?_ (by simp <;> omega) _ | refine below_grow_of ?_ (by simp <;> omega) _ _ | refine Below.drew ?_ | refine below_drewN ?_ _)
  go_enter Try.func42, Try.ntmps42
  go_wp2_with fail
  generalize hW0 : ((w.alloc (.cells #[.slice H.Mem.Heap.Bytes.a H.Mem.Heap.Bytes.len H.Mem.Heap.Bytes.cap, .slice H.Mem.Heap.Class.a H.Mem.Heap.Class.len H.Mem.Heap.Class.cap, .slice H.Mem.Lists.Global.a H.Mem.Lists.Global.len H.Mem.Lists.Global.cap, .slice H.Mem.Lists.Own.a H.Mem.Lists.Own.len H.Mem.Lists.Own.cap, .int .i64 x.Clock.Epoch, .slice H.Clock.Pins.a H.Clock.Pins.len H.Clock.Pins.cap, .slice H.Limbo.a H.Limbo.len H.Limbo.cap, .slice H.Haz.a H.Haz.len H.Haz.cap] 60)).alloc (.cells #[.slice H.Mem.Heap.Bytes.a H.Mem.Heap.Bytes.len H.Mem.Heap.Bytes.cap, .slice H.Mem.Heap.Class.a H.Mem.Heap.Class.len H.Mem.Heap.Class.cap] 52)) = w0 at B_a B_p hB ⊢
  clear hW0
  have zz_a := B_a.lt
  have zz_p := B_p.lt
  have q_a_0 := B_a.cell 0 _ rfl
  have q_a_1 := B_a.cell 1 _ rfl
  have q_a_2 := B_a.cell 2 _ rfl
  have q_a_3 := B_a.cell 3 _ rfl
  have q_a_4 := B_a.cell 4 _ rfl
  have q_a_5 := B_a.cell 5 _ rfl
  have q_a_6 := B_a.cell 6 _ rfl
  have q_a_7 := B_a.cell 7 _ rfl
  have fr_a := B_a.fro
  have z_a := B_a.lt
  have q_p_0 := B_p.cell 0 _ rfl
  have q_p_1 := B_p.cell 1 _ rfl
  have fr_p := B_p.fro
  have z_p := B_p.lt
  go_wp2_with (go_at_call 112; refine (HandleOk_impl _ _).mono ?_; rw [c1]; rintro e wv ⟨rfl, rfl⟩)
  refine (hca _ hB).mono ?_
  rintro e w1 ⟨rfl, hb⟩
  replace B_a := B_a.below hb
  replace B_p := B_p.below hb
  replace hB := hB.trans (hb.mono hB.size)
  have sz := hb.size
  clear hb
  replace q_a_0 := B_a.cell 0 _ rfl
  replace q_a_1 := B_a.cell 1 _ rfl
  replace q_a_2 := B_a.cell 2 _ rfl
  replace q_a_3 := B_a.cell 3 _ rfl
  replace q_a_4 := B_a.cell 4 _ rfl
  replace q_a_5 := B_a.cell 5 _ rfl
  replace q_a_6 := B_a.cell 6 _ rfl
  replace q_a_7 := B_a.cell 7 _ rfl
  replace fr_a := B_a.fro
  replace z_a := B_a.lt
  replace q_p_0 := B_p.cell 0 _ rfl
  replace q_p_1 := B_p.cell 1 _ rfl
  replace fr_p := B_p.fro
  replace z_p := B_p.lt
  clear hca
  go_wp2_with ((go_at_call 114; refine (isWidth_ct _ _).mono ?_; rw [c4]; rintro e wv ⟨rfl, rfl⟩))
  refine (hq _ hB).mono ?_
  rintro e w2 ⟨rfl, hb⟩
  replace B_a := B_a.below hb
  replace B_p := B_p.below hb
  replace hB := hB.trans (hb.mono hB.size)
  have sz := hb.size
  clear hb
  replace q_a_0 := B_a.cell 0 _ rfl
  replace q_a_1 := B_a.cell 1 _ rfl
  replace q_a_2 := B_a.cell 2 _ rfl
  replace q_a_3 := B_a.cell 3 _ rfl
  replace q_a_4 := B_a.cell 4 _ rfl
  replace q_a_5 := B_a.cell 5 _ rfl
  replace q_a_6 := B_a.cell 6 _ rfl
  replace q_a_7 := B_a.cell 7 _ rfl
  replace fr_a := B_a.fro
  replace z_a := B_a.lt
  replace q_p_0 := B_p.cell 0 _ rfl
  replace q_p_1 := B_p.cell 1 _ rfl
  replace fr_p := B_p.fro
  replace z_p := B_p.lt
  clear hq
  go_wp2_with (go_at_call 116; refine (hq2 _ hB).mono ?_; rintro e wv ⟨rfl, rfl⟩)
  go_ret2
  exact ⟨ret_ib HN.out, hB⟩
end Go.Proofs.Ytodbkbolpcbooaa
