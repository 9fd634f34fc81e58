/-
  RawLoad: the contract, the reference.
-/
import Derived.Test.YtodbkbolpcbooaaT
import Derived.Test.YtodbkbolpcbooaaL
import Derived.Deep.QuietTactic
import Derived.BigQuiet
import Derived.Deep.LoopGhost
import Derived.Deep.RegionHeld3
import Derived.Test.YtodbkbolpcbooaaN
import Derived.Test.YtodbkbolpcbooaaA
import Derived.WalkSpells
import Derived.Laws.Cover3
import Derived.Test.YtodbkbolpcbooaaRL
import Derived.Test.YtodbkbolpcbooaaMB
import Derived.IntWalk
namespace Go.Proofs.Ytodbkbolpcbooaa
open Go.RowKit

set_option maxRecDepth 100000 in
set_option maxHeartbeats 2000000 in
theorem l13Raw_spec (w : World) (H : HHeap) (x : Heap) (s a k : Int) (h : RdHeap w w.heap.size H x) (c3 : shapeB x = true) :
    Calls Try.prog 111 #[.agg #[.slice H.Bytes.a H.Bytes.len H.Bytes.cap, .slice H.Class.a H.Class.len H.Class.cap], .int .i64 s, .int .i64 a, .int .i64 k] w fun e w' => e = .returned (.tuple #[.int .i64 (rawP x s a k).1, .bool (rawP x s a k).2]) ∧ Below w.heap.size w w' := by
  by_cases c1 : handleOkB s = true
  case neg =>
    have c1' := (Bool.not_eq_true _).mp c1
    have HN := Hid.mk_ (raw_no (x := x) (h := s) (a := a) (k := k) (fun c => c1 c.2.1))
    clear c1 h
    have B_a : Box (w.alloc (.cells #[.slice H.Bytes.a H.Bytes.len H.Bytes.cap, .slice H.Class.a H.Class.len H.Class.cap] 52)) (w.heap.size) [.slice H.Bytes.a H.Bytes.len H.Bytes.cap, .slice H.Class.a H.Class.len H.Class.cap] := by
      have hbx := Box.new w #[.slice H.Bytes.a H.Bytes.len H.Bytes.cap, .slice H.Class.a H.Class.len H.Class.cap] 52
      exact hbx
    have hB : Below w.heap.size w (w.alloc (.cells #[.slice H.Bytes.a H.Bytes.len H.Bytes.cap, .slice H.Class.a H.Class.len H.Class.cap] 52)) := by repeat (first | exact Below.refl _ _ | refine Below.alloc ?_ (by simp <;> omega) _ | refine below_grow_of ?_ (by simp <;> omega) _ _ | refine Below.drew ?_ | refine below_drewN ?_ _)
    go_enter Try.func111, Try.ntmps111
    go_wp2_with fail
    generalize hW0 : (w.alloc (.cells #[.slice H.Bytes.a H.Bytes.len H.Bytes.cap, .slice H.Class.a H.Class.len H.Class.cap] 52)) = w0 at B_a hB ⊢
    clear hW0
    have zz_a := B_a.lt
    have q_a_0 := B_a.cell 0 _ rfl
    have q_a_1 := B_a.cell 1 _ rfl
    have fr_a := B_a.fro
    have z_a := B_a.lt
    go_wp2_with (go_at_call 181; refine (HandleOk_spec _ _).mono ?_; rw [c1']; rintro e wv ⟨rfl, rfl⟩)
    go_ret2
    exact ⟨ret_ib HN.out, by first | exact hB | exact hB.drew⟩
  obtain ⟨e1, e2, _, _, _, _⟩ := handleOk_bd c1
  by_cases c4 : inB 1 7 k = true
  case neg =>
    have c4' := (Bool.not_eq_true _).mp c4
    have HN := Hid.mk_ (raw_no (x := x) (h := s) (a := a) (k := k) (fun c => c4 c.2.2.2.1))
    clear c4 h c3
    have B_a : Box (w.alloc (.cells #[.slice H.Bytes.a H.Bytes.len H.Bytes.cap, .slice H.Class.a H.Class.len H.Class.cap] 52)) (w.heap.size) [.slice H.Bytes.a H.Bytes.len H.Bytes.cap, .slice H.Class.a H.Class.len H.Class.cap] := by
      have hbx := Box.new w #[.slice H.Bytes.a H.Bytes.len H.Bytes.cap, .slice H.Class.a H.Class.len H.Class.cap] 52
      exact hbx
    have hB : Below w.heap.size w (w.alloc (.cells #[.slice H.Bytes.a H.Bytes.len H.Bytes.cap, .slice H.Class.a H.Class.len H.Class.cap] 52)) := by repeat (first | exact Below.refl _ _ | refine Below.alloc ?_ (by simp <;> omega) _ | refine below_grow_of ?_ (by simp <;> omega) _ _ | refine Below.drew ?_ | refine below_drewN ?_ _)
    go_enter Try.func111, Try.ntmps111
    go_wp2_with fail
    generalize hW0 : (w.alloc (.cells #[.slice H.Bytes.a H.Bytes.len H.Bytes.cap, .slice H.Class.a H.Class.len H.Class.cap] 52)) = w0 at B_a hB ⊢
    clear hW0
    have zz_a := B_a.lt
    have q_a_0 := B_a.cell 0 _ rfl
    have q_a_1 := B_a.cell 1 _ rfl
    have fr_a := B_a.fro
    have z_a := B_a.lt
    go_wp2_with (first | (go_at_call 181; refine (HandleOk_spec _ _).mono ?_; rw [c1]; rintro e wv ⟨rfl, rfl⟩) | (go_at_call 73; refine (l1In_ct _ _ _ _).mono ?_; (first | rw [c4']); rintro e wv ⟨rfl, rfl⟩))
    go_ret2
    exact ⟨ret_ib HN.out, by first | exact hB | exact hB.drew⟩
  obtain ⟨b1, b2⟩ := inB_iff.1 c4
  have hcl := fun (W : World) (hW : Below w.heap.size w W) => l7Class_spec W H x (s % 32) (rdHeap_up h hW) c3
  have hsz := sizeOfC_bd (classInB x (s % 32))
  by_cases c2 : classInB x (s % 32) < 0
  case pos =>
    have HN := Hid.mk_ (raw_no (x := x) (h := s) (a := a) (k := k) (fun c => c.2.2.1 c2))
    clear h c3 hsz
    generalize classInB x (s % 32) = c at *
    have B_a : Box (w.alloc (.cells #[.slice H.Bytes.a H.Bytes.len H.Bytes.cap, .slice H.Class.a H.Class.len H.Class.cap] 52)) (w.heap.size) [.slice H.Bytes.a H.Bytes.len H.Bytes.cap, .slice H.Class.a H.Class.len H.Class.cap] := by
      have hbx := Box.new w #[.slice H.Bytes.a H.Bytes.len H.Bytes.cap, .slice H.Class.a H.Class.len H.Class.cap] 52
      exact hbx
    have hB : Below w.heap.size w (w.alloc (.cells #[.slice H.Bytes.a H.Bytes.len H.Bytes.cap, .slice H.Class.a H.Class.len H.Class.cap] 52)) := by repeat (first | exact Below.refl _ _ | refine Below.alloc ?_ (by simp <;> omega) _ | refine below_grow_of ?_ (by simp <;> omega) _ _ | refine Below.drew ?_ | refine below_drewN ?_ _)
    go_enter Try.func111, Try.ntmps111
    go_wp2_with fail
    generalize hW0 : (w.alloc (.cells #[.slice H.Bytes.a H.Bytes.len H.Bytes.cap, .slice H.Class.a H.Class.len H.Class.cap] 52)) = w0 at B_a hB ⊢
    clear hW0
    have zz_a := B_a.lt
    have q_a_0 := B_a.cell 0 _ rfl
    have q_a_1 := B_a.cell 1 _ rfl
    have fr_a := B_a.fro
    have z_a := B_a.lt
    go_wp2_with (first | (go_at_call 181; refine (HandleOk_spec _ _).mono ?_; rw [c1]; rintro e wv ⟨rfl, rfl⟩) | (go_at_call 73; refine (l1In_ct _ _ _ _).mono ?_; (first | rw [c4]); rintro e wv ⟨rfl, rfl⟩))
    go_region_with (first | (go_at_call 183; refine (HandleSlot_spec _ _ c1).mono ?_; rintro e wv ⟨rfl, rfl⟩) | (go_at_call 182; (first | ((with_reducible refine (hcl _ hB).mono ?_); rintro e wq ⟨rfl, hb⟩; replace B_a := B_a.below hb; replace hB := hB.trans (hb.mono hB.size); have sz := hb.size; clear hb; replace q_a_0 := B_a.cell 0 _ rfl; replace q_a_1 := B_a.cell 1 _ rfl; replace fr_a := B_a.fro; replace z_a := B_a.lt) | ((with_reducible refine (hcl _ hB.drew).mono ?_); rintro e wq ⟨rfl, hb⟩; replace hb := undrew hb; replace B_a := B_a.below hb; replace hB := hB.trans (hb.mono hB.size); have sz := hb.size; clear hb; replace q_a_0 := B_a.cell 0 _ rfl; replace q_a_1 := B_a.cell 1 _ rfl; replace fr_a := B_a.fro; replace z_a := B_a.lt))))
    all_goals
      go_wp2
      go_ret2
      exact ⟨ret_ib HN.out, by first | exact hB | exact hB.drew⟩
  have hcl0 := c2
  obtain ⟨z, hz⟩ : ∃ z, z = sizeOfC (classInB x (s % 32)) := ⟨_, rfl⟩
  have HZ := Hid.mk_ hz
  rw [← hz] at hsz
  by_cases d1 : inB 0 (z - 1) a = true
  case neg =>
    have d1' := (Bool.not_eq_true _).mp d1
    have HN := Hid.mk_ (raw_no (x := x) (h := s) (a := a) (k := k) (fun c => d1 (by have := inB_iff.1 c.2.2.2.2; rw [← hz] at this; exact inB_iff.2 ⟨this.1, by omega⟩)))
    clear h c3 d1 hz hcl0
    generalize classInB x (s % 32) = c at *
    have B_a : Box (w.alloc (.cells #[.slice H.Bytes.a H.Bytes.len H.Bytes.cap, .slice H.Class.a H.Class.len H.Class.cap] 52)) (w.heap.size) [.slice H.Bytes.a H.Bytes.len H.Bytes.cap, .slice H.Class.a H.Class.len H.Class.cap] := by
      have hbx := Box.new w #[.slice H.Bytes.a H.Bytes.len H.Bytes.cap, .slice H.Class.a H.Class.len H.Class.cap] 52
      exact hbx
    have hB : Below w.heap.size w (w.alloc (.cells #[.slice H.Bytes.a H.Bytes.len H.Bytes.cap, .slice H.Class.a H.Class.len H.Class.cap] 52)) := by repeat (first | exact Below.refl _ _ | refine Below.alloc ?_ (by simp <;> omega) _ | refine below_grow_of ?_ (by simp <;> omega) _ _ | refine Below.drew ?_ | refine below_drewN ?_ _)
    go_enter Try.func111, Try.ntmps111
    go_wp2_with fail
    generalize hW0 : (w.alloc (.cells #[.slice H.Bytes.a H.Bytes.len H.Bytes.cap, .slice H.Class.a H.Class.len H.Class.cap] 52)) = w0 at B_a hB ⊢
    clear hW0
    have zz_a := B_a.lt
    have q_a_0 := B_a.cell 0 _ rfl
    have q_a_1 := B_a.cell 1 _ rfl
    have fr_a := B_a.fro
    have z_a := B_a.lt
    go_wp2_with (first | (go_at_call 181; refine (HandleOk_spec _ _).mono ?_; rw [c1]; rintro e wv ⟨rfl, rfl⟩) | (go_at_call 73; refine (l1In_ct _ _ _ _).mono ?_; (first | rw [c4]); rintro e wv ⟨rfl, rfl⟩))
    go_region_with (first | (go_at_call 183; refine (HandleSlot_spec _ _ c1).mono ?_; rintro e wv ⟨rfl, rfl⟩) | (go_at_call 182; (first | ((with_reducible refine (hcl _ hB).mono ?_); rintro e wq ⟨rfl, hb⟩; replace B_a := B_a.below hb; replace hB := hB.trans (hb.mono hB.size); have sz := hb.size; clear hb; replace q_a_0 := B_a.cell 0 _ rfl; replace q_a_1 := B_a.cell 1 _ rfl; replace fr_a := B_a.fro; replace z_a := B_a.lt) | ((with_reducible refine (hcl _ hB.drew).mono ?_); rintro e wq ⟨rfl, hb⟩; replace hb := undrew hb; replace B_a := B_a.below hb; replace hB := hB.trans (hb.mono hB.size); have sz := hb.size; clear hb; replace q_a_0 := B_a.cell 0 _ rfl; replace q_a_1 := B_a.cell 1 _ rfl; replace fr_a := B_a.fro; replace z_a := B_a.lt))))
    all_goals
      go_wp2_with (first | (go_at_call 184; refine (SizeOf_spec _ _).mono ?_; rw [← HZ.out]; rintro e wv ⟨rfl, rfl⟩) | (go_at_call 73; refine (l1In_ct _ _ _ _).mono ?_; (first | rw [d1']); rintro e wv ⟨rfl, rfl⟩))
      go_ret2
      exact ⟨ret_ib HN.out, by first | exact hB | exact hB.drew⟩
  obtain ⟨g1, g2⟩ := inB_iff.1 d1
  by_cases d2 : z - a < k
  case pos =>
    have HN := Hid.mk_ (raw_no (x := x) (h := s) (a := a) (k := k) (fun c => by have := inB_iff.1 c.2.2.2.2; rw [← hz] at this; omega))
    clear h c3 hz hcl0
    generalize classInB x (s % 32) = c at *
    have B_a : Box (w.alloc (.cells #[.slice H.Bytes.a H.Bytes.len H.Bytes.cap, .slice H.Class.a H.Class.len H.Class.cap] 52)) (w.heap.size) [.slice H.Bytes.a H.Bytes.len H.Bytes.cap, .slice H.Class.a H.Class.len H.Class.cap] := by
      have hbx := Box.new w #[.slice H.Bytes.a H.Bytes.len H.Bytes.cap, .slice H.Class.a H.Class.len H.Class.cap] 52
      exact hbx
    have hB : Below w.heap.size w (w.alloc (.cells #[.slice H.Bytes.a H.Bytes.len H.Bytes.cap, .slice H.Class.a H.Class.len H.Class.cap] 52)) := by repeat (first | exact Below.refl _ _ | refine Below.alloc ?_ (by simp <;> omega) _ | refine below_grow_of ?_ (by simp <;> omega) _ _ | refine Below.drew ?_ | refine below_drewN ?_ _)
    go_enter Try.func111, Try.ntmps111
    go_wp2_with fail
    generalize hW0 : (w.alloc (.cells #[.slice H.Bytes.a H.Bytes.len H.Bytes.cap, .slice H.Class.a H.Class.len H.Class.cap] 52)) = w0 at B_a hB ⊢
    clear hW0
    have zz_a := B_a.lt
    have q_a_0 := B_a.cell 0 _ rfl
    have q_a_1 := B_a.cell 1 _ rfl
    have fr_a := B_a.fro
    have z_a := B_a.lt
    go_wp2_with (first | (go_at_call 181; refine (HandleOk_spec _ _).mono ?_; rw [c1]; rintro e wv ⟨rfl, rfl⟩) | (go_at_call 73; refine (l1In_ct _ _ _ _).mono ?_; (first | rw [c4]); rintro e wv ⟨rfl, rfl⟩))
    go_region_with (first | (go_at_call 183; refine (HandleSlot_spec _ _ c1).mono ?_; rintro e wv ⟨rfl, rfl⟩) | (go_at_call 182; (first | ((with_reducible refine (hcl _ hB).mono ?_); rintro e wq ⟨rfl, hb⟩; replace B_a := B_a.below hb; replace hB := hB.trans (hb.mono hB.size); have sz := hb.size; clear hb; replace q_a_0 := B_a.cell 0 _ rfl; replace q_a_1 := B_a.cell 1 _ rfl; replace fr_a := B_a.fro; replace z_a := B_a.lt) | ((with_reducible refine (hcl _ hB.drew).mono ?_); rintro e wq ⟨rfl, hb⟩; replace hb := undrew hb; replace B_a := B_a.below hb; replace hB := hB.trans (hb.mono hB.size); have sz := hb.size; clear hb; replace q_a_0 := B_a.cell 0 _ rfl; replace q_a_1 := B_a.cell 1 _ rfl; replace fr_a := B_a.fro; replace z_a := B_a.lt))))
    all_goals
      go_wp2_with (first | (go_at_call 184; refine (SizeOf_spec _ _).mono ?_; rw [← HZ.out]; rintro e wv ⟨rfl, rfl⟩) | (go_at_call 73; refine (l1In_ct _ _ _ _).mono ?_; (first | rw [d1]); rintro e wv ⟨rfl, rfl⟩))
      go_ret2
      exact ⟨ret_ib HN.out, by first | exact hB | exact hB.drew⟩
  have HN := Hid.mk_ (raw_yes c3 c1 c2 c4 (inB_iff.2 ⟨g1, by rw [← hz]; omega⟩))
  obtain ⟨f1, f2, _, _⟩ := cls_start c2
  rw [← hz] at f2
  have sh := shape_of c3
  have hn : (x.Bytes.length : Int) = 384 := by rw [sh.bl]; rfl
  have p1 : 0 ≤ startAt (s % 32) (classInB x (s % 32)) + a := by omega
  have p2 : startAt (s % 32) (classInB x (s % 32)) + a + k ≤ x.Bytes.length := by omega
  have p4 : startAt (s % 32) (classInB x (s % 32)) + a ≤ 384 := by omega
  have hst := fun W => StartOf_spec (s % 32) (classInB x (s % 32)) W
  have hq2 := fun (W : World) (hW : Below w.heap.size w W) => l3Load_spec W H.Bytes.val x.Bytes _ k (rd_up h.Bytes hW) p1 b1 b2 p2 sh.by_
  have p5 : startAt (s % 32) (classInB x (s % 32)) ≤ 384 := by omega
  have p6 : 0 ≤ startAt (s % 32) (classInB x (s % 32)) := by omega
  clear f1 f2 sh hn p2 h c3 hz hcl0
  generalize startAt (s % 32) (classInB x (s % 32)) = st at *
  generalize classInB x (s % 32) = c at *
  have hwr : IntKind.i64.wrap (st + a) = st + a := IntWalk.i64_in _ ⟨by omega, by omega⟩
  have B_a : Box (w.alloc (.cells #[.slice H.Bytes.a H.Bytes.len H.Bytes.cap, .slice H.Class.a H.Class.len H.Class.cap] 52)) (w.heap.size) [.slice H.Bytes.a H.Bytes.len H.Bytes.cap, .slice H.Class.a H.Class.len H.Class.cap] := by
    have hbx := Box.new w #[.slice H.Bytes.a H.Bytes.len H.Bytes.cap, .slice H.Class.a H.Class.len H.Class.cap] 52
    exact hbx
  have hB : Below w.heap.size w (w.alloc (.cells #[.slice H.Bytes.a H.Bytes.len H.Bytes.cap, .slice H.Class.a H.Class.len H.Class.cap] 52)) := by repeat (first | exact Below.refl _ _ | refine Below.alloc ?_ (by simp <;> omega) _ | refine below_grow_of ?_ (by simp <;> omega) _ _ | refine Below.drew ?_ | refine below_drewN ?_ _)
  go_enter Try.func111, Try.ntmps111
  go_wp2_with fail
  generalize hW0 : (w.alloc (.cells #[.slice H.Bytes.a H.Bytes.len H.Bytes.cap, .slice H.Class.a H.Class.len H.Class.cap] 52)) = w0 at B_a hB ⊢
  clear hW0
  have zz_a := B_a.lt
  have q_a_0 := B_a.cell 0 _ rfl
  have q_a_1 := B_a.cell 1 _ rfl
  have fr_a := B_a.fro
  have z_a := B_a.lt
  go_wp2_with (first | (go_at_call 181; refine (HandleOk_spec _ _).mono ?_; rw [c1]; rintro e wv ⟨rfl, rfl⟩) | (go_at_call 73; refine (l1In_ct _ _ _ _).mono ?_; (first | rw [c4]); rintro e wv ⟨rfl, rfl⟩))
  go_region_with (first | (go_at_call 183; refine (HandleSlot_spec _ _ c1).mono ?_; rintro e wv ⟨rfl, rfl⟩) | (go_at_call 182; (first | ((with_reducible refine (hcl _ hB).mono ?_); rintro e wq ⟨rfl, hb⟩; replace B_a := B_a.below hb; replace hB := hB.trans (hb.mono hB.size); have sz := hb.size; clear hb; replace q_a_0 := B_a.cell 0 _ rfl; replace q_a_1 := B_a.cell 1 _ rfl; replace fr_a := B_a.fro; replace z_a := B_a.lt) | ((with_reducible refine (hcl _ hB.drew).mono ?_); rintro e wq ⟨rfl, hb⟩; replace hb := undrew hb; replace B_a := B_a.below hb; replace hB := hB.trans (hb.mono hB.size); have sz := hb.size; clear hb; replace q_a_0 := B_a.cell 0 _ rfl; replace q_a_1 := B_a.cell 1 _ rfl; replace fr_a := B_a.fro; replace z_a := B_a.lt))))
  all_goals
    go_wp2_with (first | (go_at_call 184; refine (SizeOf_spec _ _).mono ?_; rw [← HZ.out]; rintro e wv ⟨rfl, rfl⟩) | (go_at_call 73; refine (l1In_ct _ _ _ _).mono ?_; (first | rw [d1]); rintro e wv ⟨rfl, rfl⟩))
    go_region_with (first | (go_at_call 183; refine (HandleSlot_spec _ _ c1).mono ?_; rintro e wv ⟨rfl, rfl⟩) | (go_at_call 186; refine (hst _).mono ?_; rintro e wv ⟨rfl, rfl⟩) | (go_at_call 185; refine (hq2 _ ?_).mono ?_; (first | exact hB | exact hB.drew); rintro e wv ⟨rfl, rfl⟩))
    all_goals
      go_wp2
      go_ret2
      exact ⟨ret_ib HN.out, by first | exact hB | exact hB.drew⟩

set_option maxRecDepth 100000 in
set_option maxHeartbeats 2000000 in
theorem RawLoad_spec (w : World) (H : HBase) (x : Base) (s a k : Int) (h : RdBase w w.heap.size H x) :
    Calls Try.prog 41 #[.agg #[.slice H.Mem.Heap.Bytes.a H.Mem.Heap.Bytes.len H.Mem.Heap.Bytes.cap, .slice H.Mem.Heap.Class.a H.Mem.Heap.Class.len H.Mem.Heap.Class.cap, .slice H.Mem.Lists.Global.a H.Mem.Lists.Global.len H.Mem.Lists.Global.cap, .slice H.Mem.Lists.Own.a H.Mem.Lists.Own.len H.Mem.Lists.Own.cap, .int .i64 x.Clock.Epoch, .slice H.Clock.Pins.a H.Clock.Pins.len H.Clock.Pins.cap, .slice H.Limbo.a H.Limbo.len H.Limbo.cap, .slice H.Haz.a H.Haz.len H.Haz.cap], .int .i64 s, .int .i64 a, .int .i64 k] w fun e w' => e = .returned (.tuple #[.int .i64 (rawP x.Mem.Heap s a k).1, .bool (rawP x.Mem.Heap s a k).2]) ∧ Below w.heap.size w w' := by
  have hsh := fun (W : World) (hW : Below w.heap.size w W) => l7Shape_spec W H.Mem.Heap x.Mem.Heap (rdHeap_up h.Mem.Heap hW)
  by_cases c3 : shapeB x.Mem.Heap = true
  case neg =>
    have c3' := (Bool.not_eq_true _).mp c3
    have HN := Hid.mk_ (raw_no (x := x.Mem.Heap) (h := s) (a := a) (k := k) (fun c => c3 c.1))
    rw [c3'] at hsh
    clear c3 h
    have B_a : Box (w.alloc (.cells #[.slice H.Mem.Heap.Bytes.a H.Mem.Heap.Bytes.len H.Mem.Heap.Bytes.cap, .slice H.Mem.Heap.Class.a H.Mem.Heap.Class.len H.Mem.Heap.Class.cap, .slice H.Mem.Lists.Global.a H.Mem.Lists.Global.len H.Mem.Lists.Global.cap, .slice H.Mem.Lists.Own.a H.Mem.Lists.Own.len H.Mem.Lists.Own.cap, .int .i64 x.Clock.Epoch, .slice H.Clock.Pins.a H.Clock.Pins.len H.Clock.Pins.cap, .slice H.Limbo.a H.Limbo.len H.Limbo.cap, .slice H.Haz.a H.Haz.len H.Haz.cap] 60)) (w.heap.size) [.slice H.Mem.Heap.Bytes.a H.Mem.Heap.Bytes.len H.Mem.Heap.Bytes.cap, .slice H.Mem.Heap.Class.a H.Mem.Heap.Class.len H.Mem.Heap.Class.cap, .slice H.Mem.Lists.Global.a H.Mem.Lists.Global.len H.Mem.Lists.Global.cap, .slice H.Mem.Lists.Own.a H.Mem.Lists.Own.len H.Mem.Lists.Own.cap, .int .i64 x.Clock.Epoch, .slice H.Clock.Pins.a H.Clock.Pins.len H.Clock.Pins.cap, .slice H.Limbo.a H.Limbo.len H.Limbo.cap, .slice H.Haz.a H.Haz.len H.Haz.cap] := by
      have hbx := Box.new w #[.slice H.Mem.Heap.Bytes.a H.Mem.Heap.Bytes.len H.Mem.Heap.Bytes.cap, .slice H.Mem.Heap.Class.a H.Mem.Heap.Class.len H.Mem.Heap.Class.cap, .slice H.Mem.Lists.Global.a H.Mem.Lists.Global.len H.Mem.Lists.Global.cap, .slice H.Mem.Lists.Own.a H.Mem.Lists.Own.len H.Mem.Lists.Own.cap, .int .i64 x.Clock.Epoch, .slice H.Clock.Pins.a H.Clock.Pins.len H.Clock.Pins.cap, .slice H.Limbo.a H.Limbo.len H.Limbo.cap, .slice H.Haz.a H.Haz.len H.Haz.cap] 60
      exact hbx
    have hB : Below w.heap.size w (w.alloc (.cells #[.slice H.Mem.Heap.Bytes.a H.Mem.Heap.Bytes.len H.Mem.Heap.Bytes.cap, .slice H.Mem.Heap.Class.a H.Mem.Heap.Class.len H.Mem.Heap.Class.cap, .slice H.Mem.Lists.Global.a H.Mem.Lists.Global.len H.Mem.Lists.Global.cap, .slice H.Mem.Lists.Own.a H.Mem.Lists.Own.len H.Mem.Lists.Own.cap, .int .i64 x.Clock.Epoch, .slice H.Clock.Pins.a H.Clock.Pins.len H.Clock.Pins.cap, .slice H.Limbo.a H.Limbo.len H.Limbo.cap, .slice H.Haz.a H.Haz.len H.Haz.cap] 60)) := by repeat (first | exact Below.refl _ _ | refine Below.alloc ?_ (by simp <;> omega) _ | refine below_grow_of ?_ (by simp <;> omega) _ _ | refine Below.drew ?_ | refine below_drewN ?_ _)
    go_enter Try.func41, Try.ntmps41
    go_wp2_with fail
    generalize hW0 : (w.alloc (.cells #[.slice H.Mem.Heap.Bytes.a H.Mem.Heap.Bytes.len H.Mem.Heap.Bytes.cap, .slice H.Mem.Heap.Class.a H.Mem.Heap.Class.len H.Mem.Heap.Class.cap, .slice H.Mem.Lists.Global.a H.Mem.Lists.Global.len H.Mem.Lists.Global.cap, .slice H.Mem.Lists.Own.a H.Mem.Lists.Own.len H.Mem.Lists.Own.cap, .int .i64 x.Clock.Epoch, .slice H.Clock.Pins.a H.Clock.Pins.len H.Clock.Pins.cap, .slice H.Limbo.a H.Limbo.len H.Limbo.cap, .slice H.Haz.a H.Haz.len H.Haz.cap] 60)) = w0 at B_a hB ⊢
    clear hW0
    have zz_a := B_a.lt
    have q_a_0 := B_a.cell 0 _ rfl
    have q_a_1 := B_a.cell 1 _ rfl
    have q_a_2 := B_a.cell 2 _ rfl
    have q_a_3 := B_a.cell 3 _ rfl
    have q_a_4 := B_a.cell 4 _ rfl
    have q_a_5 := B_a.cell 5 _ rfl
    have q_a_6 := B_a.cell 6 _ rfl
    have q_a_7 := B_a.cell 7 _ rfl
    have fr_a := B_a.fro
    have z_a := B_a.lt
    refine (hsh _ hB).mono ?_
    rintro e w1 ⟨rfl, hb⟩
    replace B_a := B_a.below hb
    replace hB := hB.trans (hb.mono hB.size)
    have sz := hb.size
    clear hb
    replace q_a_0 := B_a.cell 0 _ rfl
    replace q_a_1 := B_a.cell 1 _ rfl
    replace q_a_2 := B_a.cell 2 _ rfl
    replace q_a_3 := B_a.cell 3 _ rfl
    replace q_a_4 := B_a.cell 4 _ rfl
    replace q_a_5 := B_a.cell 5 _ rfl
    replace q_a_6 := B_a.cell 6 _ rfl
    replace q_a_7 := B_a.cell 7 _ rfl
    replace fr_a := B_a.fro
    replace z_a := B_a.lt
    go_wp2
    go_ret2
    exact ⟨ret_ib HN.out, by first | exact hB | exact hB.drew⟩
  have hrw := fun (W : World) (hW : Below w.heap.size w W) => l13Raw_spec W H.Mem.Heap x.Mem.Heap s a k (rdHeap_up h.Mem.Heap hW) c3
  rw [c3] at hsh
  have B_a : Box (w.alloc (.cells #[.slice H.Mem.Heap.Bytes.a H.Mem.Heap.Bytes.len H.Mem.Heap.Bytes.cap, .slice H.Mem.Heap.Class.a H.Mem.Heap.Class.len H.Mem.Heap.Class.cap, .slice H.Mem.Lists.Global.a H.Mem.Lists.Global.len H.Mem.Lists.Global.cap, .slice H.Mem.Lists.Own.a H.Mem.Lists.Own.len H.Mem.Lists.Own.cap, .int .i64 x.Clock.Epoch, .slice H.Clock.Pins.a H.Clock.Pins.len H.Clock.Pins.cap, .slice H.Limbo.a H.Limbo.len H.Limbo.cap, .slice H.Haz.a H.Haz.len H.Haz.cap] 60)) (w.heap.size) [.slice H.Mem.Heap.Bytes.a H.Mem.Heap.Bytes.len H.Mem.Heap.Bytes.cap, .slice H.Mem.Heap.Class.a H.Mem.Heap.Class.len H.Mem.Heap.Class.cap, .slice H.Mem.Lists.Global.a H.Mem.Lists.Global.len H.Mem.Lists.Global.cap, .slice H.Mem.Lists.Own.a H.Mem.Lists.Own.len H.Mem.Lists.Own.cap, .int .i64 x.Clock.Epoch, .slice H.Clock.Pins.a H.Clock.Pins.len H.Clock.Pins.cap, .slice H.Limbo.a H.Limbo.len H.Limbo.cap, .slice H.Haz.a H.Haz.len H.Haz.cap] := by
    have hbx := Box.new w #[.slice H.Mem.Heap.Bytes.a H.Mem.Heap.Bytes.len H.Mem.Heap.Bytes.cap, .slice H.Mem.Heap.Class.a H.Mem.Heap.Class.len H.Mem.Heap.Class.cap, .slice H.Mem.Lists.Global.a H.Mem.Lists.Global.len H.Mem.Lists.Global.cap, .slice H.Mem.Lists.Own.a H.Mem.Lists.Own.len H.Mem.Lists.Own.cap, .int .i64 x.Clock.Epoch, .slice H.Clock.Pins.a H.Clock.Pins.len H.Clock.Pins.cap, .slice H.Limbo.a H.Limbo.len H.Limbo.cap, .slice H.Haz.a H.Haz.len H.Haz.cap] 60
    exact hbx
  have hB : Below w.heap.size w (w.alloc (.cells #[.slice H.Mem.Heap.Bytes.a H.Mem.Heap.Bytes.len H.Mem.Heap.Bytes.cap, .slice H.Mem.Heap.Class.a H.Mem.Heap.Class.len H.Mem.Heap.Class.cap, .slice H.Mem.Lists.Global.a H.Mem.Lists.Global.len H.Mem.Lists.Global.cap, .slice H.Mem.Lists.Own.a H.Mem.Lists.Own.len H.Mem.Lists.Own.cap, .int .i64 x.Clock.Epoch, .slice H.Clock.Pins.a H.Clock.Pins.len H.Clock.Pins.cap, .slice H.Limbo.a H.Limbo.len H.Limbo.cap, .slice H.Haz.a H.Haz.len H.Haz.cap] 60)) := by repeat (first | exact Below.refl _ _ | refine Below.alloc ?_ (by simp <;> omega) _ | refine below_grow_of ?_ (by simp <;> omega) _ _ | refine Below.drew ?_ | refine below_drewN ?_ _)
  go_enter Try.func41, Try.ntmps41
  go_wp2_with fail
  generalize hW0 : (w.alloc (.cells #[.slice H.Mem.Heap.Bytes.a H.Mem.Heap.Bytes.len H.Mem.Heap.Bytes.cap, .slice H.Mem.Heap.Class.a H.Mem.Heap.Class.len H.Mem.Heap.Class.cap, .slice H.Mem.Lists.Global.a H.Mem.Lists.Global.len H.Mem.Lists.Global.cap, .slice H.Mem.Lists.Own.a H.Mem.Lists.Own.len H.Mem.Lists.Own.cap, .int .i64 x.Clock.Epoch, .slice H.Clock.Pins.a H.Clock.Pins.len H.Clock.Pins.cap, .slice H.Limbo.a H.Limbo.len H.Limbo.cap, .slice H.Haz.a H.Haz.len H.Haz.cap] 60)) = w0 at B_a hB ⊢
  clear hW0
  have zz_a := B_a.lt
  have q_a_0 := B_a.cell 0 _ rfl
  have q_a_1 := B_a.cell 1 _ rfl
  have q_a_2 := B_a.cell 2 _ rfl
  have q_a_3 := B_a.cell 3 _ rfl
  have q_a_4 := B_a.cell 4 _ rfl
  have q_a_5 := B_a.cell 5 _ rfl
  have q_a_6 := B_a.cell 6 _ rfl
  have q_a_7 := B_a.cell 7 _ rfl
  have fr_a := B_a.fro
  have z_a := B_a.lt
  refine (hsh _ hB).mono ?_
  rintro e w1 ⟨rfl, hb⟩
  replace B_a := B_a.below hb
  replace hB := hB.trans (hb.mono hB.size)
  have sz := hb.size
  clear hb
  replace q_a_0 := B_a.cell 0 _ rfl
  replace q_a_1 := B_a.cell 1 _ rfl
  replace q_a_2 := B_a.cell 2 _ rfl
  replace q_a_3 := B_a.cell 3 _ rfl
  replace q_a_4 := B_a.cell 4 _ rfl
  replace q_a_5 := B_a.cell 5 _ rfl
  replace q_a_6 := B_a.cell 6 _ rfl
  replace q_a_7 := B_a.cell 7 _ rfl
  replace fr_a := B_a.fro
  replace z_a := B_a.lt
  go_wp2_with fail
  refine (hrw _ hB).mono ?_
  rintro e w2 ⟨rfl, hb⟩
  replace B_a := B_a.below hb
  replace hB := hB.trans (hb.mono hB.size)
  have sz := hb.size
  clear hb
  replace q_a_0 := B_a.cell 0 _ rfl
  replace q_a_1 := B_a.cell 1 _ rfl
  replace q_a_2 := B_a.cell 2 _ rfl
  replace q_a_3 := B_a.cell 3 _ rfl
  replace q_a_4 := B_a.cell 4 _ rfl
  replace q_a_5 := B_a.cell 5 _ rfl
  replace q_a_6 := B_a.cell 6 _ rfl
  replace q_a_7 := B_a.cell 7 _ rfl
  replace fr_a := B_a.fro
  replace z_a := B_a.lt
  go_wp2
  go_ret2
  exact ⟨rfl, hB⟩
end Go.Proofs.Ytodbkbolpcbooaa
