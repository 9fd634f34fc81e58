/-
  Operations and jobs: made.
-/
import Derived.Test.YtdepckmjgpkjmaaT
import Derived.Test.YtdepckmjgpkjmaaL
import Derived.Deep.QuietTactic
import Derived.BigQuiet
import Derived.Deep.LoopGhost
import Derived.Deep.RegionHeld3
import Derived.Test.YtdepckmjgpkjmaaN
import Derived.Test.YtdepckmjgpkjmaaA
import Derived.WalkSpells
import Derived.Laws.Cover3
import Derived.Test.YtdepckmjgpkjmaaEQ
import Derived.Test.YtdepckmjgpkjmaaMR
import Derived.Deep.CutRange
namespace Go.Proofs.Ytdepckmjgpkjmaa
open Go.RowKit

set_option maxHeartbeats 2000000 in
theorem toSub_ct (a0 a1 a2 a3 a4 a5 a6 a7 a8 : Int) (a9 : Bool) (w : World) : Calls Try.prog 131 #[.agg #[.int .i64 a0, .int .i64 a1, .int .i64 a2, .int .i64 a3, .int .i64 a4, .int .i64 a5, .int .i64 a6, .int .i64 a7, .int .i64 a8, .bool a9]] w fun e w' => e = .returned (.agg #[.int .i64 a0, .int .i64 a1, .int .i64 a2, .int .i64 a3, .int .i64 a4, .int .i64 a5, .int .i64 a6, .int .i64 a7, .int .i64 a8, .bool a9]) ∧ Below w.heap.size w w' := by
  go_enter Try.func131, Try.ntmps131
  go_wp2
  refine bodyPost_ret (v := .agg #[.int .i64 a0, .int .i64 a1, .int .i64 a2, .int .i64 a3, .int .i64 a4, .int .i64 a5, .int .i64 a6, .int .i64 a7, .int .i64 a8, .bool a9]) (by simp [results, Try.results131, go_sem]) rfl ⟨rfl, ?_⟩
  repeat (first | exact Below.refl _ _ | refine Below.alloc ?_ (by simp <;> omega) _ | refine below_grow_of ?_ (by simp <;> omega) _ _ | refine Below.drew ?_ | refine below_drewN ?_ _)

set_option maxHeartbeats 2000000 in
theorem eqSub_ct (a0 a1 a2 a3 a4 a5 a6 a7 a8 : Int) (a9 : Bool) (w : World) : Calls Try.prog 137 #[.agg #[.int .i64 a0, .int .i64 a1, .int .i64 a2, .int .i64 a3, .int .i64 a4, .int .i64 a5, .int .i64 a6, .int .i64 a7, .int .i64 a8, .bool a9], .agg #[.int .i64 a0, .int .i64 a1, .int .i64 a2, .int .i64 a3, .int .i64 a4, .int .i64 a5, .int .i64 a6, .int .i64 a7, .int .i64 a8, .bool a9]] w fun e w' => e = .returned (.bool true) ∧ Below w.heap.size w w' := by
  go_enter Try.func137, Try.ntmps137
  go_wp2
  go_ret
  exact ⟨rfl, by repeat (first | exact Below.refl _ _ | refine Below.alloc ?_ (by simp <;> omega) _ | refine below_grow_of ?_ (by simp <;> omega) _ _ | refine Below.drew ?_ | refine below_drewN ?_ _)⟩

theorem Try.sizeJob : (Try.prog.info? 97).map (·.size) = some 21 := by kernel_rfl
set_option maxRecDepth 100000 in
set_option maxHeartbeats 4000000 in
theorem toJob_ct (a1 a2 a3 a4 a5 a6 a7 a8 a9 a10 a11 a12 a13 a14 a15 a17 a18 a19 a20 : Int) (a0 a16 : Bool) (w : World) : Calls Try.prog 85 #[.agg #[.bool a0, .int .i64 a1, .int .i64 a2, .int .i64 a3, .int .i64 a4, .int .i64 a5, .int .i64 a6, .int .i64 a7, .int .i64 a8, .int .i64 a9, .int .i64 a10, .int .i64 a11, .int .i64 a12, .int .i64 a13, .int .i64 a14, .int .i64 a15, .bool a16, .int .i64 a17, .int .i64 a18, .int .i64 a19, .int .i64 a20]] w fun e w' => e = .returned (.agg #[.bool a0, .int .i64 a1, .int .i64 a2, .int .i64 a3, .int .i64 a4, .int .i64 a5, .int .i64 a6, .int .i64 a7, .int .i64 a8, .int .i64 a9, .int .i64 a10, .int .i64 a11, .int .i64 a12, .int .i64 a13, .int .i64 a14, .int .i64 a15, .bool a16, .int .i64 a17, .int .i64 a18, .int .i64 a19, .int .i64 a20]) ∧ Below w.heap.size w w' := by
  have ba : Box (((w.alloc (.cells #[.bool a0, .int .i64 a1, .int .i64 a2, .int .i64 a3, .int .i64 a4, .int .i64 a5, .int .i64 a6, .int .i64 a7, .int .i64 a8, .int .i64 a9, .int .i64 a10, .int .i64 a11, .int .i64 a12, .int .i64 a13, .int .i64 a14, .int .i64 a15, .bool a16, .int .i64 a17, .int .i64 a18, .int .i64 a19, .int .i64 a20] 136)).alloc (.cells #[.bool false, .int .i64 0, .int .i64 0, .int .i64 0, .int .i64 0, .int .i64 0, .int .i64 0, .int .i64 0, .int .i64 0, .int .i64 0, .int .i64 0, .int .i64 0, .int .i64 0, .int .i64 0, .int .i64 0, .int .i64 0, .bool false, .int .i64 0, .int .i64 0, .int .i64 0, .int .i64 0] 97)).alloc (.cells #[.bool false, .int .i64 0, .int .i64 0, .int .i64 0, .int .i64 0, .int .i64 0, .int .i64 0, .int .i64 0, .int .i64 0, .int .i64 0, .int .i64 0, .int .i64 0, .int .i64 0, .int .i64 0, .int .i64 0, .int .i64 0, .bool false, .int .i64 0, .int .i64 0, .int .i64 0, .int .i64 0] 97)) w.heap.size [.bool a0, .int .i64 a1, .int .i64 a2, .int .i64 a3, .int .i64 a4, .int .i64 a5, .int .i64 a6, .int .i64 a7, .int .i64 a8, .int .i64 a9, .int .i64 a10, .int .i64 a11, .int .i64 a12, .int .i64 a13, .int .i64 a14, .int .i64 a15, .bool a16, .int .i64 a17, .int .i64 a18, .int .i64 a19, .int .i64 a20] := ((Box.new w #[.bool a0, .int .i64 a1, .int .i64 a2, .int .i64 a3, .int .i64 a4, .int .i64 a5, .int .i64 a6, .int .i64 a7, .int .i64 a8, .int .i64 a9, .int .i64 a10, .int .i64 a11, .int .i64 a12, .int .i64 a13, .int .i64 a14, .int .i64 a15, .bool a16, .int .i64 a17, .int .i64 a18, .int .i64 a19, .int .i64 a20] 136).alloc _).alloc _
  have br : Box (((w.alloc (.cells #[.bool a0, .int .i64 a1, .int .i64 a2, .int .i64 a3, .int .i64 a4, .int .i64 a5, .int .i64 a6, .int .i64 a7, .int .i64 a8, .int .i64 a9, .int .i64 a10, .int .i64 a11, .int .i64 a12, .int .i64 a13, .int .i64 a14, .int .i64 a15, .bool a16, .int .i64 a17, .int .i64 a18, .int .i64 a19, .int .i64 a20] 136)).alloc (.cells #[.bool false, .int .i64 0, .int .i64 0, .int .i64 0, .int .i64 0, .int .i64 0, .int .i64 0, .int .i64 0, .int .i64 0, .int .i64 0, .int .i64 0, .int .i64 0, .int .i64 0, .int .i64 0, .int .i64 0, .int .i64 0, .bool false, .int .i64 0, .int .i64 0, .int .i64 0, .int .i64 0] 97)).alloc (.cells #[.bool false, .int .i64 0, .int .i64 0, .int .i64 0, .int .i64 0, .int .i64 0, .int .i64 0, .int .i64 0, .int .i64 0, .int .i64 0, .int .i64 0, .int .i64 0, .int .i64 0, .int .i64 0, .int .i64 0, .int .i64 0, .bool false, .int .i64 0, .int .i64 0, .int .i64 0, .int .i64 0] 97)) (w.heap.size + 1) [.bool false, .int .i64 0, .int .i64 0, .int .i64 0, .int .i64 0, .int .i64 0, .int .i64 0, .int .i64 0, .int .i64 0, .int .i64 0, .int .i64 0, .int .i64 0, .int .i64 0, .int .i64 0, .int .i64 0, .int .i64 0, .bool false, .int .i64 0, .int .i64 0, .int .i64 0, .int .i64 0] := by have a := (Box.new (w.alloc (.cells #[.bool a0, .int .i64 a1, .int .i64 a2, .int .i64 a3, .int .i64 a4, .int .i64 a5, .int .i64 a6, .int .i64 a7, .int .i64 a8, .int .i64 a9, .int .i64 a10, .int .i64 a11, .int .i64 a12, .int .i64 a13, .int .i64 a14, .int .i64 a15, .bool a16, .int .i64 a17, .int .i64 a18, .int .i64 a19, .int .i64 a20] 136)) #[.bool false, .int .i64 0, .int .i64 0, .int .i64 0, .int .i64 0, .int .i64 0, .int .i64 0, .int .i64 0, .int .i64 0, .int .i64 0, .int .i64 0, .int .i64 0, .int .i64 0, .int .i64 0, .int .i64 0, .int .i64 0, .bool false, .int .i64 0, .int .i64 0, .int .i64 0, .int .i64 0] 97).alloc (.cells #[.bool false, .int .i64 0, .int .i64 0, .int .i64 0, .int .i64 0, .int .i64 0, .int .i64 0, .int .i64 0, .int .i64 0, .int .i64 0, .int .i64 0, .int .i64 0, .int .i64 0, .int .i64 0, .int .i64 0, .int .i64 0, .bool false, .int .i64 0, .int .i64 0, .int .i64 0, .int .i64 0] 97); simpa only [World.size_alloc] using a
  have bo : Box (((w.alloc (.cells #[.bool a0, .int .i64 a1, .int .i64 a2, .int .i64 a3, .int .i64 a4, .int .i64 a5, .int .i64 a6, .int .i64 a7, .int .i64 a8, .int .i64 a9, .int .i64 a10, .int .i64 a11, .int .i64 a12, .int .i64 a13, .int .i64 a14, .int .i64 a15, .bool a16, .int .i64 a17, .int .i64 a18, .int .i64 a19, .int .i64 a20] 136)).alloc (.cells #[.bool false, .int .i64 0, .int .i64 0, .int .i64 0, .int .i64 0, .int .i64 0, .int .i64 0, .int .i64 0, .int .i64 0, .int .i64 0, .int .i64 0, .int .i64 0, .int .i64 0, .int .i64 0, .int .i64 0, .int .i64 0, .bool false, .int .i64 0, .int .i64 0, .int .i64 0, .int .i64 0] 97)).alloc (.cells #[.bool false, .int .i64 0, .int .i64 0, .int .i64 0, .int .i64 0, .int .i64 0, .int .i64 0, .int .i64 0, .int .i64 0, .int .i64 0, .int .i64 0, .int .i64 0, .int .i64 0, .int .i64 0, .int .i64 0, .int .i64 0, .bool false, .int .i64 0, .int .i64 0, .int .i64 0, .int .i64 0] 97)) (w.heap.size + 1 + 1) [.bool false, .int .i64 0, .int .i64 0, .int .i64 0, .int .i64 0, .int .i64 0, .int .i64 0, .int .i64 0, .int .i64 0, .int .i64 0, .int .i64 0, .int .i64 0, .int .i64 0, .int .i64 0, .int .i64 0, .int .i64 0, .bool false, .int .i64 0, .int .i64 0, .int .i64 0, .int .i64 0] := by have a := Box.new ((w.alloc (.cells #[.bool a0, .int .i64 a1, .int .i64 a2, .int .i64 a3, .int .i64 a4, .int .i64 a5, .int .i64 a6, .int .i64 a7, .int .i64 a8, .int .i64 a9, .int .i64 a10, .int .i64 a11, .int .i64 a12, .int .i64 a13, .int .i64 a14, .int .i64 a15, .bool a16, .int .i64 a17, .int .i64 a18, .int .i64 a19, .int .i64 a20] 136)).alloc (.cells #[.bool false, .int .i64 0, .int .i64 0, .int .i64 0, .int .i64 0, .int .i64 0, .int .i64 0, .int .i64 0, .int .i64 0, .int .i64 0, .int .i64 0, .int .i64 0, .int .i64 0, .int .i64 0, .int .i64 0, .int .i64 0, .bool false, .int .i64 0, .int .i64 0, .int .i64 0, .int .i64 0] 97)) #[.bool false, .int .i64 0, .int .i64 0, .int .i64 0, .int .i64 0, .int .i64 0, .int .i64 0, .int .i64 0, .int .i64 0, .int .i64 0, .int .i64 0, .int .i64 0, .int .i64 0, .int .i64 0, .int .i64 0, .int .i64 0, .bool false, .int .i64 0, .int .i64 0, .int .i64 0, .int .i64 0] 97; simpa only [World.size_alloc] using a
  have hB : Below w.heap.size w (((w.alloc (.cells #[.bool a0, .int .i64 a1, .int .i64 a2, .int .i64 a3, .int .i64 a4, .int .i64 a5, .int .i64 a6, .int .i64 a7, .int .i64 a8, .int .i64 a9, .int .i64 a10, .int .i64 a11, .int .i64 a12, .int .i64 a13, .int .i64 a14, .int .i64 a15, .bool a16, .int .i64 a17, .int .i64 a18, .int .i64 a19, .int .i64 a20] 136)).alloc (.cells #[.bool false, .int .i64 0, .int .i64 0, .int .i64 0, .int .i64 0, .int .i64 0, .int .i64 0, .int .i64 0, .int .i64 0, .int .i64 0, .int .i64 0, .int .i64 0, .int .i64 0, .int .i64 0, .int .i64 0, .int .i64 0, .bool false, .int .i64 0, .int .i64 0, .int .i64 0, .int .i64 0] 97)).alloc (.cells #[.bool false, .int .i64 0, .int .i64 0, .int .i64 0, .int .i64 0, .int .i64 0, .int .i64 0, .int .i64 0, .int .i64 0, .int .i64 0, .int .i64 0, .int .i64 0, .int .i64 0, .int .i64 0, .int .i64 0, .int .i64 0, .bool false, .int .i64 0, .int .i64 0, .int .i64 0, .int .i64 0] 97)) := by repeat (first | exact Below.refl _ _ | refine Below.alloc ?_ (by simp <;> omega) _ | refine below_grow_of ?_ (by simp <;> omega) _ _ | refine Below.drew ?_ | refine below_drewN ?_ _)
  go_enter Try.func85, Try.ntmps85
  go_upto_region 2 with (fail)
  generalize hW0 : (((w.alloc (.cells #[.bool a0, .int .i64 a1, .int .i64 a2, .int .i64 a3, .int .i64 a4, .int .i64 a5, .int .i64 a6, .int .i64 a7, .int .i64 a8, .int .i64 a9, .int .i64 a10, .int .i64 a11, .int .i64 a12, .int .i64 a13, .int .i64 a14, .int .i64 a15, .bool a16, .int .i64 a17, .int .i64 a18, .int .i64 a19, .int .i64 a20] 136)).alloc (.cells #[.bool false, .int .i64 0, .int .i64 0, .int .i64 0, .int .i64 0, .int .i64 0, .int .i64 0, .int .i64 0, .int .i64 0, .int .i64 0, .int .i64 0, .int .i64 0, .int .i64 0, .int .i64 0, .int .i64 0, .int .i64 0, .bool false, .int .i64 0, .int .i64 0, .int .i64 0, .int .i64 0] 97)).alloc (.cells #[.bool false, .int .i64 0, .int .i64 0, .int .i64 0, .int .i64 0, .int .i64 0, .int .i64 0, .int .i64 0, .int .i64 0, .int .i64 0, .int .i64 0, .int .i64 0, .int .i64 0, .int .i64 0, .int .i64 0, .int .i64 0, .bool false, .int .i64 0, .int .i64 0, .int .i64 0, .int .i64 0] 97)) = w0 at ba br bo hB ⊢
  clear hW0
  have zz1 := ba.lt
  have zz2 := br.lt
  have zz3 := bo.lt
  have q0 := ba.cell 0 _ rfl
  have r0 := bo.cell 0 _ rfl
  have rf := bo.fro
  go_upto_region 3 with (fail)
  clear q0 r0 rf
  replace bo : Box (w0.setCell ⟨(w.heap.size + 1 + 1), 0, none⟩ (.bool a0)) (w.heap.size + 1 + 1) [.bool a0, .int .i64 0, .int .i64 0, .int .i64 0, .int .i64 0, .int .i64 0, .int .i64 0, .int .i64 0, .int .i64 0, .int .i64 0, .int .i64 0, .int .i64 0, .int .i64 0, .int .i64 0, .int .i64 0, .int .i64 0, .bool false, .int .i64 0, .int .i64 0, .int .i64 0, .int .i64 0] := (bo.set 0 (.bool a0))
  replace ba : Box (w0.setCell ⟨(w.heap.size + 1 + 1), 0, none⟩ (.bool a0)) w.heap.size [.bool a0, .int .i64 a1, .int .i64 a2, .int .i64 a3, .int .i64 a4, .int .i64 a5, .int .i64 a6, .int .i64 a7, .int .i64 a8, .int .i64 a9, .int .i64 a10, .int .i64 a11, .int .i64 a12, .int .i64 a13, .int .i64 a14, .int .i64 a15, .bool a16, .int .i64 a17, .int .i64 a18, .int .i64 a19, .int .i64 a20] := (ba.other (by omega) _)
  replace br : Box (w0.setCell ⟨(w.heap.size + 1 + 1), 0, none⟩ (.bool a0)) (w.heap.size + 1) [.bool false, .int .i64 0, .int .i64 0, .int .i64 0, .int .i64 0, .int .i64 0, .int .i64 0, .int .i64 0, .int .i64 0, .int .i64 0, .int .i64 0, .int .i64 0, .int .i64 0, .int .i64 0, .int .i64 0, .int .i64 0, .bool false, .int .i64 0, .int .i64 0, .int .i64 0, .int .i64 0] := (br.other (by omega) _)
  replace hB : Below w.heap.size w (w0.setCell ⟨(w.heap.size + 1 + 1), 0, none⟩ (.bool a0)) := (hB.setCell (by simp; omega) _)
  generalize hG : (w0.setCell ⟨(w.heap.size + 1 + 1), 0, none⟩ (.bool a0)) = w1 at ba br bo hB ⊢
  clear hG
  have q1 := ba.cell 1 _ rfl
  have q2 := ba.cell 2 _ rfl
  have q3 := ba.cell 3 _ rfl
  have q4 := ba.cell 4 _ rfl
  go_wp2_with fail
  refine (toOp_ct a1 a2 a3 a4  _).mono ?_
  rintro e w2 ⟨rfl, hb⟩
  replace ba := ba.below hb
  replace br := br.below hb
  replace bo := bo.below hb
  replace hB := hB.trans (hb.mono hB.size)
  clear hb q1 q2 q3 q4
  have r1 := bo.cell 1 _ rfl
  have r2 := bo.cell 2 _ rfl
  have r3 := bo.cell 3 _ rfl
  have r4 := bo.cell 4 _ rfl
  have rf := bo.fro
  go_upto_region 4 with (fail)
  clear r1 r2 r3 r4 rf
  replace bo : Box ((((w2.setCell ⟨(w.heap.size + 1 + 1), 1, none⟩ (.int .i64 a1)).setCell ⟨(w.heap.size + 1 + 1), 2, none⟩ (.int .i64 a2)).setCell ⟨(w.heap.size + 1 + 1), 3, none⟩ (.int .i64 a3)).setCell ⟨(w.heap.size + 1 + 1), 4, none⟩ (.int .i64 a4)) (w.heap.size + 1 + 1) [.bool a0, .int .i64 a1, .int .i64 a2, .int .i64 a3, .int .i64 a4, .int .i64 0, .int .i64 0, .int .i64 0, .int .i64 0, .int .i64 0, .int .i64 0, .int .i64 0, .int .i64 0, .int .i64 0, .int .i64 0, .int .i64 0, .bool false, .int .i64 0, .int .i64 0, .int .i64 0, .int .i64 0] := ((((bo.set 1 (.int .i64 a1)).set 2 (.int .i64 a2)).set 3 (.int .i64 a3)).set 4 (.int .i64 a4))
  replace ba : Box ((((w2.setCell ⟨(w.heap.size + 1 + 1), 1, none⟩ (.int .i64 a1)).setCell ⟨(w.heap.size + 1 + 1), 2, none⟩ (.int .i64 a2)).setCell ⟨(w.heap.size + 1 + 1), 3, none⟩ (.int .i64 a3)).setCell ⟨(w.heap.size + 1 + 1), 4, none⟩ (.int .i64 a4)) w.heap.size [.bool a0, .int .i64 a1, .int .i64 a2, .int .i64 a3, .int .i64 a4, .int .i64 a5, .int .i64 a6, .int .i64 a7, .int .i64 a8, .int .i64 a9, .int .i64 a10, .int .i64 a11, .int .i64 a12, .int .i64 a13, .int .i64 a14, .int .i64 a15, .bool a16, .int .i64 a17, .int .i64 a18, .int .i64 a19, .int .i64 a20] := ((((ba.other (by omega) _).other (by omega) _).other (by omega) _).other (by omega) _)
  replace br : Box ((((w2.setCell ⟨(w.heap.size + 1 + 1), 1, none⟩ (.int .i64 a1)).setCell ⟨(w.heap.size + 1 + 1), 2, none⟩ (.int .i64 a2)).setCell ⟨(w.heap.size + 1 + 1), 3, none⟩ (.int .i64 a3)).setCell ⟨(w.heap.size + 1 + 1), 4, none⟩ (.int .i64 a4)) (w.heap.size + 1) [.bool false, .int .i64 0, .int .i64 0, .int .i64 0, .int .i64 0, .int .i64 0, .int .i64 0, .int .i64 0, .int .i64 0, .int .i64 0, .int .i64 0, .int .i64 0, .int .i64 0, .int .i64 0, .int .i64 0, .int .i64 0, .bool false, .int .i64 0, .int .i64 0, .int .i64 0, .int .i64 0] := ((((br.other (by omega) _).other (by omega) _).other (by omega) _).other (by omega) _)
  replace hB : Below w.heap.size w ((((w2.setCell ⟨(w.heap.size + 1 + 1), 1, none⟩ (.int .i64 a1)).setCell ⟨(w.heap.size + 1 + 1), 2, none⟩ (.int .i64 a2)).setCell ⟨(w.heap.size + 1 + 1), 3, none⟩ (.int .i64 a3)).setCell ⟨(w.heap.size + 1 + 1), 4, none⟩ (.int .i64 a4)) := ((((hB.setCell (by simp; omega) _).setCell (by simp; omega) _).setCell (by simp; omega) _).setCell (by simp; omega) _)
  generalize hG : ((((w2.setCell ⟨(w.heap.size + 1 + 1), 1, none⟩ (.int .i64 a1)).setCell ⟨(w.heap.size + 1 + 1), 2, none⟩ (.int .i64 a2)).setCell ⟨(w.heap.size + 1 + 1), 3, none⟩ (.int .i64 a3)).setCell ⟨(w.heap.size + 1 + 1), 4, none⟩ (.int .i64 a4)) = w3 at ba br bo hB ⊢
  clear hG
  have q5 := ba.cell 5 _ rfl
  have r5 := bo.cell 5 _ rfl
  have rf := bo.fro
  go_upto_region 5 with (fail)
  clear q5 r5 rf
  replace bo : Box (w3.setCell ⟨(w.heap.size + 1 + 1), 5, none⟩ (.int .i64 a5)) (w.heap.size + 1 + 1) [.bool a0, .int .i64 a1, .int .i64 a2, .int .i64 a3, .int .i64 a4, .int .i64 a5, .int .i64 0, .int .i64 0, .int .i64 0, .int .i64 0, .int .i64 0, .int .i64 0, .int .i64 0, .int .i64 0, .int .i64 0, .int .i64 0, .bool false, .int .i64 0, .int .i64 0, .int .i64 0, .int .i64 0] := (bo.set 5 (.int .i64 a5))
  replace ba : Box (w3.setCell ⟨(w.heap.size + 1 + 1), 5, none⟩ (.int .i64 a5)) w.heap.size [.bool a0, .int .i64 a1, .int .i64 a2, .int .i64 a3, .int .i64 a4, .int .i64 a5, .int .i64 a6, .int .i64 a7, .int .i64 a8, .int .i64 a9, .int .i64 a10, .int .i64 a11, .int .i64 a12, .int .i64 a13, .int .i64 a14, .int .i64 a15, .bool a16, .int .i64 a17, .int .i64 a18, .int .i64 a19, .int .i64 a20] := (ba.other (by omega) _)
  replace br : Box (w3.setCell ⟨(w.heap.size + 1 + 1), 5, none⟩ (.int .i64 a5)) (w.heap.size + 1) [.bool false, .int .i64 0, .int .i64 0, .int .i64 0, .int .i64 0, .int .i64 0, .int .i64 0, .int .i64 0, .int .i64 0, .int .i64 0, .int .i64 0, .int .i64 0, .int .i64 0, .int .i64 0, .int .i64 0, .int .i64 0, .bool false, .int .i64 0, .int .i64 0, .int .i64 0, .int .i64 0] := (br.other (by omega) _)
  replace hB : Below w.heap.size w (w3.setCell ⟨(w.heap.size + 1 + 1), 5, none⟩ (.int .i64 a5)) := (hB.setCell (by simp; omega) _)
  generalize hG : (w3.setCell ⟨(w.heap.size + 1 + 1), 5, none⟩ (.int .i64 a5)) = w4 at ba br bo hB ⊢
  clear hG
  have q6 := ba.cell 6 _ rfl
  have r6 := bo.cell 6 _ rfl
  have rf := bo.fro
  go_upto_region 6 with (fail)
  clear q6 r6 rf
  replace bo : Box (w4.setCell ⟨(w.heap.size + 1 + 1), 6, none⟩ (.int .i64 a6)) (w.heap.size + 1 + 1) [.bool a0, .int .i64 a1, .int .i64 a2, .int .i64 a3, .int .i64 a4, .int .i64 a5, .int .i64 a6, .int .i64 0, .int .i64 0, .int .i64 0, .int .i64 0, .int .i64 0, .int .i64 0, .int .i64 0, .int .i64 0, .int .i64 0, .bool false, .int .i64 0, .int .i64 0, .int .i64 0, .int .i64 0] := (bo.set 6 (.int .i64 a6))
  replace ba : Box (w4.setCell ⟨(w.heap.size + 1 + 1), 6, none⟩ (.int .i64 a6)) w.heap.size [.bool a0, .int .i64 a1, .int .i64 a2, .int .i64 a3, .int .i64 a4, .int .i64 a5, .int .i64 a6, .int .i64 a7, .int .i64 a8, .int .i64 a9, .int .i64 a10, .int .i64 a11, .int .i64 a12, .int .i64 a13, .int .i64 a14, .int .i64 a15, .bool a16, .int .i64 a17, .int .i64 a18, .int .i64 a19, .int .i64 a20] := (ba.other (by omega) _)
  replace br : Box (w4.setCell ⟨(w.heap.size + 1 + 1), 6, none⟩ (.int .i64 a6)) (w.heap.size + 1) [.bool false, .int .i64 0, .int .i64 0, .int .i64 0, .int .i64 0, .int .i64 0, .int .i64 0, .int .i64 0, .int .i64 0, .int .i64 0, .int .i64 0, .int .i64 0, .int .i64 0, .int .i64 0, .int .i64 0, .int .i64 0, .bool false, .int .i64 0, .int .i64 0, .int .i64 0, .int .i64 0] := (br.other (by omega) _)
  replace hB : Below w.heap.size w (w4.setCell ⟨(w.heap.size + 1 + 1), 6, none⟩ (.int .i64 a6)) := (hB.setCell (by simp; omega) _)
  generalize hG : (w4.setCell ⟨(w.heap.size + 1 + 1), 6, none⟩ (.int .i64 a6)) = w5 at ba br bo hB ⊢
  clear hG
  have q7 := ba.cell 7 _ rfl
  have q8 := ba.cell 8 _ rfl
  have q9 := ba.cell 9 _ rfl
  have q10 := ba.cell 10 _ rfl
  have q11 := ba.cell 11 _ rfl
  have q12 := ba.cell 12 _ rfl
  have q13 := ba.cell 13 _ rfl
  have q14 := ba.cell 14 _ rfl
  have q15 := ba.cell 15 _ rfl
  have q16 := ba.cell 16 _ rfl
  go_wp2_with fail
  refine (toSub_ct a7 a8 a9 a10 a11 a12 a13 a14 a15 a16 _).mono ?_
  rintro e w6 ⟨rfl, hb⟩
  replace ba := ba.below hb
  replace br := br.below hb
  replace bo := bo.below hb
  replace hB := hB.trans (hb.mono hB.size)
  clear hb q7 q8 q9 q10 q11 q12 q13 q14 q15 q16
  have r7 := bo.cell 7 _ rfl
  have r8 := bo.cell 8 _ rfl
  have r9 := bo.cell 9 _ rfl
  have r10 := bo.cell 10 _ rfl
  have r11 := bo.cell 11 _ rfl
  have r12 := bo.cell 12 _ rfl
  have r13 := bo.cell 13 _ rfl
  have r14 := bo.cell 14 _ rfl
  have r15 := bo.cell 15 _ rfl
  have r16 := bo.cell 16 _ rfl
  have rf := bo.fro
  go_upto_region 7 with (fail)
  clear r7 r8 r9 r10 r11 r12 r13 r14 r15 r16 rf
  replace bo : Box ((((((((((w6.setCell ⟨(w.heap.size + 1 + 1), 7, none⟩ (.int .i64 a7)).setCell ⟨(w.heap.size + 1 + 1), 8, none⟩ (.int .i64 a8)).setCell ⟨(w.heap.size + 1 + 1), 9, none⟩ (.int .i64 a9)).setCell ⟨(w.heap.size + 1 + 1), 10, none⟩ (.int .i64 a10)).setCell ⟨(w.heap.size + 1 + 1), 11, none⟩ (.int .i64 a11)).setCell ⟨(w.heap.size + 1 + 1), 12, none⟩ (.int .i64 a12)).setCell ⟨(w.heap.size + 1 + 1), 13, none⟩ (.int .i64 a13)).setCell ⟨(w.heap.size + 1 + 1), 14, none⟩ (.int .i64 a14)).setCell ⟨(w.heap.size + 1 + 1), 15, none⟩ (.int .i64 a15)).setCell ⟨(w.heap.size + 1 + 1), 16, none⟩ (.bool a16)) (w.heap.size + 1 + 1) [.bool a0, .int .i64 a1, .int .i64 a2, .int .i64 a3, .int .i64 a4, .int .i64 a5, .int .i64 a6, .int .i64 a7, .int .i64 a8, .int .i64 a9, .int .i64 a10, .int .i64 a11, .int .i64 a12, .int .i64 a13, .int .i64 a14, .int .i64 a15, .bool a16, .int .i64 0, .int .i64 0, .int .i64 0, .int .i64 0] := ((((((((((bo.set 7 (.int .i64 a7)).set 8 (.int .i64 a8)).set 9 (.int .i64 a9)).set 10 (.int .i64 a10)).set 11 (.int .i64 a11)).set 12 (.int .i64 a12)).set 13 (.int .i64 a13)).set 14 (.int .i64 a14)).set 15 (.int .i64 a15)).set 16 (.bool a16))
  replace ba : Box ((((((((((w6.setCell ⟨(w.heap.size + 1 + 1), 7, none⟩ (.int .i64 a7)).setCell ⟨(w.heap.size + 1 + 1), 8, none⟩ (.int .i64 a8)).setCell ⟨(w.heap.size + 1 + 1), 9, none⟩ (.int .i64 a9)).setCell ⟨(w.heap.size + 1 + 1), 10, none⟩ (.int .i64 a10)).setCell ⟨(w.heap.size + 1 + 1), 11, none⟩ (.int .i64 a11)).setCell ⟨(w.heap.size + 1 + 1), 12, none⟩ (.int .i64 a12)).setCell ⟨(w.heap.size + 1 + 1), 13, none⟩ (.int .i64 a13)).setCell ⟨(w.heap.size + 1 + 1), 14, none⟩ (.int .i64 a14)).setCell ⟨(w.heap.size + 1 + 1), 15, none⟩ (.int .i64 a15)).setCell ⟨(w.heap.size + 1 + 1), 16, none⟩ (.bool a16)) w.heap.size [.bool a0, .int .i64 a1, .int .i64 a2, .int .i64 a3, .int .i64 a4, .int .i64 a5, .int .i64 a6, .int .i64 a7, .int .i64 a8, .int .i64 a9, .int .i64 a10, .int .i64 a11, .int .i64 a12, .int .i64 a13, .int .i64 a14, .int .i64 a15, .bool a16, .int .i64 a17, .int .i64 a18, .int .i64 a19, .int .i64 a20] := ((((((((((ba.other (by omega) _).other (by omega) _).other (by omega) _).other (by omega) _).other (by omega) _).other (by omega) _).other (by omega) _).other (by omega) _).other (by omega) _).other (by omega) _)
  replace br : Box ((((((((((w6.setCell ⟨(w.heap.size + 1 + 1), 7, none⟩ (.int .i64 a7)).setCell ⟨(w.heap.size + 1 + 1), 8, none⟩ (.int .i64 a8)).setCell ⟨(w.heap.size + 1 + 1), 9, none⟩ (.int .i64 a9)).setCell ⟨(w.heap.size + 1 + 1), 10, none⟩ (.int .i64 a10)).setCell ⟨(w.heap.size + 1 + 1), 11, none⟩ (.int .i64 a11)).setCell ⟨(w.heap.size + 1 + 1), 12, none⟩ (.int .i64 a12)).setCell ⟨(w.heap.size + 1 + 1), 13, none⟩ (.int .i64 a13)).setCell ⟨(w.heap.size + 1 + 1), 14, none⟩ (.int .i64 a14)).setCell ⟨(w.heap.size + 1 + 1), 15, none⟩ (.int .i64 a15)).setCell ⟨(w.heap.size + 1 + 1), 16, none⟩ (.bool a16)) (w.heap.size + 1) [.bool false, .int .i64 0, .int .i64 0, .int .i64 0, .int .i64 0, .int .i64 0, .int .i64 0, .int .i64 0, .int .i64 0, .int .i64 0, .int .i64 0, .int .i64 0, .int .i64 0, .int .i64 0, .int .i64 0, .int .i64 0, .bool false, .int .i64 0, .int .i64 0, .int .i64 0, .int .i64 0] := ((((((((((br.other (by omega) _).other (by omega) _).other (by omega) _).other (by omega) _).other (by omega) _).other (by omega) _).other (by omega) _).other (by omega) _).other (by omega) _).other (by omega) _)
  replace hB : Below w.heap.size w ((((((((((w6.setCell ⟨(w.heap.size + 1 + 1), 7, none⟩ (.int .i64 a7)).setCell ⟨(w.heap.size + 1 + 1), 8, none⟩ (.int .i64 a8)).setCell ⟨(w.heap.size + 1 + 1), 9, none⟩ (.int .i64 a9)).setCell ⟨(w.heap.size + 1 + 1), 10, none⟩ (.int .i64 a10)).setCell ⟨(w.heap.size + 1 + 1), 11, none⟩ (.int .i64 a11)).setCell ⟨(w.heap.size + 1 + 1), 12, none⟩ (.int .i64 a12)).setCell ⟨(w.heap.size + 1 + 1), 13, none⟩ (.int .i64 a13)).setCell ⟨(w.heap.size + 1 + 1), 14, none⟩ (.int .i64 a14)).setCell ⟨(w.heap.size + 1 + 1), 15, none⟩ (.int .i64 a15)).setCell ⟨(w.heap.size + 1 + 1), 16, none⟩ (.bool a16)) := ((((((((((hB.setCell (by simp; omega) _).setCell (by simp; omega) _).setCell (by simp; omega) _).setCell (by simp; omega) _).setCell (by simp; omega) _).setCell (by simp; omega) _).setCell (by simp; omega) _).setCell (by simp; omega) _).setCell (by simp; omega) _).setCell (by simp; omega) _)
  generalize hG : ((((((((((w6.setCell ⟨(w.heap.size + 1 + 1), 7, none⟩ (.int .i64 a7)).setCell ⟨(w.heap.size + 1 + 1), 8, none⟩ (.int .i64 a8)).setCell ⟨(w.heap.size + 1 + 1), 9, none⟩ (.int .i64 a9)).setCell ⟨(w.heap.size + 1 + 1), 10, none⟩ (.int .i64 a10)).setCell ⟨(w.heap.size + 1 + 1), 11, none⟩ (.int .i64 a11)).setCell ⟨(w.heap.size + 1 + 1), 12, none⟩ (.int .i64 a12)).setCell ⟨(w.heap.size + 1 + 1), 13, none⟩ (.int .i64 a13)).setCell ⟨(w.heap.size + 1 + 1), 14, none⟩ (.int .i64 a14)).setCell ⟨(w.heap.size + 1 + 1), 15, none⟩ (.int .i64 a15)).setCell ⟨(w.heap.size + 1 + 1), 16, none⟩ (.bool a16)) = w7 at ba br bo hB ⊢
  clear hG
  have q17 := ba.cell 17 _ rfl
  have r17 := bo.cell 17 _ rfl
  have rf := bo.fro
  go_upto_region 8 with (fail)
  clear q17 r17 rf
  replace bo : Box (w7.setCell ⟨(w.heap.size + 1 + 1), 17, none⟩ (.int .i64 a17)) (w.heap.size + 1 + 1) [.bool a0, .int .i64 a1, .int .i64 a2, .int .i64 a3, .int .i64 a4, .int .i64 a5, .int .i64 a6, .int .i64 a7, .int .i64 a8, .int .i64 a9, .int .i64 a10, .int .i64 a11, .int .i64 a12, .int .i64 a13, .int .i64 a14, .int .i64 a15, .bool a16, .int .i64 a17, .int .i64 0, .int .i64 0, .int .i64 0] := (bo.set 17 (.int .i64 a17))
  replace ba : Box (w7.setCell ⟨(w.heap.size + 1 + 1), 17, none⟩ (.int .i64 a17)) w.heap.size [.bool a0, .int .i64 a1, .int .i64 a2, .int .i64 a3, .int .i64 a4, .int .i64 a5, .int .i64 a6, .int .i64 a7, .int .i64 a8, .int .i64 a9, .int .i64 a10, .int .i64 a11, .int .i64 a12, .int .i64 a13, .int .i64 a14, .int .i64 a15, .bool a16, .int .i64 a17, .int .i64 a18, .int .i64 a19, .int .i64 a20] := (ba.other (by omega) _)
  replace br : Box (w7.setCell ⟨(w.heap.size + 1 + 1), 17, none⟩ (.int .i64 a17)) (w.heap.size + 1) [.bool false, .int .i64 0, .int .i64 0, .int .i64 0, .int .i64 0, .int .i64 0, .int .i64 0, .int .i64 0, .int .i64 0, .int .i64 0, .int .i64 0, .int .i64 0, .int .i64 0, .int .i64 0, .int .i64 0, .int .i64 0, .bool false, .int .i64 0, .int .i64 0, .int .i64 0, .int .i64 0] := (br.other (by omega) _)
  replace hB : Below w.heap.size w (w7.setCell ⟨(w.heap.size + 1 + 1), 17, none⟩ (.int .i64 a17)) := (hB.setCell (by simp; omega) _)
  generalize hG : (w7.setCell ⟨(w.heap.size + 1 + 1), 17, none⟩ (.int .i64 a17)) = w8 at ba br bo hB ⊢
  clear hG
  have q18 := ba.cell 18 _ rfl
  have r18 := bo.cell 18 _ rfl
  have rf := bo.fro
  go_upto_region 9 with (fail)
  clear q18 r18 rf
  replace bo : Box (w8.setCell ⟨(w.heap.size + 1 + 1), 18, none⟩ (.int .i64 a18)) (w.heap.size + 1 + 1) [.bool a0, .int .i64 a1, .int .i64 a2, .int .i64 a3, .int .i64 a4, .int .i64 a5, .int .i64 a6, .int .i64 a7, .int .i64 a8, .int .i64 a9, .int .i64 a10, .int .i64 a11, .int .i64 a12, .int .i64 a13, .int .i64 a14, .int .i64 a15, .bool a16, .int .i64 a17, .int .i64 a18, .int .i64 0, .int .i64 0] := (bo.set 18 (.int .i64 a18))
  replace ba : Box (w8.setCell ⟨(w.heap.size + 1 + 1), 18, none⟩ (.int .i64 a18)) w.heap.size [.bool a0, .int .i64 a1, .int .i64 a2, .int .i64 a3, .int .i64 a4, .int .i64 a5, .int .i64 a6, .int .i64 a7, .int .i64 a8, .int .i64 a9, .int .i64 a10, .int .i64 a11, .int .i64 a12, .int .i64 a13, .int .i64 a14, .int .i64 a15, .bool a16, .int .i64 a17, .int .i64 a18, .int .i64 a19, .int .i64 a20] := (ba.other (by omega) _)
  replace br : Box (w8.setCell ⟨(w.heap.size + 1 + 1), 18, none⟩ (.int .i64 a18)) (w.heap.size + 1) [.bool false, .int .i64 0, .int .i64 0, .int .i64 0, .int .i64 0, .int .i64 0, .int .i64 0, .int .i64 0, .int .i64 0, .int .i64 0, .int .i64 0, .int .i64 0, .int .i64 0, .int .i64 0, .int .i64 0, .int .i64 0, .bool false, .int .i64 0, .int .i64 0, .int .i64 0, .int .i64 0] := (br.other (by omega) _)
  replace hB : Below w.heap.size w (w8.setCell ⟨(w.heap.size + 1 + 1), 18, none⟩ (.int .i64 a18)) := (hB.setCell (by simp; omega) _)
  generalize hG : (w8.setCell ⟨(w.heap.size + 1 + 1), 18, none⟩ (.int .i64 a18)) = w9 at ba br bo hB ⊢
  clear hG
  have q19 := ba.cell 19 _ rfl
  have r19 := bo.cell 19 _ rfl
  have rf := bo.fro
  go_upto_region 10 with (fail)
  clear q19 r19 rf
  replace bo : Box (w9.setCell ⟨(w.heap.size + 1 + 1), 19, none⟩ (.int .i64 a19)) (w.heap.size + 1 + 1) [.bool a0, .int .i64 a1, .int .i64 a2, .int .i64 a3, .int .i64 a4, .int .i64 a5, .int .i64 a6, .int .i64 a7, .int .i64 a8, .int .i64 a9, .int .i64 a10, .int .i64 a11, .int .i64 a12, .int .i64 a13, .int .i64 a14, .int .i64 a15, .bool a16, .int .i64 a17, .int .i64 a18, .int .i64 a19, .int .i64 0] := (bo.set 19 (.int .i64 a19))
  replace ba : Box (w9.setCell ⟨(w.heap.size + 1 + 1), 19, none⟩ (.int .i64 a19)) w.heap.size [.bool a0, .int .i64 a1, .int .i64 a2, .int .i64 a3, .int .i64 a4, .int .i64 a5, .int .i64 a6, .int .i64 a7, .int .i64 a8, .int .i64 a9, .int .i64 a10, .int .i64 a11, .int .i64 a12, .int .i64 a13, .int .i64 a14, .int .i64 a15, .bool a16, .int .i64 a17, .int .i64 a18, .int .i64 a19, .int .i64 a20] := (ba.other (by omega) _)
  replace br : Box (w9.setCell ⟨(w.heap.size + 1 + 1), 19, none⟩ (.int .i64 a19)) (w.heap.size + 1) [.bool false, .int .i64 0, .int .i64 0, .int .i64 0, .int .i64 0, .int .i64 0, .int .i64 0, .int .i64 0, .int .i64 0, .int .i64 0, .int .i64 0, .int .i64 0, .int .i64 0, .int .i64 0, .int .i64 0, .int .i64 0, .bool false, .int .i64 0, .int .i64 0, .int .i64 0, .int .i64 0] := (br.other (by omega) _)
  replace hB : Below w.heap.size w (w9.setCell ⟨(w.heap.size + 1 + 1), 19, none⟩ (.int .i64 a19)) := (hB.setCell (by simp; omega) _)
  generalize hG : (w9.setCell ⟨(w.heap.size + 1 + 1), 19, none⟩ (.int .i64 a19)) = w10 at ba br bo hB ⊢
  clear hG
  have q20 := ba.cell 20 _ rfl
  have r20 := bo.cell 20 _ rfl
  have rf := bo.fro
  go_upto_region 11 with (fail)
  clear q20 r20 rf
  replace bo : Box (w10.setCell ⟨(w.heap.size + 1 + 1), 20, none⟩ (.int .i64 a20)) (w.heap.size + 1 + 1) [.bool a0, .int .i64 a1, .int .i64 a2, .int .i64 a3, .int .i64 a4, .int .i64 a5, .int .i64 a6, .int .i64 a7, .int .i64 a8, .int .i64 a9, .int .i64 a10, .int .i64 a11, .int .i64 a12, .int .i64 a13, .int .i64 a14, .int .i64 a15, .bool a16, .int .i64 a17, .int .i64 a18, .int .i64 a19, .int .i64 a20] := (bo.set 20 (.int .i64 a20))
  replace ba : Box (w10.setCell ⟨(w.heap.size + 1 + 1), 20, none⟩ (.int .i64 a20)) w.heap.size [.bool a0, .int .i64 a1, .int .i64 a2, .int .i64 a3, .int .i64 a4, .int .i64 a5, .int .i64 a6, .int .i64 a7, .int .i64 a8, .int .i64 a9, .int .i64 a10, .int .i64 a11, .int .i64 a12, .int .i64 a13, .int .i64 a14, .int .i64 a15, .bool a16, .int .i64 a17, .int .i64 a18, .int .i64 a19, .int .i64 a20] := (ba.other (by omega) _)
  replace br : Box (w10.setCell ⟨(w.heap.size + 1 + 1), 20, none⟩ (.int .i64 a20)) (w.heap.size + 1) [.bool false, .int .i64 0, .int .i64 0, .int .i64 0, .int .i64 0, .int .i64 0, .int .i64 0, .int .i64 0, .int .i64 0, .int .i64 0, .int .i64 0, .int .i64 0, .int .i64 0, .int .i64 0, .int .i64 0, .int .i64 0, .bool false, .int .i64 0, .int .i64 0, .int .i64 0, .int .i64 0] := (br.other (by omega) _)
  replace hB : Below w.heap.size w (w10.setCell ⟨(w.heap.size + 1 + 1), 20, none⟩ (.int .i64 a20)) := (hB.setCell (by simp; omega) _)
  generalize hG : (w10.setCell ⟨(w.heap.size + 1 + 1), 20, none⟩ (.int .i64 a20)) = w11 at ba br bo hB ⊢
  clear hG
  have hu := Try.underlying97
  have hr0 : w11.rangeAt (w.heap.size + 1 + 1) 0 [.bool a0, .int .i64 a1, .int .i64 a2, .int .i64 a3, .int .i64 a4, .int .i64 a5, .int .i64 a6, .int .i64 a7, .int .i64 a8, .int .i64 a9, .int .i64 a10, .int .i64 a11, .int .i64 a12, .int .i64 a13, .int .i64 a14, .int .i64 a15, .bool a16, .int .i64 a17, .int .i64 a18, .int .i64 a19, .int .i64 a20] := fun j v hv => by rw [Nat.zero_add]; exact bo.cell j v hv
  have ht0 : w11.there (w.heap.size + 1) 0 21 := fun j hj => by rw [Nat.zero_add]; exact ⟨by rw [br.cell j _ (List.getElem?_eq_getElem (by simpa using hj))]; rfl, br.fro j⟩
  clear ba br bo zz1 zz2 zz3
  have hE := Hid.mk_ (show ([.bool a0, .int .i64 a1, .int .i64 a2, .int .i64 a3, .int .i64 a4, .int .i64 a5, .int .i64 a6, .int .i64 a7, .int .i64 a8, .int .i64 a9, .int .i64 a10, .int .i64 a11, .int .i64 a12, .int .i64 a13, .int .i64 a14, .int .i64 a15, .bool a16, .int .i64 a17, .int .i64 a18, .int .i64 a19, .int .i64 a20] : List Value).length = 21 from rfl)
  have hO := Hid.mk_ (show ∀ v ∈ ([.bool a0, .int .i64 a1, .int .i64 a2, .int .i64 a3, .int .i64 a4, .int .i64 a5, .int .i64 a6, .int .i64 a7, .int .i64 a8, .int .i64 a9, .int .i64 a10, .int .i64 a11, .int .i64 a12, .int .i64 a13, .int .i64 a14, .int .i64 a15, .bool a16, .int .i64 a17, .int .i64 a18, .int .i64 a19, .int .i64 a20] : List Value), v.oneCell' = true from FJob.one ⟨a0, ⟨a1, a2, a3, a4⟩, a5, a6, ⟨a7, a8, a9, a10, a11, a12, a13, a14, a15, a16⟩, a17, a18, a19, a20⟩)
  obtain ⟨cs, hL⟩ : ∃ cs : List Value, cs = [.bool a0, .int .i64 a1, .int .i64 a2, .int .i64 a3, .int .i64 a4, .int .i64 a5, .int .i64 a6, .int .i64 a7, .int .i64 a8, .int .i64 a9, .int .i64 a10, .int .i64 a11, .int .i64 a12, .int .i64 a13, .int .i64 a14, .int .i64 a15, .bool a16, .int .i64 a17, .int .i64 a18, .int .i64 a19, .int .i64 a20] := ⟨_, rfl⟩
  rw [← hL] at hr0 hE hO
  have HL := Hid.mk_ (show (.agg #[.bool a0, .int .i64 a1, .int .i64 a2, .int .i64 a3, .int .i64 a4, .int .i64 a5, .int .i64 a6, .int .i64 a7, .int .i64 a8, .int .i64 a9, .int .i64 a10, .int .i64 a11, .int .i64 a12, .int .i64 a13, .int .i64 a14, .int .i64 a15, .bool a16, .int .i64 a17, .int .i64 a18, .int .i64 a19, .int .i64 a20] : Value) = .agg cs.toArray by rw [hL])
  clear hL
  have hi : Hid ((Try.prog.info? 97).map (·.size) = some cs.length) := Hid.mk_ (by rw [hE.out]; exact Try.sizeJob)
  have hU := Hid.mk_ hu
  have ht1 : w11.there (w.heap.size + 1) 0 cs.length := by rw [hE.out]; exact ht0
  have hl2 := Hid.mk_ (run_loadVar_mid (w11.setCells (w.heap.size + 1) 0 cs) (w.heap.size + 1) 0 97 cs _ (World.rangeAt_setCells_same _ _ _ _ ht1) hu rfl hi.out)
  clear hu ht0
  go_wp2_with (first | (refine wpList_load_mid rfl 97 (.tmp 3) rfl (w.heap.size + 1 + 1) 0 rfl cs _ hr0 hU.out rfl hi.out ?_) | (refine wpList_store_mid rfl 97 (.tmp 2) (.tmp 33) rfl (w.heap.size + 1) 0 cs.toArray rfl rfl ht1 hi.out (all_oneCell_toArray hO.out) ?_))
  exact bodyPost_ret (v := .agg cs.toArray) (results_cell_of Try.results85 rfl hl2.out) rfl ⟨by rw [HL.out], Below.setCells (by omega) _ _ hB⟩
end Go.Proofs.Ytdepckmjgpkjmaa
