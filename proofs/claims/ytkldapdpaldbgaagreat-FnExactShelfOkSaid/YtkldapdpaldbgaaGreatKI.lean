/-
  ShelfOk of the program: the contract.
-/
import Derived.Test.YtkldapdpaldbgaaGreatT
import Derived.Test.YtkldapdpaldbgaaGreatL
import Derived.Deep.QuietTactic
import Derived.BigQuiet
import Derived.Deep.LoopGhost
import Derived.Deep.RegionHeld3
import Derived.Test.YtkldapdpaldbgaaGreatN
import Derived.Test.YtkldapdpaldbgaaGreatA
import Derived.WalkSpells
import Derived.Laws.Cover3
import Derived.Test.YtkldapdpaldbgaaGreatTD
import Derived.Test.YtkldapdpaldbgaaGreatQE
import Derived.Test.YtkldapdpaldbgaaGreatBS
import Derived.Test.YtkldapdpaldbgaaGreatWS
namespace Go.Proofs.YtkldapdpaldbgaaGreat
open Go.RowKit
attribute [local go_sem ↓] execJob
attribute [local go_sem] loadResJob

def zeroJob : Job := ⟨false, ⟨0, 0, 0, 0⟩, 0, 0, ⟨0, 0, 0, 0, 0, 0, 0, 0, 0, false⟩, 0, 0, 0, 0⟩
def jobOkB (j : Job) : Bool := if j.Busy = true then opOkS j.Op && Lim.linkB j.H && Lim.linkB j.Old else decide (j = zeroJob)
def shelfOkB (x : Shelf) : Bool := baseOkB x.Base && (x.Cells.length == 2) && (x.Jobs.length == 3) && todoOkB x.Todo && inB 0 1000000 x.Serial && !(x.Cells.any fun h => !Lim.linkB h) && !(x.Jobs.any fun j => !jobOkB j)
theorem below_eq {e : Ending} {v : Ending} {w w' : World} (h : e = v ∧ w' = w) : e = v ∧ Below w.heap.size w w' := ⟨h.1, by rw [h.2]; exact Below.refl _ _⟩
theorem below_eq' {e : Ending} {v : Ending} {w w' : World} (h : e = v ∧ w = w') : e = v ∧ Below w.heap.size w w' := ⟨h.1, by rw [h.2]; exact Below.refl _ _⟩
theorem job_zero_ok : jobOkB zeroJob = true := by simp [jobOkB, zeroJob]

set_option maxRecDepth 100000 in
set_option maxHeartbeats 2000000 in
theorem jobOk_impl (x : Job) (w : World) : Calls Tryz.prog 116 #[.agg (FJob.enc x).toArray] w fun e w' => e = .returned (.bool (jobOkB x)) ∧ Below w.heap.size w w' := by
  show Calls Tryz.prog 116 #[.agg #[.bool x.Busy, .int .i64 x.Op.Kind, .int .i64 x.Op.Cell, .int .i64 x.Op.Size, .int .i64 x.Op.Val, .int .i64 x.Serial, .int .i64 x.Pc, .int .i64 x.Sub.Kind, .int .i64 x.Sub.A, .int .i64 x.Sub.Pc, .int .i64 x.Sub.E, .int .i64 x.Sub.Row, .int .i64 x.Sub.B, .int .i64 x.Sub.H, .int .i64 x.Sub.Out, .int .i64 x.Sub.Code, .bool x.Sub.Done, .int .i64 x.H, .int .i64 x.Old, .int .i64 x.Val, .int .i64 x.Code]] _ _
  have hq : ∀ W : World, (binOp .eql 146 (.agg (FJob.enc x).toArray) (.agg #[.bool false, .int .i64 0, .int .i64 0, .int .i64 0, .int .i64 0, .int .i64 0, .int .i64 0, .int .i64 0, .int .i64 0, .int .i64 0, .int .i64 0, .int .i64 0, .int .i64 0, .int .i64 0, .int .i64 0, .int .i64 0, .bool false, .int .i64 0, .int .i64 0, .int .i64 0, .int .i64 0])).run Tryz.prog W = .ok (.bool (decide (x = zeroJob))) W := fun W => eqlRunJob x zeroJob W
  obtain ⟨cs, hcs⟩ : ∃ cs, cs = FJob.enc x := ⟨_, rfl⟩
  have hlen : cs.length = 21 := by rw [hcs]; exact FJob.len x
  have hr : row? (w.alloc (.cells #[.bool x.Busy, .int .i64 x.Op.Kind, .int .i64 x.Op.Cell, .int .i64 x.Op.Size, .int .i64 x.Op.Val, .int .i64 x.Serial, .int .i64 x.Pc, .int .i64 x.Sub.Kind, .int .i64 x.Sub.A, .int .i64 x.Sub.Pc, .int .i64 x.Sub.E, .int .i64 x.Sub.Row, .int .i64 x.Sub.B, .int .i64 x.Sub.H, .int .i64 x.Sub.Out, .int .i64 x.Sub.Code, .bool x.Sub.Done, .int .i64 x.H, .int .i64 x.Old, .int .i64 x.Val, .int .i64 x.Code] 146)) w.heap.size 0 21 = some cs := row?_of (by rw [hcs]; exact fun j v hv => by rw [Nat.zero_add]; exact (Box.new w #[.bool x.Busy, .int .i64 x.Op.Kind, .int .i64 x.Op.Cell, .int .i64 x.Op.Size, .int .i64 x.Op.Val, .int .i64 x.Serial, .int .i64 x.Pc, .int .i64 x.Sub.Kind, .int .i64 x.Sub.A, .int .i64 x.Sub.Pc, .int .i64 x.Sub.E, .int .i64 x.Sub.Row, .int .i64 x.Sub.B, .int .i64 x.Sub.H, .int .i64 x.Sub.Out, .int .i64 x.Sub.Code, .bool x.Sub.Done, .int .i64 x.H, .int .i64 x.Old, .int .i64 x.Val, .int .i64 x.Code] 146).cell j v hv) hlen
  rw [← hcs] at hq
  have HV : Hid (jobOkB x = if x.Busy = true then opOkS x.Op && Lim.linkB x.H && Lim.linkB x.Old else decide (x = zeroJob)) := Hid.mk_ rfl
  have k0 := fun W => opOk_impl x.Op.Kind x.Op.Cell x.Op.Size x.Op.Val W
  rw [show opOkB x.Op.Kind x.Op.Cell x.Op.Size x.Op.Val = opOkS x.Op from rfl] at k0
  have k1 := fun W => (Lim.isLink_impl x.H W).mono fun _ _ => below_eq
  have k2 := fun W => (Lim.isLink_impl x.Old W).mono fun _ _ => below_eq
  clear hcs hlen
  generalize opOkS x.Op = c0 at k0 HV
  generalize Lim.linkB x.H = c1 at k1 HV
  generalize Lim.linkB x.Old = c2 at k2 HV
  generalize decide (x = zeroJob) = dz at hq HV
  generalize x.Busy = bb at *
  cases bb with
  | false =>
    replace HV : Hid (jobOkB x = dz) := Hid.mk_ HV.out
    clear k0 k1 k2
    have B_a : Box (w.alloc (.cells #[.bool false, .int .i64 x.Op.Kind, .int .i64 x.Op.Cell, .int .i64 x.Op.Size, .int .i64 x.Op.Val, .int .i64 x.Serial, .int .i64 x.Pc, .int .i64 x.Sub.Kind, .int .i64 x.Sub.A, .int .i64 x.Sub.Pc, .int .i64 x.Sub.E, .int .i64 x.Sub.Row, .int .i64 x.Sub.B, .int .i64 x.Sub.H, .int .i64 x.Sub.Out, .int .i64 x.Sub.Code, .bool x.Sub.Done, .int .i64 x.H, .int .i64 x.Old, .int .i64 x.Val, .int .i64 x.Code] 146)) (w.heap.size) [.bool false, .int .i64 x.Op.Kind, .int .i64 x.Op.Cell, .int .i64 x.Op.Size, .int .i64 x.Op.Val, .int .i64 x.Serial, .int .i64 x.Pc, .int .i64 x.Sub.Kind, .int .i64 x.Sub.A, .int .i64 x.Sub.Pc, .int .i64 x.Sub.E, .int .i64 x.Sub.Row, .int .i64 x.Sub.B, .int .i64 x.Sub.H, .int .i64 x.Sub.Out, .int .i64 x.Sub.Code, .bool x.Sub.Done, .int .i64 x.H, .int .i64 x.Old, .int .i64 x.Val, .int .i64 x.Code] := by
      have hbx := Box.new w #[.bool false, .int .i64 x.Op.Kind, .int .i64 x.Op.Cell, .int .i64 x.Op.Size, .int .i64 x.Op.Val, .int .i64 x.Serial, .int .i64 x.Pc, .int .i64 x.Sub.Kind, .int .i64 x.Sub.A, .int .i64 x.Sub.Pc, .int .i64 x.Sub.E, .int .i64 x.Sub.Row, .int .i64 x.Sub.B, .int .i64 x.Sub.H, .int .i64 x.Sub.Out, .int .i64 x.Sub.Code, .bool x.Sub.Done, .int .i64 x.H, .int .i64 x.Old, .int .i64 x.Val, .int .i64 x.Code] 146
      exact hbx
    have hB : Below w.heap.size w (w.alloc (.cells #[.bool false, .int .i64 x.Op.Kind, .int .i64 x.Op.Cell, .int .i64 x.Op.Size, .int .i64 x.Op.Val, .int .i64 x.Serial, .int .i64 x.Pc, .int .i64 x.Sub.Kind, .int .i64 x.Sub.A, .int .i64 x.Sub.Pc, .int .i64 x.Sub.E, .int .i64 x.Sub.Row, .int .i64 x.Sub.B, .int .i64 x.Sub.H, .int .i64 x.Sub.Out, .int .i64 x.Sub.Code, .bool x.Sub.Done, .int .i64 x.H, .int .i64 x.Old, .int .i64 x.Val, .int .i64 x.Code] 146)) := by repeat (first | exact Below.refl _ _ | refine Below.alloc ?_ (by simp <;> omega) _ | refine below_grow_of ?_ (by simp <;> omega) _ _ | refine Below.drew ?_ | refine below_drewN ?_ _)
    go_enter Tryz.func116, Tryz.ntmps116
    go_wp2_with fail
    generalize hW0 : (w.alloc (.cells #[.bool false, .int .i64 x.Op.Kind, .int .i64 x.Op.Cell, .int .i64 x.Op.Size, .int .i64 x.Op.Val, .int .i64 x.Serial, .int .i64 x.Pc, .int .i64 x.Sub.Kind, .int .i64 x.Sub.A, .int .i64 x.Sub.Pc, .int .i64 x.Sub.E, .int .i64 x.Sub.Row, .int .i64 x.Sub.B, .int .i64 x.Sub.H, .int .i64 x.Sub.Out, .int .i64 x.Sub.Code, .bool x.Sub.Done, .int .i64 x.H, .int .i64 x.Old, .int .i64 x.Val, .int .i64 x.Code] 146)) = w0 at B_a hB ⊢
    clear hW0
    have zz_a := B_a.lt
    have q_a_0 := B_a.cell 0 _ rfl
    have q_a_1 := B_a.cell 1 _ rfl
    have q_a_2 := B_a.cell 2 _ rfl
    have q_a_3 := B_a.cell 3 _ rfl
    have q_a_4 := B_a.cell 4 _ rfl
    have q_a_5 := B_a.cell 5 _ rfl
    have q_a_6 := B_a.cell 6 _ rfl
    have q_a_7 := B_a.cell 7 _ rfl
    have q_a_8 := B_a.cell 8 _ rfl
    have q_a_9 := B_a.cell 9 _ rfl
    have q_a_10 := B_a.cell 10 _ rfl
    have q_a_11 := B_a.cell 11 _ rfl
    have q_a_12 := B_a.cell 12 _ rfl
    have q_a_13 := B_a.cell 13 _ rfl
    have q_a_14 := B_a.cell 14 _ rfl
    have q_a_15 := B_a.cell 15 _ rfl
    have q_a_16 := B_a.cell 16 _ rfl
    have q_a_17 := B_a.cell 17 _ rfl
    have q_a_18 := B_a.cell 18 _ rfl
    have q_a_19 := B_a.cell 19 _ rfl
    have q_a_20 := B_a.cell 20 _ rfl
    have fr_a := B_a.fro
    have z_a := B_a.lt
    go_wp2_with fail
    go_ret
    exact ⟨ret_bool HV.out.symm, hB⟩
  | true =>
  replace HV : Hid (jobOkB x = (c0 && c1 && c2)) := Hid.mk_ HV.out
  clear hq hr
  cases c0 with
  | false =>
    replace HV : Hid (jobOkB x = false) := Hid.mk_ (HV.out.trans (by simp))
    have B_a : Box (w.alloc (.cells #[.bool true, .int .i64 x.Op.Kind, .int .i64 x.Op.Cell, .int .i64 x.Op.Size, .int .i64 x.Op.Val, .int .i64 x.Serial, .int .i64 x.Pc, .int .i64 x.Sub.Kind, .int .i64 x.Sub.A, .int .i64 x.Sub.Pc, .int .i64 x.Sub.E, .int .i64 x.Sub.Row, .int .i64 x.Sub.B, .int .i64 x.Sub.H, .int .i64 x.Sub.Out, .int .i64 x.Sub.Code, .bool x.Sub.Done, .int .i64 x.H, .int .i64 x.Old, .int .i64 x.Val, .int .i64 x.Code] 146)) (w.heap.size) [.bool true, .int .i64 x.Op.Kind, .int .i64 x.Op.Cell, .int .i64 x.Op.Size, .int .i64 x.Op.Val, .int .i64 x.Serial, .int .i64 x.Pc, .int .i64 x.Sub.Kind, .int .i64 x.Sub.A, .int .i64 x.Sub.Pc, .int .i64 x.Sub.E, .int .i64 x.Sub.Row, .int .i64 x.Sub.B, .int .i64 x.Sub.H, .int .i64 x.Sub.Out, .int .i64 x.Sub.Code, .bool x.Sub.Done, .int .i64 x.H, .int .i64 x.Old, .int .i64 x.Val, .int .i64 x.Code] := by
      have hbx := Box.new w #[.bool true, .int .i64 x.Op.Kind, .int .i64 x.Op.Cell, .int .i64 x.Op.Size, .int .i64 x.Op.Val, .int .i64 x.Serial, .int .i64 x.Pc, .int .i64 x.Sub.Kind, .int .i64 x.Sub.A, .int .i64 x.Sub.Pc, .int .i64 x.Sub.E, .int .i64 x.Sub.Row, .int .i64 x.Sub.B, .int .i64 x.Sub.H, .int .i64 x.Sub.Out, .int .i64 x.Sub.Code, .bool x.Sub.Done, .int .i64 x.H, .int .i64 x.Old, .int .i64 x.Val, .int .i64 x.Code] 146
      exact hbx
    have hB : Below w.heap.size w (w.alloc (.cells #[.bool true, .int .i64 x.Op.Kind, .int .i64 x.Op.Cell, .int .i64 x.Op.Size, .int .i64 x.Op.Val, .int .i64 x.Serial, .int .i64 x.Pc, .int .i64 x.Sub.Kind, .int .i64 x.Sub.A, .int .i64 x.Sub.Pc, .int .i64 x.Sub.E, .int .i64 x.Sub.Row, .int .i64 x.Sub.B, .int .i64 x.Sub.H, .int .i64 x.Sub.Out, .int .i64 x.Sub.Code, .bool x.Sub.Done, .int .i64 x.H, .int .i64 x.Old, .int .i64 x.Val, .int .i64 x.Code] 146)) := by repeat (first | exact Below.refl _ _ | refine Below.alloc ?_ (by simp <;> omega) _ | refine below_grow_of ?_ (by simp <;> omega) _ _ | refine Below.drew ?_ | refine below_drewN ?_ _)
    go_enter Tryz.func116, Tryz.ntmps116
    go_wp2_with fail
    generalize hW0 : (w.alloc (.cells #[.bool true, .int .i64 x.Op.Kind, .int .i64 x.Op.Cell, .int .i64 x.Op.Size, .int .i64 x.Op.Val, .int .i64 x.Serial, .int .i64 x.Pc, .int .i64 x.Sub.Kind, .int .i64 x.Sub.A, .int .i64 x.Sub.Pc, .int .i64 x.Sub.E, .int .i64 x.Sub.Row, .int .i64 x.Sub.B, .int .i64 x.Sub.H, .int .i64 x.Sub.Out, .int .i64 x.Sub.Code, .bool x.Sub.Done, .int .i64 x.H, .int .i64 x.Old, .int .i64 x.Val, .int .i64 x.Code] 146)) = w0 at B_a hB ⊢
    clear hW0
    have zz_a := B_a.lt
    have q_a_0 := B_a.cell 0 _ rfl
    have q_a_1 := B_a.cell 1 _ rfl
    have q_a_2 := B_a.cell 2 _ rfl
    have q_a_3 := B_a.cell 3 _ rfl
    have q_a_4 := B_a.cell 4 _ rfl
    have q_a_5 := B_a.cell 5 _ rfl
    have q_a_6 := B_a.cell 6 _ rfl
    have q_a_7 := B_a.cell 7 _ rfl
    have q_a_8 := B_a.cell 8 _ rfl
    have q_a_9 := B_a.cell 9 _ rfl
    have q_a_10 := B_a.cell 10 _ rfl
    have q_a_11 := B_a.cell 11 _ rfl
    have q_a_12 := B_a.cell 12 _ rfl
    have q_a_13 := B_a.cell 13 _ rfl
    have q_a_14 := B_a.cell 14 _ rfl
    have q_a_15 := B_a.cell 15 _ rfl
    have q_a_16 := B_a.cell 16 _ rfl
    have q_a_17 := B_a.cell 17 _ rfl
    have q_a_18 := B_a.cell 18 _ rfl
    have q_a_19 := B_a.cell 19 _ rfl
    have q_a_20 := B_a.cell 20 _ rfl
    have fr_a := B_a.fro
    have z_a := B_a.lt
    refine (k0 _).mono ?_
    rintro e w1 ⟨rfl, hb⟩
    replace B_a := B_a.below hb
    replace hB := hB.trans (hb.mono hB.size)
    have sz := hb.size
    clear hb
    replace q_a_0 := B_a.cell 0 _ rfl
    replace q_a_1 := B_a.cell 1 _ rfl
    replace q_a_2 := B_a.cell 2 _ rfl
    replace q_a_3 := B_a.cell 3 _ rfl
    replace q_a_4 := B_a.cell 4 _ rfl
    replace q_a_5 := B_a.cell 5 _ rfl
    replace q_a_6 := B_a.cell 6 _ rfl
    replace q_a_7 := B_a.cell 7 _ rfl
    replace q_a_8 := B_a.cell 8 _ rfl
    replace q_a_9 := B_a.cell 9 _ rfl
    replace q_a_10 := B_a.cell 10 _ rfl
    replace q_a_11 := B_a.cell 11 _ rfl
    replace q_a_12 := B_a.cell 12 _ rfl
    replace q_a_13 := B_a.cell 13 _ rfl
    replace q_a_14 := B_a.cell 14 _ rfl
    replace q_a_15 := B_a.cell 15 _ rfl
    replace q_a_16 := B_a.cell 16 _ rfl
    replace q_a_17 := B_a.cell 17 _ rfl
    replace q_a_18 := B_a.cell 18 _ rfl
    replace q_a_19 := B_a.cell 19 _ rfl
    replace q_a_20 := B_a.cell 20 _ rfl
    replace fr_a := B_a.fro
    replace z_a := B_a.lt
    clear k0
    go_wp2_with fail
    go_ret
    exact ⟨ret_bool HV.out.symm, hB⟩
  | true =>
  cases c1 with
  | false =>
    replace HV : Hid (jobOkB x = false) := Hid.mk_ (HV.out.trans (by simp))
    have B_a : Box (w.alloc (.cells #[.bool true, .int .i64 x.Op.Kind, .int .i64 x.Op.Cell, .int .i64 x.Op.Size, .int .i64 x.Op.Val, .int .i64 x.Serial, .int .i64 x.Pc, .int .i64 x.Sub.Kind, .int .i64 x.Sub.A, .int .i64 x.Sub.Pc, .int .i64 x.Sub.E, .int .i64 x.Sub.Row, .int .i64 x.Sub.B, .int .i64 x.Sub.H, .int .i64 x.Sub.Out, .int .i64 x.Sub.Code, .bool x.Sub.Done, .int .i64 x.H, .int .i64 x.Old, .int .i64 x.Val, .int .i64 x.Code] 146)) (w.heap.size) [.bool true, .int .i64 x.Op.Kind, .int .i64 x.Op.Cell, .int .i64 x.Op.Size, .int .i64 x.Op.Val, .int .i64 x.Serial, .int .i64 x.Pc, .int .i64 x.Sub.Kind, .int .i64 x.Sub.A, .int .i64 x.Sub.Pc, .int .i64 x.Sub.E, .int .i64 x.Sub.Row, .int .i64 x.Sub.B, .int .i64 x.Sub.H, .int .i64 x.Sub.Out, .int .i64 x.Sub.Code, .bool x.Sub.Done, .int .i64 x.H, .int .i64 x.Old, .int .i64 x.Val, .int .i64 x.Code] := by
      have hbx := Box.new w #[.bool true, .int .i64 x.Op.Kind, .int .i64 x.Op.Cell, .int .i64 x.Op.Size, .int .i64 x.Op.Val, .int .i64 x.Serial, .int .i64 x.Pc, .int .i64 x.Sub.Kind, .int .i64 x.Sub.A, .int .i64 x.Sub.Pc, .int .i64 x.Sub.E, .int .i64 x.Sub.Row, .int .i64 x.Sub.B, .int .i64 x.Sub.H, .int .i64 x.Sub.Out, .int .i64 x.Sub.Code, .bool x.Sub.Done, .int .i64 x.H, .int .i64 x.Old, .int .i64 x.Val, .int .i64 x.Code] 146
      exact hbx
    have hB : Below w.heap.size w (w.alloc (.cells #[.bool true, .int .i64 x.Op.Kind, .int .i64 x.Op.Cell, .int .i64 x.Op.Size, .int .i64 x.Op.Val, .int .i64 x.Serial, .int .i64 x.Pc, .int .i64 x.Sub.Kind, .int .i64 x.Sub.A, .int .i64 x.Sub.Pc, .int .i64 x.Sub.E, .int .i64 x.Sub.Row, .int .i64 x.Sub.B, .int .i64 x.Sub.H, .int .i64 x.Sub.Out, .int .i64 x.Sub.Code, .bool x.Sub.Done, .int .i64 x.H, .int .i64 x.Old, .int .i64 x.Val, .int .i64 x.Code] 146)) := by repeat (first | exact Below.refl _ _ | refine Below.alloc ?_ (by simp <;> omega) _ | refine below_grow_of ?_ (by simp <;> omega) _ _ | refine Below.drew ?_ | refine below_drewN ?_ _)
    go_enter Tryz.func116, Tryz.ntmps116
    go_wp2_with fail
    generalize hW0 : (w.alloc (.cells #[.bool true, .int .i64 x.Op.Kind, .int .i64 x.Op.Cell, .int .i64 x.Op.Size, .int .i64 x.Op.Val, .int .i64 x.Serial, .int .i64 x.Pc, .int .i64 x.Sub.Kind, .int .i64 x.Sub.A, .int .i64 x.Sub.Pc, .int .i64 x.Sub.E, .int .i64 x.Sub.Row, .int .i64 x.Sub.B, .int .i64 x.Sub.H, .int .i64 x.Sub.Out, .int .i64 x.Sub.Code, .bool x.Sub.Done, .int .i64 x.H, .int .i64 x.Old, .int .i64 x.Val, .int .i64 x.Code] 146)) = w0 at B_a hB ⊢
    clear hW0
    have zz_a := B_a.lt
    have q_a_0 := B_a.cell 0 _ rfl
    have q_a_1 := B_a.cell 1 _ rfl
    have q_a_2 := B_a.cell 2 _ rfl
    have q_a_3 := B_a.cell 3 _ rfl
    have q_a_4 := B_a.cell 4 _ rfl
    have q_a_5 := B_a.cell 5 _ rfl
    have q_a_6 := B_a.cell 6 _ rfl
    have q_a_7 := B_a.cell 7 _ rfl
    have q_a_8 := B_a.cell 8 _ rfl
    have q_a_9 := B_a.cell 9 _ rfl
    have q_a_10 := B_a.cell 10 _ rfl
    have q_a_11 := B_a.cell 11 _ rfl
    have q_a_12 := B_a.cell 12 _ rfl
    have q_a_13 := B_a.cell 13 _ rfl
    have q_a_14 := B_a.cell 14 _ rfl
    have q_a_15 := B_a.cell 15 _ rfl
    have q_a_16 := B_a.cell 16 _ rfl
    have q_a_17 := B_a.cell 17 _ rfl
    have q_a_18 := B_a.cell 18 _ rfl
    have q_a_19 := B_a.cell 19 _ rfl
    have q_a_20 := B_a.cell 20 _ rfl
    have fr_a := B_a.fro
    have z_a := B_a.lt
    refine (k0 _).mono ?_
    rintro e w1 ⟨rfl, hb⟩
    replace B_a := B_a.below hb
    replace hB := hB.trans (hb.mono hB.size)
    have sz := hb.size
    clear hb
    replace q_a_0 := B_a.cell 0 _ rfl
    replace q_a_1 := B_a.cell 1 _ rfl
    replace q_a_2 := B_a.cell 2 _ rfl
    replace q_a_3 := B_a.cell 3 _ rfl
    replace q_a_4 := B_a.cell 4 _ rfl
    replace q_a_5 := B_a.cell 5 _ rfl
    replace q_a_6 := B_a.cell 6 _ rfl
    replace q_a_7 := B_a.cell 7 _ rfl
    replace q_a_8 := B_a.cell 8 _ rfl
    replace q_a_9 := B_a.cell 9 _ rfl
    replace q_a_10 := B_a.cell 10 _ rfl
    replace q_a_11 := B_a.cell 11 _ rfl
    replace q_a_12 := B_a.cell 12 _ rfl
    replace q_a_13 := B_a.cell 13 _ rfl
    replace q_a_14 := B_a.cell 14 _ rfl
    replace q_a_15 := B_a.cell 15 _ rfl
    replace q_a_16 := B_a.cell 16 _ rfl
    replace q_a_17 := B_a.cell 17 _ rfl
    replace q_a_18 := B_a.cell 18 _ rfl
    replace q_a_19 := B_a.cell 19 _ rfl
    replace q_a_20 := B_a.cell 20 _ rfl
    replace fr_a := B_a.fro
    replace z_a := B_a.lt
    clear k0
    go_wp2_with fail
    refine (k1 _).mono ?_
    rintro e w2 ⟨rfl, hb⟩
    replace B_a := B_a.below hb
    replace hB := hB.trans (hb.mono hB.size)
    have sz := hb.size
    clear hb
    replace q_a_0 := B_a.cell 0 _ rfl
    replace q_a_1 := B_a.cell 1 _ rfl
    replace q_a_2 := B_a.cell 2 _ rfl
    replace q_a_3 := B_a.cell 3 _ rfl
    replace q_a_4 := B_a.cell 4 _ rfl
    replace q_a_5 := B_a.cell 5 _ rfl
    replace q_a_6 := B_a.cell 6 _ rfl
    replace q_a_7 := B_a.cell 7 _ rfl
    replace q_a_8 := B_a.cell 8 _ rfl
    replace q_a_9 := B_a.cell 9 _ rfl
    replace q_a_10 := B_a.cell 10 _ rfl
    replace q_a_11 := B_a.cell 11 _ rfl
    replace q_a_12 := B_a.cell 12 _ rfl
    replace q_a_13 := B_a.cell 13 _ rfl
    replace q_a_14 := B_a.cell 14 _ rfl
    replace q_a_15 := B_a.cell 15 _ rfl
    replace q_a_16 := B_a.cell 16 _ rfl
    replace q_a_17 := B_a.cell 17 _ rfl
    replace q_a_18 := B_a.cell 18 _ rfl
    replace q_a_19 := B_a.cell 19 _ rfl
    replace q_a_20 := B_a.cell 20 _ rfl
    replace fr_a := B_a.fro
    replace z_a := B_a.lt
    clear k1
    go_wp2_with fail
    go_ret
    exact ⟨ret_bool HV.out.symm, hB⟩
  | true =>
  cases c2 with
  | false =>
    replace HV : Hid (jobOkB x = false) := Hid.mk_ (HV.out.trans (by simp))
    have B_a : Box (w.alloc (.cells #[.bool true, .int .i64 x.Op.Kind, .int .i64 x.Op.Cell, .int .i64 x.Op.Size, .int .i64 x.Op.Val, .int .i64 x.Serial, .int .i64 x.Pc, .int .i64 x.Sub.Kind, .int .i64 x.Sub.A, .int .i64 x.Sub.Pc, .int .i64 x.Sub.E, .int .i64 x.Sub.Row, .int .i64 x.Sub.B, .int .i64 x.Sub.H, .int .i64 x.Sub.Out, .int .i64 x.Sub.Code, .bool x.Sub.Done, .int .i64 x.H, .int .i64 x.Old, .int .i64 x.Val, .int .i64 x.Code] 146)) (w.heap.size) [.bool true, .int .i64 x.Op.Kind, .int .i64 x.Op.Cell, .int .i64 x.Op.Size, .int .i64 x.Op.Val, .int .i64 x.Serial, .int .i64 x.Pc, .int .i64 x.Sub.Kind, .int .i64 x.Sub.A, .int .i64 x.Sub.Pc, .int .i64 x.Sub.E, .int .i64 x.Sub.Row, .int .i64 x.Sub.B, .int .i64 x.Sub.H, .int .i64 x.Sub.Out, .int .i64 x.Sub.Code, .bool x.Sub.Done, .int .i64 x.H, .int .i64 x.Old, .int .i64 x.Val, .int .i64 x.Code] := by
      have hbx := Box.new w #[.bool true, .int .i64 x.Op.Kind, .int .i64 x.Op.Cell, .int .i64 x.Op.Size, .int .i64 x.Op.Val, .int .i64 x.Serial, .int .i64 x.Pc, .int .i64 x.Sub.Kind, .int .i64 x.Sub.A, .int .i64 x.Sub.Pc, .int .i64 x.Sub.E, .int .i64 x.Sub.Row, .int .i64 x.Sub.B, .int .i64 x.Sub.H, .int .i64 x.Sub.Out, .int .i64 x.Sub.Code, .bool x.Sub.Done, .int .i64 x.H, .int .i64 x.Old, .int .i64 x.Val, .int .i64 x.Code] 146
      exact hbx
    have hB : Below w.heap.size w (w.alloc (.cells #[.bool true, .int .i64 x.Op.Kind, .int .i64 x.Op.Cell, .int .i64 x.Op.Size, .int .i64 x.Op.Val, .int .i64 x.Serial, .int .i64 x.Pc, .int .i64 x.Sub.Kind, .int .i64 x.Sub.A, .int .i64 x.Sub.Pc, .int .i64 x.Sub.E, .int .i64 x.Sub.Row, .int .i64 x.Sub.B, .int .i64 x.Sub.H, .int .i64 x.Sub.Out, .int .i64 x.Sub.Code, .bool x.Sub.Done, .int .i64 x.H, .int .i64 x.Old, .int .i64 x.Val, .int .i64 x.Code] 146)) := by repeat (first | exact Below.refl _ _ | refine Below.alloc ?_ (by simp <;> omega) _ | refine below_grow_of ?_ (by simp <;> omega) _ _ | refine Below.drew ?_ | refine below_drewN ?_ _)
    go_enter Tryz.func116, Tryz.ntmps116
    go_wp2_with fail
    generalize hW0 : (w.alloc (.cells #[.bool true, .int .i64 x.Op.Kind, .int .i64 x.Op.Cell, .int .i64 x.Op.Size, .int .i64 x.Op.Val, .int .i64 x.Serial, .int .i64 x.Pc, .int .i64 x.Sub.Kind, .int .i64 x.Sub.A, .int .i64 x.Sub.Pc, .int .i64 x.Sub.E, .int .i64 x.Sub.Row, .int .i64 x.Sub.B, .int .i64 x.Sub.H, .int .i64 x.Sub.Out, .int .i64 x.Sub.Code, .bool x.Sub.Done, .int .i64 x.H, .int .i64 x.Old, .int .i64 x.Val, .int .i64 x.Code] 146)) = w0 at B_a hB ⊢
    clear hW0
    have zz_a := B_a.lt
    have q_a_0 := B_a.cell 0 _ rfl
    have q_a_1 := B_a.cell 1 _ rfl
    have q_a_2 := B_a.cell 2 _ rfl
    have q_a_3 := B_a.cell 3 _ rfl
    have q_a_4 := B_a.cell 4 _ rfl
    have q_a_5 := B_a.cell 5 _ rfl
    have q_a_6 := B_a.cell 6 _ rfl
    have q_a_7 := B_a.cell 7 _ rfl
    have q_a_8 := B_a.cell 8 _ rfl
    have q_a_9 := B_a.cell 9 _ rfl
    have q_a_10 := B_a.cell 10 _ rfl
    have q_a_11 := B_a.cell 11 _ rfl
    have q_a_12 := B_a.cell 12 _ rfl
    have q_a_13 := B_a.cell 13 _ rfl
    have q_a_14 := B_a.cell 14 _ rfl
    have q_a_15 := B_a.cell 15 _ rfl
    have q_a_16 := B_a.cell 16 _ rfl
    have q_a_17 := B_a.cell 17 _ rfl
    have q_a_18 := B_a.cell 18 _ rfl
    have q_a_19 := B_a.cell 19 _ rfl
    have q_a_20 := B_a.cell 20 _ rfl
    have fr_a := B_a.fro
    have z_a := B_a.lt
    refine (k0 _).mono ?_
    rintro e w1 ⟨rfl, hb⟩
    replace B_a := B_a.below hb
    replace hB := hB.trans (hb.mono hB.size)
    have sz := hb.size
    clear hb
    replace q_a_0 := B_a.cell 0 _ rfl
    replace q_a_1 := B_a.cell 1 _ rfl
    replace q_a_2 := B_a.cell 2 _ rfl
    replace q_a_3 := B_a.cell 3 _ rfl
    replace q_a_4 := B_a.cell 4 _ rfl
    replace q_a_5 := B_a.cell 5 _ rfl
    replace q_a_6 := B_a.cell 6 _ rfl
    replace q_a_7 := B_a.cell 7 _ rfl
    replace q_a_8 := B_a.cell 8 _ rfl
    replace q_a_9 := B_a.cell 9 _ rfl
    replace q_a_10 := B_a.cell 10 _ rfl
    replace q_a_11 := B_a.cell 11 _ rfl
    replace q_a_12 := B_a.cell 12 _ rfl
    replace q_a_13 := B_a.cell 13 _ rfl
    replace q_a_14 := B_a.cell 14 _ rfl
    replace q_a_15 := B_a.cell 15 _ rfl
    replace q_a_16 := B_a.cell 16 _ rfl
    replace q_a_17 := B_a.cell 17 _ rfl
    replace q_a_18 := B_a.cell 18 _ rfl
    replace q_a_19 := B_a.cell 19 _ rfl
    replace q_a_20 := B_a.cell 20 _ rfl
    replace fr_a := B_a.fro
    replace z_a := B_a.lt
    clear k0
    go_wp2_with fail
    refine (k1 _).mono ?_
    rintro e w2 ⟨rfl, hb⟩
    replace B_a := B_a.below hb
    replace hB := hB.trans (hb.mono hB.size)
    have sz := hb.size
    clear hb
    replace q_a_0 := B_a.cell 0 _ rfl
    replace q_a_1 := B_a.cell 1 _ rfl
    replace q_a_2 := B_a.cell 2 _ rfl
    replace q_a_3 := B_a.cell 3 _ rfl
    replace q_a_4 := B_a.cell 4 _ rfl
    replace q_a_5 := B_a.cell 5 _ rfl
    replace q_a_6 := B_a.cell 6 _ rfl
    replace q_a_7 := B_a.cell 7 _ rfl
    replace q_a_8 := B_a.cell 8 _ rfl
    replace q_a_9 := B_a.cell 9 _ rfl
    replace q_a_10 := B_a.cell 10 _ rfl
    replace q_a_11 := B_a.cell 11 _ rfl
    replace q_a_12 := B_a.cell 12 _ rfl
    replace q_a_13 := B_a.cell 13 _ rfl
    replace q_a_14 := B_a.cell 14 _ rfl
    replace q_a_15 := B_a.cell 15 _ rfl
    replace q_a_16 := B_a.cell 16 _ rfl
    replace q_a_17 := B_a.cell 17 _ rfl
    replace q_a_18 := B_a.cell 18 _ rfl
    replace q_a_19 := B_a.cell 19 _ rfl
    replace q_a_20 := B_a.cell 20 _ rfl
    replace fr_a := B_a.fro
    replace z_a := B_a.lt
    clear k1
    go_wp2_with fail
    refine (k2 _).mono ?_
    rintro e w3 ⟨rfl, hb⟩
    replace B_a := B_a.below hb
    replace hB := hB.trans (hb.mono hB.size)
    have sz := hb.size
    clear hb
    replace q_a_0 := B_a.cell 0 _ rfl
    replace q_a_1 := B_a.cell 1 _ rfl
    replace q_a_2 := B_a.cell 2 _ rfl
    replace q_a_3 := B_a.cell 3 _ rfl
    replace q_a_4 := B_a.cell 4 _ rfl
    replace q_a_5 := B_a.cell 5 _ rfl
    replace q_a_6 := B_a.cell 6 _ rfl
    replace q_a_7 := B_a.cell 7 _ rfl
    replace q_a_8 := B_a.cell 8 _ rfl
    replace q_a_9 := B_a.cell 9 _ rfl
    replace q_a_10 := B_a.cell 10 _ rfl
    replace q_a_11 := B_a.cell 11 _ rfl
    replace q_a_12 := B_a.cell 12 _ rfl
    replace q_a_13 := B_a.cell 13 _ rfl
    replace q_a_14 := B_a.cell 14 _ rfl
    replace q_a_15 := B_a.cell 15 _ rfl
    replace q_a_16 := B_a.cell 16 _ rfl
    replace q_a_17 := B_a.cell 17 _ rfl
    replace q_a_18 := B_a.cell 18 _ rfl
    replace q_a_19 := B_a.cell 19 _ rfl
    replace q_a_20 := B_a.cell 20 _ rfl
    replace fr_a := B_a.fro
    replace z_a := B_a.lt
    clear k2
    go_wp2_with fail
    go_ret
    exact ⟨ret_bool HV.out.symm, hB⟩
  | true =>
  replace HV : Hid (jobOkB x = true) := Hid.mk_ (HV.out.trans (by simp))
  have B_a : Box (w.alloc (.cells #[.bool true, .int .i64 x.Op.Kind, .int .i64 x.Op.Cell, .int .i64 x.Op.Size, .int .i64 x.Op.Val, .int .i64 x.Serial, .int .i64 x.Pc, .int .i64 x.Sub.Kind, .int .i64 x.Sub.A, .int .i64 x.Sub.Pc, .int .i64 x.Sub.E, .int .i64 x.Sub.Row, .int .i64 x.Sub.B, .int .i64 x.Sub.H, .int .i64 x.Sub.Out, .int .i64 x.Sub.Code, .bool x.Sub.Done, .int .i64 x.H, .int .i64 x.Old, .int .i64 x.Val, .int .i64 x.Code] 146)) (w.heap.size) [.bool true, .int .i64 x.Op.Kind, .int .i64 x.Op.Cell, .int .i64 x.Op.Size, .int .i64 x.Op.Val, .int .i64 x.Serial, .int .i64 x.Pc, .int .i64 x.Sub.Kind, .int .i64 x.Sub.A, .int .i64 x.Sub.Pc, .int .i64 x.Sub.E, .int .i64 x.Sub.Row, .int .i64 x.Sub.B, .int .i64 x.Sub.H, .int .i64 x.Sub.Out, .int .i64 x.Sub.Code, .bool x.Sub.Done, .int .i64 x.H, .int .i64 x.Old, .int .i64 x.Val, .int .i64 x.Code] := by
    have hbx := Box.new w #[.bool true, .int .i64 x.Op.Kind, .int .i64 x.Op.Cell, .int .i64 x.Op.Size, .int .i64 x.Op.Val, .int .i64 x.Serial, .int .i64 x.Pc, .int .i64 x.Sub.Kind, .int .i64 x.Sub.A, .int .i64 x.Sub.Pc, .int .i64 x.Sub.E, .int .i64 x.Sub.Row, .int .i64 x.Sub.B, .int .i64 x.Sub.H, .int .i64 x.Sub.Out, .int .i64 x.Sub.Code, .bool x.Sub.Done, .int .i64 x.H, .int .i64 x.Old, .int .i64 x.Val, .int .i64 x.Code] 146
    exact hbx
  have hB : Below w.heap.size w (w.alloc (.cells #[.bool true, .int .i64 x.Op.Kind, .int .i64 x.Op.Cell, .int .i64 x.Op.Size, .int .i64 x.Op.Val, .int .i64 x.Serial, .int .i64 x.Pc, .int .i64 x.Sub.Kind, .int .i64 x.Sub.A, .int .i64 x.Sub.Pc, .int .i64 x.Sub.E, .int .i64 x.Sub.Row, .int .i64 x.Sub.B, .int .i64 x.Sub.H, .int .i64 x.Sub.Out, .int .i64 x.Sub.Code, .bool x.Sub.Done, .int .i64 x.H, .int .i64 x.Old, .int .i64 x.Val, .int .i64 x.Code] 146)) := by repeat (first | exact Below.refl _ _ | refine Below.alloc ?_ (by simp <;> omega) _ | refine below_grow_of ?_ (by simp <;> omega) _ _ | refine Below.drew ?_ | refine below_drewN ?_ _)
  go_enter Tryz.func116, Tryz.ntmps116
  go_wp2_with fail
  generalize hW0 : (w.alloc (.cells #[.bool true, .int .i64 x.Op.Kind, .int .i64 x.Op.Cell, .int .i64 x.Op.Size, .int .i64 x.Op.Val, .int .i64 x.Serial, .int .i64 x.Pc, .int .i64 x.Sub.Kind, .int .i64 x.Sub.A, .int .i64 x.Sub.Pc, .int .i64 x.Sub.E, .int .i64 x.Sub.Row, .int .i64 x.Sub.B, .int .i64 x.Sub.H, .int .i64 x.Sub.Out, .int .i64 x.Sub.Code, .bool x.Sub.Done, .int .i64 x.H, .int .i64 x.Old, .int .i64 x.Val, .int .i64 x.Code] 146)) = w0 at B_a hB ⊢
  clear hW0
  have zz_a := B_a.lt
  have q_a_0 := B_a.cell 0 _ rfl
  have q_a_1 := B_a.cell 1 _ rfl
  have q_a_2 := B_a.cell 2 _ rfl
  have q_a_3 := B_a.cell 3 _ rfl
  have q_a_4 := B_a.cell 4 _ rfl
  have q_a_5 := B_a.cell 5 _ rfl
  have q_a_6 := B_a.cell 6 _ rfl
  have q_a_7 := B_a.cell 7 _ rfl
  have q_a_8 := B_a.cell 8 _ rfl
  have q_a_9 := B_a.cell 9 _ rfl
  have q_a_10 := B_a.cell 10 _ rfl
  have q_a_11 := B_a.cell 11 _ rfl
  have q_a_12 := B_a.cell 12 _ rfl
  have q_a_13 := B_a.cell 13 _ rfl
  have q_a_14 := B_a.cell 14 _ rfl
  have q_a_15 := B_a.cell 15 _ rfl
  have q_a_16 := B_a.cell 16 _ rfl
  have q_a_17 := B_a.cell 17 _ rfl
  have q_a_18 := B_a.cell 18 _ rfl
  have q_a_19 := B_a.cell 19 _ rfl
  have q_a_20 := B_a.cell 20 _ rfl
  have fr_a := B_a.fro
  have z_a := B_a.lt
  refine (k0 _).mono ?_
  rintro e w1 ⟨rfl, hb⟩
  replace B_a := B_a.below hb
  replace hB := hB.trans (hb.mono hB.size)
  have sz := hb.size
  clear hb
  replace q_a_0 := B_a.cell 0 _ rfl
  replace q_a_1 := B_a.cell 1 _ rfl
  replace q_a_2 := B_a.cell 2 _ rfl
  replace q_a_3 := B_a.cell 3 _ rfl
  replace q_a_4 := B_a.cell 4 _ rfl
  replace q_a_5 := B_a.cell 5 _ rfl
  replace q_a_6 := B_a.cell 6 _ rfl
  replace q_a_7 := B_a.cell 7 _ rfl
  replace q_a_8 := B_a.cell 8 _ rfl
  replace q_a_9 := B_a.cell 9 _ rfl
  replace q_a_10 := B_a.cell 10 _ rfl
  replace q_a_11 := B_a.cell 11 _ rfl
  replace q_a_12 := B_a.cell 12 _ rfl
  replace q_a_13 := B_a.cell 13 _ rfl
  replace q_a_14 := B_a.cell 14 _ rfl
  replace q_a_15 := B_a.cell 15 _ rfl
  replace q_a_16 := B_a.cell 16 _ rfl
  replace q_a_17 := B_a.cell 17 _ rfl
  replace q_a_18 := B_a.cell 18 _ rfl
  replace q_a_19 := B_a.cell 19 _ rfl
  replace q_a_20 := B_a.cell 20 _ rfl
  replace fr_a := B_a.fro
  replace z_a := B_a.lt
  clear k0
  go_wp2_with fail
  refine (k1 _).mono ?_
  rintro e w2 ⟨rfl, hb⟩
  replace B_a := B_a.below hb
  replace hB := hB.trans (hb.mono hB.size)
  have sz := hb.size
  clear hb
  replace q_a_0 := B_a.cell 0 _ rfl
  replace q_a_1 := B_a.cell 1 _ rfl
  replace q_a_2 := B_a.cell 2 _ rfl
  replace q_a_3 := B_a.cell 3 _ rfl
  replace q_a_4 := B_a.cell 4 _ rfl
  replace q_a_5 := B_a.cell 5 _ rfl
  replace q_a_6 := B_a.cell 6 _ rfl
  replace q_a_7 := B_a.cell 7 _ rfl
  replace q_a_8 := B_a.cell 8 _ rfl
  replace q_a_9 := B_a.cell 9 _ rfl
  replace q_a_10 := B_a.cell 10 _ rfl
  replace q_a_11 := B_a.cell 11 _ rfl
  replace q_a_12 := B_a.cell 12 _ rfl
  replace q_a_13 := B_a.cell 13 _ rfl
  replace q_a_14 := B_a.cell 14 _ rfl
  replace q_a_15 := B_a.cell 15 _ rfl
  replace q_a_16 := B_a.cell 16 _ rfl
  replace q_a_17 := B_a.cell 17 _ rfl
  replace q_a_18 := B_a.cell 18 _ rfl
  replace q_a_19 := B_a.cell 19 _ rfl
  replace q_a_20 := B_a.cell 20 _ rfl
  replace fr_a := B_a.fro
  replace z_a := B_a.lt
  clear k1
  go_wp2_with fail
  refine (k2 _).mono ?_
  rintro e w3 ⟨rfl, hb⟩
  replace B_a := B_a.below hb
  replace hB := hB.trans (hb.mono hB.size)
  have sz := hb.size
  clear hb
  replace q_a_0 := B_a.cell 0 _ rfl
  replace q_a_1 := B_a.cell 1 _ rfl
  replace q_a_2 := B_a.cell 2 _ rfl
  replace q_a_3 := B_a.cell 3 _ rfl
  replace q_a_4 := B_a.cell 4 _ rfl
  replace q_a_5 := B_a.cell 5 _ rfl
  replace q_a_6 := B_a.cell 6 _ rfl
  replace q_a_7 := B_a.cell 7 _ rfl
  replace q_a_8 := B_a.cell 8 _ rfl
  replace q_a_9 := B_a.cell 9 _ rfl
  replace q_a_10 := B_a.cell 10 _ rfl
  replace q_a_11 := B_a.cell 11 _ rfl
  replace q_a_12 := B_a.cell 12 _ rfl
  replace q_a_13 := B_a.cell 13 _ rfl
  replace q_a_14 := B_a.cell 14 _ rfl
  replace q_a_15 := B_a.cell 15 _ rfl
  replace q_a_16 := B_a.cell 16 _ rfl
  replace q_a_17 := B_a.cell 17 _ rfl
  replace q_a_18 := B_a.cell 18 _ rfl
  replace q_a_19 := B_a.cell 19 _ rfl
  replace q_a_20 := B_a.cell 20 _ rfl
  replace fr_a := B_a.fro
  replace z_a := B_a.lt
  clear k2
  go_wp2_with fail
  go_ret
  exact ⟨ret_bool HV.out.symm, hB⟩

set_option maxHeartbeats 400000 in
theorem ShelfOk1_impl (h : Int) (w : World) : Calls Tryz.prog 112 #[.int .i64 h] w fun e w' => e = .returned (.bool (!Lim.linkB h)) ∧ w' = w := by
  go_enter Tryz.func112, Tryz.ntmps112
  go_wp2_with (go_at_call 113; refine (Lim.isLink_impl _ _).mono ?_; rintro e w1 ⟨rfl, rfl⟩)
  go_ret
  exact ⟨rfl, rfl⟩
set_option maxRecDepth 100000 in
set_option maxHeartbeats 2000000 in
theorem ShelfOk2_impl (x : Job) (w : World) : Calls Tryz.prog 115 #[.agg (FJob.enc x).toArray] w fun e w' => e = .returned (.bool (!jobOkB x)) ∧ Below w.heap.size w w' := by
  show Calls Tryz.prog 115 #[.agg #[.bool x.Busy, .int .i64 x.Op.Kind, .int .i64 x.Op.Cell, .int .i64 x.Op.Size, .int .i64 x.Op.Val, .int .i64 x.Serial, .int .i64 x.Pc, .int .i64 x.Sub.Kind, .int .i64 x.Sub.A, .int .i64 x.Sub.Pc, .int .i64 x.Sub.E, .int .i64 x.Sub.Row, .int .i64 x.Sub.B, .int .i64 x.Sub.H, .int .i64 x.Sub.Out, .int .i64 x.Sub.Code, .bool x.Sub.Done, .int .i64 x.H, .int .i64 x.Old, .int .i64 x.Val, .int .i64 x.Code]] _ _
  obtain ⟨cs, hcs⟩ : ∃ cs, cs = FJob.enc x := ⟨_, rfl⟩
  have hlen : cs.length = 21 := by rw [hcs]; exact FJob.len x
  have hr : row? (w.alloc (.cells #[.bool x.Busy, .int .i64 x.Op.Kind, .int .i64 x.Op.Cell, .int .i64 x.Op.Size, .int .i64 x.Op.Val, .int .i64 x.Serial, .int .i64 x.Pc, .int .i64 x.Sub.Kind, .int .i64 x.Sub.A, .int .i64 x.Sub.Pc, .int .i64 x.Sub.E, .int .i64 x.Sub.Row, .int .i64 x.Sub.B, .int .i64 x.Sub.H, .int .i64 x.Sub.Out, .int .i64 x.Sub.Code, .bool x.Sub.Done, .int .i64 x.H, .int .i64 x.Old, .int .i64 x.Val, .int .i64 x.Code] 146)) w.heap.size 0 21 = some cs := row?_of (by rw [hcs]; exact fun j v hv => by rw [Nat.zero_add]; exact (Box.new w #[.bool x.Busy, .int .i64 x.Op.Kind, .int .i64 x.Op.Cell, .int .i64 x.Op.Size, .int .i64 x.Op.Val, .int .i64 x.Serial, .int .i64 x.Pc, .int .i64 x.Sub.Kind, .int .i64 x.Sub.A, .int .i64 x.Sub.Pc, .int .i64 x.Sub.E, .int .i64 x.Sub.Row, .int .i64 x.Sub.B, .int .i64 x.Sub.H, .int .i64 x.Sub.Out, .int .i64 x.Sub.Code, .bool x.Sub.Done, .int .i64 x.H, .int .i64 x.Old, .int .i64 x.Val, .int .i64 x.Code] 146).cell j v hv) hlen
  have k := fun W => jobOk_impl x W
  rw [← hcs] at k
  clear hcs hlen
  generalize jobOkB x = jb at k
  have hB : Below w.heap.size w (w.alloc (.cells #[.bool x.Busy, .int .i64 x.Op.Kind, .int .i64 x.Op.Cell, .int .i64 x.Op.Size, .int .i64 x.Op.Val, .int .i64 x.Serial, .int .i64 x.Pc, .int .i64 x.Sub.Kind, .int .i64 x.Sub.A, .int .i64 x.Sub.Pc, .int .i64 x.Sub.E, .int .i64 x.Sub.Row, .int .i64 x.Sub.B, .int .i64 x.Sub.H, .int .i64 x.Sub.Out, .int .i64 x.Sub.Code, .bool x.Sub.Done, .int .i64 x.H, .int .i64 x.Old, .int .i64 x.Val, .int .i64 x.Code] 146)) := by repeat (first | exact Below.refl _ _ | refine Below.alloc ?_ (by simp <;> omega) _ | refine below_grow_of ?_ (by simp <;> omega) _ _ | refine Below.drew ?_ | refine below_drewN ?_ _)
  go_enter Tryz.func115, Tryz.ntmps115
  go_wp2_with fail
  refine (k _).mono ?_
  rintro e w1 ⟨rfl, hb⟩
  go_wp2_with fail
  go_ret
  exact ⟨rfl, hB.trans (hb.mono (by simp))⟩

set_option maxRecDepth 100000 in
set_option maxHeartbeats 2000000 in
theorem ShelfOk_impl (w : World) (H : HShelf) (x : Shelf) (h : RdShelf w w.heap.size H x) (hs : szLL x.Base.Limbo ≤ 536870912) :
    Calls Tryz.prog 43 #[.agg #[.slice H.Base.Mem.Heap.Bytes.a H.Base.Mem.Heap.Bytes.len H.Base.Mem.Heap.Bytes.cap, .slice H.Base.Mem.Heap.Class.a H.Base.Mem.Heap.Class.len H.Base.Mem.Heap.Class.cap, .slice H.Base.Mem.Lists.Global.a H.Base.Mem.Lists.Global.len H.Base.Mem.Lists.Global.cap, .slice H.Base.Mem.Lists.Own.a H.Base.Mem.Lists.Own.len H.Base.Mem.Lists.Own.cap, .int .i64 x.Base.Clock.Epoch, .slice H.Base.Clock.Pins.a H.Base.Clock.Pins.len H.Base.Clock.Pins.cap, .slice H.Base.Limbo.a H.Base.Limbo.len H.Base.Limbo.cap, .slice H.Base.Haz.a H.Base.Haz.len H.Base.Haz.cap, .slice H.Cells.a H.Cells.len H.Cells.cap, .slice H.Jobs.a H.Jobs.len H.Jobs.cap, .slice H.Todo.a H.Todo.len H.Todo.cap, .slice H.Log.a H.Log.len H.Log.cap, .int .i64 x.Serial]] w fun e w' => e = .returned (.bool (shelfOkB x)) ∧ Below w.heap.size w w' := by
  have k0 := fun (W : World) (hW : Below w.heap.size w W) => BaseOk_impl W H.Base x.Base (rdBase_up h.Base hW) hs
  have k3 := fun (W : World) (hW : Below w.heap.size w W) => todoOk_impl W _ _ x.Todo (rdLL_up h.Todo hW)
  have k4 := fun (W : World) (_hW : Below w.heap.size w W) => (within_ct x.Serial 0 1000000 W).mono fun _ _ => below_eq'
  have k5 := fun (W : World) (hW : Below w.heap.size w W) => Lim.ContainsFuncInt_ct W _ x.Cells (rd_up h.Cells hW) 112 #[] (fun h => !Lim.linkB h) (fun _ _ => by kernel_rfl) (fun y V _ _ => (ShelfOk1_impl y V).mono fun _ _ => below_eq)
  have k6 := fun (W : World) (hW : Below w.heap.size w W) => ContainsFuncJob_ct W _ x.Jobs (rd_up h.Jobs hW) 115 #[] (fun j => !jobOkB j) (fun _ _ => by kernel_rfl) (fun y V _ _ => ShelfOk2_impl y V)
  have eC := Hid.mk_ (RdL.len_ h.Cells).1
  have eJ := Hid.mk_ (RdL.len_ h.Jobs).1
  have bC : H.Cells.len ≤ 9223372036854775807 := (RdL.len_ h.Cells).2
  have bJ : H.Jobs.len ≤ 9223372036854775807 := (RdL.len_ h.Jobs).2
  have HV : Hid (shelfOkB x = (baseOkB x.Base && (x.Cells.length == 2) && (x.Jobs.length == 3) && todoOkB x.Todo && inB 0 1000000 x.Serial && !(x.Cells.any fun h => !Lim.linkB h) && !(x.Jobs.any fun j => !jobOkB j))) := Hid.mk_ rfl
  clear h
  generalize baseOkB x.Base = c0 at k0 HV
  obtain ⟨c1, hc1⟩ : ∃ c1, Hid (c1 = (x.Cells.length == 2)) := ⟨_, Hid.mk_ rfl⟩
  rw [← hc1.out] at HV
  obtain ⟨c2, hc2⟩ : ∃ c2, Hid (c2 = (x.Jobs.length == 3)) := ⟨_, Hid.mk_ rfl⟩
  rw [← hc2.out] at HV
  generalize todoOkB x.Todo = c3 at k3 HV
  generalize inB 0 1000000 x.Serial = c4 at k4 HV
  generalize (x.Cells.any fun h => !Lim.linkB h) = c5 at k5 HV
  generalize (x.Jobs.any fun j => !jobOkB j) = c6 at k6 HV
  cases c0 with
  | false =>
    replace HV : Hid (shelfOkB x = false) := Hid.mk_ (HV.out.trans (by simp))
    have B_a : Box (w.alloc (.cells #[.slice H.Base.Mem.Heap.Bytes.a H.Base.Mem.Heap.Bytes.len H.Base.Mem.Heap.Bytes.cap, .slice H.Base.Mem.Heap.Class.a H.Base.Mem.Heap.Class.len H.Base.Mem.Heap.Class.cap, .slice H.Base.Mem.Lists.Global.a H.Base.Mem.Lists.Global.len H.Base.Mem.Lists.Global.cap, .slice H.Base.Mem.Lists.Own.a H.Base.Mem.Lists.Own.len H.Base.Mem.Lists.Own.cap, .int .i64 x.Base.Clock.Epoch, .slice H.Base.Clock.Pins.a H.Base.Clock.Pins.len H.Base.Clock.Pins.cap, .slice H.Base.Limbo.a H.Base.Limbo.len H.Base.Limbo.cap, .slice H.Base.Haz.a H.Base.Haz.len H.Base.Haz.cap, .slice H.Cells.a H.Cells.len H.Cells.cap, .slice H.Jobs.a H.Jobs.len H.Jobs.cap, .slice H.Todo.a H.Todo.len H.Todo.cap, .slice H.Log.a H.Log.len H.Log.cap, .int .i64 x.Serial] 69)) (w.heap.size) [.slice H.Base.Mem.Heap.Bytes.a H.Base.Mem.Heap.Bytes.len H.Base.Mem.Heap.Bytes.cap, .slice H.Base.Mem.Heap.Class.a H.Base.Mem.Heap.Class.len H.Base.Mem.Heap.Class.cap, .slice H.Base.Mem.Lists.Global.a H.Base.Mem.Lists.Global.len H.Base.Mem.Lists.Global.cap, .slice H.Base.Mem.Lists.Own.a H.Base.Mem.Lists.Own.len H.Base.Mem.Lists.Own.cap, .int .i64 x.Base.Clock.Epoch, .slice H.Base.Clock.Pins.a H.Base.Clock.Pins.len H.Base.Clock.Pins.cap, .slice H.Base.Limbo.a H.Base.Limbo.len H.Base.Limbo.cap, .slice H.Base.Haz.a H.Base.Haz.len H.Base.Haz.cap, .slice H.Cells.a H.Cells.len H.Cells.cap, .slice H.Jobs.a H.Jobs.len H.Jobs.cap, .slice H.Todo.a H.Todo.len H.Todo.cap, .slice H.Log.a H.Log.len H.Log.cap, .int .i64 x.Serial] := by
      have hbx := Box.new w #[.slice H.Base.Mem.Heap.Bytes.a H.Base.Mem.Heap.Bytes.len H.Base.Mem.Heap.Bytes.cap, .slice H.Base.Mem.Heap.Class.a H.Base.Mem.Heap.Class.len H.Base.Mem.Heap.Class.cap, .slice H.Base.Mem.Lists.Global.a H.Base.Mem.Lists.Global.len H.Base.Mem.Lists.Global.cap, .slice H.Base.Mem.Lists.Own.a H.Base.Mem.Lists.Own.len H.Base.Mem.Lists.Own.cap, .int .i64 x.Base.Clock.Epoch, .slice H.Base.Clock.Pins.a H.Base.Clock.Pins.len H.Base.Clock.Pins.cap, .slice H.Base.Limbo.a H.Base.Limbo.len H.Base.Limbo.cap, .slice H.Base.Haz.a H.Base.Haz.len H.Base.Haz.cap, .slice H.Cells.a H.Cells.len H.Cells.cap, .slice H.Jobs.a H.Jobs.len H.Jobs.cap, .slice H.Todo.a H.Todo.len H.Todo.cap, .slice H.Log.a H.Log.len H.Log.cap, .int .i64 x.Serial] 69
      exact hbx
    have hB : Below w.heap.size w (w.alloc (.cells #[.slice H.Base.Mem.Heap.Bytes.a H.Base.Mem.Heap.Bytes.len H.Base.Mem.Heap.Bytes.cap, .slice H.Base.Mem.Heap.Class.a H.Base.Mem.Heap.Class.len H.Base.Mem.Heap.Class.cap, .slice H.Base.Mem.Lists.Global.a H.Base.Mem.Lists.Global.len H.Base.Mem.Lists.Global.cap, .slice H.Base.Mem.Lists.Own.a H.Base.Mem.Lists.Own.len H.Base.Mem.Lists.Own.cap, .int .i64 x.Base.Clock.Epoch, .slice H.Base.Clock.Pins.a H.Base.Clock.Pins.len H.Base.Clock.Pins.cap, .slice H.Base.Limbo.a H.Base.Limbo.len H.Base.Limbo.cap, .slice H.Base.Haz.a H.Base.Haz.len H.Base.Haz.cap, .slice H.Cells.a H.Cells.len H.Cells.cap, .slice H.Jobs.a H.Jobs.len H.Jobs.cap, .slice H.Todo.a H.Todo.len H.Todo.cap, .slice H.Log.a H.Log.len H.Log.cap, .int .i64 x.Serial] 69)) := by repeat (first | exact Below.refl _ _ | refine Below.alloc ?_ (by simp <;> omega) _ | refine below_grow_of ?_ (by simp <;> omega) _ _ | refine Below.drew ?_ | refine below_drewN ?_ _)
    go_enter Tryz.func43, Tryz.ntmps43
    go_wp2_with fail
    generalize hW0 : (w.alloc (.cells #[.slice H.Base.Mem.Heap.Bytes.a H.Base.Mem.Heap.Bytes.len H.Base.Mem.Heap.Bytes.cap, .slice H.Base.Mem.Heap.Class.a H.Base.Mem.Heap.Class.len H.Base.Mem.Heap.Class.cap, .slice H.Base.Mem.Lists.Global.a H.Base.Mem.Lists.Global.len H.Base.Mem.Lists.Global.cap, .slice H.Base.Mem.Lists.Own.a H.Base.Mem.Lists.Own.len H.Base.Mem.Lists.Own.cap, .int .i64 x.Base.Clock.Epoch, .slice H.Base.Clock.Pins.a H.Base.Clock.Pins.len H.Base.Clock.Pins.cap, .slice H.Base.Limbo.a H.Base.Limbo.len H.Base.Limbo.cap, .slice H.Base.Haz.a H.Base.Haz.len H.Base.Haz.cap, .slice H.Cells.a H.Cells.len H.Cells.cap, .slice H.Jobs.a H.Jobs.len H.Jobs.cap, .slice H.Todo.a H.Todo.len H.Todo.cap, .slice H.Log.a H.Log.len H.Log.cap, .int .i64 x.Serial] 69)) = w0 at B_a hB ⊢
    clear hW0
    have zz_a := B_a.lt
    have q_a_0 := B_a.cell 0 _ rfl
    have q_a_1 := B_a.cell 1 _ rfl
    have q_a_2 := B_a.cell 2 _ rfl
    have q_a_3 := B_a.cell 3 _ rfl
    have q_a_4 := B_a.cell 4 _ rfl
    have q_a_5 := B_a.cell 5 _ rfl
    have q_a_6 := B_a.cell 6 _ rfl
    have q_a_7 := B_a.cell 7 _ rfl
    have q_a_8 := B_a.cell 8 _ rfl
    have q_a_9 := B_a.cell 9 _ rfl
    have q_a_10 := B_a.cell 10 _ rfl
    have q_a_11 := B_a.cell 11 _ rfl
    have q_a_12 := B_a.cell 12 _ rfl
    have fr_a := B_a.fro
    have z_a := B_a.lt
    refine (k0 _ hB).mono ?_
    rintro e w1 ⟨rfl, hb⟩
    replace B_a := B_a.below hb
    replace hB := hB.trans (hb.mono hB.size)
    have sz := hb.size
    clear hb
    replace q_a_0 := B_a.cell 0 _ rfl
    replace q_a_1 := B_a.cell 1 _ rfl
    replace q_a_2 := B_a.cell 2 _ rfl
    replace q_a_3 := B_a.cell 3 _ rfl
    replace q_a_4 := B_a.cell 4 _ rfl
    replace q_a_5 := B_a.cell 5 _ rfl
    replace q_a_6 := B_a.cell 6 _ rfl
    replace q_a_7 := B_a.cell 7 _ rfl
    replace q_a_8 := B_a.cell 8 _ rfl
    replace q_a_9 := B_a.cell 9 _ rfl
    replace q_a_10 := B_a.cell 10 _ rfl
    replace q_a_11 := B_a.cell 11 _ rfl
    replace q_a_12 := B_a.cell 12 _ rfl
    replace fr_a := B_a.fro
    replace z_a := B_a.lt
    clear k0
    go_wp2_with fail
    go_ret
    exact ⟨ret_bool HV.out.symm, hB⟩
  | true =>
  cases c1 with
  | false =>
    have d1 : ((H.Cells.len : Int) == 2) = false := by rw [eC.out]; have a := hc1.out.symm; simp at a ⊢; omega
    have n1 : ((H.Cells.len : Int) != 2) = true := by rw [bne, d1]; rfl
    replace HV : Hid (shelfOkB x = false) := Hid.mk_ (HV.out.trans (by simp))
    have B_a : Box (w.alloc (.cells #[.slice H.Base.Mem.Heap.Bytes.a H.Base.Mem.Heap.Bytes.len H.Base.Mem.Heap.Bytes.cap, .slice H.Base.Mem.Heap.Class.a H.Base.Mem.Heap.Class.len H.Base.Mem.Heap.Class.cap, .slice H.Base.Mem.Lists.Global.a H.Base.Mem.Lists.Global.len H.Base.Mem.Lists.Global.cap, .slice H.Base.Mem.Lists.Own.a H.Base.Mem.Lists.Own.len H.Base.Mem.Lists.Own.cap, .int .i64 x.Base.Clock.Epoch, .slice H.Base.Clock.Pins.a H.Base.Clock.Pins.len H.Base.Clock.Pins.cap, .slice H.Base.Limbo.a H.Base.Limbo.len H.Base.Limbo.cap, .slice H.Base.Haz.a H.Base.Haz.len H.Base.Haz.cap, .slice H.Cells.a H.Cells.len H.Cells.cap, .slice H.Jobs.a H.Jobs.len H.Jobs.cap, .slice H.Todo.a H.Todo.len H.Todo.cap, .slice H.Log.a H.Log.len H.Log.cap, .int .i64 x.Serial] 69)) (w.heap.size) [.slice H.Base.Mem.Heap.Bytes.a H.Base.Mem.Heap.Bytes.len H.Base.Mem.Heap.Bytes.cap, .slice H.Base.Mem.Heap.Class.a H.Base.Mem.Heap.Class.len H.Base.Mem.Heap.Class.cap, .slice H.Base.Mem.Lists.Global.a H.Base.Mem.Lists.Global.len H.Base.Mem.Lists.Global.cap, .slice H.Base.Mem.Lists.Own.a H.Base.Mem.Lists.Own.len H.Base.Mem.Lists.Own.cap, .int .i64 x.Base.Clock.Epoch, .slice H.Base.Clock.Pins.a H.Base.Clock.Pins.len H.Base.Clock.Pins.cap, .slice H.Base.Limbo.a H.Base.Limbo.len H.Base.Limbo.cap, .slice H.Base.Haz.a H.Base.Haz.len H.Base.Haz.cap, .slice H.Cells.a H.Cells.len H.Cells.cap, .slice H.Jobs.a H.Jobs.len H.Jobs.cap, .slice H.Todo.a H.Todo.len H.Todo.cap, .slice H.Log.a H.Log.len H.Log.cap, .int .i64 x.Serial] := by
      have hbx := Box.new w #[.slice H.Base.Mem.Heap.Bytes.a H.Base.Mem.Heap.Bytes.len H.Base.Mem.Heap.Bytes.cap, .slice H.Base.Mem.Heap.Class.a H.Base.Mem.Heap.Class.len H.Base.Mem.Heap.Class.cap, .slice H.Base.Mem.Lists.Global.a H.Base.Mem.Lists.Global.len H.Base.Mem.Lists.Global.cap, .slice H.Base.Mem.Lists.Own.a H.Base.Mem.Lists.Own.len H.Base.Mem.Lists.Own.cap, .int .i64 x.Base.Clock.Epoch, .slice H.Base.Clock.Pins.a H.Base.Clock.Pins.len H.Base.Clock.Pins.cap, .slice H.Base.Limbo.a H.Base.Limbo.len H.Base.Limbo.cap, .slice H.Base.Haz.a H.Base.Haz.len H.Base.Haz.cap, .slice H.Cells.a H.Cells.len H.Cells.cap, .slice H.Jobs.a H.Jobs.len H.Jobs.cap, .slice H.Todo.a H.Todo.len H.Todo.cap, .slice H.Log.a H.Log.len H.Log.cap, .int .i64 x.Serial] 69
      exact hbx
    have hB : Below w.heap.size w (w.alloc (.cells #[.slice H.Base.Mem.Heap.Bytes.a H.Base.Mem.Heap.Bytes.len H.Base.Mem.Heap.Bytes.cap, .slice H.Base.Mem.Heap.Class.a H.Base.Mem.Heap.Class.len H.Base.Mem.Heap.Class.cap, .slice H.Base.Mem.Lists.Global.a H.Base.Mem.Lists.Global.len H.Base.Mem.Lists.Global.cap, .slice H.Base.Mem.Lists.Own.a H.Base.Mem.Lists.Own.len H.Base.Mem.Lists.Own.cap, .int .i64 x.Base.Clock.Epoch, .slice H.Base.Clock.Pins.a H.Base.Clock.Pins.len H.Base.Clock.Pins.cap, .slice H.Base.Limbo.a H.Base.Limbo.len H.Base.Limbo.cap, .slice H.Base.Haz.a H.Base.Haz.len H.Base.Haz.cap, .slice H.Cells.a H.Cells.len H.Cells.cap, .slice H.Jobs.a H.Jobs.len H.Jobs.cap, .slice H.Todo.a H.Todo.len H.Todo.cap, .slice H.Log.a H.Log.len H.Log.cap, .int .i64 x.Serial] 69)) := by repeat (first | exact Below.refl _ _ | refine Below.alloc ?_ (by simp <;> omega) _ | refine below_grow_of ?_ (by simp <;> omega) _ _ | refine Below.drew ?_ | refine below_drewN ?_ _)
    go_enter Tryz.func43, Tryz.ntmps43
    go_wp2_with fail
    generalize hW0 : (w.alloc (.cells #[.slice H.Base.Mem.Heap.Bytes.a H.Base.Mem.Heap.Bytes.len H.Base.Mem.Heap.Bytes.cap, .slice H.Base.Mem.Heap.Class.a H.Base.Mem.Heap.Class.len H.Base.Mem.Heap.Class.cap, .slice H.Base.Mem.Lists.Global.a H.Base.Mem.Lists.Global.len H.Base.Mem.Lists.Global.cap, .slice H.Base.Mem.Lists.Own.a H.Base.Mem.Lists.Own.len H.Base.Mem.Lists.Own.cap, .int .i64 x.Base.Clock.Epoch, .slice H.Base.Clock.Pins.a H.Base.Clock.Pins.len H.Base.Clock.Pins.cap, .slice H.Base.Limbo.a H.Base.Limbo.len H.Base.Limbo.cap, .slice H.Base.Haz.a H.Base.Haz.len H.Base.Haz.cap, .slice H.Cells.a H.Cells.len H.Cells.cap, .slice H.Jobs.a H.Jobs.len H.Jobs.cap, .slice H.Todo.a H.Todo.len H.Todo.cap, .slice H.Log.a H.Log.len H.Log.cap, .int .i64 x.Serial] 69)) = w0 at B_a hB ⊢
    clear hW0
    have zz_a := B_a.lt
    have q_a_0 := B_a.cell 0 _ rfl
    have q_a_1 := B_a.cell 1 _ rfl
    have q_a_2 := B_a.cell 2 _ rfl
    have q_a_3 := B_a.cell 3 _ rfl
    have q_a_4 := B_a.cell 4 _ rfl
    have q_a_5 := B_a.cell 5 _ rfl
    have q_a_6 := B_a.cell 6 _ rfl
    have q_a_7 := B_a.cell 7 _ rfl
    have q_a_8 := B_a.cell 8 _ rfl
    have q_a_9 := B_a.cell 9 _ rfl
    have q_a_10 := B_a.cell 10 _ rfl
    have q_a_11 := B_a.cell 11 _ rfl
    have q_a_12 := B_a.cell 12 _ rfl
    have fr_a := B_a.fro
    have z_a := B_a.lt
    refine (k0 _ hB).mono ?_
    rintro e w1 ⟨rfl, hb⟩
    replace B_a := B_a.below hb
    replace hB := hB.trans (hb.mono hB.size)
    have sz := hb.size
    clear hb
    replace q_a_0 := B_a.cell 0 _ rfl
    replace q_a_1 := B_a.cell 1 _ rfl
    replace q_a_2 := B_a.cell 2 _ rfl
    replace q_a_3 := B_a.cell 3 _ rfl
    replace q_a_4 := B_a.cell 4 _ rfl
    replace q_a_5 := B_a.cell 5 _ rfl
    replace q_a_6 := B_a.cell 6 _ rfl
    replace q_a_7 := B_a.cell 7 _ rfl
    replace q_a_8 := B_a.cell 8 _ rfl
    replace q_a_9 := B_a.cell 9 _ rfl
    replace q_a_10 := B_a.cell 10 _ rfl
    replace q_a_11 := B_a.cell 11 _ rfl
    replace q_a_12 := B_a.cell 12 _ rfl
    replace fr_a := B_a.fro
    replace z_a := B_a.lt
    clear k0
    go_wp2_with fail
    go_ret
    exact ⟨ret_bool HV.out.symm, hB⟩
  | true =>
  have d1 : ((H.Cells.len : Int) == 2) = true := by rw [eC.out]; have a := hc1.out.symm; simp at a ⊢; omega
  have n1 : ((H.Cells.len : Int) != 2) = false := by rw [bne, d1]; rfl
  cases c2 with
  | false =>
    have d2 : ((H.Jobs.len : Int) == 3) = false := by rw [eJ.out]; have a := hc2.out.symm; simp at a ⊢; omega
    have n2 : ((H.Jobs.len : Int) != 3) = true := by rw [bne, d2]; rfl
    replace HV : Hid (shelfOkB x = false) := Hid.mk_ (HV.out.trans (by simp))
    have B_a : Box (w.alloc (.cells #[.slice H.Base.Mem.Heap.Bytes.a H.Base.Mem.Heap.Bytes.len H.Base.Mem.Heap.Bytes.cap, .slice H.Base.Mem.Heap.Class.a H.Base.Mem.Heap.Class.len H.Base.Mem.Heap.Class.cap, .slice H.Base.Mem.Lists.Global.a H.Base.Mem.Lists.Global.len H.Base.Mem.Lists.Global.cap, .slice H.Base.Mem.Lists.Own.a H.Base.Mem.Lists.Own.len H.Base.Mem.Lists.Own.cap, .int .i64 x.Base.Clock.Epoch, .slice H.Base.Clock.Pins.a H.Base.Clock.Pins.len H.Base.Clock.Pins.cap, .slice H.Base.Limbo.a H.Base.Limbo.len H.Base.Limbo.cap, .slice H.Base.Haz.a H.Base.Haz.len H.Base.Haz.cap, .slice H.Cells.a H.Cells.len H.Cells.cap, .slice H.Jobs.a H.Jobs.len H.Jobs.cap, .slice H.Todo.a H.Todo.len H.Todo.cap, .slice H.Log.a H.Log.len H.Log.cap, .int .i64 x.Serial] 69)) (w.heap.size) [.slice H.Base.Mem.Heap.Bytes.a H.Base.Mem.Heap.Bytes.len H.Base.Mem.Heap.Bytes.cap, .slice H.Base.Mem.Heap.Class.a H.Base.Mem.Heap.Class.len H.Base.Mem.Heap.Class.cap, .slice H.Base.Mem.Lists.Global.a H.Base.Mem.Lists.Global.len H.Base.Mem.Lists.Global.cap, .slice H.Base.Mem.Lists.Own.a H.Base.Mem.Lists.Own.len H.Base.Mem.Lists.Own.cap, .int .i64 x.Base.Clock.Epoch, .slice H.Base.Clock.Pins.a H.Base.Clock.Pins.len H.Base.Clock.Pins.cap, .slice H.Base.Limbo.a H.Base.Limbo.len H.Base.Limbo.cap, .slice H.Base.Haz.a H.Base.Haz.len H.Base.Haz.cap, .slice H.Cells.a H.Cells.len H.Cells.cap, .slice H.Jobs.a H.Jobs.len H.Jobs.cap, .slice H.Todo.a H.Todo.len H.Todo.cap, .slice H.Log.a H.Log.len H.Log.cap, .int .i64 x.Serial] := by
      have hbx := Box.new w #[.slice H.Base.Mem.Heap.Bytes.a H.Base.Mem.Heap.Bytes.len H.Base.Mem.Heap.Bytes.cap, .slice H.Base.Mem.Heap.Class.a H.Base.Mem.Heap.Class.len H.Base.Mem.Heap.Class.cap, .slice H.Base.Mem.Lists.Global.a H.Base.Mem.Lists.Global.len H.Base.Mem.Lists.Global.cap, .slice H.Base.Mem.Lists.Own.a H.Base.Mem.Lists.Own.len H.Base.Mem.Lists.Own.cap, .int .i64 x.Base.Clock.Epoch, .slice H.Base.Clock.Pins.a H.Base.Clock.Pins.len H.Base.Clock.Pins.cap, .slice H.Base.Limbo.a H.Base.Limbo.len H.Base.Limbo.cap, .slice H.Base.Haz.a H.Base.Haz.len H.Base.Haz.cap, .slice H.Cells.a H.Cells.len H.Cells.cap, .slice H.Jobs.a H.Jobs.len H.Jobs.cap, .slice H.Todo.a H.Todo.len H.Todo.cap, .slice H.Log.a H.Log.len H.Log.cap, .int .i64 x.Serial] 69
      exact hbx
    have hB : Below w.heap.size w (w.alloc (.cells #[.slice H.Base.Mem.Heap.Bytes.a H.Base.Mem.Heap.Bytes.len H.Base.Mem.Heap.Bytes.cap, .slice H.Base.Mem.Heap.Class.a H.Base.Mem.Heap.Class.len H.Base.Mem.Heap.Class.cap, .slice H.Base.Mem.Lists.Global.a H.Base.Mem.Lists.Global.len H.Base.Mem.Lists.Global.cap, .slice H.Base.Mem.Lists.Own.a H.Base.Mem.Lists.Own.len H.Base.Mem.Lists.Own.cap, .int .i64 x.Base.Clock.Epoch, .slice H.Base.Clock.Pins.a H.Base.Clock.Pins.len H.Base.Clock.Pins.cap, .slice H.Base.Limbo.a H.Base.Limbo.len H.Base.Limbo.cap, .slice H.Base.Haz.a H.Base.Haz.len H.Base.Haz.cap, .slice H.Cells.a H.Cells.len H.Cells.cap, .slice H.Jobs.a H.Jobs.len H.Jobs.cap, .slice H.Todo.a H.Todo.len H.Todo.cap, .slice H.Log.a H.Log.len H.Log.cap, .int .i64 x.Serial] 69)) := by repeat (first | exact Below.refl _ _ | refine Below.alloc ?_ (by simp <;> omega) _ | refine below_grow_of ?_ (by simp <;> omega) _ _ | refine Below.drew ?_ | refine below_drewN ?_ _)
    go_enter Tryz.func43, Tryz.ntmps43
    go_wp2_with fail
    generalize hW0 : (w.alloc (.cells #[.slice H.Base.Mem.Heap.Bytes.a H.Base.Mem.Heap.Bytes.len H.Base.Mem.Heap.Bytes.cap, .slice H.Base.Mem.Heap.Class.a H.Base.Mem.Heap.Class.len H.Base.Mem.Heap.Class.cap, .slice H.Base.Mem.Lists.Global.a H.Base.Mem.Lists.Global.len H.Base.Mem.Lists.Global.cap, .slice H.Base.Mem.Lists.Own.a H.Base.Mem.Lists.Own.len H.Base.Mem.Lists.Own.cap, .int .i64 x.Base.Clock.Epoch, .slice H.Base.Clock.Pins.a H.Base.Clock.Pins.len H.Base.Clock.Pins.cap, .slice H.Base.Limbo.a H.Base.Limbo.len H.Base.Limbo.cap, .slice H.Base.Haz.a H.Base.Haz.len H.Base.Haz.cap, .slice H.Cells.a H.Cells.len H.Cells.cap, .slice H.Jobs.a H.Jobs.len H.Jobs.cap, .slice H.Todo.a H.Todo.len H.Todo.cap, .slice H.Log.a H.Log.len H.Log.cap, .int .i64 x.Serial] 69)) = w0 at B_a hB ⊢
    clear hW0
    have zz_a := B_a.lt
    have q_a_0 := B_a.cell 0 _ rfl
    have q_a_1 := B_a.cell 1 _ rfl
    have q_a_2 := B_a.cell 2 _ rfl
    have q_a_3 := B_a.cell 3 _ rfl
    have q_a_4 := B_a.cell 4 _ rfl
    have q_a_5 := B_a.cell 5 _ rfl
    have q_a_6 := B_a.cell 6 _ rfl
    have q_a_7 := B_a.cell 7 _ rfl
    have q_a_8 := B_a.cell 8 _ rfl
    have q_a_9 := B_a.cell 9 _ rfl
    have q_a_10 := B_a.cell 10 _ rfl
    have q_a_11 := B_a.cell 11 _ rfl
    have q_a_12 := B_a.cell 12 _ rfl
    have fr_a := B_a.fro
    have z_a := B_a.lt
    refine (k0 _ hB).mono ?_
    rintro e w1 ⟨rfl, hb⟩
    replace B_a := B_a.below hb
    replace hB := hB.trans (hb.mono hB.size)
    have sz := hb.size
    clear hb
    replace q_a_0 := B_a.cell 0 _ rfl
    replace q_a_1 := B_a.cell 1 _ rfl
    replace q_a_2 := B_a.cell 2 _ rfl
    replace q_a_3 := B_a.cell 3 _ rfl
    replace q_a_4 := B_a.cell 4 _ rfl
    replace q_a_5 := B_a.cell 5 _ rfl
    replace q_a_6 := B_a.cell 6 _ rfl
    replace q_a_7 := B_a.cell 7 _ rfl
    replace q_a_8 := B_a.cell 8 _ rfl
    replace q_a_9 := B_a.cell 9 _ rfl
    replace q_a_10 := B_a.cell 10 _ rfl
    replace q_a_11 := B_a.cell 11 _ rfl
    replace q_a_12 := B_a.cell 12 _ rfl
    replace fr_a := B_a.fro
    replace z_a := B_a.lt
    clear k0
    go_wp2_with fail
    go_ret
    exact ⟨ret_bool HV.out.symm, hB⟩
  | true =>
  have d2 : ((H.Jobs.len : Int) == 3) = true := by rw [eJ.out]; have a := hc2.out.symm; simp at a ⊢; omega
  have n2 : ((H.Jobs.len : Int) != 3) = false := by rw [bne, d2]; rfl
  cases c3 with
  | false =>
    replace HV : Hid (shelfOkB x = false) := Hid.mk_ (HV.out.trans (by simp))
    have B_a : Box (w.alloc (.cells #[.slice H.Base.Mem.Heap.Bytes.a H.Base.Mem.Heap.Bytes.len H.Base.Mem.Heap.Bytes.cap, .slice H.Base.Mem.Heap.Class.a H.Base.Mem.Heap.Class.len H.Base.Mem.Heap.Class.cap, .slice H.Base.Mem.Lists.Global.a H.Base.Mem.Lists.Global.len H.Base.Mem.Lists.Global.cap, .slice H.Base.Mem.Lists.Own.a H.Base.Mem.Lists.Own.len H.Base.Mem.Lists.Own.cap, .int .i64 x.Base.Clock.Epoch, .slice H.Base.Clock.Pins.a H.Base.Clock.Pins.len H.Base.Clock.Pins.cap, .slice H.Base.Limbo.a H.Base.Limbo.len H.Base.Limbo.cap, .slice H.Base.Haz.a H.Base.Haz.len H.Base.Haz.cap, .slice H.Cells.a H.Cells.len H.Cells.cap, .slice H.Jobs.a H.Jobs.len H.Jobs.cap, .slice H.Todo.a H.Todo.len H.Todo.cap, .slice H.Log.a H.Log.len H.Log.cap, .int .i64 x.Serial] 69)) (w.heap.size) [.slice H.Base.Mem.Heap.Bytes.a H.Base.Mem.Heap.Bytes.len H.Base.Mem.Heap.Bytes.cap, .slice H.Base.Mem.Heap.Class.a H.Base.Mem.Heap.Class.len H.Base.Mem.Heap.Class.cap, .slice H.Base.Mem.Lists.Global.a H.Base.Mem.Lists.Global.len H.Base.Mem.Lists.Global.cap, .slice H.Base.Mem.Lists.Own.a H.Base.Mem.Lists.Own.len H.Base.Mem.Lists.Own.cap, .int .i64 x.Base.Clock.Epoch, .slice H.Base.Clock.Pins.a H.Base.Clock.Pins.len H.Base.Clock.Pins.cap, .slice H.Base.Limbo.a H.Base.Limbo.len H.Base.Limbo.cap, .slice H.Base.Haz.a H.Base.Haz.len H.Base.Haz.cap, .slice H.Cells.a H.Cells.len H.Cells.cap, .slice H.Jobs.a H.Jobs.len H.Jobs.cap, .slice H.Todo.a H.Todo.len H.Todo.cap, .slice H.Log.a H.Log.len H.Log.cap, .int .i64 x.Serial] := by
      have hbx := Box.new w #[.slice H.Base.Mem.Heap.Bytes.a H.Base.Mem.Heap.Bytes.len H.Base.Mem.Heap.Bytes.cap, .slice H.Base.Mem.Heap.Class.a H.Base.Mem.Heap.Class.len H.Base.Mem.Heap.Class.cap, .slice H.Base.Mem.Lists.Global.a H.Base.Mem.Lists.Global.len H.Base.Mem.Lists.Global.cap, .slice H.Base.Mem.Lists.Own.a H.Base.Mem.Lists.Own.len H.Base.Mem.Lists.Own.cap, .int .i64 x.Base.Clock.Epoch, .slice H.Base.Clock.Pins.a H.Base.Clock.Pins.len H.Base.Clock.Pins.cap, .slice H.Base.Limbo.a H.Base.Limbo.len H.Base.Limbo.cap, .slice H.Base.Haz.a H.Base.Haz.len H.Base.Haz.cap, .slice H.Cells.a H.Cells.len H.Cells.cap, .slice H.Jobs.a H.Jobs.len H.Jobs.cap, .slice H.Todo.a H.Todo.len H.Todo.cap, .slice H.Log.a H.Log.len H.Log.cap, .int .i64 x.Serial] 69
      exact hbx
    have hB : Below w.heap.size w (w.alloc (.cells #[.slice H.Base.Mem.Heap.Bytes.a H.Base.Mem.Heap.Bytes.len H.Base.Mem.Heap.Bytes.cap, .slice H.Base.Mem.Heap.Class.a H.Base.Mem.Heap.Class.len H.Base.Mem.Heap.Class.cap, .slice H.Base.Mem.Lists.Global.a H.Base.Mem.Lists.Global.len H.Base.Mem.Lists.Global.cap, .slice H.Base.Mem.Lists.Own.a H.Base.Mem.Lists.Own.len H.Base.Mem.Lists.Own.cap, .int .i64 x.Base.Clock.Epoch, .slice H.Base.Clock.Pins.a H.Base.Clock.Pins.len H.Base.Clock.Pins.cap, .slice H.Base.Limbo.a H.Base.Limbo.len H.Base.Limbo.cap, .slice H.Base.Haz.a H.Base.Haz.len H.Base.Haz.cap, .slice H.Cells.a H.Cells.len H.Cells.cap, .slice H.Jobs.a H.Jobs.len H.Jobs.cap, .slice H.Todo.a H.Todo.len H.Todo.cap, .slice H.Log.a H.Log.len H.Log.cap, .int .i64 x.Serial] 69)) := by repeat (first | exact Below.refl _ _ | refine Below.alloc ?_ (by simp <;> omega) _ | refine below_grow_of ?_ (by simp <;> omega) _ _ | refine Below.drew ?_ | refine below_drewN ?_ _)
    go_enter Tryz.func43, Tryz.ntmps43
    go_wp2_with fail
    generalize hW0 : (w.alloc (.cells #[.slice H.Base.Mem.Heap.Bytes.a H.Base.Mem.Heap.Bytes.len H.Base.Mem.Heap.Bytes.cap, .slice H.Base.Mem.Heap.Class.a H.Base.Mem.Heap.Class.len H.Base.Mem.Heap.Class.cap, .slice H.Base.Mem.Lists.Global.a H.Base.Mem.Lists.Global.len H.Base.Mem.Lists.Global.cap, .slice H.Base.Mem.Lists.Own.a H.Base.Mem.Lists.Own.len H.Base.Mem.Lists.Own.cap, .int .i64 x.Base.Clock.Epoch, .slice H.Base.Clock.Pins.a H.Base.Clock.Pins.len H.Base.Clock.Pins.cap, .slice H.Base.Limbo.a H.Base.Limbo.len H.Base.Limbo.cap, .slice H.Base.Haz.a H.Base.Haz.len H.Base.Haz.cap, .slice H.Cells.a H.Cells.len H.Cells.cap, .slice H.Jobs.a H.Jobs.len H.Jobs.cap, .slice H.Todo.a H.Todo.len H.Todo.cap, .slice H.Log.a H.Log.len H.Log.cap, .int .i64 x.Serial] 69)) = w0 at B_a hB ⊢
    clear hW0
    have zz_a := B_a.lt
    have q_a_0 := B_a.cell 0 _ rfl
    have q_a_1 := B_a.cell 1 _ rfl
    have q_a_2 := B_a.cell 2 _ rfl
    have q_a_3 := B_a.cell 3 _ rfl
    have q_a_4 := B_a.cell 4 _ rfl
    have q_a_5 := B_a.cell 5 _ rfl
    have q_a_6 := B_a.cell 6 _ rfl
    have q_a_7 := B_a.cell 7 _ rfl
    have q_a_8 := B_a.cell 8 _ rfl
    have q_a_9 := B_a.cell 9 _ rfl
    have q_a_10 := B_a.cell 10 _ rfl
    have q_a_11 := B_a.cell 11 _ rfl
    have q_a_12 := B_a.cell 12 _ rfl
    have fr_a := B_a.fro
    have z_a := B_a.lt
    refine (k0 _ hB).mono ?_
    rintro e w1 ⟨rfl, hb⟩
    replace B_a := B_a.below hb
    replace hB := hB.trans (hb.mono hB.size)
    have sz := hb.size
    clear hb
    replace q_a_0 := B_a.cell 0 _ rfl
    replace q_a_1 := B_a.cell 1 _ rfl
    replace q_a_2 := B_a.cell 2 _ rfl
    replace q_a_3 := B_a.cell 3 _ rfl
    replace q_a_4 := B_a.cell 4 _ rfl
    replace q_a_5 := B_a.cell 5 _ rfl
    replace q_a_6 := B_a.cell 6 _ rfl
    replace q_a_7 := B_a.cell 7 _ rfl
    replace q_a_8 := B_a.cell 8 _ rfl
    replace q_a_9 := B_a.cell 9 _ rfl
    replace q_a_10 := B_a.cell 10 _ rfl
    replace q_a_11 := B_a.cell 11 _ rfl
    replace q_a_12 := B_a.cell 12 _ rfl
    replace fr_a := B_a.fro
    replace z_a := B_a.lt
    clear k0
    go_wp2_with fail
    refine (k3 _ hB).mono ?_
    rintro e w2 ⟨rfl, hb⟩
    replace B_a := B_a.below hb
    replace hB := hB.trans (hb.mono hB.size)
    have sz := hb.size
    clear hb
    replace q_a_0 := B_a.cell 0 _ rfl
    replace q_a_1 := B_a.cell 1 _ rfl
    replace q_a_2 := B_a.cell 2 _ rfl
    replace q_a_3 := B_a.cell 3 _ rfl
    replace q_a_4 := B_a.cell 4 _ rfl
    replace q_a_5 := B_a.cell 5 _ rfl
    replace q_a_6 := B_a.cell 6 _ rfl
    replace q_a_7 := B_a.cell 7 _ rfl
    replace q_a_8 := B_a.cell 8 _ rfl
    replace q_a_9 := B_a.cell 9 _ rfl
    replace q_a_10 := B_a.cell 10 _ rfl
    replace q_a_11 := B_a.cell 11 _ rfl
    replace q_a_12 := B_a.cell 12 _ rfl
    replace fr_a := B_a.fro
    replace z_a := B_a.lt
    clear k3
    go_wp2_with fail
    go_ret
    exact ⟨ret_bool HV.out.symm, hB⟩
  | true =>
  cases c4 with
  | false =>
    replace HV : Hid (shelfOkB x = false) := Hid.mk_ (HV.out.trans (by simp))
    have B_a : Box (w.alloc (.cells #[.slice H.Base.Mem.Heap.Bytes.a H.Base.Mem.Heap.Bytes.len H.Base.Mem.Heap.Bytes.cap, .slice H.Base.Mem.Heap.Class.a H.Base.Mem.Heap.Class.len H.Base.Mem.Heap.Class.cap, .slice H.Base.Mem.Lists.Global.a H.Base.Mem.Lists.Global.len H.Base.Mem.Lists.Global.cap, .slice H.Base.Mem.Lists.Own.a H.Base.Mem.Lists.Own.len H.Base.Mem.Lists.Own.cap, .int .i64 x.Base.Clock.Epoch, .slice H.Base.Clock.Pins.a H.Base.Clock.Pins.len H.Base.Clock.Pins.cap, .slice H.Base.Limbo.a H.Base.Limbo.len H.Base.Limbo.cap, .slice H.Base.Haz.a H.Base.Haz.len H.Base.Haz.cap, .slice H.Cells.a H.Cells.len H.Cells.cap, .slice H.Jobs.a H.Jobs.len H.Jobs.cap, .slice H.Todo.a H.Todo.len H.Todo.cap, .slice H.Log.a H.Log.len H.Log.cap, .int .i64 x.Serial] 69)) (w.heap.size) [.slice H.Base.Mem.Heap.Bytes.a H.Base.Mem.Heap.Bytes.len H.Base.Mem.Heap.Bytes.cap, .slice H.Base.Mem.Heap.Class.a H.Base.Mem.Heap.Class.len H.Base.Mem.Heap.Class.cap, .slice H.Base.Mem.Lists.Global.a H.Base.Mem.Lists.Global.len H.Base.Mem.Lists.Global.cap, .slice H.Base.Mem.Lists.Own.a H.Base.Mem.Lists.Own.len H.Base.Mem.Lists.Own.cap, .int .i64 x.Base.Clock.Epoch, .slice H.Base.Clock.Pins.a H.Base.Clock.Pins.len H.Base.Clock.Pins.cap, .slice H.Base.Limbo.a H.Base.Limbo.len H.Base.Limbo.cap, .slice H.Base.Haz.a H.Base.Haz.len H.Base.Haz.cap, .slice H.Cells.a H.Cells.len H.Cells.cap, .slice H.Jobs.a H.Jobs.len H.Jobs.cap, .slice H.Todo.a H.Todo.len H.Todo.cap, .slice H.Log.a H.Log.len H.Log.cap, .int .i64 x.Serial] := by
      have hbx := Box.new w #[.slice H.Base.Mem.Heap.Bytes.a H.Base.Mem.Heap.Bytes.len H.Base.Mem.Heap.Bytes.cap, .slice H.Base.Mem.Heap.Class.a H.Base.Mem.Heap.Class.len H.Base.Mem.Heap.Class.cap, .slice H.Base.Mem.Lists.Global.a H.Base.Mem.Lists.Global.len H.Base.Mem.Lists.Global.cap, .slice H.Base.Mem.Lists.Own.a H.Base.Mem.Lists.Own.len H.Base.Mem.Lists.Own.cap, .int .i64 x.Base.Clock.Epoch, .slice H.Base.Clock.Pins.a H.Base.Clock.Pins.len H.Base.Clock.Pins.cap, .slice H.Base.Limbo.a H.Base.Limbo.len H.Base.Limbo.cap, .slice H.Base.Haz.a H.Base.Haz.len H.Base.Haz.cap, .slice H.Cells.a H.Cells.len H.Cells.cap, .slice H.Jobs.a H.Jobs.len H.Jobs.cap, .slice H.Todo.a H.Todo.len H.Todo.cap, .slice H.Log.a H.Log.len H.Log.cap, .int .i64 x.Serial] 69
      exact hbx
    have hB : Below w.heap.size w (w.alloc (.cells #[.slice H.Base.Mem.Heap.Bytes.a H.Base.Mem.Heap.Bytes.len H.Base.Mem.Heap.Bytes.cap, .slice H.Base.Mem.Heap.Class.a H.Base.Mem.Heap.Class.len H.Base.Mem.Heap.Class.cap, .slice H.Base.Mem.Lists.Global.a H.Base.Mem.Lists.Global.len H.Base.Mem.Lists.Global.cap, .slice H.Base.Mem.Lists.Own.a H.Base.Mem.Lists.Own.len H.Base.Mem.Lists.Own.cap, .int .i64 x.Base.Clock.Epoch, .slice H.Base.Clock.Pins.a H.Base.Clock.Pins.len H.Base.Clock.Pins.cap, .slice H.Base.Limbo.a H.Base.Limbo.len H.Base.Limbo.cap, .slice H.Base.Haz.a H.Base.Haz.len H.Base.Haz.cap, .slice H.Cells.a H.Cells.len H.Cells.cap, .slice H.Jobs.a H.Jobs.len H.Jobs.cap, .slice H.Todo.a H.Todo.len H.Todo.cap, .slice H.Log.a H.Log.len H.Log.cap, .int .i64 x.Serial] 69)) := by repeat (first | exact Below.refl _ _ | refine Below.alloc ?_ (by simp <;> omega) _ | refine below_grow_of ?_ (by simp <;> omega) _ _ | refine Below.drew ?_ | refine below_drewN ?_ _)
    go_enter Tryz.func43, Tryz.ntmps43
    go_wp2_with fail
    generalize hW0 : (w.alloc (.cells #[.slice H.Base.Mem.Heap.Bytes.a H.Base.Mem.Heap.Bytes.len H.Base.Mem.Heap.Bytes.cap, .slice H.Base.Mem.Heap.Class.a H.Base.Mem.Heap.Class.len H.Base.Mem.Heap.Class.cap, .slice H.Base.Mem.Lists.Global.a H.Base.Mem.Lists.Global.len H.Base.Mem.Lists.Global.cap, .slice H.Base.Mem.Lists.Own.a H.Base.Mem.Lists.Own.len H.Base.Mem.Lists.Own.cap, .int .i64 x.Base.Clock.Epoch, .slice H.Base.Clock.Pins.a H.Base.Clock.Pins.len H.Base.Clock.Pins.cap, .slice H.Base.Limbo.a H.Base.Limbo.len H.Base.Limbo.cap, .slice H.Base.Haz.a H.Base.Haz.len H.Base.Haz.cap, .slice H.Cells.a H.Cells.len H.Cells.cap, .slice H.Jobs.a H.Jobs.len H.Jobs.cap, .slice H.Todo.a H.Todo.len H.Todo.cap, .slice H.Log.a H.Log.len H.Log.cap, .int .i64 x.Serial] 69)) = w0 at B_a hB ⊢
    clear hW0
    have zz_a := B_a.lt
    have q_a_0 := B_a.cell 0 _ rfl
    have q_a_1 := B_a.cell 1 _ rfl
    have q_a_2 := B_a.cell 2 _ rfl
    have q_a_3 := B_a.cell 3 _ rfl
    have q_a_4 := B_a.cell 4 _ rfl
    have q_a_5 := B_a.cell 5 _ rfl
    have q_a_6 := B_a.cell 6 _ rfl
    have q_a_7 := B_a.cell 7 _ rfl
    have q_a_8 := B_a.cell 8 _ rfl
    have q_a_9 := B_a.cell 9 _ rfl
    have q_a_10 := B_a.cell 10 _ rfl
    have q_a_11 := B_a.cell 11 _ rfl
    have q_a_12 := B_a.cell 12 _ rfl
    have fr_a := B_a.fro
    have z_a := B_a.lt
    refine (k0 _ hB).mono ?_
    rintro e w1 ⟨rfl, hb⟩
    replace B_a := B_a.below hb
    replace hB := hB.trans (hb.mono hB.size)
    have sz := hb.size
    clear hb
    replace q_a_0 := B_a.cell 0 _ rfl
    replace q_a_1 := B_a.cell 1 _ rfl
    replace q_a_2 := B_a.cell 2 _ rfl
    replace q_a_3 := B_a.cell 3 _ rfl
    replace q_a_4 := B_a.cell 4 _ rfl
    replace q_a_5 := B_a.cell 5 _ rfl
    replace q_a_6 := B_a.cell 6 _ rfl
    replace q_a_7 := B_a.cell 7 _ rfl
    replace q_a_8 := B_a.cell 8 _ rfl
    replace q_a_9 := B_a.cell 9 _ rfl
    replace q_a_10 := B_a.cell 10 _ rfl
    replace q_a_11 := B_a.cell 11 _ rfl
    replace q_a_12 := B_a.cell 12 _ rfl
    replace fr_a := B_a.fro
    replace z_a := B_a.lt
    clear k0
    go_wp2_with fail
    refine (k3 _ hB).mono ?_
    rintro e w2 ⟨rfl, hb⟩
    replace B_a := B_a.below hb
    replace hB := hB.trans (hb.mono hB.size)
    have sz := hb.size
    clear hb
    replace q_a_0 := B_a.cell 0 _ rfl
    replace q_a_1 := B_a.cell 1 _ rfl
    replace q_a_2 := B_a.cell 2 _ rfl
    replace q_a_3 := B_a.cell 3 _ rfl
    replace q_a_4 := B_a.cell 4 _ rfl
    replace q_a_5 := B_a.cell 5 _ rfl
    replace q_a_6 := B_a.cell 6 _ rfl
    replace q_a_7 := B_a.cell 7 _ rfl
    replace q_a_8 := B_a.cell 8 _ rfl
    replace q_a_9 := B_a.cell 9 _ rfl
    replace q_a_10 := B_a.cell 10 _ rfl
    replace q_a_11 := B_a.cell 11 _ rfl
    replace q_a_12 := B_a.cell 12 _ rfl
    replace fr_a := B_a.fro
    replace z_a := B_a.lt
    clear k3
    go_wp2_with fail
    refine (k4 _ hB).mono ?_
    rintro e w3 ⟨rfl, hb⟩
    replace B_a := B_a.below hb
    replace hB := hB.trans (hb.mono hB.size)
    have sz := hb.size
    clear hb
    replace q_a_0 := B_a.cell 0 _ rfl
    replace q_a_1 := B_a.cell 1 _ rfl
    replace q_a_2 := B_a.cell 2 _ rfl
    replace q_a_3 := B_a.cell 3 _ rfl
    replace q_a_4 := B_a.cell 4 _ rfl
    replace q_a_5 := B_a.cell 5 _ rfl
    replace q_a_6 := B_a.cell 6 _ rfl
    replace q_a_7 := B_a.cell 7 _ rfl
    replace q_a_8 := B_a.cell 8 _ rfl
    replace q_a_9 := B_a.cell 9 _ rfl
    replace q_a_10 := B_a.cell 10 _ rfl
    replace q_a_11 := B_a.cell 11 _ rfl
    replace q_a_12 := B_a.cell 12 _ rfl
    replace fr_a := B_a.fro
    replace z_a := B_a.lt
    clear k4
    go_wp2_with fail
    go_ret
    exact ⟨ret_bool HV.out.symm, hB⟩
  | true =>
  cases c5 with
  | true =>
    replace HV : Hid (shelfOkB x = false) := Hid.mk_ (HV.out.trans (by simp))
    have B_a : Box (w.alloc (.cells #[.slice H.Base.Mem.Heap.Bytes.a H.Base.Mem.Heap.Bytes.len H.Base.Mem.Heap.Bytes.cap, .slice H.Base.Mem.Heap.Class.a H.Base.Mem.Heap.Class.len H.Base.Mem.Heap.Class.cap, .slice H.Base.Mem.Lists.Global.a H.Base.Mem.Lists.Global.len H.Base.Mem.Lists.Global.cap, .slice H.Base.Mem.Lists.Own.a H.Base.Mem.Lists.Own.len H.Base.Mem.Lists.Own.cap, .int .i64 x.Base.Clock.Epoch, .slice H.Base.Clock.Pins.a H.Base.Clock.Pins.len H.Base.Clock.Pins.cap, .slice H.Base.Limbo.a H.Base.Limbo.len H.Base.Limbo.cap, .slice H.Base.Haz.a H.Base.Haz.len H.Base.Haz.cap, .slice H.Cells.a H.Cells.len H.Cells.cap, .slice H.Jobs.a H.Jobs.len H.Jobs.cap, .slice H.Todo.a H.Todo.len H.Todo.cap, .slice H.Log.a H.Log.len H.Log.cap, .int .i64 x.Serial] 69)) (w.heap.size) [.slice H.Base.Mem.Heap.Bytes.a H.Base.Mem.Heap.Bytes.len H.Base.Mem.Heap.Bytes.cap, .slice H.Base.Mem.Heap.Class.a H.Base.Mem.Heap.Class.len H.Base.Mem.Heap.Class.cap, .slice H.Base.Mem.Lists.Global.a H.Base.Mem.Lists.Global.len H.Base.Mem.Lists.Global.cap, .slice H.Base.Mem.Lists.Own.a H.Base.Mem.Lists.Own.len H.Base.Mem.Lists.Own.cap, .int .i64 x.Base.Clock.Epoch, .slice H.Base.Clock.Pins.a H.Base.Clock.Pins.len H.Base.Clock.Pins.cap, .slice H.Base.Limbo.a H.Base.Limbo.len H.Base.Limbo.cap, .slice H.Base.Haz.a H.Base.Haz.len H.Base.Haz.cap, .slice H.Cells.a H.Cells.len H.Cells.cap, .slice H.Jobs.a H.Jobs.len H.Jobs.cap, .slice H.Todo.a H.Todo.len H.Todo.cap, .slice H.Log.a H.Log.len H.Log.cap, .int .i64 x.Serial] := by
      have hbx := Box.new w #[.slice H.Base.Mem.Heap.Bytes.a H.Base.Mem.Heap.Bytes.len H.Base.Mem.Heap.Bytes.cap, .slice H.Base.Mem.Heap.Class.a H.Base.Mem.Heap.Class.len H.Base.Mem.Heap.Class.cap, .slice H.Base.Mem.Lists.Global.a H.Base.Mem.Lists.Global.len H.Base.Mem.Lists.Global.cap, .slice H.Base.Mem.Lists.Own.a H.Base.Mem.Lists.Own.len H.Base.Mem.Lists.Own.cap, .int .i64 x.Base.Clock.Epoch, .slice H.Base.Clock.Pins.a H.Base.Clock.Pins.len H.Base.Clock.Pins.cap, .slice H.Base.Limbo.a H.Base.Limbo.len H.Base.Limbo.cap, .slice H.Base.Haz.a H.Base.Haz.len H.Base.Haz.cap, .slice H.Cells.a H.Cells.len H.Cells.cap, .slice H.Jobs.a H.Jobs.len H.Jobs.cap, .slice H.Todo.a H.Todo.len H.Todo.cap, .slice H.Log.a H.Log.len H.Log.cap, .int .i64 x.Serial] 69
      exact hbx
    have hB : Below w.heap.size w (w.alloc (.cells #[.slice H.Base.Mem.Heap.Bytes.a H.Base.Mem.Heap.Bytes.len H.Base.Mem.Heap.Bytes.cap, .slice H.Base.Mem.Heap.Class.a H.Base.Mem.Heap.Class.len H.Base.Mem.Heap.Class.cap, .slice H.Base.Mem.Lists.Global.a H.Base.Mem.Lists.Global.len H.Base.Mem.Lists.Global.cap, .slice H.Base.Mem.Lists.Own.a H.Base.Mem.Lists.Own.len H.Base.Mem.Lists.Own.cap, .int .i64 x.Base.Clock.Epoch, .slice H.Base.Clock.Pins.a H.Base.Clock.Pins.len H.Base.Clock.Pins.cap, .slice H.Base.Limbo.a H.Base.Limbo.len H.Base.Limbo.cap, .slice H.Base.Haz.a H.Base.Haz.len H.Base.Haz.cap, .slice H.Cells.a H.Cells.len H.Cells.cap, .slice H.Jobs.a H.Jobs.len H.Jobs.cap, .slice H.Todo.a H.Todo.len H.Todo.cap, .slice H.Log.a H.Log.len H.Log.cap, .int .i64 x.Serial] 69)) := by repeat (first | exact Below.refl _ _ | refine Below.alloc ?_ (by simp <;> omega) _ | refine below_grow_of ?_ (by simp <;> omega) _ _ | refine Below.drew ?_ | refine below_drewN ?_ _)
    go_enter Tryz.func43, Tryz.ntmps43
    go_wp2_with fail
    generalize hW0 : (w.alloc (.cells #[.slice H.Base.Mem.Heap.Bytes.a H.Base.Mem.Heap.Bytes.len H.Base.Mem.Heap.Bytes.cap, .slice H.Base.Mem.Heap.Class.a H.Base.Mem.Heap.Class.len H.Base.Mem.Heap.Class.cap, .slice H.Base.Mem.Lists.Global.a H.Base.Mem.Lists.Global.len H.Base.Mem.Lists.Global.cap, .slice H.Base.Mem.Lists.Own.a H.Base.Mem.Lists.Own.len H.Base.Mem.Lists.Own.cap, .int .i64 x.Base.Clock.Epoch, .slice H.Base.Clock.Pins.a H.Base.Clock.Pins.len H.Base.Clock.Pins.cap, .slice H.Base.Limbo.a H.Base.Limbo.len H.Base.Limbo.cap, .slice H.Base.Haz.a H.Base.Haz.len H.Base.Haz.cap, .slice H.Cells.a H.Cells.len H.Cells.cap, .slice H.Jobs.a H.Jobs.len H.Jobs.cap, .slice H.Todo.a H.Todo.len H.Todo.cap, .slice H.Log.a H.Log.len H.Log.cap, .int .i64 x.Serial] 69)) = w0 at B_a hB ⊢
    clear hW0
    have zz_a := B_a.lt
    have q_a_0 := B_a.cell 0 _ rfl
    have q_a_1 := B_a.cell 1 _ rfl
    have q_a_2 := B_a.cell 2 _ rfl
    have q_a_3 := B_a.cell 3 _ rfl
    have q_a_4 := B_a.cell 4 _ rfl
    have q_a_5 := B_a.cell 5 _ rfl
    have q_a_6 := B_a.cell 6 _ rfl
    have q_a_7 := B_a.cell 7 _ rfl
    have q_a_8 := B_a.cell 8 _ rfl
    have q_a_9 := B_a.cell 9 _ rfl
    have q_a_10 := B_a.cell 10 _ rfl
    have q_a_11 := B_a.cell 11 _ rfl
    have q_a_12 := B_a.cell 12 _ rfl
    have fr_a := B_a.fro
    have z_a := B_a.lt
    refine (k0 _ hB).mono ?_
    rintro e w1 ⟨rfl, hb⟩
    replace B_a := B_a.below hb
    replace hB := hB.trans (hb.mono hB.size)
    have sz := hb.size
    clear hb
    replace q_a_0 := B_a.cell 0 _ rfl
    replace q_a_1 := B_a.cell 1 _ rfl
    replace q_a_2 := B_a.cell 2 _ rfl
    replace q_a_3 := B_a.cell 3 _ rfl
    replace q_a_4 := B_a.cell 4 _ rfl
    replace q_a_5 := B_a.cell 5 _ rfl
    replace q_a_6 := B_a.cell 6 _ rfl
    replace q_a_7 := B_a.cell 7 _ rfl
    replace q_a_8 := B_a.cell 8 _ rfl
    replace q_a_9 := B_a.cell 9 _ rfl
    replace q_a_10 := B_a.cell 10 _ rfl
    replace q_a_11 := B_a.cell 11 _ rfl
    replace q_a_12 := B_a.cell 12 _ rfl
    replace fr_a := B_a.fro
    replace z_a := B_a.lt
    clear k0
    go_wp2_with fail
    refine (k3 _ hB).mono ?_
    rintro e w2 ⟨rfl, hb⟩
    replace B_a := B_a.below hb
    replace hB := hB.trans (hb.mono hB.size)
    have sz := hb.size
    clear hb
    replace q_a_0 := B_a.cell 0 _ rfl
    replace q_a_1 := B_a.cell 1 _ rfl
    replace q_a_2 := B_a.cell 2 _ rfl
    replace q_a_3 := B_a.cell 3 _ rfl
    replace q_a_4 := B_a.cell 4 _ rfl
    replace q_a_5 := B_a.cell 5 _ rfl
    replace q_a_6 := B_a.cell 6 _ rfl
    replace q_a_7 := B_a.cell 7 _ rfl
    replace q_a_8 := B_a.cell 8 _ rfl
    replace q_a_9 := B_a.cell 9 _ rfl
    replace q_a_10 := B_a.cell 10 _ rfl
    replace q_a_11 := B_a.cell 11 _ rfl
    replace q_a_12 := B_a.cell 12 _ rfl
    replace fr_a := B_a.fro
    replace z_a := B_a.lt
    clear k3
    go_wp2_with fail
    refine (k4 _ hB).mono ?_
    rintro e w3 ⟨rfl, hb⟩
    replace B_a := B_a.below hb
    replace hB := hB.trans (hb.mono hB.size)
    have sz := hb.size
    clear hb
    replace q_a_0 := B_a.cell 0 _ rfl
    replace q_a_1 := B_a.cell 1 _ rfl
    replace q_a_2 := B_a.cell 2 _ rfl
    replace q_a_3 := B_a.cell 3 _ rfl
    replace q_a_4 := B_a.cell 4 _ rfl
    replace q_a_5 := B_a.cell 5 _ rfl
    replace q_a_6 := B_a.cell 6 _ rfl
    replace q_a_7 := B_a.cell 7 _ rfl
    replace q_a_8 := B_a.cell 8 _ rfl
    replace q_a_9 := B_a.cell 9 _ rfl
    replace q_a_10 := B_a.cell 10 _ rfl
    replace q_a_11 := B_a.cell 11 _ rfl
    replace q_a_12 := B_a.cell 12 _ rfl
    replace fr_a := B_a.fro
    replace z_a := B_a.lt
    clear k4
    go_wp2_with fail
    refine (k5 _ hB).mono ?_
    rintro e w4 ⟨rfl, hb⟩
    replace B_a := B_a.below hb
    replace hB := hB.trans (hb.mono hB.size)
    have sz := hb.size
    clear hb
    replace q_a_0 := B_a.cell 0 _ rfl
    replace q_a_1 := B_a.cell 1 _ rfl
    replace q_a_2 := B_a.cell 2 _ rfl
    replace q_a_3 := B_a.cell 3 _ rfl
    replace q_a_4 := B_a.cell 4 _ rfl
    replace q_a_5 := B_a.cell 5 _ rfl
    replace q_a_6 := B_a.cell 6 _ rfl
    replace q_a_7 := B_a.cell 7 _ rfl
    replace q_a_8 := B_a.cell 8 _ rfl
    replace q_a_9 := B_a.cell 9 _ rfl
    replace q_a_10 := B_a.cell 10 _ rfl
    replace q_a_11 := B_a.cell 11 _ rfl
    replace q_a_12 := B_a.cell 12 _ rfl
    replace fr_a := B_a.fro
    replace z_a := B_a.lt
    clear k5
    go_wp2_with fail
    go_ret
    exact ⟨ret_bool HV.out.symm, hB⟩
  | false =>
  cases c6 with
  | true =>
    replace HV : Hid (shelfOkB x = false) := Hid.mk_ (HV.out.trans (by simp))
    have B_a : Box (w.alloc (.cells #[.slice H.Base.Mem.Heap.Bytes.a H.Base.Mem.Heap.Bytes.len H.Base.Mem.Heap.Bytes.cap, .slice H.Base.Mem.Heap.Class.a H.Base.Mem.Heap.Class.len H.Base.Mem.Heap.Class.cap, .slice H.Base.Mem.Lists.Global.a H.Base.Mem.Lists.Global.len H.Base.Mem.Lists.Global.cap, .slice H.Base.Mem.Lists.Own.a H.Base.Mem.Lists.Own.len H.Base.Mem.Lists.Own.cap, .int .i64 x.Base.Clock.Epoch, .slice H.Base.Clock.Pins.a H.Base.Clock.Pins.len H.Base.Clock.Pins.cap, .slice H.Base.Limbo.a H.Base.Limbo.len H.Base.Limbo.cap, .slice H.Base.Haz.a H.Base.Haz.len H.Base.Haz.cap, .slice H.Cells.a H.Cells.len H.Cells.cap, .slice H.Jobs.a H.Jobs.len H.Jobs.cap, .slice H.Todo.a H.Todo.len H.Todo.cap, .slice H.Log.a H.Log.len H.Log.cap, .int .i64 x.Serial] 69)) (w.heap.size) [.slice H.Base.Mem.Heap.Bytes.a H.Base.Mem.Heap.Bytes.len H.Base.Mem.Heap.Bytes.cap, .slice H.Base.Mem.Heap.Class.a H.Base.Mem.Heap.Class.len H.Base.Mem.Heap.Class.cap, .slice H.Base.Mem.Lists.Global.a H.Base.Mem.Lists.Global.len H.Base.Mem.Lists.Global.cap, .slice H.Base.Mem.Lists.Own.a H.Base.Mem.Lists.Own.len H.Base.Mem.Lists.Own.cap, .int .i64 x.Base.Clock.Epoch, .slice H.Base.Clock.Pins.a H.Base.Clock.Pins.len H.Base.Clock.Pins.cap, .slice H.Base.Limbo.a H.Base.Limbo.len H.Base.Limbo.cap, .slice H.Base.Haz.a H.Base.Haz.len H.Base.Haz.cap, .slice H.Cells.a H.Cells.len H.Cells.cap, .slice H.Jobs.a H.Jobs.len H.Jobs.cap, .slice H.Todo.a H.Todo.len H.Todo.cap, .slice H.Log.a H.Log.len H.Log.cap, .int .i64 x.Serial] := by
      have hbx := Box.new w #[.slice H.Base.Mem.Heap.Bytes.a H.Base.Mem.Heap.Bytes.len H.Base.Mem.Heap.Bytes.cap, .slice H.Base.Mem.Heap.Class.a H.Base.Mem.Heap.Class.len H.Base.Mem.Heap.Class.cap, .slice H.Base.Mem.Lists.Global.a H.Base.Mem.Lists.Global.len H.Base.Mem.Lists.Global.cap, .slice H.Base.Mem.Lists.Own.a H.Base.Mem.Lists.Own.len H.Base.Mem.Lists.Own.cap, .int .i64 x.Base.Clock.Epoch, .slice H.Base.Clock.Pins.a H.Base.Clock.Pins.len H.Base.Clock.Pins.cap, .slice H.Base.Limbo.a H.Base.Limbo.len H.Base.Limbo.cap, .slice H.Base.Haz.a H.Base.Haz.len H.Base.Haz.cap, .slice H.Cells.a H.Cells.len H.Cells.cap, .slice H.Jobs.a H.Jobs.len H.Jobs.cap, .slice H.Todo.a H.Todo.len H.Todo.cap, .slice H.Log.a H.Log.len H.Log.cap, .int .i64 x.Serial] 69
      exact hbx
    have hB : Below w.heap.size w (w.alloc (.cells #[.slice H.Base.Mem.Heap.Bytes.a H.Base.Mem.Heap.Bytes.len H.Base.Mem.Heap.Bytes.cap, .slice H.Base.Mem.Heap.Class.a H.Base.Mem.Heap.Class.len H.Base.Mem.Heap.Class.cap, .slice H.Base.Mem.Lists.Global.a H.Base.Mem.Lists.Global.len H.Base.Mem.Lists.Global.cap, .slice H.Base.Mem.Lists.Own.a H.Base.Mem.Lists.Own.len H.Base.Mem.Lists.Own.cap, .int .i64 x.Base.Clock.Epoch, .slice H.Base.Clock.Pins.a H.Base.Clock.Pins.len H.Base.Clock.Pins.cap, .slice H.Base.Limbo.a H.Base.Limbo.len H.Base.Limbo.cap, .slice H.Base.Haz.a H.Base.Haz.len H.Base.Haz.cap, .slice H.Cells.a H.Cells.len H.Cells.cap, .slice H.Jobs.a H.Jobs.len H.Jobs.cap, .slice H.Todo.a H.Todo.len H.Todo.cap, .slice H.Log.a H.Log.len H.Log.cap, .int .i64 x.Serial] 69)) := by repeat (first | exact Below.refl _ _ | refine Below.alloc ?_ (by simp <;> omega) _ | refine below_grow_of ?_ (by simp <;> omega) _ _ | refine Below.drew ?_ | refine below_drewN ?_ _)
    go_enter Tryz.func43, Tryz.ntmps43
    go_wp2_with fail
    generalize hW0 : (w.alloc (.cells #[.slice H.Base.Mem.Heap.Bytes.a H.Base.Mem.Heap.Bytes.len H.Base.Mem.Heap.Bytes.cap, .slice H.Base.Mem.Heap.Class.a H.Base.Mem.Heap.Class.len H.Base.Mem.Heap.Class.cap, .slice H.Base.Mem.Lists.Global.a H.Base.Mem.Lists.Global.len H.Base.Mem.Lists.Global.cap, .slice H.Base.Mem.Lists.Own.a H.Base.Mem.Lists.Own.len H.Base.Mem.Lists.Own.cap, .int .i64 x.Base.Clock.Epoch, .slice H.Base.Clock.Pins.a H.Base.Clock.Pins.len H.Base.Clock.Pins.cap, .slice H.Base.Limbo.a H.Base.Limbo.len H.Base.Limbo.cap, .slice H.Base.Haz.a H.Base.Haz.len H.Base.Haz.cap, .slice H.Cells.a H.Cells.len H.Cells.cap, .slice H.Jobs.a H.Jobs.len H.Jobs.cap, .slice H.Todo.a H.Todo.len H.Todo.cap, .slice H.Log.a H.Log.len H.Log.cap, .int .i64 x.Serial] 69)) = w0 at B_a hB ⊢
    clear hW0
    have zz_a := B_a.lt
    have q_a_0 := B_a.cell 0 _ rfl
    have q_a_1 := B_a.cell 1 _ rfl
    have q_a_2 := B_a.cell 2 _ rfl
    have q_a_3 := B_a.cell 3 _ rfl
    have q_a_4 := B_a.cell 4 _ rfl
    have q_a_5 := B_a.cell 5 _ rfl
    have q_a_6 := B_a.cell 6 _ rfl
    have q_a_7 := B_a.cell 7 _ rfl
    have q_a_8 := B_a.cell 8 _ rfl
    have q_a_9 := B_a.cell 9 _ rfl
    have q_a_10 := B_a.cell 10 _ rfl
    have q_a_11 := B_a.cell 11 _ rfl
    have q_a_12 := B_a.cell 12 _ rfl
    have fr_a := B_a.fro
    have z_a := B_a.lt
    refine (k0 _ hB).mono ?_
    rintro e w1 ⟨rfl, hb⟩
    replace B_a := B_a.below hb
    replace hB := hB.trans (hb.mono hB.size)
    have sz := hb.size
    clear hb
    replace q_a_0 := B_a.cell 0 _ rfl
    replace q_a_1 := B_a.cell 1 _ rfl
    replace q_a_2 := B_a.cell 2 _ rfl
    replace q_a_3 := B_a.cell 3 _ rfl
    replace q_a_4 := B_a.cell 4 _ rfl
    replace q_a_5 := B_a.cell 5 _ rfl
    replace q_a_6 := B_a.cell 6 _ rfl
    replace q_a_7 := B_a.cell 7 _ rfl
    replace q_a_8 := B_a.cell 8 _ rfl
    replace q_a_9 := B_a.cell 9 _ rfl
    replace q_a_10 := B_a.cell 10 _ rfl
    replace q_a_11 := B_a.cell 11 _ rfl
    replace q_a_12 := B_a.cell 12 _ rfl
    replace fr_a := B_a.fro
    replace z_a := B_a.lt
    clear k0
    go_wp2_with fail
    refine (k3 _ hB).mono ?_
    rintro e w2 ⟨rfl, hb⟩
    replace B_a := B_a.below hb
    replace hB := hB.trans (hb.mono hB.size)
    have sz := hb.size
    clear hb
    replace q_a_0 := B_a.cell 0 _ rfl
    replace q_a_1 := B_a.cell 1 _ rfl
    replace q_a_2 := B_a.cell 2 _ rfl
    replace q_a_3 := B_a.cell 3 _ rfl
    replace q_a_4 := B_a.cell 4 _ rfl
    replace q_a_5 := B_a.cell 5 _ rfl
    replace q_a_6 := B_a.cell 6 _ rfl
    replace q_a_7 := B_a.cell 7 _ rfl
    replace q_a_8 := B_a.cell 8 _ rfl
    replace q_a_9 := B_a.cell 9 _ rfl
    replace q_a_10 := B_a.cell 10 _ rfl
    replace q_a_11 := B_a.cell 11 _ rfl
    replace q_a_12 := B_a.cell 12 _ rfl
    replace fr_a := B_a.fro
    replace z_a := B_a.lt
    clear k3
    go_wp2_with fail
    refine (k4 _ hB).mono ?_
    rintro e w3 ⟨rfl, hb⟩
    replace B_a := B_a.below hb
    replace hB := hB.trans (hb.mono hB.size)
    have sz := hb.size
    clear hb
    replace q_a_0 := B_a.cell 0 _ rfl
    replace q_a_1 := B_a.cell 1 _ rfl
    replace q_a_2 := B_a.cell 2 _ rfl
    replace q_a_3 := B_a.cell 3 _ rfl
    replace q_a_4 := B_a.cell 4 _ rfl
    replace q_a_5 := B_a.cell 5 _ rfl
    replace q_a_6 := B_a.cell 6 _ rfl
    replace q_a_7 := B_a.cell 7 _ rfl
    replace q_a_8 := B_a.cell 8 _ rfl
    replace q_a_9 := B_a.cell 9 _ rfl
    replace q_a_10 := B_a.cell 10 _ rfl
    replace q_a_11 := B_a.cell 11 _ rfl
    replace q_a_12 := B_a.cell 12 _ rfl
    replace fr_a := B_a.fro
    replace z_a := B_a.lt
    clear k4
    go_wp2_with fail
    refine (k5 _ hB).mono ?_
    rintro e w4 ⟨rfl, hb⟩
    replace B_a := B_a.below hb
    replace hB := hB.trans (hb.mono hB.size)
    have sz := hb.size
    clear hb
    replace q_a_0 := B_a.cell 0 _ rfl
    replace q_a_1 := B_a.cell 1 _ rfl
    replace q_a_2 := B_a.cell 2 _ rfl
    replace q_a_3 := B_a.cell 3 _ rfl
    replace q_a_4 := B_a.cell 4 _ rfl
    replace q_a_5 := B_a.cell 5 _ rfl
    replace q_a_6 := B_a.cell 6 _ rfl
    replace q_a_7 := B_a.cell 7 _ rfl
    replace q_a_8 := B_a.cell 8 _ rfl
    replace q_a_9 := B_a.cell 9 _ rfl
    replace q_a_10 := B_a.cell 10 _ rfl
    replace q_a_11 := B_a.cell 11 _ rfl
    replace q_a_12 := B_a.cell 12 _ rfl
    replace fr_a := B_a.fro
    replace z_a := B_a.lt
    clear k5
    go_wp2_with fail
    refine (k6 _ hB).mono ?_
    rintro e w5 ⟨rfl, hb⟩
    replace B_a := B_a.below hb
    replace hB := hB.trans (hb.mono hB.size)
    have sz := hb.size
    clear hb
    replace q_a_0 := B_a.cell 0 _ rfl
    replace q_a_1 := B_a.cell 1 _ rfl
    replace q_a_2 := B_a.cell 2 _ rfl
    replace q_a_3 := B_a.cell 3 _ rfl
    replace q_a_4 := B_a.cell 4 _ rfl
    replace q_a_5 := B_a.cell 5 _ rfl
    replace q_a_6 := B_a.cell 6 _ rfl
    replace q_a_7 := B_a.cell 7 _ rfl
    replace q_a_8 := B_a.cell 8 _ rfl
    replace q_a_9 := B_a.cell 9 _ rfl
    replace q_a_10 := B_a.cell 10 _ rfl
    replace q_a_11 := B_a.cell 11 _ rfl
    replace q_a_12 := B_a.cell 12 _ rfl
    replace fr_a := B_a.fro
    replace z_a := B_a.lt
    clear k6
    go_wp2_with fail
    go_ret
    exact ⟨ret_bool HV.out.symm, hB⟩
  | false =>
  replace HV : Hid (shelfOkB x = true) := Hid.mk_ (HV.out.trans (by simp))
  have B_a : Box (w.alloc (.cells #[.slice H.Base.Mem.Heap.Bytes.a H.Base.Mem.Heap.Bytes.len H.Base.Mem.Heap.Bytes.cap, .slice H.Base.Mem.Heap.Class.a H.Base.Mem.Heap.Class.len H.Base.Mem.Heap.Class.cap, .slice H.Base.Mem.Lists.Global.a H.Base.Mem.Lists.Global.len H.Base.Mem.Lists.Global.cap, .slice H.Base.Mem.Lists.Own.a H.Base.Mem.Lists.Own.len H.Base.Mem.Lists.Own.cap, .int .i64 x.Base.Clock.Epoch, .slice H.Base.Clock.Pins.a H.Base.Clock.Pins.len H.Base.Clock.Pins.cap, .slice H.Base.Limbo.a H.Base.Limbo.len H.Base.Limbo.cap, .slice H.Base.Haz.a H.Base.Haz.len H.Base.Haz.cap, .slice H.Cells.a H.Cells.len H.Cells.cap, .slice H.Jobs.a H.Jobs.len H.Jobs.cap, .slice H.Todo.a H.Todo.len H.Todo.cap, .slice H.Log.a H.Log.len H.Log.cap, .int .i64 x.Serial] 69)) (w.heap.size) [.slice H.Base.Mem.Heap.Bytes.a H.Base.Mem.Heap.Bytes.len H.Base.Mem.Heap.Bytes.cap, .slice H.Base.Mem.Heap.Class.a H.Base.Mem.Heap.Class.len H.Base.Mem.Heap.Class.cap, .slice H.Base.Mem.Lists.Global.a H.Base.Mem.Lists.Global.len H.Base.Mem.Lists.Global.cap, .slice H.Base.Mem.Lists.Own.a H.Base.Mem.Lists.Own.len H.Base.Mem.Lists.Own.cap, .int .i64 x.Base.Clock.Epoch, .slice H.Base.Clock.Pins.a H.Base.Clock.Pins.len H.Base.Clock.Pins.cap, .slice H.Base.Limbo.a H.Base.Limbo.len H.Base.Limbo.cap, .slice H.Base.Haz.a H.Base.Haz.len H.Base.Haz.cap, .slice H.Cells.a H.Cells.len H.Cells.cap, .slice H.Jobs.a H.Jobs.len H.Jobs.cap, .slice H.Todo.a H.Todo.len H.Todo.cap, .slice H.Log.a H.Log.len H.Log.cap, .int .i64 x.Serial] := by
    have hbx := Box.new w #[.slice H.Base.Mem.Heap.Bytes.a H.Base.Mem.Heap.Bytes.len H.Base.Mem.Heap.Bytes.cap, .slice H.Base.Mem.Heap.Class.a H.Base.Mem.Heap.Class.len H.Base.Mem.Heap.Class.cap, .slice H.Base.Mem.Lists.Global.a H.Base.Mem.Lists.Global.len H.Base.Mem.Lists.Global.cap, .slice H.Base.Mem.Lists.Own.a H.Base.Mem.Lists.Own.len H.Base.Mem.Lists.Own.cap, .int .i64 x.Base.Clock.Epoch, .slice H.Base.Clock.Pins.a H.Base.Clock.Pins.len H.Base.Clock.Pins.cap, .slice H.Base.Limbo.a H.Base.Limbo.len H.Base.Limbo.cap, .slice H.Base.Haz.a H.Base.Haz.len H.Base.Haz.cap, .slice H.Cells.a H.Cells.len H.Cells.cap, .slice H.Jobs.a H.Jobs.len H.Jobs.cap, .slice H.Todo.a H.Todo.len H.Todo.cap, .slice H.Log.a H.Log.len H.Log.cap, .int .i64 x.Serial] 69
    exact hbx
  have hB : Below w.heap.size w (w.alloc (.cells #[.slice H.Base.Mem.Heap.Bytes.a H.Base.Mem.Heap.Bytes.len H.Base.Mem.Heap.Bytes.cap, .slice H.Base.Mem.Heap.Class.a H.Base.Mem.Heap.Class.len H.Base.Mem.Heap.Class.cap, .slice H.Base.Mem.Lists.Global.a H.Base.Mem.Lists.Global.len H.Base.Mem.Lists.Global.cap, .slice H.Base.Mem.Lists.Own.a H.Base.Mem.Lists.Own.len H.Base.Mem.Lists.Own.cap, .int .i64 x.Base.Clock.Epoch, .slice H.Base.Clock.Pins.a H.Base.Clock.Pins.len H.Base.Clock.Pins.cap, .slice H.Base.Limbo.a H.Base.Limbo.len H.Base.Limbo.cap, .slice H.Base.Haz.a H.Base.Haz.len H.Base.Haz.cap, .slice H.Cells.a H.Cells.len H.Cells.cap, .slice H.Jobs.a H.Jobs.len H.Jobs.cap, .slice H.Todo.a H.Todo.len H.Todo.cap, .slice H.Log.a H.Log.len H.Log.cap, .int .i64 x.Serial] 69)) := by repeat (first | exact Below.refl _ _ | refine Below.alloc ?_ (by simp <;> omega) _ | refine below_grow_of ?_ (by simp <;> omega) _ _ | refine Below.drew ?_ | refine below_drewN ?_ _)
  go_enter Tryz.func43, Tryz.ntmps43
  go_wp2_with fail
  generalize hW0 : (w.alloc (.cells #[.slice H.Base.Mem.Heap.Bytes.a H.Base.Mem.Heap.Bytes.len H.Base.Mem.Heap.Bytes.cap, .slice H.Base.Mem.Heap.Class.a H.Base.Mem.Heap.Class.len H.Base.Mem.Heap.Class.cap, .slice H.Base.Mem.Lists.Global.a H.Base.Mem.Lists.Global.len H.Base.Mem.Lists.Global.cap, .slice H.Base.Mem.Lists.Own.a H.Base.Mem.Lists.Own.len H.Base.Mem.Lists.Own.cap, .int .i64 x.Base.Clock.Epoch, .slice H.Base.Clock.Pins.a H.Base.Clock.Pins.len H.Base.Clock.Pins.cap, .slice H.Base.Limbo.a H.Base.Limbo.len H.Base.Limbo.cap, .slice H.Base.Haz.a H.Base.Haz.len H.Base.Haz.cap, .slice H.Cells.a H.Cells.len H.Cells.cap, .slice H.Jobs.a H.Jobs.len H.Jobs.cap, .slice H.Todo.a H.Todo.len H.Todo.cap, .slice H.Log.a H.Log.len H.Log.cap, .int .i64 x.Serial] 69)) = w0 at B_a hB ⊢
  clear hW0
  have zz_a := B_a.lt
  have q_a_0 := B_a.cell 0 _ rfl
  have q_a_1 := B_a.cell 1 _ rfl
  have q_a_2 := B_a.cell 2 _ rfl
  have q_a_3 := B_a.cell 3 _ rfl
  have q_a_4 := B_a.cell 4 _ rfl
  have q_a_5 := B_a.cell 5 _ rfl
  have q_a_6 := B_a.cell 6 _ rfl
  have q_a_7 := B_a.cell 7 _ rfl
  have q_a_8 := B_a.cell 8 _ rfl
  have q_a_9 := B_a.cell 9 _ rfl
  have q_a_10 := B_a.cell 10 _ rfl
  have q_a_11 := B_a.cell 11 _ rfl
  have q_a_12 := B_a.cell 12 _ rfl
  have fr_a := B_a.fro
  have z_a := B_a.lt
  refine (k0 _ hB).mono ?_
  rintro e w1 ⟨rfl, hb⟩
  replace B_a := B_a.below hb
  replace hB := hB.trans (hb.mono hB.size)
  have sz := hb.size
  clear hb
  replace q_a_0 := B_a.cell 0 _ rfl
  replace q_a_1 := B_a.cell 1 _ rfl
  replace q_a_2 := B_a.cell 2 _ rfl
  replace q_a_3 := B_a.cell 3 _ rfl
  replace q_a_4 := B_a.cell 4 _ rfl
  replace q_a_5 := B_a.cell 5 _ rfl
  replace q_a_6 := B_a.cell 6 _ rfl
  replace q_a_7 := B_a.cell 7 _ rfl
  replace q_a_8 := B_a.cell 8 _ rfl
  replace q_a_9 := B_a.cell 9 _ rfl
  replace q_a_10 := B_a.cell 10 _ rfl
  replace q_a_11 := B_a.cell 11 _ rfl
  replace q_a_12 := B_a.cell 12 _ rfl
  replace fr_a := B_a.fro
  replace z_a := B_a.lt
  clear k0
  go_wp2_with fail
  refine (k3 _ hB).mono ?_
  rintro e w2 ⟨rfl, hb⟩
  replace B_a := B_a.below hb
  replace hB := hB.trans (hb.mono hB.size)
  have sz := hb.size
  clear hb
  replace q_a_0 := B_a.cell 0 _ rfl
  replace q_a_1 := B_a.cell 1 _ rfl
  replace q_a_2 := B_a.cell 2 _ rfl
  replace q_a_3 := B_a.cell 3 _ rfl
  replace q_a_4 := B_a.cell 4 _ rfl
  replace q_a_5 := B_a.cell 5 _ rfl
  replace q_a_6 := B_a.cell 6 _ rfl
  replace q_a_7 := B_a.cell 7 _ rfl
  replace q_a_8 := B_a.cell 8 _ rfl
  replace q_a_9 := B_a.cell 9 _ rfl
  replace q_a_10 := B_a.cell 10 _ rfl
  replace q_a_11 := B_a.cell 11 _ rfl
  replace q_a_12 := B_a.cell 12 _ rfl
  replace fr_a := B_a.fro
  replace z_a := B_a.lt
  clear k3
  go_wp2_with fail
  refine (k4 _ hB).mono ?_
  rintro e w3 ⟨rfl, hb⟩
  replace B_a := B_a.below hb
  replace hB := hB.trans (hb.mono hB.size)
  have sz := hb.size
  clear hb
  replace q_a_0 := B_a.cell 0 _ rfl
  replace q_a_1 := B_a.cell 1 _ rfl
  replace q_a_2 := B_a.cell 2 _ rfl
  replace q_a_3 := B_a.cell 3 _ rfl
  replace q_a_4 := B_a.cell 4 _ rfl
  replace q_a_5 := B_a.cell 5 _ rfl
  replace q_a_6 := B_a.cell 6 _ rfl
  replace q_a_7 := B_a.cell 7 _ rfl
  replace q_a_8 := B_a.cell 8 _ rfl
  replace q_a_9 := B_a.cell 9 _ rfl
  replace q_a_10 := B_a.cell 10 _ rfl
  replace q_a_11 := B_a.cell 11 _ rfl
  replace q_a_12 := B_a.cell 12 _ rfl
  replace fr_a := B_a.fro
  replace z_a := B_a.lt
  clear k4
  go_wp2_with fail
  refine (k5 _ hB).mono ?_
  rintro e w4 ⟨rfl, hb⟩
  replace B_a := B_a.below hb
  replace hB := hB.trans (hb.mono hB.size)
  have sz := hb.size
  clear hb
  replace q_a_0 := B_a.cell 0 _ rfl
  replace q_a_1 := B_a.cell 1 _ rfl
  replace q_a_2 := B_a.cell 2 _ rfl
  replace q_a_3 := B_a.cell 3 _ rfl
  replace q_a_4 := B_a.cell 4 _ rfl
  replace q_a_5 := B_a.cell 5 _ rfl
  replace q_a_6 := B_a.cell 6 _ rfl
  replace q_a_7 := B_a.cell 7 _ rfl
  replace q_a_8 := B_a.cell 8 _ rfl
  replace q_a_9 := B_a.cell 9 _ rfl
  replace q_a_10 := B_a.cell 10 _ rfl
  replace q_a_11 := B_a.cell 11 _ rfl
  replace q_a_12 := B_a.cell 12 _ rfl
  replace fr_a := B_a.fro
  replace z_a := B_a.lt
  clear k5
  go_wp2_with fail
  refine (k6 _ hB).mono ?_
  rintro e w5 ⟨rfl, hb⟩
  replace B_a := B_a.below hb
  replace hB := hB.trans (hb.mono hB.size)
  have sz := hb.size
  clear hb
  replace q_a_0 := B_a.cell 0 _ rfl
  replace q_a_1 := B_a.cell 1 _ rfl
  replace q_a_2 := B_a.cell 2 _ rfl
  replace q_a_3 := B_a.cell 3 _ rfl
  replace q_a_4 := B_a.cell 4 _ rfl
  replace q_a_5 := B_a.cell 5 _ rfl
  replace q_a_6 := B_a.cell 6 _ rfl
  replace q_a_7 := B_a.cell 7 _ rfl
  replace q_a_8 := B_a.cell 8 _ rfl
  replace q_a_9 := B_a.cell 9 _ rfl
  replace q_a_10 := B_a.cell 10 _ rfl
  replace q_a_11 := B_a.cell 11 _ rfl
  replace q_a_12 := B_a.cell 12 _ rfl
  replace fr_a := B_a.fro
  replace z_a := B_a.lt
  clear k6
  go_wp2_with fail
  go_ret
  exact ⟨ret_bool HV.out.symm, hB⟩
end Go.Proofs.YtkldapdpaldbgaaGreat
