/-
  ShelfOk of the program: the contract. ShelfOk of the reference: the contract.
-/
import Derived.Test.YtkldapdpaldbgaaGreatT
import Derived.Test.YtkldapdpaldbgaaGreatL
import Derived.Deep.QuietTactic
import Derived.BigQuiet
import Derived.Deep.LoopGhost
import Derived.Deep.RegionHeld3
import Derived.Test.YtkldapdpaldbgaaGreatN
import Derived.Test.YtkldapdpaldbgaaGreatA
import Derived.WalkSpells
import Derived.Laws.Cover3
import Derived.Test.YtkldapdpaldbgaaGreatTD
import Derived.Test.YtkldapdpaldbgaaGreatQE
import Derived.Test.YtkldapdpaldbgaaGreatUC
import Derived.Test.YtkldapdpaldbgaaGreatWS
namespace Go.Proofs.YtkldapdpaldbgaaGreat
open Go.RowKit
attribute [local go_sem ↓] execJob
attribute [local go_sem] loadResJob

def zeroJob : Job := ⟨false, ⟨0, 0, 0, 0⟩, 0, 0, ⟨0, 0, 0, 0, 0, 0, 0, 0, 0, false⟩, 0, 0, 0, 0⟩
def jobOkB (j : Job) : Bool := if j.Busy = true then opOkS j.Op && Lim.linkB j.H && Lim.linkB j.Old else decide (j = zeroJob)
def shelfOkB (x : Shelf) : Bool := baseOkB x.Base && (x.Cells.length == 2) && (x.Jobs.length == 3) && todoOkB x.Todo && inB 0 1000000 x.Serial && !(x.Cells.any fun h => !Lim.linkB h) && !(x.Jobs.any fun j => !jobOkB j)
theorem below_eq {e : Ending} {v : Ending} {w w' : World} (h : e = v ∧ w' = w) : e = v ∧ Below w.heap.size w w' := ⟨h.1, by rw [h.2]; exact Below.refl _ _⟩
theorem below_eq' {e : Ending} {v : Ending} {w w' : World} (h : e = v ∧ w = w') : e = v ∧ Below w.heap.size w w' := ⟨h.1, by rw [h.2]; exact Below.refl _ _⟩
theorem job_zero_ok : jobOkB zeroJob = true := by simp [jobOkB, zeroJob]

set_option maxRecDepth 100000 in
set_option maxHeartbeats 2000000 in
theorem jobOk_impl (x : Job) (w : World) : Calls Tryz.prog 116 #[.agg (FJob.enc x).toArray] w fun e w' => e = .returned (.bool (jobOkB x)) ∧ Below w.heap.size w w' := by
  show Calls Tryz.prog 116 #[.agg #[.bool x.Busy, .int .i64 x.Op.Kind, .int .i64 x.Op.Cell, .int .i64 x.Op.Size, .int .i64 x.Op.Val, .int .i64 x.Serial, .int .i64 x.Pc, .int .i64 x.Sub.Kind, .int .i64 x.Sub.A, .int .i64 x.Sub.Pc, .int .i64 x.Sub.E, .int .i64 x.Sub.Row, .int .i64 x.Sub.B, .int .i64 x.Sub.H, .int .i64 x.Sub.Out, .int .i64 x.Sub.Code, .bool x.Sub.Done, .int .i64 x.H, .int .i64 x.Old, .int .i64 x.Val, .int .i64 x.Code]] _ _
  have hq : ∀ W : World, (binOp .eql 146 (.agg (FJob.enc x).toArray) (.agg #[.bool false, .int .i64 0, .int .i64 0, .int .i64 0, .int .i64 0, .int .i64 0, .int .i64 0, .int .i64 0, .int .i64 0, .int .i64 0, .int .i64 0, .int .i64 0, .int .i64 0, .int .i64 0, .int .i64 0, .int .i64 0, .bool false, .int .i64 0, .int .i64 0, .int .i64 0, .int .i64 0])).run Tryz.prog W = .ok (.bool (decide (x = zeroJob))) W := fun W => eqlRunJob x zeroJob W
  obtain ⟨cs, hcs⟩ : ∃ cs, cs = FJob.enc x := ⟨_, rfl⟩
  have hlen : cs.length = 21 := by rw [hcs]; exact FJob.len x
  have hr : row? (w.alloc (.cells #[.bool x.Busy, .int .i64 x.Op.Kind, .int .i64 x.Op.Cell, .int .i64 x.Op.Size, .int .i64 x.Op.Val, .int .i64 x.Serial, .int .i64 x.Pc, .int .i64 x.Sub.Kind, .int .i64 x.Sub.A, .int .i64 x.Sub.Pc, .int .i64 x.Sub.E, .int .i64 x.Sub.Row, .int .i64 x.Sub.B, .int .i64 x.Sub.H, .int .i64 x.Sub.Out, .int .i64 x.Sub.Code, .bool x.Sub.Done, .int .i64 x.H, .int .i64 x.Old, .int .i64 x.Val, .int .i64 x.Code] 146)) w.heap.size 0 21 = some cs := row?_of (by rw [hcs]; exact fun j v hv => by rw [Nat.zero_add]; exact (Box.new w #[.bool x.Busy, .int .i64 x.Op.Kind, .int .i64 x.Op.Cell, .int .i64 x.Op.Size, .int .i64 x.Op.Val, .int .i64 x.Serial, .int .i64 x.Pc, .int .i64 x.Sub.Kind, .int .i64 x.Sub.A, .int .i64 x.Sub.Pc, .int .i64 x.Sub.E, .int .i64 x.Sub.Row, .int .i64 x.Sub.B, .int .i64 x.Sub.H, .int .i64 x.Sub.Out, .int .i64 x.Sub.Code, .bool x.Sub.Done, .int .i64 x.H, .int .i64 x.Old, .int .i64 x.Val, .int .i64 x.Code] 146).cell j v hv) hlen
  rw [← hcs] at hq
  have HV : Hid (jobOkB x = if x.Busy = true then opOkS x.Op && Lim.linkB x.H && Lim.linkB x.Old else decide (x = zeroJob)) := Hid.mk_ rfl
  have k0 := fun W => opOk_impl x.Op.Kind x.Op.Cell x.Op.Size x.Op.Val W
  rw [show opOkB x.Op.Kind x.Op.Cell x.Op.Size x.Op.Val = opOkS x.Op from rfl] at k0
  have k1 := fun W => (Lim.isLink_impl x.H W).mono fun _ _ => below_eq
  have k2 := fun W => (Lim.isLink_impl x.Old W).mono fun _ _ => below_eq
  clear hcs hlen
  generalize opOkS x.Op = c0 at k0 HV
  generalize Lim.linkB x.H = c1 at k1 HV
  generalize Lim.linkB x.Old = c2 at k2 HV
  generalize decide (x = zeroJob) = dz at hq HV
  generalize x.Busy = bb at *
  cases bb with
  | false =>
    replace HV : Hid (jobOkB x = dz) := Hid.mk_ HV.out
    clear k0 k1 k2
    have B_a : Box (w.alloc (.cells #[.bool false, .int .i64 x.Op.Kind, .int .i64 x.Op.Cell, .int .i64 x.Op.Size, .int .i64 x.Op.Val, .int .i64 x.Serial, .int .i64 x.Pc, .int .i64 x.Sub.Kind, .int .i64 x.Sub.A, .int .i64 x.Sub.Pc, .int .i64 x.Sub.E, .int .i64 x.Sub.Row, .int .i64 x.Sub.B, .int .i64 x.Sub.H, .int .i64 x.Sub.Out, .int .i64 x.Sub.Code, .bool x.Sub.Done, .int .i64 x.H, .int .i64 x.Old, .int .i64 x.Val, .int .i64 x.Code] 146)) (w.heap.size) [.bool false, .int .i64 x.Op.Kind, .int .i64 x.Op.Cell, .int .i64 x.Op.Size, .int .i64 x.Op.Val, .int .i64 x.Serial, .int .i64 x.Pc, .int .i64 x.Sub.Kind, .int .i64 x.Sub.A, .int .i64 x.Sub.Pc, .int .i64 x.Sub.E, .int .i64 x.Sub.Row, .int .i64 x.Sub.B, .int .i64 x.Sub.H, .int .i64 x.Sub.Out, .int .i64 x.Sub.Code, .bool x.Sub.Done, .int .i64 x.H, .int .i64 x.Old, .int .i64 x.Val, .int .i64 x.Code] := by
      have hbx := Box.new w #[.bool false, .int .i64 x.Op.Kind, .int .i64 x.Op.Cell, .int .i64 x.Op.Size, .int .i64 x.Op.Val, .int .i64 x.Serial, .int .i64 x.Pc, .int .i64 x.Sub.Kind, .int .i64 x.Sub.A, .int .i64 x.Sub.Pc, .int .i64 x.Sub.E, .int .i64 x.Sub.Row, .int .i64 x.Sub.B, .int .i64 x.Sub.H, .int .i64 x.Sub.Out, .int .i64 x.Sub.Code, .bool x.Sub.Done, .int .i64 x.H, .int .i64 x.Old, .int .i64 x.Val, .int .i64 x.Code] 146
      exact hbx
    have hB : Below w.heap.size w (w.alloc (.cells #[.bool false, .int .i64 x.Op.Kind, .int .i64 x.Op.Cell, .int .i64 x.Op.Size, .int .i64 x.Op.Val, .int .i64 x.Serial, .int .i64 x.Pc, .int .i64 x.Sub.Kind, .int .i64 x.Sub.A, .int .i64 x.Sub.Pc, .int .i64 x.Sub.E, .int .i64 x.Sub.Row, .int .i64 x.Sub.B, .int .i64 x.Sub.H, .int .i64 x.Sub.Out, .int .i64 x.Sub.Code, .bool x.Sub.Done, .int .i64 x.H, .int .i64 x.Old, .int .i64 x.Val, .int .i64 x.Code] 146)) := by repeat (first | exact Below.refl _ _ | refine Below.alloc ?_ (by simp <;> omega) _ | refine below_grow_of ?_ (by simp <;> omega) _ _ | refine Below.drew ?_ | refine below_drewN ?_ _)
    go_enter Tryz.func116, Tryz.ntmps116
    go_wp2_with fail
    generalize hW0 : (w.alloc (.cells #[.bool false, .int .i64 x.Op.Kind, .int .i64 x.Op.Cell, .int .i64 x.Op.Size, .int .i64 x.Op.Val, .int .i64 x.Serial, .int .i64 x.Pc, .int .i64 x.Sub.Kind, .int .i64 x.Sub.A, .int .i64 x.Sub.Pc, .int .i64 x.Sub.E, .int .i64 x.Sub.Row, .int .i64 x.Sub.B, .int .i64 x.Sub.H, .int .i64 x.Sub.Out, .int .i64 x.Sub.Code, .bool x.Sub.Done, .int .i64 x.H, .int .i64 x.Old, .int .i64 x.Val, .int .i64 x.Code] 146)) = w0 at B_a hB ⊢
    clear hW0
    have zz_a := B_a.lt
    have q_a_0 := B_a.cell 0 _ rfl
    have q_a_1 := B_a.cell 1 _ rfl
    have q_a_2 := B_a.cell 2 _ rfl
    have q_a_3 := B_a.cell 3 _ rfl
    have q_a_4 := B_a.cell 4 _ rfl
    have q_a_5 := B_a.cell 5 _ rfl
    have q_a_6 := B_a.cell 6 _ rfl
    have q_a_7 := B_a.cell 7 _ rfl
    have q_a_8 := B_a.cell 8 _ rfl
    have q_a_9 := B_a.cell 9 _ rfl
    have q_a_10 := B_a.cell 10 _ rfl
    have q_a_11 := B_a.cell 11 _ rfl
    have q_a_12 := B_a.cell 12 _ rfl
    have q_a_13 := B_a.cell 13 _ rfl
    have q_a_14 := B_a.cell 14 _ rfl
    have q_a_15 := B_a.cell 15 _ rfl
    have q_a_16 := B_a.cell 16 _ rfl
    have q_a_17 := B_a.cell 17 _ rfl
    have q_a_18 := B_a.cell 18 _ rfl
    have q_a_19 := B_a.cell 19 _ rfl
    have q_a_20 := B_a.cell 20 _ rfl
    have fr_a := B_a.fro
    have z_a := B_a.lt
    go_wp2_with fail
    go_ret
    exact ⟨ret_bool HV.out.symm, hB⟩
  | true =>
  replace HV : Hid (jobOkB x = (c0 && c1 && c2)) := Hid.mk_ HV.out
  clear hq hr
  cases c0 with
  | false =>
    replace HV : Hid (jobOkB x = false) := Hid.mk_ (HV.out.trans (by simp))
    have B_a : Box (w.alloc (.cells #[.bool true, .int .i64 x.Op.Kind, .int .i64 x.Op.Cell, .int .i64 x.Op.Size, .int .i64 x.Op.Val, .int .i64 x.Serial, .int .i64 x.Pc, .int .i64 x.Sub.Kind, .int .i64 x.Sub.A, .int .i64 x.Sub.Pc, .int .i64 x.Sub.E, .int .i64 x.Sub.Row, .int .i64 x.Sub.B, .int .i64 x.Sub.H, .int .i64 x.Sub.Out, .int .i64 x.Sub.Code, .bool x.Sub.Done, .int .i64 x.H, .int .i64 x.Old, .int .i64 x.Val, .int .i64 x.Code] 146)) (w.heap.size) [.bool true, .int .i64 x.Op.Kind, .int .i64 x.Op.Cell, .int .i64 x.Op.Size, .int .i64 x.Op.Val, .int .i64 x.Serial, .int .i64 x.Pc, .int .i64 x.Sub.Kind, .int .i64 x.Sub.A, .int .i64 x.Sub.Pc, .int .i64 x.Sub.E, .int .i64 x.Sub.Row, .int .i64 x.Sub.B, .int .i64 x.Sub.H, .int .i64 x.Sub.Out, .int .i64 x.Sub.Code, .bool x.Sub.Done, .int .i64 x.H, .int .i64 x.Old, .int .i64 x.Val, .int .i64 x.Code] := by
      have hbx := Box.new w #[.bool true, .int .i64 x.Op.Kind, .int .i64 x.Op.Cell, .int .i64 x.Op.Size, .int .i64 x.Op.Val, .int .i64 x.Serial, .int .i64 x.Pc, .int .i64 x.Sub.Kind, .int .i64 x.Sub.A, .int .i64 x.Sub.Pc, .int .i64 x.Sub.E, .int .i64 x.Sub.Row, .int .i64 x.Sub.B, .int .i64 x.Sub.H, .int .i64 x.Sub.Out, .int .i64 x.Sub.Code, .bool x.Sub.Done, .int .i64 x.H, .int .i64 x.Old, .int .i64 x.Val, .int .i64 x.Code] 146
      exact hbx
    have hB : Below w.heap.size w (w.alloc (.cells #[.bool true, .int .i64 x.Op.Kind, .int .i64 x.Op.Cell, .int .i64 x.Op.Size, .int .i64 x.Op.Val, .int .i64 x.Serial, .int .i64 x.Pc, .int .i64 x.Sub.Kind, .int .i64 x.Sub.A, .int .i64 x.Sub.Pc, .int .i64 x.Sub.E, .int .i64 x.Sub.Row, .int .i64 x.Sub.B, .int .i64 x.Sub.H, .int .i64 x.Sub.Out, .int .i64 x.Sub.Code, .bool x.Sub.Done, .int .i64 x.H, .int .i64 x.Old, .int .i64 x.Val, .int .i64 x.Code] 146)) := by repeat (first | exact Below.refl _ _ | refine Below.alloc ?_ (by simp <;> omega) _ | refine below_grow_of ?_ (by simp <;> omega) _ _ | refine Below.drew ?_ | refine below_drewN ?_ _)
    go_enter Tryz.func116, Tryz.ntmps116
    go_wp2_with fail
    generalize hW0 : (w.alloc (.cells #[.bool true, .int .i64 x.Op.Kind, .int .i64 x.Op.Cell, .int .i64 x.Op.Size, .int .i64 x.Op.Val, .int .i64 x.Serial, .int .i64 x.Pc, .int .i64 x.Sub.Kind, .int .i64 x.Sub.A, .int .i64 x.Sub.Pc, .int .i64 x.Sub.E, .int .i64 x.Sub.Row, .int .i64 x.Sub.B, .int .i64 x.Sub.H, .int .i64 x.Sub.Out, .int .i64 x.Sub.Code, .bool x.Sub.Done, .int .i64 x.H, .int .i64 x.Old, .int .i64 x.Val, .int .i64 x.Code] 146)) = w0 at B_a hB ⊢
    clear hW0
    have zz_a := B_a.lt
    have q_a_0 := B_a.cell 0 _ rfl
    have q_a_1 := B_a.cell 1 _ rfl
    have q_a_2 := B_a.cell 2 _ rfl
    have q_a_3 := B_a.cell 3 _ rfl
    have q_a_4 := B_a.cell 4 _ rfl
    have q_a_5 := B_a.cell 5 _ rfl
    have q_a_6 := B_a.cell 6 _ rfl
    have q_a_7 := B_a.cell 7 _ rfl
    have q_a_8 := B_a.cell 8 _ rfl
    have q_a_9 := B_a.cell 9 _ rfl
    have q_a_10 := B_a.cell 10 _ rfl
    have q_a_11 := B_a.cell 11 _ rfl
    have q_a_12 := B_a.cell 12 _ rfl
    have q_a_13 := B_a.cell 13 _ rfl
    have q_a_14 := B_a.cell 14 _ rfl
    have q_a_15 := B_a.cell 15 _ rfl
    have q_a_16 := B_a.cell 16 _ rfl
    have q_a_17 := B_a.cell 17 _ rfl
    have q_a_18 := B_a.cell 18 _ rfl
    have q_a_19 := B_a.cell 19 _ rfl
    have q_a_20 := B_a.cell 20 _ rfl
    have fr_a := B_a.fro
    have z_a := B_a.lt
    refine (k0 _).mono ?_
    rintro e w1 ⟨rfl, hb⟩
    replace B_a := B_a.below hb
    replace hB := hB.trans (hb.mono hB.size)
    have sz := hb.size
    clear hb
    replace q_a_0 := B_a.cell 0 _ rfl
    replace q_a_1 := B_a.cell 1 _ rfl
    replace q_a_2 := B_a.cell 2 _ rfl
    replace q_a_3 := B_a.cell 3 _ rfl
    replace q_a_4 := B_a.cell 4 _ rfl
    replace q_a_5 := B_a.cell 5 _ rfl
    replace q_a_6 := B_a.cell 6 _ rfl
    replace q_a_7 := B_a.cell 7 _ rfl
    replace q_a_8 := B_a.cell 8 _ rfl
    replace q_a_9 := B_a.cell 9 _ rfl
    replace q_a_10 := B_a.cell 10 _ rfl
    replace q_a_11 := B_a.cell 11 _ rfl
    replace q_a_12 := B_a.cell 12 _ rfl
    replace q_a_13 := B_a.cell 13 _ rfl
    replace q_a_14 := B_a.cell 14 _ rfl
    replace q_a_15 := B_a.cell 15 _ rfl
    replace q_a_16 := B_a.cell 16 _ rfl
    replace q_a_17 := B_a.cell 17 _ rfl
    replace q_a_18 := B_a.cell 18 _ rfl
    replace q_a_19 := B_a.cell 19 _ rfl
    replace q_a_20 := B_a.cell 20 _ rfl
    replace fr_a := B_a.fro
    replace z_a := B_a.lt
    clear k0
    go_wp2_with fail
    go_ret
    exact ⟨ret_bool HV.out.symm, hB⟩
  | true =>
  cases c1 with
  | false =>
    replace HV : Hid (jobOkB x = false) := Hid.mk_ (HV.out.trans (by simp))
    have B_a : Box (w.alloc (.cells #[.bool true, .int .i64 x.Op.Kind, .int .i64 x.Op.Cell, .int .i64 x.Op.Size, .int .i64 x.Op.Val, .int .i64 x.Serial, .int .i64 x.Pc, .int .i64 x.Sub.Kind, .int .i64 x.Sub.A, .int .i64 x.Sub.Pc, .int .i64 x.Sub.E, .int .i64 x.Sub.Row, .int .i64 x.Sub.B, .int .i64 x.Sub.H, .int .i64 x.Sub.Out, .int .i64 x.Sub.Code, .bool x.Sub.Done, .int .i64 x.H, .int .i64 x.Old, .int .i64 x.Val, .int .i64 x.Code] 146)) (w.heap.size) [.bool true, .int .i64 x.Op.Kind, .int .i64 x.Op.Cell, .int .i64 x.Op.Size, .int .i64 x.Op.Val, .int .i64 x.Serial, .int .i64 x.Pc, .int .i64 x.Sub.Kind, .int .i64 x.Sub.A, .int .i64 x.Sub.Pc, .int .i64 x.Sub.E, .int .i64 x.Sub.Row, .int .i64 x.Sub.B, .int .i64 x.Sub.H, .int .i64 x.Sub.Out, .int .i64 x.Sub.Code, .bool x.Sub.Done, .int .i64 x.H, .int .i64 x.Old, .int .i64 x.Val, .int .i64 x.Code] := by
      have hbx := Box.new w #[.bool true, .int .i64 x.Op.Kind, .int .i64 x.Op.Cell, .int .i64 x.Op.Size, .int .i64 x.Op.Val, .int .i64 x.Serial, .int .i64 x.Pc, .int .i64 x.Sub.Kind, .int .i64 x.Sub.A, .int .i64 x.Sub.Pc, .int .i64 x.Sub.E, .int .i64 x.Sub.Row, .int .i64 x.Sub.B, .int .i64 x.Sub.H, .int .i64 x.Sub.Out, .int .i64 x.Sub.Code, .bool x.Sub.Done, .int .i64 x.H, .int .i64 x.Old, .int .i64 x.Val, .int .i64 x.Code] 146
      exact hbx
    have hB : Below w.heap.size w (w.alloc (.cells #[.bool true, .int .i64 x.Op.Kind, .int .i64 x.Op.Cell, .int .i64 x.Op.Size, .int .i64 x.Op.Val, .int .i64 x.Serial, .int .i64 x.Pc, .int .i64 x.Sub.Kind, .int .i64 x.Sub.A, .int .i64 x.Sub.Pc, .int .i64 x.Sub.E, .int .i64 x.Sub.Row, .int .i64 x.Sub.B, .int .i64 x.Sub.H, .int .i64 x.Sub.Out, .int .i64 x.Sub.Code, .bool x.Sub.Done, .int .i64 x.H, .int .i64 x.Old, .int .i64 x.Val, .int .i64 x.Code] 146)) := by repeat (first | exact Below.refl _ _ | refine Below.alloc ?_ (by simp <;> omega) _ | refine below_grow_of ?_ (by simp <;> omega) _ _ | refine Below.drew ?_ | refine below_drewN ?_ _)
    go_enter Tryz.func116, Tryz.ntmps116
    go_wp2_with fail
    generalize hW0 : (w.alloc (.cells #[.bool true, .int .i64 x.Op.Kind, .int .i64 x.Op.Cell, .int .i64 x.Op.Size, .int .i64 x.Op.Val, .int .i64 x.Serial, .int .i64 x.Pc, .int .i64 x.Sub.Kind, .int .i64 x.Sub.A, .int .i64 x.Sub.Pc, .int .i64 x.Sub.E, .int .i64 x.Sub.Row, .int .i64 x.Sub.B, .int .i64 x.Sub.H, .int .i64 x.Sub.Out, .int .i64 x.Sub.Code, .bool x.Sub.Done, .int .i64 x.H, .int .i64 x.Old, .int .i64 x.Val, .int .i64 x.Code] 146)) = w0 at B_a hB ⊢
    clear hW0
    have zz_a := B_a.lt
    have q_a_0 := B_a.cell 0 _ rfl
    have q_a_1 := B_a.cell 1 _ rfl
    have q_a_2 := B_a.cell 2 _ rfl
    have q_a_3 := B_a.cell 3 _ rfl
    have q_a_4 := B_a.cell 4 _ rfl
    have q_a_5 := B_a.cell 5 _ rfl
    have q_a_6 := B_a.cell 6 _ rfl
    have q_a_7 := B_a.cell 7 _ rfl
    have q_a_8 := B_a.cell 8 _ rfl
    have q_a_9 := B_a.cell 9 _ rfl
    have q_a_10 := B_a.cell 10 _ rfl
    have q_a_11 := B_a.cell 11 _ rfl
    have q_a_12 := B_a.cell 12 _ rfl
    have q_a_13 := B_a.cell 13 _ rfl
    have q_a_14 := B_a.cell 14 _ rfl
    have q_a_15 := B_a.cell 15 _ rfl
    have q_a_16 := B_a.cell 16 _ rfl
    have q_a_17 := B_a.cell 17 _ rfl
    have q_a_18 := B_a.cell 18 _ rfl
    have q_a_19 := B_a.cell 19 _ rfl
    have q_a_20 := B_a.cell 20 _ rfl
    have fr_a := B_a.fro
    have z_a := B_a.lt
    refine (k0 _).mono ?_
    rintro e w1 ⟨rfl, hb⟩
    replace B_a := B_a.below hb
    replace hB := hB.trans (hb.mono hB.size)
    have sz := hb.size
    clear hb
    replace q_a_0 := B_a.cell 0 _ rfl
    replace q_a_1 := B_a.cell 1 _ rfl
    replace q_a_2 := B_a.cell 2 _ rfl
    replace q_a_3 := B_a.cell 3 _ rfl
    replace q_a_4 := B_a.cell 4 _ rfl
    replace q_a_5 := B_a.cell 5 _ rfl
    replace q_a_6 := B_a.cell 6 _ rfl
    replace q_a_7 := B_a.cell 7 _ rfl
    replace q_a_8 := B_a.cell 8 _ rfl
    replace q_a_9 := B_a.cell 9 _ rfl
    replace q_a_10 := B_a.cell 10 _ rfl
    replace q_a_11 := B_a.cell 11 _ rfl
    replace q_a_12 := B_a.cell 12 _ rfl
    replace q_a_13 := B_a.cell 13 _ rfl
    replace q_a_14 := B_a.cell 14 _ rfl
    replace q_a_15 := B_a.cell 15 _ rfl
    replace q_a_16 := B_a.cell 16 _ rfl
    replace q_a_17 := B_a.cell 17 _ rfl
    replace q_a_18 := B_a.cell 18 _ rfl
    replace q_a_19 := B_a.cell 19 _ rfl
    replace q_a_20 := B_a.cell 20 _ rfl
    replace fr_a := B_a.fro
    replace z_a := B_a.lt
    clear k0
    go_wp2_with fail
    refine (k1 _).mono ?_
    rintro e w2 ⟨rfl, hb⟩
    replace B_a := B_a.below hb
    replace hB := hB.trans (hb.mono hB.size)
    have sz := hb.size
    clear hb
    replace q_a_0 := B_a.cell 0 _ rfl
    replace q_a_1 := B_a.cell 1 _ rfl
    replace q_a_2 := B_a.cell 2 _ rfl
    replace q_a_3 := B_a.cell 3 _ rfl
    replace q_a_4 := B_a.cell 4 _ rfl
    replace q_a_5 := B_a.cell 5 _ rfl
    replace q_a_6 := B_a.cell 6 _ rfl
    replace q_a_7 := B_a.cell 7 _ rfl
    replace q_a_8 := B_a.cell 8 _ rfl
    replace q_a_9 := B_a.cell 9 _ rfl
    replace q_a_10 := B_a.cell 10 _ rfl
    replace q_a_11 := B_a.cell 11 _ rfl
    replace q_a_12 := B_a.cell 12 _ rfl
    replace q_a_13 := B_a.cell 13 _ rfl
    replace q_a_14 := B_a.cell 14 _ rfl
    replace q_a_15 := B_a.cell 15 _ rfl
    replace q_a_16 := B_a.cell 16 _ rfl
    replace q_a_17 := B_a.cell 17 _ rfl
    replace q_a_18 := B_a.cell 18 _ rfl
    replace q_a_19 := B_a.cell 19 _ rfl
    replace q_a_20 := B_a.cell 20 _ rfl
    replace fr_a := B_a.fro
    replace z_a := B_a.lt
    clear k1
    go_wp2_with fail
    go_ret
    exact ⟨ret_bool HV.out.symm, hB⟩
  | true =>
  cases c2 with
  | false =>
    replace HV : Hid (jobOkB x = false) := Hid.mk_ (HV.out.trans (by simp))
    have B_a : Box (w.alloc (.cells #[.bool true, .int .i64 x.Op.Kind, .int .i64 x.Op.Cell, .int .i64 x.Op.Size, .int .i64 x.Op.Val, .int .i64 x.Serial, .int .i64 x.Pc, .int .i64 x.Sub.Kind, .int .i64 x.Sub.A, .int .i64 x.Sub.Pc, .int .i64 x.Sub.E, .int .i64 x.Sub.Row, .int .i64 x.Sub.B, .int .i64 x.Sub.H, .int .i64 x.Sub.Out, .int .i64 x.Sub.Code, .bool x.Sub.Done, .int .i64 x.H, .int .i64 x.Old, .int .i64 x.Val, .int .i64 x.Code] 146)) (w.heap.size) [.bool true, .int .i64 x.Op.Kind, .int .i64 x.Op.Cell, .int .i64 x.Op.Size, .int .i64 x.Op.Val, .int .i64 x.Serial, .int .i64 x.Pc, .int .i64 x.Sub.Kind, .int .i64 x.Sub.A, .int .i64 x.Sub.Pc, .int .i64 x.Sub.E, .int .i64 x.Sub.Row, .int .i64 x.Sub.B, .int .i64 x.Sub.H, .int .i64 x.Sub.Out, .int .i64 x.Sub.Code, .bool x.Sub.Done, .int .i64 x.H, .int .i64 x.Old, .int .i64 x.Val, .int .i64 x.Code] := by
      have hbx := Box.new w #[.bool true, .int .i64 x.Op.Kind, .int .i64 x.Op.Cell, .int .i64 x.Op.Size, .int .i64 x.Op.Val, .int .i64 x.Serial, .int .i64 x.Pc, .int .i64 x.Sub.Kind, .int .i64 x.Sub.A, .int .i64 x.Sub.Pc, .int .i64 x.Sub.E, .int .i64 x.Sub.Row, .int .i64 x.Sub.B, .int .i64 x.Sub.H, .int .i64 x.Sub.Out, .int .i64 x.Sub.Code, .bool x.Sub.Done, .int .i64 x.H, .int .i64 x.Old, .int .i64 x.Val, .int .i64 x.Code] 146
      exact hbx
    have hB : Below w.heap.size w (w.alloc (.cells #[.bool true, .int .i64 x.Op.Kind, .int .i64 x.Op.Cell, .int .i64 x.Op.Size, .int .i64 x.Op.Val, .int .i64 x.Serial, .int .i64 x.Pc, .int .i64 x.Sub.Kind, .int .i64 x.Sub.A, .int .i64 x.Sub.Pc, .int .i64 x.Sub.E, .int .i64 x.Sub.Row, .int .i64 x.Sub.B, .int .i64 x.Sub.H, .int .i64 x.Sub.Out, .int .i64 x.Sub.Code, .bool x.Sub.Done, .int .i64 x.H, .int .i64 x.Old, .int .i64 x.Val, .int .i64 x.Code] 146)) := by repeat (first | exact Below.refl _ _ | refine Below.alloc ?_ (by simp <;> omega) _ | refine below_grow_of ?_ (by simp <;> omega) _ _ | refine Below.drew ?_ | refine below_drewN ?_ _)
    go_enter Tryz.func116, Tryz.ntmps116
    go_wp2_with fail
    generalize hW0 : (w.alloc (.cells #[.bool true, .int .i64 x.Op.Kind, .int .i64 x.Op.Cell, .int .i64 x.Op.Size, .int .i64 x.Op.Val, .int .i64 x.Serial, .int .i64 x.Pc, .int .i64 x.Sub.Kind, .int .i64 x.Sub.A, .int .i64 x.Sub.Pc, .int .i64 x.Sub.E, .int .i64 x.Sub.Row, .int .i64 x.Sub.B, .int .i64 x.Sub.H, .int .i64 x.Sub.Out, .int .i64 x.Sub.Code, .bool x.Sub.Done, .int .i64 x.H, .int .i64 x.Old, .int .i64 x.Val, .int .i64 x.Code] 146)) = w0 at B_a hB ⊢
    clear hW0
    have zz_a := B_a.lt
    have q_a_0 := B_a.cell 0 _ rfl
    have q_a_1 := B_a.cell 1 _ rfl
    have q_a_2 := B_a.cell 2 _ rfl
    have q_a_3 := B_a.cell 3 _ rfl
    have q_a_4 := B_a.cell 4 _ rfl
    have q_a_5 := B_a.cell 5 _ rfl
    have q_a_6 := B_a.cell 6 _ rfl
    have q_a_7 := B_a.cell 7 _ rfl
    have q_a_8 := B_a.cell 8 _ rfl
    have q_a_9 := B_a.cell 9 _ rfl
    have q_a_10 := B_a.cell 10 _ rfl
    have q_a_11 := B_a.cell 11 _ rfl
    have q_a_12 := B_a.cell 12 _ rfl
    have q_a_13 := B_a.cell 13 _ rfl
    have q_a_14 := B_a.cell 14 _ rfl
    have q_a_15 := B_a.cell 15 _ rfl
    have q_a_16 := B_a.cell 16 _ rfl
    have q_a_17 := B_a.cell 17 _ rfl
    have q_a_18 := B_a.cell 18 _ rfl
    have q_a_19 := B_a.cell 19 _ rfl
    have q_a_20 := B_a.cell 20 _ rfl
    have fr_a := B_a.fro
    have z_a := B_a.lt
    refine (k0 _).mono ?_
    rintro e w1 ⟨rfl, hb⟩
    replace B_a := B_a.below hb
    replace hB := hB.trans (hb.mono hB.size)
    have sz := hb.size
    clear hb
    replace q_a_0 := B_a.cell 0 _ rfl
    replace q_a_1 := B_a.cell 1 _ rfl
    replace q_a_2 := B_a.cell 2 _ rfl
    replace q_a_3 := B_a.cell 3 _ rfl
    replace q_a_4 := B_a.cell 4 _ rfl
    replace q_a_5 := B_a.cell 5 _ rfl
    replace q_a_6 := B_a.cell 6 _ rfl
    replace q_a_7 := B_a.cell 7 _ rfl
    replace q_a_8 := B_a.cell 8 _ rfl
    replace q_a_9 := B_a.cell 9 _ rfl
    replace q_a_10 := B_a.cell 10 _ rfl
    replace q_a_11 := B_a.cell 11 _ rfl
    replace q_a_12 := B_a.cell 12 _ rfl
    replace q_a_13 := B_a.cell 13 _ rfl
    replace q_a_14 := B_a.cell 14 _ rfl
    replace q_a_15 := B_a.cell 15 _ rfl
    replace q_a_16 := B_a.cell 16 _ rfl
    replace q_a_17 := B_a.cell 17 _ rfl
    replace q_a_18 := B_a.cell 18 _ rfl
    replace q_a_19 := B_a.cell 19 _ rfl
    replace q_a_20 := B_a.cell 20 _ rfl
    replace fr_a := B_a.fro
    replace z_a := B_a.lt
    clear k0
    go_wp2_with fail
    refine (k1 _).mono ?_
    rintro e w2 ⟨rfl, hb⟩
    replace B_a := B_a.below hb
    replace hB := hB.trans (hb.mono hB.size)
    have sz := hb.size
    clear hb
    replace q_a_0 := B_a.cell 0 _ rfl
    replace q_a_1 := B_a.cell 1 _ rfl
    replace q_a_2 := B_a.cell 2 _ rfl
    replace q_a_3 := B_a.cell 3 _ rfl
    replace q_a_4 := B_a.cell 4 _ rfl
    replace q_a_5 := B_a.cell 5 _ rfl
    replace q_a_6 := B_a.cell 6 _ rfl
    replace q_a_7 := B_a.cell 7 _ rfl
    replace q_a_8 := B_a.cell 8 _ rfl
    replace q_a_9 := B_a.cell 9 _ rfl
    replace q_a_10 := B_a.cell 10 _ rfl
    replace q_a_11 := B_a.cell 11 _ rfl
    replace q_a_12 := B_a.cell 12 _ rfl
    replace q_a_13 := B_a.cell 13 _ rfl
    replace q_a_14 := B_a.cell 14 _ rfl
    replace q_a_15 := B_a.cell 15 _ rfl
    replace q_a_16 := B_a.cell 16 _ rfl
    replace q_a_17 := B_a.cell 17 _ rfl
    replace q_a_18 := B_a.cell 18 _ rfl
    replace q_a_19 := B_a.cell 19 _ rfl
    replace q_a_20 := B_a.cell 20 _ rfl
    replace fr_a := B_a.fro
    replace z_a := B_a.lt
    clear k1
    go_wp2_with fail
    refine (k2 _).mono ?_
    rintro e w3 ⟨rfl, hb⟩
    replace B_a := B_a.below hb
    replace hB := hB.trans (hb.mono hB.size)
    have sz := hb.size
    clear hb
    replace q_a_0 := B_a.cell 0 _ rfl
    replace q_a_1 := B_a.cell 1 _ rfl
    replace q_a_2 := B_a.cell 2 _ rfl
    replace q_a_3 := B_a.cell 3 _ rfl
    replace q_a_4 := B_a.cell 4 _ rfl
    replace q_a_5 := B_a.cell 5 _ rfl
    replace q_a_6 := B_a.cell 6 _ rfl
    replace q_a_7 := B_a.cell 7 _ rfl
    replace q_a_8 := B_a.cell 8 _ rfl
    replace q_a_9 := B_a.cell 9 _ rfl
    replace q_a_10 := B_a.cell 10 _ rfl
    replace q_a_11 := B_a.cell 11 _ rfl
    replace q_a_12 := B_a.cell 12 _ rfl
    replace q_a_13 := B_a.cell 13 _ rfl
    replace q_a_14 := B_a.cell 14 _ rfl
    replace q_a_15 := B_a.cell 15 _ rfl
    replace q_a_16 := B_a.cell 16 _ rfl
    replace q_a_17 := B_a.cell 17 _ rfl
    replace q_a_18 := B_a.cell 18 _ rfl
    replace q_a_19 := B_a.cell 19 _ rfl
    replace q_a_20 := B_a.cell 20 _ rfl
    replace fr_a := B_a.fro
    replace z_a := B_a.lt
    clear k2
    go_wp2_with fail
    go_ret
    exact ⟨ret_bool HV.out.symm, hB⟩
  | true =>
  replace HV : Hid (jobOkB x = true) := Hid.mk_ (HV.out.trans (by simp))
  have B_a : Box (w.alloc (.cells #[.bool true, .int .i64 x.Op.Kind, .int .i64 x.Op.Cell, .int .i64 x.Op.Size, .int .i64 x.Op.Val, .int .i64 x.Serial, .int .i64 x.Pc, .int .i64 x.Sub.Kind, .int .i64 x.Sub.A, .int .i64 x.Sub.Pc, .int .i64 x.Sub.E, .int .i64 x.Sub.Row, .int .i64 x.Sub.B, .int .i64 x.Sub.H, .int .i64 x.Sub.Out, .int .i64 x.Sub.Code, .bool x.Sub.Done, .int .i64 x.H, .int .i64 x.Old, .int .i64 x.Val, .int .i64 x.Code] 146)) (w.heap.size) [.bool true, .int .i64 x.Op.Kind, .int .i64 x.Op.Cell, .int .i64 x.Op.Size, .int .i64 x.Op.Val, .int .i64 x.Serial, .int .i64 x.Pc, .int .i64 x.Sub.Kind, .int .i64 x.Sub.A, .int .i64 x.Sub.Pc, .int .i64 x.Sub.E, .int .i64 x.Sub.Row, .int .i64 x.Sub.B, .int .i64 x.Sub.H, .int .i64 x.Sub.Out, .int .i64 x.Sub.Code, .bool x.Sub.Done, .int .i64 x.H, .int .i64 x.Old, .int .i64 x.Val, .int .i64 x.Code] := by
    have hbx := Box.new w #[.bool true, .int .i64 x.Op.Kind, .int .i64 x.Op.Cell, .int .i64 x.Op.Size, .int .i64 x.Op.Val, .int .i64 x.Serial, .int .i64 x.Pc, .int .i64 x.Sub.Kind, .int .i64 x.Sub.A, .int .i64 x.Sub.Pc, .int .i64 x.Sub.E, .int .i64 x.Sub.Row, .int .i64 x.Sub.B, .int .i64 x.Sub.H, .int .i64 x.Sub.Out, .int .i64 x.Sub.Code, .bool x.Sub.Done, .int .i64 x.H, .int .i64 x.Old, .int .i64 x.Val, .int .i64 x.Code] 146
    exact hbx
  have hB : Below w.heap.size w (w.alloc (.cells #[.bool true, .int .i64 x.Op.Kind, .int .i64 x.Op.Cell, .int .i64 x.Op.Size, .int .i64 x.Op.Val, .int .i64 x.Serial, .int .i64 x.Pc, .int .i64 x.Sub.Kind, .int .i64 x.Sub.A, .int .i64 x.Sub.Pc, .int .i64 x.Sub.E, .int .i64 x.Sub.Row, .int .i64 x.Sub.B, .int .i64 x.Sub.H, .int .i64 x.Sub.Out, .int .i64 x.Sub.Code, .bool x.Sub.Done, .int .i64 x.H, .int .i64 x.Old, .int .i64 x.Val, .int .i64 x.Code] 146)) := by repeat (first | exact Below.refl _ _ | refine Below.alloc ?_ (by simp <;> omega) _ | refine below_grow_of ?_ (by simp <;> omega) _ _ | refine Below.drew ?_ | refine below_drewN ?_ _)
  go_enter Tryz.func116, Tryz.ntmps116
  go_wp2_with fail
  generalize hW0 : (w.alloc (.cells #[.bool true, .int .i64 x.Op.Kind, .int .i64 x.Op.Cell, .int .i64 x.Op.Size, .int .i64 x.Op.Val, .int .i64 x.Serial, .int .i64 x.Pc, .int .i64 x.Sub.Kind, .int .i64 x.Sub.A, .int .i64 x.Sub.Pc, .int .i64 x.Sub.E, .int .i64 x.Sub.Row, .int .i64 x.Sub.B, .int .i64 x.Sub.H, .int .i64 x.Sub.Out, .int .i64 x.Sub.Code, .bool x.Sub.Done, .int .i64 x.H, .int .i64 x.Old, .int .i64 x.Val, .int .i64 x.Code] 146)) = w0 at B_a hB ⊢
  clear hW0
  have zz_a := B_a.lt
  have q_a_0 := B_a.cell 0 _ rfl
  have q_a_1 := B_a.cell 1 _ rfl
  have q_a_2 := B_a.cell 2 _ rfl
  have q_a_3 := B_a.cell 3 _ rfl
  have q_a_4 := B_a.cell 4 _ rfl
  have q_a_5 := B_a.cell 5 _ rfl
  have q_a_6 := B_a.cell 6 _ rfl
  have q_a_7 := B_a.cell 7 _ rfl
  have q_a_8 := B_a.cell 8 _ rfl
  have q_a_9 := B_a.cell 9 _ rfl
  have q_a_10 := B_a.cell 10 _ rfl
  have q_a_11 := B_a.cell 11 _ rfl
  have q_a_12 := B_a.cell 12 _ rfl
  have q_a_13 := B_a.cell 13 _ rfl
  have q_a_14 := B_a.cell 14 _ rfl
  have q_a_15 := B_a.cell 15 _ rfl
  have q_a_16 := B_a.cell 16 _ rfl
  have q_a_17 := B_a.cell 17 _ rfl
  have q_a_18 := B_a.cell 18 _ rfl
  have q_a_19 := B_a.cell 19 _ rfl
  have q_a_20 := B_a.cell 20 _ rfl
  have fr_a := B_a.fro
  have z_a := B_a.lt
  refine (k0 _).mono ?_
  rintro e w1 ⟨rfl, hb⟩
  replace B_a := B_a.below hb
  replace hB := hB.trans (hb.mono hB.size)
  have sz := hb.size
  clear hb
  replace q_a_0 := B_a.cell 0 _ rfl
  replace q_a_1 := B_a.cell 1 _ rfl
  replace q_a_2 := B_a.cell 2 _ rfl
  replace q_a_3 := B_a.cell 3 _ rfl
  replace q_a_4 := B_a.cell 4 _ rfl
  replace q_a_5 := B_a.cell 5 _ rfl
  replace q_a_6 := B_a.cell 6 _ rfl
  replace q_a_7 := B_a.cell 7 _ rfl
  replace q_a_8 := B_a.cell 8 _ rfl
  replace q_a_9 := B_a.cell 9 _ rfl
  replace q_a_10 := B_a.cell 10 _ rfl
  replace q_a_11 := B_a.cell 11 _ rfl
  replace q_a_12 := B_a.cell 12 _ rfl
  replace q_a_13 := B_a.cell 13 _ rfl
  replace q_a_14 := B_a.cell 14 _ rfl
  replace q_a_15 := B_a.cell 15 _ rfl
  replace q_a_16 := B_a.cell 16 _ rfl
  replace q_a_17 := B_a.cell 17 _ rfl
  replace q_a_18 := B_a.cell 18 _ rfl
  replace q_a_19 := B_a.cell 19 _ rfl
  replace q_a_20 := B_a.cell 20 _ rfl
  replace fr_a := B_a.fro
  replace z_a := B_a.lt
  clear k0
  go_wp2_with fail
  refine (k1 _).mono ?_
  rintro e w2 ⟨rfl, hb⟩
  replace B_a := B_a.below hb
  replace hB := hB.trans (hb.mono hB.size)
  have sz := hb.size
  clear hb
  replace q_a_0 := B_a.cell 0 _ rfl
  replace q_a_1 := B_a.cell 1 _ rfl
  replace q_a_2 := B_a.cell 2 _ rfl
  replace q_a_3 := B_a.cell 3 _ rfl
  replace q_a_4 := B_a.cell 4 _ rfl
  replace q_a_5 := B_a.cell 5 _ rfl
  replace q_a_6 := B_a.cell 6 _ rfl
  replace q_a_7 := B_a.cell 7 _ rfl
  replace q_a_8 := B_a.cell 8 _ rfl
  replace q_a_9 := B_a.cell 9 _ rfl
  replace q_a_10 := B_a.cell 10 _ rfl
  replace q_a_11 := B_a.cell 11 _ rfl
  replace q_a_12 := B_a.cell 12 _ rfl
  replace q_a_13 := B_a.cell 13 _ rfl
  replace q_a_14 := B_a.cell 14 _ rfl
  replace q_a_15 := B_a.cell 15 _ rfl
  replace q_a_16 := B_a.cell 16 _ rfl
  replace q_a_17 := B_a.cell 17 _ rfl
  replace q_a_18 := B_a.cell 18 _ rfl
  replace q_a_19 := B_a.cell 19 _ rfl
  replace q_a_20 := B_a.cell 20 _ rfl
  replace fr_a := B_a.fro
  replace z_a := B_a.lt
  clear k1
  go_wp2_with fail
  refine (k2 _).mono ?_
  rintro e w3 ⟨rfl, hb⟩
  replace B_a := B_a.below hb
  replace hB := hB.trans (hb.mono hB.size)
  have sz := hb.size
  clear hb
  replace q_a_0 := B_a.cell 0 _ rfl
  replace q_a_1 := B_a.cell 1 _ rfl
  replace q_a_2 := B_a.cell 2 _ rfl
  replace q_a_3 := B_a.cell 3 _ rfl
  replace q_a_4 := B_a.cell 4 _ rfl
  replace q_a_5 := B_a.cell 5 _ rfl
  replace q_a_6 := B_a.cell 6 _ rfl
  replace q_a_7 := B_a.cell 7 _ rfl
  replace q_a_8 := B_a.cell 8 _ rfl
  replace q_a_9 := B_a.cell 9 _ rfl
  replace q_a_10 := B_a.cell 10 _ rfl
  replace q_a_11 := B_a.cell 11 _ rfl
  replace q_a_12 := B_a.cell 12 _ rfl
  replace q_a_13 := B_a.cell 13 _ rfl
  replace q_a_14 := B_a.cell 14 _ rfl
  replace q_a_15 := B_a.cell 15 _ rfl
  replace q_a_16 := B_a.cell 16 _ rfl
  replace q_a_17 := B_a.cell 17 _ rfl
  replace q_a_18 := B_a.cell 18 _ rfl
  replace q_a_19 := B_a.cell 19 _ rfl
  replace q_a_20 := B_a.cell 20 _ rfl
  replace fr_a := B_a.fro
  replace z_a := B_a.lt
  clear k2
  go_wp2_with fail
  go_ret
  exact ⟨ret_bool HV.out.symm, hB⟩

set_option maxHeartbeats 400000 in
theorem ShelfOk1_impl (h : Int) (w : World) : Calls Tryz.prog 112 #[.int .i64 h] w fun e w' => e = .returned (.bool (!Lim.linkB h)) ∧ w' = w := by
  go_enter Tryz.func112, Tryz.ntmps112
  go_wp2_with (go_at_call 113; refine (Lim.isLink_impl _ _).mono ?_; rintro e w1 ⟨rfl, rfl⟩)
  go_ret
  exact ⟨rfl, rfl⟩
set_option maxRecDepth 100000 in
set_option maxHeartbeats 2000000 in
theorem ShelfOk2_impl (x : Job) (w : World) : Calls Tryz.prog 115 #[.agg (FJob.enc x).toArray] w fun e w' => e = .returned (.bool (!jobOkB x)) ∧ Below w.heap.size w w' := by
  show Calls Tryz.prog 115 #[.agg #[.bool x.Busy, .int .i64 x.Op.Kind, .int .i64 x.Op.Cell, .int .i64 x.Op.Size, .int .i64 x.Op.Val, .int .i64 x.Serial, .int .i64 x.Pc, .int .i64 x.Sub.Kind, .int .i64 x.Sub.A, .int .i64 x.Sub.Pc, .int .i64 x.Sub.E, .int .i64 x.Sub.Row, .int .i64 x.Sub.B, .int .i64 x.Sub.H, .int .i64 x.Sub.Out, .int .i64 x.Sub.Code, .bool x.Sub.Done, .int .i64 x.H, .int .i64 x.Old, .int .i64 x.Val, .int .i64 x.Code]] _ _
  obtain ⟨cs, hcs⟩ : ∃ cs, cs = FJob.enc x := ⟨_, rfl⟩
  have hlen : cs.length = 21 := by rw [hcs]; exact FJob.len x
  have hr : row? (w.alloc (.cells #[.bool x.Busy, .int .i64 x.Op.Kind, .int .i64 x.Op.Cell, .int .i64 x.Op.Size, .int .i64 x.Op.Val, .int .i64 x.Serial, .int .i64 x.Pc, .int .i64 x.Sub.Kind, .int .i64 x.Sub.A, .int .i64 x.Sub.Pc, .int .i64 x.Sub.E, .int .i64 x.Sub.Row, .int .i64 x.Sub.B, .int .i64 x.Sub.H, .int .i64 x.Sub.Out, .int .i64 x.Sub.Code, .bool x.Sub.Done, .int .i64 x.H, .int .i64 x.Old, .int .i64 x.Val, .int .i64 x.Code] 146)) w.heap.size 0 21 = some cs := row?_of (by rw [hcs]; exact fun j v hv => by rw [Nat.zero_add]; exact (Box.new w #[.bool x.Busy, .int .i64 x.Op.Kind, .int .i64 x.Op.Cell, .int .i64 x.Op.Size, .int .i64 x.Op.Val, .int .i64 x.Serial, .int .i64 x.Pc, .int .i64 x.Sub.Kind, .int .i64 x.Sub.A, .int .i64 x.Sub.Pc, .int .i64 x.Sub.E, .int .i64 x.Sub.Row, .int .i64 x.Sub.B, .int .i64 x.Sub.H, .int .i64 x.Sub.Out, .int .i64 x.Sub.Code, .bool x.Sub.Done, .int .i64 x.H, .int .i64 x.Old, .int .i64 x.Val, .int .i64 x.Code] 146).cell j v hv) hlen
  have k := fun W => jobOk_impl x W
  rw [← hcs] at k
  clear hcs hlen
  generalize jobOkB x = jb at k
  have hB : Below w.heap.size w (w.alloc (.cells #[.bool x.Busy, .int .i64 x.Op.Kind, .int .i64 x.Op.Cell, .int .i64 x.Op.Size, .int .i64 x.Op.Val, .int .i64 x.Serial, .int .i64 x.Pc, .int .i64 x.Sub.Kind, .int .i64 x.Sub.A, .int .i64 x.Sub.Pc, .int .i64 x.Sub.E, .int .i64 x.Sub.Row, .int .i64 x.Sub.B, .int .i64 x.Sub.H, .int .i64 x.Sub.Out, .int .i64 x.Sub.Code, .bool x.Sub.Done, .int .i64 x.H, .int .i64 x.Old, .int .i64 x.Val, .int .i64 x.Code] 146)) := by repeat (first | exact Below.refl _ _ | refine Below.alloc ?_ (by simp <;> omega) _ | refine below_grow_of ?_ (by simp <;> omega) _ _ | refine Below.drew ?_ | refine below_drewN ?_ _)
  go_enter Tryz.func115, Tryz.ntmps115
  go_wp2_with fail
  refine (k _).mono ?_
  rintro e w1 ⟨rfl, hb⟩
  go_wp2_with fail
  go_ret
  exact ⟨rfl, hB.trans (hb.mono (by simp))⟩

set_option maxRecDepth 100000 in
set_option maxHeartbeats 2000000 in
theorem ShelfOk_impl (w : World) (H : HShelf) (x : Shelf) (h : RdShelf w w.heap.size H x) (hs : szLL x.Base.Limbo ≤ 536870912) :
    Calls Tryz.prog 43 #[.agg #[.slice H.Base.Mem.Heap.Bytes.a H.Base.Mem.Heap.Bytes.len H.Base.Mem.Heap.Bytes.cap, .slice H.Base.Mem.Heap.Class.a H.Base.Mem.Heap.Class.len H.Base.Mem.Heap.Class.cap, .slice H.Base.Mem.Lists.Global.a H.Base.Mem.Lists.Global.len H.Base.Mem.Lists.Global.cap, .slice H.Base.Mem.Lists.Own.a H.Base.Mem.Lists.Own.len H.Base.Mem.Lists.Own.cap, .int .i64 x.Base.Clock.Epoch, .slice H.Base.Clock.Pins.a H.Base.Clock.Pins.len H.Base.Clock.Pins.cap, .slice H.Base.Limbo.a H.Base.Limbo.len H.Base.Limbo.cap, .slice H.Base.Haz.a H.Base.Haz.len H.Base.Haz.cap, .slice H.Cells.a H.Cells.len H.Cells.cap, .slice H.Jobs.a H.Jobs.len H.Jobs.cap, .slice H.Todo.a H.Todo.len H.Todo.cap, .slice H.Log.a H.Log.len H.Log.cap, .int .i64 x.Serial]] w fun e w' => e = .returned (.bool (shelfOkB x)) ∧ Below w.heap.size w w' := by
  have k0 := fun (W : World) (hW : Below w.heap.size w W) => BaseOk_impl W H.Base x.Base (rdBase_up h.Base hW) hs
  have k3 := fun (W : World) (hW : Below w.heap.size w W) => todoOk_impl W _ _ x.Todo (rdLL_up h.Todo hW)
  have k4 := fun (W : World) (_hW : Below w.heap.size w W) => (within_ct x.Serial 0 1000000 W).mono fun _ _ => below_eq'
  have k5 := fun (W : World) (hW : Below w.heap.size w W) => Lim.ContainsFuncInt_ct W _ x.Cells (rd_up h.Cells hW) 112 #[] (fun h => !Lim.linkB h) (fun _ _ => by kernel_rfl) (fun y V _ _ => (ShelfOk1_impl y V).mono fun _ _ => below_eq)
  have k6 := fun (W : World) (hW : Below w.heap.size w W) => ContainsFuncJob_ct W _ x.Jobs (rd_up h.Jobs hW) 115 #[] (fun j => !jobOkB j) (fun _ _ => by kernel_rfl) (fun y V _ _ => ShelfOk2_impl y V)
  have eC := Hid.mk_ (RdL.len_ h.Cells).1
  have eJ := Hid.mk_ (RdL.len_ h.Jobs).1
  have bC : H.Cells.len ≤ 9223372036854775807 := (RdL.len_ h.Cells).2
  have bJ : H.Jobs.len ≤ 9223372036854775807 := (RdL.len_ h.Jobs).2
  have HV : Hid (shelfOkB x = (baseOkB x.Base && (x.Cells.length == 2) && (x.Jobs.length == 3) && todoOkB x.Todo && inB 0 1000000 x.Serial && !(x.Cells.any fun h => !Lim.linkB h) && !(x.Jobs.any fun j => !jobOkB j))) := Hid.mk_ rfl
  clear h
  generalize baseOkB x.Base = c0 at k0 HV
  obtain ⟨c1, hc1⟩ : ∃ c1, Hid (c1 = (x.Cells.length == 2)) := ⟨_, Hid.mk_ rfl⟩
  rw [← hc1.out] at HV
  obtain ⟨c2, hc2⟩ : ∃ c2, Hid (c2 = (x.Jobs.length == 3)) := ⟨_, Hid.mk_ rfl⟩
  rw [← hc2.out] at HV
  generalize todoOkB x.Todo = c3 at k3 HV
  generalize inB 0 1000000 x.Serial = c4 at k4 HV
  generalize (x.Cells.any fun h => !Lim.linkB h) = c5 at k5 HV
  generalize (x.Jobs.any fun j => !jobOkB j) = c6 at k6 HV
  cases c0 with
  | false =>
    replace HV : Hid (shelfOkB x = false) := Hid.mk_ (HV.out.trans (by simp))
    have B_a : Box (w.alloc (.cells #[.slice H.Base.Mem.Heap.Bytes.a H.Base.Mem.Heap.Bytes.len H.Base.Mem.Heap.Bytes.cap, .slice H.Base.Mem.Heap.Class.a H.Base.Mem.Heap.Class.len H.Base.Mem.Heap.Class.cap, .slice H.Base.Mem.Lists.Global.a H.Base.Mem.Lists.Global.len H.Base.Mem.Lists.Global.cap, .slice H.Base.Mem.Lists.Own.a H.Base.Mem.Lists.Own.len H.Base.Mem.Lists.Own.cap, .int .i64 x.Base.Clock.Epoch, .slice H.Base.Clock.Pins.a H.Base.Clock.Pins.len H.Base.Clock.Pins.cap, .slice H.Base.Limbo.a H.Base.Limbo.len H.Base.Limbo.cap, .slice H.Base.Haz.a H.Base.Haz.len H.Base.Haz.cap, .slice H.Cells.a H.Cells.len H.Cells.cap, .slice H.Jobs.a H.Jobs.len H.Jobs.cap, .slice H.Todo.a H.Todo.len H.Todo.cap, .slice H.Log.a H.Log.len H.Log.cap, .int .i64 x.Serial] 69)) (w.heap.size) [.slice H.Base.Mem.Heap.Bytes.a H.Base.Mem.Heap.Bytes.len H.Base.Mem.Heap.Bytes.cap, .slice H.Base.Mem.Heap.Class.a H.Base.Mem.Heap.Class.len H.Base.Mem.Heap.Class.cap, .slice H.Base.Mem.Lists.Global.a H.Base.Mem.Lists.Global.len H.Base.Mem.Lists.Global.cap, .slice H.Base.Mem.Lists.Own.a H.Base.Mem.Lists.Own.len H.Base.Mem.Lists.Own.cap, .int .i64 x.Base.Clock.Epoch, .slice H.Base.Clock.Pins.a H.Base.Clock.Pins.len H.Base.Clock.Pins.cap, .slice H.Base.Limbo.a H.Base.Limbo.len H.Base.Limbo.cap, .slice H.Base.Haz.a H.Base.Haz.len H.Base.Haz.cap, .slice H.Cells.a H.Cells.len H.Cells.cap, .slice H.Jobs.a H.Jobs.len H.Jobs.cap, .slice H.Todo.a H.Todo.len H.Todo.cap, .slice H.Log.a H.Log.len H.Log.cap, .int .i64 x.Serial] := by
      have hbx := Box.new w #[.slice H.Base.Mem.Heap.Bytes.a H.Base.Mem.Heap.Bytes.len H.Base.Mem.Heap.Bytes.cap, .slice H.Base.Mem.Heap.Class.a H.Base.Mem.Heap.Class.len H.Base.Mem.Heap.Class.cap, .slice H.Base.Mem.Lists.Global.a H.Base.Mem.Lists.Global.len H.Base.Mem.Lists.Global.cap, .slice H.Base.Mem.Lists.Own.a H.Base.Mem.Lists.Own.len H.Base.Mem.Lists.Own.cap, .int .i64 x.Base.Clock.Epoch, .slice H.Base.Clock.Pins.a H.Base.Clock.Pins.len H.Base.Clock.Pins.cap, .slice H.Base.Limbo.a H.Base.Limbo.len H.Base.Limbo.cap, .slice H.Base.Haz.a H.Base.Haz.len H.Base.Haz.cap, .slice H.Cells.a H.Cells.len H.Cells.cap, .slice H.Jobs.a H.Jobs.len H.Jobs.cap, .slice H.Todo.a H.Todo.len H.Todo.cap, .slice H.Log.a H.Log.len H.Log.cap, .int .i64 x.Serial] 69
      exact hbx
    have hB : Below w.heap.size w (w.alloc (.cells #[.slice H.Base.Mem.Heap.Bytes.a H.Base.Mem.Heap.Bytes.len H.Base.Mem.Heap.Bytes.cap, .slice H.Base.Mem.Heap.Class.a H.Base.Mem.Heap.Class.len H.Base.Mem.Heap.Class.cap, .slice H.Base.Mem.Lists.Global.a H.Base.Mem.Lists.Global.len H.Base.Mem.Lists.Global.cap, .slice H.Base.Mem.Lists.Own.a H.Base.Mem.Lists.Own.len H.Base.Mem.Lists.Own.cap, .int .i64 x.Base.Clock.Epoch, .slice H.Base.Clock.Pins.a H.Base.Clock.Pins.len H.Base.Clock.Pins.cap, .slice H.Base.Limbo.a H.Base.Limbo.len H.Base.Limbo.cap, .slice H.Base.Haz.a H.Base.Haz.len H.Base.Haz.cap, .slice H.Cells.a H.Cells.len H.Cells.cap, .slice H.Jobs.a H.Jobs.len H.Jobs.cap, .slice H.Todo.a H.Todo.len H.Todo.cap, .slice H.Log.a H.Log.len H.Log.cap, .int .i64 x.Serial] 69)) := by repeat (first | exact Below.refl _ _ | refine Below.alloc ?_ (by simp <;> omega) _ | refine below_grow_of ?_ (by simp <;> omega) _ _ | refine Below.drew ?_ | refine below_drewN ?_ _)
    go_enter Tryz.func43, Tryz.ntmps43
    go_wp2_with fail
    generalize hW0 : (w.alloc (.cells #[.slice H.Base.Mem.Heap.Bytes.a H.Base.Mem.Heap.Bytes.len H.Base.Mem.Heap.Bytes.cap, .slice H.Base.Mem.Heap.Class.a H.Base.Mem.Heap.Class.len H.Base.Mem.Heap.Class.cap, .slice H.Base.Mem.Lists.Global.a H.Base.Mem.Lists.Global.len H.Base.Mem.Lists.Global.cap, .slice H.Base.Mem.Lists.Own.a H.Base.Mem.Lists.Own.len H.Base.Mem.Lists.Own.cap, .int .i64 x.Base.Clock.Epoch, .slice H.Base.Clock.Pins.a H.Base.Clock.Pins.len H.Base.Clock.Pins.cap, .slice H.Base.Limbo.a H.Base.Limbo.len H.Base.Limbo.cap, .slice H.Base.Haz.a H.Base.Haz.len H.Base.Haz.cap, .slice H.Cells.a H.Cells.len H.Cells.cap, .slice H.Jobs.a H.Jobs.len H.Jobs.cap, .slice H.Todo.a H.Todo.len H.Todo.cap, .slice H.Log.a H.Log.len H.Log.cap, .int .i64 x.Serial] 69)) = w0 at B_a hB ⊢
    clear hW0
    have zz_a := B_a.lt
    have q_a_0 := B_a.cell 0 _ rfl
    have q_a_1 := B_a.cell 1 _ rfl
    have q_a_2 := B_a.cell 2 _ rfl
    have q_a_3 := B_a.cell 3 _ rfl
    have q_a_4 := B_a.cell 4 _ rfl
    have q_a_5 := B_a.cell 5 _ rfl
    have q_a_6 := B_a.cell 6 _ rfl
    have q_a_7 := B_a.cell 7 _ rfl
    have q_a_8 := B_a.cell 8 _ rfl
    have q_a_9 := B_a.cell 9 _ rfl
    have q_a_10 := B_a.cell 10 _ rfl
    have q_a_11 := B_a.cell 11 _ rfl
    have q_a_12 := B_a.cell 12 _ rfl
    have fr_a := B_a.fro
    have z_a := B_a.lt
    refine (k0 _ hB).mono ?_
    rintro e w1 ⟨rfl, hb⟩
    replace B_a := B_a.below hb
    replace hB := hB.trans (hb.mono hB.size)
    have sz := hb.size
    clear hb
    replace q_a_0 := B_a.cell 0 _ rfl
    replace q_a_1 := B_a.cell 1 _ rfl
    replace q_a_2 := B_a.cell 2 _ rfl
    replace q_a_3 := B_a.cell 3 _ rfl
    replace q_a_4 := B_a.cell 4 _ rfl
    replace q_a_5 := B_a.cell 5 _ rfl
    replace q_a_6 := B_a.cell 6 _ rfl
    replace q_a_7 := B_a.cell 7 _ rfl
    replace q_a_8 := B_a.cell 8 _ rfl
    replace q_a_9 := B_a.cell 9 _ rfl
    replace q_a_10 := B_a.cell 10 _ rfl
    replace q_a_11 := B_a.cell 11 _ rfl
    replace q_a_12 := B_a.cell 12 _ rfl
    replace fr_a := B_a.fro
    replace z_a := B_a.lt
    clear k0
    go_wp2_with fail
    go_ret
    exact ⟨ret_bool HV.out.symm, hB⟩
  | true =>
  cases c1 with
  | false =>
    have d1 : ((H.Cells.len : Int) == 2) = false := by rw [eC.out]; have a := hc1.out.symm; simp at a ⊢; omega
    have n1 : ((H.Cells.len : Int) != 2) = true := by rw [bne, d1]; rfl
    replace HV : Hid (shelfOkB x = false) := Hid.mk_ (HV.out.trans (by simp))
    have B_a : Box (w.alloc (.cells #[.slice H.Base.Mem.Heap.Bytes.a H.Base.Mem.Heap.Bytes.len H.Base.Mem.Heap.Bytes.cap, .slice H.Base.Mem.Heap.Class.a H.Base.Mem.Heap.Class.len H.Base.Mem.Heap.Class.cap, .slice H.Base.Mem.Lists.Global.a H.Base.Mem.Lists.Global.len H.Base.Mem.Lists.Global.cap, .slice H.Base.Mem.Lists.Own.a H.Base.Mem.Lists.Own.len H.Base.Mem.Lists.Own.cap, .int .i64 x.Base.Clock.Epoch, .slice H.Base.Clock.Pins.a H.Base.Clock.Pins.len H.Base.Clock.Pins.cap, .slice H.Base.Limbo.a H.Base.Limbo.len H.Base.Limbo.cap, .slice H.Base.Haz.a H.Base.Haz.len H.Base.Haz.cap, .slice H.Cells.a H.Cells.len H.Cells.cap, .slice H.Jobs.a H.Jobs.len H.Jobs.cap, .slice H.Todo.a H.Todo.len H.Todo.cap, .slice H.Log.a H.Log.len H.Log.cap, .int .i64 x.Serial] 69)) (w.heap.size) [.slice H.Base.Mem.Heap.Bytes.a H.Base.Mem.Heap.Bytes.len H.Base.Mem.Heap.Bytes.cap, .slice H.Base.Mem.Heap.Class.a H.Base.Mem.Heap.Class.len H.Base.Mem.Heap.Class.cap, .slice H.Base.Mem.Lists.Global.a H.Base.Mem.Lists.Global.len H.Base.Mem.Lists.Global.cap, .slice H.Base.Mem.Lists.Own.a H.Base.Mem.Lists.Own.len H.Base.Mem.Lists.Own.cap, .int .i64 x.Base.Clock.Epoch, .slice H.Base.Clock.Pins.a H.Base.Clock.Pins.len H.Base.Clock.Pins.cap, .slice H.Base.Limbo.a H.Base.Limbo.len H.Base.Limbo.cap, .slice H.Base.Haz.a H.Base.Haz.len H.Base.Haz.cap, .slice H.Cells.a H.Cells.len H.Cells.cap, .slice H.Jobs.a H.Jobs.len H.Jobs.cap, .slice H.Todo.a H.Todo.len H.Todo.cap, .slice H.Log.a H.Log.len H.Log.cap, .int .i64 x.Serial] := by
      have hbx := Box.new w #[.slice H.Base.Mem.Heap.Bytes.a H.Base.Mem.Heap.Bytes.len H.Base.Mem.Heap.Bytes.cap, .slice H.Base.Mem.Heap.Class.a H.Base.Mem.Heap.Class.len H.Base.Mem.Heap.Class.cap, .slice H.Base.Mem.Lists.Global.a H.Base.Mem.Lists.Global.len H.Base.Mem.Lists.Global.cap, .slice H.Base.Mem.Lists.Own.a H.Base.Mem.Lists.Own.len H.Base.Mem.Lists.Own.cap, .int .i64 x.Base.Clock.Epoch, .slice H.Base.Clock.Pins.a H.Base.Clock.Pins.len H.Base.Clock.Pins.cap, .slice H.Base.Limbo.a H.Base.Limbo.len H.Base.Limbo.cap, .slice H.Base.Haz.a H.Base.Haz.len H.Base.Haz.cap, .slice H.Cells.a H.Cells.len H.Cells.cap, .slice H.Jobs.a H.Jobs.len H.Jobs.cap, .slice H.Todo.a H.Todo.len H.Todo.cap, .slice H.Log.a H.Log.len H.Log.cap, .int .i64 x.Serial] 69
      exact hbx
    have hB : Below w.heap.size w (w.alloc (.cells #[.slice H.Base.Mem.Heap.Bytes.a H.Base.Mem.Heap.Bytes.len H.Base.Mem.Heap.Bytes.cap, .slice H.Base.Mem.Heap.Class.a H.Base.Mem.Heap.Class.len H.Base.Mem.Heap.Class.cap, .slice H.Base.Mem.Lists.Global.a H.Base.Mem.Lists.Global.len H.Base.Mem.Lists.Global.cap, .slice H.Base.Mem.Lists.Own.a H.Base.Mem.Lists.Own.len H.Base.Mem.Lists.Own.cap, .int .i64 x.Base.Clock.Epoch, .slice H.Base.Clock.Pins.a H.Base.Clock.Pins.len H.Base.Clock.Pins.cap, .slice H.Base.Limbo.a H.Base.Limbo.len H.Base.Limbo.cap, .slice H.Base.Haz.a H.Base.Haz.len H.Base.Haz.cap, .slice H.Cells.a H.Cells.len H.Cells.cap, .slice H.Jobs.a H.Jobs.len H.Jobs.cap, .slice H.Todo.a H.Todo.len H.Todo.cap, .slice H.Log.a H.Log.len H.Log.cap, .int .i64 x.Serial] 69)) := by repeat (first | exact Below.refl _ _ | refine Below.alloc ?_ (by simp <;> omega) _ | refine below_grow_of ?_ (by simp <;> omega) _ _ | refine Below.drew ?_ | refine below_drewN ?_ _)
    go_enter Tryz.func43, Tryz.ntmps43
    go_wp2_with fail
    generalize hW0 : (w.alloc (.cells #[.slice H.Base.Mem.Heap.Bytes.a H.Base.Mem.Heap.Bytes.len H.Base.Mem.Heap.Bytes.cap, .slice H.Base.Mem.Heap.Class.a H.Base.Mem.Heap.Class.len H.Base.Mem.Heap.Class.cap, .slice H.Base.Mem.Lists.Global.a H.Base.Mem.Lists.Global.len H.Base.Mem.Lists.Global.cap, .slice H.Base.Mem.Lists.Own.a H.Base.Mem.Lists.Own.len H.Base.Mem.Lists.Own.cap, .int .i64 x.Base.Clock.Epoch, .slice H.Base.Clock.Pins.a H.Base.Clock.Pins.len H.Base.Clock.Pins.cap, .slice H.Base.Limbo.a H.Base.Limbo.len H.Base.Limbo.cap, .slice H.Base.Haz.a H.Base.Haz.len H.Base.Haz.cap, .slice H.Cells.a H.Cells.len H.Cells.cap, .slice H.Jobs.a H.Jobs.len H.Jobs.cap, .slice H.Todo.a H.Todo.len H.Todo.cap, .slice H.Log.a H.Log.len H.Log.cap, .int .i64 x.Serial] 69)) = w0 at B_a hB ⊢
    clear hW0
    have zz_a := B_a.lt
    have q_a_0 := B_a.cell 0 _ rfl
    have q_a_1 := B_a.cell 1 _ rfl
    have q_a_2 := B_a.cell 2 _ rfl
    have q_a_3 := B_a.cell 3 _ rfl
    have q_a_4 := B_a.cell 4 _ rfl
    have q_a_5 := B_a.cell 5 _ rfl
    have q_a_6 := B_a.cell 6 _ rfl
    have q_a_7 := B_a.cell 7 _ rfl
    have q_a_8 := B_a.cell 8 _ rfl
    have q_a_9 := B_a.cell 9 _ rfl
    have q_a_10 := B_a.cell 10 _ rfl
    have q_a_11 := B_a.cell 11 _ rfl
    have q_a_12 := B_a.cell 12 _ rfl
    have fr_a := B_a.fro
    have z_a := B_a.lt
    refine (k0 _ hB).mono ?_
    rintro e w1 ⟨rfl, hb⟩
    replace B_a := B_a.below hb
    replace hB := hB.trans (hb.mono hB.size)
    have sz := hb.size
    clear hb
    replace q_a_0 := B_a.cell 0 _ rfl
    replace q_a_1 := B_a.cell 1 _ rfl
    replace q_a_2 := B_a.cell 2 _ rfl
    replace q_a_3 := B_a.cell 3 _ rfl
    replace q_a_4 := B_a.cell 4 _ rfl
    replace q_a_5 := B_a.cell 5 _ rfl
    replace q_a_6 := B_a.cell 6 _ rfl
    replace q_a_7 := B_a.cell 7 _ rfl
    replace q_a_8 := B_a.cell 8 _ rfl
    replace q_a_9 := B_a.cell 9 _ rfl
    replace q_a_10 := B_a.cell 10 _ rfl
    replace q_a_11 := B_a.cell 11 _ rfl
    replace q_a_12 := B_a.cell 12 _ rfl
    replace fr_a := B_a.fro
    replace z_a := B_a.lt
    clear k0
    go_wp2_with fail
    go_ret
    exact ⟨ret_bool HV.out.symm, hB⟩
  | true =>
  have d1 : ((H.Cells.len : Int) == 2) = true := by rw [eC.out]; have a := hc1.out.symm; simp at a ⊢; omega
  have n1 : ((H.Cells.len : Int) != 2) = false := by rw [bne, d1]; rfl
  cases c2 with
  | false =>
    have d2 : ((H.Jobs.len : Int) == 3) = false := by rw [eJ.out]; have a := hc2.out.symm; simp at a ⊢; omega
    have n2 : ((H.Jobs.len : Int) != 3) = true := by rw [bne, d2]; rfl
    replace HV : Hid (shelfOkB x = false) := Hid.mk_ (HV.out.trans (by simp))
    have B_a : Box (w.alloc (.cells #[.slice H.Base.Mem.Heap.Bytes.a H.Base.Mem.Heap.Bytes.len H.Base.Mem.Heap.Bytes.cap, .slice H.Base.Mem.Heap.Class.a H.Base.Mem.Heap.Class.len H.Base.Mem.Heap.Class.cap, .slice H.Base.Mem.Lists.Global.a H.Base.Mem.Lists.Global.len H.Base.Mem.Lists.Global.cap, .slice H.Base.Mem.Lists.Own.a H.Base.Mem.Lists.Own.len H.Base.Mem.Lists.Own.cap, .int .i64 x.Base.Clock.Epoch, .slice H.Base.Clock.Pins.a H.Base.Clock.Pins.len H.Base.Clock.Pins.cap, .slice H.Base.Limbo.a H.Base.Limbo.len H.Base.Limbo.cap, .slice H.Base.Haz.a H.Base.Haz.len H.Base.Haz.cap, .slice H.Cells.a H.Cells.len H.Cells.cap, .slice H.Jobs.a H.Jobs.len H.Jobs.cap, .slice H.Todo.a H.Todo.len H.Todo.cap, .slice H.Log.a H.Log.len H.Log.cap, .int .i64 x.Serial] 69)) (w.heap.size) [.slice H.Base.Mem.Heap.Bytes.a H.Base.Mem.Heap.Bytes.len H.Base.Mem.Heap.Bytes.cap, .slice H.Base.Mem.Heap.Class.a H.Base.Mem.Heap.Class.len H.Base.Mem.Heap.Class.cap, .slice H.Base.Mem.Lists.Global.a H.Base.Mem.Lists.Global.len H.Base.Mem.Lists.Global.cap, .slice H.Base.Mem.Lists.Own.a H.Base.Mem.Lists.Own.len H.Base.Mem.Lists.Own.cap, .int .i64 x.Base.Clock.Epoch, .slice H.Base.Clock.Pins.a H.Base.Clock.Pins.len H.Base.Clock.Pins.cap, .slice H.Base.Limbo.a H.Base.Limbo.len H.Base.Limbo.cap, .slice H.Base.Haz.a H.Base.Haz.len H.Base.Haz.cap, .slice H.Cells.a H.Cells.len H.Cells.cap, .slice H.Jobs.a H.Jobs.len H.Jobs.cap, .slice H.Todo.a H.Todo.len H.Todo.cap, .slice H.Log.a H.Log.len H.Log.cap, .int .i64 x.Serial] := by
      have hbx := Box.new w #[.slice H.Base.Mem.Heap.Bytes.a H.Base.Mem.Heap.Bytes.len H.Base.Mem.Heap.Bytes.cap, .slice H.Base.Mem.Heap.Class.a H.Base.Mem.Heap.Class.len H.Base.Mem.Heap.Class.cap, .slice H.Base.Mem.Lists.Global.a H.Base.Mem.Lists.Global.len H.Base.Mem.Lists.Global.cap, .slice H.Base.Mem.Lists.Own.a H.Base.Mem.Lists.Own.len H.Base.Mem.Lists.Own.cap, .int .i64 x.Base.Clock.Epoch, .slice H.Base.Clock.Pins.a H.Base.Clock.Pins.len H.Base.Clock.Pins.cap, .slice H.Base.Limbo.a H.Base.Limbo.len H.Base.Limbo.cap, .slice H.Base.Haz.a H.Base.Haz.len H.Base.Haz.cap, .slice H.Cells.a H.Cells.len H.Cells.cap, .slice H.Jobs.a H.Jobs.len H.Jobs.cap, .slice H.Todo.a H.Todo.len H.Todo.cap, .slice H.Log.a H.Log.len H.Log.cap, .int .i64 x.Serial] 69
      exact hbx
    have hB : Below w.heap.size w (w.alloc (.cells #[.slice H.Base.Mem.Heap.Bytes.a H.Base.Mem.Heap.Bytes.len H.Base.Mem.Heap.Bytes.cap, .slice H.Base.Mem.Heap.Class.a H.Base.Mem.Heap.Class.len H.Base.Mem.Heap.Class.cap, .slice H.Base.Mem.Lists.Global.a H.Base.Mem.Lists.Global.len H.Base.Mem.Lists.Global.cap, .slice H.Base.Mem.Lists.Own.a H.Base.Mem.Lists.Own.len H.Base.Mem.Lists.Own.cap, .int .i64 x.Base.Clock.Epoch, .slice H.Base.Clock.Pins.a H.Base.Clock.Pins.len H.Base.Clock.Pins.cap, .slice H.Base.Limbo.a H.Base.Limbo.len H.Base.Limbo.cap, .slice H.Base.Haz.a H.Base.Haz.len H.Base.Haz.cap, .slice H.Cells.a H.Cells.len H.Cells.cap, .slice H.Jobs.a H.Jobs.len H.Jobs.cap, .slice H.Todo.a H.Todo.len H.Todo.cap, .slice H.Log.a H.Log.len H.Log.cap, .int .i64 x.Serial] 69)) := by repeat (first | exact Below.refl _ _ | refine Below.alloc ?_ (by simp <;> omega) _ | refine below_grow_of ?_ (by simp <;> omega) _ _ | refine Below.drew ?_ | refine below_drewN ?_ _)
    go_enter Tryz.func43, Tryz.ntmps43
    go_wp2_with fail
    generalize hW0 : (w.alloc (.cells #[.slice H.Base.Mem.Heap.Bytes.a H.Base.Mem.Heap.Bytes.len H.Base.Mem.Heap.Bytes.cap, .slice H.Base.Mem.Heap.Class.a H.Base.Mem.Heap.Class.len H.Base.Mem.Heap.Class.cap, .slice H.Base.Mem.Lists.Global.a H.Base.Mem.Lists.Global.len H.Base.Mem.Lists.Global.cap, .slice H.Base.Mem.Lists.Own.a H.Base.Mem.Lists.Own.len H.Base.Mem.Lists.Own.cap, .int .i64 x.Base.Clock.Epoch, .slice H.Base.Clock.Pins.a H.Base.Clock.Pins.len H.Base.Clock.Pins.cap, .slice H.Base.Limbo.a H.Base.Limbo.len H.Base.Limbo.cap, .slice H.Base.Haz.a H.Base.Haz.len H.Base.Haz.cap, .slice H.Cells.a H.Cells.len H.Cells.cap, .slice H.Jobs.a H.Jobs.len H.Jobs.cap, .slice H.Todo.a H.Todo.len H.Todo.cap, .slice H.Log.a H.Log.len H.Log.cap, .int .i64 x.Serial] 69)) = w0 at B_a hB ⊢
    clear hW0
    have zz_a := B_a.lt
    have q_a_0 := B_a.cell 0 _ rfl
    have q_a_1 := B_a.cell 1 _ rfl
    have q_a_2 := B_a.cell 2 _ rfl
    have q_a_3 := B_a.cell 3 _ rfl
    have q_a_4 := B_a.cell 4 _ rfl
    have q_a_5 := B_a.cell 5 _ rfl
    have q_a_6 := B_a.cell 6 _ rfl
    have q_a_7 := B_a.cell 7 _ rfl
    have q_a_8 := B_a.cell 8 _ rfl
    have q_a_9 := B_a.cell 9 _ rfl
    have q_a_10 := B_a.cell 10 _ rfl
    have q_a_11 := B_a.cell 11 _ rfl
    have q_a_12 := B_a.cell 12 _ rfl
    have fr_a := B_a.fro
    have z_a := B_a.lt
    refine (k0 _ hB).mono ?_
    rintro e w1 ⟨rfl, hb⟩
    replace B_a := B_a.below hb
    replace hB := hB.trans (hb.mono hB.size)
    have sz := hb.size
    clear hb
    replace q_a_0 := B_a.cell 0 _ rfl
    replace q_a_1 := B_a.cell 1 _ rfl
    replace q_a_2 := B_a.cell 2 _ rfl
    replace q_a_3 := B_a.cell 3 _ rfl
    replace q_a_4 := B_a.cell 4 _ rfl
    replace q_a_5 := B_a.cell 5 _ rfl
    replace q_a_6 := B_a.cell 6 _ rfl
    replace q_a_7 := B_a.cell 7 _ rfl
    replace q_a_8 := B_a.cell 8 _ rfl
    replace q_a_9 := B_a.cell 9 _ rfl
    replace q_a_10 := B_a.cell 10 _ rfl
    replace q_a_11 := B_a.cell 11 _ rfl
    replace q_a_12 := B_a.cell 12 _ rfl
    replace fr_a := B_a.fro
    replace z_a := B_a.lt
    clear k0
    go_wp2_with fail
    go_ret
    exact ⟨ret_bool HV.out.symm, hB⟩
  | true =>
  have d2 : ((H.Jobs.len : Int) == 3) = true := by rw [eJ.out]; have a := hc2.out.symm; simp at a ⊢; omega
  have n2 : ((H.Jobs.len : Int) != 3) = false := by rw [bne, d2]; rfl
  cases c3 with
  | false =>
    replace HV : Hid (shelfOkB x = false) := Hid.mk_ (HV.out.trans (by simp))
    have B_a : Box (w.alloc (.cells #[.slice H.Base.Mem.Heap.Bytes.a H.Base.Mem.Heap.Bytes.len H.Base.Mem.Heap.Bytes.cap, .slice H.Base.Mem.Heap.Class.a H.Base.Mem.Heap.Class.len H.Base.Mem.Heap.Class.cap, .slice H.Base.Mem.Lists.Global.a H.Base.Mem.Lists.Global.len H.Base.Mem.Lists.Global.cap, .slice H.Base.Mem.Lists.Own.a H.Base.Mem.Lists.Own.len H.Base.Mem.Lists.Own.cap, .int .i64 x.Base.Clock.Epoch, .slice H.Base.Clock.Pins.a H.Base.Clock.Pins.len H.Base.Clock.Pins.cap, .slice H.Base.Limbo.a H.Base.Limbo.len H.Base.Limbo.cap, .slice H.Base.Haz.a H.Base.Haz.len H.Base.Haz.cap, .slice H.Cells.a H.Cells.len H.Cells.cap, .slice H.Jobs.a H.Jobs.len H.Jobs.cap, .slice H.Todo.a H.Todo.len H.Todo.cap, .slice H.Log.a H.Log.len H.Log.cap, .int .i64 x.Serial] 69)) (w.heap.size) [.slice H.Base.Mem.Heap.Bytes.a H.Base.Mem.Heap.Bytes.len H.Base.Mem.Heap.Bytes.cap, .slice H.Base.Mem.Heap.Class.a H.Base.Mem.Heap.Class.len H.Base.Mem.Heap.Class.cap, .slice H.Base.Mem.Lists.Global.a H.Base.Mem.Lists.Global.len H.Base.Mem.Lists.Global.cap, .slice H.Base.Mem.Lists.Own.a H.Base.Mem.Lists.Own.len H.Base.Mem.Lists.Own.cap, .int .i64 x.Base.Clock.Epoch, .slice H.Base.Clock.Pins.a H.Base.Clock.Pins.len H.Base.Clock.Pins.cap, .slice H.Base.Limbo.a H.Base.Limbo.len H.Base.Limbo.cap, .slice H.Base.Haz.a H.Base.Haz.len H.Base.Haz.cap, .slice H.Cells.a H.Cells.len H.Cells.cap, .slice H.Jobs.a H.Jobs.len H.Jobs.cap, .slice H.Todo.a H.Todo.len H.Todo.cap, .slice H.Log.a H.Log.len H.Log.cap, .int .i64 x.Serial] := by
      have hbx := Box.new w #[.slice H.Base.Mem.Heap.Bytes.a H.Base.Mem.Heap.Bytes.len H.Base.Mem.Heap.Bytes.cap, .slice H.Base.Mem.Heap.Class.a H.Base.Mem.Heap.Class.len H.Base.Mem.Heap.Class.cap, .slice H.Base.Mem.Lists.Global.a H.Base.Mem.Lists.Global.len H.Base.Mem.Lists.Global.cap, .slice H.Base.Mem.Lists.Own.a H.Base.Mem.Lists.Own.len H.Base.Mem.Lists.Own.cap, .int .i64 x.Base.Clock.Epoch, .slice H.Base.Clock.Pins.a H.Base.Clock.Pins.len H.Base.Clock.Pins.cap, .slice H.Base.Limbo.a H.Base.Limbo.len H.Base.Limbo.cap, .slice H.Base.Haz.a H.Base.Haz.len H.Base.Haz.cap, .slice H.Cells.a H.Cells.len H.Cells.cap, .slice H.Jobs.a H.Jobs.len H.Jobs.cap, .slice H.Todo.a H.Todo.len H.Todo.cap, .slice H.Log.a H.Log.len H.Log.cap, .int .i64 x.Serial] 69
      exact hbx
    have hB : Below w.heap.size w (w.alloc (.cells #[.slice H.Base.Mem.Heap.Bytes.a H.Base.Mem.Heap.Bytes.len H.Base.Mem.Heap.Bytes.cap, .slice H.Base.Mem.Heap.Class.a H.Base.Mem.Heap.Class.len H.Base.Mem.Heap.Class.cap, .slice H.Base.Mem.Lists.Global.a H.Base.Mem.Lists.Global.len H.Base.Mem.Lists.Global.cap, .slice H.Base.Mem.Lists.Own.a H.Base.Mem.Lists.Own.len H.Base.Mem.Lists.Own.cap, .int .i64 x.Base.Clock.Epoch, .slice H.Base.Clock.Pins.a H.Base.Clock.Pins.len H.Base.Clock.Pins.cap, .slice H.Base.Limbo.a H.Base.Limbo.len H.Base.Limbo.cap, .slice H.Base.Haz.a H.Base.Haz.len H.Base.Haz.cap, .slice H.Cells.a H.Cells.len H.Cells.cap, .slice H.Jobs.a H.Jobs.len H.Jobs.cap, .slice H.Todo.a H.Todo.len H.Todo.cap, .slice H.Log.a H.Log.len H.Log.cap, .int .i64 x.Serial] 69)) := by repeat (first | exact Below.refl _ _ | refine Below.alloc ?_ (by simp <;> omega) _ | refine below_grow_of ?_ (by simp <;> omega) _ _ | refine Below.drew ?_ | refine below_drewN ?_ _)
    go_enter Tryz.func43, Tryz.ntmps43
    go_wp2_with fail
    generalize hW0 : (w.alloc (.cells #[.slice H.Base.Mem.Heap.Bytes.a H.Base.Mem.Heap.Bytes.len H.Base.Mem.Heap.Bytes.cap, .slice H.Base.Mem.Heap.Class.a H.Base.Mem.Heap.Class.len H.Base.Mem.Heap.Class.cap, .slice H.Base.Mem.Lists.Global.a H.Base.Mem.Lists.Global.len H.Base.Mem.Lists.Global.cap, .slice H.Base.Mem.Lists.Own.a H.Base.Mem.Lists.Own.len H.Base.Mem.Lists.Own.cap, .int .i64 x.Base.Clock.Epoch, .slice H.Base.Clock.Pins.a H.Base.Clock.Pins.len H.Base.Clock.Pins.cap, .slice H.Base.Limbo.a H.Base.Limbo.len H.Base.Limbo.cap, .slice H.Base.Haz.a H.Base.Haz.len H.Base.Haz.cap, .slice H.Cells.a H.Cells.len H.Cells.cap, .slice H.Jobs.a H.Jobs.len H.Jobs.cap, .slice H.Todo.a H.Todo.len H.Todo.cap, .slice H.Log.a H.Log.len H.Log.cap, .int .i64 x.Serial] 69)) = w0 at B_a hB ⊢
    clear hW0
    have zz_a := B_a.lt
    have q_a_0 := B_a.cell 0 _ rfl
    have q_a_1 := B_a.cell 1 _ rfl
    have q_a_2 := B_a.cell 2 _ rfl
    have q_a_3 := B_a.cell 3 _ rfl
    have q_a_4 := B_a.cell 4 _ rfl
    have q_a_5 := B_a.cell 5 _ rfl
    have q_a_6 := B_a.cell 6 _ rfl
    have q_a_7 := B_a.cell 7 _ rfl
    have q_a_8 := B_a.cell 8 _ rfl
    have q_a_9 := B_a.cell 9 _ rfl
    have q_a_10 := B_a.cell 10 _ rfl
    have q_a_11 := B_a.cell 11 _ rfl
    have q_a_12 := B_a.cell 12 _ rfl
    have fr_a := B_a.fro
    have z_a := B_a.lt
    refine (k0 _ hB).mono ?_
    rintro e w1 ⟨rfl, hb⟩
    replace B_a := B_a.below hb
    replace hB := hB.trans (hb.mono hB.size)
    have sz := hb.size
    clear hb
    replace q_a_0 := B_a.cell 0 _ rfl
    replace q_a_1 := B_a.cell 1 _ rfl
    replace q_a_2 := B_a.cell 2 _ rfl
    replace q_a_3 := B_a.cell 3 _ rfl
    replace q_a_4 := B_a.cell 4 _ rfl
    replace q_a_5 := B_a.cell 5 _ rfl
    replace q_a_6 := B_a.cell 6 _ rfl
    replace q_a_7 := B_a.cell 7 _ rfl
    replace q_a_8 := B_a.cell 8 _ rfl
    replace q_a_9 := B_a.cell 9 _ rfl
    replace q_a_10 := B_a.cell 10 _ rfl
    replace q_a_11 := B_a.cell 11 _ rfl
    replace q_a_12 := B_a.cell 12 _ rfl
    replace fr_a := B_a.fro
    replace z_a := B_a.lt
    clear k0
    go_wp2_with fail
    refine (k3 _ hB).mono ?_
    rintro e w2 ⟨rfl, hb⟩
    replace B_a := B_a.below hb
    replace hB := hB.trans (hb.mono hB.size)
    have sz := hb.size
    clear hb
    replace q_a_0 := B_a.cell 0 _ rfl
    replace q_a_1 := B_a.cell 1 _ rfl
    replace q_a_2 := B_a.cell 2 _ rfl
    replace q_a_3 := B_a.cell 3 _ rfl
    replace q_a_4 := B_a.cell 4 _ rfl
    replace q_a_5 := B_a.cell 5 _ rfl
    replace q_a_6 := B_a.cell 6 _ rfl
    replace q_a_7 := B_a.cell 7 _ rfl
    replace q_a_8 := B_a.cell 8 _ rfl
    replace q_a_9 := B_a.cell 9 _ rfl
    replace q_a_10 := B_a.cell 10 _ rfl
    replace q_a_11 := B_a.cell 11 _ rfl
    replace q_a_12 := B_a.cell 12 _ rfl
    replace fr_a := B_a.fro
    replace z_a := B_a.lt
    clear k3
    go_wp2_with fail
    go_ret
    exact ⟨ret_bool HV.out.symm, hB⟩
  | true =>
  cases c4 with
  | false =>
    replace HV : Hid (shelfOkB x = false) := Hid.mk_ (HV.out.trans (by simp))
    have B_a : Box (w.alloc (.cells #[.slice H.Base.Mem.Heap.Bytes.a H.Base.Mem.Heap.Bytes.len H.Base.Mem.Heap.Bytes.cap, .slice H.Base.Mem.Heap.Class.a H.Base.Mem.Heap.Class.len H.Base.Mem.Heap.Class.cap, .slice H.Base.Mem.Lists.Global.a H.Base.Mem.Lists.Global.len H.Base.Mem.Lists.Global.cap, .slice H.Base.Mem.Lists.Own.a H.Base.Mem.Lists.Own.len H.Base.Mem.Lists.Own.cap, .int .i64 x.Base.Clock.Epoch, .slice H.Base.Clock.Pins.a H.Base.Clock.Pins.len H.Base.Clock.Pins.cap, .slice H.Base.Limbo.a H.Base.Limbo.len H.Base.Limbo.cap, .slice H.Base.Haz.a H.Base.Haz.len H.Base.Haz.cap, .slice H.Cells.a H.Cells.len H.Cells.cap, .slice H.Jobs.a H.Jobs.len H.Jobs.cap, .slice H.Todo.a H.Todo.len H.Todo.cap, .slice H.Log.a H.Log.len H.Log.cap, .int .i64 x.Serial] 69)) (w.heap.size) [.slice H.Base.Mem.Heap.Bytes.a H.Base.Mem.Heap.Bytes.len H.Base.Mem.Heap.Bytes.cap, .slice H.Base.Mem.Heap.Class.a H.Base.Mem.Heap.Class.len H.Base.Mem.Heap.Class.cap, .slice H.Base.Mem.Lists.Global.a H.Base.Mem.Lists.Global.len H.Base.Mem.Lists.Global.cap, .slice H.Base.Mem.Lists.Own.a H.Base.Mem.Lists.Own.len H.Base.Mem.Lists.Own.cap, .int .i64 x.Base.Clock.Epoch, .slice H.Base.Clock.Pins.a H.Base.Clock.Pins.len H.Base.Clock.Pins.cap, .slice H.Base.Limbo.a H.Base.Limbo.len H.Base.Limbo.cap, .slice H.Base.Haz.a H.Base.Haz.len H.Base.Haz.cap, .slice H.Cells.a H.Cells.len H.Cells.cap, .slice H.Jobs.a H.Jobs.len H.Jobs.cap, .slice H.Todo.a H.Todo.len H.Todo.cap, .slice H.Log.a H.Log.len H.Log.cap, .int .i64 x.Serial] := by
      have hbx := Box.new w #[.slice H.Base.Mem.Heap.Bytes.a H.Base.Mem.Heap.Bytes.len H.Base.Mem.Heap.Bytes.cap, .slice H.Base.Mem.Heap.Class.a H.Base.Mem.Heap.Class.len H.Base.Mem.Heap.Class.cap, .slice H.Base.Mem.Lists.Global.a H.Base.Mem.Lists.Global.len H.Base.Mem.Lists.Global.cap, .slice H.Base.Mem.Lists.Own.a H.Base.Mem.Lists.Own.len H.Base.Mem.Lists.Own.cap, .int .i64 x.Base.Clock.Epoch, .slice H.Base.Clock.Pins.a H.Base.Clock.Pins.len H.Base.Clock.Pins.cap, .slice H.Base.Limbo.a H.Base.Limbo.len H.Base.Limbo.cap, .slice H.Base.Haz.a H.Base.Haz.len H.Base.Haz.cap, .slice H.Cells.a H.Cells.len H.Cells.cap, .slice H.Jobs.a H.Jobs.len H.Jobs.cap, .slice H.Todo.a H.Todo.len H.Todo.cap, .slice H.Log.a H.Log.len H.Log.cap, .int .i64 x.Serial] 69
      exact hbx
    have hB : Below w.heap.size w (w.alloc (.cells #[.slice H.Base.Mem.Heap.Bytes.a H.Base.Mem.Heap.Bytes.len H.Base.Mem.Heap.Bytes.cap, .slice H.Base.Mem.Heap.Class.a H.Base.Mem.Heap.Class.len H.Base.Mem.Heap.Class.cap, .slice H.Base.Mem.Lists.Global.a H.Base.Mem.Lists.Global.len H.Base.Mem.Lists.Global.cap, .slice H.Base.Mem.Lists.Own.a H.Base.Mem.Lists.Own.len H.Base.Mem.Lists.Own.cap, .int .i64 x.Base.Clock.Epoch, .slice H.Base.Clock.Pins.a H.Base.Clock.Pins.len H.Base.Clock.Pins.cap, .slice H.Base.Limbo.a H.Base.Limbo.len H.Base.Limbo.cap, .slice H.Base.Haz.a H.Base.Haz.len H.Base.Haz.cap, .slice H.Cells.a H.Cells.len H.Cells.cap, .slice H.Jobs.a H.Jobs.len H.Jobs.cap, .slice H.Todo.a H.Todo.len H.Todo.cap, .slice H.Log.a H.Log.len H.Log.cap, .int .i64 x.Serial] 69)) := by repeat (first | exact Below.refl _ _ | refine Below.alloc ?_ (by simp <;> omega) _ | refine below_grow_of ?_ (by simp <;> omega) _ _ | refine Below.drew ?_ | refine below_drewN ?_ _)
    go_enter Tryz.func43, Tryz.ntmps43
    go_wp2_with fail
    generalize hW0 : (w.alloc (.cells #[.slice H.Base.Mem.Heap.Bytes.a H.Base.Mem.Heap.Bytes.len H.Base.Mem.Heap.Bytes.cap, .slice H.Base.Mem.Heap.Class.a H.Base.Mem.Heap.Class.len H.Base.Mem.Heap.Class.cap, .slice H.Base.Mem.Lists.Global.a H.Base.Mem.Lists.Global.len H.Base.Mem.Lists.Global.cap, .slice H.Base.Mem.Lists.Own.a H.Base.Mem.Lists.Own.len H.Base.Mem.Lists.Own.cap, .int .i64 x.Base.Clock.Epoch, .slice H.Base.Clock.Pins.a H.Base.Clock.Pins.len H.Base.Clock.Pins.cap, .slice H.Base.Limbo.a H.Base.Limbo.len H.Base.Limbo.cap, .slice H.Base.Haz.a H.Base.Haz.len H.Base.Haz.cap, .slice H.Cells.a H.Cells.len H.Cells.cap, .slice H.Jobs.a H.Jobs.len H.Jobs.cap, .slice H.Todo.a H.Todo.len H.Todo.cap, .slice H.Log.a H.Log.len H.Log.cap, .int .i64 x.Serial] 69)) = w0 at B_a hB ⊢
    clear hW0
    have zz_a := B_a.lt
    have q_a_0 := B_a.cell 0 _ rfl
    have q_a_1 := B_a.cell 1 _ rfl
    have q_a_2 := B_a.cell 2 _ rfl
    have q_a_3 := B_a.cell 3 _ rfl
    have q_a_4 := B_a.cell 4 _ rfl
    have q_a_5 := B_a.cell 5 _ rfl
    have q_a_6 := B_a.cell 6 _ rfl
    have q_a_7 := B_a.cell 7 _ rfl
    have q_a_8 := B_a.cell 8 _ rfl
    have q_a_9 := B_a.cell 9 _ rfl
    have q_a_10 := B_a.cell 10 _ rfl
    have q_a_11 := B_a.cell 11 _ rfl
    have q_a_12 := B_a.cell 12 _ rfl
    have fr_a := B_a.fro
    have z_a := B_a.lt
    refine (k0 _ hB).mono ?_
    rintro e w1 ⟨rfl, hb⟩
    replace B_a := B_a.below hb
    replace hB := hB.trans (hb.mono hB.size)
    have sz := hb.size
    clear hb
    replace q_a_0 := B_a.cell 0 _ rfl
    replace q_a_1 := B_a.cell 1 _ rfl
    replace q_a_2 := B_a.cell 2 _ rfl
    replace q_a_3 := B_a.cell 3 _ rfl
    replace q_a_4 := B_a.cell 4 _ rfl
    replace q_a_5 := B_a.cell 5 _ rfl
    replace q_a_6 := B_a.cell 6 _ rfl
    replace q_a_7 := B_a.cell 7 _ rfl
    replace q_a_8 := B_a.cell 8 _ rfl
    replace q_a_9 := B_a.cell 9 _ rfl
    replace q_a_10 := B_a.cell 10 _ rfl
    replace q_a_11 := B_a.cell 11 _ rfl
    replace q_a_12 := B_a.cell 12 _ rfl
    replace fr_a := B_a.fro
    replace z_a := B_a.lt
    clear k0
    go_wp2_with fail
    refine (k3 _ hB).mono ?_
    rintro e w2 ⟨rfl, hb⟩
    replace B_a := B_a.below hb
    replace hB := hB.trans (hb.mono hB.size)
    have sz := hb.size
    clear hb
    replace q_a_0 := B_a.cell 0 _ rfl
    replace q_a_1 := B_a.cell 1 _ rfl
    replace q_a_2 := B_a.cell 2 _ rfl
    replace q_a_3 := B_a.cell 3 _ rfl
    replace q_a_4 := B_a.cell 4 _ rfl
    replace q_a_5 := B_a.cell 5 _ rfl
    replace q_a_6 := B_a.cell 6 _ rfl
    replace q_a_7 := B_a.cell 7 _ rfl
    replace q_a_8 := B_a.cell 8 _ rfl
    replace q_a_9 := B_a.cell 9 _ rfl
    replace q_a_10 := B_a.cell 10 _ rfl
    replace q_a_11 := B_a.cell 11 _ rfl
    replace q_a_12 := B_a.cell 12 _ rfl
    replace fr_a := B_a.fro
    replace z_a := B_a.lt
    clear k3
    go_wp2_with fail
    refine (k4 _ hB).mono ?_
    rintro e w3 ⟨rfl, hb⟩
    replace B_a := B_a.below hb
    replace hB := hB.trans (hb.mono hB.size)
    have sz := hb.size
    clear hb
    replace q_a_0 := B_a.cell 0 _ rfl
    replace q_a_1 := B_a.cell 1 _ rfl
    replace q_a_2 := B_a.cell 2 _ rfl
    replace q_a_3 := B_a.cell 3 _ rfl
    replace q_a_4 := B_a.cell 4 _ rfl
    replace q_a_5 := B_a.cell 5 _ rfl
    replace q_a_6 := B_a.cell 6 _ rfl
    replace q_a_7 := B_a.cell 7 _ rfl
    replace q_a_8 := B_a.cell 8 _ rfl
    replace q_a_9 := B_a.cell 9 _ rfl
    replace q_a_10 := B_a.cell 10 _ rfl
    replace q_a_11 := B_a.cell 11 _ rfl
    replace q_a_12 := B_a.cell 12 _ rfl
    replace fr_a := B_a.fro
    replace z_a := B_a.lt
    clear k4
    go_wp2_with fail
    go_ret
    exact ⟨ret_bool HV.out.symm, hB⟩
  | true =>
  cases c5 with
  | true =>
    replace HV : Hid (shelfOkB x = false) := Hid.mk_ (HV.out.trans (by simp))
    have B_a : Box (w.alloc (.cells #[.slice H.Base.Mem.Heap.Bytes.a H.Base.Mem.Heap.Bytes.len H.Base.Mem.Heap.Bytes.cap, .slice H.Base.Mem.Heap.Class.a H.Base.Mem.Heap.Class.len H.Base.Mem.Heap.Class.cap, .slice H.Base.Mem.Lists.Global.a H.Base.Mem.Lists.Global.len H.Base.Mem.Lists.Global.cap, .slice H.Base.Mem.Lists.Own.a H.Base.Mem.Lists.Own.len H.Base.Mem.Lists.Own.cap, .int .i64 x.Base.Clock.Epoch, .slice H.Base.Clock.Pins.a H.Base.Clock.Pins.len H.Base.Clock.Pins.cap, .slice H.Base.Limbo.a H.Base.Limbo.len H.Base.Limbo.cap, .slice H.Base.Haz.a H.Base.Haz.len H.Base.Haz.cap, .slice H.Cells.a H.Cells.len H.Cells.cap, .slice H.Jobs.a H.Jobs.len H.Jobs.cap, .slice H.Todo.a H.Todo.len H.Todo.cap, .slice H.Log.a H.Log.len H.Log.cap, .int .i64 x.Serial] 69)) (w.heap.size) [.slice H.Base.Mem.Heap.Bytes.a H.Base.Mem.Heap.Bytes.len H.Base.Mem.Heap.Bytes.cap, .slice H.Base.Mem.Heap.Class.a H.Base.Mem.Heap.Class.len H.Base.Mem.Heap.Class.cap, .slice H.Base.Mem.Lists.Global.a H.Base.Mem.Lists.Global.len H.Base.Mem.Lists.Global.cap, .slice H.Base.Mem.Lists.Own.a H.Base.Mem.Lists.Own.len H.Base.Mem.Lists.Own.cap, .int .i64 x.Base.Clock.Epoch, .slice H.Base.Clock.Pins.a H.Base.Clock.Pins.len H.Base.Clock.Pins.cap, .slice H.Base.Limbo.a H.Base.Limbo.len H.Base.Limbo.cap, .slice H.Base.Haz.a H.Base.Haz.len H.Base.Haz.cap, .slice H.Cells.a H.Cells.len H.Cells.cap, .slice H.Jobs.a H.Jobs.len H.Jobs.cap, .slice H.Todo.a H.Todo.len H.Todo.cap, .slice H.Log.a H.Log.len H.Log.cap, .int .i64 x.Serial] := by
      have hbx := Box.new w #[.slice H.Base.Mem.Heap.Bytes.a H.Base.Mem.Heap.Bytes.len H.Base.Mem.Heap.Bytes.cap, .slice H.Base.Mem.Heap.Class.a H.Base.Mem.Heap.Class.len H.Base.Mem.Heap.Class.cap, .slice H.Base.Mem.Lists.Global.a H.Base.Mem.Lists.Global.len H.Base.Mem.Lists.Global.cap, .slice H.Base.Mem.Lists.Own.a H.Base.Mem.Lists.Own.len H.Base.Mem.Lists.Own.cap, .int .i64 x.Base.Clock.Epoch, .slice H.Base.Clock.Pins.a H.Base.Clock.Pins.len H.Base.Clock.Pins.cap, .slice H.Base.Limbo.a H.Base.Limbo.len H.Base.Limbo.cap, .slice H.Base.Haz.a H.Base.Haz.len H.Base.Haz.cap, .slice H.Cells.a H.Cells.len H.Cells.cap, .slice H.Jobs.a H.Jobs.len H.Jobs.cap, .slice H.Todo.a H.Todo.len H.Todo.cap, .slice H.Log.a H.Log.len H.Log.cap, .int .i64 x.Serial] 69
      exact hbx
    have hB : Below w.heap.size w (w.alloc (.cells #[.slice H.Base.Mem.Heap.Bytes.a H.Base.Mem.Heap.Bytes.len H.Base.Mem.Heap.Bytes.cap, .slice H.Base.Mem.Heap.Class.a H.Base.Mem.Heap.Class.len H.Base.Mem.Heap.Class.cap, .slice H.Base.Mem.Lists.Global.a H.Base.Mem.Lists.Global.len H.Base.Mem.Lists.Global.cap, .slice H.Base.Mem.Lists.Own.a H.Base.Mem.Lists.Own.len H.Base.Mem.Lists.Own.cap, .int .i64 x.Base.Clock.Epoch, .slice H.Base.Clock.Pins.a H.Base.Clock.Pins.len H.Base.Clock.Pins.cap, .slice H.Base.Limbo.a H.Base.Limbo.len H.Base.Limbo.cap, .slice H.Base.Haz.a H.Base.Haz.len H.Base.Haz.cap, .slice H.Cells.a H.Cells.len H.Cells.cap, .slice H.Jobs.a H.Jobs.len H.Jobs.cap, .slice H.Todo.a H.Todo.len H.Todo.cap, .slice H.Log.a H.Log.len H.Log.cap, .int .i64 x.Serial] 69)) := by repeat (first | exact Below.refl _ _ | refine Below.alloc ?_ (by simp <;> omega) _ | refine below_grow_of ?_ (by simp <;> omega) _ _ | refine Below.drew ?_ | refine below_drewN ?_ _)
    go_enter Tryz.func43, Tryz.ntmps43
    go_wp2_with fail
    generalize hW0 : (w.alloc (.cells #[.slice H.Base.Mem.Heap.Bytes.a H.Base.Mem.Heap.Bytes.len H.Base.Mem.Heap.Bytes.cap, .slice H.Base.Mem.Heap.Class.a H.Base.Mem.Heap.Class.len H.Base.Mem.Heap.Class.cap, .slice H.Base.Mem.Lists.Global.a H.Base.Mem.Lists.Global.len H.Base.Mem.Lists.Global.cap, .slice H.Base.Mem.Lists.Own.a H.Base.Mem.Lists.Own.len H.Base.Mem.Lists.Own.cap, .int .i64 x.Base.Clock.Epoch, .slice H.Base.Clock.Pins.a H.Base.Clock.Pins.len H.Base.Clock.Pins.cap, .slice H.Base.Limbo.a H.Base.Limbo.len H.Base.Limbo.cap, .slice H.Base.Haz.a H.Base.Haz.len H.Base.Haz.cap, .slice H.Cells.a H.Cells.len H.Cells.cap, .slice H.Jobs.a H.Jobs.len H.Jobs.cap, .slice H.Todo.a H.Todo.len H.Todo.cap, .slice H.Log.a H.Log.len H.Log.cap, .int .i64 x.Serial] 69)) = w0 at B_a hB ⊢
    clear hW0
    have zz_a := B_a.lt
    have q_a_0 := B_a.cell 0 _ rfl
    have q_a_1 := B_a.cell 1 _ rfl
    have q_a_2 := B_a.cell 2 _ rfl
    have q_a_3 := B_a.cell 3 _ rfl
    have q_a_4 := B_a.cell 4 _ rfl
    have q_a_5 := B_a.cell 5 _ rfl
    have q_a_6 := B_a.cell 6 _ rfl
    have q_a_7 := B_a.cell 7 _ rfl
    have q_a_8 := B_a.cell 8 _ rfl
    have q_a_9 := B_a.cell 9 _ rfl
    have q_a_10 := B_a.cell 10 _ rfl
    have q_a_11 := B_a.cell 11 _ rfl
    have q_a_12 := B_a.cell 12 _ rfl
    have fr_a := B_a.fro
    have z_a := B_a.lt
    refine (k0 _ hB).mono ?_
    rintro e w1 ⟨rfl, hb⟩
    replace B_a := B_a.below hb
    replace hB := hB.trans (hb.mono hB.size)
    have sz := hb.size
    clear hb
    replace q_a_0 := B_a.cell 0 _ rfl
    replace q_a_1 := B_a.cell 1 _ rfl
    replace q_a_2 := B_a.cell 2 _ rfl
    replace q_a_3 := B_a.cell 3 _ rfl
    replace q_a_4 := B_a.cell 4 _ rfl
    replace q_a_5 := B_a.cell 5 _ rfl
    replace q_a_6 := B_a.cell 6 _ rfl
    replace q_a_7 := B_a.cell 7 _ rfl
    replace q_a_8 := B_a.cell 8 _ rfl
    replace q_a_9 := B_a.cell 9 _ rfl
    replace q_a_10 := B_a.cell 10 _ rfl
    replace q_a_11 := B_a.cell 11 _ rfl
    replace q_a_12 := B_a.cell 12 _ rfl
    replace fr_a := B_a.fro
    replace z_a := B_a.lt
    clear k0
    go_wp2_with fail
    refine (k3 _ hB).mono ?_
    rintro e w2 ⟨rfl, hb⟩
    replace B_a := B_a.below hb
    replace hB := hB.trans (hb.mono hB.size)
    have sz := hb.size
    clear hb
    replace q_a_0 := B_a.cell 0 _ rfl
    replace q_a_1 := B_a.cell 1 _ rfl
    replace q_a_2 := B_a.cell 2 _ rfl
    replace q_a_3 := B_a.cell 3 _ rfl
    replace q_a_4 := B_a.cell 4 _ rfl
    replace q_a_5 := B_a.cell 5 _ rfl
    replace q_a_6 := B_a.cell 6 _ rfl
    replace q_a_7 := B_a.cell 7 _ rfl
    replace q_a_8 := B_a.cell 8 _ rfl
    replace q_a_9 := B_a.cell 9 _ rfl
    replace q_a_10 := B_a.cell 10 _ rfl
    replace q_a_11 := B_a.cell 11 _ rfl
    replace q_a_12 := B_a.cell 12 _ rfl
    replace fr_a := B_a.fro
    replace z_a := B_a.lt
    clear k3
    go_wp2_with fail
    refine (k4 _ hB).mono ?_
    rintro e w3 ⟨rfl, hb⟩
    replace B_a := B_a.below hb
    replace hB := hB.trans (hb.mono hB.size)
    have sz := hb.size
    clear hb
    replace q_a_0 := B_a.cell 0 _ rfl
    replace q_a_1 := B_a.cell 1 _ rfl
    replace q_a_2 := B_a.cell 2 _ rfl
    replace q_a_3 := B_a.cell 3 _ rfl
    replace q_a_4 := B_a.cell 4 _ rfl
    replace q_a_5 := B_a.cell 5 _ rfl
    replace q_a_6 := B_a.cell 6 _ rfl
    replace q_a_7 := B_a.cell 7 _ rfl
    replace q_a_8 := B_a.cell 8 _ rfl
    replace q_a_9 := B_a.cell 9 _ rfl
    replace q_a_10 := B_a.cell 10 _ rfl
    replace q_a_11 := B_a.cell 11 _ rfl
    replace q_a_12 := B_a.cell 12 _ rfl
    replace fr_a := B_a.fro
    replace z_a := B_a.lt
    clear k4
    go_wp2_with fail
    refine (k5 _ hB).mono ?_
    rintro e w4 ⟨rfl, hb⟩
    replace B_a := B_a.below hb
    replace hB := hB.trans (hb.mono hB.size)
    have sz := hb.size
    clear hb
    replace q_a_0 := B_a.cell 0 _ rfl
    replace q_a_1 := B_a.cell 1 _ rfl
    replace q_a_2 := B_a.cell 2 _ rfl
    replace q_a_3 := B_a.cell 3 _ rfl
    replace q_a_4 := B_a.cell 4 _ rfl
    replace q_a_5 := B_a.cell 5 _ rfl
    replace q_a_6 := B_a.cell 6 _ rfl
    replace q_a_7 := B_a.cell 7 _ rfl
    replace q_a_8 := B_a.cell 8 _ rfl
    replace q_a_9 := B_a.cell 9 _ rfl
    replace q_a_10 := B_a.cell 10 _ rfl
    replace q_a_11 := B_a.cell 11 _ rfl
    replace q_a_12 := B_a.cell 12 _ rfl
    replace fr_a := B_a.fro
    replace z_a := B_a.lt
    clear k5
    go_wp2_with fail
    go_ret
    exact ⟨ret_bool HV.out.symm, hB⟩
  | false =>
  cases c6 with
  | true =>
    replace HV : Hid (shelfOkB x = false) := Hid.mk_ (HV.out.trans (by simp))
    have B_a : Box (w.alloc (.cells #[.slice H.Base.Mem.Heap.Bytes.a H.Base.Mem.Heap.Bytes.len H.Base.Mem.Heap.Bytes.cap, .slice H.Base.Mem.Heap.Class.a H.Base.Mem.Heap.Class.len H.Base.Mem.Heap.Class.cap, .slice H.Base.Mem.Lists.Global.a H.Base.Mem.Lists.Global.len H.Base.Mem.Lists.Global.cap, .slice H.Base.Mem.Lists.Own.a H.Base.Mem.Lists.Own.len H.Base.Mem.Lists.Own.cap, .int .i64 x.Base.Clock.Epoch, .slice H.Base.Clock.Pins.a H.Base.Clock.Pins.len H.Base.Clock.Pins.cap, .slice H.Base.Limbo.a H.Base.Limbo.len H.Base.Limbo.cap, .slice H.Base.Haz.a H.Base.Haz.len H.Base.Haz.cap, .slice H.Cells.a H.Cells.len H.Cells.cap, .slice H.Jobs.a H.Jobs.len H.Jobs.cap, .slice H.Todo.a H.Todo.len H.Todo.cap, .slice H.Log.a H.Log.len H.Log.cap, .int .i64 x.Serial] 69)) (w.heap.size) [.slice H.Base.Mem.Heap.Bytes.a H.Base.Mem.Heap.Bytes.len H.Base.Mem.Heap.Bytes.cap, .slice H.Base.Mem.Heap.Class.a H.Base.Mem.Heap.Class.len H.Base.Mem.Heap.Class.cap, .slice H.Base.Mem.Lists.Global.a H.Base.Mem.Lists.Global.len H.Base.Mem.Lists.Global.cap, .slice H.Base.Mem.Lists.Own.a H.Base.Mem.Lists.Own.len H.Base.Mem.Lists.Own.cap, .int .i64 x.Base.Clock.Epoch, .slice H.Base.Clock.Pins.a H.Base.Clock.Pins.len H.Base.Clock.Pins.cap, .slice H.Base.Limbo.a H.Base.Limbo.len H.Base.Limbo.cap, .slice H.Base.Haz.a H.Base.Haz.len H.Base.Haz.cap, .slice H.Cells.a H.Cells.len H.Cells.cap, .slice H.Jobs.a H.Jobs.len H.Jobs.cap, .slice H.Todo.a H.Todo.len H.Todo.cap, .slice H.Log.a H.Log.len H.Log.cap, .int .i64 x.Serial] := by
      have hbx := Box.new w #[.slice H.Base.Mem.Heap.Bytes.a H.Base.Mem.Heap.Bytes.len H.Base.Mem.Heap.Bytes.cap, .slice H.Base.Mem.Heap.Class.a H.Base.Mem.Heap.Class.len H.Base.Mem.Heap.Class.cap, .slice H.Base.Mem.Lists.Global.a H.Base.Mem.Lists.Global.len H.Base.Mem.Lists.Global.cap, .slice H.Base.Mem.Lists.Own.a H.Base.Mem.Lists.Own.len H.Base.Mem.Lists.Own.cap, .int .i64 x.Base.Clock.Epoch, .slice H.Base.Clock.Pins.a H.Base.Clock.Pins.len H.Base.Clock.Pins.cap, .slice H.Base.Limbo.a H.Base.Limbo.len H.Base.Limbo.cap, .slice H.Base.Haz.a H.Base.Haz.len H.Base.Haz.cap, .slice H.Cells.a H.Cells.len H.Cells.cap, .slice H.Jobs.a H.Jobs.len H.Jobs.cap, .slice H.Todo.a H.Todo.len H.Todo.cap, .slice H.Log.a H.Log.len H.Log.cap, .int .i64 x.Serial] 69
      exact hbx
    have hB : Below w.heap.size w (w.alloc (.cells #[.slice H.Base.Mem.Heap.Bytes.a H.Base.Mem.Heap.Bytes.len H.Base.Mem.Heap.Bytes.cap, .slice H.Base.Mem.Heap.Class.a H.Base.Mem.Heap.Class.len H.Base.Mem.Heap.Class.cap, .slice H.Base.Mem.Lists.Global.a H.Base.Mem.Lists.Global.len H.Base.Mem.Lists.Global.cap, .slice H.Base.Mem.Lists.Own.a H.Base.Mem.Lists.Own.len H.Base.Mem.Lists.Own.cap, .int .i64 x.Base.Clock.Epoch, .slice H.Base.Clock.Pins.a H.Base.Clock.Pins.len H.Base.Clock.Pins.cap, .slice H.Base.Limbo.a H.Base.Limbo.len H.Base.Limbo.cap, .slice H.Base.Haz.a H.Base.Haz.len H.Base.Haz.cap, .slice H.Cells.a H.Cells.len H.Cells.cap, .slice H.Jobs.a H.Jobs.len H.Jobs.cap, .slice H.Todo.a H.Todo.len H.Todo.cap, .slice H.Log.a H.Log.len H.Log.cap, .int .i64 x.Serial] 69)) := by repeat (first | exact Below.refl _ _ | refine Below.alloc ?_ (by simp <;> omega) _ | refine below_grow_of ?_ (by simp <;> omega) _ _ | refine Below.drew ?_ | refine below_drewN ?_ _)
    go_enter Tryz.func43, Tryz.ntmps43
    go_wp2_with fail
    generalize hW0 : (w.alloc (.cells #[.slice H.Base.Mem.Heap.Bytes.a H.Base.Mem.Heap.Bytes.len H.Base.Mem.Heap.Bytes.cap, .slice H.Base.Mem.Heap.Class.a H.Base.Mem.Heap.Class.len H.Base.Mem.Heap.Class.cap, .slice H.Base.Mem.Lists.Global.a H.Base.Mem.Lists.Global.len H.Base.Mem.Lists.Global.cap, .slice H.Base.Mem.Lists.Own.a H.Base.Mem.Lists.Own.len H.Base.Mem.Lists.Own.cap, .int .i64 x.Base.Clock.Epoch, .slice H.Base.Clock.Pins.a H.Base.Clock.Pins.len H.Base.Clock.Pins.cap, .slice H.Base.Limbo.a H.Base.Limbo.len H.Base.Limbo.cap, .slice H.Base.Haz.a H.Base.Haz.len H.Base.Haz.cap, .slice H.Cells.a H.Cells.len H.Cells.cap, .slice H.Jobs.a H.Jobs.len H.Jobs.cap, .slice H.Todo.a H.Todo.len H.Todo.cap, .slice H.Log.a H.Log.len H.Log.cap, .int .i64 x.Serial] 69)) = w0 at B_a hB ⊢
    clear hW0
    have zz_a := B_a.lt
    have q_a_0 := B_a.cell 0 _ rfl
    have q_a_1 := B_a.cell 1 _ rfl
    have q_a_2 := B_a.cell 2 _ rfl
    have q_a_3 := B_a.cell 3 _ rfl
    have q_a_4 := B_a.cell 4 _ rfl
    have q_a_5 := B_a.cell 5 _ rfl
    have q_a_6 := B_a.cell 6 _ rfl
    have q_a_7 := B_a.cell 7 _ rfl
    have q_a_8 := B_a.cell 8 _ rfl
    have q_a_9 := B_a.cell 9 _ rfl
    have q_a_10 := B_a.cell 10 _ rfl
    have q_a_11 := B_a.cell 11 _ rfl
    have q_a_12 := B_a.cell 12 _ rfl
    have fr_a := B_a.fro
    have z_a := B_a.lt
    refine (k0 _ hB).mono ?_
    rintro e w1 ⟨rfl, hb⟩
    replace B_a := B_a.below hb
    replace hB := hB.trans (hb.mono hB.size)
    have sz := hb.size
    clear hb
    replace q_a_0 := B_a.cell 0 _ rfl
    replace q_a_1 := B_a.cell 1 _ rfl
    replace q_a_2 := B_a.cell 2 _ rfl
    replace q_a_3 := B_a.cell 3 _ rfl
    replace q_a_4 := B_a.cell 4 _ rfl
    replace q_a_5 := B_a.cell 5 _ rfl
    replace q_a_6 := B_a.cell 6 _ rfl
    replace q_a_7 := B_a.cell 7 _ rfl
    replace q_a_8 := B_a.cell 8 _ rfl
    replace q_a_9 := B_a.cell 9 _ rfl
    replace q_a_10 := B_a.cell 10 _ rfl
    replace q_a_11 := B_a.cell 11 _ rfl
    replace q_a_12 := B_a.cell 12 _ rfl
    replace fr_a := B_a.fro
    replace z_a := B_a.lt
    clear k0
    go_wp2_with fail
    refine (k3 _ hB).mono ?_
    rintro e w2 ⟨rfl, hb⟩
    replace B_a := B_a.below hb
    replace hB := hB.trans (hb.mono hB.size)
    have sz := hb.size
    clear hb
    replace q_a_0 := B_a.cell 0 _ rfl
    replace q_a_1 := B_a.cell 1 _ rfl
    replace q_a_2 := B_a.cell 2 _ rfl
    replace q_a_3 := B_a.cell 3 _ rfl
    replace q_a_4 := B_a.cell 4 _ rfl
    replace q_a_5 := B_a.cell 5 _ rfl
    replace q_a_6 := B_a.cell 6 _ rfl
    replace q_a_7 := B_a.cell 7 _ rfl
    replace q_a_8 := B_a.cell 8 _ rfl
    replace q_a_9 := B_a.cell 9 _ rfl
    replace q_a_10 := B_a.cell 10 _ rfl
    replace q_a_11 := B_a.cell 11 _ rfl
    replace q_a_12 := B_a.cell 12 _ rfl
    replace fr_a := B_a.fro
    replace z_a := B_a.lt
    clear k3
    go_wp2_with fail
    refine (k4 _ hB).mono ?_
    rintro e w3 ⟨rfl, hb⟩
    replace B_a := B_a.below hb
    replace hB := hB.trans (hb.mono hB.size)
    have sz := hb.size
    clear hb
    replace q_a_0 := B_a.cell 0 _ rfl
    replace q_a_1 := B_a.cell 1 _ rfl
    replace q_a_2 := B_a.cell 2 _ rfl
    replace q_a_3 := B_a.cell 3 _ rfl
    replace q_a_4 := B_a.cell 4 _ rfl
    replace q_a_5 := B_a.cell 5 _ rfl
    replace q_a_6 := B_a.cell 6 _ rfl
    replace q_a_7 := B_a.cell 7 _ rfl
    replace q_a_8 := B_a.cell 8 _ rfl
    replace q_a_9 := B_a.cell 9 _ rfl
    replace q_a_10 := B_a.cell 10 _ rfl
    replace q_a_11 := B_a.cell 11 _ rfl
    replace q_a_12 := B_a.cell 12 _ rfl
    replace fr_a := B_a.fro
    replace z_a := B_a.lt
    clear k4
    go_wp2_with fail
    refine (k5 _ hB).mono ?_
    rintro e w4 ⟨rfl, hb⟩
    replace B_a := B_a.below hb
    replace hB := hB.trans (hb.mono hB.size)
    have sz := hb.size
    clear hb
    replace q_a_0 := B_a.cell 0 _ rfl
    replace q_a_1 := B_a.cell 1 _ rfl
    replace q_a_2 := B_a.cell 2 _ rfl
    replace q_a_3 := B_a.cell 3 _ rfl
    replace q_a_4 := B_a.cell 4 _ rfl
    replace q_a_5 := B_a.cell 5 _ rfl
    replace q_a_6 := B_a.cell 6 _ rfl
    replace q_a_7 := B_a.cell 7 _ rfl
    replace q_a_8 := B_a.cell 8 _ rfl
    replace q_a_9 := B_a.cell 9 _ rfl
    replace q_a_10 := B_a.cell 10 _ rfl
    replace q_a_11 := B_a.cell 11 _ rfl
    replace q_a_12 := B_a.cell 12 _ rfl
    replace fr_a := B_a.fro
    replace z_a := B_a.lt
    clear k5
    go_wp2_with fail
    refine (k6 _ hB).mono ?_
    rintro e w5 ⟨rfl, hb⟩
    replace B_a := B_a.below hb
    replace hB := hB.trans (hb.mono hB.size)
    have sz := hb.size
    clear hb
    replace q_a_0 := B_a.cell 0 _ rfl
    replace q_a_1 := B_a.cell 1 _ rfl
    replace q_a_2 := B_a.cell 2 _ rfl
    replace q_a_3 := B_a.cell 3 _ rfl
    replace q_a_4 := B_a.cell 4 _ rfl
    replace q_a_5 := B_a.cell 5 _ rfl
    replace q_a_6 := B_a.cell 6 _ rfl
    replace q_a_7 := B_a.cell 7 _ rfl
    replace q_a_8 := B_a.cell 8 _ rfl
    replace q_a_9 := B_a.cell 9 _ rfl
    replace q_a_10 := B_a.cell 10 _ rfl
    replace q_a_11 := B_a.cell 11 _ rfl
    replace q_a_12 := B_a.cell 12 _ rfl
    replace fr_a := B_a.fro
    replace z_a := B_a.lt
    clear k6
    go_wp2_with fail
    go_ret
    exact ⟨ret_bool HV.out.symm, hB⟩
  | false =>
  replace HV : Hid (shelfOkB x = true) := Hid.mk_ (HV.out.trans (by simp))
  have B_a : Box (w.alloc (.cells #[.slice H.Base.Mem.Heap.Bytes.a H.Base.Mem.Heap.Bytes.len H.Base.Mem.Heap.Bytes.cap, .slice H.Base.Mem.Heap.Class.a H.Base.Mem.Heap.Class.len H.Base.Mem.Heap.Class.cap, .slice H.Base.Mem.Lists.Global.a H.Base.Mem.Lists.Global.len H.Base.Mem.Lists.Global.cap, .slice H.Base.Mem.Lists.Own.a H.Base.Mem.Lists.Own.len H.Base.Mem.Lists.Own.cap, .int .i64 x.Base.Clock.Epoch, .slice H.Base.Clock.Pins.a H.Base.Clock.Pins.len H.Base.Clock.Pins.cap, .slice H.Base.Limbo.a H.Base.Limbo.len H.Base.Limbo.cap, .slice H.Base.Haz.a H.Base.Haz.len H.Base.Haz.cap, .slice H.Cells.a H.Cells.len H.Cells.cap, .slice H.Jobs.a H.Jobs.len H.Jobs.cap, .slice H.Todo.a H.Todo.len H.Todo.cap, .slice H.Log.a H.Log.len H.Log.cap, .int .i64 x.Serial] 69)) (w.heap.size) [.slice H.Base.Mem.Heap.Bytes.a H.Base.Mem.Heap.Bytes.len H.Base.Mem.Heap.Bytes.cap, .slice H.Base.Mem.Heap.Class.a H.Base.Mem.Heap.Class.len H.Base.Mem.Heap.Class.cap, .slice H.Base.Mem.Lists.Global.a H.Base.Mem.Lists.Global.len H.Base.Mem.Lists.Global.cap, .slice H.Base.Mem.Lists.Own.a H.Base.Mem.Lists.Own.len H.Base.Mem.Lists.Own.cap, .int .i64 x.Base.Clock.Epoch, .slice H.Base.Clock.Pins.a H.Base.Clock.Pins.len H.Base.Clock.Pins.cap, .slice H.Base.Limbo.a H.Base.Limbo.len H.Base.Limbo.cap, .slice H.Base.Haz.a H.Base.Haz.len H.Base.Haz.cap, .slice H.Cells.a H.Cells.len H.Cells.cap, .slice H.Jobs.a H.Jobs.len H.Jobs.cap, .slice H.Todo.a H.Todo.len H.Todo.cap, .slice H.Log.a H.Log.len H.Log.cap, .int .i64 x.Serial] := by
    have hbx := Box.new w #[.slice H.Base.Mem.Heap.Bytes.a H.Base.Mem.Heap.Bytes.len H.Base.Mem.Heap.Bytes.cap, .slice H.Base.Mem.Heap.Class.a H.Base.Mem.Heap.Class.len H.Base.Mem.Heap.Class.cap, .slice H.Base.Mem.Lists.Global.a H.Base.Mem.Lists.Global.len H.Base.Mem.Lists.Global.cap, .slice H.Base.Mem.Lists.Own.a H.Base.Mem.Lists.Own.len H.Base.Mem.Lists.Own.cap, .int .i64 x.Base.Clock.Epoch, .slice H.Base.Clock.Pins.a H.Base.Clock.Pins.len H.Base.Clock.Pins.cap, .slice H.Base.Limbo.a H.Base.Limbo.len H.Base.Limbo.cap, .slice H.Base.Haz.a H.Base.Haz.len H.Base.Haz.cap, .slice H.Cells.a H.Cells.len H.Cells.cap, .slice H.Jobs.a H.Jobs.len H.Jobs.cap, .slice H.Todo.a H.Todo.len H.Todo.cap, .slice H.Log.a H.Log.len H.Log.cap, .int .i64 x.Serial] 69
    exact hbx
  have hB : Below w.heap.size w (w.alloc (.cells #[.slice H.Base.Mem.Heap.Bytes.a H.Base.Mem.Heap.Bytes.len H.Base.Mem.Heap.Bytes.cap, .slice H.Base.Mem.Heap.Class.a H.Base.Mem.Heap.Class.len H.Base.Mem.Heap.Class.cap, .slice H.Base.Mem.Lists.Global.a H.Base.Mem.Lists.Global.len H.Base.Mem.Lists.Global.cap, .slice H.Base.Mem.Lists.Own.a H.Base.Mem.Lists.Own.len H.Base.Mem.Lists.Own.cap, .int .i64 x.Base.Clock.Epoch, .slice H.Base.Clock.Pins.a H.Base.Clock.Pins.len H.Base.Clock.Pins.cap, .slice H.Base.Limbo.a H.Base.Limbo.len H.Base.Limbo.cap, .slice H.Base.Haz.a H.Base.Haz.len H.Base.Haz.cap, .slice H.Cells.a H.Cells.len H.Cells.cap, .slice H.Jobs.a H.Jobs.len H.Jobs.cap, .slice H.Todo.a H.Todo.len H.Todo.cap, .slice H.Log.a H.Log.len H.Log.cap, .int .i64 x.Serial] 69)) := by repeat (first | exact Below.refl _ _ | refine Below.alloc ?_ (by simp <;> omega) _ | refine below_grow_of ?_ (by simp <;> omega) _ _ | refine Below.drew ?_ | refine below_drewN ?_ _)
  go_enter Tryz.func43, Tryz.ntmps43
  go_wp2_with fail
  generalize hW0 : (w.alloc (.cells #[.slice H.Base.Mem.Heap.Bytes.a H.Base.Mem.Heap.Bytes.len H.Base.Mem.Heap.Bytes.cap, .slice H.Base.Mem.Heap.Class.a H.Base.Mem.Heap.Class.len H.Base.Mem.Heap.Class.cap, .slice H.Base.Mem.Lists.Global.a H.Base.Mem.Lists.Global.len H.Base.Mem.Lists.Global.cap, .slice H.Base.Mem.Lists.Own.a H.Base.Mem.Lists.Own.len H.Base.Mem.Lists.Own.cap, .int .i64 x.Base.Clock.Epoch, .slice H.Base.Clock.Pins.a H.Base.Clock.Pins.len H.Base.Clock.Pins.cap, .slice H.Base.Limbo.a H.Base.Limbo.len H.Base.Limbo.cap, .slice H.Base.Haz.a H.Base.Haz.len H.Base.Haz.cap, .slice H.Cells.a H.Cells.len H.Cells.cap, .slice H.Jobs.a H.Jobs.len H.Jobs.cap, .slice H.Todo.a H.Todo.len H.Todo.cap, .slice H.Log.a H.Log.len H.Log.cap, .int .i64 x.Serial] 69)) = w0 at B_a hB ⊢
  clear hW0
  have zz_a := B_a.lt
  have q_a_0 := B_a.cell 0 _ rfl
  have q_a_1 := B_a.cell 1 _ rfl
  have q_a_2 := B_a.cell 2 _ rfl
  have q_a_3 := B_a.cell 3 _ rfl
  have q_a_4 := B_a.cell 4 _ rfl
  have q_a_5 := B_a.cell 5 _ rfl
  have q_a_6 := B_a.cell 6 _ rfl
  have q_a_7 := B_a.cell 7 _ rfl
  have q_a_8 := B_a.cell 8 _ rfl
  have q_a_9 := B_a.cell 9 _ rfl
  have q_a_10 := B_a.cell 10 _ rfl
  have q_a_11 := B_a.cell 11 _ rfl
  have q_a_12 := B_a.cell 12 _ rfl
  have fr_a := B_a.fro
  have z_a := B_a.lt
  refine (k0 _ hB).mono ?_
  rintro e w1 ⟨rfl, hb⟩
  replace B_a := B_a.below hb
  replace hB := hB.trans (hb.mono hB.size)
  have sz := hb.size
  clear hb
  replace q_a_0 := B_a.cell 0 _ rfl
  replace q_a_1 := B_a.cell 1 _ rfl
  replace q_a_2 := B_a.cell 2 _ rfl
  replace q_a_3 := B_a.cell 3 _ rfl
  replace q_a_4 := B_a.cell 4 _ rfl
  replace q_a_5 := B_a.cell 5 _ rfl
  replace q_a_6 := B_a.cell 6 _ rfl
  replace q_a_7 := B_a.cell 7 _ rfl
  replace q_a_8 := B_a.cell 8 _ rfl
  replace q_a_9 := B_a.cell 9 _ rfl
  replace q_a_10 := B_a.cell 10 _ rfl
  replace q_a_11 := B_a.cell 11 _ rfl
  replace q_a_12 := B_a.cell 12 _ rfl
  replace fr_a := B_a.fro
  replace z_a := B_a.lt
  clear k0
  go_wp2_with fail
  refine (k3 _ hB).mono ?_
  rintro e w2 ⟨rfl, hb⟩
  replace B_a := B_a.below hb
  replace hB := hB.trans (hb.mono hB.size)
  have sz := hb.size
  clear hb
  replace q_a_0 := B_a.cell 0 _ rfl
  replace q_a_1 := B_a.cell 1 _ rfl
  replace q_a_2 := B_a.cell 2 _ rfl
  replace q_a_3 := B_a.cell 3 _ rfl
  replace q_a_4 := B_a.cell 4 _ rfl
  replace q_a_5 := B_a.cell 5 _ rfl
  replace q_a_6 := B_a.cell 6 _ rfl
  replace q_a_7 := B_a.cell 7 _ rfl
  replace q_a_8 := B_a.cell 8 _ rfl
  replace q_a_9 := B_a.cell 9 _ rfl
  replace q_a_10 := B_a.cell 10 _ rfl
  replace q_a_11 := B_a.cell 11 _ rfl
  replace q_a_12 := B_a.cell 12 _ rfl
  replace fr_a := B_a.fro
  replace z_a := B_a.lt
  clear k3
  go_wp2_with fail
  refine (k4 _ hB).mono ?_
  rintro e w3 ⟨rfl, hb⟩
  replace B_a := B_a.below hb
  replace hB := hB.trans (hb.mono hB.size)
  have sz := hb.size
  clear hb
  replace q_a_0 := B_a.cell 0 _ rfl
  replace q_a_1 := B_a.cell 1 _ rfl
  replace q_a_2 := B_a.cell 2 _ rfl
  replace q_a_3 := B_a.cell 3 _ rfl
  replace q_a_4 := B_a.cell 4 _ rfl
  replace q_a_5 := B_a.cell 5 _ rfl
  replace q_a_6 := B_a.cell 6 _ rfl
  replace q_a_7 := B_a.cell 7 _ rfl
  replace q_a_8 := B_a.cell 8 _ rfl
  replace q_a_9 := B_a.cell 9 _ rfl
  replace q_a_10 := B_a.cell 10 _ rfl
  replace q_a_11 := B_a.cell 11 _ rfl
  replace q_a_12 := B_a.cell 12 _ rfl
  replace fr_a := B_a.fro
  replace z_a := B_a.lt
  clear k4
  go_wp2_with fail
  refine (k5 _ hB).mono ?_
  rintro e w4 ⟨rfl, hb⟩
  replace B_a := B_a.below hb
  replace hB := hB.trans (hb.mono hB.size)
  have sz := hb.size
  clear hb
  replace q_a_0 := B_a.cell 0 _ rfl
  replace q_a_1 := B_a.cell 1 _ rfl
  replace q_a_2 := B_a.cell 2 _ rfl
  replace q_a_3 := B_a.cell 3 _ rfl
  replace q_a_4 := B_a.cell 4 _ rfl
  replace q_a_5 := B_a.cell 5 _ rfl
  replace q_a_6 := B_a.cell 6 _ rfl
  replace q_a_7 := B_a.cell 7 _ rfl
  replace q_a_8 := B_a.cell 8 _ rfl
  replace q_a_9 := B_a.cell 9 _ rfl
  replace q_a_10 := B_a.cell 10 _ rfl
  replace q_a_11 := B_a.cell 11 _ rfl
  replace q_a_12 := B_a.cell 12 _ rfl
  replace fr_a := B_a.fro
  replace z_a := B_a.lt
  clear k5
  go_wp2_with fail
  refine (k6 _ hB).mono ?_
  rintro e w5 ⟨rfl, hb⟩
  replace B_a := B_a.below hb
  replace hB := hB.trans (hb.mono hB.size)
  have sz := hb.size
  clear hb
  replace q_a_0 := B_a.cell 0 _ rfl
  replace q_a_1 := B_a.cell 1 _ rfl
  replace q_a_2 := B_a.cell 2 _ rfl
  replace q_a_3 := B_a.cell 3 _ rfl
  replace q_a_4 := B_a.cell 4 _ rfl
  replace q_a_5 := B_a.cell 5 _ rfl
  replace q_a_6 := B_a.cell 6 _ rfl
  replace q_a_7 := B_a.cell 7 _ rfl
  replace q_a_8 := B_a.cell 8 _ rfl
  replace q_a_9 := B_a.cell 9 _ rfl
  replace q_a_10 := B_a.cell 10 _ rfl
  replace q_a_11 := B_a.cell 11 _ rfl
  replace q_a_12 := B_a.cell 12 _ rfl
  replace fr_a := B_a.fro
  replace z_a := B_a.lt
  clear k6
  go_wp2_with fail
  go_ret
  exact ⟨ret_bool HV.out.symm, hB⟩
end Go.Proofs.YtkldapdpaldbgaaGreat
namespace Go.Proofs.YtkldapdpaldbgaaGreat
open Go.RowKit
attribute [local go_sem ↓] execJob
attribute [local go_sem] loadResJob

theorem wpList_store_new2 {P : Program} {ops : Array Oper} {rest : List Oper} {o : Oper} {a : Act} {w : World} {Q : Exit → Act → World → Prop} {c0 : Array Value} (hgd : o.guard = none) (ty : TypeId) (x y : Operand) (ho : o.op = .store ty x y) (c : Array Value)
    (hx : a.eval x = .pointer (some ⟨w.heap.size, 0, none⟩)) (hy : a.eval y = .agg c) (hi : (P.info? ty).map (·.size) = some c.size) (hs : c0.size = c.size) (h1 : c.all (·.oneCell') = true)
    (h : wpList P ops Q rest (a.put o.dst undef) (w.alloc (.cells c ty))) : wpList P ops Q (o :: rest) a (w.alloc (.cells c0 ty)) := by
  refine wpList_store_row hgd ty x y ho w.heap.size c hx hy ty c0 (heap_alloc_last w _) hi hs h1 ?_
  rw [World.setRow_alloc_new]
  exact h
set_option maxHeartbeats 400000 in
theorem l15Some_ct (h : Int) (w : World) : Calls Tryz.prog 108 #[.int .i64 h] w fun e w' => e = .returned (.bool (Lim.linkB h)) ∧ w' = w := by
  by_cases h1 : h = 0
  · subst h1
    go_enter Tryz.func108, Tryz.ntmps108
    go_wp2
    go_ret
    exact ⟨rfl, rfl⟩
  · have h2 : (h == 0) = false := by simpa using h1
    go_enter Tryz.func108, Tryz.ntmps108
    go_wp2_with (go_at_call 131; refine (Lim.HandleOk_spec _ _).mono ?_; rintro e w1 ⟨rfl, rfl⟩)
    go_ret
    exact ⟨ret_bool (by simp [Lim.linkB, h2]), rfl⟩

set_option maxRecDepth 100000 in
set_option maxHeartbeats 8000000 in
theorem ShelfOk_spec (w : World) (H : HShelf) (x : Shelf) (h : RdShelf w w.heap.size H x) (hs : szLL x.Base.Limbo ≤ 536870912) (hs1 : szLL x.Base.Mem.Lists.Global ≤ 536870912) (hs2 : szLL x.Base.Mem.Lists.Own ≤ 536870912) :
    Calls Tryz.prog 42 #[.agg #[.slice H.Base.Mem.Heap.Bytes.a H.Base.Mem.Heap.Bytes.len H.Base.Mem.Heap.Bytes.cap, .slice H.Base.Mem.Heap.Class.a H.Base.Mem.Heap.Class.len H.Base.Mem.Heap.Class.cap, .slice H.Base.Mem.Lists.Global.a H.Base.Mem.Lists.Global.len H.Base.Mem.Lists.Global.cap, .slice H.Base.Mem.Lists.Own.a H.Base.Mem.Lists.Own.len H.Base.Mem.Lists.Own.cap, .int .i64 x.Base.Clock.Epoch, .slice H.Base.Clock.Pins.a H.Base.Clock.Pins.len H.Base.Clock.Pins.cap, .slice H.Base.Limbo.a H.Base.Limbo.len H.Base.Limbo.cap, .slice H.Base.Haz.a H.Base.Haz.len H.Base.Haz.cap, .slice H.Cells.a H.Cells.len H.Cells.cap, .slice H.Jobs.a H.Jobs.len H.Jobs.cap, .slice H.Todo.a H.Todo.len H.Todo.cap, .slice H.Log.a H.Log.len H.Log.cap, .int .i64 x.Serial]] w fun e w' => e = .returned (.bool (shelfOkB x)) ∧ Below w.heap.size w w' := by
  have k0 := fun (W : World) (hW : Below w.heap.size w W) => BaseOk_spec W H.Base x.Base (rdBase_up h.Base hW) hs hs1 hs2
  have k3 := fun (W : World) (hW : Below w.heap.size w W) => todoOk_spec W _ _ x.Todo (rdLL_up h.Todo hW)
  have k4 := fun (W : World) (_hW : Below w.heap.size w W) => (l1In_ct x.Serial 0 1000000 W).mono fun _ _ => below_eq'
  have rC := h.Cells
  have rJ := h.Jobs
  have eC := Hid.mk_ (RdL.len_ h.Cells).1
  have eJ := Hid.mk_ (RdL.len_ h.Jobs).1
  have bC : H.Cells.len ≤ 9223372036854775807 := (RdL.len_ h.Cells).2
  have bJ : H.Jobs.len ≤ 9223372036854775807 := (RdL.len_ h.Jobs).2
  have HV : Hid (shelfOkB x = (baseOkB x.Base && (x.Cells.length == 2) && (x.Jobs.length == 3) && todoOkB x.Todo && inB 0 1000000 x.Serial && !(x.Cells.any fun h => !Lim.linkB h) && !(x.Jobs.any fun j => !jobOkB j))) := Hid.mk_ rfl
  clear h
  generalize baseOkB x.Base = c0 at k0 HV
  obtain ⟨c1, hc1⟩ : ∃ c1, Hid (c1 = (x.Cells.length == 2)) := ⟨_, Hid.mk_ rfl⟩
  rw [← hc1.out] at HV
  obtain ⟨c2, hc2⟩ : ∃ c2, Hid (c2 = (x.Jobs.length == 3)) := ⟨_, Hid.mk_ rfl⟩
  rw [← hc2.out] at HV
  generalize todoOkB x.Todo = c3 at k3 HV
  generalize inB 0 1000000 x.Serial = c4 at k4 HV
  cases c0 with
  | false =>
    replace HV : Hid (shelfOkB x = false) := Hid.mk_ (HV.out.trans (by simp))
    have B_a : Box (w.alloc (.cells #[.slice H.Base.Mem.Heap.Bytes.a H.Base.Mem.Heap.Bytes.len H.Base.Mem.Heap.Bytes.cap, .slice H.Base.Mem.Heap.Class.a H.Base.Mem.Heap.Class.len H.Base.Mem.Heap.Class.cap, .slice H.Base.Mem.Lists.Global.a H.Base.Mem.Lists.Global.len H.Base.Mem.Lists.Global.cap, .slice H.Base.Mem.Lists.Own.a H.Base.Mem.Lists.Own.len H.Base.Mem.Lists.Own.cap, .int .i64 x.Base.Clock.Epoch, .slice H.Base.Clock.Pins.a H.Base.Clock.Pins.len H.Base.Clock.Pins.cap, .slice H.Base.Limbo.a H.Base.Limbo.len H.Base.Limbo.cap, .slice H.Base.Haz.a H.Base.Haz.len H.Base.Haz.cap, .slice H.Cells.a H.Cells.len H.Cells.cap, .slice H.Jobs.a H.Jobs.len H.Jobs.cap, .slice H.Todo.a H.Todo.len H.Todo.cap, .slice H.Log.a H.Log.len H.Log.cap, .int .i64 x.Serial] 69)) (w.heap.size) [.slice H.Base.Mem.Heap.Bytes.a H.Base.Mem.Heap.Bytes.len H.Base.Mem.Heap.Bytes.cap, .slice H.Base.Mem.Heap.Class.a H.Base.Mem.Heap.Class.len H.Base.Mem.Heap.Class.cap, .slice H.Base.Mem.Lists.Global.a H.Base.Mem.Lists.Global.len H.Base.Mem.Lists.Global.cap, .slice H.Base.Mem.Lists.Own.a H.Base.Mem.Lists.Own.len H.Base.Mem.Lists.Own.cap, .int .i64 x.Base.Clock.Epoch, .slice H.Base.Clock.Pins.a H.Base.Clock.Pins.len H.Base.Clock.Pins.cap, .slice H.Base.Limbo.a H.Base.Limbo.len H.Base.Limbo.cap, .slice H.Base.Haz.a H.Base.Haz.len H.Base.Haz.cap, .slice H.Cells.a H.Cells.len H.Cells.cap, .slice H.Jobs.a H.Jobs.len H.Jobs.cap, .slice H.Todo.a H.Todo.len H.Todo.cap, .slice H.Log.a H.Log.len H.Log.cap, .int .i64 x.Serial] := by
      have hbx := Box.new w #[.slice H.Base.Mem.Heap.Bytes.a H.Base.Mem.Heap.Bytes.len H.Base.Mem.Heap.Bytes.cap, .slice H.Base.Mem.Heap.Class.a H.Base.Mem.Heap.Class.len H.Base.Mem.Heap.Class.cap, .slice H.Base.Mem.Lists.Global.a H.Base.Mem.Lists.Global.len H.Base.Mem.Lists.Global.cap, .slice H.Base.Mem.Lists.Own.a H.Base.Mem.Lists.Own.len H.Base.Mem.Lists.Own.cap, .int .i64 x.Base.Clock.Epoch, .slice H.Base.Clock.Pins.a H.Base.Clock.Pins.len H.Base.Clock.Pins.cap, .slice H.Base.Limbo.a H.Base.Limbo.len H.Base.Limbo.cap, .slice H.Base.Haz.a H.Base.Haz.len H.Base.Haz.cap, .slice H.Cells.a H.Cells.len H.Cells.cap, .slice H.Jobs.a H.Jobs.len H.Jobs.cap, .slice H.Todo.a H.Todo.len H.Todo.cap, .slice H.Log.a H.Log.len H.Log.cap, .int .i64 x.Serial] 69
      exact hbx
    have hB : Below w.heap.size w (w.alloc (.cells #[.slice H.Base.Mem.Heap.Bytes.a H.Base.Mem.Heap.Bytes.len H.Base.Mem.Heap.Bytes.cap, .slice H.Base.Mem.Heap.Class.a H.Base.Mem.Heap.Class.len H.Base.Mem.Heap.Class.cap, .slice H.Base.Mem.Lists.Global.a H.Base.Mem.Lists.Global.len H.Base.Mem.Lists.Global.cap, .slice H.Base.Mem.Lists.Own.a H.Base.Mem.Lists.Own.len H.Base.Mem.Lists.Own.cap, .int .i64 x.Base.Clock.Epoch, .slice H.Base.Clock.Pins.a H.Base.Clock.Pins.len H.Base.Clock.Pins.cap, .slice H.Base.Limbo.a H.Base.Limbo.len H.Base.Limbo.cap, .slice H.Base.Haz.a H.Base.Haz.len H.Base.Haz.cap, .slice H.Cells.a H.Cells.len H.Cells.cap, .slice H.Jobs.a H.Jobs.len H.Jobs.cap, .slice H.Todo.a H.Todo.len H.Todo.cap, .slice H.Log.a H.Log.len H.Log.cap, .int .i64 x.Serial] 69)) := by repeat (first | exact Below.refl _ _ | refine Below.alloc ?_ (by simp <;> omega) _ | refine below_grow_of ?_ (by simp <;> omega) _ _ | refine Below.drew ?_ | refine below_drewN ?_ _)
    go_enter Tryz.func42, Tryz.ntmps42
    go_wp2_with fail
    generalize hW0 : (w.alloc (.cells #[.slice H.Base.Mem.Heap.Bytes.a H.Base.Mem.Heap.Bytes.len H.Base.Mem.Heap.Bytes.cap, .slice H.Base.Mem.Heap.Class.a H.Base.Mem.Heap.Class.len H.Base.Mem.Heap.Class.cap, .slice H.Base.Mem.Lists.Global.a H.Base.Mem.Lists.Global.len H.Base.Mem.Lists.Global.cap, .slice H.Base.Mem.Lists.Own.a H.Base.Mem.Lists.Own.len H.Base.Mem.Lists.Own.cap, .int .i64 x.Base.Clock.Epoch, .slice H.Base.Clock.Pins.a H.Base.Clock.Pins.len H.Base.Clock.Pins.cap, .slice H.Base.Limbo.a H.Base.Limbo.len H.Base.Limbo.cap, .slice H.Base.Haz.a H.Base.Haz.len H.Base.Haz.cap, .slice H.Cells.a H.Cells.len H.Cells.cap, .slice H.Jobs.a H.Jobs.len H.Jobs.cap, .slice H.Todo.a H.Todo.len H.Todo.cap, .slice H.Log.a H.Log.len H.Log.cap, .int .i64 x.Serial] 69)) = w0 at B_a hB ⊢
    clear hW0
    have zz_a := B_a.lt
    have q_a_0 := B_a.cell 0 _ rfl
    have q_a_1 := B_a.cell 1 _ rfl
    have q_a_2 := B_a.cell 2 _ rfl
    have q_a_3 := B_a.cell 3 _ rfl
    have q_a_4 := B_a.cell 4 _ rfl
    have q_a_5 := B_a.cell 5 _ rfl
    have q_a_6 := B_a.cell 6 _ rfl
    have q_a_7 := B_a.cell 7 _ rfl
    have q_a_8 := B_a.cell 8 _ rfl
    have q_a_9 := B_a.cell 9 _ rfl
    have q_a_10 := B_a.cell 10 _ rfl
    have q_a_11 := B_a.cell 11 _ rfl
    have q_a_12 := B_a.cell 12 _ rfl
    have fr_a := B_a.fro
    have z_a := B_a.lt
    refine (k0 _ hB).mono ?_
    rintro e w1 ⟨rfl, hb⟩
    replace B_a := B_a.below hb
    replace hB := hB.trans (hb.mono hB.size)
    have sz := hb.size
    clear hb
    replace q_a_0 := B_a.cell 0 _ rfl
    replace q_a_1 := B_a.cell 1 _ rfl
    replace q_a_2 := B_a.cell 2 _ rfl
    replace q_a_3 := B_a.cell 3 _ rfl
    replace q_a_4 := B_a.cell 4 _ rfl
    replace q_a_5 := B_a.cell 5 _ rfl
    replace q_a_6 := B_a.cell 6 _ rfl
    replace q_a_7 := B_a.cell 7 _ rfl
    replace q_a_8 := B_a.cell 8 _ rfl
    replace q_a_9 := B_a.cell 9 _ rfl
    replace q_a_10 := B_a.cell 10 _ rfl
    replace q_a_11 := B_a.cell 11 _ rfl
    replace q_a_12 := B_a.cell 12 _ rfl
    replace fr_a := B_a.fro
    replace z_a := B_a.lt
    clear k0
    go_wp2_with fail
    go_ret
    exact ⟨ret_bool HV.out.symm, hB⟩
  | true =>
  cases c1 with
  | false =>
    have d1 : ((H.Cells.len : Int) == 2) = false := by rw [eC.out]; have a := hc1.out.symm; simp at a ⊢; omega
    have n1 : ((H.Cells.len : Int) != 2) = true := by rw [bne, d1]; rfl
    replace HV : Hid (shelfOkB x = false) := Hid.mk_ (HV.out.trans (by simp))
    have B_a : Box (w.alloc (.cells #[.slice H.Base.Mem.Heap.Bytes.a H.Base.Mem.Heap.Bytes.len H.Base.Mem.Heap.Bytes.cap, .slice H.Base.Mem.Heap.Class.a H.Base.Mem.Heap.Class.len H.Base.Mem.Heap.Class.cap, .slice H.Base.Mem.Lists.Global.a H.Base.Mem.Lists.Global.len H.Base.Mem.Lists.Global.cap, .slice H.Base.Mem.Lists.Own.a H.Base.Mem.Lists.Own.len H.Base.Mem.Lists.Own.cap, .int .i64 x.Base.Clock.Epoch, .slice H.Base.Clock.Pins.a H.Base.Clock.Pins.len H.Base.Clock.Pins.cap, .slice H.Base.Limbo.a H.Base.Limbo.len H.Base.Limbo.cap, .slice H.Base.Haz.a H.Base.Haz.len H.Base.Haz.cap, .slice H.Cells.a H.Cells.len H.Cells.cap, .slice H.Jobs.a H.Jobs.len H.Jobs.cap, .slice H.Todo.a H.Todo.len H.Todo.cap, .slice H.Log.a H.Log.len H.Log.cap, .int .i64 x.Serial] 69)) (w.heap.size) [.slice H.Base.Mem.Heap.Bytes.a H.Base.Mem.Heap.Bytes.len H.Base.Mem.Heap.Bytes.cap, .slice H.Base.Mem.Heap.Class.a H.Base.Mem.Heap.Class.len H.Base.Mem.Heap.Class.cap, .slice H.Base.Mem.Lists.Global.a H.Base.Mem.Lists.Global.len H.Base.Mem.Lists.Global.cap, .slice H.Base.Mem.Lists.Own.a H.Base.Mem.Lists.Own.len H.Base.Mem.Lists.Own.cap, .int .i64 x.Base.Clock.Epoch, .slice H.Base.Clock.Pins.a H.Base.Clock.Pins.len H.Base.Clock.Pins.cap, .slice H.Base.Limbo.a H.Base.Limbo.len H.Base.Limbo.cap, .slice H.Base.Haz.a H.Base.Haz.len H.Base.Haz.cap, .slice H.Cells.a H.Cells.len H.Cells.cap, .slice H.Jobs.a H.Jobs.len H.Jobs.cap, .slice H.Todo.a H.Todo.len H.Todo.cap, .slice H.Log.a H.Log.len H.Log.cap, .int .i64 x.Serial] := by
      have hbx := Box.new w #[.slice H.Base.Mem.Heap.Bytes.a H.Base.Mem.Heap.Bytes.len H.Base.Mem.Heap.Bytes.cap, .slice H.Base.Mem.Heap.Class.a H.Base.Mem.Heap.Class.len H.Base.Mem.Heap.Class.cap, .slice H.Base.Mem.Lists.Global.a H.Base.Mem.Lists.Global.len H.Base.Mem.Lists.Global.cap, .slice H.Base.Mem.Lists.Own.a H.Base.Mem.Lists.Own.len H.Base.Mem.Lists.Own.cap, .int .i64 x.Base.Clock.Epoch, .slice H.Base.Clock.Pins.a H.Base.Clock.Pins.len H.Base.Clock.Pins.cap, .slice H.Base.Limbo.a H.Base.Limbo.len H.Base.Limbo.cap, .slice H.Base.Haz.a H.Base.Haz.len H.Base.Haz.cap, .slice H.Cells.a H.Cells.len H.Cells.cap, .slice H.Jobs.a H.Jobs.len H.Jobs.cap, .slice H.Todo.a H.Todo.len H.Todo.cap, .slice H.Log.a H.Log.len H.Log.cap, .int .i64 x.Serial] 69
      exact hbx
    have hB : Below w.heap.size w (w.alloc (.cells #[.slice H.Base.Mem.Heap.Bytes.a H.Base.Mem.Heap.Bytes.len H.Base.Mem.Heap.Bytes.cap, .slice H.Base.Mem.Heap.Class.a H.Base.Mem.Heap.Class.len H.Base.Mem.Heap.Class.cap, .slice H.Base.Mem.Lists.Global.a H.Base.Mem.Lists.Global.len H.Base.Mem.Lists.Global.cap, .slice H.Base.Mem.Lists.Own.a H.Base.Mem.Lists.Own.len H.Base.Mem.Lists.Own.cap, .int .i64 x.Base.Clock.Epoch, .slice H.Base.Clock.Pins.a H.Base.Clock.Pins.len H.Base.Clock.Pins.cap, .slice H.Base.Limbo.a H.Base.Limbo.len H.Base.Limbo.cap, .slice H.Base.Haz.a H.Base.Haz.len H.Base.Haz.cap, .slice H.Cells.a H.Cells.len H.Cells.cap, .slice H.Jobs.a H.Jobs.len H.Jobs.cap, .slice H.Todo.a H.Todo.len H.Todo.cap, .slice H.Log.a H.Log.len H.Log.cap, .int .i64 x.Serial] 69)) := by repeat (first | exact Below.refl _ _ | refine Below.alloc ?_ (by simp <;> omega) _ | refine below_grow_of ?_ (by simp <;> omega) _ _ | refine Below.drew ?_ | refine below_drewN ?_ _)
    go_enter Tryz.func42, Tryz.ntmps42
    go_wp2_with fail
    generalize hW0 : (w.alloc (.cells #[.slice H.Base.Mem.Heap.Bytes.a H.Base.Mem.Heap.Bytes.len H.Base.Mem.Heap.Bytes.cap, .slice H.Base.Mem.Heap.Class.a H.Base.Mem.Heap.Class.len H.Base.Mem.Heap.Class.cap, .slice H.Base.Mem.Lists.Global.a H.Base.Mem.Lists.Global.len H.Base.Mem.Lists.Global.cap, .slice H.Base.Mem.Lists.Own.a H.Base.Mem.Lists.Own.len H.Base.Mem.Lists.Own.cap, .int .i64 x.Base.Clock.Epoch, .slice H.Base.Clock.Pins.a H.Base.Clock.Pins.len H.Base.Clock.Pins.cap, .slice H.Base.Limbo.a H.Base.Limbo.len H.Base.Limbo.cap, .slice H.Base.Haz.a H.Base.Haz.len H.Base.Haz.cap, .slice H.Cells.a H.Cells.len H.Cells.cap, .slice H.Jobs.a H.Jobs.len H.Jobs.cap, .slice H.Todo.a H.Todo.len H.Todo.cap, .slice H.Log.a H.Log.len H.Log.cap, .int .i64 x.Serial] 69)) = w0 at B_a hB ⊢
    clear hW0
    have zz_a := B_a.lt
    have q_a_0 := B_a.cell 0 _ rfl
    have q_a_1 := B_a.cell 1 _ rfl
    have q_a_2 := B_a.cell 2 _ rfl
    have q_a_3 := B_a.cell 3 _ rfl
    have q_a_4 := B_a.cell 4 _ rfl
    have q_a_5 := B_a.cell 5 _ rfl
    have q_a_6 := B_a.cell 6 _ rfl
    have q_a_7 := B_a.cell 7 _ rfl
    have q_a_8 := B_a.cell 8 _ rfl
    have q_a_9 := B_a.cell 9 _ rfl
    have q_a_10 := B_a.cell 10 _ rfl
    have q_a_11 := B_a.cell 11 _ rfl
    have q_a_12 := B_a.cell 12 _ rfl
    have fr_a := B_a.fro
    have z_a := B_a.lt
    refine (k0 _ hB).mono ?_
    rintro e w1 ⟨rfl, hb⟩
    replace B_a := B_a.below hb
    replace hB := hB.trans (hb.mono hB.size)
    have sz := hb.size
    clear hb
    replace q_a_0 := B_a.cell 0 _ rfl
    replace q_a_1 := B_a.cell 1 _ rfl
    replace q_a_2 := B_a.cell 2 _ rfl
    replace q_a_3 := B_a.cell 3 _ rfl
    replace q_a_4 := B_a.cell 4 _ rfl
    replace q_a_5 := B_a.cell 5 _ rfl
    replace q_a_6 := B_a.cell 6 _ rfl
    replace q_a_7 := B_a.cell 7 _ rfl
    replace q_a_8 := B_a.cell 8 _ rfl
    replace q_a_9 := B_a.cell 9 _ rfl
    replace q_a_10 := B_a.cell 10 _ rfl
    replace q_a_11 := B_a.cell 11 _ rfl
    replace q_a_12 := B_a.cell 12 _ rfl
    replace fr_a := B_a.fro
    replace z_a := B_a.lt
    clear k0
    go_wp2_with fail
    go_ret
    exact ⟨ret_bool HV.out.symm, hB⟩
  | true =>
  have d1 : ((H.Cells.len : Int) == 2) = true := by rw [eC.out]; have a := hc1.out.symm; simp at a ⊢; omega
  have n1 : ((H.Cells.len : Int) != 2) = false := by rw [bne, d1]; rfl
  cases c2 with
  | false =>
    have d2 : ((H.Jobs.len : Int) == 3) = false := by rw [eJ.out]; have a := hc2.out.symm; simp at a ⊢; omega
    have n2 : ((H.Jobs.len : Int) != 3) = true := by rw [bne, d2]; rfl
    replace HV : Hid (shelfOkB x = false) := Hid.mk_ (HV.out.trans (by simp))
    have B_a : Box (w.alloc (.cells #[.slice H.Base.Mem.Heap.Bytes.a H.Base.Mem.Heap.Bytes.len H.Base.Mem.Heap.Bytes.cap, .slice H.Base.Mem.Heap.Class.a H.Base.Mem.Heap.Class.len H.Base.Mem.Heap.Class.cap, .slice H.Base.Mem.Lists.Global.a H.Base.Mem.Lists.Global.len H.Base.Mem.Lists.Global.cap, .slice H.Base.Mem.Lists.Own.a H.Base.Mem.Lists.Own.len H.Base.Mem.Lists.Own.cap, .int .i64 x.Base.Clock.Epoch, .slice H.Base.Clock.Pins.a H.Base.Clock.Pins.len H.Base.Clock.Pins.cap, .slice H.Base.Limbo.a H.Base.Limbo.len H.Base.Limbo.cap, .slice H.Base.Haz.a H.Base.Haz.len H.Base.Haz.cap, .slice H.Cells.a H.Cells.len H.Cells.cap, .slice H.Jobs.a H.Jobs.len H.Jobs.cap, .slice H.Todo.a H.Todo.len H.Todo.cap, .slice H.Log.a H.Log.len H.Log.cap, .int .i64 x.Serial] 69)) (w.heap.size) [.slice H.Base.Mem.Heap.Bytes.a H.Base.Mem.Heap.Bytes.len H.Base.Mem.Heap.Bytes.cap, .slice H.Base.Mem.Heap.Class.a H.Base.Mem.Heap.Class.len H.Base.Mem.Heap.Class.cap, .slice H.Base.Mem.Lists.Global.a H.Base.Mem.Lists.Global.len H.Base.Mem.Lists.Global.cap, .slice H.Base.Mem.Lists.Own.a H.Base.Mem.Lists.Own.len H.Base.Mem.Lists.Own.cap, .int .i64 x.Base.Clock.Epoch, .slice H.Base.Clock.Pins.a H.Base.Clock.Pins.len H.Base.Clock.Pins.cap, .slice H.Base.Limbo.a H.Base.Limbo.len H.Base.Limbo.cap, .slice H.Base.Haz.a H.Base.Haz.len H.Base.Haz.cap, .slice H.Cells.a H.Cells.len H.Cells.cap, .slice H.Jobs.a H.Jobs.len H.Jobs.cap, .slice H.Todo.a H.Todo.len H.Todo.cap, .slice H.Log.a H.Log.len H.Log.cap, .int .i64 x.Serial] := by
      have hbx := Box.new w #[.slice H.Base.Mem.Heap.Bytes.a H.Base.Mem.Heap.Bytes.len H.Base.Mem.Heap.Bytes.cap, .slice H.Base.Mem.Heap.Class.a H.Base.Mem.Heap.Class.len H.Base.Mem.Heap.Class.cap, .slice H.Base.Mem.Lists.Global.a H.Base.Mem.Lists.Global.len H.Base.Mem.Lists.Global.cap, .slice H.Base.Mem.Lists.Own.a H.Base.Mem.Lists.Own.len H.Base.Mem.Lists.Own.cap, .int .i64 x.Base.Clock.Epoch, .slice H.Base.Clock.Pins.a H.Base.Clock.Pins.len H.Base.Clock.Pins.cap, .slice H.Base.Limbo.a H.Base.Limbo.len H.Base.Limbo.cap, .slice H.Base.Haz.a H.Base.Haz.len H.Base.Haz.cap, .slice H.Cells.a H.Cells.len H.Cells.cap, .slice H.Jobs.a H.Jobs.len H.Jobs.cap, .slice H.Todo.a H.Todo.len H.Todo.cap, .slice H.Log.a H.Log.len H.Log.cap, .int .i64 x.Serial] 69
      exact hbx
    have hB : Below w.heap.size w (w.alloc (.cells #[.slice H.Base.Mem.Heap.Bytes.a H.Base.Mem.Heap.Bytes.len H.Base.Mem.Heap.Bytes.cap, .slice H.Base.Mem.Heap.Class.a H.Base.Mem.Heap.Class.len H.Base.Mem.Heap.Class.cap, .slice H.Base.Mem.Lists.Global.a H.Base.Mem.Lists.Global.len H.Base.Mem.Lists.Global.cap, .slice H.Base.Mem.Lists.Own.a H.Base.Mem.Lists.Own.len H.Base.Mem.Lists.Own.cap, .int .i64 x.Base.Clock.Epoch, .slice H.Base.Clock.Pins.a H.Base.Clock.Pins.len H.Base.Clock.Pins.cap, .slice H.Base.Limbo.a H.Base.Limbo.len H.Base.Limbo.cap, .slice H.Base.Haz.a H.Base.Haz.len H.Base.Haz.cap, .slice H.Cells.a H.Cells.len H.Cells.cap, .slice H.Jobs.a H.Jobs.len H.Jobs.cap, .slice H.Todo.a H.Todo.len H.Todo.cap, .slice H.Log.a H.Log.len H.Log.cap, .int .i64 x.Serial] 69)) := by repeat (first | exact Below.refl _ _ | refine Below.alloc ?_ (by simp <;> omega) _ | refine below_grow_of ?_ (by simp <;> omega) _ _ | refine Below.drew ?_ | refine below_drewN ?_ _)
    go_enter Tryz.func42, Tryz.ntmps42
    go_wp2_with fail
    generalize hW0 : (w.alloc (.cells #[.slice H.Base.Mem.Heap.Bytes.a H.Base.Mem.Heap.Bytes.len H.Base.Mem.Heap.Bytes.cap, .slice H.Base.Mem.Heap.Class.a H.Base.Mem.Heap.Class.len H.Base.Mem.Heap.Class.cap, .slice H.Base.Mem.Lists.Global.a H.Base.Mem.Lists.Global.len H.Base.Mem.Lists.Global.cap, .slice H.Base.Mem.Lists.Own.a H.Base.Mem.Lists.Own.len H.Base.Mem.Lists.Own.cap, .int .i64 x.Base.Clock.Epoch, .slice H.Base.Clock.Pins.a H.Base.Clock.Pins.len H.Base.Clock.Pins.cap, .slice H.Base.Limbo.a H.Base.Limbo.len H.Base.Limbo.cap, .slice H.Base.Haz.a H.Base.Haz.len H.Base.Haz.cap, .slice H.Cells.a H.Cells.len H.Cells.cap, .slice H.Jobs.a H.Jobs.len H.Jobs.cap, .slice H.Todo.a H.Todo.len H.Todo.cap, .slice H.Log.a H.Log.len H.Log.cap, .int .i64 x.Serial] 69)) = w0 at B_a hB ⊢
    clear hW0
    have zz_a := B_a.lt
    have q_a_0 := B_a.cell 0 _ rfl
    have q_a_1 := B_a.cell 1 _ rfl
    have q_a_2 := B_a.cell 2 _ rfl
    have q_a_3 := B_a.cell 3 _ rfl
    have q_a_4 := B_a.cell 4 _ rfl
    have q_a_5 := B_a.cell 5 _ rfl
    have q_a_6 := B_a.cell 6 _ rfl
    have q_a_7 := B_a.cell 7 _ rfl
    have q_a_8 := B_a.cell 8 _ rfl
    have q_a_9 := B_a.cell 9 _ rfl
    have q_a_10 := B_a.cell 10 _ rfl
    have q_a_11 := B_a.cell 11 _ rfl
    have q_a_12 := B_a.cell 12 _ rfl
    have fr_a := B_a.fro
    have z_a := B_a.lt
    refine (k0 _ hB).mono ?_
    rintro e w1 ⟨rfl, hb⟩
    replace B_a := B_a.below hb
    replace hB := hB.trans (hb.mono hB.size)
    have sz := hb.size
    clear hb
    replace q_a_0 := B_a.cell 0 _ rfl
    replace q_a_1 := B_a.cell 1 _ rfl
    replace q_a_2 := B_a.cell 2 _ rfl
    replace q_a_3 := B_a.cell 3 _ rfl
    replace q_a_4 := B_a.cell 4 _ rfl
    replace q_a_5 := B_a.cell 5 _ rfl
    replace q_a_6 := B_a.cell 6 _ rfl
    replace q_a_7 := B_a.cell 7 _ rfl
    replace q_a_8 := B_a.cell 8 _ rfl
    replace q_a_9 := B_a.cell 9 _ rfl
    replace q_a_10 := B_a.cell 10 _ rfl
    replace q_a_11 := B_a.cell 11 _ rfl
    replace q_a_12 := B_a.cell 12 _ rfl
    replace fr_a := B_a.fro
    replace z_a := B_a.lt
    clear k0
    go_wp2_with fail
    go_ret
    exact ⟨ret_bool HV.out.symm, hB⟩
  | true =>
  have d2 : ((H.Jobs.len : Int) == 3) = true := by rw [eJ.out]; have a := hc2.out.symm; simp at a ⊢; omega
  have n2 : ((H.Jobs.len : Int) != 3) = false := by rw [bne, d2]; rfl
  cases c3 with
  | false =>
    replace HV : Hid (shelfOkB x = false) := Hid.mk_ (HV.out.trans (by simp))
    have B_a : Box (w.alloc (.cells #[.slice H.Base.Mem.Heap.Bytes.a H.Base.Mem.Heap.Bytes.len H.Base.Mem.Heap.Bytes.cap, .slice H.Base.Mem.Heap.Class.a H.Base.Mem.Heap.Class.len H.Base.Mem.Heap.Class.cap, .slice H.Base.Mem.Lists.Global.a H.Base.Mem.Lists.Global.len H.Base.Mem.Lists.Global.cap, .slice H.Base.Mem.Lists.Own.a H.Base.Mem.Lists.Own.len H.Base.Mem.Lists.Own.cap, .int .i64 x.Base.Clock.Epoch, .slice H.Base.Clock.Pins.a H.Base.Clock.Pins.len H.Base.Clock.Pins.cap, .slice H.Base.Limbo.a H.Base.Limbo.len H.Base.Limbo.cap, .slice H.Base.Haz.a H.Base.Haz.len H.Base.Haz.cap, .slice H.Cells.a H.Cells.len H.Cells.cap, .slice H.Jobs.a H.Jobs.len H.Jobs.cap, .slice H.Todo.a H.Todo.len H.Todo.cap, .slice H.Log.a H.Log.len H.Log.cap, .int .i64 x.Serial] 69)) (w.heap.size) [.slice H.Base.Mem.Heap.Bytes.a H.Base.Mem.Heap.Bytes.len H.Base.Mem.Heap.Bytes.cap, .slice H.Base.Mem.Heap.Class.a H.Base.Mem.Heap.Class.len H.Base.Mem.Heap.Class.cap, .slice H.Base.Mem.Lists.Global.a H.Base.Mem.Lists.Global.len H.Base.Mem.Lists.Global.cap, .slice H.Base.Mem.Lists.Own.a H.Base.Mem.Lists.Own.len H.Base.Mem.Lists.Own.cap, .int .i64 x.Base.Clock.Epoch, .slice H.Base.Clock.Pins.a H.Base.Clock.Pins.len H.Base.Clock.Pins.cap, .slice H.Base.Limbo.a H.Base.Limbo.len H.Base.Limbo.cap, .slice H.Base.Haz.a H.Base.Haz.len H.Base.Haz.cap, .slice H.Cells.a H.Cells.len H.Cells.cap, .slice H.Jobs.a H.Jobs.len H.Jobs.cap, .slice H.Todo.a H.Todo.len H.Todo.cap, .slice H.Log.a H.Log.len H.Log.cap, .int .i64 x.Serial] := by
      have hbx := Box.new w #[.slice H.Base.Mem.Heap.Bytes.a H.Base.Mem.Heap.Bytes.len H.Base.Mem.Heap.Bytes.cap, .slice H.Base.Mem.Heap.Class.a H.Base.Mem.Heap.Class.len H.Base.Mem.Heap.Class.cap, .slice H.Base.Mem.Lists.Global.a H.Base.Mem.Lists.Global.len H.Base.Mem.Lists.Global.cap, .slice H.Base.Mem.Lists.Own.a H.Base.Mem.Lists.Own.len H.Base.Mem.Lists.Own.cap, .int .i64 x.Base.Clock.Epoch, .slice H.Base.Clock.Pins.a H.Base.Clock.Pins.len H.Base.Clock.Pins.cap, .slice H.Base.Limbo.a H.Base.Limbo.len H.Base.Limbo.cap, .slice H.Base.Haz.a H.Base.Haz.len H.Base.Haz.cap, .slice H.Cells.a H.Cells.len H.Cells.cap, .slice H.Jobs.a H.Jobs.len H.Jobs.cap, .slice H.Todo.a H.Todo.len H.Todo.cap, .slice H.Log.a H.Log.len H.Log.cap, .int .i64 x.Serial] 69
      exact hbx
    have hB : Below w.heap.size w (w.alloc (.cells #[.slice H.Base.Mem.Heap.Bytes.a H.Base.Mem.Heap.Bytes.len H.Base.Mem.Heap.Bytes.cap, .slice H.Base.Mem.Heap.Class.a H.Base.Mem.Heap.Class.len H.Base.Mem.Heap.Class.cap, .slice H.Base.Mem.Lists.Global.a H.Base.Mem.Lists.Global.len H.Base.Mem.Lists.Global.cap, .slice H.Base.Mem.Lists.Own.a H.Base.Mem.Lists.Own.len H.Base.Mem.Lists.Own.cap, .int .i64 x.Base.Clock.Epoch, .slice H.Base.Clock.Pins.a H.Base.Clock.Pins.len H.Base.Clock.Pins.cap, .slice H.Base.Limbo.a H.Base.Limbo.len H.Base.Limbo.cap, .slice H.Base.Haz.a H.Base.Haz.len H.Base.Haz.cap, .slice H.Cells.a H.Cells.len H.Cells.cap, .slice H.Jobs.a H.Jobs.len H.Jobs.cap, .slice H.Todo.a H.Todo.len H.Todo.cap, .slice H.Log.a H.Log.len H.Log.cap, .int .i64 x.Serial] 69)) := by repeat (first | exact Below.refl _ _ | refine Below.alloc ?_ (by simp <;> omega) _ | refine below_grow_of ?_ (by simp <;> omega) _ _ | refine Below.drew ?_ | refine below_drewN ?_ _)
    go_enter Tryz.func42, Tryz.ntmps42
    go_wp2_with fail
    generalize hW0 : (w.alloc (.cells #[.slice H.Base.Mem.Heap.Bytes.a H.Base.Mem.Heap.Bytes.len H.Base.Mem.Heap.Bytes.cap, .slice H.Base.Mem.Heap.Class.a H.Base.Mem.Heap.Class.len H.Base.Mem.Heap.Class.cap, .slice H.Base.Mem.Lists.Global.a H.Base.Mem.Lists.Global.len H.Base.Mem.Lists.Global.cap, .slice H.Base.Mem.Lists.Own.a H.Base.Mem.Lists.Own.len H.Base.Mem.Lists.Own.cap, .int .i64 x.Base.Clock.Epoch, .slice H.Base.Clock.Pins.a H.Base.Clock.Pins.len H.Base.Clock.Pins.cap, .slice H.Base.Limbo.a H.Base.Limbo.len H.Base.Limbo.cap, .slice H.Base.Haz.a H.Base.Haz.len H.Base.Haz.cap, .slice H.Cells.a H.Cells.len H.Cells.cap, .slice H.Jobs.a H.Jobs.len H.Jobs.cap, .slice H.Todo.a H.Todo.len H.Todo.cap, .slice H.Log.a H.Log.len H.Log.cap, .int .i64 x.Serial] 69)) = w0 at B_a hB ⊢
    clear hW0
    have zz_a := B_a.lt
    have q_a_0 := B_a.cell 0 _ rfl
    have q_a_1 := B_a.cell 1 _ rfl
    have q_a_2 := B_a.cell 2 _ rfl
    have q_a_3 := B_a.cell 3 _ rfl
    have q_a_4 := B_a.cell 4 _ rfl
    have q_a_5 := B_a.cell 5 _ rfl
    have q_a_6 := B_a.cell 6 _ rfl
    have q_a_7 := B_a.cell 7 _ rfl
    have q_a_8 := B_a.cell 8 _ rfl
    have q_a_9 := B_a.cell 9 _ rfl
    have q_a_10 := B_a.cell 10 _ rfl
    have q_a_11 := B_a.cell 11 _ rfl
    have q_a_12 := B_a.cell 12 _ rfl
    have fr_a := B_a.fro
    have z_a := B_a.lt
    refine (k0 _ hB).mono ?_
    rintro e w1 ⟨rfl, hb⟩
    replace B_a := B_a.below hb
    replace hB := hB.trans (hb.mono hB.size)
    have sz := hb.size
    clear hb
    replace q_a_0 := B_a.cell 0 _ rfl
    replace q_a_1 := B_a.cell 1 _ rfl
    replace q_a_2 := B_a.cell 2 _ rfl
    replace q_a_3 := B_a.cell 3 _ rfl
    replace q_a_4 := B_a.cell 4 _ rfl
    replace q_a_5 := B_a.cell 5 _ rfl
    replace q_a_6 := B_a.cell 6 _ rfl
    replace q_a_7 := B_a.cell 7 _ rfl
    replace q_a_8 := B_a.cell 8 _ rfl
    replace q_a_9 := B_a.cell 9 _ rfl
    replace q_a_10 := B_a.cell 10 _ rfl
    replace q_a_11 := B_a.cell 11 _ rfl
    replace q_a_12 := B_a.cell 12 _ rfl
    replace fr_a := B_a.fro
    replace z_a := B_a.lt
    clear k0
    go_wp2_with fail
    refine (k3 _ hB).mono ?_
    rintro e w2 ⟨rfl, hb⟩
    replace B_a := B_a.below hb
    replace hB := hB.trans (hb.mono hB.size)
    have sz := hb.size
    clear hb
    replace q_a_0 := B_a.cell 0 _ rfl
    replace q_a_1 := B_a.cell 1 _ rfl
    replace q_a_2 := B_a.cell 2 _ rfl
    replace q_a_3 := B_a.cell 3 _ rfl
    replace q_a_4 := B_a.cell 4 _ rfl
    replace q_a_5 := B_a.cell 5 _ rfl
    replace q_a_6 := B_a.cell 6 _ rfl
    replace q_a_7 := B_a.cell 7 _ rfl
    replace q_a_8 := B_a.cell 8 _ rfl
    replace q_a_9 := B_a.cell 9 _ rfl
    replace q_a_10 := B_a.cell 10 _ rfl
    replace q_a_11 := B_a.cell 11 _ rfl
    replace q_a_12 := B_a.cell 12 _ rfl
    replace fr_a := B_a.fro
    replace z_a := B_a.lt
    clear k3
    go_wp2_with fail
    go_ret
    exact ⟨ret_bool HV.out.symm, hB⟩
  | true =>
  cases c4 with
  | false =>
    replace HV : Hid (shelfOkB x = false) := Hid.mk_ (HV.out.trans (by simp))
    have B_a : Box (w.alloc (.cells #[.slice H.Base.Mem.Heap.Bytes.a H.Base.Mem.Heap.Bytes.len H.Base.Mem.Heap.Bytes.cap, .slice H.Base.Mem.Heap.Class.a H.Base.Mem.Heap.Class.len H.Base.Mem.Heap.Class.cap, .slice H.Base.Mem.Lists.Global.a H.Base.Mem.Lists.Global.len H.Base.Mem.Lists.Global.cap, .slice H.Base.Mem.Lists.Own.a H.Base.Mem.Lists.Own.len H.Base.Mem.Lists.Own.cap, .int .i64 x.Base.Clock.Epoch, .slice H.Base.Clock.Pins.a H.Base.Clock.Pins.len H.Base.Clock.Pins.cap, .slice H.Base.Limbo.a H.Base.Limbo.len H.Base.Limbo.cap, .slice H.Base.Haz.a H.Base.Haz.len H.Base.Haz.cap, .slice H.Cells.a H.Cells.len H.Cells.cap, .slice H.Jobs.a H.Jobs.len H.Jobs.cap, .slice H.Todo.a H.Todo.len H.Todo.cap, .slice H.Log.a H.Log.len H.Log.cap, .int .i64 x.Serial] 69)) (w.heap.size) [.slice H.Base.Mem.Heap.Bytes.a H.Base.Mem.Heap.Bytes.len H.Base.Mem.Heap.Bytes.cap, .slice H.Base.Mem.Heap.Class.a H.Base.Mem.Heap.Class.len H.Base.Mem.Heap.Class.cap, .slice H.Base.Mem.Lists.Global.a H.Base.Mem.Lists.Global.len H.Base.Mem.Lists.Global.cap, .slice H.Base.Mem.Lists.Own.a H.Base.Mem.Lists.Own.len H.Base.Mem.Lists.Own.cap, .int .i64 x.Base.Clock.Epoch, .slice H.Base.Clock.Pins.a H.Base.Clock.Pins.len H.Base.Clock.Pins.cap, .slice H.Base.Limbo.a H.Base.Limbo.len H.Base.Limbo.cap, .slice H.Base.Haz.a H.Base.Haz.len H.Base.Haz.cap, .slice H.Cells.a H.Cells.len H.Cells.cap, .slice H.Jobs.a H.Jobs.len H.Jobs.cap, .slice H.Todo.a H.Todo.len H.Todo.cap, .slice H.Log.a H.Log.len H.Log.cap, .int .i64 x.Serial] := by
      have hbx := Box.new w #[.slice H.Base.Mem.Heap.Bytes.a H.Base.Mem.Heap.Bytes.len H.Base.Mem.Heap.Bytes.cap, .slice H.Base.Mem.Heap.Class.a H.Base.Mem.Heap.Class.len H.Base.Mem.Heap.Class.cap, .slice H.Base.Mem.Lists.Global.a H.Base.Mem.Lists.Global.len H.Base.Mem.Lists.Global.cap, .slice H.Base.Mem.Lists.Own.a H.Base.Mem.Lists.Own.len H.Base.Mem.Lists.Own.cap, .int .i64 x.Base.Clock.Epoch, .slice H.Base.Clock.Pins.a H.Base.Clock.Pins.len H.Base.Clock.Pins.cap, .slice H.Base.Limbo.a H.Base.Limbo.len H.Base.Limbo.cap, .slice H.Base.Haz.a H.Base.Haz.len H.Base.Haz.cap, .slice H.Cells.a H.Cells.len H.Cells.cap, .slice H.Jobs.a H.Jobs.len H.Jobs.cap, .slice H.Todo.a H.Todo.len H.Todo.cap, .slice H.Log.a H.Log.len H.Log.cap, .int .i64 x.Serial] 69
      exact hbx
    have hB : Below w.heap.size w (w.alloc (.cells #[.slice H.Base.Mem.Heap.Bytes.a H.Base.Mem.Heap.Bytes.len H.Base.Mem.Heap.Bytes.cap, .slice H.Base.Mem.Heap.Class.a H.Base.Mem.Heap.Class.len H.Base.Mem.Heap.Class.cap, .slice H.Base.Mem.Lists.Global.a H.Base.Mem.Lists.Global.len H.Base.Mem.Lists.Global.cap, .slice H.Base.Mem.Lists.Own.a H.Base.Mem.Lists.Own.len H.Base.Mem.Lists.Own.cap, .int .i64 x.Base.Clock.Epoch, .slice H.Base.Clock.Pins.a H.Base.Clock.Pins.len H.Base.Clock.Pins.cap, .slice H.Base.Limbo.a H.Base.Limbo.len H.Base.Limbo.cap, .slice H.Base.Haz.a H.Base.Haz.len H.Base.Haz.cap, .slice H.Cells.a H.Cells.len H.Cells.cap, .slice H.Jobs.a H.Jobs.len H.Jobs.cap, .slice H.Todo.a H.Todo.len H.Todo.cap, .slice H.Log.a H.Log.len H.Log.cap, .int .i64 x.Serial] 69)) := by repeat (first | exact Below.refl _ _ | refine Below.alloc ?_ (by simp <;> omega) _ | refine below_grow_of ?_ (by simp <;> omega) _ _ | refine Below.drew ?_ | refine below_drewN ?_ _)
    go_enter Tryz.func42, Tryz.ntmps42
    go_wp2_with fail
    generalize hW0 : (w.alloc (.cells #[.slice H.Base.Mem.Heap.Bytes.a H.Base.Mem.Heap.Bytes.len H.Base.Mem.Heap.Bytes.cap, .slice H.Base.Mem.Heap.Class.a H.Base.Mem.Heap.Class.len H.Base.Mem.Heap.Class.cap, .slice H.Base.Mem.Lists.Global.a H.Base.Mem.Lists.Global.len H.Base.Mem.Lists.Global.cap, .slice H.Base.Mem.Lists.Own.a H.Base.Mem.Lists.Own.len H.Base.Mem.Lists.Own.cap, .int .i64 x.Base.Clock.Epoch, .slice H.Base.Clock.Pins.a H.Base.Clock.Pins.len H.Base.Clock.Pins.cap, .slice H.Base.Limbo.a H.Base.Limbo.len H.Base.Limbo.cap, .slice H.Base.Haz.a H.Base.Haz.len H.Base.Haz.cap, .slice H.Cells.a H.Cells.len H.Cells.cap, .slice H.Jobs.a H.Jobs.len H.Jobs.cap, .slice H.Todo.a H.Todo.len H.Todo.cap, .slice H.Log.a H.Log.len H.Log.cap, .int .i64 x.Serial] 69)) = w0 at B_a hB ⊢
    clear hW0
    have zz_a := B_a.lt
    have q_a_0 := B_a.cell 0 _ rfl
    have q_a_1 := B_a.cell 1 _ rfl
    have q_a_2 := B_a.cell 2 _ rfl
    have q_a_3 := B_a.cell 3 _ rfl
    have q_a_4 := B_a.cell 4 _ rfl
    have q_a_5 := B_a.cell 5 _ rfl
    have q_a_6 := B_a.cell 6 _ rfl
    have q_a_7 := B_a.cell 7 _ rfl
    have q_a_8 := B_a.cell 8 _ rfl
    have q_a_9 := B_a.cell 9 _ rfl
    have q_a_10 := B_a.cell 10 _ rfl
    have q_a_11 := B_a.cell 11 _ rfl
    have q_a_12 := B_a.cell 12 _ rfl
    have fr_a := B_a.fro
    have z_a := B_a.lt
    refine (k0 _ hB).mono ?_
    rintro e w1 ⟨rfl, hb⟩
    replace B_a := B_a.below hb
    replace hB := hB.trans (hb.mono hB.size)
    have sz := hb.size
    clear hb
    replace q_a_0 := B_a.cell 0 _ rfl
    replace q_a_1 := B_a.cell 1 _ rfl
    replace q_a_2 := B_a.cell 2 _ rfl
    replace q_a_3 := B_a.cell 3 _ rfl
    replace q_a_4 := B_a.cell 4 _ rfl
    replace q_a_5 := B_a.cell 5 _ rfl
    replace q_a_6 := B_a.cell 6 _ rfl
    replace q_a_7 := B_a.cell 7 _ rfl
    replace q_a_8 := B_a.cell 8 _ rfl
    replace q_a_9 := B_a.cell 9 _ rfl
    replace q_a_10 := B_a.cell 10 _ rfl
    replace q_a_11 := B_a.cell 11 _ rfl
    replace q_a_12 := B_a.cell 12 _ rfl
    replace fr_a := B_a.fro
    replace z_a := B_a.lt
    clear k0
    go_wp2_with fail
    refine (k3 _ hB).mono ?_
    rintro e w2 ⟨rfl, hb⟩
    replace B_a := B_a.below hb
    replace hB := hB.trans (hb.mono hB.size)
    have sz := hb.size
    clear hb
    replace q_a_0 := B_a.cell 0 _ rfl
    replace q_a_1 := B_a.cell 1 _ rfl
    replace q_a_2 := B_a.cell 2 _ rfl
    replace q_a_3 := B_a.cell 3 _ rfl
    replace q_a_4 := B_a.cell 4 _ rfl
    replace q_a_5 := B_a.cell 5 _ rfl
    replace q_a_6 := B_a.cell 6 _ rfl
    replace q_a_7 := B_a.cell 7 _ rfl
    replace q_a_8 := B_a.cell 8 _ rfl
    replace q_a_9 := B_a.cell 9 _ rfl
    replace q_a_10 := B_a.cell 10 _ rfl
    replace q_a_11 := B_a.cell 11 _ rfl
    replace q_a_12 := B_a.cell 12 _ rfl
    replace fr_a := B_a.fro
    replace z_a := B_a.lt
    clear k3
    go_wp2_with fail
    refine (k4 _ hB).mono ?_
    rintro e w3 ⟨rfl, hb⟩
    replace B_a := B_a.below hb
    replace hB := hB.trans (hb.mono hB.size)
    have sz := hb.size
    clear hb
    replace q_a_0 := B_a.cell 0 _ rfl
    replace q_a_1 := B_a.cell 1 _ rfl
    replace q_a_2 := B_a.cell 2 _ rfl
    replace q_a_3 := B_a.cell 3 _ rfl
    replace q_a_4 := B_a.cell 4 _ rfl
    replace q_a_5 := B_a.cell 5 _ rfl
    replace q_a_6 := B_a.cell 6 _ rfl
    replace q_a_7 := B_a.cell 7 _ rfl
    replace q_a_8 := B_a.cell 8 _ rfl
    replace q_a_9 := B_a.cell 9 _ rfl
    replace q_a_10 := B_a.cell 10 _ rfl
    replace q_a_11 := B_a.cell 11 _ rfl
    replace q_a_12 := B_a.cell 12 _ rfl
    replace fr_a := B_a.fro
    replace z_a := B_a.lt
    clear k4
    go_wp2_with fail
    go_ret
    exact ⟨ret_bool HV.out.symm, hB⟩
  | true =>
  have B_a : Box (w.alloc (.cells #[.slice H.Base.Mem.Heap.Bytes.a H.Base.Mem.Heap.Bytes.len H.Base.Mem.Heap.Bytes.cap, .slice H.Base.Mem.Heap.Class.a H.Base.Mem.Heap.Class.len H.Base.Mem.Heap.Class.cap, .slice H.Base.Mem.Lists.Global.a H.Base.Mem.Lists.Global.len H.Base.Mem.Lists.Global.cap, .slice H.Base.Mem.Lists.Own.a H.Base.Mem.Lists.Own.len H.Base.Mem.Lists.Own.cap, .int .i64 x.Base.Clock.Epoch, .slice H.Base.Clock.Pins.a H.Base.Clock.Pins.len H.Base.Clock.Pins.cap, .slice H.Base.Limbo.a H.Base.Limbo.len H.Base.Limbo.cap, .slice H.Base.Haz.a H.Base.Haz.len H.Base.Haz.cap, .slice H.Cells.a H.Cells.len H.Cells.cap, .slice H.Jobs.a H.Jobs.len H.Jobs.cap, .slice H.Todo.a H.Todo.len H.Todo.cap, .slice H.Log.a H.Log.len H.Log.cap, .int .i64 x.Serial] 69)) (w.heap.size) [.slice H.Base.Mem.Heap.Bytes.a H.Base.Mem.Heap.Bytes.len H.Base.Mem.Heap.Bytes.cap, .slice H.Base.Mem.Heap.Class.a H.Base.Mem.Heap.Class.len H.Base.Mem.Heap.Class.cap, .slice H.Base.Mem.Lists.Global.a H.Base.Mem.Lists.Global.len H.Base.Mem.Lists.Global.cap, .slice H.Base.Mem.Lists.Own.a H.Base.Mem.Lists.Own.len H.Base.Mem.Lists.Own.cap, .int .i64 x.Base.Clock.Epoch, .slice H.Base.Clock.Pins.a H.Base.Clock.Pins.len H.Base.Clock.Pins.cap, .slice H.Base.Limbo.a H.Base.Limbo.len H.Base.Limbo.cap, .slice H.Base.Haz.a H.Base.Haz.len H.Base.Haz.cap, .slice H.Cells.a H.Cells.len H.Cells.cap, .slice H.Jobs.a H.Jobs.len H.Jobs.cap, .slice H.Todo.a H.Todo.len H.Todo.cap, .slice H.Log.a H.Log.len H.Log.cap, .int .i64 x.Serial] := by
    have hbx := Box.new w #[.slice H.Base.Mem.Heap.Bytes.a H.Base.Mem.Heap.Bytes.len H.Base.Mem.Heap.Bytes.cap, .slice H.Base.Mem.Heap.Class.a H.Base.Mem.Heap.Class.len H.Base.Mem.Heap.Class.cap, .slice H.Base.Mem.Lists.Global.a H.Base.Mem.Lists.Global.len H.Base.Mem.Lists.Global.cap, .slice H.Base.Mem.Lists.Own.a H.Base.Mem.Lists.Own.len H.Base.Mem.Lists.Own.cap, .int .i64 x.Base.Clock.Epoch, .slice H.Base.Clock.Pins.a H.Base.Clock.Pins.len H.Base.Clock.Pins.cap, .slice H.Base.Limbo.a H.Base.Limbo.len H.Base.Limbo.cap, .slice H.Base.Haz.a H.Base.Haz.len H.Base.Haz.cap, .slice H.Cells.a H.Cells.len H.Cells.cap, .slice H.Jobs.a H.Jobs.len H.Jobs.cap, .slice H.Todo.a H.Todo.len H.Todo.cap, .slice H.Log.a H.Log.len H.Log.cap, .int .i64 x.Serial] 69
    exact hbx
  have hB : Below w.heap.size w (w.alloc (.cells #[.slice H.Base.Mem.Heap.Bytes.a H.Base.Mem.Heap.Bytes.len H.Base.Mem.Heap.Bytes.cap, .slice H.Base.Mem.Heap.Class.a H.Base.Mem.Heap.Class.len H.Base.Mem.Heap.Class.cap, .slice H.Base.Mem.Lists.Global.a H.Base.Mem.Lists.Global.len H.Base.Mem.Lists.Global.cap, .slice H.Base.Mem.Lists.Own.a H.Base.Mem.Lists.Own.len H.Base.Mem.Lists.Own.cap, .int .i64 x.Base.Clock.Epoch, .slice H.Base.Clock.Pins.a H.Base.Clock.Pins.len H.Base.Clock.Pins.cap, .slice H.Base.Limbo.a H.Base.Limbo.len H.Base.Limbo.cap, .slice H.Base.Haz.a H.Base.Haz.len H.Base.Haz.cap, .slice H.Cells.a H.Cells.len H.Cells.cap, .slice H.Jobs.a H.Jobs.len H.Jobs.cap, .slice H.Todo.a H.Todo.len H.Todo.cap, .slice H.Log.a H.Log.len H.Log.cap, .int .i64 x.Serial] 69)) := by repeat (first | exact Below.refl _ _ | refine Below.alloc ?_ (by simp <;> omega) _ | refine below_grow_of ?_ (by simp <;> omega) _ _ | refine Below.drew ?_ | refine below_drewN ?_ _)
  go_enter Tryz.func42, Tryz.ntmps42
  go_wp2_with fail
  generalize hW0 : (w.alloc (.cells #[.slice H.Base.Mem.Heap.Bytes.a H.Base.Mem.Heap.Bytes.len H.Base.Mem.Heap.Bytes.cap, .slice H.Base.Mem.Heap.Class.a H.Base.Mem.Heap.Class.len H.Base.Mem.Heap.Class.cap, .slice H.Base.Mem.Lists.Global.a H.Base.Mem.Lists.Global.len H.Base.Mem.Lists.Global.cap, .slice H.Base.Mem.Lists.Own.a H.Base.Mem.Lists.Own.len H.Base.Mem.Lists.Own.cap, .int .i64 x.Base.Clock.Epoch, .slice H.Base.Clock.Pins.a H.Base.Clock.Pins.len H.Base.Clock.Pins.cap, .slice H.Base.Limbo.a H.Base.Limbo.len H.Base.Limbo.cap, .slice H.Base.Haz.a H.Base.Haz.len H.Base.Haz.cap, .slice H.Cells.a H.Cells.len H.Cells.cap, .slice H.Jobs.a H.Jobs.len H.Jobs.cap, .slice H.Todo.a H.Todo.len H.Todo.cap, .slice H.Log.a H.Log.len H.Log.cap, .int .i64 x.Serial] 69)) = w0 at B_a hB ⊢
  clear hW0
  have zz_a := B_a.lt
  have q_a_0 := B_a.cell 0 _ rfl
  have q_a_1 := B_a.cell 1 _ rfl
  have q_a_2 := B_a.cell 2 _ rfl
  have q_a_3 := B_a.cell 3 _ rfl
  have q_a_4 := B_a.cell 4 _ rfl
  have q_a_5 := B_a.cell 5 _ rfl
  have q_a_6 := B_a.cell 6 _ rfl
  have q_a_7 := B_a.cell 7 _ rfl
  have q_a_8 := B_a.cell 8 _ rfl
  have q_a_9 := B_a.cell 9 _ rfl
  have q_a_10 := B_a.cell 10 _ rfl
  have q_a_11 := B_a.cell 11 _ rfl
  have q_a_12 := B_a.cell 12 _ rfl
  have fr_a := B_a.fro
  have z_a := B_a.lt
  refine (k0 _ hB).mono ?_
  rintro e w1 ⟨rfl, hb⟩
  replace B_a := B_a.below hb
  replace hB := hB.trans (hb.mono hB.size)
  have sz := hb.size
  clear hb
  replace q_a_0 := B_a.cell 0 _ rfl
  replace q_a_1 := B_a.cell 1 _ rfl
  replace q_a_2 := B_a.cell 2 _ rfl
  replace q_a_3 := B_a.cell 3 _ rfl
  replace q_a_4 := B_a.cell 4 _ rfl
  replace q_a_5 := B_a.cell 5 _ rfl
  replace q_a_6 := B_a.cell 6 _ rfl
  replace q_a_7 := B_a.cell 7 _ rfl
  replace q_a_8 := B_a.cell 8 _ rfl
  replace q_a_9 := B_a.cell 9 _ rfl
  replace q_a_10 := B_a.cell 10 _ rfl
  replace q_a_11 := B_a.cell 11 _ rfl
  replace q_a_12 := B_a.cell 12 _ rfl
  replace fr_a := B_a.fro
  replace z_a := B_a.lt
  clear k0
  go_wp2_with fail
  refine (k3 _ hB).mono ?_
  rintro e w2 ⟨rfl, hb⟩
  replace B_a := B_a.below hb
  replace hB := hB.trans (hb.mono hB.size)
  have sz := hb.size
  clear hb
  replace q_a_0 := B_a.cell 0 _ rfl
  replace q_a_1 := B_a.cell 1 _ rfl
  replace q_a_2 := B_a.cell 2 _ rfl
  replace q_a_3 := B_a.cell 3 _ rfl
  replace q_a_4 := B_a.cell 4 _ rfl
  replace q_a_5 := B_a.cell 5 _ rfl
  replace q_a_6 := B_a.cell 6 _ rfl
  replace q_a_7 := B_a.cell 7 _ rfl
  replace q_a_8 := B_a.cell 8 _ rfl
  replace q_a_9 := B_a.cell 9 _ rfl
  replace q_a_10 := B_a.cell 10 _ rfl
  replace q_a_11 := B_a.cell 11 _ rfl
  replace q_a_12 := B_a.cell 12 _ rfl
  replace fr_a := B_a.fro
  replace z_a := B_a.lt
  clear k3
  go_wp2_with fail
  refine (k4 _ hB).mono ?_
  rintro e w3 ⟨rfl, hb⟩
  replace B_a := B_a.below hb
  replace hB := hB.trans (hb.mono hB.size)
  have sz := hb.size
  clear hb
  replace q_a_0 := B_a.cell 0 _ rfl
  replace q_a_1 := B_a.cell 1 _ rfl
  replace q_a_2 := B_a.cell 2 _ rfl
  replace q_a_3 := B_a.cell 3 _ rfl
  replace q_a_4 := B_a.cell 4 _ rfl
  replace q_a_5 := B_a.cell 5 _ rfl
  replace q_a_6 := B_a.cell 6 _ rfl
  replace q_a_7 := B_a.cell 7 _ rfl
  replace q_a_8 := B_a.cell 8 _ rfl
  replace q_a_9 := B_a.cell 9 _ rfl
  replace q_a_10 := B_a.cell 10 _ rfl
  replace q_a_11 := B_a.cell 11 _ rfl
  replace q_a_12 := B_a.cell 12 _ rfl
  replace fr_a := B_a.fro
  replace z_a := B_a.lt
  clear k4
  replace HV : Hid (shelfOkB x = (!(x.Cells.any fun h => !Lim.linkB h) && !(x.Jobs.any fun j => !jobOkB j))) := Hid.mk_ (HV.out.trans (by simp))
  have lC : x.Cells.length = 2 := by have a := hc1.out.symm; simp at a; exact a
  have lJ : x.Jobs.length = 3 := by have a := hc2.out.symm; simp at a; exact a
  clear hc1 hc2
  generalize x.Cells = lc at *
  go_wp2_with fail
  go_loopw [3] (fun i wr => ∃ k : Nat, k ≤ 2 ∧ i = .int .i64 k ∧ Hid ((lc.take k).any (fun h => !Lim.linkB h) = false) ∧ Box wr w.heap.size [.slice H.Base.Mem.Heap.Bytes.a H.Base.Mem.Heap.Bytes.len H.Base.Mem.Heap.Bytes.cap, .slice H.Base.Mem.Heap.Class.a H.Base.Mem.Heap.Class.len H.Base.Mem.Heap.Class.cap, .slice H.Base.Mem.Lists.Global.a H.Base.Mem.Lists.Global.len H.Base.Mem.Lists.Global.cap, .slice H.Base.Mem.Lists.Own.a H.Base.Mem.Lists.Own.len H.Base.Mem.Lists.Own.cap, .int .i64 x.Base.Clock.Epoch, .slice H.Base.Clock.Pins.a H.Base.Clock.Pins.len H.Base.Clock.Pins.cap, .slice H.Base.Limbo.a H.Base.Limbo.len H.Base.Limbo.cap, .slice H.Base.Haz.a H.Base.Haz.len H.Base.Haz.cap, .slice H.Cells.a H.Cells.len H.Cells.cap, .slice H.Jobs.a H.Jobs.len H.Jobs.cap, .slice H.Todo.a H.Todo.len H.Todo.cap, .slice H.Log.a H.Log.len H.Log.cap, .int .i64 x.Serial] ∧ Below w.heap.size w wr) (fun i _ => 2 - (intOf i).toNat)
  case atStart => exact ⟨0, Nat.zero_le _, rfl, Hid.mk_ rfl, B_a, hB⟩
  case round =>
    clear B_a hB q_a_0 q_a_1 q_a_2 q_a_3 q_a_4 q_a_5 q_a_6 q_a_7 q_a_8 q_a_9 q_a_10 q_a_11 q_a_12 fr_a z_a
    obtain ⟨i, hi, rfl, HN, B_a, hB⟩ := hrel
    have z_a := B_a.lt
    have q_a_8 := B_a.cell 8 _ rfl
    replace rC := rd_up rC hB
    by_cases hlt0 : i < 2
    · have hlt : i < lc.length := by omega
      obtain ⟨Av, nv, cv, hv⟩ : ∃ A n c, H.Cells = ⟨A, n, c⟩ := ⟨_, _, _, rfl⟩
      rw [hv] at rC q_a_8
      clear hv
      simp only [SV.val] at rC q_a_8
      obtain ⟨g, off, cap', he, hg, _, _, hc⟩ := rC.at_ (List.getElem?_eq_getElem hlt)
      injection he with he1 he2 he3
      subst he1 he2 he3
      have p0 := hc 0 _ rfl
      simp only [FI, Nat.mul_one, Nat.add_zero] at p0
      clear hc rC rJ
      have HX := Hid.mk_ (fun hh : (!Lim.linkB lc[i]) = false => Lim.any_take_succ (fun h => !Lim.linkB h) lc i hlt HN.out hh)
      have HY := Hid.mk_ (fun hh : (!Lim.linkB lc[i]) = true => (List.any_eq_true.2 ⟨lc[i], List.getElem_mem hlt, hh⟩ : lc.any (fun h => !Lim.linkB h) = true))
      have kS := fun W => l15Some_ct lc[i] W
      generalize lc[i] = hd at *
      generalize Lim.linkB hd = lk at *
      cases lk with
      | false =>
        have HZ := Hid.mk_ (show shelfOkB x = false by rw [HV.out, HY.out rfl]; rfl)
        go_wp2_with (go_at_call 108; refine (kS _).mono ?_; rintro e w1 ⟨rfl, rfl⟩)
        go_ret
        exact ⟨ret_bool HZ.out.symm, hB⟩
      | true =>
        have HZ := Hid.mk_ (HX.out rfl)
        go_wp2_with (go_at_call 108; refine (kS _).mono ?_; rintro e w1 ⟨rfl, rfl⟩)
        go_roundw
        case rel => exact ⟨i + 1, by omega, by go_num, HZ, B_a, hB⟩
        case measure => simp [intOf]; omega
    · have HC : Hid (lc.any (fun h => !Lim.linkB h) = false) := Hid.mk_ (by have a := HN.out; rwa [List.take_of_length_le (by omega)] at a)
      replace HV : Hid (shelfOkB x = !(x.Jobs.any fun j => !jobOkB j)) := Hid.mk_ (by rw [HV.out, HC.out]; simp)
      clear HN HC rC
      generalize x.Jobs = lj at *
      go_wp2_with fail
      go_loopw [4] (fun i wr => ∃ k : Nat, k ≤ 3 ∧ i = .int .i64 k ∧ Hid ((lj.take k).any (fun j => !jobOkB j) = false) ∧ Box wr w.heap.size [.slice H.Base.Mem.Heap.Bytes.a H.Base.Mem.Heap.Bytes.len H.Base.Mem.Heap.Bytes.cap, .slice H.Base.Mem.Heap.Class.a H.Base.Mem.Heap.Class.len H.Base.Mem.Heap.Class.cap, .slice H.Base.Mem.Lists.Global.a H.Base.Mem.Lists.Global.len H.Base.Mem.Lists.Global.cap, .slice H.Base.Mem.Lists.Own.a H.Base.Mem.Lists.Own.len H.Base.Mem.Lists.Own.cap, .int .i64 x.Base.Clock.Epoch, .slice H.Base.Clock.Pins.a H.Base.Clock.Pins.len H.Base.Clock.Pins.cap, .slice H.Base.Limbo.a H.Base.Limbo.len H.Base.Limbo.cap, .slice H.Base.Haz.a H.Base.Haz.len H.Base.Haz.cap, .slice H.Cells.a H.Cells.len H.Cells.cap, .slice H.Jobs.a H.Jobs.len H.Jobs.cap, .slice H.Todo.a H.Todo.len H.Todo.cap, .slice H.Log.a H.Log.len H.Log.cap, .int .i64 x.Serial] ∧ Below w.heap.size w wr) (fun i _ => 3 - (intOf i).toNat)
      case atStart => exact ⟨0, Nat.zero_le _, rfl, Hid.mk_ rfl, B_a, hB⟩
      case round =>
        clear B_a hB q_a_8 z_a
        obtain ⟨i, hi, rfl, HN, B_a, hB⟩ := hrel
        have z_a := B_a.lt
        have q_a_9 := B_a.cell 9 _ rfl
        by_cases hlt0 : i < 3
        · have hlt : i < lj.length := by omega
          replace rJ := rd_up rJ hB
          obtain ⟨Av, nv, cv, hv⟩ : ∃ A n c, H.Jobs = ⟨A, n, c⟩ := ⟨_, _, _, rfl⟩
          rw [hv] at rJ q_a_9
          clear hv
          simp only [SV.val] at rJ q_a_9
          obtain ⟨g, off, cap', he, hg, _, _, hc⟩ := rJ.range_ (List.getElem?_eq_getElem hlt)
          injection he with he1 he2 he3
          subst he1 he2 he3
          have HX := Hid.mk_ (fun hh : (!jobOkB lj[i]) = false => Lim.any_take_succ (fun j => !jobOkB j) lj i hlt HN.out hh)
          have HY := Hid.mk_ (fun hh : (!jobOkB lj[i]) = true => (List.any_eq_true.2 ⟨lj[i], List.getElem_mem hlt, hh⟩ : lj.any (fun j => !jobOkB j) = true))
          generalize lj[i] = x1 at *
          clear rJ
          obtain ⟨cs, hcs⟩ : ∃ cs, cs = FJob.enc x1 := ⟨_, rfl⟩
          have hlen : cs.length = 21 := by rw [hcs]; exact FJob.len x1
          have hO : cs.toArray.all (·.oneCell') = true := by rw [hcs]; exact all_oneCell_toArray (FJob.one x1)
          have hsz : (Tryz.prog.info? 146).map (·.size) = some cs.toArray.size := by rw [List.size_toArray, hlen]; exact Tryz.sizeJob
          rw [show (FJob.n : Nat) = 21 from rfl] at hc
          have HS2 := Hid.mk_ (show cs.toArray.size = 21 by rw [List.size_toArray, hlen])
          have bj : Box (wr.alloc (.cells cs.toArray 146)) wr.heap.size cs := Box.new wr cs.toArray 146
          have hr : row? wr g (off + i * 21) 21 = some cs := row?_of (by rw [hcs]; exact hc) hlen
          have hr2 : row? (wr.alloc (.cells cs.toArray 146)) wr.heap.size 0 21 = some cs := row?_of (fun j v hv => by rw [Nat.zero_add]; exact bj.cell j v hv) hlen
          have p0 := bj.cell 0 (.bool x1.Busy) (by rw [hcs]; rfl)
          have p1 := bj.cell 1 (.int .i64 x1.Op.Kind) (by rw [hcs]; rfl)
          have p2 := bj.cell 2 (.int .i64 x1.Op.Cell) (by rw [hcs]; rfl)
          have p3 := bj.cell 3 (.int .i64 x1.Op.Size) (by rw [hcs]; rfl)
          have p4 := bj.cell 4 (.int .i64 x1.Op.Val) (by rw [hcs]; rfl)
          have p17 := bj.cell 17 (.int .i64 x1.H) (by rw [hcs]; rfl)
          have p18 := bj.cell 18 (.int .i64 x1.Old) (by rw [hcs]; rfl)
          have e17 := Hid.mk_ (show cs[17]? = some (.int .i64 x1.H) by rw [hcs]; rfl)
          have e18 := Hid.mk_ (show cs[18]? = some (.int .i64 x1.Old) by rw [hcs]; rfl)
          have hq : ∀ W : World, (binOp .neq 146 (.agg (FJob.enc x1).toArray) (.agg #[.bool false, .int .i64 0, .int .i64 0, .int .i64 0, .int .i64 0, .int .i64 0, .int .i64 0, .int .i64 0, .int .i64 0, .int .i64 0, .int .i64 0, .int .i64 0, .int .i64 0, .int .i64 0, .int .i64 0, .int .i64 0, .bool false, .int .i64 0, .int .i64 0, .int .i64 0, .int .i64 0])).run Tryz.prog W = .ok (.bool (!decide (x1 = zeroJob))) W := fun W => neqRunJob x1 zeroJob W
          rw [← hcs] at hq
          have kO := fun W => opOk_spec x1.Op.Kind x1.Op.Cell x1.Op.Size x1.Op.Val W
          rw [show opOkB x1.Op.Kind x1.Op.Cell x1.Op.Size x1.Op.Val = opOkS x1.Op from rfl] at kO
          have HJ : Hid (jobOkB x1 = if x1.Busy = true then opOkS x1.Op && Lim.linkB x1.H && Lim.linkB x1.Old else decide (x1 = zeroJob)) := Hid.mk_ rfl
          have HJ0 : Hid (decide (x1 = zeroJob) = true → Lim.linkB x1.H = true ∧ Lim.linkB x1.Old = true) := Hid.mk_ (fun a => by rw [of_decide_eq_true a]; exact ⟨rfl, rfl⟩)
          clear hcs hc hlen
          have hzl : wr.heap.size < (wr.alloc (.cells cs.toArray 146)).heap.size := bj.lt
          generalize opOkS x1.Op = c0 at kO HJ
          generalize lH : Lim.linkB x1.H = c1 at HJ HJ0
          generalize lP : Lim.linkB x1.Old = c2 at HJ HJ0
          generalize decide (x1 = zeroJob) = dz at hq HJ HJ0
          generalize x1.Busy = bb at p0 HJ
          generalize x1.H = vH at *
          generalize x1.Old = vO at *
          generalize x1.Op.Kind = o1 at p1 kO
          generalize x1.Op.Cell = o2 at p2 kO
          generalize x1.Op.Size = o3 at p3 kO
          generalize x1.Op.Val = o4 at p4 kO
          cases bb with
          | false =>
            replace HJ : Hid (jobOkB x1 = dz) := Hid.mk_ HJ.out
            cases dz with
            | false =>
              have HZ := Hid.mk_ (show shelfOkB x = false by rw [HV.out, HY.out (by rw [HJ.out]; rfl)]; rfl)
              go_wp2_with (first | (have hz9 := hsz; clear hsz; refine wpList_store_new2 rfl 146 (.tmp 5) (.tmp 53) rfl cs.toArray rfl rfl hz9 (by rw [HS2.out]; rfl) hO ?_; clear hz9))
              go_ret
              exact ⟨ret_bool HZ.out.symm, hB.alloc hB.size _⟩
            | true =>
              obtain ⟨rfl, rfl⟩ := HJ0.out rfl
              have HZ := Hid.mk_ (HX.out (by rw [HJ.out]; rfl))
              go_wp2_with (first | (go_at_call 108; refine (l15Some_ct _ _).mono ?_; rintro e wq ⟨rfl, rfl⟩) | (have hz9 := hsz; clear hsz; refine wpList_store_new2 rfl 146 (.tmp 5) (.tmp 53) rfl cs.toArray rfl rfl hz9 (by rw [HS2.out]; rfl) hO ?_; clear hz9))
              go_roundw
              case rel => exact ⟨i + 1, by omega, by go_num, HZ, B_a.alloc _, hB.alloc hB.size _⟩
              case measure => simp [intOf]; omega
          | true =>
            replace HJ : Hid (jobOkB x1 = (c0 && c1 && c2)) := Hid.mk_ HJ.out
            cases c0 with
            | false =>
              have HZ := Hid.mk_ (show shelfOkB x = false by rw [HV.out, HY.out (by rw [HJ.out]; rfl)]; rfl)
              go_wp2_with (first | (go_at_call 109; refine (kO _).mono ?_; rintro e w8 ⟨rfl, hb8⟩; replace bj := bj.below hb8; replace B_a := (B_a.alloc (.cells cs.toArray 146)).below hb8; replace hB := (hB.alloc hB.size (.cells cs.toArray 146)).trans (hb8.mono (by have := hB.size; simp; omega)); clear hb8 kO hr hr2 p0 p1 p2 p3 p4 p17 p18 q_a_9 z_a hzl; have p17 := bj.cell 17 _ e17.out; have p18 := bj.cell 18 _ e18.out) | (go_at_call 108; refine (l15Some_ct _ _).mono ?_; rintro e wq ⟨rfl, rfl⟩) | (have hz9 := hsz; clear hsz; refine wpList_store_new2 rfl 146 (.tmp 5) (.tmp 53) rfl cs.toArray rfl rfl hz9 (by rw [HS2.out]; rfl) hO ?_; clear hz9))
              go_ret
              exact ⟨ret_bool HZ.out.symm, hB⟩
            | true =>
              cases c1 with
              | false =>
                have HZ := Hid.mk_ (show shelfOkB x = false by rw [HV.out, HY.out (by rw [HJ.out]; rfl)]; rfl)
                go_wp2_with (first | (go_at_call 109; refine (kO _).mono ?_; rintro e w8 ⟨rfl, hb8⟩; replace bj := bj.below hb8; replace B_a := (B_a.alloc (.cells cs.toArray 146)).below hb8; replace hB := (hB.alloc hB.size (.cells cs.toArray 146)).trans (hb8.mono (by have := hB.size; simp; omega)); clear hb8 kO hr hr2 p0 p1 p2 p3 p4 p17 p18 q_a_9 z_a hzl; have p17 := bj.cell 17 _ e17.out; have p18 := bj.cell 18 _ e18.out) | (go_at_call 108; refine (l15Some_ct _ _).mono ?_; rintro e wq ⟨rfl, rfl⟩) | (have hz9 := hsz; clear hsz; refine wpList_store_new2 rfl 146 (.tmp 5) (.tmp 53) rfl cs.toArray rfl rfl hz9 (by rw [HS2.out]; rfl) hO ?_; clear hz9))
                go_ret
                exact ⟨ret_bool HZ.out.symm, hB⟩
              | true =>
                cases c2 with
                | false =>
                  have HZ := Hid.mk_ (show shelfOkB x = false by rw [HV.out, HY.out (by rw [HJ.out]; rfl)]; rfl)
                  go_wp2_with (first | (go_at_call 109; refine (kO _).mono ?_; rintro e w8 ⟨rfl, hb8⟩; replace bj := bj.below hb8; replace B_a := (B_a.alloc (.cells cs.toArray 146)).below hb8; replace hB := (hB.alloc hB.size (.cells cs.toArray 146)).trans (hb8.mono (by have := hB.size; simp; omega)); clear hb8 kO hr hr2 p0 p1 p2 p3 p4 p17 p18 q_a_9 z_a hzl; have p17 := bj.cell 17 _ e17.out; have p18 := bj.cell 18 _ e18.out) | (go_at_call 108; refine (l15Some_ct _ _).mono ?_; rintro e wq ⟨rfl, rfl⟩) | (have hz9 := hsz; clear hsz; refine wpList_store_new2 rfl 146 (.tmp 5) (.tmp 53) rfl cs.toArray rfl rfl hz9 (by rw [HS2.out]; rfl) hO ?_; clear hz9))
                  go_ret
                  exact ⟨ret_bool HZ.out.symm, hB⟩
                | true =>
                  have HZ := Hid.mk_ (HX.out (by rw [HJ.out]; rfl))
                  go_wp2_with (first | (go_at_call 109; refine (kO _).mono ?_; rintro e w8 ⟨rfl, hb8⟩; replace bj := bj.below hb8; replace B_a := (B_a.alloc (.cells cs.toArray 146)).below hb8; replace hB := (hB.alloc hB.size (.cells cs.toArray 146)).trans (hb8.mono (by have := hB.size; simp; omega)); clear hb8 kO hr hr2 p0 p1 p2 p3 p4 p17 p18 q_a_9 z_a hzl; have p17 := bj.cell 17 _ e17.out; have p18 := bj.cell 18 _ e18.out) | (go_at_call 108; refine (l15Some_ct _ _).mono ?_; rintro e wq ⟨rfl, rfl⟩) | (have hz9 := hsz; clear hsz; refine wpList_store_new2 rfl 146 (.tmp 5) (.tmp 53) rfl cs.toArray rfl rfl hz9 (by rw [HS2.out]; rfl) hO ?_; clear hz9))
                  go_roundw
                  case rel => exact ⟨i + 1, by omega, by go_num, HZ, B_a, hB⟩
                  case measure => simp [intOf]; omega
        · have HZ := Hid.mk_ (show shelfOkB x = true by rw [HV.out, show lj.any (fun j => !jobOkB j) = false by have a := HN.out; rwa [List.take_of_length_le (by omega)] at a]; rfl)
          go_wp2_with fail
          go_ret
          exact ⟨ret_bool HZ.out.symm, hB⟩
end Go.Proofs.YtkldapdpaldbgaaGreat
