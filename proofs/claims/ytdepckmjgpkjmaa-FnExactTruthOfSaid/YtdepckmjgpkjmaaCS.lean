/-
  CellAt of the reference: the contract.
-/
import Derived.Test.YtdepckmjgpkjmaaT
import Derived.Test.YtdepckmjgpkjmaaL
import Derived.Deep.QuietTactic
import Derived.BigQuiet
import Derived.Deep.LoopGhost
import Derived.Deep.RegionHeld3
import Derived.Test.YtdepckmjgpkjmaaN
import Derived.Test.YtdepckmjgpkjmaaA
import Derived.WalkSpells
import Derived.Laws.Cover3
import Derived.Test.YtdepckmjgpkjmaaCI
import Derived.RangeFuncNested
import Derived.RangeFuncBound
import Derived.RangeFuncCalls
import Derived.RangeFuncLeaves
import Derived.Shelf.Abstract
import Derived.Shelf.RegionOpen
import Derived.WalkKit
import Derived.OwnWalkIn
import Derived.TacticsInMore
import Derived.LoopNIn
import Derived.LoopIn
namespace Go.Proofs.Ytdepckmjgpkjmaa
open Go.RowKit
open Go.Shelf

set_option maxRecDepth 100000 in
set_option maxHeartbeats 2000000 in
theorem CellAt_spec (w : World) (v : Value) (l : List Ev) (i cell : Int) (h : RdL FEv w w.heap.size v l) :
    Calls Try.prog 10 #[v, .int .i64 i, .int .i64 cell] w fun e w' => e = .returned (.agg #[.int .i64 (cellAtP l i cell).Kind, .int .i64 (cellAtP l i cell).Who, .int .i64 (cellAtP l i cell).Serial, .int .i64 (cellAtP l i cell).Cell, .int .i64 (cellAtP l i cell).Handle, .int .i64 (cellAtP l i cell).Val, .int .i64 (cellAtP l i cell).Code]) ∧ Below w.heap.size w w' := by
  obtain ⟨A, c, hv, _, _, _⟩ := id h
  subst hv
  obtain ⟨_, hln⟩ := RdL.len_ h
  have HP := Hid.mk_ (show ∀ k : Nat, k ≤ l.length → (k : Int) ≤ max i 0 → (i ≤ (k : Int) ∨ l.length ≤ k) → cellAtP l i cell = swapTo cell (l.take k) from fun k h1 h2 h3 => by
    unfold cellAtP
    rw [show (min i (l.length : Int)).toNat = k by omega])
  have bR : Box ((w.alloc (.cells #[.int .i64 0, .int .i64 0, .int .i64 0, .int .i64 0, .int .i64 0, .int .i64 0, .int .i64 0] 25)).alloc (.cells #[.int .i64 0, .int .i64 0, .int .i64 0, .int .i64 0, .int .i64 0, .int .i64 0, .int .i64 0] 25)) (w.heap.size) [.int .i64 0, .int .i64 0, .int .i64 0, .int .i64 0, .int .i64 0, .int .i64 0, .int .i64 0] := (Box.new w #[.int .i64 0, .int .i64 0, .int .i64 0, .int .i64 0, .int .i64 0, .int .i64 0, .int .i64 0] 25).alloc _
  have bO : Box ((w.alloc (.cells #[.int .i64 0, .int .i64 0, .int .i64 0, .int .i64 0, .int .i64 0, .int .i64 0, .int .i64 0] 25)).alloc (.cells #[.int .i64 0, .int .i64 0, .int .i64 0, .int .i64 0, .int .i64 0, .int .i64 0, .int .i64 0] 25)) (w.heap.size + 1) [.int .i64 0, .int .i64 0, .int .i64 0, .int .i64 0, .int .i64 0, .int .i64 0, .int .i64 0] := by have a := Box.new (w.alloc (.cells #[.int .i64 0, .int .i64 0, .int .i64 0, .int .i64 0, .int .i64 0, .int .i64 0, .int .i64 0] 25)) #[.int .i64 0, .int .i64 0, .int .i64 0, .int .i64 0, .int .i64 0, .int .i64 0, .int .i64 0] 25; simpa only [World.size_alloc] using a
  have hB : Below w.heap.size w ((w.alloc (.cells #[.int .i64 0, .int .i64 0, .int .i64 0, .int .i64 0, .int .i64 0, .int .i64 0, .int .i64 0] 25)).alloc (.cells #[.int .i64 0, .int .i64 0, .int .i64 0, .int .i64 0, .int .i64 0, .int .i64 0, .int .i64 0] 25)) := by repeat (first | exact Below.refl _ _ | refine Below.alloc ?_ (by simp <;> omega) _ | refine below_grow_of ?_ (by simp <;> omega) _ _ | refine Below.drew ?_ | refine below_drewN ?_ _)
  go_enter Try.func10, Try.ntmps10
  go_wp2_with fail
  generalize hW0 : ((w.alloc (.cells #[.int .i64 0, .int .i64 0, .int .i64 0, .int .i64 0, .int .i64 0, .int .i64 0, .int .i64 0] 25)).alloc (.cells #[.int .i64 0, .int .i64 0, .int .i64 0, .int .i64 0, .int .i64 0, .int .i64 0, .int .i64 0] 25)) = w0 at bR bO hB ⊢
  clear hW0
  go_loopw [8] (fun i8 wr => ∃ k : Nat, k ≤ l.length ∧ (k : Int) ≤ max i 0 ∧ i8 = .int .i64 k ∧ Box wr (w.heap.size) [.int .i64 0, .int .i64 0, .int .i64 0, .int .i64 0, .int .i64 0, .int .i64 0, .int .i64 0] ∧ Box wr (w.heap.size + 1) [.int .i64 (swapTo cell (l.take k)).Kind, .int .i64 (swapTo cell (l.take k)).Who, .int .i64 (swapTo cell (l.take k)).Serial, .int .i64 (swapTo cell (l.take k)).Cell, .int .i64 (swapTo cell (l.take k)).Handle, .int .i64 (swapTo cell (l.take k)).Val, .int .i64 (swapTo cell (l.take k)).Code] ∧ Below w.heap.size w wr) (fun i8 _ => l.length - (intOf i8).toNat)
  case atStart => exact ⟨0, Nat.zero_le _, by omega, rfl, bR, bO, hB⟩
  case round =>
    clear bR bO hB
    obtain ⟨k, hk, hki, rfl, bR, bO, hB⟩ := hrel
    have zz := bR.lt
    have hst : (k : Int) < i ∧ k < l.length ∨ (i ≤ (k : Int) ∨ (k : Int) < i ∧ l.length ≤ k) := by omega
    rcases hst with ⟨hi, hlt⟩ | hex
    · obtain ⟨g, off, cap', he, hg, _, _, hc⟩ := (h.below hB).at_ (List.getElem?_eq_getElem hlt)
      injection he with he1 he2 he3
      clear he2
      subst he1 he3
      have p0 : wr.cell? ⟨g, off + k * 7, none⟩ = some (.int .i64 l[k].Kind) := hc 0 _ rfl
      have p1 : wr.cell? ⟨g, off + k * 7 + 1, none⟩ = some (.int .i64 l[k].Who) := hc 1 _ rfl
      have p2 : wr.cell? ⟨g, off + k * 7 + 2, none⟩ = some (.int .i64 l[k].Serial) := hc 2 _ rfl
      have p3 : wr.cell? ⟨g, off + k * 7 + 3, none⟩ = some (.int .i64 l[k].Cell) := hc 3 _ rfl
      have p4 : wr.cell? ⟨g, off + k * 7 + 4, none⟩ = some (.int .i64 l[k].Handle) := hc 4 _ rfl
      have p5 : wr.cell? ⟨g, off + k * 7 + 5, none⟩ = some (.int .i64 l[k].Val) := hc 5 _ rfl
      have p6 : wr.cell? ⟨g, off + k * 7 + 6, none⟩ = some (.int .i64 l[k].Code) := hc 6 _ rfl
      have HS := Hid.mk_ (show swapTo cell (l.take (k + 1)) = if swapB cell l[k] = true then l[k] else swapTo cell (l.take k) by rw [List.take_succ_eq_append_getElem hlt, swapTo_snoc])
      clear hc h
      by_cases hs : swapB cell l[k] = true
      · obtain ⟨k1, k2⟩ := swap_two hs
        have k1' : (l[k].Kind == 2) = true := by simpa using k1
        have k2' : (l[k].Cell == cell) = true := by simpa using k2
        have HS2 := Hid.mk_ (HS.out.trans (if_pos hs))
        clear k1 k2 hs HS
        have x0 := bO.cell 0 _ rfl
        have x1 := bO.cell 1 _ rfl
        have x2 := bO.cell 2 _ rfl
        have x3 := bO.cell 3 _ rfl
        have x4 := bO.cell 4 _ rfl
        have x5 := bO.cell 5 _ rfl
        have x6 := bO.cell 6 _ rfl
        have fr := bO.fro
        go_wp2
        go_roundw
        case rel => exact ⟨k + 1, by omega, by omega, by go_num, (((((((bR.other (by omega) _).other (by omega) _).other (by omega) _).other (by omega) _).other (by omega) _).other (by omega) _).other (by omega) _), by rw [HS2.out]; exact (((((((bO.set 0 (.int .i64 l[k].Kind)).set 1 (.int .i64 l[k].Who)).set 2 (.int .i64 l[k].Serial)).set 3 (.int .i64 l[k].Cell)).set 4 (.int .i64 l[k].Handle)).set 5 (.int .i64 l[k].Val)).set 6 (.int .i64 l[k].Code)), Below.trans hB (by repeat (first | with_reducible exact Below.refl _ _ | with_reducible refine Below.setCell ?_ (by simp <;> omega) _ | with_reducible refine Below.alloc ?_ (by simp <;> omega) _ | with_reducible refine Below.drew ?_))⟩
        case measure => simp [intOf]; omega
      · have HS2 := Hid.mk_ (HS.out.trans (if_neg hs))
        by_cases k1 : l[k].Kind = 2
        · have k1' : (l[k].Kind == 2) = true := by simpa using k1
          have k2' : (l[k].Cell == cell) = false := by simp [swapB, k1] at hs; simpa using hs
          clear k1 hs HS
          go_wp2
          go_roundw
          case rel => exact ⟨k + 1, by omega, by omega, by go_num, bR, by rw [HS2.out]; exact bO, hB⟩
          case measure => simp [intOf]; omega
        · have k1' : (l[k].Kind == 2) = false := by simpa using k1
          clear k1 hs HS
          go_wp2
          go_roundw
          case rel => exact ⟨k + 1, by omega, by omega, by go_num, bR, by rw [HS2.out]; exact bO, hB⟩
          case measure => simp [intOf]; omega
    · have HZ := Hid.mk_ (HP.out k hk hki (by omega))
      clear HP
      generalize swapTo cell (l.take k) = o at *
      have x0 := bO.cell 0 _ rfl
      have x1 := bO.cell 1 _ rfl
      have x2 := bO.cell 2 _ rfl
      have x3 := bO.cell 3 _ rfl
      have x4 := bO.cell 4 _ rfl
      have x5 := bO.cell 5 _ rfl
      have x6 := bO.cell 6 _ rfl
      have r0 := bR.cell 0 _ rfl
      have r1 := bR.cell 1 _ rfl
      have r2 := bR.cell 2 _ rfl
      have r3 := bR.cell 3 _ rfl
      have r4 := bR.cell 4 _ rfl
      have r5 := bR.cell 5 _ rfl
      have r6 := bR.cell 6 _ rfl
      have fr := bR.fro
      have hfin : ∀ (e : Ending) (w' : World), (e = .returned (.agg #[.int .i64 o.Kind, .int .i64 o.Who, .int .i64 o.Serial, .int .i64 o.Cell, .int .i64 o.Handle, .int .i64 o.Val, .int .i64 o.Code]) ∧ Below w.heap.size w w') → (e = .returned (.agg #[.int .i64 (cellAtP l i cell).Kind, .int .i64 (cellAtP l i cell).Who, .int .i64 (cellAtP l i cell).Serial, .int .i64 (cellAtP l i cell).Cell, .int .i64 (cellAtP l i cell).Handle, .int .i64 (cellAtP l i cell).Val, .int .i64 (cellAtP l i cell).Code]) ∧ Below w.heap.size w w') := fun e w' hh => by rw [HZ.out]; exact hh
      have HF := Hid.mk_ hfin
      clear hfin
      rcases hex with hex | ⟨hex, hex2⟩
      all_goals
        go_wp2
        have bE : Box (((((((wr.setCell ⟨w.heap.size, 0, none⟩ (.int .i64 o.Kind)).setCell ⟨w.heap.size, 1, none⟩ (.int .i64 o.Who)).setCell ⟨w.heap.size, 2, none⟩ (.int .i64 o.Serial)).setCell ⟨w.heap.size, 3, none⟩ (.int .i64 o.Cell)).setCell ⟨w.heap.size, 4, none⟩ (.int .i64 o.Handle)).setCell ⟨w.heap.size, 5, none⟩ (.int .i64 o.Val)).setCell ⟨w.heap.size, 6, none⟩ (.int .i64 o.Code)) (w.heap.size) [.int .i64 o.Kind, .int .i64 o.Who, .int .i64 o.Serial, .int .i64 o.Cell, .int .i64 o.Handle, .int .i64 o.Val, .int .i64 o.Code] := (((((((bR.set 0 (.int .i64 o.Kind)).set 1 (.int .i64 o.Who)).set 2 (.int .i64 o.Serial)).set 3 (.int .i64 o.Cell)).set 4 (.int .i64 o.Handle)).set 5 (.int .i64 o.Val)).set 6 (.int .i64 o.Code))
        have e0 := bE.cell 0 _ rfl
        have e1 := bE.cell 1 _ rfl
        have e2 := bE.cell 2 _ rfl
        have e3 := bE.cell 3 _ rfl
        have e4 := bE.cell 4 _ rfl
        have e5 := bE.cell 5 _ rfl
        have e6 := bE.cell 6 _ rfl
        have hBE : Below w.heap.size w (((((((wr.setCell ⟨w.heap.size, 0, none⟩ (.int .i64 o.Kind)).setCell ⟨w.heap.size, 1, none⟩ (.int .i64 o.Who)).setCell ⟨w.heap.size, 2, none⟩ (.int .i64 o.Serial)).setCell ⟨w.heap.size, 3, none⟩ (.int .i64 o.Cell)).setCell ⟨w.heap.size, 4, none⟩ (.int .i64 o.Handle)).setCell ⟨w.heap.size, 5, none⟩ (.int .i64 o.Val)).setCell ⟨w.heap.size, 6, none⟩ (.int .i64 o.Code)) := Below.trans hB (by repeat (first | with_reducible exact Below.refl _ _ | with_reducible refine Below.setCell ?_ (by simp <;> omega) _ | with_reducible refine Below.alloc ?_ (by simp <;> omega) _ | with_reducible refine Below.drew ?_))
        refine bodyPost_ret (v := .agg #[.int .i64 o.Kind, .int .i64 o.Who, .int .i64 o.Serial, .int .i64 o.Cell, .int .i64 o.Handle, .int .i64 o.Val, .int .i64 o.Code]) (by simp [results, Try.results10, go_sem, e0, e1, e2, e3, e4, e5, e6]) rfl (HF.out _ _ ⟨rfl, hBE⟩)
end Go.Proofs.Ytdepckmjgpkjmaa
