/-
  New heaps of the program: the contract.
-/
import Derived.Test.YtodbkbolpcbooaaT
import Derived.Test.YtodbkbolpcbooaaL
import Derived.Deep.QuietTactic
import Derived.BigQuiet
import Derived.Deep.LoopGhost
import Derived.Deep.RegionHeld3
import Derived.Test.YtodbkbolpcbooaaN
import Derived.Test.YtodbkbolpcbooaaA
import Derived.WalkSpells
import Derived.Laws.Cover3
import Derived.Test.YtodbkbolpcbooaaNR
import Derived.Test.YtodbkbolpcbooaaNH
namespace Go.Proofs.Ytodbkbolpcbooaa
open Go.RowKit

set_option maxRecDepth 100000 in
set_option maxHeartbeats 2000000 in
theorem HeapNew_impl (w : World) : Calls Try.prog 150 #[] w fun e w' => ∃ H' : HHeap, e = .returned (.agg #[.slice H'.Bytes.a H'.Bytes.len H'.Bytes.cap, .slice H'.Class.a H'.Class.len H'.Class.cap]) ∧ OwHeap w' H' newHeap ∧ (∀ g ∈ H'.foot, w.heap.size ≤ g) ∧ Below w.heap.size w w' := by
  have hmk : ∀ w, (Instr.makeSlice 49 (.int .i64 384) (.int .i64 384)).run Try.prog w = .ok (.slice (some ⟨w.heap.size, 0, none⟩) 384 384) (w.alloc (.cells (madeCells #[.int .i64 0] (384 * FI.n)) 3)) := run_make_flat (P := Try.prog) FI 49 3 (.int .i64 0) 8 Try.underlying49 Try.infoInt 384 (by omega) (by omega)
  have B_r : Box (w.alloc (.cells #[.slice none 0 0, .slice none 0 0] 52)) (w.heap.size) [.slice none 0 0, .slice none 0 0] := by
    have hbx := Box.new w #[.slice none 0 0, .slice none 0 0] 52
    exact hbx
  have hB : Below w.heap.size w (w.alloc (.cells #[.slice none 0 0, .slice none 0 0] 52)) := by repeat (first | exact Below.refl _ _ | refine Below.alloc ?_ (by simp <;> omega) _ | refine below_grow_of ?_ (by simp <;> omega) _ _ | refine Below.drew ?_ | refine below_drewN ?_ _)
  go_enter Try.func150, Try.ntmps150
  go_wp2_with fail
  generalize hW0 : (w.alloc (.cells #[.slice none 0 0, .slice none 0 0] 52)) = w0 at B_r hB ⊢
  clear hW0
  have zz_r := B_r.lt
  have q_r_0 := B_r.cell 0 _ rfl
  have q_r_1 := B_r.cell 1 _ rfl
  have fr_r := B_r.fro
  have z_r := B_r.lt
  go_region_with (go_at_call 210; refine (Repeat6_ct _ _ ?h1 ?h2).mono ?_; (case h1 => (simp [go_sem] <;> omega)); (case h2 => (simp <;> omega)); rintro e wq ⟨A, rfl, oA, hA, hb⟩; have B_q : Box wq w.heap.size [.slice none 0 0, .slice none 0 0] := (by first | with_reducible exact ((B_r.alloc _).alloc _).below hb | with_reducible exact (B_r.alloc _).below hb | with_reducible exact ((B_r.alloc _).alloc _).drew.below hb | with_reducible exact (B_r.alloc _).drew.below hb); replace q_r_0 := B_q.cell 0 _ rfl; replace q_r_1 := B_q.cell 1 _ rfl; replace fr_r := B_q.fro; replace z_r := B_q.lt; clear B_r)
  · have oB0 := (OwL.made FI #[.int .i64 0] rfl 384 (by simp [maxLen]) w0 3).alloc_ (.cells #[.int .i64 (-1)] 3)
    have oB1 : OwL FI 3 ((w0.alloc (.cells (madeCells #[.int .i64 0] (384 * FI.n)) 3)).alloc (.cells #[.int .i64 (-1)] 3)).drew (.slice (some ⟨w0.heap.size, 0, none⟩) 384 384) (List.replicate 384 0) := by
      exact oB0.keep (fun _ _ => rfl)
    have oB := oB1.step0 hb
    have hBq : Below w.heap.size w wq := (((hB.alloc hB.size _).alloc (by simp; omega) _).drew).trans (hb.mono (by simp; omega))
    have hA2 : w0.heap.size + 2 ≤ A := by simpa using hA
    have br := B_q
    go_wp2_with fail
    have r0 := ((br.set 0 (.slice (some ⟨w0.heap.size, 0, none⟩) 384 384)).set 1 (.slice (some ⟨A, 0, none⟩) 6 6)).cell 0 _ rfl
    have r1 := ((br.set 0 (.slice (some ⟨w0.heap.size, 0, none⟩) 384 384)).set 1 (.slice (some ⟨A, 0, none⟩) 6 6)).cell 1 _ rfl
    exact bodyPost_ret (v := .agg #[.slice (some ⟨w0.heap.size, 0, none⟩) 384 384, .slice (some ⟨A, 0, none⟩) 6 6]) (by simp [results, Try.results150, go_sem, r0, r1]) rfl ⟨⟨⟨some ⟨w0.heap.size, 0, none⟩, 384, 384⟩, ⟨some ⟨A, 0, none⟩, 6, 6⟩⟩, rfl, ⟨oB.chg (F := [w.heap.size]) (by repeat (first | with_reducible exact Chg.refl _ _ | with_reducible refine Chg.set_ ?_ (by simp) _ | with_reducible refine Chg.alloc_ ?_ _ | with_reducible refine Chg.drew_ ?_)) (fun b hb hm => by simp [foot1, SV.val, Value.ownBlock] at hb hm; omega), oA.chg (F := [w.heap.size]) (by repeat (first | with_reducible exact Chg.refl _ _ | with_reducible refine Chg.set_ ?_ (by simp) _ | with_reducible refine Chg.alloc_ ?_ _ | with_reducible refine Chg.drew_ ?_)) (fun b hb hm => by simp [foot1, SV.val, Value.ownBlock] at hb hm; omega), fun b hb hm => by simp [foot1, SV.val, Value.ownBlock] at hb hm; omega⟩, fun b hb => by (simp [HHeap.foot, foot1, SV.val, Value.ownBlock] at hb; omega), Below.trans hBq (by repeat (first | with_reducible exact Below.refl _ _ | with_reducible refine Below.setCell ?_ (by simp <;> omega) _ | with_reducible refine Below.alloc ?_ (by simp <;> omega) _ | with_reducible refine Below.drew ?_))⟩
  · have oB0 := OwL.made FI #[.int .i64 0] rfl 384 (by simp [maxLen]) (w0.alloc (.cells #[.int .i64 (-1)] 3)) 3
    have oB1 : OwL FI 3 ((w0.alloc (.cells #[.int .i64 (-1)] 3)).alloc (.cells (madeCells #[.int .i64 0] (384 * FI.n)) 3)).drew (.slice (some ⟨w0.heap.size + 1, 0, none⟩) 384 384) (List.replicate 384 0) := by
      simp only [World.size_alloc] at oB0
      exact oB0.keep (fun _ _ => rfl)
    have oB := oB1.step0 hb
    have hBq : Below w.heap.size w wq := (((hB.alloc hB.size _).alloc (by simp; omega) _).drew).trans (hb.mono (by simp; omega))
    have hA2 : w0.heap.size + 2 ≤ A := by simpa using hA
    have br := B_q
    go_wp2_with fail
    have r0 := ((br.set 0 (.slice (some ⟨w0.heap.size + 1, 0, none⟩) 384 384)).set 1 (.slice (some ⟨A, 0, none⟩) 6 6)).cell 0 _ rfl
    have r1 := ((br.set 0 (.slice (some ⟨w0.heap.size + 1, 0, none⟩) 384 384)).set 1 (.slice (some ⟨A, 0, none⟩) 6 6)).cell 1 _ rfl
    exact bodyPost_ret (v := .agg #[.slice (some ⟨w0.heap.size + 1, 0, none⟩) 384 384, .slice (some ⟨A, 0, none⟩) 6 6]) (by simp [results, Try.results150, go_sem, r0, r1]) rfl ⟨⟨⟨some ⟨w0.heap.size + 1, 0, none⟩, 384, 384⟩, ⟨some ⟨A, 0, none⟩, 6, 6⟩⟩, rfl, ⟨oB.chg (F := [w.heap.size]) (by repeat (first | with_reducible exact Chg.refl _ _ | with_reducible refine Chg.set_ ?_ (by simp) _ | with_reducible refine Chg.alloc_ ?_ _ | with_reducible refine Chg.drew_ ?_)) (fun b hb hm => by simp [foot1, SV.val, Value.ownBlock] at hb hm; omega), oA.chg (F := [w.heap.size]) (by repeat (first | with_reducible exact Chg.refl _ _ | with_reducible refine Chg.set_ ?_ (by simp) _ | with_reducible refine Chg.alloc_ ?_ _ | with_reducible refine Chg.drew_ ?_)) (fun b hb hm => by simp [foot1, SV.val, Value.ownBlock] at hb hm; omega), fun b hb hm => by simp [foot1, SV.val, Value.ownBlock] at hb hm; omega⟩, fun b hb => by (simp [HHeap.foot, foot1, SV.val, Value.ownBlock] at hb; omega), Below.trans hBq (by repeat (first | with_reducible exact Below.refl _ _ | with_reducible refine Below.setCell ?_ (by simp <;> omega) _ | with_reducible refine Below.alloc ?_ (by simp <;> omega) _ | with_reducible refine Below.drew ?_))⟩
  · have e2 : ((wq.setCell ⟨w.heap.size, 0, none⟩ (.slice (some ⟨wq.heap.size, 0, none⟩) 384 384)).setCell ⟨w.heap.size, 1, none⟩ (.slice (some ⟨A, 0, none⟩) 6 6)).heap.size = wq.heap.size := by simp
    have oB := OwL.made FI #[.int .i64 0] rfl 384 (by simp [maxLen]) ((wq.setCell ⟨w.heap.size, 0, none⟩ (.slice (some ⟨wq.heap.size, 0, none⟩) 384 384)).setCell ⟨w.heap.size, 1, none⟩ (.slice (some ⟨A, 0, none⟩) 6 6)) 3
    rw [e2] at oB
    have hBw : Below w.heap.size w wq := (((hB.alloc hB.size (.cells #[.int .i64 (-1)] 3)).drew).trans (hb.mono (by simp; omega)))
    have hA2 : w0.heap.size + 1 ≤ A := by simpa using hA
    have hA3 : A < wq.heap.size := foot_lt oA A (by simp [foot1, Value.ownBlock])
    replace oA := (oA.chg (F := [w.heap.size]) (w' := ((wq.setCell ⟨w.heap.size, 0, none⟩ (.slice (some ⟨wq.heap.size, 0, none⟩) 384 384)).setCell ⟨w.heap.size, 1, none⟩ (.slice (some ⟨A, 0, none⟩) 6 6))) (by repeat (first | with_reducible exact Chg.refl _ _ | with_reducible refine Chg.set_ ?_ (by simp) _ | with_reducible refine Chg.alloc_ ?_ _ | with_reducible refine Chg.drew_ ?_)) (fun b hb hm => by simp [foot1, Value.ownBlock] at hb hm; omega)).alloc_ (.cells (madeCells #[.int .i64 0] (384 * FI.n)) 3)
    have br := ((B_q.set 0 (.slice (some ⟨wq.heap.size, 0, none⟩) 384 384)).set 1 (.slice (some ⟨A, 0, none⟩) 6 6)).alloc (.cells (madeCells #[.int .i64 0] (384 * FI.n)) 3)
    go_wp2_with fail
    have r0 := br.cell 0 _ rfl
    have r1 := br.cell 1 _ rfl
    exact bodyPost_ret (v := .agg #[.slice (some ⟨wq.heap.size, 0, none⟩) 384 384, .slice (some ⟨A, 0, none⟩) 6 6]) (by simp [results, Try.results150, go_sem, r0, r1]) rfl ⟨⟨⟨some ⟨wq.heap.size, 0, none⟩, 384, 384⟩, ⟨some ⟨A, 0, none⟩, 6, 6⟩⟩, rfl, ⟨oB, oA, fun b hb hm => by simp [foot1, SV.val, Value.ownBlock] at hb hm; omega⟩, fun b hb => by (simp [HHeap.foot, foot1, SV.val, Value.ownBlock] at hb; omega), Below.trans hBw (by repeat (first | with_reducible exact Below.refl _ _ | with_reducible refine Below.setCell ?_ (by simp <;> omega) _ | with_reducible refine Below.alloc ?_ (by simp <;> omega) _ | with_reducible refine Below.drew ?_))⟩
end Go.Proofs.Ytodbkbolpcbooaa
