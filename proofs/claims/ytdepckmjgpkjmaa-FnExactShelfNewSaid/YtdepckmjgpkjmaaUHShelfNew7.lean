/-
  Several texts in one: lemmas and contracts that the claim rests on.
-/
import Derived.Test.YtdepckmjgpkjmaaUHShelfNew1
import Derived.Deep.QuietTactic
import Derived.BigQuiet
import Derived.Deep.LoopGhost
import Derived.Deep.RegionHeld3
import Derived.WalkSpells
import Derived.Laws.Cover3
import Derived.Test.YtdepckmjgpkjmaaUHShelfNew6
import Derived.Test.YtdepckmjgpkjmaaUHShelfNew2
import Derived.Laws.CopyOwn
import Derived.Deep.RegionLaw
import Derived.Deep.CutRange
import Derived.Test.YtdepckmjgpkjmaaUHShelfNew5
/-
  New lists: the contracts.
-/
namespace Go.Proofs.Ytdepckmjgpkjmaa
open Go.RowKit

def newHeap : Heap := ⟨List.replicate 384 0, List.replicate 6 (-1)⟩
def newLists : Lists := ⟨List.replicate 3 [], List.replicate 9 []⟩
def newMem : Mem := ⟨newHeap, newLists⟩

set_option maxRecDepth 100000 in
set_option maxHeartbeats 1000000 in
theorem ListsNew_impl (w : World) : Calls Try.prog 157 #[] w fun e w' => ∃ H' : HLists, e = .returned (.agg #[.slice H'.Global.a H'.Global.len H'.Global.cap, .slice H'.Own.a H'.Own.len H'.Own.cap]) ∧ OwLists w' H' newLists ∧ (∀ g ∈ H'.foot, w.heap.size ≤ g) ∧ Below w.heap.size w w' := by
  have hm3 : ∀ w, (Instr.makeSlice 55 (.int .i64 3) (.int .i64 3)).run Try.prog w = .ok (.slice (some ⟨w.heap.size, 0, none⟩) 3 3) (w.alloc (.cells (madeCells #[.slice none 0 0] (3 * FS.n)) 201)) := run_make_flat (P := Try.prog) FS 55 201 (.agg #[.slice none 0 0]) 24 Try.underlying55 Try.infoSList 3 (by omega) (by omega)
  have hm9 : ∀ w, (Instr.makeSlice 55 (.int .i64 9) (.int .i64 9)).run Try.prog w = .ok (.slice (some ⟨w.heap.size, 0, none⟩) 9 9) (w.alloc (.cells (madeCells #[.slice none 0 0] (9 * FS.n)) 201)) := run_make_flat (P := Try.prog) FS 55 201 (.agg #[.slice none 0 0]) 24 Try.underlying55 Try.infoSList 9 (by omega) (by omega)
  have B_r : Box (w.alloc (.cells #[.slice none 0 0, .slice none 0 0] 57)) (w.heap.size) [.slice none 0 0, .slice none 0 0] := by
    have hbx := Box.new w #[.slice none 0 0, .slice none 0 0] 57
    exact hbx
  have hB : Below w.heap.size w (w.alloc (.cells #[.slice none 0 0, .slice none 0 0] 57)) := by repeat (first | exact Below.refl _ _ | refine Below.alloc ?_ (by simp <;> omega) _ | refine below_grow_of ?_ (by simp <;> omega) _ _ | refine Below.drew ?_ | refine below_drewN ?_ _)
  go_enter Try.func157, Try.ntmps157
  go_wp2_with fail
  generalize hW0 : (w.alloc (.cells #[.slice none 0 0, .slice none 0 0] 57)) = w0 at B_r hB ⊢
  clear hW0
  have zz_r := B_r.lt
  have q_r_0 := B_r.cell 0 _ rfl
  have q_r_1 := B_r.cell 1 _ rfl
  have fr_r := B_r.fro
  have z_r := B_r.lt
  go_region
  all_goals go_wp2_with fail
  · have br := (((((B_r.set 0 (.slice (some ⟨w0.heap.size, 0, none⟩) 3 3)).set 1 (.slice (some ⟨w0.heap.size + 1, 0, none⟩) 9 9)).alloc (.cells (madeCells #[.slice none 0 0] (3 * FS.n)) 201)).alloc (.cells (madeCells #[.slice none 0 0] (9 * FS.n)) 201)).drew)
    have e2 : ((w0.setCell ⟨w.heap.size, 0, none⟩ (.slice (some ⟨w0.heap.size, 0, none⟩) 3 3)).setCell ⟨w.heap.size, 1, none⟩ (.slice (some ⟨w0.heap.size + 1, 0, none⟩) 9 9)).heap.size = w0.heap.size := by simp
    have oa := OwLL.made #[.slice none 0 0] rfl 3 (by simp [maxLen]) ((w0.setCell ⟨w.heap.size, 0, none⟩ (.slice (some ⟨w0.heap.size, 0, none⟩) 3 3)).setCell ⟨w.heap.size, 1, none⟩ (.slice (some ⟨w0.heap.size + 1, 0, none⟩) 9 9)) FI 3 201
    rw [e2] at oa
    have ob := OwLL.made #[.slice none 0 0] rfl 9 (by simp [maxLen]) (((w0.setCell ⟨w.heap.size, 0, none⟩ (.slice (some ⟨w0.heap.size, 0, none⟩) 3 3)).setCell ⟨w.heap.size, 1, none⟩ (.slice (some ⟨w0.heap.size + 1, 0, none⟩) 9 9)).alloc (.cells (madeCells #[.slice none 0 0] (3 * FS.n)) 201)) FI 3 201
    rw [World.size_alloc, e2] at ob
    have la := oa.lt
    rw [World.size_alloc, e2] at la
    have fa := foot2_made w0.heap.size 3
    have fb := foot2_made (w0.heap.size + 1) 9
    have r0 := br.cell 0 _ rfl
    have r1 := br.cell 1 _ rfl
    exact bodyPost_ret (v := .agg #[.slice (some ⟨w0.heap.size, 0, none⟩) 3 3, .slice (some ⟨w0.heap.size + 1, 0, none⟩) 9 9]) (by simp [results, Try.results157, go_sem, r0, r1]) rfl ⟨⟨⟨some ⟨w0.heap.size, 0, none⟩, 3, 3⟩, (List.replicate 3 ⟨none, 0, 0⟩), ⟨some ⟨w0.heap.size + 1, 0, none⟩, 9, 9⟩, (List.replicate 9 ⟨none, 0, 0⟩)⟩, rfl, ⟨(oa.alloc_ (.cells (madeCells #[.slice none 0 0] (9 * FS.n)) 201)).keep (fun _ _ => rfl), ob.keep (fun _ _ => rfl), fun b hb hm => by have h1 := la b hb; have h2 := fb b hm; omega⟩, fun b hb => by rcases HLists.mem_foot.1 hb with hb | hb; (have := fa b hb; omega); (have := fb b hb; omega), Below.trans hB (by repeat (first | with_reducible exact Below.refl _ _ | with_reducible refine Below.setCell ?_ (by simp <;> omega) _ | with_reducible refine Below.alloc ?_ (by simp <;> omega) _ | with_reducible refine Below.drew ?_))⟩
  · have br := (((((B_r.set 0 (.slice (some ⟨w0.heap.size + 1, 0, none⟩) 3 3)).set 1 (.slice (some ⟨w0.heap.size, 0, none⟩) 9 9)).alloc (.cells (madeCells #[.slice none 0 0] (9 * FS.n)) 201)).alloc (.cells (madeCells #[.slice none 0 0] (3 * FS.n)) 201)).drew)
    have e2 : ((w0.setCell ⟨w.heap.size, 0, none⟩ (.slice (some ⟨w0.heap.size + 1, 0, none⟩) 3 3)).setCell ⟨w.heap.size, 1, none⟩ (.slice (some ⟨w0.heap.size, 0, none⟩) 9 9)).heap.size = w0.heap.size := by simp
    have oa := OwLL.made #[.slice none 0 0] rfl 9 (by simp [maxLen]) ((w0.setCell ⟨w.heap.size, 0, none⟩ (.slice (some ⟨w0.heap.size + 1, 0, none⟩) 3 3)).setCell ⟨w.heap.size, 1, none⟩ (.slice (some ⟨w0.heap.size, 0, none⟩) 9 9)) FI 3 201
    rw [e2] at oa
    have ob := OwLL.made #[.slice none 0 0] rfl 3 (by simp [maxLen]) (((w0.setCell ⟨w.heap.size, 0, none⟩ (.slice (some ⟨w0.heap.size + 1, 0, none⟩) 3 3)).setCell ⟨w.heap.size, 1, none⟩ (.slice (some ⟨w0.heap.size, 0, none⟩) 9 9)).alloc (.cells (madeCells #[.slice none 0 0] (9 * FS.n)) 201)) FI 3 201
    rw [World.size_alloc, e2] at ob
    have la := oa.lt
    rw [World.size_alloc, e2] at la
    have fa := foot2_made w0.heap.size 9
    have fb := foot2_made (w0.heap.size + 1) 3
    have r0 := br.cell 0 _ rfl
    have r1 := br.cell 1 _ rfl
    exact bodyPost_ret (v := .agg #[.slice (some ⟨w0.heap.size + 1, 0, none⟩) 3 3, .slice (some ⟨w0.heap.size, 0, none⟩) 9 9]) (by simp [results, Try.results157, go_sem, r0, r1]) rfl ⟨⟨⟨some ⟨w0.heap.size + 1, 0, none⟩, 3, 3⟩, (List.replicate 3 ⟨none, 0, 0⟩), ⟨some ⟨w0.heap.size, 0, none⟩, 9, 9⟩, (List.replicate 9 ⟨none, 0, 0⟩)⟩, rfl, ⟨ob.keep (fun _ _ => rfl), (oa.alloc_ (.cells (madeCells #[.slice none 0 0] (3 * FS.n)) 201)).keep (fun _ _ => rfl), fun b hb hm => by have h1 := la b hm; have h2 := fb b hb; omega⟩, fun b hb => by rcases HLists.mem_foot.1 hb with hb | hb; (have := fb b hb; omega); (have := fa b hb; omega), Below.trans hB (by repeat (first | with_reducible exact Below.refl _ _ | with_reducible refine Below.setCell ?_ (by simp <;> omega) _ | with_reducible refine Below.alloc ?_ (by simp <;> omega) _ | with_reducible refine Below.drew ?_))⟩

set_option maxRecDepth 100000 in
set_option maxHeartbeats 1000000 in
theorem ListsNew_spec (w : World) : Calls Try.prog 153 #[] w fun e w' => ∃ H' : HLists, e = .returned (.agg #[.slice H'.Global.a H'.Global.len H'.Global.cap, .slice H'.Own.a H'.Own.len H'.Own.cap]) ∧ OwLists w' H' newLists ∧ (∀ g ∈ H'.foot, w.heap.size ≤ g) ∧ Below w.heap.size w w' := by
  have hm3 : ∀ w, (Instr.makeSlice 55 (.int .i64 3) (.int .i64 3)).run Try.prog w = .ok (.slice (some ⟨w.heap.size, 0, none⟩) 3 3) (w.alloc (.cells (madeCells #[.slice none 0 0] (3 * FS.n)) 201)) := run_make_flat (P := Try.prog) FS 55 201 (.agg #[.slice none 0 0]) 24 Try.underlying55 Try.infoSList 3 (by omega) (by omega)
  have hm9 : ∀ w, (Instr.makeSlice 55 (.int .i64 9) (.int .i64 9)).run Try.prog w = .ok (.slice (some ⟨w.heap.size, 0, none⟩) 9 9) (w.alloc (.cells (madeCells #[.slice none 0 0] (9 * FS.n)) 201)) := run_make_flat (P := Try.prog) FS 55 201 (.agg #[.slice none 0 0]) 24 Try.underlying55 Try.infoSList 9 (by omega) (by omega)
  have B_r : Box (w.alloc (.cells #[.slice none 0 0, .slice none 0 0] 57)) (w.heap.size) [.slice none 0 0, .slice none 0 0] := by
    have hbx := Box.new w #[.slice none 0 0, .slice none 0 0] 57
    exact hbx
  have hB : Below w.heap.size w (w.alloc (.cells #[.slice none 0 0, .slice none 0 0] 57)) := by repeat (first | exact Below.refl _ _ | refine Below.alloc ?_ (by simp <;> omega) _ | refine below_grow_of ?_ (by simp <;> omega) _ _ | refine Below.drew ?_ | refine below_drewN ?_ _)
  go_enter Try.func153, Try.ntmps153
  go_wp2_with fail
  generalize hW0 : (w.alloc (.cells #[.slice none 0 0, .slice none 0 0] 57)) = w0 at B_r hB ⊢
  clear hW0
  have zz_r := B_r.lt
  have q_r_0 := B_r.cell 0 _ rfl
  have q_r_1 := B_r.cell 1 _ rfl
  have fr_r := B_r.fro
  have z_r := B_r.lt
  go_region
  all_goals go_wp2_with fail
  · have br := (((((B_r.set 0 (.slice (some ⟨w0.heap.size, 0, none⟩) 3 3)).set 1 (.slice (some ⟨w0.heap.size + 1, 0, none⟩) 9 9)).alloc (.cells (madeCells #[.slice none 0 0] (3 * FS.n)) 201)).alloc (.cells (madeCells #[.slice none 0 0] (9 * FS.n)) 201)).drew)
    have e2 : ((w0.setCell ⟨w.heap.size, 0, none⟩ (.slice (some ⟨w0.heap.size, 0, none⟩) 3 3)).setCell ⟨w.heap.size, 1, none⟩ (.slice (some ⟨w0.heap.size + 1, 0, none⟩) 9 9)).heap.size = w0.heap.size := by simp
    have oa := OwLL.made #[.slice none 0 0] rfl 3 (by simp [maxLen]) ((w0.setCell ⟨w.heap.size, 0, none⟩ (.slice (some ⟨w0.heap.size, 0, none⟩) 3 3)).setCell ⟨w.heap.size, 1, none⟩ (.slice (some ⟨w0.heap.size + 1, 0, none⟩) 9 9)) FI 3 201
    rw [e2] at oa
    have ob := OwLL.made #[.slice none 0 0] rfl 9 (by simp [maxLen]) (((w0.setCell ⟨w.heap.size, 0, none⟩ (.slice (some ⟨w0.heap.size, 0, none⟩) 3 3)).setCell ⟨w.heap.size, 1, none⟩ (.slice (some ⟨w0.heap.size + 1, 0, none⟩) 9 9)).alloc (.cells (madeCells #[.slice none 0 0] (3 * FS.n)) 201)) FI 3 201
    rw [World.size_alloc, e2] at ob
    have la := oa.lt
    rw [World.size_alloc, e2] at la
    have fa := foot2_made w0.heap.size 3
    have fb := foot2_made (w0.heap.size + 1) 9
    have r0 := br.cell 0 _ rfl
    have r1 := br.cell 1 _ rfl
    exact bodyPost_ret (v := .agg #[.slice (some ⟨w0.heap.size, 0, none⟩) 3 3, .slice (some ⟨w0.heap.size + 1, 0, none⟩) 9 9]) (by simp [results, Try.results153, go_sem, r0, r1]) rfl ⟨⟨⟨some ⟨w0.heap.size, 0, none⟩, 3, 3⟩, (List.replicate 3 ⟨none, 0, 0⟩), ⟨some ⟨w0.heap.size + 1, 0, none⟩, 9, 9⟩, (List.replicate 9 ⟨none, 0, 0⟩)⟩, rfl, ⟨(oa.alloc_ (.cells (madeCells #[.slice none 0 0] (9 * FS.n)) 201)).keep (fun _ _ => rfl), ob.keep (fun _ _ => rfl), fun b hb hm => by have h1 := la b hb; have h2 := fb b hm; omega⟩, fun b hb => by rcases HLists.mem_foot.1 hb with hb | hb; (have := fa b hb; omega); (have := fb b hb; omega), Below.trans hB (by repeat (first | with_reducible exact Below.refl _ _ | with_reducible refine Below.setCell ?_ (by simp <;> omega) _ | with_reducible refine Below.alloc ?_ (by simp <;> omega) _ | with_reducible refine Below.drew ?_))⟩
  · have br := (((((B_r.set 0 (.slice (some ⟨w0.heap.size + 1, 0, none⟩) 3 3)).set 1 (.slice (some ⟨w0.heap.size, 0, none⟩) 9 9)).alloc (.cells (madeCells #[.slice none 0 0] (9 * FS.n)) 201)).alloc (.cells (madeCells #[.slice none 0 0] (3 * FS.n)) 201)).drew)
    have e2 : ((w0.setCell ⟨w.heap.size, 0, none⟩ (.slice (some ⟨w0.heap.size + 1, 0, none⟩) 3 3)).setCell ⟨w.heap.size, 1, none⟩ (.slice (some ⟨w0.heap.size, 0, none⟩) 9 9)).heap.size = w0.heap.size := by simp
    have oa := OwLL.made #[.slice none 0 0] rfl 9 (by simp [maxLen]) ((w0.setCell ⟨w.heap.size, 0, none⟩ (.slice (some ⟨w0.heap.size + 1, 0, none⟩) 3 3)).setCell ⟨w.heap.size, 1, none⟩ (.slice (some ⟨w0.heap.size, 0, none⟩) 9 9)) FI 3 201
    rw [e2] at oa
    have ob := OwLL.made #[.slice none 0 0] rfl 3 (by simp [maxLen]) (((w0.setCell ⟨w.heap.size, 0, none⟩ (.slice (some ⟨w0.heap.size + 1, 0, none⟩) 3 3)).setCell ⟨w.heap.size, 1, none⟩ (.slice (some ⟨w0.heap.size, 0, none⟩) 9 9)).alloc (.cells (madeCells #[.slice none 0 0] (9 * FS.n)) 201)) FI 3 201
    rw [World.size_alloc, e2] at ob
    have la := oa.lt
    rw [World.size_alloc, e2] at la
    have fa := foot2_made w0.heap.size 9
    have fb := foot2_made (w0.heap.size + 1) 3
    have r0 := br.cell 0 _ rfl
    have r1 := br.cell 1 _ rfl
    exact bodyPost_ret (v := .agg #[.slice (some ⟨w0.heap.size + 1, 0, none⟩) 3 3, .slice (some ⟨w0.heap.size, 0, none⟩) 9 9]) (by simp [results, Try.results153, go_sem, r0, r1]) rfl ⟨⟨⟨some ⟨w0.heap.size + 1, 0, none⟩, 3, 3⟩, (List.replicate 3 ⟨none, 0, 0⟩), ⟨some ⟨w0.heap.size, 0, none⟩, 9, 9⟩, (List.replicate 9 ⟨none, 0, 0⟩)⟩, rfl, ⟨ob.keep (fun _ _ => rfl), (oa.alloc_ (.cells (madeCells #[.slice none 0 0] (3 * FS.n)) 201)).keep (fun _ _ => rfl), fun b hb hm => by have h1 := la b hm; have h2 := fb b hb; omega⟩, fun b hb => by rcases HLists.mem_foot.1 hb with hb | hb; (have := fb b hb; omega); (have := fa b hb; omega), Below.trans hB (by repeat (first | with_reducible exact Below.refl _ _ | with_reducible refine Below.setCell ?_ (by simp <;> omega) _ | with_reducible refine Below.alloc ?_ (by simp <;> omega) _ | with_reducible refine Below.drew ?_))⟩
end Go.Proofs.Ytdepckmjgpkjmaa

/-
  Heaps: pages.
-/
namespace Go.Proofs.Ytdepckmjgpkjmaa
open Go.RowKit
end Go.Proofs.Ytdepckmjgpkjmaa
/-
  Heaps: pages, the reference.
-/
namespace Go.Proofs.Ytdepckmjgpkjmaa
open Go.RowKit
end Go.Proofs.Ytdepckmjgpkjmaa
/-
  Heaps valid: the contracts.
-/
namespace Go.Proofs.Ytdepckmjgpkjmaa
open Go.RowKit
end Go.Proofs.Ytdepckmjgpkjmaa
/-
  Lists of slots: searched.
-/
namespace Go.Proofs.Ytdepckmjgpkjmaa
open Go.RowKit

theorem Try.stInt : ST Try.prog FI 34 3 := ⟨Try.underlying34, .int .i64 0, 8, by kernel_rfl, rfl, by decide⟩
end Go.Proofs.Ytdepckmjgpkjmaa
/-
  New heaps: the contracts.
-/
namespace Go.Proofs.Ytdepckmjgpkjmaa
open Go.RowKit

set_option maxRecDepth 100000 in
set_option maxHeartbeats 1000000 in
theorem HeapNew_spec (w : World) : Calls Try.prog 152 #[] w fun e w' => ∃ H' : HHeap, e = .returned (.agg #[.slice H'.Bytes.a H'.Bytes.len H'.Bytes.cap, .slice H'.Class.a H'.Class.len H'.Class.cap]) ∧ OwHeap w' H' newHeap ∧ (∀ g ∈ H'.foot, w.heap.size ≤ g) ∧ Below w.heap.size w w' := by
  have hmk : ∀ w, (Instr.makeSlice 34 (.int .i64 384) (.int .i64 384)).run Try.prog w = .ok (.slice (some ⟨w.heap.size, 0, none⟩) 384 384) (w.alloc (.cells (madeCells #[.int .i64 0] (384 * FI.n)) 3)) := run_make_flat (P := Try.prog) FI 34 3 (.int .i64 0) 8 Try.underlying34 Try.infoInt 384 (by omega) (by omega)
  have B_r : Box (((w.alloc (.cells #[.slice none 0 0, .slice none 0 0] 54)).alloc (.cells (madeCells #[.int .i64 0] (384 * FI.n)) 3)).alloc (.cells #[.slice (some ⟨w.heap.size + 1, 0, none⟩) 384 384, .slice none 0 0] 54)) w.heap.size [.slice none 0 0, .slice none 0 0] := ((Box.new w #[.slice none 0 0, .slice none 0 0] 54).alloc (.cells (madeCells #[.int .i64 0] (384 * FI.n)) 3)).alloc (.cells #[.slice (some ⟨w.heap.size + 1, 0, none⟩) 384 384, .slice none 0 0] 54)
  have B_p : Box (((w.alloc (.cells #[.slice none 0 0, .slice none 0 0] 54)).alloc (.cells (madeCells #[.int .i64 0] (384 * FI.n)) 3)).alloc (.cells #[.slice (some ⟨w.heap.size + 1, 0, none⟩) 384 384, .slice none 0 0] 54)) (w.heap.size + 1 + 1) [.slice (some ⟨w.heap.size + 1, 0, none⟩) 384 384, .slice none 0 0] := by
    have hb := Box.new ((w.alloc (.cells #[.slice none 0 0, .slice none 0 0] 54)).alloc (.cells (madeCells #[.int .i64 0] (384 * FI.n)) 3)) #[.slice (some ⟨w.heap.size + 1, 0, none⟩) 384 384, .slice none 0 0] 54
    simp only [World.size_alloc] at hb
    exact hb
  have oB := (OwL.made FI #[.int .i64 0] rfl 384 (by simp [maxLen]) (w.alloc (.cells #[.slice none 0 0, .slice none 0 0] 54)) 3).alloc_ (.cells #[.slice (some ⟨w.heap.size + 1, 0, none⟩) 384 384, .slice none 0 0] 54)
  simp only [World.size_alloc] at oB
  have hB : Below w.heap.size w (((w.alloc (.cells #[.slice none 0 0, .slice none 0 0] 54)).alloc (.cells (madeCells #[.int .i64 0] (384 * FI.n)) 3)).alloc (.cells #[.slice (some ⟨w.heap.size + 1, 0, none⟩) 384 384, .slice none 0 0] 54)) := by repeat (first | exact Below.refl _ _ | refine Below.alloc ?_ (by simp <;> omega) _ | refine below_grow_of ?_ (by simp <;> omega) _ _ | refine Below.drew ?_ | refine below_drewN ?_ _)
  go_enter Try.func152, Try.ntmps152
  go_wp2_with fail
  generalize hW0 : (((w.alloc (.cells #[.slice none 0 0, .slice none 0 0] 54)).alloc (.cells (madeCells #[.int .i64 0] (384 * FI.n)) 3)).alloc (.cells #[.slice (some ⟨w.heap.size + 1, 0, none⟩) 384 384, .slice none 0 0] 54)) = w0 at B_r B_p oB hB ⊢
  clear hW0 hmk
  go_loopw [2] (fun i wr => ∃ (k : Nat) (A : Option Addr) (cp : Nat), k ≤ 6 ∧ i = .int .i64 k ∧ Box wr w.heap.size [.slice none 0 0, .slice none 0 0] ∧ Box wr (w.heap.size + 1 + 1) [.slice (some ⟨w.heap.size + 1, 0, none⟩) 384 384, .slice A k cp] ∧ OwL FI 3 wr (.slice (some ⟨w.heap.size + 1, 0, none⟩) 384 384) (List.replicate 384 0) ∧ OwL FI 3 wr (.slice A k cp) (List.replicate k (-1)) ∧ (∀ b ∈ foot1 (.slice A k cp), w.heap.size + 2 < b) ∧ Below w.heap.size w wr) (fun i _ => 6 - (intOf i).toNat)
  case atStart => exact ⟨0, none, 0, by omega, rfl, B_r, B_p, oB, ⟨rfl, .inl ⟨rfl, rfl⟩⟩, fun b hb => by simp [foot1, Value.ownBlock] at hb, hB⟩
  case round =>
    clear B_r B_p oB hB
    obtain ⟨k, A, cp, hk, rfl, B_r, B_p, oB, oC, fC, hB⟩ := hrel
    have q_p_0 := B_p.cell 0 _ rfl
    have q_p_1 := B_p.cell 1 _ rfl
    have fr_p := B_p.fro
    have z_p := B_p.lt
    have z_r := B_r.lt
    by_cases hlt : k < 6
    · have zz := z_p
      go_wp2_with (at_builtin; refine wpList_append_flat Try.stInt rfl _ _ rfl (v := .slice A k cp) (y := .slice (some ⟨wr.heap.size, 0, none⟩) 1 1) (l := List.replicate k (-1)) (m := [(-1 : Int)]) rfl rfl (oC.alloc_ _) (OwL.lit FI [(-1 : Int)] #[.int .i64 (-1)] rfl (by simp [maxLen]) wr 3).rd' (by simp; omega) ?_; intro v7 w7 ho7 hg7 hat7; obtain ⟨A7, c7, hv7, _⟩ := ho7.rd'; simp only [List.length_append, List.length_replicate, List.length_singleton] at hv7; subst hv7; have hx := Chg.of_grown hg7; replace B_p := (B_p.alloc _).chg hx (fun hm => by have := fC _ hm; omega); replace q_p_0 := B_p.cell 0 _ rfl; replace q_p_1 := B_p.cell 1 _ rfl; replace fr_p := B_p.fro; replace z_p := B_p.lt)
      have hB7 := (hB.alloc hB.size (.cells #[.int .i64 (-1)] 3)).trans (hx.below (by simp; exact Nat.le_succ_of_le hB.size) (fun b hb => by have := fC b hb; omega))
      go_roundw
      case rel =>
        refine ⟨k + 1, A7, c7, by omega, by go_num, ((B_r.alloc _).chg hx (fun hm => by have := fC _ hm; omega)).other (by omega) _, B_p.set 1 _, ?_, ?_, fun b hb => ?_, hB7.setCell (by simp; omega) _⟩
        · exact ((oB.alloc_ _).chg hx (fun b hb hm => by have e1 := mem_foot1.1 hb; simp [Value.ownBlock] at e1; have := fC b hm; omega)).keep (fun b hb => heap_set_other w7 _ (fun e => by simp [Value.ownBlock] at hb; have e3 : b = w.heap.size + 1 + 1 := e.symm; omega))
        · have e : List.replicate k (-1 : Int) ++ [-1] = List.replicate (k + 1) (-1) := by rw [List.replicate_succ', ]
          rw [e] at ho7
          exact ho7.keep (fun b hb => heap_set_other w7 _ (fun e => by
            have e3 : b = w.heap.size + 1 + 1 := e.symm
            rcases foot_app hat7 b (mem_foot1.2 hb) with hh | hh
            · have := fC b hh
              omega
            · simp at hh
              omega))
        · rcases foot_app hat7 b hb with hh | hh
          · exact fC b hh
          · simp at hh
            omega
      case measure => simp [intOf]; omega
    · obtain rfl : k = 6 := by omega
      have q_r_0 := B_r.cell 0 _ rfl
      have q_r_1 := B_r.cell 1 _ rfl
      have fr_r := B_r.fro
      go_wp2_with fail
      refine bodyPost_ret (v := .agg #[.slice (some ⟨w.heap.size + 1, 0, none⟩) 384 384, .slice A 6 cp]) (by simp [results, Try.results152, go_sem, q_r_0, q_r_1]) rfl ⟨⟨⟨some ⟨w.heap.size + 1, 0, none⟩, 384, 384⟩, ⟨A, 6, cp⟩⟩, rfl, ⟨oB.chg (F := [w.heap.size]) (by repeat (first | with_reducible exact Chg.refl _ _ | with_reducible refine Chg.set_ ?_ (by simp) _ | with_reducible refine Chg.alloc_ ?_ _ | with_reducible refine Chg.drew_ ?_)) (fun b hb hm => by have e1 := mem_foot1.1 hb; simp [SV.val, Value.ownBlock] at e1; simp only [List.mem_cons, List.not_mem_nil, or_false] at hm; omega), oC.chg (F := [w.heap.size]) (by repeat (first | with_reducible exact Chg.refl _ _ | with_reducible refine Chg.set_ ?_ (by simp) _ | with_reducible refine Chg.alloc_ ?_ _ | with_reducible refine Chg.drew_ ?_)) (fun b hb hm => by have := fC b hb; simp only [List.mem_cons, List.not_mem_nil, or_false] at hm; omega), fun b hb hm => by have e1 := mem_foot1.1 hb; simp [SV.val, Value.ownBlock] at e1; have := fC b hm; omega⟩, fun b hb => ?_, Below.trans hB (by repeat (first | with_reducible exact Below.refl _ _ | with_reducible refine Below.setCell ?_ (by simp <;> omega) _ | with_reducible refine Below.alloc ?_ (by simp <;> omega) _ | with_reducible refine Below.drew ?_))⟩
      rcases HHeap.mem_foot.1 hb with hb | hb
      · have e1 := mem_foot1.1 hb
        simp [SV.val, Value.ownBlock] at e1
        omega
      · have := fC b hb
        omega
end Go.Proofs.Ytdepckmjgpkjmaa

/-
  Numbers as bytes, and where they are put: plain facts.
-/
namespace Go.Proofs.Ytdepckmjgpkjmaa
open Go.RowKit
def putAt (b : List Int) (a : Nat) (ds : List Int) : List Int := b.take a ++ ds ++ b.drop (a + ds.length)
theorem putAt_len {b : List Int} {a : Nat} {ds : List Int} (h : a + ds.length ≤ b.length) : (putAt b a ds).length = b.length := by
  simp [putAt]
  omega
end Go.Proofs.Ytdepckmjgpkjmaa

/-
  A copy into a row of ints that the call owns; pages granted: plain facts.
-/
namespace Go.Proofs.Ytdepckmjgpkjmaa
open Go.RowKit
theorem flatI (l : List Int) : flat FI l = l.map (Value.int .i64) := by
  unfold flat
  induction l with
  | nil => rfl
  | cons x l ih => simp [FI] at ih ⊢; rw [ih]
theorem OwL.row_put {e : TypeId} {w : World} {g n c : Nat} {b : List Int} (h : OwL FI e w (.slice (some ⟨g, 0, none⟩) n c) b) : ∃ cur : Array Value, w.heap[g]? = some (.cells cur e (0, 0)) ∧ b.length ≤ cur.size ∧
    ∀ (off : Nat) (m : List Int), off + m.length ≤ b.length → OwL FI e (w.setRow g (cur.toList.take off ++ (m.map (Value.int .i64) ++ cur.toList.drop (off + m.length))).toArray) (.slice (some ⟨g, 0, none⟩) n c) (putAt b off m) := by
  have hnl := h.len_eq
  obtain ⟨h1, h2⟩ := id h
  rcases h2 with ⟨h2, _⟩ | ⟨g', cap, cur, hv, hb, hc, hl, hm, hz, ht⟩
  · cases h2
  injection hv with e1 e2 e3
  injection e1 with e1
  injection e1 with e1
  subst e1 e3
  have hz' : cur.size = c := by simpa [FI] using hz
  have ht' : cur.toList.take b.length = b.map (Value.int .i64) := by
    have := ht
    rw [flatI] at this
    simpa [FI] using this
  refine ⟨cur, hc, by omega, fun off m hf => ⟨?_, .inr ⟨g, c, _, by rw [hnl, putAt_len hf], hb, setRow_heap w g cur _ e _ hc, by rw [putAt_len hf]; omega, hm, ?_, ?_⟩⟩⟩
  · rw [length_flat]
  · simp [FI]
    omega
  · rw [flatI, putAt_len hf]
    show List.take (b.length * 1) (cur.toList.take off ++ (m.map (Value.int .i64) ++ cur.toList.drop (off + m.length))) = _
    rw [Nat.mul_one]
    have hcl : cur.toList.length = c := by simpa using hz'
    have e1 : cur.toList.take off = (b.take off).map (Value.int .i64) := by
      have := congrArg (List.take off) ht'
      rw [List.take_take, Nat.min_eq_left (by omega), ← List.map_take] at this
      exact this
    have e2 : List.take (b.length - (off + m.length)) (cur.toList.drop (off + m.length)) = (b.drop (off + m.length)).map (Value.int .i64) := by
      have := congrArg (List.drop (off + m.length)) ht'
      rw [List.drop_take, ← List.map_drop] at this
      exact this
    have l1 : (List.take off cur.toList).length = off := by simp; omega
    have l2 : (m.map (Value.int .i64)).length = m.length := by simp
    have k1 : List.take b.length (List.take off cur.toList) = List.take off cur.toList := List.take_of_length_le (by rw [l1]; omega)
    have k2 : List.take (b.length - off) (m.map (Value.int .i64)) = m.map (Value.int .i64) := List.take_of_length_le (by rw [l2]; omega)
    rw [List.take_append, l1, List.take_append, l2, k1, k2, show b.length - off - m.length = b.length - (off + m.length) by omega, e2, e1]
    simp [putAt]
theorem Chg.setRow_ {F : List Nat} {w w' : World} (h : Chg F w w') {g : Nat} (hg : g ∈ F) (cs : Array Value) : Chg F w (w'.setRow g cs) :=
  ⟨h.os, h.tape, h.output, by simpa using h.size, fun k hk hn => (setRow_other w' g k cs (fun e => hn (e ▸ hg))).trans (h.block k hk hn)⟩
end Go.Proofs.Ytdepckmjgpkjmaa

/-
  slices.Repeat: the contract.
-/
namespace Go.Proofs.Ytdepckmjgpkjmaa
open Go.RowKit
theorem wpList_copy_min {P : Program} {ops : Array Oper} {o : Oper} {a : Act} {w : World} {rest : List Oper} {Q : Exit → Act → World → Prop} (hgd : o.guard = none) (d s : Operand) (dT sT : TypeId)
    (ho : o.op = .call { callee := .builtin .copy, args := #[d, s], argTypes := #[dT, sT] }) (elem : TypeId) (hu : P.underlying dT = some (.slice elem)) (hsz : (P.info? elem).map (·.size) = some 1)
    {e : TypeId} {g n c off dLen dCap sLen sCap : Nat} {ad : Addr} {b m : List Int} (hd : a.eval d = .slice (some ⟨g, off, none⟩) dLen dCap) (hs : a.eval s = .slice (some ad) sLen sCap)
    (hown : OwL FI e w (.slice (some ⟨g, 0, none⟩) n c) b) (hsrc : ∀ j v, (m.map (Value.int .i64))[j]? = some v → w.cell? (ad.add j) = some v) (hn : m.length = Nat.min sLen dLen) (hfit : off + m.length ≤ b.length)
    (h : ∀ w', OwL FI e w' (.slice (some ⟨g, 0, none⟩) n c) (putAt b off m) → Chg [g] w w' → wpList P ops Q rest (a.put o.dst (goInt m.length)) w') :
    wpList P ops Q (o :: rest) a w := by
  refine wpList_plain hgd fun K hK => ?_
  obtain ⟨cur, hc, hcb, hput⟩ := hown.row_put
  have hrun := run_copy_row (P := P) w dT sT o.type elem g off dLen dCap ad sLen sCap cur e (m.map (Value.int .i64)) hu hsz hc (by rw [List.length_map]; exact hn) hsrc (by simp; omega) (by intro v hv; obtain ⟨x, _, rfl⟩ := List.mem_map.1 hv; rfl)
  unfold Oper.wp
  rw [List.length_map] at hrun
  simp [execOp, ho, resolve, invoke, builtin, hd, hs, hrun, Result.andThen]
  refine hK _ _ (h _ ?_ ((Chg.refl _ _).setRow_ (by simp) _))
  have := hput off m hfit
  simpa using this
theorem step_copy_min {P : Program} {ops : Array Oper} {o : Oper} {a : Act} {w : World} {K : Act → World → Prop} {Q : Exit → Act → World → Prop} {E : Prop} (hgd : o.guard = none) (d s : Operand) (dT sT : TypeId)
    (ho : o.op = .call { callee := .builtin .copy, args := #[d, s], argTypes := #[dT, sT] }) (elem : TypeId) (hu : P.underlying dT = some (.slice elem)) (hsz : (P.info? elem).map (·.size) = some 1)
    {e : TypeId} {g n c off dLen dCap sLen sCap : Nat} {ad : Addr} {b m : List Int} (hd : a.eval d = .slice (some ⟨g, off, none⟩) dLen dCap) (hs : a.eval s = .slice (some ad) sLen sCap)
    (hown : OwL FI e w (.slice (some ⟨g, 0, none⟩) n c) b) (hsrc : ∀ j v, (m.map (Value.int .i64))[j]? = some v → w.cell? (ad.add j) = some v) (hn : m.length = Nat.min sLen dLen) (hfit : off + m.length ≤ b.length)
    (h : ∀ w', OwL FI e w' (.slice (some ⟨g, 0, none⟩) n c) (putAt b off m) → Chg [g] w w' → K (a.put o.dst (goInt m.length)) w') :
    if Region.wanted o (yielded ops a.tmps) = true then Oper.wp P o a w K Q else E := by
  have hw : Region.wanted o (yielded ops a.tmps) = true := by simp [Region.wanted, hgd]
  rw [if_pos hw]
  obtain ⟨cur, hc, hcb, hput⟩ := hown.row_put
  have hrun := run_copy_row (P := P) w dT sT o.type elem g off dLen dCap ad sLen sCap cur e (m.map (Value.int .i64)) hu hsz hc (by rw [List.length_map]; exact hn) hsrc (by simp; omega) (by intro v hv; obtain ⟨x, _, rfl⟩ := List.mem_map.1 hv; rfl)
  unfold Oper.wp
  rw [List.length_map] at hrun
  simp [execOp, ho, resolve, invoke, builtin, hd, hs, hrun, Result.andThen]
  refine h _ ?_ ((Chg.refl _ _).setRow_ (by simp) _)
  have := hput off m hfit
  simpa using this

set_option maxRecDepth 100000 in
set_option maxHeartbeats 1000000 in
theorem Mul16_ct (w : World) : Calls Try.prog 181 #[.int .u64 1, .int .u64 6] w fun e w' => e = .returned (.tuple #[.int .u64 0, .int .u64 6]) ∧ w = w' := by
  go_enter Try.func181, Try.ntmps181
  go_wp2
  go_ret2
  exact ⟨rfl, rfl⟩

set_option maxRecDepth 100000 in
set_option maxHeartbeats 8000000 in
theorem Repeat6_ct (w : World) (g : Nat) (h : w.cell? ⟨g, 0, none⟩ = some (.int .i64 (-1))) (hg : g < w.heap.size) : Calls Try.prog 174 #[.slice (some ⟨g, 0, none⟩) 1 1, .int .i64 6] w fun e w' => ∃ A : Nat, e = .returned (.slice (some ⟨A, 0, none⟩) 6 6) ∧ OwL FI 3 w' (.slice (some ⟨A, 0, none⟩) 6 6) (List.replicate 6 (-1)) ∧ w.heap.size ≤ A ∧ Below w.heap.size w w' := by
  have hmk : ∀ w, (Instr.makeSlice 34 (.int .i64 6) (.int .i64 6)).run Try.prog w = .ok (.slice (some ⟨w.heap.size, 0, none⟩) 6 6) (w.alloc (.cells (madeCells #[.int .i64 0] (6 * FI.n)) 3)) := run_make_flat (P := Try.prog) FI 34 3 (.int .i64 0) 8 Try.underlying34 Try.infoInt 6 (by omega) (by omega)
  go_enter Try.func174, Try.ntmps174
  go_upto_region 7 with (go_at_call 181; refine (Mul16_ct _).mono ?_; rintro e wv ⟨rfl, rfl⟩)
  have hsrc : ∀ j v, (([-1] : List Int).map (Value.int .i64))[j]? = some v → (w.alloc (.cells (madeCells #[.int .i64 0] (6 * FI.n)) 3)).cell? ((⟨g, 0, none⟩ : Addr).add j) = some v := by
    intro j v hj
    rcases j with _ | j
    · simp at hj
      subst hj
      exact (cell_old w _ g 0 hg).trans h
    · simp at hj
  have oM := OwL.made FI #[.int .i64 0] rfl 6 (by simp [maxLen]) w 3
  have HSR := Hid.mk_ hsrc
  clear hsrc hmk
  have hB0 : Below w.heap.size w (w.alloc (.cells (madeCells #[.int .i64 0] (6 * FI.n)) 3)) := by repeat (first | exact Below.refl _ _ | refine Below.alloc ?_ (by simp <;> omega) _ | refine below_grow_of ?_ (by simp <;> omega) _ _ | refine Below.drew ?_ | refine below_drewN ?_ _)
  go_wp2_with (refine wpList_copy_min rfl _ _ 34 34 rfl 3 Try.underlying34 (by kernel_rfl) (g := w.heap.size) (off := 0) (ad := ⟨g, 0, none⟩) (m := [-1]) (b := List.replicate 6 0) rfl rfl oM HSR.out rfl (by simp) ?_; intro w5 oN hx)
  have hB5 := hB0.trans (hx.below (by simp) (by simp))
  clear hx hB0 HSR oM h
  have oQ : OwL FI 3 w5 (.slice (some ⟨w.heap.size, 0, none⟩) 6 6) (List.replicate 1 (-1) ++ List.replicate (6 - 1) 0) := oN
  clear oN
  obtain ⟨A, hA⟩ : ∃ A, A = w.heap.size := ⟨_, rfl⟩
  rw [← hA] at oQ ⊢
  have hAle : w.heap.size ≤ A := by omega
  clear hA
  go_loopw [8] (fun i wr => ∃ k : Nat, (k = 1 ∨ k = 2 ∨ k = 4 ∨ k = 6) ∧ i = .int .i64 k ∧ OwL FI 3 wr (.slice (some ⟨A, 0, none⟩) 6 6) (List.replicate k (-1) ++ List.replicate (6 - k) 0) ∧ Below w.heap.size w wr) (fun i _ => 6 - (intOf i).toNat)
  case atStart => exact ⟨1, by omega, rfl, oQ, hB5⟩
  case round =>
    clear oQ hB5
    obtain ⟨k, hk, rfl, oQ, hB⟩ := hrel
    rcases hk with rfl | rfl | rfl | rfl
    · have oD : OwL FI 3 wr.drew (.slice (some ⟨A, 0, none⟩) 6 6) (List.replicate 1 (-1) ++ List.replicate (6 - 1) 0) := oQ.keep (fun _ _ => rfl)
      have hsrc : ∀ j v, (([-1] : List Int).map (Value.int .i64))[j]? = some v → wr.drew.cell? ((⟨A, 0, none⟩ : Addr).add j) = some v := by
        intro j v hj
        have e : (⟨A, 0, none⟩ : Addr).add j = ⟨A, j, none⟩ := by simp [Addr.add] <;> omega
        rw [e]
        have hc := fun (i : Nat) (y : Int) (hy : (List.replicate 1 (-1 : Int) ++ List.replicate (6 - 1) 0)[i]? = some y) => oD.cell_ hy FI.pos
        simp only [FI, Nat.mul_one, Nat.add_zero] at hc
        have hj2 : j < 1 := by
          have := (List.getElem?_eq_some_iff.1 hj).1
          simpa using this
        have h1 := hc j (-1) (by (repeat (rcases j with _ | j; rfl)); omega)
        have h2 : v = .int .i64 (-1) := by
          (repeat (rcases j with _ | j; simp at hj; exact hj.symm)); omega
        rw [h2]
        exact h1
      have HSR := Hid.mk_ hsrc
      clear hsrc
      go_wp2_with fail
      go_region_law (refine step_copy_min rfl (.tmp 41) (.tmp 44) 34 34 rfl 3 Try.underlying34 (by kernel_rfl) (g := A) (off := 1) (dLen := 5) (dCap := 5) (sLen := 1) (sCap := 6) (ad := ⟨A, 0, none⟩) (m := [-1]) (b := List.replicate 1 (-1) ++ List.replicate (6 - 1) 0) (by simp [Act.eval, Act.put]) (by simp [Act.eval, Act.put]) oD HSR.out rfl (by simp) ?_; intro w5 oN hx)
      all_goals
        have hB5 := hB.drew.trans (hx.below hB.size (by simp; omega))
        go_wp2_with fail
        go_roundw
        case rel => exact ⟨.int .i64 2, _, _, _, _, _, _, _, _, _, _, _, _, _, ⟨2, by omega, rfl, oN, hB5⟩, rfl⟩
        case measure =>
          show 6 - (2 : Int).toNat < 5
          decide
    · have oD : OwL FI 3 wr.drew (.slice (some ⟨A, 0, none⟩) 6 6) (List.replicate 2 (-1) ++ List.replicate (6 - 2) 0) := oQ.keep (fun _ _ => rfl)
      have hsrc : ∀ j v, (([-1, -1] : List Int).map (Value.int .i64))[j]? = some v → wr.drew.cell? ((⟨A, 0, none⟩ : Addr).add j) = some v := by
        intro j v hj
        have e : (⟨A, 0, none⟩ : Addr).add j = ⟨A, j, none⟩ := by simp [Addr.add] <;> omega
        rw [e]
        have hc := fun (i : Nat) (y : Int) (hy : (List.replicate 2 (-1 : Int) ++ List.replicate (6 - 2) 0)[i]? = some y) => oD.cell_ hy FI.pos
        simp only [FI, Nat.mul_one, Nat.add_zero] at hc
        have hj2 : j < 2 := by
          have := (List.getElem?_eq_some_iff.1 hj).1
          simpa using this
        have h1 := hc j (-1) (by (repeat (rcases j with _ | j; rfl)); omega)
        have h2 : v = .int .i64 (-1) := by
          (repeat (rcases j with _ | j; simp at hj; exact hj.symm)); omega
        rw [h2]
        exact h1
      have HSR := Hid.mk_ hsrc
      clear hsrc
      go_wp2_with fail
      go_region_law (refine step_copy_min rfl (.tmp 41) (.tmp 44) 34 34 rfl 3 Try.underlying34 (by kernel_rfl) (g := A) (off := 2) (dLen := 4) (dCap := 4) (sLen := 2) (sCap := 6) (ad := ⟨A, 0, none⟩) (m := [-1, -1]) (b := List.replicate 2 (-1) ++ List.replicate (6 - 2) 0) (by simp [Act.eval, Act.put]) (by simp [Act.eval, Act.put]) oD HSR.out rfl (by simp) ?_; intro w5 oN hx)
      all_goals
        have hB5 := hB.drew.trans (hx.below hB.size (by simp; omega))
        go_wp2_with fail
        go_roundw
        case rel => exact ⟨.int .i64 4, _, _, _, _, _, _, _, _, _, _, _, _, _, ⟨4, by omega, rfl, oN, hB5⟩, rfl⟩
        case measure =>
          show 6 - (4 : Int).toNat < 4
          decide
    · have oD : OwL FI 3 wr.drew (.slice (some ⟨A, 0, none⟩) 6 6) (List.replicate 4 (-1) ++ List.replicate (6 - 4) 0) := oQ.keep (fun _ _ => rfl)
      have hsrc : ∀ j v, (([-1, -1] : List Int).map (Value.int .i64))[j]? = some v → wr.drew.cell? ((⟨A, 0, none⟩ : Addr).add j) = some v := by
        intro j v hj
        have e : (⟨A, 0, none⟩ : Addr).add j = ⟨A, j, none⟩ := by simp [Addr.add] <;> omega
        rw [e]
        have hc := fun (i : Nat) (y : Int) (hy : (List.replicate 4 (-1 : Int) ++ List.replicate (6 - 4) 0)[i]? = some y) => oD.cell_ hy FI.pos
        simp only [FI, Nat.mul_one, Nat.add_zero] at hc
        have hj2 : j < 2 := by
          have := (List.getElem?_eq_some_iff.1 hj).1
          simpa using this
        have h1 := hc j (-1) (by (repeat (rcases j with _ | j; rfl)); omega)
        have h2 : v = .int .i64 (-1) := by
          (repeat (rcases j with _ | j; simp at hj; exact hj.symm)); omega
        rw [h2]
        exact h1
      have HSR := Hid.mk_ hsrc
      clear hsrc
      go_wp2_with fail
      go_region_law (refine step_copy_min rfl (.tmp 41) (.tmp 44) 34 34 rfl 3 Try.underlying34 (by kernel_rfl) (g := A) (off := 4) (dLen := 2) (dCap := 2) (sLen := 4) (sCap := 6) (ad := ⟨A, 0, none⟩) (m := [-1, -1]) (b := List.replicate 4 (-1) ++ List.replicate (6 - 4) 0) (by simp [Act.eval, Act.put]) (by simp [Act.eval, Act.put]) oD HSR.out rfl (by simp) ?_; intro w5 oN hx)
      all_goals
        have hB5 := hB.drew.trans (hx.below hB.size (by simp; omega))
        go_wp2_with fail
        go_roundw
        case rel => exact ⟨.int .i64 6, _, _, _, _, _, _, _, _, _, _, _, _, _, ⟨6, by omega, rfl, oN, hB5⟩, rfl⟩
        case measure =>
          show 6 - (6 : Int).toNat < 2
          decide
    · go_wp2
      go_ret
      exact ⟨A, rfl, by simpa using oQ, by omega, hB⟩
end Go.Proofs.Ytdepckmjgpkjmaa

/-
  New heaps of the program: the contract.
-/
namespace Go.Proofs.Ytdepckmjgpkjmaa
open Go.RowKit

set_option maxRecDepth 100000 in
set_option maxHeartbeats 2000000 in
theorem HeapNew_impl (w : World) : Calls Try.prog 156 #[] w fun e w' => ∃ H' : HHeap, e = .returned (.agg #[.slice H'.Bytes.a H'.Bytes.len H'.Bytes.cap, .slice H'.Class.a H'.Class.len H'.Class.cap]) ∧ OwHeap w' H' newHeap ∧ (∀ g ∈ H'.foot, w.heap.size ≤ g) ∧ Below w.heap.size w w' := by
  have hmk : ∀ w, (Instr.makeSlice 34 (.int .i64 384) (.int .i64 384)).run Try.prog w = .ok (.slice (some ⟨w.heap.size, 0, none⟩) 384 384) (w.alloc (.cells (madeCells #[.int .i64 0] (384 * FI.n)) 3)) := run_make_flat (P := Try.prog) FI 34 3 (.int .i64 0) 8 Try.underlying34 Try.infoInt 384 (by omega) (by omega)
  have B_r : Box (w.alloc (.cells #[.slice none 0 0, .slice none 0 0] 54)) (w.heap.size) [.slice none 0 0, .slice none 0 0] := by
    have hbx := Box.new w #[.slice none 0 0, .slice none 0 0] 54
    exact hbx
  have hB : Below w.heap.size w (w.alloc (.cells #[.slice none 0 0, .slice none 0 0] 54)) := by repeat (first | exact Below.refl _ _ | refine Below.alloc ?_ (by simp <;> omega) _ | refine below_grow_of ?_ (by simp <;> omega) _ _ | refine Below.drew ?_ | refine below_drewN ?_ _)
  go_enter Try.func156, Try.ntmps156
  go_wp2_with fail
  generalize hW0 : (w.alloc (.cells #[.slice none 0 0, .slice none 0 0] 54)) = w0 at B_r hB ⊢
  clear hW0
  have zz_r := B_r.lt
  have q_r_0 := B_r.cell 0 _ rfl
  have q_r_1 := B_r.cell 1 _ rfl
  have fr_r := B_r.fro
  have z_r := B_r.lt
  go_region_with (go_at_call 174; refine (Repeat6_ct _ _ ?h1 ?h2).mono ?_; (case h1 => (simp [go_sem] <;> omega)); (case h2 => (simp <;> omega)); rintro e wq ⟨A, rfl, oA, hA, hb⟩; have B_q : Box wq w.heap.size [.slice none 0 0, .slice none 0 0] := (by first | with_reducible exact ((B_r.alloc _).alloc _).below hb | with_reducible exact (B_r.alloc _).below hb | with_reducible exact ((B_r.alloc _).alloc _).drew.below hb | with_reducible exact (B_r.alloc _).drew.below hb); replace q_r_0 := B_q.cell 0 _ rfl; replace q_r_1 := B_q.cell 1 _ rfl; replace fr_r := B_q.fro; replace z_r := B_q.lt; clear B_r)
  · have oB0 := (OwL.made FI #[.int .i64 0] rfl 384 (by simp [maxLen]) w0 3).alloc_ (.cells #[.int .i64 (-1)] 3)
    have oB1 : OwL FI 3 ((w0.alloc (.cells (madeCells #[.int .i64 0] (384 * FI.n)) 3)).alloc (.cells #[.int .i64 (-1)] 3)).drew (.slice (some ⟨w0.heap.size, 0, none⟩) 384 384) (List.replicate 384 0) := by
      exact oB0.keep (fun _ _ => rfl)
    have oB := oB1.step0 hb
    have hBq : Below w.heap.size w wq := (((hB.alloc hB.size _).alloc (by simp; omega) _).drew).trans (hb.mono (by simp; omega))
    have hA2 : w0.heap.size + 2 ≤ A := by simpa using hA
    have br := B_q
    go_wp2_with fail
    have r0 := ((br.set 0 (.slice (some ⟨w0.heap.size, 0, none⟩) 384 384)).set 1 (.slice (some ⟨A, 0, none⟩) 6 6)).cell 0 _ rfl
    have r1 := ((br.set 0 (.slice (some ⟨w0.heap.size, 0, none⟩) 384 384)).set 1 (.slice (some ⟨A, 0, none⟩) 6 6)).cell 1 _ rfl
    exact bodyPost_ret (v := .agg #[.slice (some ⟨w0.heap.size, 0, none⟩) 384 384, .slice (some ⟨A, 0, none⟩) 6 6]) (by simp [results, Try.results156, go_sem, r0, r1]) rfl ⟨⟨⟨some ⟨w0.heap.size, 0, none⟩, 384, 384⟩, ⟨some ⟨A, 0, none⟩, 6, 6⟩⟩, rfl, ⟨oB.chg (F := [w.heap.size]) (by repeat (first | with_reducible exact Chg.refl _ _ | with_reducible refine Chg.set_ ?_ (by simp) _ | with_reducible refine Chg.alloc_ ?_ _ | with_reducible refine Chg.drew_ ?_)) (fun b hb hm => by simp [foot1, SV.val, Value.ownBlock] at hb hm; omega), oA.chg (F := [w.heap.size]) (by repeat (first | with_reducible exact Chg.refl _ _ | with_reducible refine Chg.set_ ?_ (by simp) _ | with_reducible refine Chg.alloc_ ?_ _ | with_reducible refine Chg.drew_ ?_)) (fun b hb hm => by simp [foot1, SV.val, Value.ownBlock] at hb hm; omega), fun b hb hm => by simp [foot1, SV.val, Value.ownBlock] at hb hm; omega⟩, fun b hb => by (simp [HHeap.foot, foot1, SV.val, Value.ownBlock] at hb; omega), Below.trans hBq (by repeat (first | with_reducible exact Below.refl _ _ | with_reducible refine Below.setCell ?_ (by simp <;> omega) _ | with_reducible refine Below.alloc ?_ (by simp <;> omega) _ | with_reducible refine Below.drew ?_))⟩
  · have oB0 := OwL.made FI #[.int .i64 0] rfl 384 (by simp [maxLen]) (w0.alloc (.cells #[.int .i64 (-1)] 3)) 3
    have oB1 : OwL FI 3 ((w0.alloc (.cells #[.int .i64 (-1)] 3)).alloc (.cells (madeCells #[.int .i64 0] (384 * FI.n)) 3)).drew (.slice (some ⟨w0.heap.size + 1, 0, none⟩) 384 384) (List.replicate 384 0) := by
      simp only [World.size_alloc] at oB0
      exact oB0.keep (fun _ _ => rfl)
    have oB := oB1.step0 hb
    have hBq : Below w.heap.size w wq := (((hB.alloc hB.size _).alloc (by simp; omega) _).drew).trans (hb.mono (by simp; omega))
    have hA2 : w0.heap.size + 2 ≤ A := by simpa using hA
    have br := B_q
    go_wp2_with fail
    have r0 := ((br.set 0 (.slice (some ⟨w0.heap.size + 1, 0, none⟩) 384 384)).set 1 (.slice (some ⟨A, 0, none⟩) 6 6)).cell 0 _ rfl
    have r1 := ((br.set 0 (.slice (some ⟨w0.heap.size + 1, 0, none⟩) 384 384)).set 1 (.slice (some ⟨A, 0, none⟩) 6 6)).cell 1 _ rfl
    exact bodyPost_ret (v := .agg #[.slice (some ⟨w0.heap.size + 1, 0, none⟩) 384 384, .slice (some ⟨A, 0, none⟩) 6 6]) (by simp [results, Try.results156, go_sem, r0, r1]) rfl ⟨⟨⟨some ⟨w0.heap.size + 1, 0, none⟩, 384, 384⟩, ⟨some ⟨A, 0, none⟩, 6, 6⟩⟩, rfl, ⟨oB.chg (F := [w.heap.size]) (by repeat (first | with_reducible exact Chg.refl _ _ | with_reducible refine Chg.set_ ?_ (by simp) _ | with_reducible refine Chg.alloc_ ?_ _ | with_reducible refine Chg.drew_ ?_)) (fun b hb hm => by simp [foot1, SV.val, Value.ownBlock] at hb hm; omega), oA.chg (F := [w.heap.size]) (by repeat (first | with_reducible exact Chg.refl _ _ | with_reducible refine Chg.set_ ?_ (by simp) _ | with_reducible refine Chg.alloc_ ?_ _ | with_reducible refine Chg.drew_ ?_)) (fun b hb hm => by simp [foot1, SV.val, Value.ownBlock] at hb hm; omega), fun b hb hm => by simp [foot1, SV.val, Value.ownBlock] at hb hm; omega⟩, fun b hb => by (simp [HHeap.foot, foot1, SV.val, Value.ownBlock] at hb; omega), Below.trans hBq (by repeat (first | with_reducible exact Below.refl _ _ | with_reducible refine Below.setCell ?_ (by simp <;> omega) _ | with_reducible refine Below.alloc ?_ (by simp <;> omega) _ | with_reducible refine Below.drew ?_))⟩
  · have e2 : ((wq.setCell ⟨w.heap.size, 0, none⟩ (.slice (some ⟨wq.heap.size, 0, none⟩) 384 384)).setCell ⟨w.heap.size, 1, none⟩ (.slice (some ⟨A, 0, none⟩) 6 6)).heap.size = wq.heap.size := by simp
    have oB := OwL.made FI #[.int .i64 0] rfl 384 (by simp [maxLen]) ((wq.setCell ⟨w.heap.size, 0, none⟩ (.slice (some ⟨wq.heap.size, 0, none⟩) 384 384)).setCell ⟨w.heap.size, 1, none⟩ (.slice (some ⟨A, 0, none⟩) 6 6)) 3
    rw [e2] at oB
    have hBw : Below w.heap.size w wq := (((hB.alloc hB.size (.cells #[.int .i64 (-1)] 3)).drew).trans (hb.mono (by simp; omega)))
    have hA2 : w0.heap.size + 1 ≤ A := by simpa using hA
    have hA3 : A < wq.heap.size := foot_lt oA A (by simp [foot1, Value.ownBlock])
    replace oA := (oA.chg (F := [w.heap.size]) (w' := ((wq.setCell ⟨w.heap.size, 0, none⟩ (.slice (some ⟨wq.heap.size, 0, none⟩) 384 384)).setCell ⟨w.heap.size, 1, none⟩ (.slice (some ⟨A, 0, none⟩) 6 6))) (by repeat (first | with_reducible exact Chg.refl _ _ | with_reducible refine Chg.set_ ?_ (by simp) _ | with_reducible refine Chg.alloc_ ?_ _ | with_reducible refine Chg.drew_ ?_)) (fun b hb hm => by simp [foot1, Value.ownBlock] at hb hm; omega)).alloc_ (.cells (madeCells #[.int .i64 0] (384 * FI.n)) 3)
    have br := ((B_q.set 0 (.slice (some ⟨wq.heap.size, 0, none⟩) 384 384)).set 1 (.slice (some ⟨A, 0, none⟩) 6 6)).alloc (.cells (madeCells #[.int .i64 0] (384 * FI.n)) 3)
    go_wp2_with fail
    have r0 := br.cell 0 _ rfl
    have r1 := br.cell 1 _ rfl
    exact bodyPost_ret (v := .agg #[.slice (some ⟨wq.heap.size, 0, none⟩) 384 384, .slice (some ⟨A, 0, none⟩) 6 6]) (by simp [results, Try.results156, go_sem, r0, r1]) rfl ⟨⟨⟨some ⟨wq.heap.size, 0, none⟩, 384, 384⟩, ⟨some ⟨A, 0, none⟩, 6, 6⟩⟩, rfl, ⟨oB, oA, fun b hb hm => by simp [foot1, SV.val, Value.ownBlock] at hb hm; omega⟩, fun b hb => by (simp [HHeap.foot, foot1, SV.val, Value.ownBlock] at hb; omega), Below.trans hBw (by repeat (first | with_reducible exact Below.refl _ _ | with_reducible refine Below.setCell ?_ (by simp <;> omega) _ | with_reducible refine Below.alloc ?_ (by simp <;> omega) _ | with_reducible refine Below.drew ?_))⟩
end Go.Proofs.Ytdepckmjgpkjmaa

/-
  New clocks, limbo lists, hazards: the contracts.
-/
namespace Go.Proofs.Ytdepckmjgpkjmaa
open Go.RowKit
def pin0 : Pin := ⟨false, 0, false, 0⟩
def newClk : Clock := ⟨0, [pin0, pin0, pin0]⟩

set_option maxHeartbeats 400000 in
theorem ClockNew_impl (w : World) : Calls Try.prog 113 #[] w fun e w' => ∃ H' : HClock, e = .returned (H'.val newClk) ∧ OwClock w' H' newClk ∧ (∀ g ∈ H'.foot, w.heap.size ≤ g) ∧ Below w.heap.size w w' := by
  have hmk : ∀ w, (Instr.makeSlice 60 (.int .i64 3) (.int .i64 3)).run Try.prog w = .ok (.slice (some ⟨w.heap.size, 0, none⟩) 3 3) (w.alloc (.cells (madeCells #[.bool false, .int .i64 0, .bool false, .int .i64 0] (3 * FPin.n)) 178)) := run_make_flat (P := Try.prog) FPin 60 178 (.agg #[.bool false, .int .i64 0, .bool false, .int .i64 0]) 32 Try.underlying60 Try.infoPin 3 (by omega) (by omega)
  go_enter Try.func113, Try.ntmps113
  go_wp2
  have ho := OwL.made FPin #[.bool false, .int .i64 0, .bool false, .int .i64 0] rfl 3 (by simp [maxLen]) (w.alloc (.cells #[.int .i64 0, .slice none 0 0] 62)) 178
  refine bodyPost_ret (v := .agg #[.int .i64 0, .slice (some ⟨w.heap.size + 1, 0, none⟩) 3 3]) (by simp [results, Try.results113, go_sem]) rfl ⟨⟨⟨some ⟨w.heap.size + 1, 0, none⟩, 3, 3⟩⟩, rfl, ⟨?_⟩, ?_, ?_⟩
  · simp only [World.size_alloc] at ho
    refine ho.keep ?_
    intro g hg
    simp [Value.ownBlock] at hg
    subst hg
    have e : ∀ o o2, ((w.alloc o).alloc o2).heap[w.heap.size + 1]? = some o2 := fun o o2 => by
      have := heap_alloc_new (w.alloc o) o2
      rwa [World.size_alloc] at this
    rw [e, e]
  · simp [HClock.foot, foot1, Value.ownBlock, SV.val]
  · repeat (first | exact Below.refl _ _ | refine Below.alloc ?_ (by simp <;> omega) _ | refine below_grow_of ?_ (by simp <;> omega) _ _ | refine Below.drew ?_)

set_option maxHeartbeats 400000 in
theorem ClockNew_spec (w : World) : Calls Try.prog 104 #[] w fun e w' => ∃ H' : HClock, e = .returned (H'.val newClk) ∧ OwClock w' H' newClk ∧ (∀ g ∈ H'.foot, w.heap.size ≤ g) ∧ Below w.heap.size w w' := by
  have hmk : ∀ w, (Instr.makeSlice 60 (.int .i64 3) (.int .i64 3)).run Try.prog w = .ok (.slice (some ⟨w.heap.size, 0, none⟩) 3 3) (w.alloc (.cells (madeCells #[.bool false, .int .i64 0, .bool false, .int .i64 0] (3 * FPin.n)) 178)) := run_make_flat (P := Try.prog) FPin 60 178 (.agg #[.bool false, .int .i64 0, .bool false, .int .i64 0]) 32 Try.underlying60 Try.infoPin 3 (by omega) (by omega)
  go_enter Try.func104, Try.ntmps104
  go_wp2
  have ho := OwL.made FPin #[.bool false, .int .i64 0, .bool false, .int .i64 0] rfl 3 (by simp [maxLen]) (w.alloc (.cells #[.int .i64 0, .slice none 0 0] 62)) 178
  refine bodyPost_ret (v := .agg #[.int .i64 0, .slice (some ⟨w.heap.size + 1, 0, none⟩) 3 3]) (by simp [results, Try.results104, go_sem]) rfl ⟨⟨⟨some ⟨w.heap.size + 1, 0, none⟩, 3, 3⟩⟩, rfl, ⟨?_⟩, ?_, ?_⟩
  · simp only [World.size_alloc] at ho
    refine ho.keep ?_
    intro g hg
    simp [Value.ownBlock] at hg
    subst hg
    have e : ∀ o o2, ((w.alloc o).alloc o2).heap[w.heap.size + 1]? = some o2 := fun o o2 => by
      have := heap_alloc_new (w.alloc o) o2
      rwa [World.size_alloc] at this
    rw [e, e]
  · simp [HClock.foot, foot1, Value.ownBlock, SV.val]
  · repeat (first | exact Below.refl _ _ | refine Below.alloc ?_ (by simp <;> omega) _ | refine below_grow_of ?_ (by simp <;> omega) _ _ | refine Below.drew ?_)

set_option maxHeartbeats 400000 in
theorem LimboNew_spec (w : World) : Calls Try.prog 105 #[] w fun e w' => ∃ v t, e = .returned v ∧ OwLL FLRow 180 167 w' v t [[], [], []] ∧ (∀ g ∈ foot2 v t, w.heap.size ≤ g) ∧ Below w.heap.size w w' := by
  have hmk : ∀ w, (Instr.makeSlice 63 (.int .i64 3) (.int .i64 3)).run Try.prog w = .ok (.slice (some ⟨w.heap.size, 0, none⟩) 3 3) (w.alloc (.cells (madeCells #[.slice none 0 0] (3 * FS.n)) 167)) := run_make_flat (P := Try.prog) FS 63 167 (.agg #[.slice none 0 0]) 24 Try.underlying63 Try.infoLList 3 (by omega) (by omega)
  go_enter Try.func105, Try.ntmps105
  go_wp2
  go_ret
  exact ⟨_, _, rfl, OwLL.made #[.slice none 0 0] rfl 3 (by simp [maxLen]) w FLRow 180 167, foot2_made _ 3, (Below.refl _ _).alloc (Nat.le_refl _) _⟩

set_option maxHeartbeats 400000 in
theorem LimboNew_impl (w : World) : Calls Try.prog 114 #[] w fun e w' => ∃ v t, e = .returned v ∧ OwLL FLRow 180 167 w' v t [[], [], []] ∧ (∀ g ∈ foot2 v t, w.heap.size ≤ g) ∧ Below w.heap.size w w' := by
  have hmk : ∀ w, (Instr.makeSlice 63 (.int .i64 3) (.int .i64 3)).run Try.prog w = .ok (.slice (some ⟨w.heap.size, 0, none⟩) 3 3) (w.alloc (.cells (madeCells #[.slice none 0 0] (3 * FS.n)) 167)) := run_make_flat (P := Try.prog) FS 63 167 (.agg #[.slice none 0 0]) 24 Try.underlying63 Try.infoLList 3 (by omega) (by omega)
  go_enter Try.func114, Try.ntmps114
  go_wp2
  go_ret
  exact ⟨_, _, rfl, OwLL.made #[.slice none 0 0] rfl 3 (by simp [maxLen]) w FLRow 180 167, foot2_made _ 3, (Below.refl _ _).alloc (Nat.le_refl _) _⟩

set_option maxHeartbeats 400000 in
theorem HazNew_spec (w : World) : Calls Try.prog 106 #[] w fun e w' => ∃ v, e = .returned v ∧ OwL FI 3 w' v [0, 0, 0] ∧ (∀ g ∈ foot1 v, w.heap.size ≤ g) ∧ Below w.heap.size w w' := by
  have hmk : ∀ w, (Instr.makeSlice 34 (.int .i64 3) (.int .i64 3)).run Try.prog w = .ok (.slice (some ⟨w.heap.size, 0, none⟩) 3 3) (w.alloc (.cells (madeCells #[.int .i64 0] (3 * FI.n)) 3)) := run_make_flat (P := Try.prog) FI 34 3 (.int .i64 0) 8 Try.underlying34 Try.infoInt 3 (by omega) (by omega)
  go_enter Try.func106, Try.ntmps106
  go_wp2
  go_ret
  exact ⟨_, rfl, OwL.made FI #[.int .i64 0] rfl 3 (by simp [maxLen]) w 3, by simp [foot1, Value.ownBlock], (Below.refl _ _).alloc (Nat.le_refl _) _⟩

set_option maxHeartbeats 400000 in
theorem HazNew_impl (w : World) : Calls Try.prog 115 #[] w fun e w' => ∃ v, e = .returned v ∧ OwL FI 3 w' v [0, 0, 0] ∧ (∀ g ∈ foot1 v, w.heap.size ≤ g) ∧ Below w.heap.size w w' := by
  have hmk : ∀ w, (Instr.makeSlice 34 (.int .i64 3) (.int .i64 3)).run Try.prog w = .ok (.slice (some ⟨w.heap.size, 0, none⟩) 3 3) (w.alloc (.cells (madeCells #[.int .i64 0] (3 * FI.n)) 3)) := run_make_flat (P := Try.prog) FI 34 3 (.int .i64 0) 8 Try.underlying34 Try.infoInt 3 (by omega) (by omega)
  go_enter Try.func115, Try.ntmps115
  go_wp2
  go_ret
  exact ⟨_, rfl, OwL.made FI #[.int .i64 0] rfl 3 (by simp [maxLen]) w 3, by simp [foot1, Value.ownBlock], (Below.refl _ _).alloc (Nat.le_refl _) _⟩

end Go.Proofs.Ytdepckmjgpkjmaa

/-
  New bases: the contracts.
-/
namespace Go.Proofs.Ytdepckmjgpkjmaa
open Go.RowKit
def newBase : Base := ⟨newMem, newClk, [[], [], []], [0, 0, 0]⟩

set_option maxRecDepth 100000 in
set_option maxHeartbeats 1000000 in
theorem MemNew_impl (w : World) : Calls Try.prog 112 #[] w fun e w' => ∃ H' : HMem, e = .returned (H'.val newMem) ∧ OwMem w' H' newMem ∧ (∀ g ∈ H'.foot, w.heap.size ≤ g) ∧ Below w.heap.size w w' := by
  have B_r : Box (w.alloc (.cells #[.slice none 0 0, .slice none 0 0, .slice none 0 0, .slice none 0 0] 59)) (w.heap.size) [.slice none 0 0, .slice none 0 0, .slice none 0 0, .slice none 0 0] := by
    have hbx := Box.new w #[.slice none 0 0, .slice none 0 0, .slice none 0 0, .slice none 0 0] 59
    exact hbx
  have hB : Below w.heap.size w (w.alloc (.cells #[.slice none 0 0, .slice none 0 0, .slice none 0 0, .slice none 0 0] 59)) := by repeat (first | exact Below.refl _ _ | refine Below.alloc ?_ (by simp <;> omega) _ | refine below_grow_of ?_ (by simp <;> omega) _ _ | refine Below.drew ?_ | refine below_drewN ?_ _)
  go_enter Try.func112, Try.ntmps112
  go_wp2_with fail
  generalize hW0 : (w.alloc (.cells #[.slice none 0 0, .slice none 0 0, .slice none 0 0, .slice none 0 0] 59)) = w0 at B_r hB ⊢
  clear hW0
  have zz_r := B_r.lt
  have q_r_0 := B_r.cell 0 _ rfl
  have q_r_1 := B_r.cell 1 _ rfl
  have q_r_2 := B_r.cell 2 _ rfl
  have q_r_3 := B_r.cell 3 _ rfl
  have fr_r := B_r.fro
  have z_r := B_r.lt
  refine (HeapNew_impl _).mono ?_
  rintro e w1 ⟨Hh, rfl, o_h, l_h, hb⟩
  have u_h := o_h.lt
  replace B_r := B_r.below hb
  replace hB := hB.trans (hb.mono hB.size)
  have sz := hb.size
  clear hb
  replace q_r_0 := B_r.cell 0 _ rfl
  replace q_r_1 := B_r.cell 1 _ rfl
  replace q_r_2 := B_r.cell 2 _ rfl
  replace q_r_3 := B_r.cell 3 _ rfl
  replace fr_r := B_r.fro
  replace z_r := B_r.lt
  go_wp2_with fail
  refine (ListsNew_impl _).mono ?_
  rintro e w2 ⟨Hl, rfl, o_l, l_l, hb⟩
  have u_l := o_l.lt
  replace B_r := B_r.below hb
  have o_h := o_h.step0 hb
  replace hB := hB.trans (hb.mono hB.size)
  have sz := hb.size
  clear hb
  replace q_r_0 := B_r.cell 0 _ rfl
  replace q_r_1 := B_r.cell 1 _ rfl
  replace q_r_2 := B_r.cell 2 _ rfl
  replace q_r_3 := B_r.cell 3 _ rfl
  replace fr_r := B_r.fro
  replace z_r := B_r.lt
  go_wp2_with fail
  refine bodyPost_ret (v := (⟨Hh, Hl⟩ : HMem).val newMem) (by simp [results, Try.results112, go_sem, q_r_0, q_r_1, q_r_2, q_r_3]) rfl ⟨⟨Hh, Hl⟩, rfl, ⟨o_h.chg (F := [w.heap.size]) (by repeat (first | with_reducible exact Chg.refl _ _ | with_reducible refine Chg.set_ ?_ (by simp) _ | with_reducible refine Chg.alloc_ ?_ _ | with_reducible refine Chg.drew_ ?_)) (fun g hg hm => by simp only [List.mem_cons, List.not_mem_nil, or_false] at hm; have := l_h g hg; have := u_h g hg; omega), o_l.chg (F := [w.heap.size]) (by repeat (first | with_reducible exact Chg.refl _ _ | with_reducible refine Chg.set_ ?_ (by simp) _ | with_reducible refine Chg.alloc_ ?_ _ | with_reducible refine Chg.drew_ ?_)) (fun g hg hm => by simp only [List.mem_cons, List.not_mem_nil, or_false] at hm; have := l_l g hg; have := u_l g hg; omega), fun b hb hm => by have := l_l b hm; have := u_h b hb; omega⟩, fun b hb => by rcases HMem.mem_foot.1 hb with hb | hb; (have := l_h b hb; omega); (have := l_l b hb; omega), Below.trans hB (by repeat (first | with_reducible exact Below.refl _ _ | with_reducible refine Below.setCell ?_ (by simp <;> omega) _ | with_reducible refine Below.alloc ?_ (by simp <;> omega) _ | with_reducible refine Below.drew ?_))⟩

set_option maxRecDepth 100000 in
set_option maxHeartbeats 1000000 in
theorem MemNew_spec (w : World) : Calls Try.prog 103 #[] w fun e w' => ∃ H' : HMem, e = .returned (H'.val newMem) ∧ OwMem w' H' newMem ∧ (∀ g ∈ H'.foot, w.heap.size ≤ g) ∧ Below w.heap.size w w' := by
  have B_r : Box (w.alloc (.cells #[.slice none 0 0, .slice none 0 0, .slice none 0 0, .slice none 0 0] 59)) (w.heap.size) [.slice none 0 0, .slice none 0 0, .slice none 0 0, .slice none 0 0] := by
    have hbx := Box.new w #[.slice none 0 0, .slice none 0 0, .slice none 0 0, .slice none 0 0] 59
    exact hbx
  have hB : Below w.heap.size w (w.alloc (.cells #[.slice none 0 0, .slice none 0 0, .slice none 0 0, .slice none 0 0] 59)) := by repeat (first | exact Below.refl _ _ | refine Below.alloc ?_ (by simp <;> omega) _ | refine below_grow_of ?_ (by simp <;> omega) _ _ | refine Below.drew ?_ | refine below_drewN ?_ _)
  go_enter Try.func103, Try.ntmps103
  go_wp2_with fail
  generalize hW0 : (w.alloc (.cells #[.slice none 0 0, .slice none 0 0, .slice none 0 0, .slice none 0 0] 59)) = w0 at B_r hB ⊢
  clear hW0
  have zz_r := B_r.lt
  have q_r_0 := B_r.cell 0 _ rfl
  have q_r_1 := B_r.cell 1 _ rfl
  have q_r_2 := B_r.cell 2 _ rfl
  have q_r_3 := B_r.cell 3 _ rfl
  have fr_r := B_r.fro
  have z_r := B_r.lt
  refine (HeapNew_spec _).mono ?_
  rintro e w1 ⟨Hh, rfl, o_h, l_h, hb⟩
  have u_h := o_h.lt
  replace B_r := B_r.below hb
  replace hB := hB.trans (hb.mono hB.size)
  have sz := hb.size
  clear hb
  replace q_r_0 := B_r.cell 0 _ rfl
  replace q_r_1 := B_r.cell 1 _ rfl
  replace q_r_2 := B_r.cell 2 _ rfl
  replace q_r_3 := B_r.cell 3 _ rfl
  replace fr_r := B_r.fro
  replace z_r := B_r.lt
  go_wp2_with fail
  refine (ListsNew_spec _).mono ?_
  rintro e w2 ⟨Hl, rfl, o_l, l_l, hb⟩
  have u_l := o_l.lt
  replace B_r := B_r.below hb
  have o_h := o_h.step0 hb
  replace hB := hB.trans (hb.mono hB.size)
  have sz := hb.size
  clear hb
  replace q_r_0 := B_r.cell 0 _ rfl
  replace q_r_1 := B_r.cell 1 _ rfl
  replace q_r_2 := B_r.cell 2 _ rfl
  replace q_r_3 := B_r.cell 3 _ rfl
  replace fr_r := B_r.fro
  replace z_r := B_r.lt
  go_wp2_with fail
  refine bodyPost_ret (v := (⟨Hh, Hl⟩ : HMem).val newMem) (by simp [results, Try.results103, go_sem, q_r_0, q_r_1, q_r_2, q_r_3]) rfl ⟨⟨Hh, Hl⟩, rfl, ⟨o_h.chg (F := [w.heap.size]) (by repeat (first | with_reducible exact Chg.refl _ _ | with_reducible refine Chg.set_ ?_ (by simp) _ | with_reducible refine Chg.alloc_ ?_ _ | with_reducible refine Chg.drew_ ?_)) (fun g hg hm => by simp only [List.mem_cons, List.not_mem_nil, or_false] at hm; have := l_h g hg; have := u_h g hg; omega), o_l.chg (F := [w.heap.size]) (by repeat (first | with_reducible exact Chg.refl _ _ | with_reducible refine Chg.set_ ?_ (by simp) _ | with_reducible refine Chg.alloc_ ?_ _ | with_reducible refine Chg.drew_ ?_)) (fun g hg hm => by simp only [List.mem_cons, List.not_mem_nil, or_false] at hm; have := l_l g hg; have := u_l g hg; omega), fun b hb hm => by have := l_l b hm; have := u_h b hb; omega⟩, fun b hb => by rcases HMem.mem_foot.1 hb with hb | hb; (have := l_h b hb; omega); (have := l_l b hb; omega), Below.trans hB (by repeat (first | with_reducible exact Below.refl _ _ | with_reducible refine Below.setCell ?_ (by simp <;> omega) _ | with_reducible refine Below.alloc ?_ (by simp <;> omega) _ | with_reducible refine Below.drew ?_))⟩

set_option maxRecDepth 100000 in
set_option maxHeartbeats 1000000 in
theorem BaseNew_impl (w : World) : Calls Try.prog 70 #[] w fun e w' => ∃ H' : HBase, e = .returned (H'.val newBase) ∧ OwBase w' H' newBase ∧ (∀ g ∈ H'.foot, w.heap.size ≤ g) ∧ Below w.heap.size w w' := by
  have B_r : Box (w.alloc (.cells #[.slice none 0 0, .slice none 0 0, .slice none 0 0, .slice none 0 0, .int .i64 0, .slice none 0 0, .slice none 0 0, .slice none 0 0] 65)) (w.heap.size) [.slice none 0 0, .slice none 0 0, .slice none 0 0, .slice none 0 0, .int .i64 0, .slice none 0 0, .slice none 0 0, .slice none 0 0] := by
    have hbx := Box.new w #[.slice none 0 0, .slice none 0 0, .slice none 0 0, .slice none 0 0, .int .i64 0, .slice none 0 0, .slice none 0 0, .slice none 0 0] 65
    exact hbx
  have hB : Below w.heap.size w (w.alloc (.cells #[.slice none 0 0, .slice none 0 0, .slice none 0 0, .slice none 0 0, .int .i64 0, .slice none 0 0, .slice none 0 0, .slice none 0 0] 65)) := by repeat (first | exact Below.refl _ _ | refine Below.alloc ?_ (by simp <;> omega) _ | refine below_grow_of ?_ (by simp <;> omega) _ _ | refine Below.drew ?_ | refine below_drewN ?_ _)
  go_enter Try.func70, Try.ntmps70
  go_wp2_with fail
  generalize hW0 : (w.alloc (.cells #[.slice none 0 0, .slice none 0 0, .slice none 0 0, .slice none 0 0, .int .i64 0, .slice none 0 0, .slice none 0 0, .slice none 0 0] 65)) = w0 at B_r hB ⊢
  clear hW0
  have zz_r := B_r.lt
  have q_r_0 := B_r.cell 0 _ rfl
  have q_r_1 := B_r.cell 1 _ rfl
  have q_r_2 := B_r.cell 2 _ rfl
  have q_r_3 := B_r.cell 3 _ rfl
  have q_r_4 := B_r.cell 4 _ rfl
  have q_r_5 := B_r.cell 5 _ rfl
  have q_r_6 := B_r.cell 6 _ rfl
  have q_r_7 := B_r.cell 7 _ rfl
  have fr_r := B_r.fro
  have z_r := B_r.lt
  refine (MemNew_impl _).mono ?_
  rintro e w1 ⟨Hm, rfl, o_m, l_m, hb⟩
  have u_m := o_m.lt
  replace B_r := B_r.below hb
  replace hB := hB.trans (hb.mono hB.size)
  have sz := hb.size
  clear hb
  replace q_r_0 := B_r.cell 0 _ rfl
  replace q_r_1 := B_r.cell 1 _ rfl
  replace q_r_2 := B_r.cell 2 _ rfl
  replace q_r_3 := B_r.cell 3 _ rfl
  replace q_r_4 := B_r.cell 4 _ rfl
  replace q_r_5 := B_r.cell 5 _ rfl
  replace q_r_6 := B_r.cell 6 _ rfl
  replace q_r_7 := B_r.cell 7 _ rfl
  replace fr_r := B_r.fro
  replace z_r := B_r.lt
  go_wp2_with fail
  refine (ClockNew_impl _).mono ?_
  rintro e w2 ⟨Hc, rfl, o_c, l_c, hb⟩
  have u_c := o_c.lt
  replace B_r := B_r.below hb
  have o_m := o_m.step0 hb
  replace hB := hB.trans (hb.mono hB.size)
  have sz := hb.size
  clear hb
  replace q_r_0 := B_r.cell 0 _ rfl
  replace q_r_1 := B_r.cell 1 _ rfl
  replace q_r_2 := B_r.cell 2 _ rfl
  replace q_r_3 := B_r.cell 3 _ rfl
  replace q_r_4 := B_r.cell 4 _ rfl
  replace q_r_5 := B_r.cell 5 _ rfl
  replace q_r_6 := B_r.cell 6 _ rfl
  replace q_r_7 := B_r.cell 7 _ rfl
  replace fr_r := B_r.fro
  replace z_r := B_r.lt
  go_wp2_with fail
  refine (LimboNew_impl _).mono ?_
  rintro e w3 ⟨vl, tl, rfl, o_b, l_b, hb⟩
  have u_b := o_b.lt
  replace B_r := B_r.below hb
  replace o_m := o_m.step0 hb
  have o_c := o_c.step0 hb
  replace hB := hB.trans (hb.mono hB.size)
  have sz := hb.size
  clear hb
  replace q_r_0 := B_r.cell 0 _ rfl
  replace q_r_1 := B_r.cell 1 _ rfl
  replace q_r_2 := B_r.cell 2 _ rfl
  replace q_r_3 := B_r.cell 3 _ rfl
  replace q_r_4 := B_r.cell 4 _ rfl
  replace q_r_5 := B_r.cell 5 _ rfl
  replace q_r_6 := B_r.cell 6 _ rfl
  replace q_r_7 := B_r.cell 7 _ rfl
  replace fr_r := B_r.fro
  replace z_r := B_r.lt
  obtain ⟨Al, nl, cl, rfl⟩ : ∃ A n c, vl = .slice A n c := by
    obtain ⟨A, c, h, _⟩ := o_b.rd'.outer
    exact ⟨_, _, _, h⟩
  go_wp2_with fail
  refine (HazNew_impl _).mono ?_
  rintro e w4 ⟨vh, rfl, o_z, l_z, hb⟩
  have u_z := foot_lt o_z
  replace B_r := B_r.below hb
  replace o_m := o_m.step0 hb
  replace o_c := o_c.step0 hb
  have o_b := o_b.step0 hb
  replace hB := hB.trans (hb.mono hB.size)
  have sz := hb.size
  clear hb
  replace q_r_0 := B_r.cell 0 _ rfl
  replace q_r_1 := B_r.cell 1 _ rfl
  replace q_r_2 := B_r.cell 2 _ rfl
  replace q_r_3 := B_r.cell 3 _ rfl
  replace q_r_4 := B_r.cell 4 _ rfl
  replace q_r_5 := B_r.cell 5 _ rfl
  replace q_r_6 := B_r.cell 6 _ rfl
  replace q_r_7 := B_r.cell 7 _ rfl
  replace fr_r := B_r.fro
  replace z_r := B_r.lt
  obtain ⟨Az, nz, cz, rfl⟩ : ∃ A n c, vh = .slice A n c := by
    obtain ⟨A, c, h, _⟩ := o_z.rd'
    exact ⟨_, _, _, h⟩
  go_wp2_with fail
  refine bodyPost_ret (v := (⟨Hm, Hc, ⟨Al, nl, cl⟩, tl, ⟨Az, nz, cz⟩⟩ : HBase).val newBase) (by simp [results, Try.results70, go_sem, q_r_0, q_r_1, q_r_2, q_r_3, q_r_4, q_r_5, q_r_6, q_r_7]; rfl) rfl ⟨(⟨Hm, Hc, ⟨Al, nl, cl⟩, tl, ⟨Az, nz, cz⟩⟩ : HBase), rfl, ⟨o_m.chg (F := [w.heap.size]) (by repeat (first | with_reducible exact Chg.refl _ _ | with_reducible refine Chg.set_ ?_ (by simp) _ | with_reducible refine Chg.alloc_ ?_ _ | with_reducible refine Chg.drew_ ?_)) (fun g hg hm => by simp only [List.mem_cons, List.not_mem_nil, or_false] at hm; have := l_m g hg; have := u_m g hg; omega), o_c.chg (F := [w.heap.size]) (by repeat (first | with_reducible exact Chg.refl _ _ | with_reducible refine Chg.set_ ?_ (by simp) _ | with_reducible refine Chg.alloc_ ?_ _ | with_reducible refine Chg.drew_ ?_)) (fun g hg hm => by simp only [List.mem_cons, List.not_mem_nil, or_false] at hm; have := l_c g hg; have := u_c g hg; omega), o_b.chg (F := [w.heap.size]) (by repeat (first | with_reducible exact Chg.refl _ _ | with_reducible refine Chg.set_ ?_ (by simp) _ | with_reducible refine Chg.alloc_ ?_ _ | with_reducible refine Chg.drew_ ?_)) (fun g hg hm => by simp only [List.mem_cons, List.not_mem_nil, or_false] at hm; have := l_b g hg; have := u_b g hg; omega), o_z.chg (F := [w.heap.size]) (by repeat (first | with_reducible exact Chg.refl _ _ | with_reducible refine Chg.set_ ?_ (by simp) _ | with_reducible refine Chg.alloc_ ?_ _ | with_reducible refine Chg.drew_ ?_)) (fun g hg hm => by simp only [List.mem_cons, List.not_mem_nil, or_false] at hm; have := l_z g hg; have := u_z g hg; omega), fun b hb hm => by have := l_c b hm; have := u_m b hb; omega, fun b hb hm => by have := l_b b hm; have := u_m b hb; omega, fun b hb hm => by have := l_z b hm; have := u_m b hb; omega, fun b hb hm => by have := l_b b hm; have := u_c b hb; omega, fun b hb hm => by have := l_z b hm; have := u_c b hb; omega, fun b hb hm => by have := l_z b hm; have := u_b b hb; omega⟩, fun b hb => by rcases HBase.mem_foot.1 hb with hb | hb | hb | hb; (have := l_m b hb; omega); (have := l_c b hb; omega); (have := l_b b hb; omega); (have := l_z b hb; omega), Below.trans hB (by repeat (first | with_reducible exact Below.refl _ _ | with_reducible refine Below.setCell ?_ (by simp <;> omega) _ | with_reducible refine Below.alloc ?_ (by simp <;> omega) _ | with_reducible refine Below.drew ?_))⟩

set_option maxRecDepth 100000 in
set_option maxHeartbeats 1000000 in
theorem BaseNew_spec (w : World) : Calls Try.prog 66 #[] w fun e w' => ∃ H' : HBase, e = .returned (H'.val newBase) ∧ OwBase w' H' newBase ∧ (∀ g ∈ H'.foot, w.heap.size ≤ g) ∧ Below w.heap.size w w' := by
  have B_r : Box (w.alloc (.cells #[.slice none 0 0, .slice none 0 0, .slice none 0 0, .slice none 0 0, .int .i64 0, .slice none 0 0, .slice none 0 0, .slice none 0 0] 65)) (w.heap.size) [.slice none 0 0, .slice none 0 0, .slice none 0 0, .slice none 0 0, .int .i64 0, .slice none 0 0, .slice none 0 0, .slice none 0 0] := by
    have hbx := Box.new w #[.slice none 0 0, .slice none 0 0, .slice none 0 0, .slice none 0 0, .int .i64 0, .slice none 0 0, .slice none 0 0, .slice none 0 0] 65
    exact hbx
  have hB : Below w.heap.size w (w.alloc (.cells #[.slice none 0 0, .slice none 0 0, .slice none 0 0, .slice none 0 0, .int .i64 0, .slice none 0 0, .slice none 0 0, .slice none 0 0] 65)) := by repeat (first | exact Below.refl _ _ | refine Below.alloc ?_ (by simp <;> omega) _ | refine below_grow_of ?_ (by simp <;> omega) _ _ | refine Below.drew ?_ | refine below_drewN ?_ _)
  go_enter Try.func66, Try.ntmps66
  go_wp2_with fail
  generalize hW0 : (w.alloc (.cells #[.slice none 0 0, .slice none 0 0, .slice none 0 0, .slice none 0 0, .int .i64 0, .slice none 0 0, .slice none 0 0, .slice none 0 0] 65)) = w0 at B_r hB ⊢
  clear hW0
  have zz_r := B_r.lt
  have q_r_0 := B_r.cell 0 _ rfl
  have q_r_1 := B_r.cell 1 _ rfl
  have q_r_2 := B_r.cell 2 _ rfl
  have q_r_3 := B_r.cell 3 _ rfl
  have q_r_4 := B_r.cell 4 _ rfl
  have q_r_5 := B_r.cell 5 _ rfl
  have q_r_6 := B_r.cell 6 _ rfl
  have q_r_7 := B_r.cell 7 _ rfl
  have fr_r := B_r.fro
  have z_r := B_r.lt
  refine (MemNew_spec _).mono ?_
  rintro e w1 ⟨Hm, rfl, o_m, l_m, hb⟩
  have u_m := o_m.lt
  replace B_r := B_r.below hb
  replace hB := hB.trans (hb.mono hB.size)
  have sz := hb.size
  clear hb
  replace q_r_0 := B_r.cell 0 _ rfl
  replace q_r_1 := B_r.cell 1 _ rfl
  replace q_r_2 := B_r.cell 2 _ rfl
  replace q_r_3 := B_r.cell 3 _ rfl
  replace q_r_4 := B_r.cell 4 _ rfl
  replace q_r_5 := B_r.cell 5 _ rfl
  replace q_r_6 := B_r.cell 6 _ rfl
  replace q_r_7 := B_r.cell 7 _ rfl
  replace fr_r := B_r.fro
  replace z_r := B_r.lt
  go_wp2_with fail
  refine (ClockNew_spec _).mono ?_
  rintro e w2 ⟨Hc, rfl, o_c, l_c, hb⟩
  have u_c := o_c.lt
  replace B_r := B_r.below hb
  have o_m := o_m.step0 hb
  replace hB := hB.trans (hb.mono hB.size)
  have sz := hb.size
  clear hb
  replace q_r_0 := B_r.cell 0 _ rfl
  replace q_r_1 := B_r.cell 1 _ rfl
  replace q_r_2 := B_r.cell 2 _ rfl
  replace q_r_3 := B_r.cell 3 _ rfl
  replace q_r_4 := B_r.cell 4 _ rfl
  replace q_r_5 := B_r.cell 5 _ rfl
  replace q_r_6 := B_r.cell 6 _ rfl
  replace q_r_7 := B_r.cell 7 _ rfl
  replace fr_r := B_r.fro
  replace z_r := B_r.lt
  go_wp2_with fail
  refine (LimboNew_spec _).mono ?_
  rintro e w3 ⟨vl, tl, rfl, o_b, l_b, hb⟩
  have u_b := o_b.lt
  replace B_r := B_r.below hb
  replace o_m := o_m.step0 hb
  have o_c := o_c.step0 hb
  replace hB := hB.trans (hb.mono hB.size)
  have sz := hb.size
  clear hb
  replace q_r_0 := B_r.cell 0 _ rfl
  replace q_r_1 := B_r.cell 1 _ rfl
  replace q_r_2 := B_r.cell 2 _ rfl
  replace q_r_3 := B_r.cell 3 _ rfl
  replace q_r_4 := B_r.cell 4 _ rfl
  replace q_r_5 := B_r.cell 5 _ rfl
  replace q_r_6 := B_r.cell 6 _ rfl
  replace q_r_7 := B_r.cell 7 _ rfl
  replace fr_r := B_r.fro
  replace z_r := B_r.lt
  obtain ⟨Al, nl, cl, rfl⟩ : ∃ A n c, vl = .slice A n c := by
    obtain ⟨A, c, h, _⟩ := o_b.rd'.outer
    exact ⟨_, _, _, h⟩
  go_wp2_with fail
  refine (HazNew_spec _).mono ?_
  rintro e w4 ⟨vh, rfl, o_z, l_z, hb⟩
  have u_z := foot_lt o_z
  replace B_r := B_r.below hb
  replace o_m := o_m.step0 hb
  replace o_c := o_c.step0 hb
  have o_b := o_b.step0 hb
  replace hB := hB.trans (hb.mono hB.size)
  have sz := hb.size
  clear hb
  replace q_r_0 := B_r.cell 0 _ rfl
  replace q_r_1 := B_r.cell 1 _ rfl
  replace q_r_2 := B_r.cell 2 _ rfl
  replace q_r_3 := B_r.cell 3 _ rfl
  replace q_r_4 := B_r.cell 4 _ rfl
  replace q_r_5 := B_r.cell 5 _ rfl
  replace q_r_6 := B_r.cell 6 _ rfl
  replace q_r_7 := B_r.cell 7 _ rfl
  replace fr_r := B_r.fro
  replace z_r := B_r.lt
  obtain ⟨Az, nz, cz, rfl⟩ : ∃ A n c, vh = .slice A n c := by
    obtain ⟨A, c, h, _⟩ := o_z.rd'
    exact ⟨_, _, _, h⟩
  go_wp2_with fail
  refine bodyPost_ret (v := (⟨Hm, Hc, ⟨Al, nl, cl⟩, tl, ⟨Az, nz, cz⟩⟩ : HBase).val newBase) (by simp [results, Try.results66, go_sem, q_r_0, q_r_1, q_r_2, q_r_3, q_r_4, q_r_5, q_r_6, q_r_7]; rfl) rfl ⟨(⟨Hm, Hc, ⟨Al, nl, cl⟩, tl, ⟨Az, nz, cz⟩⟩ : HBase), rfl, ⟨o_m.chg (F := [w.heap.size]) (by repeat (first | with_reducible exact Chg.refl _ _ | with_reducible refine Chg.set_ ?_ (by simp) _ | with_reducible refine Chg.alloc_ ?_ _ | with_reducible refine Chg.drew_ ?_)) (fun g hg hm => by simp only [List.mem_cons, List.not_mem_nil, or_false] at hm; have := l_m g hg; have := u_m g hg; omega), o_c.chg (F := [w.heap.size]) (by repeat (first | with_reducible exact Chg.refl _ _ | with_reducible refine Chg.set_ ?_ (by simp) _ | with_reducible refine Chg.alloc_ ?_ _ | with_reducible refine Chg.drew_ ?_)) (fun g hg hm => by simp only [List.mem_cons, List.not_mem_nil, or_false] at hm; have := l_c g hg; have := u_c g hg; omega), o_b.chg (F := [w.heap.size]) (by repeat (first | with_reducible exact Chg.refl _ _ | with_reducible refine Chg.set_ ?_ (by simp) _ | with_reducible refine Chg.alloc_ ?_ _ | with_reducible refine Chg.drew_ ?_)) (fun g hg hm => by simp only [List.mem_cons, List.not_mem_nil, or_false] at hm; have := l_b g hg; have := u_b g hg; omega), o_z.chg (F := [w.heap.size]) (by repeat (first | with_reducible exact Chg.refl _ _ | with_reducible refine Chg.set_ ?_ (by simp) _ | with_reducible refine Chg.alloc_ ?_ _ | with_reducible refine Chg.drew_ ?_)) (fun g hg hm => by simp only [List.mem_cons, List.not_mem_nil, or_false] at hm; have := l_z g hg; have := u_z g hg; omega), fun b hb hm => by have := l_c b hm; have := u_m b hb; omega, fun b hb hm => by have := l_b b hm; have := u_m b hb; omega, fun b hb hm => by have := l_z b hm; have := u_m b hb; omega, fun b hb hm => by have := l_b b hm; have := u_c b hb; omega, fun b hb hm => by have := l_z b hm; have := u_c b hb; omega, fun b hb hm => by have := l_z b hm; have := u_b b hb; omega⟩, fun b hb => by rcases HBase.mem_foot.1 hb with hb | hb | hb | hb; (have := l_m b hb; omega); (have := l_c b hb; omega); (have := l_b b hb; omega); (have := l_z b hb; omega), Below.trans hB (by repeat (first | with_reducible exact Below.refl _ _ | with_reducible refine Below.setCell ?_ (by simp <;> omega) _ | with_reducible refine Below.alloc ?_ (by simp <;> omega) _ | with_reducible refine Below.drew ?_))⟩
end Go.Proofs.Ytdepckmjgpkjmaa

