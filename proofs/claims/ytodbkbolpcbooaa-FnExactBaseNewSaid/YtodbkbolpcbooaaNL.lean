/-
  New lists: the contracts.
-/
import Derived.Test.YtodbkbolpcbooaaT
import Derived.Test.YtodbkbolpcbooaaL
import Derived.Deep.QuietTactic
import Derived.BigQuiet
import Derived.Deep.LoopGhost
import Derived.Deep.RegionHeld3
import Derived.Test.YtodbkbolpcbooaaN
import Derived.Test.YtodbkbolpcbooaaA
import Derived.WalkSpells
import Derived.Laws.Cover3
import Derived.Test.YtodbkbolpcbooaaMB
namespace Go.Proofs.Ytodbkbolpcbooaa
open Go.RowKit

def newHeap : Heap := ⟨List.replicate 384 0, List.replicate 6 (-1)⟩
def newLists : Lists := ⟨List.replicate 3 [], List.replicate 9 []⟩
def newMem : Mem := ⟨newHeap, newLists⟩

set_option maxRecDepth 100000 in
set_option maxHeartbeats 1000000 in
theorem ListsNew_impl (w : World) : Calls Try.prog 151 #[] w fun e w' => ∃ H' : HLists, e = .returned (.agg #[.slice H'.Global.a H'.Global.len H'.Global.cap, .slice H'.Own.a H'.Own.len H'.Own.cap]) ∧ OwLists w' H' newLists ∧ (∀ g ∈ H'.foot, w.heap.size ≤ g) ∧ Below w.heap.size w w' := by
  have hm3 : ∀ w, (Instr.makeSlice 53 (.int .i64 3) (.int .i64 3)).run Try.prog w = .ok (.slice (some ⟨w.heap.size, 0, none⟩) 3 3) (w.alloc (.cells (madeCells #[.slice none 0 0] (3 * FS.n)) 240)) := run_make_flat (P := Try.prog) FS 53 240 (.agg #[.slice none 0 0]) 24 Try.underlying53 Try.infoSList 3 (by omega) (by omega)
  have hm9 : ∀ w, (Instr.makeSlice 53 (.int .i64 9) (.int .i64 9)).run Try.prog w = .ok (.slice (some ⟨w.heap.size, 0, none⟩) 9 9) (w.alloc (.cells (madeCells #[.slice none 0 0] (9 * FS.n)) 240)) := run_make_flat (P := Try.prog) FS 53 240 (.agg #[.slice none 0 0]) 24 Try.underlying53 Try.infoSList 9 (by omega) (by omega)
  have B_r : Box (w.alloc (.cells #[.slice none 0 0, .slice none 0 0] 55)) (w.heap.size) [.slice none 0 0, .slice none 0 0] := by
    have hbx := Box.new w #[.slice none 0 0, .slice none 0 0] 55
    exact hbx
  have hB : Below w.heap.size w (w.alloc (.cells #[.slice none 0 0, .slice none 0 0] 55)) := by repeat (first | exact Below.refl _ _ | refine Below.alloc ?_ (by simp <;> omega) _ | refine below_grow_of ?_ (by simp <;> omega) _ _ | refine Below.drew ?_ | refine below_drewN ?_ _)
  go_enter Try.func151, Try.ntmps151
  go_wp2_with fail
  generalize hW0 : (w.alloc (.cells #[.slice none 0 0, .slice none 0 0] 55)) = w0 at B_r hB ⊢
  clear hW0
  have zz_r := B_r.lt
  have q_r_0 := B_r.cell 0 _ rfl
  have q_r_1 := B_r.cell 1 _ rfl
  have fr_r := B_r.fro
  have z_r := B_r.lt
  go_region
  all_goals go_wp2_with fail
  · have br := (((((B_r.set 0 (.slice (some ⟨w0.heap.size, 0, none⟩) 3 3)).set 1 (.slice (some ⟨w0.heap.size + 1, 0, none⟩) 9 9)).alloc (.cells (madeCells #[.slice none 0 0] (3 * FS.n)) 240)).alloc (.cells (madeCells #[.slice none 0 0] (9 * FS.n)) 240)).drew)
    have e2 : ((w0.setCell ⟨w.heap.size, 0, none⟩ (.slice (some ⟨w0.heap.size, 0, none⟩) 3 3)).setCell ⟨w.heap.size, 1, none⟩ (.slice (some ⟨w0.heap.size + 1, 0, none⟩) 9 9)).heap.size = w0.heap.size := by simp
    have oa := OwLL.made #[.slice none 0 0] rfl 3 (by simp [maxLen]) ((w0.setCell ⟨w.heap.size, 0, none⟩ (.slice (some ⟨w0.heap.size, 0, none⟩) 3 3)).setCell ⟨w.heap.size, 1, none⟩ (.slice (some ⟨w0.heap.size + 1, 0, none⟩) 9 9)) FI 3 240
    rw [e2] at oa
    have ob := OwLL.made #[.slice none 0 0] rfl 9 (by simp [maxLen]) (((w0.setCell ⟨w.heap.size, 0, none⟩ (.slice (some ⟨w0.heap.size, 0, none⟩) 3 3)).setCell ⟨w.heap.size, 1, none⟩ (.slice (some ⟨w0.heap.size + 1, 0, none⟩) 9 9)).alloc (.cells (madeCells #[.slice none 0 0] (3 * FS.n)) 240)) FI 3 240
    rw [World.size_alloc, e2] at ob
    have la := oa.lt
    rw [World.size_alloc, e2] at la
    have fa := foot2_made w0.heap.size 3
    have fb := foot2_made (w0.heap.size + 1) 9
    have r0 := br.cell 0 _ rfl
    have r1 := br.cell 1 _ rfl
    exact bodyPost_ret (v := .agg #[.slice (some ⟨w0.heap.size, 0, none⟩) 3 3, .slice (some ⟨w0.heap.size + 1, 0, none⟩) 9 9]) (by simp [results, Try.results151, go_sem, r0, r1]) rfl ⟨⟨⟨some ⟨w0.heap.size, 0, none⟩, 3, 3⟩, (List.replicate 3 ⟨none, 0, 0⟩), ⟨some ⟨w0.heap.size + 1, 0, none⟩, 9, 9⟩, (List.replicate 9 ⟨none, 0, 0⟩)⟩, rfl, ⟨(oa.alloc_ (.cells (madeCells #[.slice none 0 0] (9 * FS.n)) 240)).keep (fun _ _ => rfl), ob.keep (fun _ _ => rfl), fun b hb hm => by have h1 := la b hb; have h2 := fb b hm; omega⟩, fun b hb => by rcases HLists.mem_foot.1 hb with hb | hb; (have := fa b hb; omega); (have := fb b hb; omega), Below.trans hB (by repeat (first | with_reducible exact Below.refl _ _ | with_reducible refine Below.setCell ?_ (by simp <;> omega) _ | with_reducible refine Below.alloc ?_ (by simp <;> omega) _ | with_reducible refine Below.drew ?_))⟩
  · have br := (((((B_r.set 0 (.slice (some ⟨w0.heap.size + 1, 0, none⟩) 3 3)).set 1 (.slice (some ⟨w0.heap.size, 0, none⟩) 9 9)).alloc (.cells (madeCells #[.slice none 0 0] (9 * FS.n)) 240)).alloc (.cells (madeCells #[.slice none 0 0] (3 * FS.n)) 240)).drew)
    have e2 : ((w0.setCell ⟨w.heap.size, 0, none⟩ (.slice (some ⟨w0.heap.size + 1, 0, none⟩) 3 3)).setCell ⟨w.heap.size, 1, none⟩ (.slice (some ⟨w0.heap.size, 0, none⟩) 9 9)).heap.size = w0.heap.size := by simp
    have oa := OwLL.made #[.slice none 0 0] rfl 9 (by simp [maxLen]) ((w0.setCell ⟨w.heap.size, 0, none⟩ (.slice (some ⟨w0.heap.size + 1, 0, none⟩) 3 3)).setCell ⟨w.heap.size, 1, none⟩ (.slice (some ⟨w0.heap.size, 0, none⟩) 9 9)) FI 3 240
    rw [e2] at oa
    have ob := OwLL.made #[.slice none 0 0] rfl 3 (by simp [maxLen]) (((w0.setCell ⟨w.heap.size, 0, none⟩ (.slice (some ⟨w0.heap.size + 1, 0, none⟩) 3 3)).setCell ⟨w.heap.size, 1, none⟩ (.slice (some ⟨w0.heap.size, 0, none⟩) 9 9)).alloc (.cells (madeCells #[.slice none 0 0] (9 * FS.n)) 240)) FI 3 240
    rw [World.size_alloc, e2] at ob
    have la := oa.lt
    rw [World.size_alloc, e2] at la
    have fa := foot2_made w0.heap.size 9
    have fb := foot2_made (w0.heap.size + 1) 3
    have r0 := br.cell 0 _ rfl
    have r1 := br.cell 1 _ rfl
    exact bodyPost_ret (v := .agg #[.slice (some ⟨w0.heap.size + 1, 0, none⟩) 3 3, .slice (some ⟨w0.heap.size, 0, none⟩) 9 9]) (by simp [results, Try.results151, go_sem, r0, r1]) rfl ⟨⟨⟨some ⟨w0.heap.size + 1, 0, none⟩, 3, 3⟩, (List.replicate 3 ⟨none, 0, 0⟩), ⟨some ⟨w0.heap.size, 0, none⟩, 9, 9⟩, (List.replicate 9 ⟨none, 0, 0⟩)⟩, rfl, ⟨ob.keep (fun _ _ => rfl), (oa.alloc_ (.cells (madeCells #[.slice none 0 0] (3 * FS.n)) 240)).keep (fun _ _ => rfl), fun b hb hm => by have h1 := la b hm; have h2 := fb b hb; omega⟩, fun b hb => by rcases HLists.mem_foot.1 hb with hb | hb; (have := fb b hb; omega); (have := fa b hb; omega), Below.trans hB (by repeat (first | with_reducible exact Below.refl _ _ | with_reducible refine Below.setCell ?_ (by simp <;> omega) _ | with_reducible refine Below.alloc ?_ (by simp <;> omega) _ | with_reducible refine Below.drew ?_))⟩

set_option maxRecDepth 100000 in
set_option maxHeartbeats 1000000 in
theorem ListsNew_spec (w : World) : Calls Try.prog 149 #[] w fun e w' => ∃ H' : HLists, e = .returned (.agg #[.slice H'.Global.a H'.Global.len H'.Global.cap, .slice H'.Own.a H'.Own.len H'.Own.cap]) ∧ OwLists w' H' newLists ∧ (∀ g ∈ H'.foot, w.heap.size ≤ g) ∧ Below w.heap.size w w' := by
  have hm3 : ∀ w, (Instr.makeSlice 53 (.int .i64 3) (.int .i64 3)).run Try.prog w = .ok (.slice (some ⟨w.heap.size, 0, none⟩) 3 3) (w.alloc (.cells (madeCells #[.slice none 0 0] (3 * FS.n)) 240)) := run_make_flat (P := Try.prog) FS 53 240 (.agg #[.slice none 0 0]) 24 Try.underlying53 Try.infoSList 3 (by omega) (by omega)
  have hm9 : ∀ w, (Instr.makeSlice 53 (.int .i64 9) (.int .i64 9)).run Try.prog w = .ok (.slice (some ⟨w.heap.size, 0, none⟩) 9 9) (w.alloc (.cells (madeCells #[.slice none 0 0] (9 * FS.n)) 240)) := run_make_flat (P := Try.prog) FS 53 240 (.agg #[.slice none 0 0]) 24 Try.underlying53 Try.infoSList 9 (by omega) (by omega)
  have B_r : Box (w.alloc (.cells #[.slice none 0 0, .slice none 0 0] 55)) (w.heap.size) [.slice none 0 0, .slice none 0 0] := by
    have hbx := Box.new w #[.slice none 0 0, .slice none 0 0] 55
    exact hbx
  have hB : Below w.heap.size w (w.alloc (.cells #[.slice none 0 0, .slice none 0 0] 55)) := by repeat (first | exact Below.refl _ _ | refine Below.alloc ?_ (by simp <;> omega) _ | refine below_grow_of ?_ (by simp <;> omega) _ _ | refine Below.drew ?_ | refine below_drewN ?_ _)
  go_enter Try.func149, Try.ntmps149
  go_wp2_with fail
  generalize hW0 : (w.alloc (.cells #[.slice none 0 0, .slice none 0 0] 55)) = w0 at B_r hB ⊢
  clear hW0
  have zz_r := B_r.lt
  have q_r_0 := B_r.cell 0 _ rfl
  have q_r_1 := B_r.cell 1 _ rfl
  have fr_r := B_r.fro
  have z_r := B_r.lt
  go_region
  all_goals go_wp2_with fail
  · have br := (((((B_r.set 0 (.slice (some ⟨w0.heap.size, 0, none⟩) 3 3)).set 1 (.slice (some ⟨w0.heap.size + 1, 0, none⟩) 9 9)).alloc (.cells (madeCells #[.slice none 0 0] (3 * FS.n)) 240)).alloc (.cells (madeCells #[.slice none 0 0] (9 * FS.n)) 240)).drew)
    have e2 : ((w0.setCell ⟨w.heap.size, 0, none⟩ (.slice (some ⟨w0.heap.size, 0, none⟩) 3 3)).setCell ⟨w.heap.size, 1, none⟩ (.slice (some ⟨w0.heap.size + 1, 0, none⟩) 9 9)).heap.size = w0.heap.size := by simp
    have oa := OwLL.made #[.slice none 0 0] rfl 3 (by simp [maxLen]) ((w0.setCell ⟨w.heap.size, 0, none⟩ (.slice (some ⟨w0.heap.size, 0, none⟩) 3 3)).setCell ⟨w.heap.size, 1, none⟩ (.slice (some ⟨w0.heap.size + 1, 0, none⟩) 9 9)) FI 3 240
    rw [e2] at oa
    have ob := OwLL.made #[.slice none 0 0] rfl 9 (by simp [maxLen]) (((w0.setCell ⟨w.heap.size, 0, none⟩ (.slice (some ⟨w0.heap.size, 0, none⟩) 3 3)).setCell ⟨w.heap.size, 1, none⟩ (.slice (some ⟨w0.heap.size + 1, 0, none⟩) 9 9)).alloc (.cells (madeCells #[.slice none 0 0] (3 * FS.n)) 240)) FI 3 240
    rw [World.size_alloc, e2] at ob
    have la := oa.lt
    rw [World.size_alloc, e2] at la
    have fa := foot2_made w0.heap.size 3
    have fb := foot2_made (w0.heap.size + 1) 9
    have r0 := br.cell 0 _ rfl
    have r1 := br.cell 1 _ rfl
    exact bodyPost_ret (v := .agg #[.slice (some ⟨w0.heap.size, 0, none⟩) 3 3, .slice (some ⟨w0.heap.size + 1, 0, none⟩) 9 9]) (by simp [results, Try.results149, go_sem, r0, r1]) rfl ⟨⟨⟨some ⟨w0.heap.size, 0, none⟩, 3, 3⟩, (List.replicate 3 ⟨none, 0, 0⟩), ⟨some ⟨w0.heap.size + 1, 0, none⟩, 9, 9⟩, (List.replicate 9 ⟨none, 0, 0⟩)⟩, rfl, ⟨(oa.alloc_ (.cells (madeCells #[.slice none 0 0] (9 * FS.n)) 240)).keep (fun _ _ => rfl), ob.keep (fun _ _ => rfl), fun b hb hm => by have h1 := la b hb; have h2 := fb b hm; omega⟩, fun b hb => by rcases HLists.mem_foot.1 hb with hb | hb; (have := fa b hb; omega); (have := fb b hb; omega), Below.trans hB (by repeat (first | with_reducible exact Below.refl _ _ | with_reducible refine Below.setCell ?_ (by simp <;> omega) _ | with_reducible refine Below.alloc ?_ (by simp <;> omega) _ | with_reducible refine Below.drew ?_))⟩
  · have br := (((((B_r.set 0 (.slice (some ⟨w0.heap.size + 1, 0, none⟩) 3 3)).set 1 (.slice (some ⟨w0.heap.size, 0, none⟩) 9 9)).alloc (.cells (madeCells #[.slice none 0 0] (9 * FS.n)) 240)).alloc (.cells (madeCells #[.slice none 0 0] (3 * FS.n)) 240)).drew)
    have e2 : ((w0.setCell ⟨w.heap.size, 0, none⟩ (.slice (some ⟨w0.heap.size + 1, 0, none⟩) 3 3)).setCell ⟨w.heap.size, 1, none⟩ (.slice (some ⟨w0.heap.size, 0, none⟩) 9 9)).heap.size = w0.heap.size := by simp
    have oa := OwLL.made #[.slice none 0 0] rfl 9 (by simp [maxLen]) ((w0.setCell ⟨w.heap.size, 0, none⟩ (.slice (some ⟨w0.heap.size + 1, 0, none⟩) 3 3)).setCell ⟨w.heap.size, 1, none⟩ (.slice (some ⟨w0.heap.size, 0, none⟩) 9 9)) FI 3 240
    rw [e2] at oa
    have ob := OwLL.made #[.slice none 0 0] rfl 3 (by simp [maxLen]) (((w0.setCell ⟨w.heap.size, 0, none⟩ (.slice (some ⟨w0.heap.size + 1, 0, none⟩) 3 3)).setCell ⟨w.heap.size, 1, none⟩ (.slice (some ⟨w0.heap.size, 0, none⟩) 9 9)).alloc (.cells (madeCells #[.slice none 0 0] (9 * FS.n)) 240)) FI 3 240
    rw [World.size_alloc, e2] at ob
    have la := oa.lt
    rw [World.size_alloc, e2] at la
    have fa := foot2_made w0.heap.size 9
    have fb := foot2_made (w0.heap.size + 1) 3
    have r0 := br.cell 0 _ rfl
    have r1 := br.cell 1 _ rfl
    exact bodyPost_ret (v := .agg #[.slice (some ⟨w0.heap.size + 1, 0, none⟩) 3 3, .slice (some ⟨w0.heap.size, 0, none⟩) 9 9]) (by simp [results, Try.results149, go_sem, r0, r1]) rfl ⟨⟨⟨some ⟨w0.heap.size + 1, 0, none⟩, 3, 3⟩, (List.replicate 3 ⟨none, 0, 0⟩), ⟨some ⟨w0.heap.size, 0, none⟩, 9, 9⟩, (List.replicate 9 ⟨none, 0, 0⟩)⟩, rfl, ⟨ob.keep (fun _ _ => rfl), (oa.alloc_ (.cells (madeCells #[.slice none 0 0] (3 * FS.n)) 240)).keep (fun _ _ => rfl), fun b hb hm => by have h1 := la b hm; have h2 := fb b hb; omega⟩, fun b hb => by rcases HLists.mem_foot.1 hb with hb | hb; (have := fb b hb; omega); (have := fa b hb; omega), Below.trans hB (by repeat (first | with_reducible exact Below.refl _ _ | with_reducible refine Below.setCell ?_ (by simp <;> omega) _ | with_reducible refine Below.alloc ?_ (by simp <;> omega) _ | with_reducible refine Below.drew ?_))⟩
end Go.Proofs.Ytodbkbolpcbooaa
