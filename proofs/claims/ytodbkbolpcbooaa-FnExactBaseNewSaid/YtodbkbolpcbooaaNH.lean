/-
  New heaps: the contracts.
-/
import Derived.Test.YtodbkbolpcbooaaT
import Derived.Test.YtodbkbolpcbooaaL
import Derived.Deep.QuietTactic
import Derived.BigQuiet
import Derived.Deep.LoopGhost
import Derived.Deep.RegionHeld3
import Derived.Test.YtodbkbolpcbooaaN
import Derived.Test.YtodbkbolpcbooaaA
import Derived.WalkSpells
import Derived.Laws.Cover3
import Derived.Test.YtodbkbolpcbooaaNL
import Derived.Test.YtodbkbolpcbooaaB7
namespace Go.Proofs.Ytodbkbolpcbooaa
open Go.RowKit

set_option maxRecDepth 100000 in
set_option maxHeartbeats 1000000 in
theorem HeapNew_spec (w : World) : Calls Try.prog 148 #[] w fun e w' => ∃ H' : HHeap, e = .returned (.agg #[.slice H'.Bytes.a H'.Bytes.len H'.Bytes.cap, .slice H'.Class.a H'.Class.len H'.Class.cap]) ∧ OwHeap w' H' newHeap ∧ (∀ g ∈ H'.foot, w.heap.size ≤ g) ∧ Below w.heap.size w w' := by
  have hmk : ∀ w, (Instr.makeSlice 49 (.int .i64 384) (.int .i64 384)).run Try.prog w = .ok (.slice (some ⟨w.heap.size, 0, none⟩) 384 384) (w.alloc (.cells (madeCells #[.int .i64 0] (384 * FI.n)) 3)) := run_make_flat (P := Try.prog) FI 49 3 (.int .i64 0) 8 Try.underlying49 Try.infoInt 384 (by omega) (by omega)
  have B_r : Box (((w.alloc (.cells #[.slice none 0 0, .slice none 0 0] 52)).alloc (.cells (madeCells #[.int .i64 0] (384 * FI.n)) 3)).alloc (.cells #[.slice (some ⟨w.heap.size + 1, 0, none⟩) 384 384, .slice none 0 0] 52)) w.heap.size [.slice none 0 0, .slice none 0 0] := ((Box.new w #[.slice none 0 0, .slice none 0 0] 52).alloc (.cells (madeCells #[.int .i64 0] (384 * FI.n)) 3)).alloc (.cells #[.slice (some ⟨w.heap.size + 1, 0, none⟩) 384 384, .slice none 0 0] 52)
  have B_p : Box (((w.alloc (.cells #[.slice none 0 0, .slice none 0 0] 52)).alloc (.cells (madeCells #[.int .i64 0] (384 * FI.n)) 3)).alloc (.cells #[.slice (some ⟨w.heap.size + 1, 0, none⟩) 384 384, .slice none 0 0] 52)) (w.heap.size + 1 + 1) [.slice (some ⟨w.heap.size + 1, 0, none⟩) 384 384, .slice none 0 0] := by
    have hb := Box.new ((w.alloc (.cells #[.slice none 0 0, .slice none 0 0] 52)).alloc (.cells (madeCells #[.int .i64 0] (384 * FI.n)) 3)) #[.slice (some ⟨w.heap.size + 1, 0, none⟩) 384 384, .slice none 0 0] 52
    simp only [World.size_alloc] at hb
    exact hb
  have oB := (OwL.made FI #[.int .i64 0] rfl 384 (by simp [maxLen]) (w.alloc (.cells #[.slice none 0 0, .slice none 0 0] 52)) 3).alloc_ (.cells #[.slice (some ⟨w.heap.size + 1, 0, none⟩) 384 384, .slice none 0 0] 52)
  simp only [World.size_alloc] at oB
  have hB : Below w.heap.size w (((w.alloc (.cells #[.slice none 0 0, .slice none 0 0] 52)).alloc (.cells (madeCells #[.int .i64 0] (384 * FI.n)) 3)).alloc (.cells #[.slice (some ⟨w.heap.size + 1, 0, none⟩) 384 384, .slice none 0 0] 52)) := by repeat (first | exact Below.refl _ _ | refine Below.alloc ?_ (by simp <;> omega) _ | refine below_grow_of ?_ (by simp <;> omega) _ _ | refine Below.drew ?_ | refine below_drewN ?_ _)
  go_enter Try.func148, Try.ntmps148
  go_wp2_with fail
  generalize hW0 : (((w.alloc (.cells #[.slice none 0 0, .slice none 0 0] 52)).alloc (.cells (madeCells #[.int .i64 0] (384 * FI.n)) 3)).alloc (.cells #[.slice (some ⟨w.heap.size + 1, 0, none⟩) 384 384, .slice none 0 0] 52)) = w0 at B_r B_p oB hB ⊢
  clear hW0 hmk
  go_loopw [2] (fun i wr => ∃ (k : Nat) (A : Option Addr) (cp : Nat), k ≤ 6 ∧ i = .int .i64 k ∧ Box wr w.heap.size [.slice none 0 0, .slice none 0 0] ∧ Box wr (w.heap.size + 1 + 1) [.slice (some ⟨w.heap.size + 1, 0, none⟩) 384 384, .slice A k cp] ∧ OwL FI 3 wr (.slice (some ⟨w.heap.size + 1, 0, none⟩) 384 384) (List.replicate 384 0) ∧ OwL FI 3 wr (.slice A k cp) (List.replicate k (-1)) ∧ (∀ b ∈ foot1 (.slice A k cp), w.heap.size + 2 < b) ∧ Below w.heap.size w wr) (fun i _ => 6 - (intOf i).toNat)
  case atStart => exact ⟨0, none, 0, by omega, rfl, B_r, B_p, oB, ⟨rfl, .inl ⟨rfl, rfl⟩⟩, fun b hb => by simp [foot1, Value.ownBlock] at hb, hB⟩
  case round =>
    clear B_r B_p oB hB
    obtain ⟨k, A, cp, hk, rfl, B_r, B_p, oB, oC, fC, hB⟩ := hrel
    have q_p_0 := B_p.cell 0 _ rfl
    have q_p_1 := B_p.cell 1 _ rfl
    have fr_p := B_p.fro
    have z_p := B_p.lt
    have z_r := B_r.lt
    by_cases hlt : k < 6
    · have zz := z_p
      go_wp2_with (at_builtin; refine wpList_append_flat Try.stInt rfl _ _ rfl (v := .slice A k cp) (y := .slice (some ⟨wr.heap.size, 0, none⟩) 1 1) (l := List.replicate k (-1)) (m := [(-1 : Int)]) rfl rfl (oC.alloc_ _) (OwL.lit FI [(-1 : Int)] #[.int .i64 (-1)] rfl (by simp [maxLen]) wr 3).rd' (by simp; omega) ?_; intro v7 w7 ho7 hg7 hat7; obtain ⟨A7, c7, hv7, _⟩ := ho7.rd'; simp only [List.length_append, List.length_replicate, List.length_singleton] at hv7; subst hv7; have hx := Chg.of_grown hg7; replace B_p := (B_p.alloc _).chg hx (fun hm => by have := fC _ hm; omega); replace q_p_0 := B_p.cell 0 _ rfl; replace q_p_1 := B_p.cell 1 _ rfl; replace fr_p := B_p.fro; replace z_p := B_p.lt)
      have hB7 := (hB.alloc hB.size (.cells #[.int .i64 (-1)] 3)).trans (hx.below (by simp; exact Nat.le_succ_of_le hB.size) (fun b hb => by have := fC b hb; omega))
      go_roundw
      case rel =>
        refine ⟨k + 1, A7, c7, by omega, by go_num, ((B_r.alloc _).chg hx (fun hm => by have := fC _ hm; omega)).other (by omega) _, B_p.set 1 _, ?_, ?_, fun b hb => ?_, hB7.setCell (by simp; omega) _⟩
        · exact ((oB.alloc_ _).chg hx (fun b hb hm => by have e1 := mem_foot1.1 hb; simp [Value.ownBlock] at e1; have := fC b hm; omega)).keep (fun b hb => heap_set_other w7 _ (fun e => by simp [Value.ownBlock] at hb; have e3 : b = w.heap.size + 1 + 1 := e.symm; omega))
        · have e : List.replicate k (-1 : Int) ++ [-1] = List.replicate (k + 1) (-1) := by rw [List.replicate_succ', ]
          rw [e] at ho7
          exact ho7.keep (fun b hb => heap_set_other w7 _ (fun e => by
            have e3 : b = w.heap.size + 1 + 1 := e.symm
            rcases foot_app hat7 b (mem_foot1.2 hb) with hh | hh
            · have := fC b hh
              omega
            · simp at hh
              omega))
        · rcases foot_app hat7 b hb with hh | hh
          · exact fC b hh
          · simp at hh
            omega
      case measure => simp [intOf]; omega
    · obtain rfl : k = 6 := by omega
      have q_r_0 := B_r.cell 0 _ rfl
      have q_r_1 := B_r.cell 1 _ rfl
      have fr_r := B_r.fro
      go_wp2_with fail
      refine bodyPost_ret (v := .agg #[.slice (some ⟨w.heap.size + 1, 0, none⟩) 384 384, .slice A 6 cp]) (by simp [results, Try.results148, go_sem, q_r_0, q_r_1]) rfl ⟨⟨⟨some ⟨w.heap.size + 1, 0, none⟩, 384, 384⟩, ⟨A, 6, cp⟩⟩, rfl, ⟨oB.chg (F := [w.heap.size]) (by repeat (first | with_reducible exact Chg.refl _ _ | with_reducible refine Chg.set_ ?_ (by simp) _ | with_reducible refine Chg.alloc_ ?_ _ | with_reducible refine Chg.drew_ ?_)) (fun b hb hm => by have e1 := mem_foot1.1 hb; simp [SV.val, Value.ownBlock] at e1; simp only [List.mem_cons, List.not_mem_nil, or_false] at hm; omega), oC.chg (F := [w.heap.size]) (by repeat (first | with_reducible exact Chg.refl _ _ | with_reducible refine Chg.set_ ?_ (by simp) _ | with_reducible refine Chg.alloc_ ?_ _ | with_reducible refine Chg.drew_ ?_)) (fun b hb hm => by have := fC b hb; simp only [List.mem_cons, List.not_mem_nil, or_false] at hm; omega), fun b hb hm => by have e1 := mem_foot1.1 hb; simp [SV.val, Value.ownBlock] at e1; have := fC b hm; omega⟩, fun b hb => ?_, Below.trans hB (by repeat (first | with_reducible exact Below.refl _ _ | with_reducible refine Below.setCell ?_ (by simp <;> omega) _ | with_reducible refine Below.alloc ?_ (by simp <;> omega) _ | with_reducible refine Below.drew ?_))⟩
      rcases HHeap.mem_foot.1 hb with hb | hb
      · have e1 := mem_foot1.1 hb
        simp [SV.val, Value.ownBlock] at e1
        omega
      · have := fC b hb
        omega
end Go.Proofs.Ytodbkbolpcbooaa
