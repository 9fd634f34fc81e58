/-
  Heaps: the generation of a slot.
-/
import Derived.Test.YtodbkbolpcbooaaT
import Derived.Test.YtodbkbolpcbooaaL
import Derived.Deep.QuietTactic
import Derived.BigQuiet
import Derived.Deep.LoopGhost
import Derived.Deep.RegionHeld3
import Derived.Test.YtodbkbolpcbooaaN
import Derived.Test.YtodbkbolpcbooaaA
import Derived.WalkSpells
import Derived.Laws.Cover3
import Derived.Test.YtodbkbolpcbooaaB2
namespace Go.Proofs.Ytodbkbolpcbooaa
open Go.RowKit
theorem cell_old (w : World) (o : Obj) (g i : Nat) (hg : g < w.heap.size) : (w.alloc o).cell? ⟨g, i, none⟩ = w.cell? ⟨g, i, none⟩ := by
  simp [World.cell?, Below.heap_alloc w o g hg]
theorem cell_old_frozen (w : World) (o : Obj) (g i : Nat) (hg : g < w.heap.size) : (w.alloc o).frozen? ⟨g, i, none⟩ = w.frozen? ⟨g, i, none⟩ := by
  simp [World.frozen?, Below.heap_alloc w o g hg]
theorem cell_up {w w' : World} {g i : Nat} {u : Value} (hb : Below w.heap.size w w') (hg : g < w.heap.size) (h : w.cell? ⟨g, i, none⟩ = some u) : w'.cell? ⟨g, i, none⟩ = some u := (hb.cell (p := ⟨g, i, none⟩) hg).trans h

def classAtB (h : Heap) (s : Int) : Int := if shapeB h = true then classInB h s else -1
theorem quietc {P : Program} {f : FuncId} {args : Array Value} {W : World} {v : Ending} (h : Calls P f args W fun e w' => e = v ∧ W = w') : Calls P f args W fun e w' => e = v ∧ w' = W := h.mono fun _ _ ⟨a, b⟩ => ⟨a, b.symm⟩
theorem genIn_bd {h : Heap} (sh : Shape h) {s : Int} (k : ¬ classInB h s < 0) : 0 ≤ genAt s (classInB h s) ∧ genAt s (classInB h s) + 4 ≤ h.Bytes.length := by
  have a := sizeOfC_bd (clAt h s)
  have b := sh.bl
  rcases classInB_cases h s with ⟨c, _⟩ | ⟨c, d, e, _⟩
  · omega
  · rw [c]; omega

set_option maxRecDepth 100000 in
set_option maxHeartbeats 1000000 in
theorem ClassAt_impl (w : World) (H : HHeap) (x : Heap) (s : Int) (h : RdHeap w w.heap.size H x) :
    Calls Try.prog 113 #[.agg #[.slice H.Bytes.a H.Bytes.len H.Bytes.cap, .slice H.Class.a H.Class.len H.Class.cap], .int .i64 s] w fun e w' => e = .returned (.int .i64 (classAtB x s)) ∧ Below w.heap.size w w' := by
  obtain ⟨⟨A1, n1, c1⟩, ⟨A2, n2, c2⟩⟩ := H
  obtain ⟨bs, cs⟩ := x
  have hr1 : RdL FI w w.heap.size (.slice A1 n1 c1) bs := h.Bytes
  have hr2 : RdL FI w w.heap.size (.slice A2 n2 c2) cs := h.Class
  obtain ⟨_, _, hv, q1, q2, qx⟩ := id hr1
  simp only [Value.slice.injEq] at hv
  obtain ⟨rfl, rfl, rfl⟩ := hv
  have hlt1 : bs.length ≤ 9223372036854775807 := by unfold maxLen at q2; omega
  clear q1 q2 qx
  obtain ⟨_, _, hv, q1, q2, qx⟩ := id hr2
  simp only [Value.slice.injEq] at hv
  obtain ⟨rfl, rfl, rfl⟩ := hv
  have hlt2 : cs.length ≤ 9223372036854775807 := by unfold maxLen at q2; omega
  clear q1 q2 qx h
  show Calls Try.prog 113 #[.agg #[.slice A1 bs.length c1, .slice A2 cs.length c2], .int .i64 s] _ _
  by_cases hs : shapeB ⟨bs, cs⟩ = true
  · have HE := Hid.mk_ (show classAtB ⟨bs, cs⟩ s = classInB ⟨bs, cs⟩ s from if_pos hs)
    have HT := Hid.mk_ hs
    clear hs
    go_enter Try.func113, Try.ntmps113
    go_wp2_with (first | (go_at_call 187; refine (shaped_impl _ ⟨⟨A1, bs.length, c1⟩, ⟨A2, cs.length, c2⟩⟩ ⟨bs, cs⟩ ⟨rd_up hr1 (by repeat (first | exact Below.refl _ _ | refine Below.alloc ?_ (by simp <;> omega) _ | refine below_grow_of ?_ (by simp <;> omega) _ _ | refine Below.drew ?_ | refine below_drewN ?_ _)), rd_up hr2 (by repeat (first | exact Below.refl _ _ | refine Below.alloc ?_ (by simp <;> omega) _ | refine below_grow_of ?_ (by simp <;> omega) _ _ | refine Below.drew ?_ | refine below_drewN ?_ _))⟩).mono ?_; rw [HT.out]; rintro e w1 ⟨rfl, hb1⟩; obtain ⟨os1, d1, rfl⟩ := below_grows hb1; clear hb1) | (go_at_call 188; refine (classIn_impl _ ⟨⟨A1, bs.length, c1⟩, ⟨A2, cs.length, c2⟩⟩ ⟨bs, cs⟩ s ⟨rd_up hr1 (by repeat (first | exact Below.refl _ _ | refine Below.alloc ?_ (by simp <;> omega) _ | refine below_grow_of ?_ (by simp <;> omega) _ _ | refine Below.drew ?_ | refine below_drewN ?_ _)), rd_up hr2 (by repeat (first | exact Below.refl _ _ | refine Below.alloc ?_ (by simp <;> omega) _ | refine below_grow_of ?_ (by simp <;> omega) _ _ | refine Below.drew ?_ | refine below_drewN ?_ _))⟩ HT.out).mono ?_; rintro e w2 ⟨rfl, hb2⟩; obtain ⟨os2, d2, rfl⟩ := below_grows hb2; clear hb2))
    go_ret
    exact ⟨ret_i64 HE.out.symm, by repeat (first | exact Below.refl _ _ | refine Below.alloc ?_ (by simp <;> omega) _ | refine below_grow_of ?_ (by simp <;> omega) _ _ | refine Below.drew ?_ | refine below_drewN ?_ _)⟩
  · have HE := Hid.mk_ (show classAtB ⟨bs, cs⟩ s = -1 from if_neg hs)
    have HT := Hid.mk_ ((Bool.not_eq_true _).mp hs)
    clear hs
    go_enter Try.func113, Try.ntmps113
    go_wp2_with (go_at_call 187; refine (shaped_impl _ ⟨⟨A1, bs.length, c1⟩, ⟨A2, cs.length, c2⟩⟩ ⟨bs, cs⟩ ⟨rd_up hr1 (by repeat (first | exact Below.refl _ _ | refine Below.alloc ?_ (by simp <;> omega) _ | refine below_grow_of ?_ (by simp <;> omega) _ _ | refine Below.drew ?_ | refine below_drewN ?_ _)), rd_up hr2 (by repeat (first | exact Below.refl _ _ | refine Below.alloc ?_ (by simp <;> omega) _ | refine below_grow_of ?_ (by simp <;> omega) _ _ | refine Below.drew ?_ | refine below_drewN ?_ _))⟩).mono ?_; rw [HT.out]; rintro e w1 ⟨rfl, hb1⟩; obtain ⟨os1, d1, rfl⟩ := below_grows hb1; clear hb1)
    go_ret
    exact ⟨ret_i64 HE.out.symm, by repeat (first | exact Below.refl _ _ | refine Below.alloc ?_ (by simp <;> omega) _ | refine below_grow_of ?_ (by simp <;> omega) _ _ | refine Below.drew ?_ | refine below_drewN ?_ _)⟩
