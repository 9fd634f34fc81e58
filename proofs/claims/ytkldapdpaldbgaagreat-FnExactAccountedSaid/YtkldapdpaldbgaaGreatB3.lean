/-
  Heaps: the generation of a slot.
-/
import Derived.Test.YtkldapdpaldbgaaGreatT
import Derived.Test.YtkldapdpaldbgaaGreatL
import Derived.Deep.QuietTactic
import Derived.BigQuiet
import Derived.Deep.LoopGhost
import Derived.Deep.RegionHeld3
import Derived.Test.YtkldapdpaldbgaaGreatN
import Derived.Test.YtkldapdpaldbgaaGreatA
import Derived.WalkSpells
import Derived.Laws.Cover3
import Derived.Test.YtkldapdpaldbgaaGreatB2
namespace Go.Proofs.YtkldapdpaldbgaaGreat
open Go.RowKit
theorem cell_old (w : World) (o : Obj) (g i : Nat) (hg : g < w.heap.size) : (w.alloc o).cell? ⟨g, i, none⟩ = w.cell? ⟨g, i, none⟩ := by
  simp [World.cell?, Below.heap_alloc w o g hg]
theorem cell_old_frozen (w : World) (o : Obj) (g i : Nat) (hg : g < w.heap.size) : (w.alloc o).frozen? ⟨g, i, none⟩ = w.frozen? ⟨g, i, none⟩ := by
  simp [World.frozen?, Below.heap_alloc w o g hg]
theorem cell_up {w w' : World} {g i : Nat} {u : Value} (hb : Below w.heap.size w w') (hg : g < w.heap.size) (h : w.cell? ⟨g, i, none⟩ = some u) : w'.cell? ⟨g, i, none⟩ = some u := (hb.cell (p := ⟨g, i, none⟩) hg).trans h

def classAtB (h : Heap) (s : Int) : Int := if shapeB h = true then classInB h s else -1
theorem quietc {P : Program} {f : FuncId} {args : Array Value} {W : World} {v : Ending} (h : Calls P f args W fun e w' => e = v ∧ W = w') : Calls P f args W fun e w' => e = v ∧ w' = W := h.mono fun _ _ ⟨a, b⟩ => ⟨a, b.symm⟩
theorem genIn_bd {h : Heap} (sh : Shape h) {s : Int} (k : ¬ classInB h s < 0) : 0 ≤ genAt s (classInB h s) ∧ genAt s (classInB h s) + 4 ≤ h.Bytes.length := by
  have a := sizeOfC_bd (clAt h s)
  have b := sh.bl
  rcases classInB_cases h s with ⟨c, _⟩ | ⟨c, d, e, _⟩
  · omega
  · rw [c]; omega

set_option maxRecDepth 100000 in
set_option maxHeartbeats 1000000 in
theorem ClassAt_impl (w : World) (H : HHeap) (x : Heap) (s : Int) (h : RdHeap w w.heap.size H x) :
    Calls Tryz.prog 228 #[.agg #[.slice H.Bytes.a H.Bytes.len H.Bytes.cap, .slice H.Class.a H.Class.len H.Class.cap], .int .i64 s] w fun e w' => e = .returned (.int .i64 (classAtB x s)) ∧ Below w.heap.size w w' := by
  obtain ⟨⟨A1, n1, c1⟩, ⟨A2, n2, c2⟩⟩ := H
  obtain ⟨bs, cs⟩ := x
  have hr1 : RdL FI w w.heap.size (.slice A1 n1 c1) bs := h.Bytes
  have hr2 : RdL FI w w.heap.size (.slice A2 n2 c2) cs := h.Class
  obtain ⟨_, _, hv, q1, q2, qx⟩ := id hr1
  simp only [Value.slice.injEq] at hv
  obtain ⟨rfl, rfl, rfl⟩ := hv
  have hlt1 : bs.length ≤ 9223372036854775807 := by unfold maxLen at q2; omega
  clear q1 q2 qx
  obtain ⟨_, _, hv, q1, q2, qx⟩ := id hr2
  simp only [Value.slice.injEq] at hv
  obtain ⟨rfl, rfl, rfl⟩ := hv
  have hlt2 : cs.length ≤ 9223372036854775807 := by unfold maxLen at q2; omega
  clear q1 q2 qx h
  show Calls Tryz.prog 228 #[.agg #[.slice A1 bs.length c1, .slice A2 cs.length c2], .int .i64 s] _ _
  by_cases hs : shapeB ⟨bs, cs⟩ = true
  · have HE := Hid.mk_ (show classAtB ⟨bs, cs⟩ s = classInB ⟨bs, cs⟩ s from if_pos hs)
    have HT := Hid.mk_ hs
    clear hs
    go_enter Tryz.func228, Tryz.ntmps228
    go_wp2_with (first | (go_at_call 238; refine (shaped_impl _ ⟨⟨A1, bs.length, c1⟩, ⟨A2, cs.length, c2⟩⟩ ⟨bs, cs⟩ ⟨rd_up hr1 (by repeat (first | exact Below.refl _ _ | refine Below.alloc ?_ (by simp <;> omega) _ | refine below_grow_of ?_ (by simp <;> omega) _ _ | refine Below.drew ?_ | refine below_drewN ?_ _)), rd_up hr2 (by repeat (first | exact Below.refl _ _ | refine Below.alloc ?_ (by simp <;> omega) _ | refine below_grow_of ?_ (by simp <;> omega) _ _ | refine Below.drew ?_ | refine below_drewN ?_ _))⟩).mono ?_; rw [HT.out]; rintro e w1 ⟨rfl, hb1⟩; obtain ⟨os1, d1, rfl⟩ := below_grows hb1; clear hb1) | (go_at_call 47; refine (classIn_impl _ ⟨⟨A1, bs.length, c1⟩, ⟨A2, cs.length, c2⟩⟩ ⟨bs, cs⟩ s ⟨rd_up hr1 (by repeat (first | exact Below.refl _ _ | refine Below.alloc ?_ (by simp <;> omega) _ | refine below_grow_of ?_ (by simp <;> omega) _ _ | refine Below.drew ?_ | refine below_drewN ?_ _)), rd_up hr2 (by repeat (first | exact Below.refl _ _ | refine Below.alloc ?_ (by simp <;> omega) _ | refine below_grow_of ?_ (by simp <;> omega) _ _ | refine Below.drew ?_ | refine below_drewN ?_ _))⟩ HT.out).mono ?_; rintro e w2 ⟨rfl, hb2⟩; obtain ⟨os2, d2, rfl⟩ := below_grows hb2; clear hb2))
    go_ret
    exact ⟨ret_i64 HE.out.symm, by repeat (first | exact Below.refl _ _ | refine Below.alloc ?_ (by simp <;> omega) _ | refine below_grow_of ?_ (by simp <;> omega) _ _ | refine Below.drew ?_ | refine below_drewN ?_ _)⟩
  · have HE := Hid.mk_ (show classAtB ⟨bs, cs⟩ s = -1 from if_neg hs)
    have HT := Hid.mk_ ((Bool.not_eq_true _).mp hs)
    clear hs
    go_enter Tryz.func228, Tryz.ntmps228
    go_wp2_with (go_at_call 238; refine (shaped_impl _ ⟨⟨A1, bs.length, c1⟩, ⟨A2, cs.length, c2⟩⟩ ⟨bs, cs⟩ ⟨rd_up hr1 (by repeat (first | exact Below.refl _ _ | refine Below.alloc ?_ (by simp <;> omega) _ | refine below_grow_of ?_ (by simp <;> omega) _ _ | refine Below.drew ?_ | refine below_drewN ?_ _)), rd_up hr2 (by repeat (first | exact Below.refl _ _ | refine Below.alloc ?_ (by simp <;> omega) _ | refine below_grow_of ?_ (by simp <;> omega) _ _ | refine Below.drew ?_ | refine below_drewN ?_ _))⟩).mono ?_; rw [HT.out]; rintro e w1 ⟨rfl, hb1⟩; obtain ⟨os1, d1, rfl⟩ := below_grows hb1; clear hb1)
    go_ret
    exact ⟨ret_i64 HE.out.symm, by repeat (first | exact Below.refl _ _ | refine Below.alloc ?_ (by simp <;> omega) _ | refine below_grow_of ?_ (by simp <;> omega) _ _ | refine Below.drew ?_ | refine below_drewN ?_ _)⟩

set_option maxRecDepth 100000 in
set_option maxHeartbeats 1000000 in
theorem GenIn_impl (w : World) (H : HHeap) (x : Heap) (s : Int) (h : RdHeap w w.heap.size H x) (hs : shapeB x = true) :
    Calls Tryz.prog 149 #[.agg #[.slice H.Bytes.a H.Bytes.len H.Bytes.cap, .slice H.Class.a H.Class.len H.Class.cap], .int .i64 s] w fun e w' => e = .returned (.int .i64 (genInB x s)) ∧ Below w.heap.size w w' := by
  obtain ⟨⟨A1, n1, c1⟩, ⟨A2, n2, c2⟩⟩ := H
  obtain ⟨bs, cs⟩ := x
  have hr1 : RdL FI w w.heap.size (.slice A1 n1 c1) bs := h.Bytes
  have hr2 : RdL FI w w.heap.size (.slice A2 n2 c2) cs := h.Class
  obtain ⟨_, _, hv, q1, q2, qx⟩ := id hr1
  simp only [Value.slice.injEq] at hv
  obtain ⟨rfl, rfl, rfl⟩ := hv
  have hlt1 : bs.length ≤ 9223372036854775807 := by unfold maxLen at q2; omega
  clear q1 q2 qx
  obtain ⟨_, _, hv, q1, q2, qx⟩ := id hr2
  simp only [Value.slice.injEq] at hv
  obtain ⟨rfl, rfl, rfl⟩ := hv
  have hlt2 : cs.length ≤ 9223372036854775807 := by unfold maxLen at q2; omega
  clear q1 q2 qx h
  have sh := shape_of hs
  have HC := Hid.mk_ (show classAtB ⟨bs, cs⟩ s = classInB ⟨bs, cs⟩ s from if_pos hs)
  clear hs
  show Calls Tryz.prog 149 #[.agg #[.slice A1 bs.length c1, .slice A2 cs.length c2], .int .i64 s] _ _
  by_cases k1 : classInB ⟨bs, cs⟩ s < 0
  · have HE := Hid.mk_ (show genInB ⟨bs, cs⟩ s = 0 from if_pos k1)
    clear sh
    go_enter Tryz.func149, Tryz.ntmps149
    go_wp2_with (go_at_call 228; refine (ClassAt_impl _ ⟨⟨A1, bs.length, c1⟩, ⟨A2, cs.length, c2⟩⟩ ⟨bs, cs⟩ s ⟨rd_up hr1 (by repeat (first | exact Below.refl _ _ | refine Below.alloc ?_ (by simp <;> omega) _ | refine below_grow_of ?_ (by simp <;> omega) _ _ | refine Below.drew ?_ | refine below_drewN ?_ _)), rd_up hr2 (by repeat (first | exact Below.refl _ _ | refine Below.alloc ?_ (by simp <;> omega) _ | refine below_grow_of ?_ (by simp <;> omega) _ _ | refine Below.drew ?_ | refine below_drewN ?_ _))⟩).mono ?_; rw [HC.out]; rintro e w1 ⟨rfl, hb1⟩; obtain ⟨os1, d1, rfl⟩ := below_grows hb1; clear hb1)
    go_ret
    exact ⟨ret_i64 HE.out.symm, by repeat (first | exact Below.refl _ _ | refine Below.alloc ?_ (by simp <;> omega) _ | refine below_grow_of ?_ (by simp <;> omega) _ _ | refine Below.drew ?_ | refine below_drewN ?_ _)⟩
  · have HE := Hid.mk_ (show genInB ⟨bs, cs⟩ s = loadN bs (genAt s (classInB ⟨bs, cs⟩ s)) 4 from if_neg k1)
    obtain ⟨g1, g2⟩ := genIn_bd sh k1
    simp only at g2
    have hby := sh.by_
    simp only at hby
    generalize classInB ⟨bs, cs⟩ s = c at k1 HE HC g1 g2
    clear sh
    have HQ1 : ∀ W : World, Calls Tryz.prog 125 #[.int .i64 s, .int .i64 c] W fun e w' => e = .returned (.int .i64 (genAt s c)) ∧ w' = W := fun W => quietc (GenAt_impl s c W)
    generalize genAt s c = a at g1 g2 HE HQ1
    go_enter Tryz.func149, Tryz.ntmps149
    go_wp2_with fail
    refine (ClassAt_impl _ ⟨⟨A1, bs.length, c1⟩, ⟨A2, cs.length, c2⟩⟩ ⟨bs, cs⟩ s ⟨rd_up hr1 (by repeat (first | exact Below.refl _ _ | refine Below.alloc ?_ (by simp <;> omega) _ | refine below_grow_of ?_ (by simp <;> omega) _ _ | refine Below.drew ?_ | refine below_drewN ?_ _)), rd_up hr2 (by repeat (first | exact Below.refl _ _ | refine Below.alloc ?_ (by simp <;> omega) _ | refine below_grow_of ?_ (by simp <;> omega) _ _ | refine Below.drew ?_ | refine below_drewN ?_ _))⟩).mono ?_
    rw [HC.out]
    rintro e w1 ⟨rfl, hb1⟩
    have q0 : w1.cell? ⟨w.heap.size, 0, none⟩ = some (.slice A1 bs.length c1) := cell_up hb1 (by simp <;> omega) (by simp [go_sem])
    have q1 : w1.cell? ⟨w.heap.size, 1, none⟩ = some (.slice A2 cs.length c2) := cell_up hb1 (by simp <;> omega) (by simp [go_sem])
    have hB1 : Below w.heap.size w w1 := Below.trans (by repeat (first | exact Below.refl _ _ | refine Below.alloc ?_ (by simp <;> omega) _ | refine below_grow_of ?_ (by simp <;> omega) _ _ | refine Below.drew ?_ | refine below_drewN ?_ _)) (hb1.mono (by simp))
    clear hb1
    go_wp2
    go_quiet ((first | (go_at_call 125; exact Calls.quiet_of_same (HQ1 _)) | (go_at_call 229; exact Calls.quiet_of_same (quietc (loadNum_impl _ _ bs a 4 (rd_up hr1 (by first | exact hB1 | exact hB1.drew | exact below_drewN hB1 _)) g1 (by decide) (by decide) g2 hby)))))
    go_wp2
    go_ret
    exact ⟨ret_i64 HE.out.symm, by first | exact hB1 | exact hB1.drew | exact below_drewN hB1 _⟩

set_option maxRecDepth 100000 in
set_option maxHeartbeats 1000000 in
theorem l7Gen_spec (w : World) (H : HHeap) (x : Heap) (s : Int) (h : RdHeap w w.heap.size H x) (hs : shapeB x = true) (k1 : ¬ classInB x s < 0) :
    Calls Tryz.prog 133 #[.agg #[.slice H.Bytes.a H.Bytes.len H.Bytes.cap, .slice H.Class.a H.Class.len H.Class.cap], .int .i64 s] w fun e w' => e = .returned (.int .i64 (genInB x s)) ∧ Below w.heap.size w w' := by
  obtain ⟨⟨A1, n1, c1⟩, ⟨A2, n2, c2⟩⟩ := H
  obtain ⟨bs, cs⟩ := x
  have hr1 : RdL FI w w.heap.size (.slice A1 n1 c1) bs := h.Bytes
  have hr2 : RdL FI w w.heap.size (.slice A2 n2 c2) cs := h.Class
  obtain ⟨_, _, hv, q1, q2, qx⟩ := id hr1
  simp only [Value.slice.injEq] at hv
  obtain ⟨rfl, rfl, rfl⟩ := hv
  have hlt1 : bs.length ≤ 9223372036854775807 := by unfold maxLen at q2; omega
  clear q1 q2 qx
  obtain ⟨_, _, hv, q1, q2, qx⟩ := id hr2
  simp only [Value.slice.injEq] at hv
  obtain ⟨rfl, rfl, rfl⟩ := hv
  have hlt2 : cs.length ≤ 9223372036854775807 := by unfold maxLen at q2; omega
  clear q1 q2 qx h
  have sh := shape_of hs
  show Calls Tryz.prog 133 #[.agg #[.slice A1 bs.length c1, .slice A2 cs.length c2], .int .i64 s] _ _
  have HE := Hid.mk_ (show genInB ⟨bs, cs⟩ s = loadN bs (genAt s (classInB ⟨bs, cs⟩ s)) 4 from if_neg k1)
  obtain ⟨g1, g2⟩ := genIn_bd sh k1
  simp only at g2
  have hby := sh.by_
  simp only at hby
  have HQ1 : ∀ W : World, Calls Tryz.prog 216 #[.int .i64 s, .int .i64 (classInB ⟨bs, cs⟩ s)] W fun e w' => e = .returned (.int .i64 (genAt s (classInB ⟨bs, cs⟩ s))) ∧ W = w' := fun W => GenAt_spec s _ W
  generalize genAt s (classInB ⟨bs, cs⟩ s) = a at g1 g2 HE HQ1
  clear sh k1
  go_enter Tryz.func133, Tryz.ntmps133
  go_wp2
  have hB0 : Below w.heap.size w (w.alloc (.cells #[.slice A1 bs.length c1, .slice A2 cs.length c2] 26)) := by repeat (first | exact Below.refl _ _ | refine Below.alloc ?_ (by simp <;> omega) _ | refine below_grow_of ?_ (by simp <;> omega) _ _ | refine Below.drew ?_ | refine below_drewN ?_ _)
  have q0 : (w.alloc (.cells #[.slice A1 bs.length c1, .slice A2 cs.length c2] 26)).cell? ⟨w.heap.size, 0, none⟩ = some (.slice A1 bs.length c1) := by simp [go_sem]
  have q1 : (w.alloc (.cells #[.slice A1 bs.length c1, .slice A2 cs.length c2] 26)).cell? ⟨w.heap.size, 1, none⟩ = some (.slice A2 cs.length c2) := by simp [go_sem]
  have z0 : w.heap.size < (w.alloc (.cells #[.slice A1 bs.length c1, .slice A2 cs.length c2] 26)).heap.size := by simp
  generalize (w.alloc (.cells #[.slice A1 bs.length c1, .slice A2 cs.length c2] 26)) = w0 at hB0 q0 q1 z0 ⊢
  go_region_held3 (fun w' => w'.cell? ⟨w.heap.size, 0, none⟩ = some (.slice A1 bs.length c1) ∧ w'.cell? ⟨w.heap.size, 1, none⟩ = some (.slice A2 cs.length c2) ∧ w.heap.size < w'.heap.size ∧ Below w.heap.size w w') (first | (go_keep; done) | ((try go_split_ands); refine ⟨?_, ?_, ?_, ?_⟩; all_goals first | assumption | exact Below.drew (by assumption) | (simp [go_sem, *]; done) | exact below_grow_of (by assumption) (by omega) _ _ | (rw [size_grow]; omega) | (repeat (first | exact Below.refl _ _ | refine Below.alloc ?_ (by simp <;> omega) _ | refine below_grow_of ?_ (by simp <;> omega) _ _ | refine Below.drew ?_ | refine below_drewN ?_ _); done) | (simp <;> omega))) ((first | (go_at_call 104; refine (l7Class_spec _ ⟨⟨A1, bs.length, c1⟩, ⟨A2, cs.length, c2⟩⟩ ⟨bs, cs⟩ s ⟨rd_up hr1 (by go_split_ands; assumption), rd_up hr2 (by go_split_ands; assumption)⟩ hs).mono ?_; rintro e w1 ⟨rfl, hb1⟩; obtain ⟨os1, d1, rfl⟩ := below_grows hb1; clear hb1) | (go_at_call 216; refine (HQ1 _).mono ?_; rintro e w2 ⟨rfl, rfl⟩) | (go_at_call 215; refine (l3Load_spec _ _ bs a 4 (rd_up hr1 (by go_split_ands; assumption)) g1 (by decide) (by decide) g2 hby).mono ?_; rintro e w3 ⟨rfl, rfl⟩)))
  go_wp2
  go_ret
  exact ⟨ret_i64 HE.out.symm, by first | assumption | (go_split_ands; assumption)⟩
end Go.Proofs.YtkldapdpaldbgaaGreat
