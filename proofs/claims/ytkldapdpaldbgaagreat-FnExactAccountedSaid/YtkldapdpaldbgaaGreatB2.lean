/-
  Heaps: the class of a slot.
-/
import Derived.Test.YtkldapdpaldbgaaGreatT
import Derived.Test.YtkldapdpaldbgaaGreatL
import Derived.Deep.QuietTactic
import Derived.BigQuiet
import Derived.Deep.LoopGhost
import Derived.Deep.RegionHeld3
import Derived.Test.YtkldapdpaldbgaaGreatN
import Derived.Test.YtkldapdpaldbgaaGreatA
import Derived.WalkSpells
import Derived.Laws.Cover3
import Derived.Test.YtkldapdpaldbgaaGreatB1
namespace Go.Proofs.YtkldapdpaldbgaaGreat
open Go.RowKit

theorem clAt_get {h : Heap} (sh : Shape h) {s : Int} (h1 : inB 0 23 s = true) : h.Class[(s / 4).toNat]? = some (clAt h s) := by
  have a := inB_iff.1 h1
  have b := sh.cl
  have hlt : (s / 4).toNat < h.Class.length := by omega
  unfold clAt
  rw [getD_at hlt, List.getElem?_eq_getElem hlt]
theorem clAt_bd {h : Heap} (sh : Shape h) (s : Int) : -1 ≤ clAt h s ∧ clAt h s ≤ 2 := sh.cs _
theorem classInB_cases (h : Heap) (s : Int) : (classInB h s = -1 ∧ genAt s (clAt h s) = -1) ∨ (classInB h s = clAt h s ∧ 8 ≤ genAt s (clAt h s) ∧ genAt s (clAt h s) + 4 + sizeOfC (clAt h s) ≤ 384 ∧ inB 0 23 s = true ∧ inB 0 2 (clAt h s) = true) := by
  rcases genAt_bd s (clAt h s) with k | ⟨k1, k2⟩
  · left
    exact ⟨if_pos (by omega), k⟩
  · right
    have := genAt_iff.1 (show 0 ≤ genAt s (clAt h s) by omega)
    exact ⟨if_neg (by omega), k1, k2, this.1, this.2.1⟩
theorem classInB_out {h : Heap} {s : Int} (h1 : inB 0 23 s = false) : classInB h s = -1 := if_pos (by rw [genAt_no1 h1]; decide)

set_option maxRecDepth 100000 in
set_option maxHeartbeats 1000000 in
theorem classIn_impl (w : World) (H : HHeap) (x : Heap) (s : Int) (h : RdHeap w w.heap.size H x) (hs : shapeB x = true) :
    Calls Tryz.prog 47 #[.agg #[.slice H.Bytes.a H.Bytes.len H.Bytes.cap, .slice H.Class.a H.Class.len H.Class.cap], .int .i64 s] w fun e w' => e = .returned (.int .i64 (classInB x s)) ∧ Below w.heap.size w w' := by
  obtain ⟨⟨A1, n1, c1⟩, ⟨A2, n2, c2⟩⟩ := H
  obtain ⟨bs, cs⟩ := x
  have hr1 : RdL FI w w.heap.size (.slice A1 n1 c1) bs := h.Bytes
  have hr2 : RdL FI w w.heap.size (.slice A2 n2 c2) cs := h.Class
  obtain ⟨_, _, hv, q1, q2, qx⟩ := id hr1
  simp only [Value.slice.injEq] at hv
  obtain ⟨rfl, rfl, rfl⟩ := hv
  have hlt1 : bs.length ≤ 9223372036854775807 := by unfold maxLen at q2; omega
  clear q1 q2 qx
  obtain ⟨_, _, hv, q1, q2, qx⟩ := id hr2
  simp only [Value.slice.injEq] at hv
  obtain ⟨rfl, rfl, rfl⟩ := hv
  have hlt2 : cs.length ≤ 9223372036854775807 := by unfold maxLen at q2; omega
  clear q1 q2 qx h
  have sh := shape_of hs
  have hl6 := Hid.mk_ sh.cl
  have hcb := clAt_bd sh s
  clear hs
  show Calls Tryz.prog 47 #[.agg #[.slice A1 bs.length c1, .slice A2 cs.length c2], .int .i64 s] _ _
  by_cases k1 : inB 0 23 s = true
  case neg =>
    have k1' : inB 0 23 s = false := (Bool.not_eq_true _).mp k1
    have HE := Hid.mk_ (classInB_out (h := ⟨bs, cs⟩) k1')
    clear k1 sh hcb
    go_enter Tryz.func47, Tryz.ntmps47
    go_wp2_with (first | (go_at_call 124; refine (isSlot_ct _ _).mono ?_; rintro e w1 ⟨rfl, rfl⟩) | (go_at_call 125; refine (GenAt_impl _ _ _).mono ?_; rintro e w1 ⟨rfl, rfl⟩))
    go_ret
    exact ⟨ret_i64 HE.out.symm, by repeat (first | exact Below.refl _ _ | refine Below.alloc ?_ (by simp <;> omega) _ | refine below_grow_of ?_ (by simp <;> omega) _ _ | refine Below.drew ?_ | refine below_drewN ?_ _)⟩
  obtain ⟨b1, b2⟩ := inB_iff.1 k1
  have d1 : 0 ≤ s / 4 := by omega
  have d2 : s / 4 < (cs.length : Int) := by rw [hl6.out]; omega
  obtain ⟨g2, off2, cap2, he, hg2, _, _, hc2⟩ := hr2.at_ (clAt_get sh k1)
  injection he with he1 he2 he3
  clear he2
  subst he1 he3
  have p0 : w.cell? ⟨g2, off2 + (s / 4).toNat, none⟩ = some (.int .i64 (clAt ⟨bs, cs⟩ s)) := by simpa [FI] using hc2 0 _ rfl
  clear hc2
  have KC := Hid.mk_ (classInB_cases ⟨bs, cs⟩ s)
  generalize clAt ⟨bs, cs⟩ s = c at p0 hcb KC
  clear sh k1 hr2
  by_cases k2 : genAt s c < 0
  · have HE := Hid.mk_ (show classInB ⟨bs, cs⟩ s = -1 by rcases KC.out with a | a <;> omega)
    have k1 : inB 0 23 s = true := inB_iff.2 ⟨b1, b2⟩
    go_enter Tryz.func47, Tryz.ntmps47
    go_wp2_with (first | (go_at_call 124; refine (isSlot_ct _ _).mono ?_; rintro e w1 ⟨rfl, rfl⟩) | (go_at_call 125; refine (GenAt_impl _ _ _).mono ?_; rintro e w1 ⟨rfl, rfl⟩))
    go_ret
    exact ⟨ret_i64 HE.out.symm, by repeat (first | exact Below.refl _ _ | refine Below.alloc ?_ (by simp <;> omega) _ | refine below_grow_of ?_ (by simp <;> omega) _ _ | refine Below.drew ?_ | refine below_drewN ?_ _)⟩
  · have HE := Hid.mk_ (show classInB ⟨bs, cs⟩ s = c by rcases KC.out with a | a <;> omega)
    have k1 : inB 0 23 s = true := inB_iff.2 ⟨b1, b2⟩
    go_enter Tryz.func47, Tryz.ntmps47
    go_wp2_with (first | (go_at_call 124; refine (isSlot_ct _ _).mono ?_; rintro e w1 ⟨rfl, rfl⟩) | (go_at_call 125; refine (GenAt_impl _ _ _).mono ?_; rintro e w1 ⟨rfl, rfl⟩))
    go_ret
    exact ⟨ret_i64 HE.out.symm, by repeat (first | exact Below.refl _ _ | refine Below.alloc ?_ (by simp <;> omega) _ | refine below_grow_of ?_ (by simp <;> omega) _ _ | refine Below.drew ?_ | refine below_drewN ?_ _)⟩

set_option maxRecDepth 100000 in
set_option maxHeartbeats 1000000 in
theorem l7Class_spec (w : World) (H : HHeap) (x : Heap) (s : Int) (h : RdHeap w w.heap.size H x) (hs : shapeB x = true) :
    Calls Tryz.prog 104 #[.agg #[.slice H.Bytes.a H.Bytes.len H.Bytes.cap, .slice H.Class.a H.Class.len H.Class.cap], .int .i64 s] w fun e w' => e = .returned (.int .i64 (classInB x s)) ∧ Below w.heap.size w w' := by
  obtain ⟨⟨A1, n1, c1⟩, ⟨A2, n2, c2⟩⟩ := H
  obtain ⟨bs, cs⟩ := x
  have hr1 : RdL FI w w.heap.size (.slice A1 n1 c1) bs := h.Bytes
  have hr2 : RdL FI w w.heap.size (.slice A2 n2 c2) cs := h.Class
  obtain ⟨_, _, hv, q1, q2, qx⟩ := id hr1
  simp only [Value.slice.injEq] at hv
  obtain ⟨rfl, rfl, rfl⟩ := hv
  have hlt1 : bs.length ≤ 9223372036854775807 := by unfold maxLen at q2; omega
  clear q1 q2 qx
  obtain ⟨_, _, hv, q1, q2, qx⟩ := id hr2
  simp only [Value.slice.injEq] at hv
  obtain ⟨rfl, rfl, rfl⟩ := hv
  have hlt2 : cs.length ≤ 9223372036854775807 := by unfold maxLen at q2; omega
  clear q1 q2 qx h
  have sh := shape_of hs
  have hl6 := Hid.mk_ sh.cl
  have hcb := clAt_bd sh s
  clear hs
  show Calls Tryz.prog 104 #[.agg #[.slice A1 bs.length c1, .slice A2 cs.length c2], .int .i64 s] _ _
  by_cases k1 : inB 0 23 s = true
  case neg =>
    have k1' : inB 0 23 s = false := (Bool.not_eq_true _).mp k1
    have HE := Hid.mk_ (classInB_out (h := ⟨bs, cs⟩) k1')
    clear k1 sh hcb
    have kp : pageOfS s = -1 := if_neg (by rw [k1']; decide)
    go_enter Tryz.func104, Tryz.ntmps104
    go_wp2_with (first | (go_at_call 182; refine (PageOf_spec _ _).mono ?_; rw [kp]; rintro e w1 ⟨rfl, rfl⟩))
    go_quiet (fail)
    all_goals go_wp2
    all_goals go_ret
    all_goals exact ⟨ret_i64 HE.out.symm, by repeat (first | exact Below.refl _ _ | refine Below.alloc ?_ (by simp <;> omega) _ | refine below_grow_of ?_ (by simp <;> omega) _ _ | refine Below.drew ?_ | refine below_drewN ?_ _)⟩
  obtain ⟨b1, b2⟩ := inB_iff.1 k1
  have d1 : 0 ≤ s / 4 := by omega
  have d2 : s / 4 < (cs.length : Int) := by rw [hl6.out]; omega
  obtain ⟨g2, off2, cap2, he, hg2, _, _, hc2⟩ := hr2.at_ (clAt_get sh k1)
  injection he with he1 he2 he3
  clear he2
  subst he1 he3
  have p0 : w.cell? ⟨g2, off2 + (s / 4).toNat, none⟩ = some (.int .i64 (clAt ⟨bs, cs⟩ s)) := by simpa [FI] using hc2 0 _ rfl
  clear hc2
  have KC := Hid.mk_ (classInB_cases ⟨bs, cs⟩ s)
  have kp : pageOfS s = s / 4 := if_pos k1
  have ki : indexOfS s = s % 4 := if_pos k1
  have HG := Hid.mk_ (fun c (h1 : inB 0 2 c = true) (h2 : s % 4 < perPage c) => (show 0 ≤ genAt s c from genAt_iff.2 ⟨k1, h1, h2⟩))
  have HG2 := Hid.mk_ (fun c (h2 : ¬ s % 4 < perPage c) => genAt_no3 (s := s) (c := c) h2)
  have HG3 := Hid.mk_ (fun c (h2 : c < 0) => genAt_no2 (s := s) (c := c) (inB_no (lo := 0) (hi := 2) (by omega)))
  generalize clAt ⟨bs, cs⟩ s = c at p0 hcb KC
  clear sh k1 hr2
  obtain ⟨p, hp⟩ := Int.eq_ofNat_of_zero_le d1
  rw [hp] at kp p0 d2
  simp only [Int.toNat_natCast, Int.ofNat_lt] at p0 d2
  clear hp d1
  have hd0 : decide ((p : Int) < 0) = false := by simp
  by_cases k2 : c < 0
  · have HE := Hid.mk_ (show classInB ⟨bs, cs⟩ s = -1 by rcases KC.out with a | a; exact a.1; have := HG3.out c k2; omega)
    obtain rfl : c = -1 := by omega
    clear hcb k2 HG HG2 HG3 KC
    go_enter Tryz.func104, Tryz.ntmps104
    go_wp2_with (first | (go_at_call 182; refine (PageOf_spec _ _).mono ?_; rw [kp]; rintro e w1 ⟨rfl, rfl⟩))
    go_quiet (fail)
    all_goals go_wp2
    all_goals go_ret
    all_goals exact ⟨ret_i64 HE.out.symm, by repeat (first | exact Below.refl _ _ | refine Below.alloc ?_ (by simp <;> omega) _ | refine below_grow_of ?_ (by simp <;> omega) _ _ | refine Below.drew ?_ | refine below_drewN ?_ _)⟩
  have k2' : 0 ≤ c := by omega
  have hq1 : ∀ W : World, Calls Tryz.prog 183 #[.int .i64 s] W fun e w' => e = .returned (.int .i64 (s % 4)) ∧ w' = W := fun W => (IndexOf_spec s W).mono fun e w' ⟨a, b⟩ => ⟨by rw [a, ki], b.symm⟩
  have hq2 : ∀ W : World, Calls Tryz.prog 184 #[.int .i64 c] W fun e w' => e = .returned (.int .i64 (perPage c)) ∧ w' = W := fun W => (PerPage_spec c W).mono fun e w' ⟨a, b⟩ => ⟨a, b.symm⟩
  clear ki
  by_cases k3 : perPage c ≤ s % 4
  · have HE := Hid.mk_ (show classInB ⟨bs, cs⟩ s = -1 by rcases KC.out with a | a; exact a.1; have := HG2.out c (by omega); omega)
    go_enter Tryz.func104, Tryz.ntmps104
    go_wp2_with (first | (go_at_call 182; refine (PageOf_spec _ _).mono ?_; rw [kp]; rintro e w1 ⟨rfl, rfl⟩))
    go_quiet ((first | (go_at_call 183; exact Calls.quiet_of_same (hq1 _)) | (go_at_call 184; exact Calls.quiet_of_same (hq2 _))))
    all_goals go_wp2
    all_goals go_ret
    all_goals exact ⟨ret_i64 HE.out.symm, by repeat (first | exact Below.refl _ _ | refine Below.alloc ?_ (by simp <;> omega) _ | refine below_grow_of ?_ (by simp <;> omega) _ _ | refine Below.drew ?_ | refine below_drewN ?_ _)⟩
  · have HE := Hid.mk_ (show classInB ⟨bs, cs⟩ s = c by rcases KC.out with a | a; have := HG.out c (inB_iff.2 ⟨k2', hcb.2⟩) (by omega); omega; exact a.1)
    go_enter Tryz.func104, Tryz.ntmps104
    go_wp2_with (first | (go_at_call 182; refine (PageOf_spec _ _).mono ?_; rw [kp]; rintro e w1 ⟨rfl, rfl⟩))
    go_quiet ((first | (go_at_call 183; exact Calls.quiet_of_same (hq1 _)) | (go_at_call 184; exact Calls.quiet_of_same (hq2 _))))
    all_goals go_wp2
    all_goals go_ret
    all_goals exact ⟨ret_i64 HE.out.symm, by repeat (first | exact Below.refl _ _ | refine Below.alloc ?_ (by simp <;> omega) _ | refine below_grow_of ?_ (by simp <;> omega) _ _ | refine Below.drew ?_ | refine below_drewN ?_ _)⟩
end Go.Proofs.YtkldapdpaldbgaaGreat
