/-
  New bases: the contracts.
-/
import Derived.Test.YtodbkbolpcbooaaT
import Derived.Test.YtodbkbolpcbooaaL
import Derived.Deep.QuietTactic
import Derived.BigQuiet
import Derived.Deep.LoopGhost
import Derived.Deep.RegionHeld3
import Derived.Test.YtodbkbolpcbooaaN
import Derived.Test.YtodbkbolpcbooaaA
import Derived.WalkSpells
import Derived.Laws.Cover3
import Derived.Test.YtodbkbolpcbooaaNI
import Derived.Test.YtodbkbolpcbooaaNC
import Derived.Test.YtodbkbolpcbooaaWB
namespace Go.Proofs.Ytodbkbolpcbooaa
open Go.RowKit
def newBase : Base := ⟨newMem, newClk, [[], [], []], [0, 0, 0]⟩

set_option maxRecDepth 100000 in
set_option maxHeartbeats 1000000 in
theorem MemNew_impl (w : World) : Calls Try.prog 79 #[] w fun e w' => ∃ H' : HMem, e = .returned (H'.val newMem) ∧ OwMem w' H' newMem ∧ (∀ g ∈ H'.foot, w.heap.size ≤ g) ∧ Below w.heap.size w w' := by
  have B_r : Box (w.alloc (.cells #[.slice none 0 0, .slice none 0 0, .slice none 0 0, .slice none 0 0] 57)) (w.heap.size) [.slice none 0 0, .slice none 0 0, .slice none 0 0, .slice none 0 0] := by
    have hbx := Box.new w #[.slice none 0 0, .slice none 0 0, .slice none 0 0, .slice none 0 0] 57
    exact hbx
  have hB : Below w.heap.size w (w.alloc (.cells #[.slice none 0 0, .slice none 0 0, .slice none 0 0, .slice none 0 0] 57)) := by repeat (first | exact Below.refl _ _ | refine Below.alloc ?_ (by simp <;> omega) _ | refine below_grow_of ?_ (by simp <;> omega) _ _ | refine Below.drew ?_ | refine below_drewN ?_ _)
  go_enter Try.func79, Try.ntmps79
  go_wp2_with fail
  generalize hW0 : (w.alloc (.cells #[.slice none 0 0, .slice none 0 0, .slice none 0 0, .slice none 0 0] 57)) = w0 at B_r hB ⊢
  clear hW0
  have zz_r := B_r.lt
  have q_r_0 := B_r.cell 0 _ rfl
  have q_r_1 := B_r.cell 1 _ rfl
  have q_r_2 := B_r.cell 2 _ rfl
  have q_r_3 := B_r.cell 3 _ rfl
  have fr_r := B_r.fro
  have z_r := B_r.lt
  refine (HeapNew_impl _).mono ?_
  rintro e w1 ⟨Hh, rfl, o_h, l_h, hb⟩
  have u_h := o_h.lt
  replace B_r := B_r.below hb
  replace hB := hB.trans (hb.mono hB.size)
  have sz := hb.size
  clear hb
  replace q_r_0 := B_r.cell 0 _ rfl
  replace q_r_1 := B_r.cell 1 _ rfl
  replace q_r_2 := B_r.cell 2 _ rfl
  replace q_r_3 := B_r.cell 3 _ rfl
  replace fr_r := B_r.fro
  replace z_r := B_r.lt
  go_wp2_with fail
  refine (ListsNew_impl _).mono ?_
  rintro e w2 ⟨Hl, rfl, o_l, l_l, hb⟩
  have u_l := o_l.lt
  replace B_r := B_r.below hb
  have o_h := o_h.step0 hb
  replace hB := hB.trans (hb.mono hB.size)
  have sz := hb.size
  clear hb
  replace q_r_0 := B_r.cell 0 _ rfl
  replace q_r_1 := B_r.cell 1 _ rfl
  replace q_r_2 := B_r.cell 2 _ rfl
  replace q_r_3 := B_r.cell 3 _ rfl
  replace fr_r := B_r.fro
  replace z_r := B_r.lt
  go_wp2_with fail
  refine bodyPost_ret (v := (⟨Hh, Hl⟩ : HMem).val newMem) (by simp [results, Try.results79, go_sem, q_r_0, q_r_1, q_r_2, q_r_3]) rfl ⟨⟨Hh, Hl⟩, rfl, ⟨o_h.chg (F := [w.heap.size]) (by repeat (first | with_reducible exact Chg.refl _ _ | with_reducible refine Chg.set_ ?_ (by simp) _ | with_reducible refine Chg.alloc_ ?_ _ | with_reducible refine Chg.drew_ ?_)) (fun g hg hm => by simp only [List.mem_cons, List.not_mem_nil, or_false] at hm; have := l_h g hg; have := u_h g hg; omega), o_l.chg (F := [w.heap.size]) (by repeat (first | with_reducible exact Chg.refl _ _ | with_reducible refine Chg.set_ ?_ (by simp) _ | with_reducible refine Chg.alloc_ ?_ _ | with_reducible refine Chg.drew_ ?_)) (fun g hg hm => by simp only [List.mem_cons, List.not_mem_nil, or_false] at hm; have := l_l g hg; have := u_l g hg; omega), fun b hb hm => by have := l_l b hm; have := u_h b hb; omega⟩, fun b hb => by rcases HMem.mem_foot.1 hb with hb | hb; (have := l_h b hb; omega); (have := l_l b hb; omega), Below.trans hB (by repeat (first | with_reducible exact Below.refl _ _ | with_reducible refine Below.setCell ?_ (by simp <;> omega) _ | with_reducible refine Below.alloc ?_ (by simp <;> omega) _ | with_reducible refine Below.drew ?_))⟩

set_option maxRecDepth 100000 in
set_option maxHeartbeats 1000000 in
theorem MemNew_spec (w : World) : Calls Try.prog 75 #[] w fun e w' => ∃ H' : HMem, e = .returned (H'.val newMem) ∧ OwMem w' H' newMem ∧ (∀ g ∈ H'.foot, w.heap.size ≤ g) ∧ Below w.heap.size w w' := by
  have B_r : Box (w.alloc (.cells #[.slice none 0 0, .slice none 0 0, .slice none 0 0, .slice none 0 0] 57)) (w.heap.size) [.slice none 0 0, .slice none 0 0, .slice none 0 0, .slice none 0 0] := by
    have hbx := Box.new w #[.slice none 0 0, .slice none 0 0, .slice none 0 0, .slice none 0 0] 57
    exact hbx
  have hB : Below w.heap.size w (w.alloc (.cells #[.slice none 0 0, .slice none 0 0, .slice none 0 0, .slice none 0 0] 57)) := by repeat (first | exact Below.refl _ _ | refine Below.alloc ?_ (by simp <;> omega) _ | refine below_grow_of ?_ (by simp <;> omega) _ _ | refine Below.drew ?_ | refine below_drewN ?_ _)
  go_enter Try.func75, Try.ntmps75
  go_wp2_with fail
  generalize hW0 : (w.alloc (.cells #[.slice none 0 0, .slice none 0 0, .slice none 0 0, .slice none 0 0] 57)) = w0 at B_r hB ⊢
  clear hW0
  have zz_r := B_r.lt
  have q_r_0 := B_r.cell 0 _ rfl
  have q_r_1 := B_r.cell 1 _ rfl
  have q_r_2 := B_r.cell 2 _ rfl
  have q_r_3 := B_r.cell 3 _ rfl
  have fr_r := B_r.fro
  have z_r := B_r.lt
  refine (HeapNew_spec _).mono ?_
  rintro e w1 ⟨Hh, rfl, o_h, l_h, hb⟩
  have u_h := o_h.lt
  replace B_r := B_r.below hb
  replace hB := hB.trans (hb.mono hB.size)
  have sz := hb.size
  clear hb
  replace q_r_0 := B_r.cell 0 _ rfl
  replace q_r_1 := B_r.cell 1 _ rfl
  replace q_r_2 := B_r.cell 2 _ rfl
  replace q_r_3 := B_r.cell 3 _ rfl
  replace fr_r := B_r.fro
  replace z_r := B_r.lt
  go_wp2_with fail
  refine (ListsNew_spec _).mono ?_
  rintro e w2 ⟨Hl, rfl, o_l, l_l, hb⟩
  have u_l := o_l.lt
  replace B_r := B_r.below hb
  have o_h := o_h.step0 hb
  replace hB := hB.trans (hb.mono hB.size)
  have sz := hb.size
  clear hb
  replace q_r_0 := B_r.cell 0 _ rfl
  replace q_r_1 := B_r.cell 1 _ rfl
  replace q_r_2 := B_r.cell 2 _ rfl
  replace q_r_3 := B_r.cell 3 _ rfl
  replace fr_r := B_r.fro
  replace z_r := B_r.lt
  go_wp2_with fail
  refine bodyPost_ret (v := (⟨Hh, Hl⟩ : HMem).val newMem) (by simp [results, Try.results75, go_sem, q_r_0, q_r_1, q_r_2, q_r_3]) rfl ⟨⟨Hh, Hl⟩, rfl, ⟨o_h.chg (F := [w.heap.size]) (by repeat (first | with_reducible exact Chg.refl _ _ | with_reducible refine Chg.set_ ?_ (by simp) _ | with_reducible refine Chg.alloc_ ?_ _ | with_reducible refine Chg.drew_ ?_)) (fun g hg hm => by simp only [List.mem_cons, List.not_mem_nil, or_false] at hm; have := l_h g hg; have := u_h g hg; omega), o_l.chg (F := [w.heap.size]) (by repeat (first | with_reducible exact Chg.refl _ _ | with_reducible refine Chg.set_ ?_ (by simp) _ | with_reducible refine Chg.alloc_ ?_ _ | with_reducible refine Chg.drew_ ?_)) (fun g hg hm => by simp only [List.mem_cons, List.not_mem_nil, or_false] at hm; have := l_l g hg; have := u_l g hg; omega), fun b hb hm => by have := l_l b hm; have := u_h b hb; omega⟩, fun b hb => by rcases HMem.mem_foot.1 hb with hb | hb; (have := l_h b hb; omega); (have := l_l b hb; omega), Below.trans hB (by repeat (first | with_reducible exact Below.refl _ _ | with_reducible refine Below.setCell ?_ (by simp <;> omega) _ | with_reducible refine Below.alloc ?_ (by simp <;> omega) _ | with_reducible refine Below.drew ?_))⟩

set_option maxRecDepth 100000 in
set_option maxHeartbeats 1000000 in
theorem BaseNew_impl (w : World) : Calls Try.prog 33 #[] w fun e w' => ∃ H' : HBase, e = .returned (H'.val newBase) ∧ OwBase w' H' newBase ∧ (∀ g ∈ H'.foot, w.heap.size ≤ g) ∧ Below w.heap.size w w' := by
  have B_r : Box (w.alloc (.cells #[.slice none 0 0, .slice none 0 0, .slice none 0 0, .slice none 0 0, .int .i64 0, .slice none 0 0, .slice none 0 0, .slice none 0 0] 60)) (w.heap.size) [.slice none 0 0, .slice none 0 0, .slice none 0 0, .slice none 0 0, .int .i64 0, .slice none 0 0, .slice none 0 0, .slice none 0 0] := by
    have hbx := Box.new w #[.slice none 0 0, .slice none 0 0, .slice none 0 0, .slice none 0 0, .int .i64 0, .slice none 0 0, .slice none 0 0, .slice none 0 0] 60
    exact hbx
  have hB : Below w.heap.size w (w.alloc (.cells #[.slice none 0 0, .slice none 0 0, .slice none 0 0, .slice none 0 0, .int .i64 0, .slice none 0 0, .slice none 0 0, .slice none 0 0] 60)) := by repeat (first | exact Below.refl _ _ | refine Below.alloc ?_ (by simp <;> omega) _ | refine below_grow_of ?_ (by simp <;> omega) _ _ | refine Below.drew ?_ | refine below_drewN ?_ _)
  go_enter Try.func33, Try.ntmps33
  go_wp2_with fail
  generalize hW0 : (w.alloc (.cells #[.slice none 0 0, .slice none 0 0, .slice none 0 0, .slice none 0 0, .int .i64 0, .slice none 0 0, .slice none 0 0, .slice none 0 0] 60)) = w0 at B_r hB ⊢
  clear hW0
  have zz_r := B_r.lt
  have q_r_0 := B_r.cell 0 _ rfl
  have q_r_1 := B_r.cell 1 _ rfl
  have q_r_2 := B_r.cell 2 _ rfl
  have q_r_3 := B_r.cell 3 _ rfl
  have q_r_4 := B_r.cell 4 _ rfl
  have q_r_5 := B_r.cell 5 _ rfl
  have q_r_6 := B_r.cell 6 _ rfl
  have q_r_7 := B_r.cell 7 _ rfl
  have fr_r := B_r.fro
  have z_r := B_r.lt
  refine (MemNew_impl _).mono ?_
  rintro e w1 ⟨Hm, rfl, o_m, l_m, hb⟩
  have u_m := o_m.lt
  replace B_r := B_r.below hb
  replace hB := hB.trans (hb.mono hB.size)
  have sz := hb.size
  clear hb
  replace q_r_0 := B_r.cell 0 _ rfl
  replace q_r_1 := B_r.cell 1 _ rfl
  replace q_r_2 := B_r.cell 2 _ rfl
  replace q_r_3 := B_r.cell 3 _ rfl
  replace q_r_4 := B_r.cell 4 _ rfl
  replace q_r_5 := B_r.cell 5 _ rfl
  replace q_r_6 := B_r.cell 6 _ rfl
  replace q_r_7 := B_r.cell 7 _ rfl
  replace fr_r := B_r.fro
  replace z_r := B_r.lt
  go_wp2_with fail
  refine (ClockNew_impl _).mono ?_
  rintro e w2 ⟨Hc, rfl, o_c, l_c, hb⟩
  have u_c := o_c.lt
  replace B_r := B_r.below hb
  have o_m := o_m.step0 hb
  replace hB := hB.trans (hb.mono hB.size)
  have sz := hb.size
  clear hb
  replace q_r_0 := B_r.cell 0 _ rfl
  replace q_r_1 := B_r.cell 1 _ rfl
  replace q_r_2 := B_r.cell 2 _ rfl
  replace q_r_3 := B_r.cell 3 _ rfl
  replace q_r_4 := B_r.cell 4 _ rfl
  replace q_r_5 := B_r.cell 5 _ rfl
  replace q_r_6 := B_r.cell 6 _ rfl
  replace q_r_7 := B_r.cell 7 _ rfl
  replace fr_r := B_r.fro
  replace z_r := B_r.lt
  go_wp2_with fail
  refine (LimboNew_impl _).mono ?_
  rintro e w3 ⟨vl, tl, rfl, o_b, l_b, hb⟩
  have u_b := o_b.lt
  replace B_r := B_r.below hb
  replace o_m := o_m.step0 hb
  have o_c := o_c.step0 hb
  replace hB := hB.trans (hb.mono hB.size)
  have sz := hb.size
  clear hb
  replace q_r_0 := B_r.cell 0 _ rfl
  replace q_r_1 := B_r.cell 1 _ rfl
  replace q_r_2 := B_r.cell 2 _ rfl
  replace q_r_3 := B_r.cell 3 _ rfl
  replace q_r_4 := B_r.cell 4 _ rfl
  replace q_r_5 := B_r.cell 5 _ rfl
  replace q_r_6 := B_r.cell 6 _ rfl
  replace q_r_7 := B_r.cell 7 _ rfl
  replace fr_r := B_r.fro
  replace z_r := B_r.lt
  obtain ⟨Al, nl, cl, rfl⟩ : ∃ A n c, vl = .slice A n c := by
    obtain ⟨A, c, h, _⟩ := o_b.rd'.outer
    exact ⟨_, _, _, h⟩
  go_wp2_with fail
  refine (HazNew_impl _).mono ?_
  rintro e w4 ⟨vh, rfl, o_z, l_z, hb⟩
  have u_z := foot_lt o_z
  replace B_r := B_r.below hb
  replace o_m := o_m.step0 hb
  replace o_c := o_c.step0 hb
  have o_b := o_b.step0 hb
  replace hB := hB.trans (hb.mono hB.size)
  have sz := hb.size
  clear hb
  replace q_r_0 := B_r.cell 0 _ rfl
  replace q_r_1 := B_r.cell 1 _ rfl
  replace q_r_2 := B_r.cell 2 _ rfl
  replace q_r_3 := B_r.cell 3 _ rfl
  replace q_r_4 := B_r.cell 4 _ rfl
  replace q_r_5 := B_r.cell 5 _ rfl
  replace q_r_6 := B_r.cell 6 _ rfl
  replace q_r_7 := B_r.cell 7 _ rfl
  replace fr_r := B_r.fro
  replace z_r := B_r.lt
  obtain ⟨Az, nz, cz, rfl⟩ : ∃ A n c, vh = .slice A n c := by
    obtain ⟨A, c, h, _⟩ := o_z.rd'
    exact ⟨_, _, _, h⟩
  go_wp2_with fail
  refine bodyPost_ret (v := (⟨Hm, Hc, ⟨Al, nl, cl⟩, tl, ⟨Az, nz, cz⟩⟩ : HBase).val newBase) (by simp [results, Try.results33, go_sem, q_r_0, q_r_1, q_r_2, q_r_3, q_r_4, q_r_5, q_r_6, q_r_7]; rfl) rfl ⟨(⟨Hm, Hc, ⟨Al, nl, cl⟩, tl, ⟨Az, nz, cz⟩⟩ : HBase), rfl, ⟨o_m.chg (F := [w.heap.size]) (by repeat (first | with_reducible exact Chg.refl _ _ | with_reducible refine Chg.set_ ?_ (by simp) _ | with_reducible refine Chg.alloc_ ?_ _ | with_reducible refine Chg.drew_ ?_)) (fun g hg hm => by simp only [List.mem_cons, List.not_mem_nil, or_false] at hm; have := l_m g hg; have := u_m g hg; omega), o_c.chg (F := [w.heap.size]) (by repeat (first | with_reducible exact Chg.refl _ _ | with_reducible refine Chg.set_ ?_ (by simp) _ | with_reducible refine Chg.alloc_ ?_ _ | with_reducible refine Chg.drew_ ?_)) (fun g hg hm => by simp only [List.mem_cons, List.not_mem_nil, or_false] at hm; have := l_c g hg; have := u_c g hg; omega), o_b.chg (F := [w.heap.size]) (by repeat (first | with_reducible exact Chg.refl _ _ | with_reducible refine Chg.set_ ?_ (by simp) _ | with_reducible refine Chg.alloc_ ?_ _ | with_reducible refine Chg.drew_ ?_)) (fun g hg hm => by simp only [List.mem_cons, List.not_mem_nil, or_false] at hm; have := l_b g hg; have := u_b g hg; omega), o_z.chg (F := [w.heap.size]) (by repeat (first | with_reducible exact Chg.refl _ _ | with_reducible refine Chg.set_ ?_ (by simp) _ | with_reducible refine Chg.alloc_ ?_ _ | with_reducible refine Chg.drew_ ?_)) (fun g hg hm => by simp only [List.mem_cons, List.not_mem_nil, or_false] at hm; have := l_z g hg; have := u_z g hg; omega), fun b hb hm => by have := l_c b hm; have := u_m b hb; omega, fun b hb hm => by have := l_b b hm; have := u_m b hb; omega, fun b hb hm => by have := l_z b hm; have := u_m b hb; omega, fun b hb hm => by have := l_b b hm; have := u_c b hb; omega, fun b hb hm => by have := l_z b hm; have := u_c b hb; omega, fun b hb hm => by have := l_z b hm; have := u_b b hb; omega⟩, fun b hb => by rcases HBase.mem_foot.1 hb with hb | hb | hb | hb; (have := l_m b hb; omega); (have := l_c b hb; omega); (have := l_b b hb; omega); (have := l_z b hb; omega), Below.trans hB (by repeat (first | with_reducible exact Below.refl _ _ | with_reducible refine Below.setCell ?_ (by simp <;> omega) _ | with_reducible refine Below.alloc ?_ (by simp <;> omega) _ | with_reducible refine Below.drew ?_))⟩

set_option maxRecDepth 100000 in
set_option maxHeartbeats 1000000 in
theorem BaseNew_spec (w : World) : Calls Try.prog 32 #[] w fun e w' => ∃ H' : HBase, e = .returned (H'.val newBase) ∧ OwBase w' H' newBase ∧ (∀ g ∈ H'.foot, w.heap.size ≤ g) ∧ Below w.heap.size w w' := by
  have B_r : Box (w.alloc (.cells #[.slice none 0 0, .slice none 0 0, .slice none 0 0, .slice none 0 0, .int .i64 0, .slice none 0 0, .slice none 0 0, .slice none 0 0] 60)) (w.heap.size) [.slice none 0 0, .slice none 0 0, .slice none 0 0, .slice none 0 0, .int .i64 0, .slice none 0 0, .slice none 0 0, .slice none 0 0] := by
    have hbx := Box.new w #[.slice none 0 0, .slice none 0 0, .slice none 0 0, .slice none 0 0, .int .i64 0, .slice none 0 0, .slice none 0 0, .slice none 0 0] 60
    exact hbx
  have hB : Below w.heap.size w (w.alloc (.cells #[.slice none 0 0, .slice none 0 0, .slice none 0 0, .slice none 0 0, .int .i64 0, .slice none 0 0, .slice none 0 0, .slice none 0 0] 60)) := by repeat (first | exact Below.refl _ _ | refine Below.alloc ?_ (by simp <;> omega) _ | refine below_grow_of ?_ (by simp <;> omega) _ _ | refine Below.drew ?_ | refine below_drewN ?_ _)
  go_enter Try.func32, Try.ntmps32
  go_wp2_with fail
  generalize hW0 : (w.alloc (.cells #[.slice none 0 0, .slice none 0 0, .slice none 0 0, .slice none 0 0, .int .i64 0, .slice none 0 0, .slice none 0 0, .slice none 0 0] 60)) = w0 at B_r hB ⊢
  clear hW0
  have zz_r := B_r.lt
  have q_r_0 := B_r.cell 0 _ rfl
  have q_r_1 := B_r.cell 1 _ rfl
  have q_r_2 := B_r.cell 2 _ rfl
  have q_r_3 := B_r.cell 3 _ rfl
  have q_r_4 := B_r.cell 4 _ rfl
  have q_r_5 := B_r.cell 5 _ rfl
  have q_r_6 := B_r.cell 6 _ rfl
  have q_r_7 := B_r.cell 7 _ rfl
  have fr_r := B_r.fro
  have z_r := B_r.lt
  refine (MemNew_spec _).mono ?_
  rintro e w1 ⟨Hm, rfl, o_m, l_m, hb⟩
  have u_m := o_m.lt
  replace B_r := B_r.below hb
  replace hB := hB.trans (hb.mono hB.size)
  have sz := hb.size
  clear hb
  replace q_r_0 := B_r.cell 0 _ rfl
  replace q_r_1 := B_r.cell 1 _ rfl
  replace q_r_2 := B_r.cell 2 _ rfl
  replace q_r_3 := B_r.cell 3 _ rfl
  replace q_r_4 := B_r.cell 4 _ rfl
  replace q_r_5 := B_r.cell 5 _ rfl
  replace q_r_6 := B_r.cell 6 _ rfl
  replace q_r_7 := B_r.cell 7 _ rfl
  replace fr_r := B_r.fro
  replace z_r := B_r.lt
  go_wp2_with fail
  refine (ClockNew_spec _).mono ?_
  rintro e w2 ⟨Hc, rfl, o_c, l_c, hb⟩
  have u_c := o_c.lt
  replace B_r := B_r.below hb
  have o_m := o_m.step0 hb
  replace hB := hB.trans (hb.mono hB.size)
  have sz := hb.size
  clear hb
  replace q_r_0 := B_r.cell 0 _ rfl
  replace q_r_1 := B_r.cell 1 _ rfl
  replace q_r_2 := B_r.cell 2 _ rfl
  replace q_r_3 := B_r.cell 3 _ rfl
  replace q_r_4 := B_r.cell 4 _ rfl
  replace q_r_5 := B_r.cell 5 _ rfl
  replace q_r_6 := B_r.cell 6 _ rfl
  replace q_r_7 := B_r.cell 7 _ rfl
  replace fr_r := B_r.fro
  replace z_r := B_r.lt
  go_wp2_with fail
  refine (LimboNew_spec _).mono ?_
  rintro e w3 ⟨vl, tl, rfl, o_b, l_b, hb⟩
  have u_b := o_b.lt
  replace B_r := B_r.below hb
  replace o_m := o_m.step0 hb
  have o_c := o_c.step0 hb
  replace hB := hB.trans (hb.mono hB.size)
  have sz := hb.size
  clear hb
  replace q_r_0 := B_r.cell 0 _ rfl
  replace q_r_1 := B_r.cell 1 _ rfl
  replace q_r_2 := B_r.cell 2 _ rfl
  replace q_r_3 := B_r.cell 3 _ rfl
  replace q_r_4 := B_r.cell 4 _ rfl
  replace q_r_5 := B_r.cell 5 _ rfl
  replace q_r_6 := B_r.cell 6 _ rfl
  replace q_r_7 := B_r.cell 7 _ rfl
  replace fr_r := B_r.fro
  replace z_r := B_r.lt
  obtain ⟨Al, nl, cl, rfl⟩ : ∃ A n c, vl = .slice A n c := by
    obtain ⟨A, c, h, _⟩ := o_b.rd'.outer
    exact ⟨_, _, _, h⟩
  go_wp2_with fail
  refine (HazNew_spec _).mono ?_
  rintro e w4 ⟨vh, rfl, o_z, l_z, hb⟩
  have u_z := foot_lt o_z
  replace B_r := B_r.below hb
  replace o_m := o_m.step0 hb
  replace o_c := o_c.step0 hb
  have o_b := o_b.step0 hb
  replace hB := hB.trans (hb.mono hB.size)
  have sz := hb.size
  clear hb
  replace q_r_0 := B_r.cell 0 _ rfl
  replace q_r_1 := B_r.cell 1 _ rfl
  replace q_r_2 := B_r.cell 2 _ rfl
  replace q_r_3 := B_r.cell 3 _ rfl
  replace q_r_4 := B_r.cell 4 _ rfl
  replace q_r_5 := B_r.cell 5 _ rfl
  replace q_r_6 := B_r.cell 6 _ rfl
  replace q_r_7 := B_r.cell 7 _ rfl
  replace fr_r := B_r.fro
  replace z_r := B_r.lt
  obtain ⟨Az, nz, cz, rfl⟩ : ∃ A n c, vh = .slice A n c := by
    obtain ⟨A, c, h, _⟩ := o_z.rd'
    exact ⟨_, _, _, h⟩
  go_wp2_with fail
  refine bodyPost_ret (v := (⟨Hm, Hc, ⟨Al, nl, cl⟩, tl, ⟨Az, nz, cz⟩⟩ : HBase).val newBase) (by simp [results, Try.results32, go_sem, q_r_0, q_r_1, q_r_2, q_r_3, q_r_4, q_r_5, q_r_6, q_r_7]; rfl) rfl ⟨(⟨Hm, Hc, ⟨Al, nl, cl⟩, tl, ⟨Az, nz, cz⟩⟩ : HBase), rfl, ⟨o_m.chg (F := [w.heap.size]) (by repeat (first | with_reducible exact Chg.refl _ _ | with_reducible refine Chg.set_ ?_ (by simp) _ | with_reducible refine Chg.alloc_ ?_ _ | with_reducible refine Chg.drew_ ?_)) (fun g hg hm => by simp only [List.mem_cons, List.not_mem_nil, or_false] at hm; have := l_m g hg; have := u_m g hg; omega), o_c.chg (F := [w.heap.size]) (by repeat (first | with_reducible exact Chg.refl _ _ | with_reducible refine Chg.set_ ?_ (by simp) _ | with_reducible refine Chg.alloc_ ?_ _ | with_reducible refine Chg.drew_ ?_)) (fun g hg hm => by simp only [List.mem_cons, List.not_mem_nil, or_false] at hm; have := l_c g hg; have := u_c g hg; omega), o_b.chg (F := [w.heap.size]) (by repeat (first | with_reducible exact Chg.refl _ _ | with_reducible refine Chg.set_ ?_ (by simp) _ | with_reducible refine Chg.alloc_ ?_ _ | with_reducible refine Chg.drew_ ?_)) (fun g hg hm => by simp only [List.mem_cons, List.not_mem_nil, or_false] at hm; have := l_b g hg; have := u_b g hg; omega), o_z.chg (F := [w.heap.size]) (by repeat (first | with_reducible exact Chg.refl _ _ | with_reducible refine Chg.set_ ?_ (by simp) _ | with_reducible refine Chg.alloc_ ?_ _ | with_reducible refine Chg.drew_ ?_)) (fun g hg hm => by simp only [List.mem_cons, List.not_mem_nil, or_false] at hm; have := l_z g hg; have := u_z g hg; omega), fun b hb hm => by have := l_c b hm; have := u_m b hb; omega, fun b hb hm => by have := l_b b hm; have := u_m b hb; omega, fun b hb hm => by have := l_z b hm; have := u_m b hb; omega, fun b hb hm => by have := l_b b hm; have := u_c b hb; omega, fun b hb hm => by have := l_z b hm; have := u_c b hb; omega, fun b hb hm => by have := l_z b hm; have := u_b b hb; omega⟩, fun b hb => by rcases HBase.mem_foot.1 hb with hb | hb | hb | hb; (have := l_m b hb; omega); (have := l_c b hb; omega); (have := l_b b hb; omega); (have := l_z b hb; omega), Below.trans hB (by repeat (first | with_reducible exact Below.refl _ _ | with_reducible refine Below.setCell ?_ (by simp <;> omega) _ | with_reducible refine Below.alloc ?_ (by simp <;> omega) _ | with_reducible refine Below.drew ?_))⟩
end Go.Proofs.Ytodbkbolpcbooaa
