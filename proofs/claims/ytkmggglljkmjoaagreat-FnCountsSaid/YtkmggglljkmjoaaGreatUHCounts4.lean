/-
  Several texts in one: lemmas and contracts that the claim rests on.
-/
import Derived.Test.YtkmggglljkmjoaaGreatUHCounts1
import Derived.Deep.QuietTactic
import Derived.BigQuiet
import Derived.Deep.LoopGhost
import Derived.Deep.RegionHeld3
import Derived.WalkSpells
import Derived.Laws.Cover3
import Derived.Test.YtkmggglljkmjoaaGreatUHCounts3
import Derived.Test.YtkmggglljkmjoaaGreatUHCounts2
import Derived.Laws.CopyOwn
import Derived.Deep.RegionLaw
import Derived.IntWalk
import Derived.Deep.CutRange
/-
  SetGen: the reference.
-/
namespace Go.Proofs.YtkmggglljkmjoaaGreat
open Go.RowKit

set_option maxRecDepth 100000 in
set_option maxHeartbeats 4000000 in
theorem SetGen_spec (w : World) (H : HHeap) (x : Heap) (s g : Int) (h : RdHeap w w.heap.size H x) (hs : sizeHeap x ≤ 536870912) (g1 : 1 ≤ g) (g7 : g ≤ 7) :
    Calls Tryz.prog 224 #[.agg #[.slice H.Bytes.a H.Bytes.len H.Bytes.cap, .slice H.Class.a H.Class.len H.Class.cap], .int .i64 s, .int .i64 g] w fun e w' => ∃ (H' : HHeap) (y : Heap) (b : Bool), e = .returned (.tuple #[.agg #[.slice H'.Bytes.a H'.Bytes.len H'.Bytes.cap, .slice H'.Class.a H'.Class.len H'.Class.cap], .bool b]) ∧ OwHeap w' H' y ∧ (y.Bytes.length = x.Bytes.length ∧ y.Class.length = x.Class.length) ∧ (∀ g ∈ H'.foot, w.heap.size ≤ g) ∧ Below w.heap.size w w' := by
  have hcp := fun (W : World) (hW : Below w.heap.size w W) => l7Copy_spec W H x (rdHeap_up h hW) (by omega)
  have hq := fun (W : World) (hW : Below w.heap.size w W) => ClassAt_spec W H x s (rdHeap_up h hW)
  have hiw : inB 1 7 g = true := inB_iff.2 ⟨g1, g7⟩
  by_cases c : classAtB x s < 0
  case pos =>
    generalize classAtB x s = v at hq c
    have B_a : Box ((w.alloc (.cells #[.slice H.Bytes.a H.Bytes.len H.Bytes.cap, .slice H.Class.a H.Class.len H.Class.cap] 26)).alloc (.cells #[.slice none 0 0, .slice none 0 0] 26)) (w.heap.size) [.slice H.Bytes.a H.Bytes.len H.Bytes.cap, .slice H.Class.a H.Class.len H.Class.cap] := by
      have hbx := Box.new w #[.slice H.Bytes.a H.Bytes.len H.Bytes.cap, .slice H.Class.a H.Class.len H.Class.cap] 26
      exact (hbx).alloc _
    have B_r : Box ((w.alloc (.cells #[.slice H.Bytes.a H.Bytes.len H.Bytes.cap, .slice H.Class.a H.Class.len H.Class.cap] 26)).alloc (.cells #[.slice none 0 0, .slice none 0 0] 26)) (w.heap.size + 1) [.slice none 0 0, .slice none 0 0] := by
      have hbx := Box.new (w.alloc (.cells #[.slice H.Bytes.a H.Bytes.len H.Bytes.cap, .slice H.Class.a H.Class.len H.Class.cap] 26)) #[.slice none 0 0, .slice none 0 0] 26
      simp only [World.size_alloc] at hbx
      exact hbx
    have hB : Below w.heap.size w ((w.alloc (.cells #[.slice H.Bytes.a H.Bytes.len H.Bytes.cap, .slice H.Class.a H.Class.len H.Class.cap] 26)).alloc (.cells #[.slice none 0 0, .slice none 0 0] 26)) := by repeat (first | exact Below.refl _ _ | refine Below.alloc ?_ (by simp <;> omega) _ | refine below_grow_of ?_ (by simp <;> omega) _ _ | refine Below.drew ?_ | refine below_drewN ?_ _)
    go_enter Tryz.func224, Tryz.ntmps224
    go_wp2_with fail
    generalize hW0 : ((w.alloc (.cells #[.slice H.Bytes.a H.Bytes.len H.Bytes.cap, .slice H.Class.a H.Class.len H.Class.cap] 26)).alloc (.cells #[.slice none 0 0, .slice none 0 0] 26)) = w0 at B_a B_r hB ⊢
    clear hW0
    have zz_a := B_a.lt
    have zz_r := B_r.lt
    have q_a_0 := B_a.cell 0 _ rfl
    have q_a_1 := B_a.cell 1 _ rfl
    have fr_a := B_a.fro
    have z_a := B_a.lt
    have q_r_0 := B_r.cell 0 _ rfl
    have q_r_1 := B_r.cell 1 _ rfl
    have fr_r := B_r.fro
    have z_r := B_r.lt
    refine (hcp _ hB).mono ?_
    rintro e w1 ⟨K_c, rfl, o_c, l_c, hb⟩
    have u_c := o_c.lt
    replace B_a := B_a.below hb
    replace B_r := B_r.below hb
    replace hB := hB.trans (hb.mono hB.size)
    have sz := hb.size
    clear hb
    replace q_a_0 := B_a.cell 0 _ rfl
    replace q_a_1 := B_a.cell 1 _ rfl
    replace fr_a := B_a.fro
    replace z_a := B_a.lt
    replace q_r_0 := B_r.cell 0 _ rfl
    replace q_r_1 := B_r.cell 1 _ rfl
    replace fr_r := B_r.fro
    replace z_r := B_r.lt
    clear hcp
    go_wp2_with fail
    replace B_a := B_a.alloc (.cells #[.slice K_c.Bytes.a K_c.Bytes.len K_c.Bytes.cap, .slice K_c.Class.a K_c.Class.len K_c.Class.cap] 26)
    replace B_r := B_r.alloc (.cells #[.slice K_c.Bytes.a K_c.Bytes.len K_c.Bytes.cap, .slice K_c.Class.a K_c.Class.len K_c.Class.cap] 26)
    replace o_c := o_c.alloc_ (.cells #[.slice K_c.Bytes.a K_c.Bytes.len K_c.Bytes.cap, .slice K_c.Class.a K_c.Class.len K_c.Class.cap] 26)
    replace hB := hB.alloc hB.size (.cells #[.slice K_c.Bytes.a K_c.Bytes.len K_c.Bytes.cap, .slice K_c.Class.a K_c.Class.len K_c.Class.cap] 26)
    have B_o : Box (w1.alloc (.cells #[.slice K_c.Bytes.a K_c.Bytes.len K_c.Bytes.cap, .slice K_c.Class.a K_c.Class.len K_c.Class.cap] 26)) w1.heap.size [.slice K_c.Bytes.a K_c.Bytes.len K_c.Bytes.cap, .slice K_c.Class.a K_c.Class.len K_c.Class.cap] := Box.new w1 #[.slice K_c.Bytes.a K_c.Bytes.len K_c.Bytes.cap, .slice K_c.Class.a K_c.Class.len K_c.Class.cap] 26
    have zz_o := B_o.lt
    have sz : w1.heap.size ≤ (w1.alloc (.cells #[.slice K_c.Bytes.a K_c.Bytes.len K_c.Bytes.cap, .slice K_c.Class.a K_c.Class.len K_c.Class.cap] 26)).heap.size := Nat.le_of_lt B_o.lt
    generalize hG : (w1.alloc (.cells #[.slice K_c.Bytes.a K_c.Bytes.len K_c.Bytes.cap, .slice K_c.Class.a K_c.Class.len K_c.Class.cap] 26)) = w2 at B_a B_r o_c hB B_o zz_o sz ⊢
    clear hG
    replace q_a_0 := B_a.cell 0 _ rfl
    replace q_a_1 := B_a.cell 1 _ rfl
    replace fr_a := B_a.fro
    replace z_a := B_a.lt
    replace q_r_0 := B_r.cell 0 _ rfl
    replace q_r_1 := B_r.cell 1 _ rfl
    replace fr_r := B_r.fro
    replace z_r := B_r.lt
    have q_o_0 := B_o.cell 0 _ rfl
    have q_o_1 := B_o.cell 1 _ rfl
    have fr_o := B_o.fro
    have z_o := B_o.lt
    refine (hq _ hB).mono ?_
    rintro e w3 ⟨rfl, hb⟩
    replace B_a := B_a.below hb
    replace B_r := B_r.below hb
    replace B_o := B_o.below hb
    have o_c := o_c.step0 hb
    replace hB := hB.trans (hb.mono hB.size)
    have sz := hb.size
    clear hb
    replace q_a_0 := B_a.cell 0 _ rfl
    replace q_a_1 := B_a.cell 1 _ rfl
    replace fr_a := B_a.fro
    replace z_a := B_a.lt
    replace q_r_0 := B_r.cell 0 _ rfl
    replace q_r_1 := B_r.cell 1 _ rfl
    replace fr_r := B_r.fro
    replace z_r := B_r.lt
    replace q_o_0 := B_o.cell 0 _ rfl
    replace q_o_1 := B_o.cell 1 _ rfl
    replace fr_o := B_o.fro
    replace z_o := B_o.lt
    clear hq
    go_wp2_with fail
    refine bodyPost_ret (v := .tuple #[.agg #[.slice K_c.Bytes.a K_c.Bytes.len K_c.Bytes.cap, .slice K_c.Class.a K_c.Class.len K_c.Class.cap], .bool false]) (by simp [results, Tryz.results224, go_sem, q_r_0, q_r_1]) rfl ⟨K_c, x, false, rfl, o_c.chg (F := [w.heap.size + 1]) (by repeat (first | with_reducible exact Chg.refl _ _ | with_reducible refine Chg.set_ ?_ (by simp) _ | with_reducible refine Chg.alloc_ ?_ _ | with_reducible refine Chg.drew_ ?_)) (fun g hg hm => by simp only [List.mem_cons, List.not_mem_nil, or_false] at hm; have := l_c g hg; have := u_c g hg; omega), ⟨rfl, rfl⟩, fun g hg => by have := l_c g hg; omega, Below.trans hB (by repeat (first | with_reducible exact Below.refl _ _ | with_reducible refine Below.setCell ?_ (by simp <;> omega) _ | with_reducible refine Below.alloc ?_ (by simp <;> omega) _ | with_reducible refine Below.drew ?_))⟩
  obtain ⟨c1, c2, c3⟩ := classAt_pos c
  have hgd := genIn_bd (shape_of c1) c2
  obtain ⟨P, hP⟩ : ∃ P : Nat, genAt s (classInB x s) = (P : Int) := ⟨(genAt s (classInB x s)).toNat, by omega⟩
  have hga := fun W => GenAt_spec s (classInB x s) W
  rw [hP] at hga hgd
  have hcl := fun (W : World) (hW : Below w.heap.size w W) => l7Class_spec W H x s (rdHeap_up h hW) c1
  have HBL := Hid.mk_ (show P + 4 ≤ x.Bytes.length by omega)
  have hst : ∀ (W : World) (K : SV), OwL FI 3 W K.val x.Bytes → Calls Tryz.prog 86 #[.slice K.a K.len K.cap, .int .i64 (P : Int), .int .i64 4, .int .i64 g] W fun e w' => e = .returned (.slice K.a K.len K.cap) ∧ OwL FI 3 w' K.val (putAt x.Bytes P (digs 4 g)) ∧ Chg (foot1 K.val) W w' := fun W K o => l3Store_spec W _ x.Bytes P 4 g o (by decide) (by decide) (by omega) (by omega) HBL.out
  rw [c3] at hq c
  clear hP c1 c2 c3 hgd
  generalize classInB x s = v at hq hga hcl c
  have B_a : Box ((w.alloc (.cells #[.slice H.Bytes.a H.Bytes.len H.Bytes.cap, .slice H.Class.a H.Class.len H.Class.cap] 26)).alloc (.cells #[.slice none 0 0, .slice none 0 0] 26)) (w.heap.size) [.slice H.Bytes.a H.Bytes.len H.Bytes.cap, .slice H.Class.a H.Class.len H.Class.cap] := by
    have hbx := Box.new w #[.slice H.Bytes.a H.Bytes.len H.Bytes.cap, .slice H.Class.a H.Class.len H.Class.cap] 26
    exact (hbx).alloc _
  have B_r : Box ((w.alloc (.cells #[.slice H.Bytes.a H.Bytes.len H.Bytes.cap, .slice H.Class.a H.Class.len H.Class.cap] 26)).alloc (.cells #[.slice none 0 0, .slice none 0 0] 26)) (w.heap.size + 1) [.slice none 0 0, .slice none 0 0] := by
    have hbx := Box.new (w.alloc (.cells #[.slice H.Bytes.a H.Bytes.len H.Bytes.cap, .slice H.Class.a H.Class.len H.Class.cap] 26)) #[.slice none 0 0, .slice none 0 0] 26
    simp only [World.size_alloc] at hbx
    exact hbx
  have hB : Below w.heap.size w ((w.alloc (.cells #[.slice H.Bytes.a H.Bytes.len H.Bytes.cap, .slice H.Class.a H.Class.len H.Class.cap] 26)).alloc (.cells #[.slice none 0 0, .slice none 0 0] 26)) := by repeat (first | exact Below.refl _ _ | refine Below.alloc ?_ (by simp <;> omega) _ | refine below_grow_of ?_ (by simp <;> omega) _ _ | refine Below.drew ?_ | refine below_drewN ?_ _)
  go_enter Tryz.func224, Tryz.ntmps224
  go_wp2_with fail
  generalize hW0 : ((w.alloc (.cells #[.slice H.Bytes.a H.Bytes.len H.Bytes.cap, .slice H.Class.a H.Class.len H.Class.cap] 26)).alloc (.cells #[.slice none 0 0, .slice none 0 0] 26)) = w0 at B_a B_r hB ⊢
  clear hW0
  have zz_a := B_a.lt
  have zz_r := B_r.lt
  have q_a_0 := B_a.cell 0 _ rfl
  have q_a_1 := B_a.cell 1 _ rfl
  have fr_a := B_a.fro
  have z_a := B_a.lt
  have q_r_0 := B_r.cell 0 _ rfl
  have q_r_1 := B_r.cell 1 _ rfl
  have fr_r := B_r.fro
  have z_r := B_r.lt
  refine (hcp _ hB).mono ?_
  rintro e w1 ⟨K_c, rfl, o_c, l_c, hb⟩
  have u_c := o_c.lt
  replace B_a := B_a.below hb
  replace B_r := B_r.below hb
  replace hB := hB.trans (hb.mono hB.size)
  have sz := hb.size
  clear hb
  replace q_a_0 := B_a.cell 0 _ rfl
  replace q_a_1 := B_a.cell 1 _ rfl
  replace fr_a := B_a.fro
  replace z_a := B_a.lt
  replace q_r_0 := B_r.cell 0 _ rfl
  replace q_r_1 := B_r.cell 1 _ rfl
  replace fr_r := B_r.fro
  replace z_r := B_r.lt
  clear hcp
  go_wp2_with fail
  replace B_a := B_a.alloc (.cells #[.slice K_c.Bytes.a K_c.Bytes.len K_c.Bytes.cap, .slice K_c.Class.a K_c.Class.len K_c.Class.cap] 26)
  replace B_r := B_r.alloc (.cells #[.slice K_c.Bytes.a K_c.Bytes.len K_c.Bytes.cap, .slice K_c.Class.a K_c.Class.len K_c.Class.cap] 26)
  replace o_c := o_c.alloc_ (.cells #[.slice K_c.Bytes.a K_c.Bytes.len K_c.Bytes.cap, .slice K_c.Class.a K_c.Class.len K_c.Class.cap] 26)
  replace hB := hB.alloc hB.size (.cells #[.slice K_c.Bytes.a K_c.Bytes.len K_c.Bytes.cap, .slice K_c.Class.a K_c.Class.len K_c.Class.cap] 26)
  have B_o : Box (w1.alloc (.cells #[.slice K_c.Bytes.a K_c.Bytes.len K_c.Bytes.cap, .slice K_c.Class.a K_c.Class.len K_c.Class.cap] 26)) w1.heap.size [.slice K_c.Bytes.a K_c.Bytes.len K_c.Bytes.cap, .slice K_c.Class.a K_c.Class.len K_c.Class.cap] := Box.new w1 #[.slice K_c.Bytes.a K_c.Bytes.len K_c.Bytes.cap, .slice K_c.Class.a K_c.Class.len K_c.Class.cap] 26
  have zz_o := B_o.lt
  have sz : w1.heap.size ≤ (w1.alloc (.cells #[.slice K_c.Bytes.a K_c.Bytes.len K_c.Bytes.cap, .slice K_c.Class.a K_c.Class.len K_c.Class.cap] 26)).heap.size := Nat.le_of_lt B_o.lt
  generalize hG : (w1.alloc (.cells #[.slice K_c.Bytes.a K_c.Bytes.len K_c.Bytes.cap, .slice K_c.Class.a K_c.Class.len K_c.Class.cap] 26)) = w2 at B_a B_r o_c hB B_o zz_o sz ⊢
  clear hG
  replace q_a_0 := B_a.cell 0 _ rfl
  replace q_a_1 := B_a.cell 1 _ rfl
  replace fr_a := B_a.fro
  replace z_a := B_a.lt
  replace q_r_0 := B_r.cell 0 _ rfl
  replace q_r_1 := B_r.cell 1 _ rfl
  replace fr_r := B_r.fro
  replace z_r := B_r.lt
  have q_o_0 := B_o.cell 0 _ rfl
  have q_o_1 := B_o.cell 1 _ rfl
  have fr_o := B_o.fro
  have z_o := B_o.lt
  refine (hq _ hB).mono ?_
  rintro e w3 ⟨rfl, hb⟩
  replace B_a := B_a.below hb
  replace B_r := B_r.below hb
  replace B_o := B_o.below hb
  have o_c := o_c.step0 hb
  replace hB := hB.trans (hb.mono hB.size)
  have sz := hb.size
  clear hb
  replace q_a_0 := B_a.cell 0 _ rfl
  replace q_a_1 := B_a.cell 1 _ rfl
  replace fr_a := B_a.fro
  replace z_a := B_a.lt
  replace q_r_0 := B_r.cell 0 _ rfl
  replace q_r_1 := B_r.cell 1 _ rfl
  replace fr_r := B_r.fro
  replace z_r := B_r.lt
  replace q_o_0 := B_o.cell 0 _ rfl
  replace q_o_1 := B_o.cell 1 _ rfl
  replace fr_o := B_o.fro
  replace z_o := B_o.lt
  clear hq
  go_wp2_with (go_at_call 102; refine (l1In_ct _ _ _ _).mono ?_; rw [hiw]; rintro e wv ⟨rfl, rfl⟩)
  go_region_with (first | (go_at_call 77; (first | ((with_reducible refine (hcl _ hB).mono ?_); rintro e wq ⟨rfl, hb⟩; replace B_a := B_a.below hb; replace B_r := B_r.below hb; replace B_o := B_o.below hb; replace o_c := o_c.step0 hb; replace hB := hB.trans (hb.mono hB.size); have sz := hb.size; clear hb; replace q_a_0 := B_a.cell 0 _ rfl; replace q_a_1 := B_a.cell 1 _ rfl; replace fr_a := B_a.fro; replace z_a := B_a.lt; replace q_r_0 := B_r.cell 0 _ rfl; replace q_r_1 := B_r.cell 1 _ rfl; replace fr_r := B_r.fro; replace z_r := B_r.lt; replace q_o_0 := B_o.cell 0 _ rfl; replace q_o_1 := B_o.cell 1 _ rfl; replace fr_o := B_o.fro; replace z_o := B_o.lt) | ((with_reducible refine (hcl _ hB.drew).mono ?_); rintro e wq ⟨rfl, hb⟩; replace hb := undrew hb; replace B_a := B_a.below hb; replace B_r := B_r.below hb; replace B_o := B_o.below hb; replace o_c := o_c.step0 hb; replace hB := hB.trans (hb.mono hB.size); have sz := hb.size; clear hb; replace q_a_0 := B_a.cell 0 _ rfl; replace q_a_1 := B_a.cell 1 _ rfl; replace fr_a := B_a.fro; replace z_a := B_a.lt; replace q_r_0 := B_r.cell 0 _ rfl; replace q_r_1 := B_r.cell 1 _ rfl; replace fr_r := B_r.fro; replace z_r := B_r.lt; replace q_o_0 := B_o.cell 0 _ rfl; replace q_o_1 := B_o.cell 1 _ rfl; replace fr_o := B_o.fro; replace z_o := B_o.lt))) | (go_at_call 158; (first | ((with_reducible refine (hga _).mono ?_); rintro e wq ⟨rfl, rfl⟩) | ((with_reducible refine (hga _).mono ?_); rintro e wq ⟨rfl, rfl⟩))) | (go_at_call 86; ((with_reducible refine (hst _ K_c.Bytes o_c.Bytes).mono ?_); rintro e wq ⟨rfl, hbN, hx⟩; replace hB := hB.trans (hx.below hB.size (fun g hm => by have := l_c g (HHeap.bytes_foot hm); omega)); have sz := hx.size; replace B_a := B_a.chg hx (fun hm => by have := l_c _ (HHeap.bytes_foot hm); have := u_c _ (HHeap.bytes_foot hm); omega); replace B_r := B_r.chg hx (fun hm => by have := l_c _ (HHeap.bytes_foot hm); have := u_c _ (HHeap.bytes_foot hm); omega); replace B_o := B_o.chg hx (fun hm => by have := l_c _ (HHeap.bytes_foot hm); have := u_c _ (HHeap.bytes_foot hm); omega); replace o_c := (show OwHeap _ K_c { x with Bytes := putAt x.Bytes P (digs 4 g) } from o_c.setBytes hbN hx); clear hx; replace q_a_0 := B_a.cell 0 _ rfl; replace q_a_1 := B_a.cell 1 _ rfl; replace fr_a := B_a.fro; replace z_a := B_a.lt; replace q_r_0 := B_r.cell 0 _ rfl; replace q_r_1 := B_r.cell 1 _ rfl; replace fr_r := B_r.fro; replace z_r := B_r.lt; replace q_o_0 := B_o.cell 0 _ rfl; replace q_o_1 := B_o.cell 1 _ rfl; replace fr_o := B_o.fro; replace z_o := B_o.lt)))
  all_goals
    go_wp2_with fail
    refine bodyPost_ret (v := .tuple #[.agg #[.slice K_c.Bytes.a K_c.Bytes.len K_c.Bytes.cap, .slice K_c.Class.a K_c.Class.len K_c.Class.cap], .bool true]) (by simp [results, Tryz.results224, go_sem, q_r_0, q_r_1]) rfl ⟨K_c, { x with Bytes := putAt x.Bytes P (digs 4 g) }, true, rfl, o_c.chg (F := [w.heap.size + 1, w1.heap.size]) (by repeat (first | with_reducible exact Chg.refl _ _ | with_reducible refine Chg.set_ ?_ (by simp) _ | with_reducible refine Chg.alloc_ ?_ _ | with_reducible refine Chg.drew_ ?_)) (fun g hg hm => by simp only [List.mem_cons, List.not_mem_nil, or_false] at hm; have := l_c g hg; have := u_c g hg; omega), ⟨putAt_len (by rw [digs_len]; exact HBL.out), rfl⟩, fun g hg => by have := l_c g hg; omega, Below.trans hB (by repeat (first | with_reducible exact Below.refl _ _ | with_reducible refine Below.setCell ?_ (by simp <;> omega) _ | with_reducible refine Below.alloc ?_ (by simp <;> omega) _ | with_reducible refine Below.drew ?_))⟩
end Go.Proofs.YtkmggglljkmjoaaGreat

/-
  A copy into a row of ints that the call owns; pages granted: plain facts.
-/
namespace Go.Proofs.YtkmggglljkmjoaaGreat
open Go.RowKit
def grTo (b : List Int) (p : Nat) (c : Int) : Nat → List Int
  | 0 => putAt b (p * 64) [171, c, perPage c]
  | i + 1 => putAt (grTo b p c i) (p * 64 + 8 + i * (strideOf c).toNat) (digs 4 1)
def grantH (h : Heap) (p : Nat) (c : Int) : Heap := ⟨grTo h.Bytes p c (perPage c).toNat, h.Class.set p c⟩
def slotsTo (p k : Nat) : List Int := (List.range k).map fun i => ((p * 4 + i : Nat) : Int)
theorem slotsTo_succ (p k : Nat) : slotsTo p (k + 1) = slotsTo p k ++ [((p * 4 + k : Nat) : Int)] := by simp [slotsTo, List.range_succ]
theorem slotsTo_len (p k : Nat) : (slotsTo p k).length = k := by simp [slotsTo]
theorem grTo_len {b : List Int} {p : Nat} {c : Int} (hb : b.length = 384) (hp : p < 6) (hc : inB 0 2 c = true) : ∀ i, i ≤ (perPage c).toNat → (grTo b p c i).length = 384
  | 0, _ => by
    unfold grTo
    rw [putAt_len (by simp; omega), hb]
  | i + 1, hi => by
    have hr := gens_room hc (i := i) (by omega)
    have ih := grTo_len hb hp hc i (by omega)
    unfold grTo
    rw [putAt_len (by rw [digs_len, ih]; omega), ih]
end Go.Proofs.YtkmggglljkmjoaaGreat

/-
  A page granted: the contract.
-/
namespace Go.Proofs.YtkmggglljkmjoaaGreat
open Go.RowKit

theorem foot1_some {g n c b : Nat} : b ∈ foot1 (.slice (some ⟨g, 0, none⟩) n c) ↔ b = g := by simp [foot1, Value.ownBlock, eq_comm]
theorem idx_lt {l : List Int} {x : Int} {p : Nat} (h : idxOf (fun y => y == x) l = (p : Int)) : p < l.length := by
  unfold idxOf at h
  cases hx : l.findIdx? (fun y => y == x) with
  | none => rw [hx] at h; simp at h
  | some i =>
    rw [hx] at h
    simp at h
    obtain rfl : i = p := by omega
    exact (List.findIdx?_eq_some_iff_getElem.1 hx).1
theorem perPage_nat {c : Nat} (_hc : c < 3) : ∃ n : Nat, perPage (c : Int) = (n : Int) ∧ n ≤ 4 ∧ (perPage (c : Int)).toNat = n := by
  have := perPage_bd (c : Int)
  exact ⟨(perPage (c : Int)).toNat, by omega, by omega, rfl⟩

end Go.Proofs.YtkmggglljkmjoaaGreat

/-
  A page that is not there; handles made; classes of sizes.
-/
namespace Go.Proofs.YtkmggglljkmjoaaGreat
open Go.RowKit

set_option maxHeartbeats 400000 in
theorem HandleOf_spec (s g : Int) (w : World) (h1 : inB 0 23 s = true) (h2 : inB 1 6 g = true) : Calls Tryz.prog 41 #[.int .i64 s, .int .i64 g] w fun e w' => e = .returned (.int .i64 (g * 32 + s)) ∧ w = w' := by
  obtain ⟨a1, a2⟩ := inB_iff.1 h1
  obtain ⟨b1, b2⟩ := inB_iff.1 h2
  go_enter Tryz.func41, Tryz.ntmps41
  go_wp2_with (first | (go_at_call 102; refine (l1In_ct _ _ _ _).mono ?_; (first | rw [h1] | rw [h2]); rintro e w1 ⟨rfl, rfl⟩) | (go_at_call 120; refine (isSlot_ct _ _).mono ?_; rw [h1]; rintro e w1 ⟨rfl, rfl⟩))
  go_ret
  exact ⟨rfl, rfl⟩

theorem classOfS_cases (n : Int) : (classOfS n = -1 ∧ (n < 1 ∨ 40 < n)) ∨ (classOfS n = 0 ∧ 1 ≤ n ∧ n ≤ 8) ∨ (classOfS n = 1 ∧ 8 < n ∧ n ≤ 16) ∨ (classOfS n = 2 ∧ 16 < n ∧ n ≤ 40) := by
  unfold classOfS
  repeat' split
  all_goals omega
set_option maxHeartbeats 4000000 in
theorem ClassOf_spec (n : Int) (w : World) : Calls Tryz.prog 101 #[.int .i64 n] w fun e w' => e = .returned (.int .i64 (classOfS n)) ∧ w = w' := by
  have hz := fun (c : Int) W => SizeOf_spec c W
  have h0 : ∀ W, Calls Tryz.prog 28 #[.int .i64 0] W fun e w' => e = .returned (.int .i64 8) ∧ W = w' := fun W => hz 0 W
  have h1 : ∀ W, Calls Tryz.prog 28 #[.int .i64 1] W fun e w' => e = .returned (.int .i64 16) ∧ W = w' := fun W => hz 1 W
  have h2 : ∀ W, Calls Tryz.prog 28 #[.int .i64 2] W fun e w' => e = .returned (.int .i64 40) ∧ W = w' := fun W => hz 2 W
  have HC := Hid.mk_ (classOfS_cases n)
  clear hz
  go_enter Tryz.func101, Tryz.ntmps101
  go_wp2_with fail
  go_loop [3] (fun i => (i = .int .i64 0 ∧ Hid (1 ≤ n → 0 < n)) ∨ (i = .int .i64 1 ∧ Hid (1 ≤ n → 8 < n)) ∨ (i = .int .i64 2 ∧ Hid (1 ≤ n → 16 < n)) ∨ (i = .int .i64 3 ∧ Hid (1 ≤ n → 40 < n))) (fun i => 3 - (intOf i).toNat)
  case atStart => exact Or.inl ⟨rfl, Hid.mk_ (fun h => by omega)⟩
  case round =>
    rcases hrel with ⟨rfl, HN⟩ | ⟨rfl, HN⟩ | ⟨rfl, HN⟩ | ⟨rfl, HN⟩
    · by_cases c1 : inB 1 8 n = true
      · go_wp2_with (first | (go_at_call 28; refine (h0 _).mono ?_; rintro e w1 ⟨rfl, rfl⟩) | (go_at_call 102; refine (l1In_ct _ _ _ _).mono ?_; rw [c1]; rintro e w1 ⟨rfl, rfl⟩))
        have hE : classOfS n = 0 := by have := HN.out; have := inB_iff.1 c1; rcases HC.out with h | h | h | h <;> omega
        go_ret
        exact ⟨by rw [hE]; rfl, rfl⟩
      · have hD : 1 ≤ n → 8 < n := by
          intro h
          by_cases c2 : n ≤ 8
          · exact absurd (inB_iff.2 ⟨h, c2⟩) c1
          · omega
        replace c1 := (Bool.not_eq_true _).mp c1
        replace hD := Hid.mk_ hD
        go_wp2_with (first | (go_at_call 28; refine (h0 _).mono ?_; rintro e w1 ⟨rfl, rfl⟩) | (go_at_call 102; refine (l1In_ct _ _ _ _).mono ?_; rw [c1]; rintro e w1 ⟨rfl, rfl⟩))
        go_round
        · exact Or.inr (Or.inl ⟨rfl, hD⟩)
        · simp [intOf]
    · by_cases c1 : inB 1 16 n = true
      · go_wp2_with (first | (go_at_call 28; refine (h1 _).mono ?_; rintro e w1 ⟨rfl, rfl⟩) | (go_at_call 102; refine (l1In_ct _ _ _ _).mono ?_; rw [c1]; rintro e w1 ⟨rfl, rfl⟩))
        have hE : classOfS n = 1 := by have := HN.out; have := inB_iff.1 c1; rcases HC.out with h | h | h | h <;> omega
        go_ret
        exact ⟨by rw [hE]; rfl, rfl⟩
      · have hD : 1 ≤ n → 16 < n := by
          intro h
          by_cases c2 : n ≤ 16
          · exact absurd (inB_iff.2 ⟨h, c2⟩) c1
          · omega
        replace c1 := (Bool.not_eq_true _).mp c1
        replace hD := Hid.mk_ hD
        go_wp2_with (first | (go_at_call 28; refine (h1 _).mono ?_; rintro e w1 ⟨rfl, rfl⟩) | (go_at_call 102; refine (l1In_ct _ _ _ _).mono ?_; rw [c1]; rintro e w1 ⟨rfl, rfl⟩))
        go_round
        · exact Or.inr (Or.inr (Or.inl ⟨rfl, hD⟩))
        · simp [intOf]
    · by_cases c1 : inB 1 40 n = true
      · go_wp2_with (first | (go_at_call 28; refine (h2 _).mono ?_; rintro e w1 ⟨rfl, rfl⟩) | (go_at_call 102; refine (l1In_ct _ _ _ _).mono ?_; rw [c1]; rintro e w1 ⟨rfl, rfl⟩))
        have hE : classOfS n = 2 := by have := HN.out; have := inB_iff.1 c1; rcases HC.out with h | h | h | h <;> omega
        go_ret
        exact ⟨by rw [hE]; rfl, rfl⟩
      · have hD : 1 ≤ n → 40 < n := by
          intro h
          by_cases c2 : n ≤ 40
          · exact absurd (inB_iff.2 ⟨h, c2⟩) c1
          · omega
        replace c1 := (Bool.not_eq_true _).mp c1
        replace hD := Hid.mk_ hD
        go_wp2_with (first | (go_at_call 28; refine (h2 _).mono ?_; rintro e w1 ⟨rfl, rfl⟩) | (go_at_call 102; refine (l1In_ct _ _ _ _).mono ?_; rw [c1]; rintro e w1 ⟨rfl, rfl⟩))
        go_round
        · exact Or.inr (Or.inr (Or.inr ⟨rfl, hD⟩))
        · simp [intOf]
    · go_wp2_with fail
      have hE : classOfS n = -1 := by have := HN.out; rcases HC.out with h | h | h | h <;> omega
      go_ret
      exact ⟨by rw [hE]; rfl, rfl⟩
end Go.Proofs.YtkmggglljkmjoaaGreat

/-
  Lists popped from, owned all the same.
-/
namespace Go.Proofs.YtkmggglljkmjoaaGreat
open Go.RowKit

def OwW {α : Type} (T : FT α) (e : TypeId) (w : World) (v : Value) (l : List α) : Prop :=
  ∃ (v0 : Value) (r : List α), OwL T e w v0 (l ++ r) ∧ ((v = v0 ∧ r = []) ∨ ∃ g n c c0, v0 = .slice (some ⟨g, 0, none⟩) n c0 ∧ v = .slice (some ⟨g, 0, none⟩) l.length c ∧ l.length ≤ c ∧ c ≤ c0)
theorem ownW_block {α : Type} {v v0 : Value} {l r : List α} (h : (v = v0 ∧ r = []) ∨ ∃ g n c c0, v0 = .slice (some ⟨g, 0, none⟩) n c0 ∧ v = .slice (some ⟨g, 0, none⟩) l.length c ∧ l.length ≤ c ∧ c ≤ c0) : v.ownBlock = v0.ownBlock := by
  rcases h with ⟨rfl, _⟩ | ⟨g, n, c, c0, rfl, rfl, _, _⟩ <;> rfl
theorem OwW.keep {α : Type} {T : FT α} {e : TypeId} {w w' : World} {v : Value} {l : List α} (h : OwW T e w v l) (hk : ∀ g, v.ownBlock = some g → w'.heap[g]? = w.heap[g]?) : OwW T e w' v l := by
  obtain ⟨v0, r, ho, hd⟩ := h
  exact ⟨v0, r, ho.keep (fun g hg => hk g (by rw [ownW_block hd]; exact hg)), hd⟩
theorem OwW.lt {α : Type} {T : FT α} {e : TypeId} {w : World} {v : Value} {l : List α} (h : OwW T e w v l) : ∀ g ∈ foot1 v, g < w.heap.size := by
  obtain ⟨v0, r, ho, hd⟩ := h
  intro g hg
  exact foot_lt ho g (mem_foot1.2 (by rw [← ownW_block hd]; exact mem_foot1.1 hg))
theorem OwW.chg {α : Type} {T : FT α} {e : TypeId} {w w' : World} {v : Value} {l : List α} {F : List Nat} (h : OwW T e w v l) (hc : Chg F w w') (hd : ∀ g ∈ foot1 v, g ∉ F) : OwW T e w' v l :=
  h.keep fun g hg => hc.block g (h.lt g (mem_foot1.2 hg)) (hd g (mem_foot1.2 hg))
theorem OwW.form {α : Type} {T : FT α} {e : TypeId} {w : World} {v : Value} {l : List α} (h : OwW T e w v l) : (v = .slice none 0 0 ∧ l = []) ∨ ∃ g cap, v = .slice (some ⟨g, 0, none⟩) l.length cap ∧ g < w.heap.size ∧ l.length ≤ cap ∧ cap ≤ maxLen := by
  obtain ⟨v0, r, ho, hd⟩ := h
  rcases hd with ⟨rfl, rfl⟩ | ⟨g, n, c, c0, rfl, rfl, h1, h2⟩
  · rw [List.append_nil] at ho
    exact ho.form
  · rcases ho.form with ⟨h, _⟩ | ⟨g', cap', hv, hg, hl, hm⟩
    · cases h
    · injection hv with e1 e2 e3
      injection e1 with e1
      injection e1 with e1
      subst e1
      exact .inr ⟨g, c, rfl, hg, h1, by omega⟩
theorem OwW.cell_ {α : Type} {T : FT α} {e : TypeId} {w : World} {g n c : Nat} {l : List α} (h : OwW T e w (.slice (some ⟨g, 0, none⟩) n c) l) {k j : Nat} {x : α} (hx : l[k]? = some x) (hj : j < T.n) : w.cell? ⟨g, k * T.n + j, none⟩ = (T.enc x)[j]? := by
  obtain ⟨v0, r, ho, hd⟩ := h
  have hx' : (l ++ r)[k]? = some x := by rw [List.getElem?_append_left (List.getElem?_eq_some_iff.1 hx).1]; exact hx
  rcases hd with ⟨rfl, rfl⟩ | ⟨g', n', c', c0, rfl, hv, h1, h2⟩
  · exact ho.cell_ hx' hj
  · injection hv with e1 e2 e3
    injection e1 with e1
    injection e1 with e1
    subst e1
    exact ho.cell_ hx' hj
theorem OwW.frozen_ {α : Type} {T : FT α} {e : TypeId} {w : World} {g n c : Nat} {l : List α} (h : OwW T e w (.slice (some ⟨g, 0, none⟩) n c) l) (j : Nat) : w.frozen? ⟨g, j, none⟩ = false := by
  obtain ⟨v0, r, ho, hd⟩ := h
  rcases hd with ⟨rfl, rfl⟩ | ⟨g', n', c', c0, rfl, hv, h1, h2⟩
  · exact ho.frozen_ j
  · injection hv with e1 e2 e3
    injection e1 with e1
    injection e1 with e1
    subst e1
    exact ho.frozen_ j
theorem OwW.set_ {α : Type} {T : FT α} {e : TypeId} {w : World} {g n c : Nat} {l : List α} (h : OwW T e w (.slice (some ⟨g, 0, none⟩) n c) l) {k j : Nat} {x y : α} {u : Value} (hx : l[k]? = some x) (hj : j < T.n) (hy : T.enc y = (T.enc x).set j u) :
    OwW T e (w.setCell ⟨g, k * T.n + j, none⟩ u) (.slice (some ⟨g, 0, none⟩) n c) (l.set k y) := by
  obtain ⟨v0, r, ho, hd⟩ := h
  have hk := (List.getElem?_eq_some_iff.1 hx).1
  have hx' : (l ++ r)[k]? = some x := by rw [List.getElem?_append_left hk]; exact hx
  rcases hd with ⟨rfl, rfl⟩ | ⟨g', n', c', c0, rfl, hv, h1, h2⟩
  · refine ⟨_, [], ?_, .inl ⟨rfl, rfl⟩⟩
    have := ho.set_ hx' hj hy
    rwa [List.append_nil] at this ⊢
  · injection hv with e1 e2 e3
    injection e1 with e1
    injection e1 with e1
    subst e1 e2 e3
    refine ⟨_, r, ?_, .inr ⟨g, n', c, c0, rfl, by rw [List.length_set], by rw [List.length_set]; exact h1, h2⟩⟩
    have := ho.set_ hx' hj hy
    rwa [List.set_append_left _ _ hk] at this
theorem OwW.rd {α : Type} {T : FT α} {e : TypeId} {w : World} {B : Nat} {v : Value} {l : List α} (h : OwW T e w v l) (hB : ∀ g ∈ foot1 v, g < B) : RdL T w B v l := by
  obtain ⟨v0, r, ho, hd⟩ := h
  have hr := ho.rd (B := B) (fun g hg => hB g (mem_foot1.2 (by rw [ownW_block hd]; exact hg)))
  rcases hd with ⟨rfl, rfl⟩ | ⟨g, n, c, c0, rfl, rfl, h1, h2⟩
  · rwa [List.append_nil] at hr
  · obtain ⟨A, cap, hv, q1, q2, q3⟩ := hr
    injection hv with e1 e2 e3
    subst e1 e2 e3
    refine ⟨_, c, rfl, h1, by omega, fun hne => ?_⟩
    obtain ⟨g', off, hA, hg, hc⟩ := q3 (by intro hh; exact hne (List.append_eq_nil_iff.1 hh).1)
    refine ⟨g', off, hA, hg, fun j u hu => hc j u ?_⟩
    rw [flat_append, List.getElem?_append_left (List.getElem?_eq_some_iff.1 hu).1]
    exact hu
theorem OwW.rd' {α : Type} {T : FT α} {e : TypeId} {w : World} {v : Value} {l : List α} (h : OwW T e w v l) : RdL T w w.heap.size v l := h.rd h.lt
structure OwLLW {α : Type} (T : FT α) (e E : TypeId) (w : World) (v : Value) (svs : List SV) (ll : List (List α)) : Prop where
  len : svs.length = ll.length
  outer : OwL FS E w v svs
  inner : ∀ (k : Nat) (s : SV) (l : List α), svs[k]? = some s → ll[k]? = some l → OwW T e w s.val l
  nodup : (foot2 v svs).Nodup
theorem OwLLW.lt {α : Type} {T : FT α} {e E : TypeId} {w : World} {v : Value} {svs : List SV} {ll : List (List α)} (h : OwLLW T e E w v svs ll) : ∀ g ∈ foot2 v svs, g < w.heap.size := by
  intro g hg
  rcases mem_foot2.1 hg with hg | ⟨s, hs, hg⟩
  · exact foot_lt h.outer g (mem_foot1.2 hg)
  · obtain ⟨k, hk, rfl⟩ := List.mem_iff_getElem.1 hs
    exact (h.inner k _ _ (List.getElem?_eq_getElem hk) (List.getElem?_eq_getElem (by rw [← h.len]; exact hk))).lt g (mem_foot1.2 hg)
theorem OwLLW.keep {α : Type} {T : FT α} {e E : TypeId} {w w' : World} {v : Value} {svs : List SV} {ll : List (List α)} (h : OwLLW T e E w v svs ll) (hk : ∀ g ∈ foot2 v svs, w'.heap[g]? = w.heap[g]?) : OwLLW T e E w' v svs ll :=
  ⟨h.len, h.outer.keep (fun g hg => hk g (mem_foot2.2 (.inl hg))), fun k s l a b => (h.inner k s l a b).keep (fun g hg => hk g (mem_foot2.2 (.inr ⟨s, List.mem_of_getElem? a, hg⟩))), h.nodup⟩
theorem OwLLW.chg {α : Type} {T : FT α} {e E : TypeId} {w w' : World} {v : Value} {svs : List SV} {ll : List (List α)} {F : List Nat} (h : OwLLW T e E w v svs ll) (hc : Chg F w w') (hd : ∀ g ∈ foot2 v svs, g ∉ F) : OwLLW T e E w' v svs ll :=
  h.keep fun g hg => hc.block g (h.lt g hg) (hd g hg)
theorem OwLLW.rd {α : Type} {T : FT α} {e E : TypeId} {w : World} {B : Nat} {v : Value} {svs : List SV} {ll : List (List α)} (h : OwLLW T e E w v svs ll) (hB : ∀ g ∈ foot2 v svs, g < B) : RdLL T w B v svs ll :=
  ⟨h.len, h.outer.rd (fun g hg => hB g (mem_foot2.2 (.inl hg))), fun k s l a b => (h.inner k s l a b).rd (fun g hg => hB g (mem_foot2.2 (.inr ⟨s, List.mem_of_getElem? a, mem_foot1.1 hg⟩)))⟩
theorem OwLLW.rd' {α : Type} {T : FT α} {e E : TypeId} {w : World} {v : Value} {svs : List SV} {ll : List (List α)} (h : OwLLW T e E w v svs ll) : RdLL T w w.heap.size v svs ll := h.rd h.lt
structure OwListsW (w : World) (H : HLists) (x : Lists) : Prop where
  Global : OwLLW FI 3 94 w H.Global.val H.GlobalT x.Global
  Own : OwLLW FI 3 94 w H.Own.val H.OwnT x.Own
  d01 : ∀ g ∈ foot2 H.Global.val H.GlobalT, g ∉ foot2 H.Own.val H.OwnT
theorem OwListsW.lt {w : World} {H : HLists} {x : Lists} (h : OwListsW w H x) : ∀ g ∈ H.foot, g < w.heap.size := by
  intro g hg
  rcases HLists.mem_foot.1 hg with hg | hg
  · exact h.Global.lt g hg
  · exact h.Own.lt g hg
theorem OwListsW.keep {w w' : World} {H : HLists} {x : Lists} (h : OwListsW w H x) (hk : ∀ g ∈ H.foot, w'.heap[g]? = w.heap[g]?) : OwListsW w' H x :=
  ⟨h.Global.keep (fun g hg => hk g (HLists.mem_foot.2 (.inl hg))), h.Own.keep (fun g hg => hk g (HLists.mem_foot.2 (.inr hg))), h.d01⟩
theorem OwListsW.chg {w w' : World} {H : HLists} {x : Lists} {F : List Nat} (h : OwListsW w H x) (hc : Chg F w w') (hd : ∀ g ∈ H.foot, g ∉ F) : OwListsW w' H x := h.keep fun g hg => hc.block g (h.lt g hg) (hd g hg)
theorem OwListsW.rd {w : World} {B : Nat} {H : HLists} {x : Lists} (h : OwListsW w H x) (hB : ∀ g ∈ H.foot, g < B) : RdLists w B H x :=
  ⟨h.Global.rd (fun g hg => hB g (HLists.mem_foot.2 (.inl hg))), h.Own.rd (fun g hg => hB g (HLists.mem_foot.2 (.inr hg)))⟩
theorem OwListsW.rd' {w : World} {H : HLists} {x : Lists} (h : OwListsW w H x) : RdLists w w.heap.size H x := h.rd h.lt
structure OwMemW (w : World) (H : HMem) (x : Mem) : Prop where
  Heap : OwHeap w H.Heap x.Heap
  Lists : OwListsW w H.Lists x.Lists
  d01 : ∀ g ∈ H.Heap.foot, g ∉ H.Lists.foot
theorem OwMemW.lt {w : World} {H : HMem} {x : Mem} (h : OwMemW w H x) : ∀ g ∈ H.foot, g < w.heap.size := by
  intro g hg
  rcases HMem.mem_foot.1 hg with hg | hg
  · exact h.Heap.lt g hg
  · exact h.Lists.lt g hg
theorem OwMemW.keep {w w' : World} {H : HMem} {x : Mem} (h : OwMemW w H x) (hk : ∀ g ∈ H.foot, w'.heap[g]? = w.heap[g]?) : OwMemW w' H x :=
  ⟨h.Heap.keep (fun g hg => hk g (HMem.mem_foot.2 (.inl hg))), h.Lists.keep (fun g hg => hk g (HMem.mem_foot.2 (.inr hg))), h.d01⟩
theorem OwMemW.chg {w w' : World} {H : HMem} {x : Mem} {F : List Nat} (h : OwMemW w H x) (hc : Chg F w w') (hd : ∀ g ∈ H.foot, g ∉ F) : OwMemW w' H x := h.keep fun g hg => hc.block g (h.lt g hg) (hd g hg)
theorem OwMemW.rd {w : World} {B : Nat} {H : HMem} {x : Mem} (h : OwMemW w H x) (hB : ∀ g ∈ H.foot, g < B) : RdMem w B H x :=
  ⟨h.Heap.rd (fun g hg => hB g (HMem.mem_foot.2 (.inl hg))), h.Lists.rd (fun g hg => hB g (HMem.mem_foot.2 (.inr hg)))⟩
theorem OwMemW.rd' {w : World} {H : HMem} {x : Mem} (h : OwMemW w H x) : RdMem w w.heap.size H x := h.rd h.lt
theorem OwListsW.alloc_ {w : World} {H : HLists} {x : Lists} (h : OwListsW w H x) (o : Obj) : OwListsW (w.alloc o) H x := h.keep fun g hg => Below.heap_alloc w o g (h.lt g hg)
theorem OwListsW.step {w w' : World} {o : Obj} {H : HLists} {x : Lists} (h : OwListsW w H x) (hb : Below (w.alloc o).heap.size (w.alloc o) w') : OwListsW w' H x := (h.alloc_ o).keep (fun g hg => hb.block g ((h.alloc_ o).lt g hg))
theorem OwListsW.step0 {w w' : World} {H : HLists} {x : Lists} (h : OwListsW w H x) (hb : Below w.heap.size w w') : OwListsW w' H x := h.keep (fun g hg => hb.block g (h.lt g hg))

theorem OwMemW.alloc_ {w : World} {H : HMem} {x : Mem} (h : OwMemW w H x) (o : Obj) : OwMemW (w.alloc o) H x := h.keep fun g hg => Below.heap_alloc w o g (h.lt g hg)
theorem OwMemW.step {w w' : World} {o : Obj} {H : HMem} {x : Mem} (h : OwMemW w H x) (hb : Below (w.alloc o).heap.size (w.alloc o) w') : OwMemW w' H x := (h.alloc_ o).keep (fun g hg => hb.block g ((h.alloc_ o).lt g hg))
theorem OwMemW.step0 {w w' : World} {H : HMem} {x : Mem} (h : OwMemW w H x) (hb : Below w.heap.size w w') : OwMemW w' H x := h.keep (fun g hg => hb.block g (h.lt g hg))
end Go.Proofs.YtkmggglljkmjoaaGreat

/-
  A slot given back: the contract.
-/
namespace Go.Proofs.YtkmggglljkmjoaaGreat
open Go.RowKit

theorem giveL_own {x : Lists} {k c : Nat} {s : Int} {l : List Int} (hl : x.Own[k]? = some l) (h : l.length < 2) : giveL x k c s = { x with Own := x.Own.set k (l ++ [s]) } := by
  have e : x.Own.getD k [] = l := by simp [List.getD, hl]
  unfold giveL
  rw [e, if_pos h]
theorem giveL_glob {x : Lists} {k c : Nat} {s : Int} {l r : List Int} (hl : x.Own[k]? = some l) (h : ¬ l.length < 2) (hr : x.Global[c]? = some r) : giveL x k c s = { x with Global := x.Global.set c (r ++ [s]) } := by
  have e : x.Own.getD k [] = l := by simp [List.getD, hl]
  have e2 : x.Global.getD c [] = r := by simp [List.getD, hr]
  unfold giveL
  rw [e, if_neg h, e2]
end Go.Proofs.YtkmggglljkmjoaaGreat

/-
  The last of a list taken off.
-/
namespace Go.Proofs.YtkmggglljkmjoaaGreat
open Go.RowKit

theorem OwL.prefix_ {α : Type} {T : FT α} {e : TypeId} {w : World} {g n c : Nat} {l r : List α} (h : OwL T e w (.slice (some ⟨g, 0, none⟩) n c) (l ++ r)) : OwL T e w (.slice (some ⟨g, 0, none⟩) l.length c) l := by
  obtain ⟨h1, h2⟩ := h
  refine ⟨by rw [length_flat], ?_⟩
  rcases h2 with ⟨h2, _⟩ | ⟨g', cap, cur, hv, hb, hc, hl, hm, hz, ht⟩
  · cases h2
  · injection hv with e1 e2 e3
    injection e1 with e1
    injection e1 with e1
    subst e1 e3
    refine .inr ⟨g, c, cur, rfl, hb, hc, ?_, hm, hz, ?_⟩
    · have : l.length ≤ (l ++ r).length := by simp
      omega
    · have hk : l.length * T.n ≤ (l ++ r).length * T.n := Nat.mul_le_mul_right _ (by simp)
      have := congrArg (List.take (l.length * T.n)) ht
      rw [List.take_take, Nat.min_eq_left hk, flat_append, List.take_append_of_le_length (by rw [length_flat]; exact Nat.le_refl _)] at this
      rw [this]
      exact List.take_of_length_le (by rw [length_flat]; exact Nat.le_refl _)
theorem last_at {l : List Int} {s : Int} : (l ++ [s])[l.length]? = some s := by simp
end Go.Proofs.YtkmggglljkmjoaaGreat

/-
  A slot taken from a list: the contracts.
-/
namespace Go.Proofs.YtkmggglljkmjoaaGreat
open Go.RowKit

end Go.Proofs.YtkmggglljkmjoaaGreat

/-
  A row popped, the other package.
-/
namespace Go.Proofs.YtkmggglljkmjoaaGreat
open Go.RowKit

theorem set_same {α : Type} {l : List α} {k : Nat} {v : α} (h : l[k]? = some v) : l.set k v = l := by
  apply List.ext_getElem?
  intro j
  by_cases hj : k = j
  · subst hj
    rw [List.getElem?_set_self (List.getElem?_eq_some_iff.1 h).1, h]
  · rw [List.getElem?_set_ne hj]
theorem OwLL.row_s {α : Type} {T : FT α} {e E : TypeId} {w : World} {g n c : Nat} {svs : List SV} {ll : List (List α)} (h : OwLL T e E w (.slice (some ⟨g, 0, none⟩) n c) svs ll) {i : Nat} {s s' : SV} {l' : List α} (hi : svs[i]? = some s)
    (hl : OwL T e w s'.val l') (hat : s'.val.ownBlock = s.val.ownBlock) :
    OwLL T e E (w.setCell ⟨g, i, none⟩ s'.val) (.slice (some ⟨g, 0, none⟩) n c) (svs.set i s') (ll.set i l') := by
  have hn := h.nodup
  have hne := OwLL.head_ne h hi
  have hfs : foot1 s'.val = foot1 s.val := by unfold foot1; rw [hat]
  unfold foot2 at hn
  rw [List.nodup_append] at hn
  obtain ⟨hn1, hn2, hn3⟩ := hn
  refine ⟨by rw [List.length_set, List.length_set]; exact h.len, ?_, fun k q l hk hl2 => ?_, ?_⟩
  · have := h.outer.set_ (k := i) (j := 0) (x := s) (y := s') (u := s'.val) hi (by decide) rfl
    simpa [FS] using this
  · by_cases hik : i = k
    · subst hik
      have hil : i < svs.length := (List.getElem?_eq_some_iff.1 hi).1
      rw [List.getElem?_set_self hil] at hk
      cases hk
      rw [List.getElem?_set_self (by rw [← h.len]; exact hil)] at hl2
      cases hl2
      exact hl.keep (fun b hb => heap_set_other w _ (fun e => by subst e; exact hne (by rw [← hfs]; exact mem_foot1.2 hb)))
    · rw [List.getElem?_set_ne hik] at hk hl2
      exact (h.inner k q l hk hl2).keep (fun b hb => heap_set_other w _ (fun e => by subst e; exact hn3 _ (mem_foot1.2 rfl) _ (List.mem_flatMap.2 ⟨q, List.mem_of_getElem? hk, mem_foot1.2 hb⟩) rfl))
  · unfold foot2
    rw [flatMap_set_same hi hfs, List.nodup_append]
    exact ⟨hn1, hn2, hn3⟩

set_option maxHeartbeats 4000000 in
theorem l8Pop_nil (w : World) (A : Option Addr) (c : Nat) : Calls Tryz.prog 164 #[.agg #[.slice A 0 c]] w fun e w' => e = .returned (.tuple #[.agg #[.slice A 0 c], .int .i64 (-1)]) ∧ Below w.heap.size w w' := by
  go_enter Tryz.func164, Tryz.ntmps164
  go_wp2_with fail
  refine bodyPost_ret (v := .tuple #[.agg #[.slice A 0 c], .int .i64 (-1)]) (by simp [results, Tryz.results164, go_sem]) rfl ⟨rfl, ((Below.refl _ _).alloc (Nat.le_refl _) _).alloc (by simp) _⟩

set_option maxHeartbeats 4000000 in
theorem l8Pop_yes (w : World) (gs n c : Nat) (s : Int) (h1 : w.cell? ⟨gs, n, none⟩ = some (.int .i64 s)) (hg : gs < w.heap.size) (hn : n ≤ 1073741824) (hc : n + 1 ≤ c) : Calls Tryz.prog 164 #[.agg #[.slice (some ⟨gs, 0, none⟩) (n + 1) c]] w fun e w' => e = .returned (.tuple #[.agg #[.slice (some ⟨gs, 0, none⟩) n c], .int .i64 s]) ∧ Below w.heap.size w w' := by
  have hq0 : ∀ W, Below w.heap.size w W → W.cell? ⟨gs, n, none⟩ = some (.int .i64 s) := fun W hb => (Below.cell hb hg).trans h1
  have B_a : Box ((w.alloc (.cells #[.slice (some ⟨gs, 0, none⟩) (n + 1) c] 94)).alloc (.cells #[.slice none 0 0] 94)) (w.heap.size) [.slice (some ⟨gs, 0, none⟩) (n + 1) c] := by
    have hbx := Box.new w #[.slice (some ⟨gs, 0, none⟩) (n + 1) c] 94
    exact (hbx).alloc _
  have B_r : Box ((w.alloc (.cells #[.slice (some ⟨gs, 0, none⟩) (n + 1) c] 94)).alloc (.cells #[.slice none 0 0] 94)) (w.heap.size + 1) [.slice none 0 0] := by
    have hbx := Box.new (w.alloc (.cells #[.slice (some ⟨gs, 0, none⟩) (n + 1) c] 94)) #[.slice none 0 0] 94
    simp only [World.size_alloc] at hbx
    exact hbx
  have hB : Below w.heap.size w ((w.alloc (.cells #[.slice (some ⟨gs, 0, none⟩) (n + 1) c] 94)).alloc (.cells #[.slice none 0 0] 94)) := by repeat (first | exact Below.refl _ _ | refine Below.alloc ?_ (by simp <;> omega) _ | refine below_grow_of ?_ (by simp <;> omega) _ _ | refine Below.drew ?_ | refine below_drewN ?_ _)
  go_enter Tryz.func164, Tryz.ntmps164
  go_wp2_with fail
  generalize hW0 : ((w.alloc (.cells #[.slice (some ⟨gs, 0, none⟩) (n + 1) c] 94)).alloc (.cells #[.slice none 0 0] 94)) = w0 at B_a B_r hB ⊢
  clear hW0
  have zz_a := B_a.lt
  have zz_r := B_r.lt
  have q_a_0 := B_a.cell 0 _ rfl
  have fr_a := B_a.fro
  have z_a := B_a.lt
  have q_r_0 := B_r.cell 0 _ rfl
  have fr_r := B_r.fro
  have z_r := B_r.lt
  have q_s := hq0 _ hB
  have hwr : IntKind.i64.wrap (((n + 1 : Nat) : Int) - 1) = (n : Int) := by rw [show ((n + 1 : Nat) : Int) - 1 = (n : Int) by omega]; rw [IntKind.wrap_i64]; omega
  go_region
  all_goals go_wp2_with fail
  all_goals refine bodyPost_ret (v := .tuple #[.agg #[.slice (some ⟨gs, 0, none⟩) n c], .int .i64 s]) (by simp [results, Tryz.results164, go_sem, B_r.cell 0 _ rfl]) rfl ⟨rfl, Below.trans hB (by repeat (first | with_reducible exact Below.refl _ _ | with_reducible refine Below.setCell ?_ (by simp <;> omega) _ | with_reducible refine Below.alloc ?_ (by simp <;> omega) _ | with_reducible refine Below.drew ?_))⟩
end Go.Proofs.YtkmggglljkmjoaaGreat

/-
  A slot taken from a list, the other package: the contracts.
-/
namespace Go.Proofs.YtkmggglljkmjoaaGreat
open Go.RowKit

set_option maxRecDepth 100000 in
set_option maxHeartbeats 4000000 in
theorem TakeOwn_spec_yes (w : World) (H : HLists) (x : Lists) (wk c : Nat) (l : List Int) (s : Int) (h : RdLists w w.heap.size H x) (hs : sizeLists x ≤ 536870912) (hok : listsOkB x = true) (hw : wk < 3) (hc : c < 3) (hrow : x.Own[wk * 3 + c]? = some (l ++ [s])) :
    Calls Tryz.prog 103 #[.agg #[.slice H.Global.a H.Global.len H.Global.cap, .slice H.Own.a H.Own.len H.Own.cap], .int .i64 wk, .int .i64 c] w fun e w' => ∃ H' : HLists, e = .returned (.tuple #[.agg #[.slice H'.Global.a H'.Global.len H'.Global.cap, .slice H'.Own.a H'.Own.len H'.Own.cap], .int .i64 s]) ∧ OwLists w' H' { x with Own := x.Own.set (wk * 3 + c) l } ∧ (∀ g ∈ H'.foot, w.heap.size ≤ g) ∧ Below w.heap.size w w' := by
  obtain ⟨hl3, hl9⟩ := lists_len hok
  have H3 := Hid.mk_ hl3
  have H9 := Hid.mk_ hl9
  have HR := Hid.mk_ hrow
  have hsr : (l ++ [s]).length ≤ 536870912 := by
    have := le_szLL (List.mem_of_getElem? hrow)
    unfold sizeLists at hs
    omega
  simp only [List.length_append, List.length_singleton] at hsr
  have hoa := fun W => OwnAt_spec wk c hw hc W
  have HK9 := Hid.mk_ (show wk * 3 + c < x.Own.length by omega)
  clear hl3 hl9 hrow
  obtain ⟨k, hk⟩ : ∃ k, k = wk * 3 + c := ⟨_, rfl⟩
  rw [← hk] at hoa HR HK9
  rw [← hk]
  clear hk
  have B_a : Box ((w.alloc (.cells #[.slice H.Global.a H.Global.len H.Global.cap, .slice H.Own.a H.Own.len H.Own.cap] 29)).alloc (.cells #[.slice none 0 0, .slice none 0 0] 29)) (w.heap.size) [.slice H.Global.a H.Global.len H.Global.cap, .slice H.Own.a H.Own.len H.Own.cap] := by
    have hbx := Box.new w #[.slice H.Global.a H.Global.len H.Global.cap, .slice H.Own.a H.Own.len H.Own.cap] 29
    exact (hbx).alloc _
  have B_r : Box ((w.alloc (.cells #[.slice H.Global.a H.Global.len H.Global.cap, .slice H.Own.a H.Own.len H.Own.cap] 29)).alloc (.cells #[.slice none 0 0, .slice none 0 0] 29)) (w.heap.size + 1) [.slice none 0 0, .slice none 0 0] := by
    have hbx := Box.new (w.alloc (.cells #[.slice H.Global.a H.Global.len H.Global.cap, .slice H.Own.a H.Own.len H.Own.cap] 29)) #[.slice none 0 0, .slice none 0 0] 29
    simp only [World.size_alloc] at hbx
    exact hbx
  have hB : Below w.heap.size w ((w.alloc (.cells #[.slice H.Global.a H.Global.len H.Global.cap, .slice H.Own.a H.Own.len H.Own.cap] 29)).alloc (.cells #[.slice none 0 0, .slice none 0 0] 29)) := by repeat (first | exact Below.refl _ _ | refine Below.alloc ?_ (by simp <;> omega) _ | refine below_grow_of ?_ (by simp <;> omega) _ _ | refine Below.drew ?_ | refine below_drewN ?_ _)
  go_enter Tryz.func103, Tryz.ntmps103
  go_wp2_with fail
  generalize hW0 : ((w.alloc (.cells #[.slice H.Global.a H.Global.len H.Global.cap, .slice H.Own.a H.Own.len H.Own.cap] 29)).alloc (.cells #[.slice none 0 0, .slice none 0 0] 29)) = w0 at B_a B_r hB ⊢
  clear hW0
  have zz_a := B_a.lt
  have zz_r := B_r.lt
  have q_a_0 := B_a.cell 0 _ rfl
  have q_a_1 := B_a.cell 1 _ rfl
  have fr_a := B_a.fro
  have z_a := B_a.lt
  have q_r_0 := B_r.cell 0 _ rfl
  have q_r_1 := B_r.cell 1 _ rfl
  have fr_r := B_r.fro
  have z_r := B_r.lt
  refine (l8Copy_spec _ H x (rdLists_up h hB) hs).mono ?_
  rintro e w1 ⟨K_c, rfl, o_c, l_c, hb⟩
  have u_c := o_c.lt
  replace B_a := B_a.below hb
  replace B_r := B_r.below hb
  replace hB := hB.trans (hb.mono hB.size)
  have sz := hb.size
  clear hb
  replace q_a_0 := B_a.cell 0 _ rfl
  replace q_a_1 := B_a.cell 1 _ rfl
  replace fr_a := B_a.fro
  replace z_a := B_a.lt
  replace q_r_0 := B_r.cell 0 _ rfl
  replace q_r_1 := B_r.cell 1 _ rfl
  replace fr_r := B_r.fro
  replace z_r := B_r.lt
  obtain ⟨⟨A1, n1, p1⟩, T1, ⟨A2, n2, p2⟩, T2⟩ := K_c
  obtain ⟨g1, c1, hv1, hg1⟩ := OwLL.at_form (v := .slice A1 n1 p1) o_c.Global (by rw [H3.out]; decide)
  obtain ⟨g2, c2, hv2, hg2⟩ := OwLL.at_form (v := .slice A2 n2 p2) o_c.Own (by rw [H9.out]; decide)
  injection hv1 with i1 i2 i3
  injection hv2 with j1 j2 j3
  subst i1 i2 i3 j1 j2 j3
  have fg1 : g1 ∈ HLists.foot ⟨⟨some ⟨g1, 0, none⟩, x.Global.length, p1⟩, T1, ⟨some ⟨g2, 0, none⟩, x.Own.length, p2⟩, T2⟩ := HLists.mem_foot.2 (.inl (mem_foot2.2 (.inl rfl)))
  have fg2 : g2 ∈ HLists.foot ⟨⟨some ⟨g1, 0, none⟩, x.Global.length, p1⟩, T1, ⟨some ⟨g2, 0, none⟩, x.Own.length, p2⟩, T2⟩ := HLists.mem_foot.2 (.inr (mem_foot2.2 (.inl rfl)))
  have lg1 := l_c _ fg1
  have lg2 := l_c _ fg2
  clear fg1 fg2
  go_wp2_with (go_at_call 75; refine (hoa _).mono ?_; rintro e wv ⟨rfl, rfl⟩)
  clear hoa
  replace B_a := B_a.alloc (.cells #[.slice (some ⟨g1, 0, none⟩) x.Global.length p1, .slice (some ⟨g2, 0, none⟩) x.Own.length p2] 29)
  replace B_r := B_r.alloc (.cells #[.slice (some ⟨g1, 0, none⟩) x.Global.length p1, .slice (some ⟨g2, 0, none⟩) x.Own.length p2] 29)
  replace o_c := o_c.alloc_ (.cells #[.slice (some ⟨g1, 0, none⟩) x.Global.length p1, .slice (some ⟨g2, 0, none⟩) x.Own.length p2] 29)
  replace hB := hB.alloc hB.size (.cells #[.slice (some ⟨g1, 0, none⟩) x.Global.length p1, .slice (some ⟨g2, 0, none⟩) x.Own.length p2] 29)
  have B_o : Box (w1.alloc (.cells #[.slice (some ⟨g1, 0, none⟩) x.Global.length p1, .slice (some ⟨g2, 0, none⟩) x.Own.length p2] 29)) w1.heap.size [.slice (some ⟨g1, 0, none⟩) x.Global.length p1, .slice (some ⟨g2, 0, none⟩) x.Own.length p2] := Box.new w1 #[.slice (some ⟨g1, 0, none⟩) x.Global.length p1, .slice (some ⟨g2, 0, none⟩) x.Own.length p2] 29
  have zz_o := B_o.lt
  have sz : w1.heap.size ≤ (w1.alloc (.cells #[.slice (some ⟨g1, 0, none⟩) x.Global.length p1, .slice (some ⟨g2, 0, none⟩) x.Own.length p2] 29)).heap.size := Nat.le_of_lt B_o.lt
  generalize hG : (w1.alloc (.cells #[.slice (some ⟨g1, 0, none⟩) x.Global.length p1, .slice (some ⟨g2, 0, none⟩) x.Own.length p2] 29)) = w2 at B_a B_r o_c hB B_o zz_o sz ⊢
  clear hG
  replace q_a_0 := B_a.cell 0 _ rfl
  replace q_a_1 := B_a.cell 1 _ rfl
  replace fr_a := B_a.fro
  replace z_a := B_a.lt
  replace q_r_0 := B_r.cell 0 _ rfl
  replace q_r_1 := B_r.cell 1 _ rfl
  replace fr_r := B_r.fro
  replace z_r := B_r.lt
  have q_o_0 := B_o.cell 0 _ rfl
  have q_o_1 := B_o.cell 1 _ rfl
  have fr_o := B_o.fro
  have z_o := B_o.lt
  refine (ListsOk_spec _ H x (rdLists_up h hB) (Nat.le_trans (Nat.le_add_right _ _) hs) (Nat.le_trans (Nat.le_add_left _ _) hs)).mono ?_
  rw [hok]
  rintro e w3 ⟨rfl, hb⟩
  replace B_a := B_a.below hb
  replace B_r := B_r.below hb
  replace B_o := B_o.below hb
  have o_c := o_c.step0 hb
  replace hB := hB.trans (hb.mono hB.size)
  have sz := hb.size
  clear hb
  replace q_a_0 := B_a.cell 0 _ rfl
  replace q_a_1 := B_a.cell 1 _ rfl
  replace fr_a := B_a.fro
  replace z_a := B_a.lt
  replace q_r_0 := B_r.cell 0 _ rfl
  replace q_r_1 := B_r.cell 1 _ rfl
  replace fr_r := B_r.fro
  replace z_r := B_r.lt
  replace q_o_0 := B_o.cell 0 _ rfl
  replace q_o_1 := B_o.cell 1 _ rfl
  replace fr_o := B_o.fro
  replace z_o := B_o.lt
  clear hok
  obtain ⟨so, hso2⟩ : ∃ q, T2[k]? = some q := ⟨_, List.getElem?_eq_getElem (by rw [o_c.Own.len]; exact HK9.out)⟩
  have HV := Hid.mk_ hso2
  clear hso2
  have ino := o_c.Own.inner k so _ HV.out HR.out
  have po := o_c.Own.outer.cell_ (j := 0) HV.out (by decide)
  simp only [FS, Nat.mul_one, Nat.add_zero] at po
  have hkk : k < x.Own.length := HK9.out
  obtain ⟨Ao, co, hvo, hq1, _⟩ := ino.rd'
  obtain ⟨ao, no, bo⟩ := so
  injection hvo with k1 k2 k3
  subst k1 k2 k3
  simp only [List.length_append, List.length_singleton] at hq1
  obtain ⟨gs, cs, hvs, hgs⟩ := OwL.form_pos (v := .slice ao (l ++ [s]).length bo) ino (by simp)
  injection hvs with k1 k2 k3
  subst k1 k3
  have hcl : l.length + 1 ≤ bo := hq1
  have po2 : w3.cell? ⟨g2, k, none⟩ = some (Value.slice (some ⟨gs, 0, none⟩) (l.length + 1) bo) := by simpa [SV.val] using po
  clear po
  have ce := OwL.cell_ (show OwL FI 3 _ (.slice (some ⟨gs, 0, none⟩) (l ++ [s]).length bo) (l ++ [s]) from ino) (last_at (l := l) (s := s)) FI.pos
  simp only [FI, Nat.mul_one, Nat.add_zero] at ce
  replace ce : _ = some (Value.int .i64 s) := ce
  have hgsl := World.block_lt_of_cell? _ _ ce
  have hq := l8Pop_yes w3 gs l.length bo s ce hgsl (by omega) hcl
  clear ce
  clear ino
  go_wp2_with fail
  refine (hq).mono ?_
  rintro e w4 ⟨rfl, hb⟩
  replace B_a := B_a.below hb
  replace B_r := B_r.below hb
  replace B_o := B_o.below hb
  replace o_c := o_c.step0 hb
  replace hB := hB.trans (hb.mono hB.size)
  have sz := hb.size
  clear hb
  replace q_a_0 := B_a.cell 0 _ rfl
  replace q_a_1 := B_a.cell 1 _ rfl
  replace fr_a := B_a.fro
  replace z_a := B_a.lt
  replace q_r_0 := B_r.cell 0 _ rfl
  replace q_r_1 := B_r.cell 1 _ rfl
  replace fr_r := B_r.fro
  replace z_r := B_r.lt
  replace q_o_0 := B_o.cell 0 _ rfl
  replace q_o_1 := B_o.cell 1 _ rfl
  replace fr_o := B_o.fro
  replace z_o := B_o.lt
  clear hq po2
  replace o_c : OwLists w4 ⟨⟨some ⟨g1, 0, none⟩, x.Global.length, p1⟩, T1, ⟨some ⟨g2, 0, none⟩, x.Own.length, p2⟩, T2⟩ x := o_c
  replace B_a := B_a.alloc (.cells #[.slice (some ⟨gs, 0, none⟩) l.length bo] 94)
  replace B_r := B_r.alloc (.cells #[.slice (some ⟨gs, 0, none⟩) l.length bo] 94)
  replace B_o := B_o.alloc (.cells #[.slice (some ⟨gs, 0, none⟩) l.length bo] 94)
  replace o_c := o_c.alloc_ (.cells #[.slice (some ⟨gs, 0, none⟩) l.length bo] 94)
  replace hB := hB.alloc hB.size (.cells #[.slice (some ⟨gs, 0, none⟩) l.length bo] 94)
  have sz3 : w4.heap.size ≤ (w4.alloc (.cells #[.slice (some ⟨gs, 0, none⟩) l.length bo] 94)).heap.size := by simp
  have ff : (w4.alloc (.cells #[.slice (some ⟨gs, 0, none⟩) l.length bo] 94)).frozen? ⟨g2, k, none⟩ = false := o_c.Own.outer.frozen_ k
  have po : (w4.alloc (.cells #[.slice (some ⟨gs, 0, none⟩) l.length bo] 94)).cell? ⟨g2, k, none⟩ = some (.slice (some ⟨gs, 0, none⟩) (l ++ [s]).length bo) := by have po := o_c.Own.outer.cell_ (j := 0) HV.out (by decide); simp only [FS, Nat.mul_one, Nat.add_zero] at po; exact po
  have ino := o_c.Own.inner k _ _ HV.out HR.out
  have n_a : g2 ≠ w.heap.size := by omega
  have m_a : w.heap.size ≠ g2 := by omega
  have n_r : g2 ≠ w.heap.size + 1 := by omega
  have m_r : w.heap.size + 1 ≠ g2 := by omega
  have n_o : g2 ≠ w1.heap.size := by omega
  have m_o : w1.heap.size ≠ g2 := by omega
  have hin := OwL.prefix_ (g := gs) (n := (l ++ [s]).length) (c := bo) (l := l) (r := [s]) ino
  have hN := OwLL.row_s (s' := ⟨some ⟨gs, 0, none⟩, l.length, bo⟩) (l' := l) o_c.Own HV.out hin rfl
  change OwLL _ _ _ (World.setCell _ _ (.slice (some ⟨gs, 0, none⟩) l.length bo)) _ _ _ at hN
  clear q_a_0 q_a_1 fr_a z_a
  have q_a_0 := B_a.cell 0 _ rfl
  have q_a_1 := B_a.cell 1 _ rfl
  have fr_a := B_a.fro
  have z_a := B_a.lt
  clear q_r_0 q_r_1 fr_r z_r
  have q_r_0 := B_r.cell 0 _ rfl
  have q_r_1 := B_r.cell 1 _ rfl
  have fr_r := B_r.fro
  have z_r := B_r.lt
  clear q_o_0 q_o_1 fr_o z_o
  have q_o_0 := B_o.cell 0 _ rfl
  have q_o_1 := B_o.cell 1 _ rfl
  have fr_o := B_o.fro
  have z_o := B_o.lt
  go_wp2_with fail
  have hO := o_c.Global.chg (F := [g2]) ((Chg.refl _ (w4.alloc (.cells #[.slice (some ⟨gs, 0, none⟩) l.length bo] 94))).set_ (g := g2) (i := k) (by simp) (.slice (some ⟨gs, 0, none⟩) l.length bo)) (fun b hb hm => by simp only [List.mem_cons, List.not_mem_nil, or_false] at hm; subst hm; exact o_c.d01 b hb (mem_foot2.2 (.inl rfl)))
  have hfs : foot2 (.slice (some ⟨g2, 0, none⟩) x.Own.length p2) (T2.set k ⟨some ⟨gs, 0, none⟩, l.length, bo⟩) = foot2 (.slice (some ⟨g2, 0, none⟩) x.Own.length p2) T2 := by unfold foot2; rw [flatMap_set_same (s' := ⟨some ⟨gs, 0, none⟩, l.length, bo⟩) HV.out rfl]
  have hfm : ∀ b, b ∈ foot2 (.slice (some ⟨g2, 0, none⟩) x.Own.length p2) (T2.set k ⟨some ⟨gs, 0, none⟩, l.length, bo⟩) → b ∈ foot2 (.slice (some ⟨g2, 0, none⟩) x.Own.length p2) T2 := fun b hb => by rw [← hfs]; exact hb
  refine bodyPost_ret (v := .tuple #[.agg #[.slice (some ⟨g1, 0, none⟩) x.Global.length p1, .slice (some ⟨g2, 0, none⟩) x.Own.length p2], .int .i64 s]) (by simp [results, Tryz.results103, go_sem, q_r_0, q_r_1]) rfl ⟨⟨⟨some ⟨g1, 0, none⟩, x.Global.length, p1⟩, T1, ⟨some ⟨g2, 0, none⟩, x.Own.length, p2⟩, T2.set k ⟨some ⟨gs, 0, none⟩, l.length, bo⟩⟩, rfl, ⟨hO.chg (F := [w.heap.size + 1]) (by repeat (first | with_reducible exact Chg.refl _ _ | with_reducible refine Chg.set_ ?_ (by simp) _ | with_reducible refine Chg.alloc_ ?_ _ | with_reducible refine Chg.drew_ ?_)) (fun b hb hm => by simp only [List.mem_cons, List.not_mem_nil, or_false] at hm; have := l_c b (HLists.mem_foot.2 (.inl hb)); omega), hN.chg (F := [w.heap.size + 1]) (by repeat (first | with_reducible exact Chg.refl _ _ | with_reducible refine Chg.set_ ?_ (by simp) _ | with_reducible refine Chg.alloc_ ?_ _ | with_reducible refine Chg.drew_ ?_)) (fun b hb hm => by simp only [List.mem_cons, List.not_mem_nil, or_false] at hm; have := l_c b (HLists.mem_foot.2 (.inr (hfm b hb))); omega), fun b hb hm => o_c.d01 b hb (hfm b hm)⟩, fun b hb => ?_, Below.trans hB (by repeat (first | with_reducible exact Below.refl _ _ | with_reducible refine Below.setCell ?_ (by simp <;> omega) _ | with_reducible refine Below.alloc ?_ (by simp <;> omega) _ | with_reducible refine Below.drew ?_))⟩
  rcases HLists.mem_foot.1 hb with hb | hb
  · have := l_c b (HLists.mem_foot.2 (.inl hb))
    omega
  · have := l_c b (HLists.mem_foot.2 (.inr (hfm b hb)))
    omega

set_option maxRecDepth 100000 in
set_option maxHeartbeats 4000000 in
theorem TakeOwn_spec_nil (w : World) (H : HLists) (x : Lists) (wk c : Nat) (h : RdLists w w.heap.size H x) (hs : sizeLists x ≤ 536870912) (hok : listsOkB x = true) (hw : wk < 3) (hc : c < 3) (hrow : x.Own[wk * 3 + c]? = some ([])) :
    Calls Tryz.prog 103 #[.agg #[.slice H.Global.a H.Global.len H.Global.cap, .slice H.Own.a H.Own.len H.Own.cap], .int .i64 wk, .int .i64 c] w fun e w' => ∃ H' : HLists, e = .returned (.tuple #[.agg #[.slice H'.Global.a H'.Global.len H'.Global.cap, .slice H'.Own.a H'.Own.len H'.Own.cap], .int .i64 (-1)]) ∧ OwLists w' H' x ∧ (∀ g ∈ H'.foot, w.heap.size ≤ g) ∧ Below w.heap.size w w' := by
  obtain ⟨hl3, hl9⟩ := lists_len hok
  have H3 := Hid.mk_ hl3
  have H9 := Hid.mk_ hl9
  have HR := Hid.mk_ hrow
  have hoa := fun W => OwnAt_spec wk c hw hc W
  have HK9 := Hid.mk_ (show wk * 3 + c < x.Own.length by omega)
  clear hl3 hl9 hrow
  obtain ⟨k, hk⟩ : ∃ k, k = wk * 3 + c := ⟨_, rfl⟩
  rw [← hk] at hoa HR HK9
  clear hk
  have B_a : Box ((w.alloc (.cells #[.slice H.Global.a H.Global.len H.Global.cap, .slice H.Own.a H.Own.len H.Own.cap] 29)).alloc (.cells #[.slice none 0 0, .slice none 0 0] 29)) (w.heap.size) [.slice H.Global.a H.Global.len H.Global.cap, .slice H.Own.a H.Own.len H.Own.cap] := by
    have hbx := Box.new w #[.slice H.Global.a H.Global.len H.Global.cap, .slice H.Own.a H.Own.len H.Own.cap] 29
    exact (hbx).alloc _
  have B_r : Box ((w.alloc (.cells #[.slice H.Global.a H.Global.len H.Global.cap, .slice H.Own.a H.Own.len H.Own.cap] 29)).alloc (.cells #[.slice none 0 0, .slice none 0 0] 29)) (w.heap.size + 1) [.slice none 0 0, .slice none 0 0] := by
    have hbx := Box.new (w.alloc (.cells #[.slice H.Global.a H.Global.len H.Global.cap, .slice H.Own.a H.Own.len H.Own.cap] 29)) #[.slice none 0 0, .slice none 0 0] 29
    simp only [World.size_alloc] at hbx
    exact hbx
  have hB : Below w.heap.size w ((w.alloc (.cells #[.slice H.Global.a H.Global.len H.Global.cap, .slice H.Own.a H.Own.len H.Own.cap] 29)).alloc (.cells #[.slice none 0 0, .slice none 0 0] 29)) := by repeat (first | exact Below.refl _ _ | refine Below.alloc ?_ (by simp <;> omega) _ | refine below_grow_of ?_ (by simp <;> omega) _ _ | refine Below.drew ?_ | refine below_drewN ?_ _)
  go_enter Tryz.func103, Tryz.ntmps103
  go_wp2_with fail
  generalize hW0 : ((w.alloc (.cells #[.slice H.Global.a H.Global.len H.Global.cap, .slice H.Own.a H.Own.len H.Own.cap] 29)).alloc (.cells #[.slice none 0 0, .slice none 0 0] 29)) = w0 at B_a B_r hB ⊢
  clear hW0
  have zz_a := B_a.lt
  have zz_r := B_r.lt
  have q_a_0 := B_a.cell 0 _ rfl
  have q_a_1 := B_a.cell 1 _ rfl
  have fr_a := B_a.fro
  have z_a := B_a.lt
  have q_r_0 := B_r.cell 0 _ rfl
  have q_r_1 := B_r.cell 1 _ rfl
  have fr_r := B_r.fro
  have z_r := B_r.lt
  refine (l8Copy_spec _ H x (rdLists_up h hB) hs).mono ?_
  rintro e w1 ⟨K_c, rfl, o_c, l_c, hb⟩
  have u_c := o_c.lt
  replace B_a := B_a.below hb
  replace B_r := B_r.below hb
  replace hB := hB.trans (hb.mono hB.size)
  have sz := hb.size
  clear hb
  replace q_a_0 := B_a.cell 0 _ rfl
  replace q_a_1 := B_a.cell 1 _ rfl
  replace fr_a := B_a.fro
  replace z_a := B_a.lt
  replace q_r_0 := B_r.cell 0 _ rfl
  replace q_r_1 := B_r.cell 1 _ rfl
  replace fr_r := B_r.fro
  replace z_r := B_r.lt
  obtain ⟨⟨A1, n1, p1⟩, T1, ⟨A2, n2, p2⟩, T2⟩ := K_c
  obtain ⟨g1, c1, hv1, hg1⟩ := OwLL.at_form (v := .slice A1 n1 p1) o_c.Global (by rw [H3.out]; decide)
  obtain ⟨g2, c2, hv2, hg2⟩ := OwLL.at_form (v := .slice A2 n2 p2) o_c.Own (by rw [H9.out]; decide)
  injection hv1 with i1 i2 i3
  injection hv2 with j1 j2 j3
  subst i1 i2 i3 j1 j2 j3
  have fg1 : g1 ∈ HLists.foot ⟨⟨some ⟨g1, 0, none⟩, x.Global.length, p1⟩, T1, ⟨some ⟨g2, 0, none⟩, x.Own.length, p2⟩, T2⟩ := HLists.mem_foot.2 (.inl (mem_foot2.2 (.inl rfl)))
  have fg2 : g2 ∈ HLists.foot ⟨⟨some ⟨g1, 0, none⟩, x.Global.length, p1⟩, T1, ⟨some ⟨g2, 0, none⟩, x.Own.length, p2⟩, T2⟩ := HLists.mem_foot.2 (.inr (mem_foot2.2 (.inl rfl)))
  have lg1 := l_c _ fg1
  have lg2 := l_c _ fg2
  clear fg1 fg2
  go_wp2_with (go_at_call 75; refine (hoa _).mono ?_; rintro e wv ⟨rfl, rfl⟩)
  clear hoa
  replace B_a := B_a.alloc (.cells #[.slice (some ⟨g1, 0, none⟩) x.Global.length p1, .slice (some ⟨g2, 0, none⟩) x.Own.length p2] 29)
  replace B_r := B_r.alloc (.cells #[.slice (some ⟨g1, 0, none⟩) x.Global.length p1, .slice (some ⟨g2, 0, none⟩) x.Own.length p2] 29)
  replace o_c := o_c.alloc_ (.cells #[.slice (some ⟨g1, 0, none⟩) x.Global.length p1, .slice (some ⟨g2, 0, none⟩) x.Own.length p2] 29)
  replace hB := hB.alloc hB.size (.cells #[.slice (some ⟨g1, 0, none⟩) x.Global.length p1, .slice (some ⟨g2, 0, none⟩) x.Own.length p2] 29)
  have B_o : Box (w1.alloc (.cells #[.slice (some ⟨g1, 0, none⟩) x.Global.length p1, .slice (some ⟨g2, 0, none⟩) x.Own.length p2] 29)) w1.heap.size [.slice (some ⟨g1, 0, none⟩) x.Global.length p1, .slice (some ⟨g2, 0, none⟩) x.Own.length p2] := Box.new w1 #[.slice (some ⟨g1, 0, none⟩) x.Global.length p1, .slice (some ⟨g2, 0, none⟩) x.Own.length p2] 29
  have zz_o := B_o.lt
  have sz : w1.heap.size ≤ (w1.alloc (.cells #[.slice (some ⟨g1, 0, none⟩) x.Global.length p1, .slice (some ⟨g2, 0, none⟩) x.Own.length p2] 29)).heap.size := Nat.le_of_lt B_o.lt
  generalize hG : (w1.alloc (.cells #[.slice (some ⟨g1, 0, none⟩) x.Global.length p1, .slice (some ⟨g2, 0, none⟩) x.Own.length p2] 29)) = w2 at B_a B_r o_c hB B_o zz_o sz ⊢
  clear hG
  replace q_a_0 := B_a.cell 0 _ rfl
  replace q_a_1 := B_a.cell 1 _ rfl
  replace fr_a := B_a.fro
  replace z_a := B_a.lt
  replace q_r_0 := B_r.cell 0 _ rfl
  replace q_r_1 := B_r.cell 1 _ rfl
  replace fr_r := B_r.fro
  replace z_r := B_r.lt
  have q_o_0 := B_o.cell 0 _ rfl
  have q_o_1 := B_o.cell 1 _ rfl
  have fr_o := B_o.fro
  have z_o := B_o.lt
  refine (ListsOk_spec _ H x (rdLists_up h hB) (Nat.le_trans (Nat.le_add_right _ _) hs) (Nat.le_trans (Nat.le_add_left _ _) hs)).mono ?_
  rw [hok]
  rintro e w3 ⟨rfl, hb⟩
  replace B_a := B_a.below hb
  replace B_r := B_r.below hb
  replace B_o := B_o.below hb
  have o_c := o_c.step0 hb
  replace hB := hB.trans (hb.mono hB.size)
  have sz := hb.size
  clear hb
  replace q_a_0 := B_a.cell 0 _ rfl
  replace q_a_1 := B_a.cell 1 _ rfl
  replace fr_a := B_a.fro
  replace z_a := B_a.lt
  replace q_r_0 := B_r.cell 0 _ rfl
  replace q_r_1 := B_r.cell 1 _ rfl
  replace fr_r := B_r.fro
  replace z_r := B_r.lt
  replace q_o_0 := B_o.cell 0 _ rfl
  replace q_o_1 := B_o.cell 1 _ rfl
  replace fr_o := B_o.fro
  replace z_o := B_o.lt
  clear hok
  obtain ⟨so, hso2⟩ : ∃ q, T2[k]? = some q := ⟨_, List.getElem?_eq_getElem (by rw [o_c.Own.len]; exact HK9.out)⟩
  have HV := Hid.mk_ hso2
  clear hso2
  have ino := o_c.Own.inner k so _ HV.out HR.out
  have po := o_c.Own.outer.cell_ (j := 0) HV.out (by decide)
  simp only [FS, Nat.mul_one, Nat.add_zero] at po
  have hkk : k < x.Own.length := HK9.out
  obtain ⟨Ao, co, hvo, _⟩ := ino.rd'
  obtain ⟨ao, no, bo⟩ := so
  injection hvo with k1 k2 k3
  subst k1 k2 k3
  have po2 : _ = some (Value.slice ao 0 bo) := po
  clear po
  have hq := l8Pop_nil w3 ao bo
  clear ino
  go_wp2_with fail
  refine (hq).mono ?_
  rintro e w4 ⟨rfl, hb⟩
  replace B_a := B_a.below hb
  replace B_r := B_r.below hb
  replace B_o := B_o.below hb
  replace o_c := o_c.step0 hb
  replace hB := hB.trans (hb.mono hB.size)
  have sz := hb.size
  clear hb
  replace q_a_0 := B_a.cell 0 _ rfl
  replace q_a_1 := B_a.cell 1 _ rfl
  replace fr_a := B_a.fro
  replace z_a := B_a.lt
  replace q_r_0 := B_r.cell 0 _ rfl
  replace q_r_1 := B_r.cell 1 _ rfl
  replace fr_r := B_r.fro
  replace z_r := B_r.lt
  replace q_o_0 := B_o.cell 0 _ rfl
  replace q_o_1 := B_o.cell 1 _ rfl
  replace fr_o := B_o.fro
  replace z_o := B_o.lt
  clear hq po2
  replace B_a := B_a.alloc (.cells #[.slice ao 0 bo] 94)
  replace B_r := B_r.alloc (.cells #[.slice ao 0 bo] 94)
  replace B_o := B_o.alloc (.cells #[.slice ao 0 bo] 94)
  replace o_c := o_c.alloc_ (.cells #[.slice ao 0 bo] 94)
  replace hB := hB.alloc hB.size (.cells #[.slice ao 0 bo] 94)
  have sz3 : w4.heap.size ≤ (w4.alloc (.cells #[.slice ao 0 bo] 94)).heap.size := by simp
  have ff : (w4.alloc (.cells #[.slice ao 0 bo] 94)).frozen? ⟨g2, k, none⟩ = false := o_c.Own.outer.frozen_ k
  have po : (w4.alloc (.cells #[.slice ao 0 bo] 94)).cell? ⟨g2, k, none⟩ = some (.slice ao 0 bo) := by have po := o_c.Own.outer.cell_ (j := 0) HV.out (by decide); simp only [FS, Nat.mul_one, Nat.add_zero] at po; exact po
  have ino := o_c.Own.inner k _ _ HV.out HR.out
  have n_a : g2 ≠ w.heap.size := by omega
  have m_a : w.heap.size ≠ g2 := by omega
  have n_r : g2 ≠ w.heap.size + 1 := by omega
  have m_r : w.heap.size + 1 ≠ g2 := by omega
  have n_o : g2 ≠ w1.heap.size := by omega
  have m_o : w1.heap.size ≠ g2 := by omega
  have hin := ino
  have hN := OwLL.row_s (s' := ⟨ao, 0, bo⟩) (l' := []) o_c.Own HV.out hin rfl
  change OwLL _ _ _ (World.setCell _ _ (.slice ao 0 bo)) _ _ _ at hN
  clear q_a_0 q_a_1 fr_a z_a
  have q_a_0 := B_a.cell 0 _ rfl
  have q_a_1 := B_a.cell 1 _ rfl
  have fr_a := B_a.fro
  have z_a := B_a.lt
  clear q_r_0 q_r_1 fr_r z_r
  have q_r_0 := B_r.cell 0 _ rfl
  have q_r_1 := B_r.cell 1 _ rfl
  have fr_r := B_r.fro
  have z_r := B_r.lt
  clear q_o_0 q_o_1 fr_o z_o
  have q_o_0 := B_o.cell 0 _ rfl
  have q_o_1 := B_o.cell 1 _ rfl
  have fr_o := B_o.fro
  have z_o := B_o.lt
  go_wp2_with fail
  have hO := o_c.Global.chg (F := [g2]) ((Chg.refl _ (w4.alloc (.cells #[.slice ao 0 bo] 94))).set_ (g := g2) (i := k) (by simp) (.slice ao 0 bo)) (fun b hb hm => by simp only [List.mem_cons, List.not_mem_nil, or_false] at hm; subst hm; exact o_c.d01 b hb (mem_foot2.2 (.inl rfl)))
  have hfs : foot2 (.slice (some ⟨g2, 0, none⟩) x.Own.length p2) (T2.set k ⟨ao, 0, bo⟩) = foot2 (.slice (some ⟨g2, 0, none⟩) x.Own.length p2) T2 := by unfold foot2; rw [flatMap_set_same (s' := ⟨ao, 0, bo⟩) HV.out rfl]
  have hfm : ∀ b, b ∈ foot2 (.slice (some ⟨g2, 0, none⟩) x.Own.length p2) (T2.set k ⟨ao, 0, bo⟩) → b ∈ foot2 (.slice (some ⟨g2, 0, none⟩) x.Own.length p2) T2 := fun b hb => by rw [← hfs]; exact hb
  rw [set_same HR.out] at hN
  refine bodyPost_ret (v := .tuple #[.agg #[.slice (some ⟨g1, 0, none⟩) x.Global.length p1, .slice (some ⟨g2, 0, none⟩) x.Own.length p2], .int .i64 (-1)]) (by simp [results, Tryz.results103, go_sem, q_r_0, q_r_1]) rfl ⟨⟨⟨some ⟨g1, 0, none⟩, x.Global.length, p1⟩, T1, ⟨some ⟨g2, 0, none⟩, x.Own.length, p2⟩, T2.set k ⟨ao, 0, bo⟩⟩, rfl, ⟨hO.chg (F := [w.heap.size + 1]) (by repeat (first | with_reducible exact Chg.refl _ _ | with_reducible refine Chg.set_ ?_ (by simp) _ | with_reducible refine Chg.alloc_ ?_ _ | with_reducible refine Chg.drew_ ?_)) (fun b hb hm => by simp only [List.mem_cons, List.not_mem_nil, or_false] at hm; have := l_c b (HLists.mem_foot.2 (.inl hb)); omega), hN.chg (F := [w.heap.size + 1]) (by repeat (first | with_reducible exact Chg.refl _ _ | with_reducible refine Chg.set_ ?_ (by simp) _ | with_reducible refine Chg.alloc_ ?_ _ | with_reducible refine Chg.drew_ ?_)) (fun b hb hm => by simp only [List.mem_cons, List.not_mem_nil, or_false] at hm; have := l_c b (HLists.mem_foot.2 (.inr (hfm b hb))); omega), fun b hb hm => o_c.d01 b hb (hfm b hm)⟩, fun b hb => ?_, Below.trans hB (by repeat (first | with_reducible exact Below.refl _ _ | with_reducible refine Below.setCell ?_ (by simp <;> omega) _ | with_reducible refine Below.alloc ?_ (by simp <;> omega) _ | with_reducible refine Below.drew ?_))⟩
  rcases HLists.mem_foot.1 hb with hb | hb
  · have := l_c b (HLists.mem_foot.2 (.inl hb))
    omega
  · have := l_c b (HLists.mem_foot.2 (.inr (hfm b hb)))
    omega

set_option maxRecDepth 100000 in
set_option maxHeartbeats 4000000 in
theorem TakeGlobal_spec_yes (w : World) (H : HLists) (x : Lists) (c : Nat) (l : List Int) (s : Int) (h : RdLists w w.heap.size H x) (hs : sizeLists x ≤ 536870912) (hok : listsOkB x = true) (hc : c < 3) (hrow : x.Global[c]? = some (l ++ [s])) :
    Calls Tryz.prog 104 #[.agg #[.slice H.Global.a H.Global.len H.Global.cap, .slice H.Own.a H.Own.len H.Own.cap], .int .i64 c] w fun e w' => ∃ H' : HLists, e = .returned (.tuple #[.agg #[.slice H'.Global.a H'.Global.len H'.Global.cap, .slice H'.Own.a H'.Own.len H'.Own.cap], .int .i64 s]) ∧ OwLists w' H' { x with Global := x.Global.set c l } ∧ (∀ g ∈ H'.foot, w.heap.size ≤ g) ∧ Below w.heap.size w w' := by
  obtain ⟨hl3, hl9⟩ := lists_len hok
  have H3 := Hid.mk_ hl3
  have H9 := Hid.mk_ hl9
  have HR := Hid.mk_ hrow
  have hsr : (l ++ [s]).length ≤ 536870912 := by
    have := le_szLL (List.mem_of_getElem? hrow)
    unfold sizeLists at hs
    omega
  simp only [List.length_append, List.length_singleton] at hsr
  have HK9 := Hid.mk_ (show c < x.Global.length by omega)
  have hicl : inB 0 2 (c : Int) = true := inB_iff.2 ⟨by omega, by omega⟩
  clear hl3 hl9 hrow
  obtain ⟨k, rfl⟩ : ∃ k, k = c := ⟨_, rfl⟩
  have B_a : Box ((w.alloc (.cells #[.slice H.Global.a H.Global.len H.Global.cap, .slice H.Own.a H.Own.len H.Own.cap] 29)).alloc (.cells #[.slice none 0 0, .slice none 0 0] 29)) (w.heap.size) [.slice H.Global.a H.Global.len H.Global.cap, .slice H.Own.a H.Own.len H.Own.cap] := by
    have hbx := Box.new w #[.slice H.Global.a H.Global.len H.Global.cap, .slice H.Own.a H.Own.len H.Own.cap] 29
    exact (hbx).alloc _
  have B_r : Box ((w.alloc (.cells #[.slice H.Global.a H.Global.len H.Global.cap, .slice H.Own.a H.Own.len H.Own.cap] 29)).alloc (.cells #[.slice none 0 0, .slice none 0 0] 29)) (w.heap.size + 1) [.slice none 0 0, .slice none 0 0] := by
    have hbx := Box.new (w.alloc (.cells #[.slice H.Global.a H.Global.len H.Global.cap, .slice H.Own.a H.Own.len H.Own.cap] 29)) #[.slice none 0 0, .slice none 0 0] 29
    simp only [World.size_alloc] at hbx
    exact hbx
  have hB : Below w.heap.size w ((w.alloc (.cells #[.slice H.Global.a H.Global.len H.Global.cap, .slice H.Own.a H.Own.len H.Own.cap] 29)).alloc (.cells #[.slice none 0 0, .slice none 0 0] 29)) := by repeat (first | exact Below.refl _ _ | refine Below.alloc ?_ (by simp <;> omega) _ | refine below_grow_of ?_ (by simp <;> omega) _ _ | refine Below.drew ?_ | refine below_drewN ?_ _)
  go_enter Tryz.func104, Tryz.ntmps104
  go_wp2_with fail
  generalize hW0 : ((w.alloc (.cells #[.slice H.Global.a H.Global.len H.Global.cap, .slice H.Own.a H.Own.len H.Own.cap] 29)).alloc (.cells #[.slice none 0 0, .slice none 0 0] 29)) = w0 at B_a B_r hB ⊢
  clear hW0
  have zz_a := B_a.lt
  have zz_r := B_r.lt
  have q_a_0 := B_a.cell 0 _ rfl
  have q_a_1 := B_a.cell 1 _ rfl
  have fr_a := B_a.fro
  have z_a := B_a.lt
  have q_r_0 := B_r.cell 0 _ rfl
  have q_r_1 := B_r.cell 1 _ rfl
  have fr_r := B_r.fro
  have z_r := B_r.lt
  refine (l8Copy_spec _ H x (rdLists_up h hB) hs).mono ?_
  rintro e w1 ⟨K_c, rfl, o_c, l_c, hb⟩
  have u_c := o_c.lt
  replace B_a := B_a.below hb
  replace B_r := B_r.below hb
  replace hB := hB.trans (hb.mono hB.size)
  have sz := hb.size
  clear hb
  replace q_a_0 := B_a.cell 0 _ rfl
  replace q_a_1 := B_a.cell 1 _ rfl
  replace fr_a := B_a.fro
  replace z_a := B_a.lt
  replace q_r_0 := B_r.cell 0 _ rfl
  replace q_r_1 := B_r.cell 1 _ rfl
  replace fr_r := B_r.fro
  replace z_r := B_r.lt
  obtain ⟨⟨A1, n1, p1⟩, T1, ⟨A2, n2, p2⟩, T2⟩ := K_c
  obtain ⟨g1, c1, hv1, hg1⟩ := OwLL.at_form (v := .slice A1 n1 p1) o_c.Global (by rw [H3.out]; decide)
  obtain ⟨g2, c2, hv2, hg2⟩ := OwLL.at_form (v := .slice A2 n2 p2) o_c.Own (by rw [H9.out]; decide)
  injection hv1 with i1 i2 i3
  injection hv2 with j1 j2 j3
  subst i1 i2 i3 j1 j2 j3
  have fg1 : g1 ∈ HLists.foot ⟨⟨some ⟨g1, 0, none⟩, x.Global.length, p1⟩, T1, ⟨some ⟨g2, 0, none⟩, x.Own.length, p2⟩, T2⟩ := HLists.mem_foot.2 (.inl (mem_foot2.2 (.inl rfl)))
  have fg2 : g2 ∈ HLists.foot ⟨⟨some ⟨g1, 0, none⟩, x.Global.length, p1⟩, T1, ⟨some ⟨g2, 0, none⟩, x.Own.length, p2⟩, T2⟩ := HLists.mem_foot.2 (.inr (mem_foot2.2 (.inl rfl)))
  have lg1 := l_c _ fg1
  have lg2 := l_c _ fg2
  clear fg1 fg2
  go_wp2_with fail
  replace B_a := B_a.alloc (.cells #[.slice (some ⟨g1, 0, none⟩) x.Global.length p1, .slice (some ⟨g2, 0, none⟩) x.Own.length p2] 29)
  replace B_r := B_r.alloc (.cells #[.slice (some ⟨g1, 0, none⟩) x.Global.length p1, .slice (some ⟨g2, 0, none⟩) x.Own.length p2] 29)
  replace o_c := o_c.alloc_ (.cells #[.slice (some ⟨g1, 0, none⟩) x.Global.length p1, .slice (some ⟨g2, 0, none⟩) x.Own.length p2] 29)
  replace hB := hB.alloc hB.size (.cells #[.slice (some ⟨g1, 0, none⟩) x.Global.length p1, .slice (some ⟨g2, 0, none⟩) x.Own.length p2] 29)
  have B_o : Box (w1.alloc (.cells #[.slice (some ⟨g1, 0, none⟩) x.Global.length p1, .slice (some ⟨g2, 0, none⟩) x.Own.length p2] 29)) w1.heap.size [.slice (some ⟨g1, 0, none⟩) x.Global.length p1, .slice (some ⟨g2, 0, none⟩) x.Own.length p2] := Box.new w1 #[.slice (some ⟨g1, 0, none⟩) x.Global.length p1, .slice (some ⟨g2, 0, none⟩) x.Own.length p2] 29
  have zz_o := B_o.lt
  have sz : w1.heap.size ≤ (w1.alloc (.cells #[.slice (some ⟨g1, 0, none⟩) x.Global.length p1, .slice (some ⟨g2, 0, none⟩) x.Own.length p2] 29)).heap.size := Nat.le_of_lt B_o.lt
  generalize hG : (w1.alloc (.cells #[.slice (some ⟨g1, 0, none⟩) x.Global.length p1, .slice (some ⟨g2, 0, none⟩) x.Own.length p2] 29)) = w2 at B_a B_r o_c hB B_o zz_o sz ⊢
  clear hG
  replace q_a_0 := B_a.cell 0 _ rfl
  replace q_a_1 := B_a.cell 1 _ rfl
  replace fr_a := B_a.fro
  replace z_a := B_a.lt
  replace q_r_0 := B_r.cell 0 _ rfl
  replace q_r_1 := B_r.cell 1 _ rfl
  replace fr_r := B_r.fro
  replace z_r := B_r.lt
  have q_o_0 := B_o.cell 0 _ rfl
  have q_o_1 := B_o.cell 1 _ rfl
  have fr_o := B_o.fro
  have z_o := B_o.lt
  refine (ListsOk_spec _ H x (rdLists_up h hB) (Nat.le_trans (Nat.le_add_right _ _) hs) (Nat.le_trans (Nat.le_add_left _ _) hs)).mono ?_
  rw [hok]
  rintro e w3 ⟨rfl, hb⟩
  replace B_a := B_a.below hb
  replace B_r := B_r.below hb
  replace B_o := B_o.below hb
  have o_c := o_c.step0 hb
  replace hB := hB.trans (hb.mono hB.size)
  have sz := hb.size
  clear hb
  replace q_a_0 := B_a.cell 0 _ rfl
  replace q_a_1 := B_a.cell 1 _ rfl
  replace fr_a := B_a.fro
  replace z_a := B_a.lt
  replace q_r_0 := B_r.cell 0 _ rfl
  replace q_r_1 := B_r.cell 1 _ rfl
  replace fr_r := B_r.fro
  replace z_r := B_r.lt
  replace q_o_0 := B_o.cell 0 _ rfl
  replace q_o_1 := B_o.cell 1 _ rfl
  replace fr_o := B_o.fro
  replace z_o := B_o.lt
  clear hok
  obtain ⟨so, hso2⟩ : ∃ q, T1[k]? = some q := ⟨_, List.getElem?_eq_getElem (by rw [o_c.Global.len]; exact HK9.out)⟩
  have HV := Hid.mk_ hso2
  clear hso2
  have ino := o_c.Global.inner k so _ HV.out HR.out
  have po := o_c.Global.outer.cell_ (j := 0) HV.out (by decide)
  simp only [FS, Nat.mul_one, Nat.add_zero] at po
  have hkk : k < x.Global.length := HK9.out
  obtain ⟨Ao, co, hvo, hq1, _⟩ := ino.rd'
  obtain ⟨ao, no, bo⟩ := so
  injection hvo with k1 k2 k3
  subst k1 k2 k3
  simp only [List.length_append, List.length_singleton] at hq1
  obtain ⟨gs, cs, hvs, hgs⟩ := OwL.form_pos (v := .slice ao (l ++ [s]).length bo) ino (by simp)
  injection hvs with k1 k2 k3
  subst k1 k3
  have hcl : l.length + 1 ≤ bo := hq1
  have po2 : w3.cell? ⟨g1, k, none⟩ = some (Value.slice (some ⟨gs, 0, none⟩) (l.length + 1) bo) := by simpa [SV.val] using po
  clear po
  have ce := OwL.cell_ (show OwL FI 3 _ (.slice (some ⟨gs, 0, none⟩) (l ++ [s]).length bo) (l ++ [s]) from ino) (last_at (l := l) (s := s)) FI.pos
  simp only [FI, Nat.mul_one, Nat.add_zero] at ce
  replace ce : _ = some (Value.int .i64 s) := ce
  have hgsl := World.block_lt_of_cell? _ _ ce
  have hq := l8Pop_yes w3 gs l.length bo s ce hgsl (by omega) hcl
  clear ce
  clear ino
  go_wp2_with (first | (go_at_call 102; refine (l1In_ct _ _ _ _).mono ?_; rw [hicl]; rintro e wv ⟨rfl, rfl⟩))
  refine (hq).mono ?_
  rintro e w4 ⟨rfl, hb⟩
  replace B_a := B_a.below hb
  replace B_r := B_r.below hb
  replace B_o := B_o.below hb
  replace o_c := o_c.step0 hb
  replace hB := hB.trans (hb.mono hB.size)
  have sz := hb.size
  clear hb
  replace q_a_0 := B_a.cell 0 _ rfl
  replace q_a_1 := B_a.cell 1 _ rfl
  replace fr_a := B_a.fro
  replace z_a := B_a.lt
  replace q_r_0 := B_r.cell 0 _ rfl
  replace q_r_1 := B_r.cell 1 _ rfl
  replace fr_r := B_r.fro
  replace z_r := B_r.lt
  replace q_o_0 := B_o.cell 0 _ rfl
  replace q_o_1 := B_o.cell 1 _ rfl
  replace fr_o := B_o.fro
  replace z_o := B_o.lt
  clear hq po2
  replace o_c : OwLists w4 ⟨⟨some ⟨g1, 0, none⟩, x.Global.length, p1⟩, T1, ⟨some ⟨g2, 0, none⟩, x.Own.length, p2⟩, T2⟩ x := o_c
  replace B_a := B_a.alloc (.cells #[.slice (some ⟨gs, 0, none⟩) l.length bo] 94)
  replace B_r := B_r.alloc (.cells #[.slice (some ⟨gs, 0, none⟩) l.length bo] 94)
  replace B_o := B_o.alloc (.cells #[.slice (some ⟨gs, 0, none⟩) l.length bo] 94)
  replace o_c := o_c.alloc_ (.cells #[.slice (some ⟨gs, 0, none⟩) l.length bo] 94)
  replace hB := hB.alloc hB.size (.cells #[.slice (some ⟨gs, 0, none⟩) l.length bo] 94)
  have sz3 : w4.heap.size ≤ (w4.alloc (.cells #[.slice (some ⟨gs, 0, none⟩) l.length bo] 94)).heap.size := by simp
  have ff : (w4.alloc (.cells #[.slice (some ⟨gs, 0, none⟩) l.length bo] 94)).frozen? ⟨g1, k, none⟩ = false := o_c.Global.outer.frozen_ k
  have po : (w4.alloc (.cells #[.slice (some ⟨gs, 0, none⟩) l.length bo] 94)).cell? ⟨g1, k, none⟩ = some (.slice (some ⟨gs, 0, none⟩) (l ++ [s]).length bo) := by have po := o_c.Global.outer.cell_ (j := 0) HV.out (by decide); simp only [FS, Nat.mul_one, Nat.add_zero] at po; exact po
  have ino := o_c.Global.inner k _ _ HV.out HR.out
  have n_a : g1 ≠ w.heap.size := by omega
  have m_a : w.heap.size ≠ g1 := by omega
  have n_r : g1 ≠ w.heap.size + 1 := by omega
  have m_r : w.heap.size + 1 ≠ g1 := by omega
  have n_o : g1 ≠ w1.heap.size := by omega
  have m_o : w1.heap.size ≠ g1 := by omega
  have hin := OwL.prefix_ (g := gs) (n := (l ++ [s]).length) (c := bo) (l := l) (r := [s]) ino
  have hN := OwLL.row_s (s' := ⟨some ⟨gs, 0, none⟩, l.length, bo⟩) (l' := l) o_c.Global HV.out hin rfl
  change OwLL _ _ _ (World.setCell _ _ (.slice (some ⟨gs, 0, none⟩) l.length bo)) _ _ _ at hN
  clear q_a_0 q_a_1 fr_a z_a
  have q_a_0 := B_a.cell 0 _ rfl
  have q_a_1 := B_a.cell 1 _ rfl
  have fr_a := B_a.fro
  have z_a := B_a.lt
  clear q_r_0 q_r_1 fr_r z_r
  have q_r_0 := B_r.cell 0 _ rfl
  have q_r_1 := B_r.cell 1 _ rfl
  have fr_r := B_r.fro
  have z_r := B_r.lt
  clear q_o_0 q_o_1 fr_o z_o
  have q_o_0 := B_o.cell 0 _ rfl
  have q_o_1 := B_o.cell 1 _ rfl
  have fr_o := B_o.fro
  have z_o := B_o.lt
  go_wp2_with fail
  have hO := o_c.Own.chg (F := [g1]) ((Chg.refl _ (w4.alloc (.cells #[.slice (some ⟨gs, 0, none⟩) l.length bo] 94))).set_ (g := g1) (i := k) (by simp) (.slice (some ⟨gs, 0, none⟩) l.length bo)) (fun b hb hm => by simp only [List.mem_cons, List.not_mem_nil, or_false] at hm; subst hm; exact o_c.d01 b (mem_foot2.2 (.inl rfl)) hb)
  have hfs : foot2 (.slice (some ⟨g1, 0, none⟩) x.Global.length p1) (T1.set k ⟨some ⟨gs, 0, none⟩, l.length, bo⟩) = foot2 (.slice (some ⟨g1, 0, none⟩) x.Global.length p1) T1 := by unfold foot2; rw [flatMap_set_same (s' := ⟨some ⟨gs, 0, none⟩, l.length, bo⟩) HV.out rfl]
  have hfm : ∀ b, b ∈ foot2 (.slice (some ⟨g1, 0, none⟩) x.Global.length p1) (T1.set k ⟨some ⟨gs, 0, none⟩, l.length, bo⟩) → b ∈ foot2 (.slice (some ⟨g1, 0, none⟩) x.Global.length p1) T1 := fun b hb => by rw [← hfs]; exact hb
  refine bodyPost_ret (v := .tuple #[.agg #[.slice (some ⟨g1, 0, none⟩) x.Global.length p1, .slice (some ⟨g2, 0, none⟩) x.Own.length p2], .int .i64 s]) (by simp [results, Tryz.results104, go_sem, q_r_0, q_r_1]) rfl ⟨⟨⟨some ⟨g1, 0, none⟩, x.Global.length, p1⟩, T1.set k ⟨some ⟨gs, 0, none⟩, l.length, bo⟩, ⟨some ⟨g2, 0, none⟩, x.Own.length, p2⟩, T2⟩, rfl, ⟨hN.chg (F := [w.heap.size + 1]) (by repeat (first | with_reducible exact Chg.refl _ _ | with_reducible refine Chg.set_ ?_ (by simp) _ | with_reducible refine Chg.alloc_ ?_ _ | with_reducible refine Chg.drew_ ?_)) (fun b hb hm => by simp only [List.mem_cons, List.not_mem_nil, or_false] at hm; have := l_c b (HLists.mem_foot.2 (.inl (hfm b hb))); omega), hO.chg (F := [w.heap.size + 1]) (by repeat (first | with_reducible exact Chg.refl _ _ | with_reducible refine Chg.set_ ?_ (by simp) _ | with_reducible refine Chg.alloc_ ?_ _ | with_reducible refine Chg.drew_ ?_)) (fun b hb hm => by simp only [List.mem_cons, List.not_mem_nil, or_false] at hm; have := l_c b (HLists.mem_foot.2 (.inr hb)); omega), fun b hb hm => o_c.d01 b (hfm b hb) hm⟩, fun b hb => ?_, Below.trans hB (by repeat (first | with_reducible exact Below.refl _ _ | with_reducible refine Below.setCell ?_ (by simp <;> omega) _ | with_reducible refine Below.alloc ?_ (by simp <;> omega) _ | with_reducible refine Below.drew ?_))⟩
  rcases HLists.mem_foot.1 hb with hb | hb
  · have := l_c b (HLists.mem_foot.2 (.inl (hfm b hb)))
    omega
  · have := l_c b (HLists.mem_foot.2 (.inr hb))
    omega

set_option maxRecDepth 100000 in
set_option maxHeartbeats 4000000 in
theorem TakeGlobal_spec_nil (w : World) (H : HLists) (x : Lists) (c : Nat) (h : RdLists w w.heap.size H x) (hs : sizeLists x ≤ 536870912) (hok : listsOkB x = true) (hc : c < 3) (hrow : x.Global[c]? = some ([])) :
    Calls Tryz.prog 104 #[.agg #[.slice H.Global.a H.Global.len H.Global.cap, .slice H.Own.a H.Own.len H.Own.cap], .int .i64 c] w fun e w' => ∃ H' : HLists, e = .returned (.tuple #[.agg #[.slice H'.Global.a H'.Global.len H'.Global.cap, .slice H'.Own.a H'.Own.len H'.Own.cap], .int .i64 (-1)]) ∧ OwLists w' H' x ∧ (∀ g ∈ H'.foot, w.heap.size ≤ g) ∧ Below w.heap.size w w' := by
  obtain ⟨hl3, hl9⟩ := lists_len hok
  have H3 := Hid.mk_ hl3
  have H9 := Hid.mk_ hl9
  have HR := Hid.mk_ hrow
  have HK9 := Hid.mk_ (show c < x.Global.length by omega)
  have hicl : inB 0 2 (c : Int) = true := inB_iff.2 ⟨by omega, by omega⟩
  clear hl3 hl9 hrow
  obtain ⟨k, rfl⟩ : ∃ k, k = c := ⟨_, rfl⟩
  have B_a : Box ((w.alloc (.cells #[.slice H.Global.a H.Global.len H.Global.cap, .slice H.Own.a H.Own.len H.Own.cap] 29)).alloc (.cells #[.slice none 0 0, .slice none 0 0] 29)) (w.heap.size) [.slice H.Global.a H.Global.len H.Global.cap, .slice H.Own.a H.Own.len H.Own.cap] := by
    have hbx := Box.new w #[.slice H.Global.a H.Global.len H.Global.cap, .slice H.Own.a H.Own.len H.Own.cap] 29
    exact (hbx).alloc _
  have B_r : Box ((w.alloc (.cells #[.slice H.Global.a H.Global.len H.Global.cap, .slice H.Own.a H.Own.len H.Own.cap] 29)).alloc (.cells #[.slice none 0 0, .slice none 0 0] 29)) (w.heap.size + 1) [.slice none 0 0, .slice none 0 0] := by
    have hbx := Box.new (w.alloc (.cells #[.slice H.Global.a H.Global.len H.Global.cap, .slice H.Own.a H.Own.len H.Own.cap] 29)) #[.slice none 0 0, .slice none 0 0] 29
    simp only [World.size_alloc] at hbx
    exact hbx
  have hB : Below w.heap.size w ((w.alloc (.cells #[.slice H.Global.a H.Global.len H.Global.cap, .slice H.Own.a H.Own.len H.Own.cap] 29)).alloc (.cells #[.slice none 0 0, .slice none 0 0] 29)) := by repeat (first | exact Below.refl _ _ | refine Below.alloc ?_ (by simp <;> omega) _ | refine below_grow_of ?_ (by simp <;> omega) _ _ | refine Below.drew ?_ | refine below_drewN ?_ _)
  go_enter Tryz.func104, Tryz.ntmps104
  go_wp2_with fail
  generalize hW0 : ((w.alloc (.cells #[.slice H.Global.a H.Global.len H.Global.cap, .slice H.Own.a H.Own.len H.Own.cap] 29)).alloc (.cells #[.slice none 0 0, .slice none 0 0] 29)) = w0 at B_a B_r hB ⊢
  clear hW0
  have zz_a := B_a.lt
  have zz_r := B_r.lt
  have q_a_0 := B_a.cell 0 _ rfl
  have q_a_1 := B_a.cell 1 _ rfl
  have fr_a := B_a.fro
  have z_a := B_a.lt
  have q_r_0 := B_r.cell 0 _ rfl
  have q_r_1 := B_r.cell 1 _ rfl
  have fr_r := B_r.fro
  have z_r := B_r.lt
  refine (l8Copy_spec _ H x (rdLists_up h hB) hs).mono ?_
  rintro e w1 ⟨K_c, rfl, o_c, l_c, hb⟩
  have u_c := o_c.lt
  replace B_a := B_a.below hb
  replace B_r := B_r.below hb
  replace hB := hB.trans (hb.mono hB.size)
  have sz := hb.size
  clear hb
  replace q_a_0 := B_a.cell 0 _ rfl
  replace q_a_1 := B_a.cell 1 _ rfl
  replace fr_a := B_a.fro
  replace z_a := B_a.lt
  replace q_r_0 := B_r.cell 0 _ rfl
  replace q_r_1 := B_r.cell 1 _ rfl
  replace fr_r := B_r.fro
  replace z_r := B_r.lt
  obtain ⟨⟨A1, n1, p1⟩, T1, ⟨A2, n2, p2⟩, T2⟩ := K_c
  obtain ⟨g1, c1, hv1, hg1⟩ := OwLL.at_form (v := .slice A1 n1 p1) o_c.Global (by rw [H3.out]; decide)
  obtain ⟨g2, c2, hv2, hg2⟩ := OwLL.at_form (v := .slice A2 n2 p2) o_c.Own (by rw [H9.out]; decide)
  injection hv1 with i1 i2 i3
  injection hv2 with j1 j2 j3
  subst i1 i2 i3 j1 j2 j3
  have fg1 : g1 ∈ HLists.foot ⟨⟨some ⟨g1, 0, none⟩, x.Global.length, p1⟩, T1, ⟨some ⟨g2, 0, none⟩, x.Own.length, p2⟩, T2⟩ := HLists.mem_foot.2 (.inl (mem_foot2.2 (.inl rfl)))
  have fg2 : g2 ∈ HLists.foot ⟨⟨some ⟨g1, 0, none⟩, x.Global.length, p1⟩, T1, ⟨some ⟨g2, 0, none⟩, x.Own.length, p2⟩, T2⟩ := HLists.mem_foot.2 (.inr (mem_foot2.2 (.inl rfl)))
  have lg1 := l_c _ fg1
  have lg2 := l_c _ fg2
  clear fg1 fg2
  go_wp2_with fail
  replace B_a := B_a.alloc (.cells #[.slice (some ⟨g1, 0, none⟩) x.Global.length p1, .slice (some ⟨g2, 0, none⟩) x.Own.length p2] 29)
  replace B_r := B_r.alloc (.cells #[.slice (some ⟨g1, 0, none⟩) x.Global.length p1, .slice (some ⟨g2, 0, none⟩) x.Own.length p2] 29)
  replace o_c := o_c.alloc_ (.cells #[.slice (some ⟨g1, 0, none⟩) x.Global.length p1, .slice (some ⟨g2, 0, none⟩) x.Own.length p2] 29)
  replace hB := hB.alloc hB.size (.cells #[.slice (some ⟨g1, 0, none⟩) x.Global.length p1, .slice (some ⟨g2, 0, none⟩) x.Own.length p2] 29)
  have B_o : Box (w1.alloc (.cells #[.slice (some ⟨g1, 0, none⟩) x.Global.length p1, .slice (some ⟨g2, 0, none⟩) x.Own.length p2] 29)) w1.heap.size [.slice (some ⟨g1, 0, none⟩) x.Global.length p1, .slice (some ⟨g2, 0, none⟩) x.Own.length p2] := Box.new w1 #[.slice (some ⟨g1, 0, none⟩) x.Global.length p1, .slice (some ⟨g2, 0, none⟩) x.Own.length p2] 29
  have zz_o := B_o.lt
  have sz : w1.heap.size ≤ (w1.alloc (.cells #[.slice (some ⟨g1, 0, none⟩) x.Global.length p1, .slice (some ⟨g2, 0, none⟩) x.Own.length p2] 29)).heap.size := Nat.le_of_lt B_o.lt
  generalize hG : (w1.alloc (.cells #[.slice (some ⟨g1, 0, none⟩) x.Global.length p1, .slice (some ⟨g2, 0, none⟩) x.Own.length p2] 29)) = w2 at B_a B_r o_c hB B_o zz_o sz ⊢
  clear hG
  replace q_a_0 := B_a.cell 0 _ rfl
  replace q_a_1 := B_a.cell 1 _ rfl
  replace fr_a := B_a.fro
  replace z_a := B_a.lt
  replace q_r_0 := B_r.cell 0 _ rfl
  replace q_r_1 := B_r.cell 1 _ rfl
  replace fr_r := B_r.fro
  replace z_r := B_r.lt
  have q_o_0 := B_o.cell 0 _ rfl
  have q_o_1 := B_o.cell 1 _ rfl
  have fr_o := B_o.fro
  have z_o := B_o.lt
  refine (ListsOk_spec _ H x (rdLists_up h hB) (Nat.le_trans (Nat.le_add_right _ _) hs) (Nat.le_trans (Nat.le_add_left _ _) hs)).mono ?_
  rw [hok]
  rintro e w3 ⟨rfl, hb⟩
  replace B_a := B_a.below hb
  replace B_r := B_r.below hb
  replace B_o := B_o.below hb
  have o_c := o_c.step0 hb
  replace hB := hB.trans (hb.mono hB.size)
  have sz := hb.size
  clear hb
  replace q_a_0 := B_a.cell 0 _ rfl
  replace q_a_1 := B_a.cell 1 _ rfl
  replace fr_a := B_a.fro
  replace z_a := B_a.lt
  replace q_r_0 := B_r.cell 0 _ rfl
  replace q_r_1 := B_r.cell 1 _ rfl
  replace fr_r := B_r.fro
  replace z_r := B_r.lt
  replace q_o_0 := B_o.cell 0 _ rfl
  replace q_o_1 := B_o.cell 1 _ rfl
  replace fr_o := B_o.fro
  replace z_o := B_o.lt
  clear hok
  obtain ⟨so, hso2⟩ : ∃ q, T1[k]? = some q := ⟨_, List.getElem?_eq_getElem (by rw [o_c.Global.len]; exact HK9.out)⟩
  have HV := Hid.mk_ hso2
  clear hso2
  have ino := o_c.Global.inner k so _ HV.out HR.out
  have po := o_c.Global.outer.cell_ (j := 0) HV.out (by decide)
  simp only [FS, Nat.mul_one, Nat.add_zero] at po
  have hkk : k < x.Global.length := HK9.out
  obtain ⟨Ao, co, hvo, _⟩ := ino.rd'
  obtain ⟨ao, no, bo⟩ := so
  injection hvo with k1 k2 k3
  subst k1 k2 k3
  have po2 : _ = some (Value.slice ao 0 bo) := po
  clear po
  have hq := l8Pop_nil w3 ao bo
  clear ino
  go_wp2_with (first | (go_at_call 102; refine (l1In_ct _ _ _ _).mono ?_; rw [hicl]; rintro e wv ⟨rfl, rfl⟩))
  refine (hq).mono ?_
  rintro e w4 ⟨rfl, hb⟩
  replace B_a := B_a.below hb
  replace B_r := B_r.below hb
  replace B_o := B_o.below hb
  replace o_c := o_c.step0 hb
  replace hB := hB.trans (hb.mono hB.size)
  have sz := hb.size
  clear hb
  replace q_a_0 := B_a.cell 0 _ rfl
  replace q_a_1 := B_a.cell 1 _ rfl
  replace fr_a := B_a.fro
  replace z_a := B_a.lt
  replace q_r_0 := B_r.cell 0 _ rfl
  replace q_r_1 := B_r.cell 1 _ rfl
  replace fr_r := B_r.fro
  replace z_r := B_r.lt
  replace q_o_0 := B_o.cell 0 _ rfl
  replace q_o_1 := B_o.cell 1 _ rfl
  replace fr_o := B_o.fro
  replace z_o := B_o.lt
  clear hq po2
  replace B_a := B_a.alloc (.cells #[.slice ao 0 bo] 94)
  replace B_r := B_r.alloc (.cells #[.slice ao 0 bo] 94)
  replace B_o := B_o.alloc (.cells #[.slice ao 0 bo] 94)
  replace o_c := o_c.alloc_ (.cells #[.slice ao 0 bo] 94)
  replace hB := hB.alloc hB.size (.cells #[.slice ao 0 bo] 94)
  have sz3 : w4.heap.size ≤ (w4.alloc (.cells #[.slice ao 0 bo] 94)).heap.size := by simp
  have ff : (w4.alloc (.cells #[.slice ao 0 bo] 94)).frozen? ⟨g1, k, none⟩ = false := o_c.Global.outer.frozen_ k
  have po : (w4.alloc (.cells #[.slice ao 0 bo] 94)).cell? ⟨g1, k, none⟩ = some (.slice ao 0 bo) := by have po := o_c.Global.outer.cell_ (j := 0) HV.out (by decide); simp only [FS, Nat.mul_one, Nat.add_zero] at po; exact po
  have ino := o_c.Global.inner k _ _ HV.out HR.out
  have n_a : g1 ≠ w.heap.size := by omega
  have m_a : w.heap.size ≠ g1 := by omega
  have n_r : g1 ≠ w.heap.size + 1 := by omega
  have m_r : w.heap.size + 1 ≠ g1 := by omega
  have n_o : g1 ≠ w1.heap.size := by omega
  have m_o : w1.heap.size ≠ g1 := by omega
  have hin := ino
  have hN := OwLL.row_s (s' := ⟨ao, 0, bo⟩) (l' := []) o_c.Global HV.out hin rfl
  change OwLL _ _ _ (World.setCell _ _ (.slice ao 0 bo)) _ _ _ at hN
  clear q_a_0 q_a_1 fr_a z_a
  have q_a_0 := B_a.cell 0 _ rfl
  have q_a_1 := B_a.cell 1 _ rfl
  have fr_a := B_a.fro
  have z_a := B_a.lt
  clear q_r_0 q_r_1 fr_r z_r
  have q_r_0 := B_r.cell 0 _ rfl
  have q_r_1 := B_r.cell 1 _ rfl
  have fr_r := B_r.fro
  have z_r := B_r.lt
  clear q_o_0 q_o_1 fr_o z_o
  have q_o_0 := B_o.cell 0 _ rfl
  have q_o_1 := B_o.cell 1 _ rfl
  have fr_o := B_o.fro
  have z_o := B_o.lt
  go_wp2_with fail
  have hO := o_c.Own.chg (F := [g1]) ((Chg.refl _ (w4.alloc (.cells #[.slice ao 0 bo] 94))).set_ (g := g1) (i := k) (by simp) (.slice ao 0 bo)) (fun b hb hm => by simp only [List.mem_cons, List.not_mem_nil, or_false] at hm; subst hm; exact o_c.d01 b (mem_foot2.2 (.inl rfl)) hb)
  have hfs : foot2 (.slice (some ⟨g1, 0, none⟩) x.Global.length p1) (T1.set k ⟨ao, 0, bo⟩) = foot2 (.slice (some ⟨g1, 0, none⟩) x.Global.length p1) T1 := by unfold foot2; rw [flatMap_set_same (s' := ⟨ao, 0, bo⟩) HV.out rfl]
  have hfm : ∀ b, b ∈ foot2 (.slice (some ⟨g1, 0, none⟩) x.Global.length p1) (T1.set k ⟨ao, 0, bo⟩) → b ∈ foot2 (.slice (some ⟨g1, 0, none⟩) x.Global.length p1) T1 := fun b hb => by rw [← hfs]; exact hb
  rw [set_same HR.out] at hN
  refine bodyPost_ret (v := .tuple #[.agg #[.slice (some ⟨g1, 0, none⟩) x.Global.length p1, .slice (some ⟨g2, 0, none⟩) x.Own.length p2], .int .i64 (-1)]) (by simp [results, Tryz.results104, go_sem, q_r_0, q_r_1]) rfl ⟨⟨⟨some ⟨g1, 0, none⟩, x.Global.length, p1⟩, T1.set k ⟨ao, 0, bo⟩, ⟨some ⟨g2, 0, none⟩, x.Own.length, p2⟩, T2⟩, rfl, ⟨hN.chg (F := [w.heap.size + 1]) (by repeat (first | with_reducible exact Chg.refl _ _ | with_reducible refine Chg.set_ ?_ (by simp) _ | with_reducible refine Chg.alloc_ ?_ _ | with_reducible refine Chg.drew_ ?_)) (fun b hb hm => by simp only [List.mem_cons, List.not_mem_nil, or_false] at hm; have := l_c b (HLists.mem_foot.2 (.inl (hfm b hb))); omega), hO.chg (F := [w.heap.size + 1]) (by repeat (first | with_reducible exact Chg.refl _ _ | with_reducible refine Chg.set_ ?_ (by simp) _ | with_reducible refine Chg.alloc_ ?_ _ | with_reducible refine Chg.drew_ ?_)) (fun b hb hm => by simp only [List.mem_cons, List.not_mem_nil, or_false] at hm; have := l_c b (HLists.mem_foot.2 (.inr hb)); omega), fun b hb hm => o_c.d01 b (hfm b hb) hm⟩, fun b hb => ?_, Below.trans hB (by repeat (first | with_reducible exact Below.refl _ _ | with_reducible refine Below.setCell ?_ (by simp <;> omega) _ | with_reducible refine Below.alloc ?_ (by simp <;> omega) _ | with_reducible refine Below.drew ?_))⟩
  rcases HLists.mem_foot.1 hb with hb | hb
  · have := l_c b (HLists.mem_foot.2 (.inl (hfm b hb)))
    omega
  · have := l_c b (HLists.mem_foot.2 (.inr hb))
    omega
end Go.Proofs.YtkmggglljkmjoaaGreat

/-
  The handle of a slot as it stands: the contracts.
-/
namespace Go.Proofs.YtkmggglljkmjoaaGreat
open Go.RowKit

set_option maxRecDepth 100000 in
set_option maxHeartbeats 4000000 in
theorem handleIn_spec (w : World) (H : HMem) (_y : Mem) (x : Heap) (s : Int) (h : RdHeap w w.heap.size H.Heap x) (hs : shapeB x = true) (h1 : inB 0 23 s = true) (h2 : inB 1 6 (genInB x s) = true) (k1 : ¬ classInB x s < 0) :
    Calls Tryz.prog 106 #[.agg #[.slice H.Heap.Bytes.a H.Heap.Bytes.len H.Heap.Bytes.cap, .slice H.Heap.Class.a H.Heap.Class.len H.Heap.Class.cap, .slice H.Lists.Global.a H.Lists.Global.len H.Lists.Global.cap, .slice H.Lists.Own.a H.Lists.Own.len H.Lists.Own.cap], .int .i64 s] w fun e w' => e = .returned (.int .i64 (genInB x s * 32 + s)) ∧ Below w.heap.size w w' := by
  have hgi := fun (W : World) (hW : Below w.heap.size w W) => l7Gen_spec W H.Heap x s (rdHeap_up h hW) hs k1
  have hho := fun W => HandleOf_spec s (genInB x s) W h1 h2
  have B_a : Box (w.alloc (.cells #[.slice H.Heap.Bytes.a H.Heap.Bytes.len H.Heap.Bytes.cap, .slice H.Heap.Class.a H.Heap.Class.len H.Heap.Class.cap, .slice H.Lists.Global.a H.Lists.Global.len H.Lists.Global.cap, .slice H.Lists.Own.a H.Lists.Own.len H.Lists.Own.cap] 31)) (w.heap.size) [.slice H.Heap.Bytes.a H.Heap.Bytes.len H.Heap.Bytes.cap, .slice H.Heap.Class.a H.Heap.Class.len H.Heap.Class.cap, .slice H.Lists.Global.a H.Lists.Global.len H.Lists.Global.cap, .slice H.Lists.Own.a H.Lists.Own.len H.Lists.Own.cap] := by
    have hbx := Box.new w #[.slice H.Heap.Bytes.a H.Heap.Bytes.len H.Heap.Bytes.cap, .slice H.Heap.Class.a H.Heap.Class.len H.Heap.Class.cap, .slice H.Lists.Global.a H.Lists.Global.len H.Lists.Global.cap, .slice H.Lists.Own.a H.Lists.Own.len H.Lists.Own.cap] 31
    exact hbx
  have hB : Below w.heap.size w (w.alloc (.cells #[.slice H.Heap.Bytes.a H.Heap.Bytes.len H.Heap.Bytes.cap, .slice H.Heap.Class.a H.Heap.Class.len H.Heap.Class.cap, .slice H.Lists.Global.a H.Lists.Global.len H.Lists.Global.cap, .slice H.Lists.Own.a H.Lists.Own.len H.Lists.Own.cap] 31)) := by repeat (first | exact Below.refl _ _ | refine Below.alloc ?_ (by simp <;> omega) _ | refine below_grow_of ?_ (by simp <;> omega) _ _ | refine Below.drew ?_ | refine below_drewN ?_ _)
  go_enter Tryz.func106, Tryz.ntmps106
  go_wp2_with fail
  generalize hW0 : (w.alloc (.cells #[.slice H.Heap.Bytes.a H.Heap.Bytes.len H.Heap.Bytes.cap, .slice H.Heap.Class.a H.Heap.Class.len H.Heap.Class.cap, .slice H.Lists.Global.a H.Lists.Global.len H.Lists.Global.cap, .slice H.Lists.Own.a H.Lists.Own.len H.Lists.Own.cap] 31)) = w0 at B_a hB ⊢
  clear hW0
  have zz_a := B_a.lt
  have q_a_0 := B_a.cell 0 _ rfl
  have q_a_1 := B_a.cell 1 _ rfl
  have q_a_2 := B_a.cell 2 _ rfl
  have q_a_3 := B_a.cell 3 _ rfl
  have fr_a := B_a.fro
  have z_a := B_a.lt
  refine (hgi _ hB).mono ?_
  rintro e w1 ⟨rfl, hb⟩
  replace B_a := B_a.below hb
  replace hB := hB.trans (hb.mono hB.size)
  have sz := hb.size
  clear hb
  replace q_a_0 := B_a.cell 0 _ rfl
  replace q_a_1 := B_a.cell 1 _ rfl
  replace q_a_2 := B_a.cell 2 _ rfl
  replace q_a_3 := B_a.cell 3 _ rfl
  replace fr_a := B_a.fro
  replace z_a := B_a.lt
  clear hgi
  go_wp2_with (go_at_call 41; refine (hho _).mono ?_; rintro e wv ⟨rfl, rfl⟩)
  go_ret
  exact ⟨rfl, Below.trans hB (by repeat (first | with_reducible exact Below.refl _ _ | with_reducible refine Below.setCell ?_ (by simp <;> omega) _ | with_reducible refine Below.alloc ?_ (by simp <;> omega) _ | with_reducible refine Below.drew ?_))⟩
end Go.Proofs.YtkmggglljkmjoaaGreat

/-
  AllocNow in plain form.
-/
namespace Go.Proofs.YtkmggglljkmjoaaGreat
open Go.RowKit

theorem fit_facts {h : Heap} {c s : Int} (hok : heapOkB h = true) (hf : fitsB h c s = true) (hc : inB 0 2 c = true) : inB 0 23 s = true ∧ classInB h s = c ∧ inB 1 6 (genInB h s) = true := by
  unfold fitsB at hf
  simp only [Bool.and_eq_true, beq_iff_eq, decide_eq_true_eq] at hf
  obtain ⟨h1, h2⟩ := hf
  obtain ⟨c0, c2⟩ := inB_iff.1 hc
  have hn : ¬ classInB h s < 0 := by omega
  have ha : ¬ genAt s (clAt h s) < 0 := fun e => hn (by unfold classInB; rw [if_pos e]; decide)
  have hcl : clAt h s = c := by unfold classInB at h1; rw [if_neg ha] at h1; exact h1
  rw [hcl] at ha
  have hg : inB 0 23 s = true ∧ inB 0 2 c = true ∧ s % 4 < perPage c := by
    by_cases hh : inB 0 23 s = true ∧ inB 0 2 c = true ∧ s % 4 < perPage c
    · exact hh
    · exact absurd (by unfold genAt; rw [if_neg hh]; decide) ha
  obtain ⟨s0, s1⟩ := inB_iff.1 hg.1
  have hgen : genInB h s = loadN h.Bytes (s / 4 * 64 + 8 + s % 4 * strideOf c) 4 := by
    unfold genInB
    rw [if_neg hn, h1]
    unfold genAt
    rw [if_pos hg]
  have hst := (strideOf_bd c).1
  have hp : (s / 4).toNat < 6 := by omega
  unfold heapOkB at hok
  simp only [Bool.and_eq_true] at hok
  have hpg := List.all_eq_true.1 hok.2 (s / 4).toNat (List.mem_range.2 hp)
  unfold clAt at hcl
  unfold pageOkB at hpg
  rw [hcl, if_neg (by omega)] at hpg
  simp only [Bool.and_eq_true] at hpg
  have hgs := hpg.2
  unfold gensB at hgs
  have := List.all_eq_true.1 hgs (s % 4).toNat (List.mem_range.2 (by omega))
  rw [show (((s / 4).toNat * 64 + 8 + (s % 4).toNat * (strideOf c).toNat : Nat) : Int) = s / 4 * 64 + 8 + s % 4 * strideOf c by
    simp only [Int.natCast_add, Int.natCast_mul, Int.toNat_of_nonneg (show 0 ≤ s / 4 by omega), Int.toNat_of_nonneg (show 0 ≤ s % 4 by omega), Int.toNat_of_nonneg hst]
    rfl] at this
  rw [← hgen] at this
  obtain ⟨a, b⟩ := inB_iff.1 this
  exact ⟨hg.1, h1, inB_iff.2 ⟨a, h2⟩⟩
theorem own_fits {m : Mem} {k : Nat} {l : List Int} {s : Int} (hok : memOkB m = true) (hk : k < 9) (hr : m.Lists.Own[k]? = some l) (hs : s ∈ l) : fitsB m.Heap ((k % 3 : Nat) : Int) s = true := by
  unfold memOkB at hok
  simp only [Bool.and_eq_true] at hok
  have := List.all_eq_true.1 hok.2 k (List.mem_range.2 hk)
  rw [List.getD_eq_getElem?_getD, hr] at this
  exact List.all_eq_true.1 this s hs
theorem global_fits {m : Mem} {c : Nat} {l : List Int} {s : Int} (hok : memOkB m = true) (hc : c < 3) (hr : m.Lists.Global[c]? = some l) (hs : s ∈ l) : fitsB m.Heap (c : Int) s = true := by
  unfold memOkB at hok
  simp only [Bool.and_eq_true] at hok
  have := List.all_eq_true.1 hok.1.2 c (List.mem_range.2 hc)
  rw [List.getD_eq_getElem?_getD, hr] at this
  exact List.all_eq_true.1 this s hs
def grantM (m : Mem) (p c : Nat) : Mem := { Heap := grantH m.Heap p c, Lists := { m.Lists with Global := m.Lists.Global.set c (m.Lists.Global.getD c [] ++ (slotsTo p (perPage (c : Int)).toNat).drop 1) } }
def popOwn (m : Mem) (k : Nat) : Mem := { m with Lists := { m.Lists with Own := m.Lists.Own.set k (m.Lists.Own.getD k []).dropLast } }
def popGlobal (m : Mem) (c : Nat) : Mem := { m with Lists := { m.Lists with Global := m.Lists.Global.set c (m.Lists.Global.getD c []).dropLast } }
def handleP (h : Heap) (s : Int) : Int := genInB h s * 32 + s
def allocC (m : Mem) (w c : Nat) : Mem × Int × Int :=
  match (m.Lists.Own.getD (w * 3 + c) []).getLast? with
  | some s => (popOwn m (w * 3 + c), handleP m.Heap s, 0)
  | none => match (m.Lists.Global.getD c []).getLast? with
    | some s => (popGlobal m c, handleP m.Heap s, 0)
    | none => if idxOf (fun y => y == -1) m.Heap.Class < 0 then (m, 0, 3) else
      (grantM m (idxOf (fun y => y == -1) m.Heap.Class).toNat c, handleP (grantH m.Heap (idxOf (fun y => y == -1) m.Heap.Class).toNat c) (((idxOf (fun y => y == -1) m.Heap.Class).toNat * 4 : Nat) : Int), 0)
def allocP (m : Mem) (w n : Int) : Mem × Int × Int := if memOkB m = false ∨ inB 0 2 w = false then (m, 0, 1) else if classOfS n < 0 then (m, 0, 2) else allocC m w.toNat (classOfS n).toNat
theorem alloc_no1 {m : Mem} {w n : Int} (c : memOkB m = false ∨ inB 0 2 w = false) : allocP m w n = (m, 0, 1) := if_pos c
theorem alloc_no2 {m : Mem} {w n : Int} (c1 : memOkB m = true) (c2 : inB 0 2 w = true) (c3 : classOfS n < 0) : allocP m w n = (m, 0, 2) := by
  unfold allocP
  rw [if_neg (by rw [c1, c2]; decide), if_pos c3]
theorem alloc_go {m : Mem} {w n : Int} (c1 : memOkB m = true) (c2 : inB 0 2 w = true) (c3 : ¬ classOfS n < 0) : allocP m w n = allocC m w.toNat (classOfS n).toNat := by
  unfold allocP
  rw [if_neg (by rw [c1, c2]; decide), if_neg c3]
theorem allocC_own {m : Mem} {w c : Nat} {l : List Int} {s : Int} (h : m.Lists.Own[w * 3 + c]? = some (l ++ [s])) : allocC m w c = ({ m with Lists := { m.Lists with Own := m.Lists.Own.set (w * 3 + c) l } }, genInB m.Heap s * 32 + s, 0) := by
  unfold allocC popOwn handleP
  rw [List.getD_eq_getElem?_getD, h]
  simp
theorem allocC_global {m : Mem} {w c : Nat} {l : List Int} {s : Int} (h0 : m.Lists.Own[w * 3 + c]? = some []) (h : m.Lists.Global[c]? = some (l ++ [s])) : allocC m w c = ({ m with Lists := { m.Lists with Global := m.Lists.Global.set c l } }, genInB m.Heap s * 32 + s, 0) := by
  unfold allocC popGlobal handleP
  rw [List.getD_eq_getElem?_getD, h0, List.getD_eq_getElem?_getD, h]
  simp
theorem allocC_none {m : Mem} {w c : Nat} (h0 : m.Lists.Own[w * 3 + c]? = some []) (h : m.Lists.Global[c]? = some []) (hp : idxOf (fun y => y == -1) m.Heap.Class = -1) : allocC m w c = (m, 0, 3) := by
  unfold allocC
  rw [List.getD_eq_getElem?_getD, h0, List.getD_eq_getElem?_getD, h, hp]
  simp
theorem allocC_grant {m : Mem} {w c p : Nat} (h0 : m.Lists.Own[w * 3 + c]? = some []) (h : m.Lists.Global[c]? = some []) (hp : idxOf (fun y => y == -1) m.Heap.Class = (p : Int)) : allocC m w c = (grantM m p c, genInB (grantH m.Heap p c) ((p * 4 : Nat) : Int) * 32 + ((p * 4 : Nat) : Int), 0) := by
  unfold allocC handleP
  rw [List.getD_eq_getElem?_getD, h0, List.getD_eq_getElem?_getD, h, hp]
  simp only [Option.getD_some, List.getLast?_nil, Int.toNat_natCast]
  rw [if_neg (by omega)]
end Go.Proofs.YtkmggglljkmjoaaGreat

/-
  A page granted, in plain form.
-/
namespace Go.Proofs.YtkmggglljkmjoaaGreat
open Go.RowKit

theorem perPage_ge {c : Int} (hc : inB 0 2 c = true) : 1 ≤ perPage c := by
  rcases cls hc with rfl | rfl | rfl <;> decide
theorem stride_ge {c : Int} (hc : inB 0 2 c = true) : 4 ≤ (strideOf c).toNat := by
  rcases cls hc with rfl | rfl | rfl <;> decide
theorem grTo_all {b : List Int} {p : Nat} {c : Int} (hb : b.all (inB 0 255) = true) (hc : inB 0 2 c = true) : ∀ i, (grTo b p c i).all (inB 0 255) = true
  | 0 => by
    unfold grTo
    refine putAt_all hb ?_
    rcases cls hc with rfl | rfl | rfl <;> decide
  | i + 1 => by
    unfold grTo
    exact putAt_all (grTo_all hb hc i) (digs_bd 4 1)
theorem grTo_first {b : List Int} {p : Nat} {c : Int} (hb : b.length = 384) (hp : p < 6) (hc : inB 0 2 c = true) (j : Nat) (hj : j < 4) : ∀ i, i + 1 ≤ (perPage c).toNat → (grTo b p c (i + 1))[p * 64 + 8 + j]? = (digs 4 1)[j]?
  | 0, hi => by
    unfold grTo
    rw [show p * 64 + 8 + 0 * (strideOf c).toNat = p * 64 + 8 by omega]
    exact putAt_get_in (by rw [grTo_len hb hp hc 0 (by omega), digs_len]; omega) (by rw [digs_len]; exact hj)
  | i + 1, hi => by
    have hr := gens_room hc (i := i + 1) (by omega)
    have hs := stride_ge hc
    have hm : (strideOf c).toNat ≤ (i + 1) * (strideOf c).toNat := Nat.le_mul_of_pos_left _ (by omega)
    rw [show grTo b p c (i + 1 + 1) = putAt (grTo b p c (i + 1)) (p * 64 + 8 + (i + 1) * (strideOf c).toNat) (digs 4 1) from rfl, putAt_get_out (by rw [grTo_len hb hp hc (i + 1) (by omega), digs_len]; omega) (.inl (by omega))]
    exact grTo_first hb hp hc j hj i (by omega)
theorem grant_facts {h : Heap} {p c : Nat} (hs : shapeB h = true) (hp : p < 6) (hc : c < 3) : shapeB (grantH h p c) = true ∧ classInB (grantH h p c) ((p * 4 : Nat) : Int) = c ∧ genInB (grantH h p c) ((p * 4 : Nat) : Int) = 1 := by
  have hcl : inB 0 2 (c : Int) = true := inB_iff.2 ⟨by omega, by omega⟩
  have sh := shape_of hs
  have hlen := grTo_len (b := h.Bytes) (p := p) (c := (c : Int)) sh.bl hp hcl (perPage (c : Int)).toNat (Nat.le_refl _)
  have hpp := perPage_ge hcl
  have hca : clAt (grantH h p c) ((p * 4 : Nat) : Int) = c := by
    unfold clAt grantH
    rw [show ((((p * 4 : Nat) : Int) / 4).toNat) = p by omega, List.getD_eq_getElem?_getD, List.getElem?_set_self (by rw [sh.cl]; exact hp)]
    rfl
  have hga : genAt ((p * 4 : Nat) : Int) c = ((p * 64 + 8 : Nat) : Int) := by
    unfold genAt
    have hm : ((p * 4 : Nat) : Int) % 4 = 0 := by omega
    rw [if_pos ⟨inB_iff.2 ⟨by omega, by omega⟩, hcl, by omega⟩, hm]
    omega
  have hci : classInB (grantH h p c) ((p * 4 : Nat) : Int) = c := by
    unfold classInB
    rw [hca, if_neg (by rw [hga]; omega)]
  refine ⟨?_, hci, ?_⟩
  · unfold shapeB bytesOkB at hs ⊢
    simp only [Bool.and_eq_true, beq_iff_eq] at hs ⊢
    refine ⟨⟨⟨hlen, ?_⟩, ?_, ?_⟩, ?_⟩
    · unfold grantH
      rw [List.length_set]
      exact hs.1.1.2
    · unfold grantH
      simp only []
      rw [hlen]
      decide
    · exact grTo_all hs.1.2.2 hcl _
    · refine List.all_eq_true.2 fun y hy => ?_
      unfold grantH at hy
      rcases List.mem_or_eq_of_mem_set hy with hy | rfl
      · exact List.all_eq_true.1 hs.2 y hy
      · exact inB_iff.2 ⟨by omega, by omega⟩
  · unfold genInB
    rw [hci, if_neg (by omega), hga]
    unfold loadN
    obtain ⟨k, hk⟩ : ∃ k, (perPage (c : Int)).toNat = k + 1 := ⟨(perPage (c : Int)).toNat - 1, by omega⟩
    have hf := fun j hj => grTo_first (b := h.Bytes) sh.bl hp hcl j hj k (by omega)
    rw [show (((p * 64 + 8 : Nat) : Int)).toNat = p * 64 + 8 by omega, show (4 : Int).toNat = 4 from rfl]
    unfold grantH
    simp only []
    rw [hk]
    have f0 := hf 0 (by decide)
    have f1 := hf 1 (by decide)
    have f2 := hf 2 (by decide)
    have f3 := hf 3 (by decide)
    simp only [loadTo, List.getD_eq_getElem?_getD, f0, f1, f2, f3]
    decide
end Go.Proofs.YtkmggglljkmjoaaGreat

/-
  A slot given back: the reference.
-/
namespace Go.Proofs.YtkmggglljkmjoaaGreat
open Go.RowKit

theorem Chg.trans_new {F : List Nat} {a b c d : World} {g r : Nat} (h : Chg F a b) (h2 : Chg F b c) (_hg : g ∈ F) (h3 : Chg [g, r] c d) (_hr : a.heap.size ≤ r) : Chg F a d :=
  ⟨h3.os.trans (h2.os.trans h.os), h3.tape.trans (h2.tape.trans h.tape), h3.output.trans (h2.output.trans h.output), Nat.le_trans h.size (Nat.le_trans h2.size h3.size), fun k hk hn => by
    have h4 := Nat.lt_of_lt_of_le hk h.size
    have h5 := Nat.lt_of_lt_of_le h4 h2.size
    rw [h3.block k h5 (by simp only [List.mem_cons, List.not_mem_nil, or_false]; intro hh; rcases hh with rfl | rfl; exact hn _hg; omega), h2.block k h4 hn, h.block k hk hn]⟩

set_option maxRecDepth 100000 in
set_option maxHeartbeats 4000000 in
theorem l8Give_spec (w : World) (H : HLists) (x : Lists) (wk c : Nat) (s : Int) (h : OwLists w H x) (hs : sizeLists x ≤ 536870912) (hok : x.Global.length = 3 ∧ x.Own.length = 9) (hw : wk < 3) (hc : c < 3) :
    Calls Tryz.prog 168 #[.agg #[.slice H.Global.a H.Global.len H.Global.cap, .slice H.Own.a H.Own.len H.Own.cap], .int .i64 wk, .int .i64 c, .int .i64 s] w fun e w' => ∃ H' : HLists, e = .returned (.agg #[.slice H'.Global.a H'.Global.len H'.Global.cap, .slice H'.Own.a H'.Own.len H'.Own.cap]) ∧ OwLists w' H' (giveL x (wk * 3 + c) c s) ∧ (∀ g ∈ H'.foot, g ∈ H.foot ∨ w.heap.size ≤ g) ∧ Chg H.foot w w' := by
  obtain ⟨hl3, hl9⟩ := hok
  have H3 := Hid.mk_ hl3
  have H9 := Hid.mk_ hl9
  have HSZ := Hid.mk_ (show ∀ l, l ∈ x.Own ∨ l ∈ x.Global → l.length ≤ 536870912 from fun l hl => by
    unfold sizeLists at hs
    rcases hl with hl | hl
    · have := le_szLL hl
      omega
    · have := le_szLL hl
      omega)
  obtain ⟨lo, hlo⟩ : ∃ l, x.Own[wk * 3 + c]? = some l := ⟨_, List.getElem?_eq_getElem (by omega)⟩
  obtain ⟨lg, hlg⟩ : ∃ l, x.Global[c]? = some l := ⟨_, List.getElem?_eq_getElem (by omega)⟩
  have HO := Hid.mk_ hlo
  have HG := Hid.mk_ hlg
  have hso := HSZ.out lo (.inl (List.mem_of_getElem? hlo))
  have hsg := HSZ.out lg (.inr (List.mem_of_getElem? hlg))
  have hoa := fun W => OwnAt_spec wk c hw hc W
  have hk9 : wk * 3 + c < x.Own.length := by omega
  have hc3 : c < x.Global.length := by omega
  have HK9 := Hid.mk_ hk9
  have HC3 := Hid.mk_ hc3
  clear hl3 hl9 hlo hlg hk9 hc3 HSZ
  obtain ⟨k, hk⟩ : ∃ k, k = wk * 3 + c := ⟨_, rfl⟩
  rw [← hk] at hoa HO HK9 ⊢
  clear hk
  obtain ⟨⟨A1, n1, p1⟩, T1, ⟨A2, n2, p2⟩, T2⟩ := H
  obtain ⟨g1, c1, hv1, hg1⟩ := OwLL.at_form (v := .slice A1 n1 p1) h.Global (by rw [H3.out]; decide)
  obtain ⟨g2, c2, hv2, hg2⟩ := OwLL.at_form (v := .slice A2 n2 p2) h.Own (by rw [H9.out]; decide)
  injection hv1 with i1 i2 i3
  injection hv2 with j1 j2 j3
  subst i1 i2 i3 j1 j2 j3
  have u_c := h.lt
  have o_c := h
  clear h
  show Calls Tryz.prog 168 #[.agg #[.slice (some ⟨g1, 0, none⟩) x.Global.length p1, .slice (some ⟨g2, 0, none⟩) x.Own.length p2], .int .i64 wk, .int .i64 c, .int .i64 s] _ _
  replace o_c := (o_c.alloc_ (.cells #[.slice (some ⟨g1, 0, none⟩) x.Global.length p1, .slice (some ⟨g2, 0, none⟩) x.Own.length p2] 29)).alloc_ (.cells #[.slice none 0 0, .slice none 0 0] 29)
  have B_a : Box ((w.alloc (.cells #[.slice (some ⟨g1, 0, none⟩) x.Global.length p1, .slice (some ⟨g2, 0, none⟩) x.Own.length p2] 29)).alloc (.cells #[.slice none 0 0, .slice none 0 0] 29)) w.heap.size [.slice (some ⟨g1, 0, none⟩) x.Global.length p1, .slice (some ⟨g2, 0, none⟩) x.Own.length p2] := (Box.new w #[.slice (some ⟨g1, 0, none⟩) x.Global.length p1, .slice (some ⟨g2, 0, none⟩) x.Own.length p2] _).alloc _
  have B_r : Box ((w.alloc (.cells #[.slice (some ⟨g1, 0, none⟩) x.Global.length p1, .slice (some ⟨g2, 0, none⟩) x.Own.length p2] 29)).alloc (.cells #[.slice none 0 0, .slice none 0 0] 29)) (w.heap.size + 1) [.slice none 0 0, .slice none 0 0] := by
    have hb := Box.new (w.alloc (.cells #[.slice (some ⟨g1, 0, none⟩) x.Global.length p1, .slice (some ⟨g2, 0, none⟩) x.Own.length p2] 29)) #[.slice none 0 0, .slice none 0 0] 29
    rw [World.size_alloc] at hb
    exact hb
  have hB : Chg (HLists.foot ⟨⟨some ⟨g1, 0, none⟩, x.Global.length, p1⟩, T1, ⟨some ⟨g2, 0, none⟩, x.Own.length, p2⟩, T2⟩) w ((w.alloc (.cells #[.slice (some ⟨g1, 0, none⟩) x.Global.length p1, .slice (some ⟨g2, 0, none⟩) x.Own.length p2] 29)).alloc (.cells #[.slice none 0 0, .slice none 0 0] 29)) := ((Chg.refl _ _).alloc_ _).alloc_ _
  by_cases hlen : lo.length < 2
  · have HLEN := Hid.mk_ hlen
    go_enter Tryz.func168, Tryz.ntmps168
    go_wp2_with fail
    generalize hW0 : ((w.alloc (.cells #[.slice (some ⟨g1, 0, none⟩) x.Global.length p1, .slice (some ⟨g2, 0, none⟩) x.Own.length p2] 29)).alloc (.cells #[.slice none 0 0, .slice none 0 0] 29)) = w0 at o_c B_a B_r hB ⊢
    clear hW0
    refine (hoa _).mono ?_
    rintro e wv ⟨rfl, rfl⟩
    clear hoa
    have HZ0 := Hid.mk_ (show w.heap.size + 1 < w0.heap.size from B_r.lt)
    have q_a_0 := B_a.cell 0 _ rfl
    have q_a_1 := B_a.cell 1 _ rfl
    have fr_a := B_a.fro
    have z_a := B_a.lt
    have q_r_0 := B_r.cell 0 _ rfl
    have q_r_1 := B_r.cell 1 _ rfl
    have fr_r := B_r.fro
    have z_r := B_r.lt
    obtain ⟨so, hso2⟩ : ∃ q, T2[k]? = some q := ⟨_, List.getElem?_eq_getElem (by rw [o_c.Own.len]; exact HK9.out)⟩
    have ino := o_c.Own.inner k so _ hso2 HO.out
    have po := o_c.Own.outer.cell_ (j := 0) hso2 (by decide)
    simp only [FS, Nat.mul_one, Nat.add_zero] at po
    obtain ⟨Ao, co, hvo, _⟩ := ino.rd'
    obtain ⟨ao, no, bo⟩ := so
    injection hvo with k1 k2 k3
    subst k1 k2 k3
    have po2 : _ = some (Value.slice ao lo.length bo) := po
    clear po
    have ff := o_c.Own.outer.frozen_ k
    have HV := Hid.mk_ hso2
    have HNE := Hid.mk_ (OwLL.head_ne (g := g2) (n := x.Own.length) (c := p2) o_c.Own hso2)
    have hkk : k < x.Own.length := HK9.out
    have z_g : g2 < w0.heap.size := Nat.lt_of_lt_of_le hg2 hB.size
    have n_a : g2 ≠ w.heap.size := by omega
    have m_a : w.heap.size ≠ g2 := by omega
    have n_r : g2 ≠ w.heap.size + 1 := by omega
    have m_r : w.heap.size + 1 ≠ g2 := by omega
    have HSF := Hid.mk_ (show ∀ b ∈ foot1 (SV.val ⟨ao, lo.length, bo⟩), b ∈ foot2 (.slice (some ⟨g2, 0, none⟩) x.Own.length p2) T2 from fun b hb => mem_foot2.2 (.inr ⟨_, List.mem_of_getElem? HV.out, mem_foot1.1 hb⟩))
    have HFT := Hid.mk_ (show ∀ b ∈ foot1 (SV.val ⟨ao, lo.length, bo⟩), b ∈ HLists.foot ⟨⟨some ⟨g1, 0, none⟩, x.Global.length, p1⟩, T1, ⟨some ⟨g2, 0, none⟩, x.Own.length, p2⟩, T2⟩ from fun b hb => HLists.mem_foot.2 (.inr (HSF.out b hb)))
    have q0o : ((w0.alloc (.cells #[.int .i64 s] 3)).drew).heap.size = w0.heap.size + 1 := by simp
    have HQ := Hid.mk_ q0o
    clear q0o
    have hrow : OwL FI 3 ((w0.alloc (.cells #[.int .i64 s] 3)).drew) (.slice ao lo.length bo) lo := OwL.keep (OwL.alloc_ (show OwL FI 3 w0 (.slice ao lo.length bo) lo from ino) _) (fun _ _ => rfl)
    have hlit : RdL FI ((w0.alloc (.cells #[.int .i64 s] 3)).drew) ((w0.alloc (.cells #[.int .i64 s] 3)).drew).heap.size (.slice (some ⟨w0.heap.size, 0, none⟩) 1 1) [s] := ((OwL.lit FI [s] #[.int .i64 s] rfl (by simp [maxLen]) w0 3).keep (w' := ((w0.alloc (.cells #[.int .i64 s] 3)).drew)) (fun _ _ => rfl)).rd'
    go_wp2_with fail
    go_region_law (refine step_append_flat Tryz.stInt rfl (.tmp 29) (.tmp 31) rfl (v := .slice ao lo.length bo) (y := .slice (some ⟨w0.heap.size, 0, none⟩) 1 1) (l := lo) (m := [s]) (by simp [Act.eval]) (by simp [Act.eval]) hrow hlit (by simp; omega) ?_; intro v9 w9 ho9 hg9 hat9; obtain ⟨A9, c9, hv9, _⟩ := ho9.rd'; simp only [List.length_append, List.length_cons, List.length_nil] at hv9; subst hv9; have hx := Chg.of_grown hg9; have ff9 := (hx.frozen g2 k (by simp; omega) HNE.out).trans ((cell_old_frozen w0 _ g2 k z_g).trans ff); have pp9 := (hx.cell g2 k (by simp; omega) HNE.out).trans ((cell_old w0 _ g2 k z_g).trans po2); replace B_a := (B_a.alloc (.cells #[.int .i64 s] 3)).drew.chg hx (fun hm => by have := u_c _ (HFT.out _ hm); omega); replace q_a_0 := B_a.cell 0 _ rfl; replace q_a_1 := B_a.cell 1 _ rfl; replace fr_a := B_a.fro; replace z_a := B_a.lt; replace B_r := (B_r.alloc (.cells #[.int .i64 s] 3)).drew.chg hx (fun hm => by have := u_c _ (HFT.out _ hm); omega); replace q_r_0 := B_r.cell 0 _ rfl; replace q_r_1 := B_r.cell 1 _ rfl; replace fr_r := B_r.fro; replace z_r := B_r.lt)
    all_goals
      have oD : OwLists ((w0.alloc (.cells #[.int .i64 s] 3)).drew) ⟨⟨some ⟨g1, 0, none⟩, x.Global.length, p1⟩, T1, ⟨some ⟨g2, 0, none⟩, x.Own.length, p2⟩, T2⟩ x := (o_c.alloc_ (.cells #[.int .i64 s] 3)).keep (fun _ _ => rfl)
      have hN := OwLL.app_row (s' := ⟨A9, lo.length + (0 + 1), c9⟩) oD.Own HV.out ho9 hg9 hat9
      change OwLL _ _ _ (World.setCell _ _ (.slice A9 (lo.length + (0 + 1)) c9)) _ _ _ at hN
      have hfN := fun b (hb : b ∈ foot2 (.slice (some ⟨g2, 0, none⟩) x.Own.length p2) (T2.set k ⟨A9, lo.length + (0 + 1), c9⟩)) => (show b ∈ HLists.foot ⟨⟨some ⟨g1, 0, none⟩, x.Global.length, p1⟩, T1, ⟨some ⟨g2, 0, none⟩, x.Own.length, p2⟩, T2⟩ ∨ w.heap.size ≤ b by rcases foot2_set hb with hb | hb; (exact .inl (HLists.mem_foot.2 (.inr hb))); (rcases foot_app hat9 b hb with hb | hb; (exact .inl (HFT.out b hb)); (right; have := hB.size; rw [hb, HQ.out]; omega)))
      have hO : OwLL FI 3 94 _ _ _ x.Global := (oD.Global.chg hx (fun b hb hm => o_c.d01 b hb (HSF.out b hm))).chg (F := [g2]) ((Chg.refl _ w9).set_ (g := g2) (i := k) (by simp) (.slice A9 (lo.length + (0 + 1)) c9)) (fun b hb hm => by simp only [List.mem_cons, List.not_mem_nil, or_false] at hm; subst hm; exact o_c.d01 b hb (mem_foot2.2 (.inl rfl)))
      have uO := (oD.Global).lt
      have uN : ∀ b ∈ foot2 (.slice (some ⟨g2, 0, none⟩) x.Own.length p2) (T2.set k ⟨A9, lo.length + (0 + 1), c9⟩), b ≠ w.heap.size + 1 := fun b hb e => by subst e; rcases foot2_set hb with hb | hb; (have := u_c _ (HLists.mem_foot.2 (.inr hb)); omega); (rcases foot_app hat9 _ hb with hb | hb; (have := u_c _ (HFT.out _ hb); omega); (have := z_r; rw [HQ.out] at hb; have := HZ0.out; omega))
      go_wp2_with fail
      refine bodyPost_ret (v := .agg #[.slice (some ⟨g1, 0, none⟩) x.Global.length p1, .slice (some ⟨g2, 0, none⟩) x.Own.length p2]) (by simp [results, Tryz.results168, go_sem, q_r_0, q_r_1]) rfl ⟨⟨⟨some ⟨g1, 0, none⟩, x.Global.length, p1⟩, T1, ⟨some ⟨g2, 0, none⟩, x.Own.length, p2⟩, T2.set k ⟨A9, lo.length + (0 + 1), c9⟩⟩, rfl, by rw [giveL_own HO.out HLEN.out]; exact ⟨hO.chg (F := [w.heap.size + 1]) (by repeat (first | with_reducible exact Chg.refl _ _ | with_reducible refine Chg.set_ ?_ (by simp) _ | with_reducible refine Chg.alloc_ ?_ _ | with_reducible refine Chg.drew_ ?_)) (fun b hb hm => by simp only [List.mem_cons, List.not_mem_nil, or_false] at hm; have := u_c b (HLists.mem_foot.2 (.inl hb)); omega), hN.chg (F := [w.heap.size + 1]) (by repeat (first | with_reducible exact Chg.refl _ _ | with_reducible refine Chg.set_ ?_ (by simp) _ | with_reducible refine Chg.alloc_ ?_ _ | with_reducible refine Chg.drew_ ?_)) (fun b hb hm => by simp only [List.mem_cons, List.not_mem_nil, or_false] at hm; exact uN b hb hm), fun b hb hm => by rcases foot2_set hm with hm | hm; (exact o_c.d01 b hb hm); (rcases foot_app hat9 b hm with hm | hm; (exact o_c.d01 b hb (HSF.out b hm)); (have := uO b hb; omega))⟩, fun b hb => ?_, ?_⟩
      · rcases HLists.mem_foot.1 hb with hb | hb
        · exact .inl (HLists.mem_foot.2 (.inl hb))
        · exact hfN b hb
      · exact hB.trans_new (Chg.trans ((Chg.refl _ w0).alloc_ (.cells #[.int .i64 s] 3)).drew_ (hx.mono HFT.out)) (HLists.mem_foot.2 (.inr (mem_foot2.2 (.inl rfl)))) (r := w.heap.size + 1) (by repeat (first | with_reducible exact Chg.refl _ _ | with_reducible refine Chg.set_ ?_ (by simp) _ | with_reducible refine Chg.alloc_ ?_ _ | with_reducible refine Chg.drew_ ?_)) (by omega)
  · have HLEN := Hid.mk_ hlen
    go_enter Tryz.func168, Tryz.ntmps168
    go_wp2_with fail
    generalize hW0 : ((w.alloc (.cells #[.slice (some ⟨g1, 0, none⟩) x.Global.length p1, .slice (some ⟨g2, 0, none⟩) x.Own.length p2] 29)).alloc (.cells #[.slice none 0 0, .slice none 0 0] 29)) = w0 at o_c B_a B_r hB ⊢
    clear hW0
    refine (hoa _).mono ?_
    rintro e wv ⟨rfl, rfl⟩
    clear hoa
    have HZ0 := Hid.mk_ (show w.heap.size + 1 < w0.heap.size from B_r.lt)
    have q_a_0 := B_a.cell 0 _ rfl
    have q_a_1 := B_a.cell 1 _ rfl
    have fr_a := B_a.fro
    have z_a := B_a.lt
    have q_r_0 := B_r.cell 0 _ rfl
    have q_r_1 := B_r.cell 1 _ rfl
    have fr_r := B_r.fro
    have z_r := B_r.lt
    obtain ⟨so, hso2⟩ : ∃ q, T2[k]? = some q := ⟨_, List.getElem?_eq_getElem (by rw [o_c.Own.len]; exact HK9.out)⟩
    have ino := o_c.Own.inner k so _ hso2 HO.out
    have po := o_c.Own.outer.cell_ (j := 0) hso2 (by decide)
    simp only [FS, Nat.mul_one, Nat.add_zero] at po
    obtain ⟨Ao, co, hvo, _⟩ := ino.rd'
    obtain ⟨ao, no, bo⟩ := so
    injection hvo with k1 k2 k3
    subst k1 k2 k3
    have po2 : _ = some (Value.slice ao lo.length bo) := po
    clear po
    obtain ⟨sg, hsg2⟩ : ∃ q, T1[c]? = some q := ⟨_, List.getElem?_eq_getElem (by rw [o_c.Global.len]; exact HC3.out)⟩
    have ing := o_c.Global.inner c sg _ hsg2 HG.out
    have pg := o_c.Global.outer.cell_ (j := 0) hsg2 (by decide)
    simp only [FS, Nat.mul_one, Nat.add_zero] at pg
    obtain ⟨Ag, cg, hvg, _⟩ := ing.rd'
    obtain ⟨ag, ng, bg⟩ := sg
    injection hvg with k1 k2 k3
    subst k1 k2 k3
    have pg2 : _ = some (Value.slice ag lg.length bg) := pg
    clear pg
    have ff := o_c.Global.outer.frozen_ c
    have HV := Hid.mk_ hsg2
    have HNE := Hid.mk_ (OwLL.head_ne (g := g1) (n := x.Global.length) (c := p1) o_c.Global hsg2)
    have hkk : c < x.Global.length := HC3.out
    have z_g : g1 < w0.heap.size := Nat.lt_of_lt_of_le hg1 hB.size
    have n_a : g1 ≠ w.heap.size := by omega
    have m_a : w.heap.size ≠ g1 := by omega
    have n_r : g1 ≠ w.heap.size + 1 := by omega
    have m_r : w.heap.size + 1 ≠ g1 := by omega
    have HSF := Hid.mk_ (show ∀ b ∈ foot1 (SV.val ⟨ag, lg.length, bg⟩), b ∈ foot2 (.slice (some ⟨g1, 0, none⟩) x.Global.length p1) T1 from fun b hb => mem_foot2.2 (.inr ⟨_, List.mem_of_getElem? HV.out, mem_foot1.1 hb⟩))
    have HFT := Hid.mk_ (show ∀ b ∈ foot1 (SV.val ⟨ag, lg.length, bg⟩), b ∈ HLists.foot ⟨⟨some ⟨g1, 0, none⟩, x.Global.length, p1⟩, T1, ⟨some ⟨g2, 0, none⟩, x.Own.length, p2⟩, T2⟩ from fun b hb => HLists.mem_foot.2 (.inl (HSF.out b hb)))
    have q0o : ((w0.alloc (.cells #[.int .i64 s] 3)).drew).heap.size = w0.heap.size + 1 := by simp
    have HQ := Hid.mk_ q0o
    clear q0o
    have hrow : OwL FI 3 ((w0.alloc (.cells #[.int .i64 s] 3)).drew) (.slice ag lg.length bg) lg := OwL.keep (OwL.alloc_ (show OwL FI 3 w0 (.slice ag lg.length bg) lg from ing) _) (fun _ _ => rfl)
    have hlit : RdL FI ((w0.alloc (.cells #[.int .i64 s] 3)).drew) ((w0.alloc (.cells #[.int .i64 s] 3)).drew).heap.size (.slice (some ⟨w0.heap.size, 0, none⟩) 1 1) [s] := ((OwL.lit FI [s] #[.int .i64 s] rfl (by simp [maxLen]) w0 3).keep (w' := ((w0.alloc (.cells #[.int .i64 s] 3)).drew)) (fun _ _ => rfl)).rd'
    go_wp2_with fail
    go_region_law (refine step_append_flat Tryz.stInt rfl (.tmp 43) (.tmp 45) rfl (v := .slice ag lg.length bg) (y := .slice (some ⟨w0.heap.size, 0, none⟩) 1 1) (l := lg) (m := [s]) (by simp [Act.eval]) (by simp [Act.eval]) hrow hlit (by simp; omega) ?_; intro v9 w9 ho9 hg9 hat9; obtain ⟨A9, c9, hv9, _⟩ := ho9.rd'; simp only [List.length_append, List.length_cons, List.length_nil] at hv9; subst hv9; have hx := Chg.of_grown hg9; have ff9 := (hx.frozen g1 c (by simp; omega) HNE.out).trans ((cell_old_frozen w0 _ g1 c z_g).trans ff); have pp9 := (hx.cell g1 c (by simp; omega) HNE.out).trans ((cell_old w0 _ g1 c z_g).trans pg2); replace B_a := (B_a.alloc (.cells #[.int .i64 s] 3)).drew.chg hx (fun hm => by have := u_c _ (HFT.out _ hm); omega); replace q_a_0 := B_a.cell 0 _ rfl; replace q_a_1 := B_a.cell 1 _ rfl; replace fr_a := B_a.fro; replace z_a := B_a.lt; replace B_r := (B_r.alloc (.cells #[.int .i64 s] 3)).drew.chg hx (fun hm => by have := u_c _ (HFT.out _ hm); omega); replace q_r_0 := B_r.cell 0 _ rfl; replace q_r_1 := B_r.cell 1 _ rfl; replace fr_r := B_r.fro; replace z_r := B_r.lt)
    all_goals
      have oD : OwLists ((w0.alloc (.cells #[.int .i64 s] 3)).drew) ⟨⟨some ⟨g1, 0, none⟩, x.Global.length, p1⟩, T1, ⟨some ⟨g2, 0, none⟩, x.Own.length, p2⟩, T2⟩ x := (o_c.alloc_ (.cells #[.int .i64 s] 3)).keep (fun _ _ => rfl)
      have hN := OwLL.app_row (s' := ⟨A9, lg.length + (0 + 1), c9⟩) oD.Global HV.out ho9 hg9 hat9
      change OwLL _ _ _ (World.setCell _ _ (.slice A9 (lg.length + (0 + 1)) c9)) _ _ _ at hN
      have hfN := fun b (hb : b ∈ foot2 (.slice (some ⟨g1, 0, none⟩) x.Global.length p1) (T1.set c ⟨A9, lg.length + (0 + 1), c9⟩)) => (show b ∈ HLists.foot ⟨⟨some ⟨g1, 0, none⟩, x.Global.length, p1⟩, T1, ⟨some ⟨g2, 0, none⟩, x.Own.length, p2⟩, T2⟩ ∨ w.heap.size ≤ b by rcases foot2_set hb with hb | hb; (exact .inl (HLists.mem_foot.2 (.inl hb))); (rcases foot_app hat9 b hb with hb | hb; (exact .inl (HFT.out b hb)); (right; have := hB.size; rw [hb, HQ.out]; omega)))
      have hO : OwLL FI 3 94 _ _ _ x.Own := (oD.Own.chg hx (fun b hb hm => o_c.d01 b (HSF.out b hm) hb)).chg (F := [g1]) ((Chg.refl _ w9).set_ (g := g1) (i := c) (by simp) (.slice A9 (lg.length + (0 + 1)) c9)) (fun b hb hm => by simp only [List.mem_cons, List.not_mem_nil, or_false] at hm; subst hm; exact o_c.d01 b (mem_foot2.2 (.inl rfl)) hb)
      have uO := (oD.Own).lt
      have uN : ∀ b ∈ foot2 (.slice (some ⟨g1, 0, none⟩) x.Global.length p1) (T1.set c ⟨A9, lg.length + (0 + 1), c9⟩), b ≠ w.heap.size + 1 := fun b hb e => by subst e; rcases foot2_set hb with hb | hb; (have := u_c _ (HLists.mem_foot.2 (.inl hb)); omega); (rcases foot_app hat9 _ hb with hb | hb; (have := u_c _ (HFT.out _ hb); omega); (have := z_r; rw [HQ.out] at hb; have := HZ0.out; omega))
      go_wp2_with fail
      refine bodyPost_ret (v := .agg #[.slice (some ⟨g1, 0, none⟩) x.Global.length p1, .slice (some ⟨g2, 0, none⟩) x.Own.length p2]) (by simp [results, Tryz.results168, go_sem, q_r_0, q_r_1]) rfl ⟨⟨⟨some ⟨g1, 0, none⟩, x.Global.length, p1⟩, T1.set c ⟨A9, lg.length + (0 + 1), c9⟩, ⟨some ⟨g2, 0, none⟩, x.Own.length, p2⟩, T2⟩, rfl, by rw [giveL_glob HO.out HLEN.out HG.out]; exact ⟨hN.chg (F := [w.heap.size + 1]) (by repeat (first | with_reducible exact Chg.refl _ _ | with_reducible refine Chg.set_ ?_ (by simp) _ | with_reducible refine Chg.alloc_ ?_ _ | with_reducible refine Chg.drew_ ?_)) (fun b hb hm => by simp only [List.mem_cons, List.not_mem_nil, or_false] at hm; exact uN b hb hm), hO.chg (F := [w.heap.size + 1]) (by repeat (first | with_reducible exact Chg.refl _ _ | with_reducible refine Chg.set_ ?_ (by simp) _ | with_reducible refine Chg.alloc_ ?_ _ | with_reducible refine Chg.drew_ ?_)) (fun b hb hm => by simp only [List.mem_cons, List.not_mem_nil, or_false] at hm; have := u_c b (HLists.mem_foot.2 (.inr hb)); omega), fun b hb hm => by rcases foot2_set hb with hb | hb; (exact o_c.d01 b hb hm); (rcases foot_app hat9 b hb with hb | hb; (exact o_c.d01 b (HSF.out b hb) hm); (have := uO b hm; omega))⟩, fun b hb => ?_, ?_⟩
      · rcases HLists.mem_foot.1 hb with hb | hb
        · exact hfN b hb
        · exact .inl (HLists.mem_foot.2 (.inr hb))
      · exact hB.trans_new (Chg.trans ((Chg.refl _ w0).alloc_ (.cells #[.int .i64 s] 3)).drew_ (hx.mono HFT.out)) (HLists.mem_foot.2 (.inl (mem_foot2.2 (.inl rfl)))) (r := w.heap.size + 1) (by repeat (first | with_reducible exact Chg.refl _ _ | with_reducible refine Chg.set_ ?_ (by simp) _ | with_reducible refine Chg.alloc_ ?_ _ | with_reducible refine Chg.drew_ ?_)) (by omega)
end Go.Proofs.YtkmggglljkmjoaaGreat

/-
  A slot freed: the contract.
-/
namespace Go.Proofs.YtkmggglljkmjoaaGreat
open Go.RowKit

theorem state3 {m : Mem} {s : Int} (h : stateB m s = 3) : ¬ classInB m.Heap s < 0 ∧ onListB m.Lists s = false ∧ genInB m.Heap s ≤ 6 := by
  unfold stateB at h
  by_cases k1 : classInB m.Heap s < 0
  · rw [if_pos k1] at h
    exact absurd h (by decide)
  · rw [if_neg k1] at h
    by_cases k2 : onListB m.Lists s = true
    · rw [if_pos k2] at h
      exact absurd h (by decide)
    · rw [if_neg k2] at h
      by_cases k3 : 6 < genInB m.Heap s
      · rw [if_pos k3] at h
        exact absurd h (by decide)
      · exact ⟨k1, (Bool.not_eq_true _).mp k2, by omega⟩
theorem cls_le {h : Heap} {s : Int} (sh : Shape h) (k : ¬ classInB h s < 0) : 0 ≤ classInB h s ∧ classInB h s ≤ 2 := by
  have := clAt_bd sh s
  rcases classInB_cases h s with ⟨e, _⟩ | ⟨e, _⟩ <;> omega
theorem freedM_eq {m : Mem} {wk c : Nat} {s g : Int} (hc : classInB m.Heap s = (c : Int)) (hg : genInB m.Heap s = g) : freedM m wk s = ⟨setGenB m.Heap s (g + 1), if g + 1 ≤ 6 then giveL m.Lists (wk * 3 + c) c s else m.Lists⟩ := by
  unfold freedM
  rw [hc, hg, Int.toNat_natCast]

end Go.Proofs.YtkmggglljkmjoaaGreat

/-
  A slot freed: the reference, in place.
-/
namespace Go.Proofs.YtkmggglljkmjoaaGreat
open Go.RowKit

theorem Chg.set_new {F : List Nat} {w w' : World} (h : Chg F w w') {g i : Nat} (hg : w.heap.size ≤ g) (v : Value) : Chg F w (w'.setCell ⟨g, i, none⟩ v) :=
  ⟨h.os, h.tape, h.output, by simpa using h.size, fun k hk hn => (Below.heap_setCell _ _ _ _ (fun e => by have e' : k = g := e; omega)).trans (h.block k hk hn)⟩
theorem owMem_lists {w w' : World} {H : HMem} {K : HLists} {x : Mem} {l : Lists} (h : OwMem w H x) (hl : OwLists w' K l) (hc : Chg H.Lists.foot w w') (hd : ∀ g ∈ K.foot, g ∈ H.Lists.foot ∨ w.heap.size ≤ g) : OwMem w' ⟨H.Heap, K⟩ ⟨x.Heap, l⟩ :=
  ⟨h.Heap.chg hc (fun g hg hm => h.d01 g hg hm), hl, fun g hg hm => by rcases hd g hm with hh | hh; (exact h.d01 g hg hh); (have := h.Heap.lt g hg; omega)⟩

theorem Chg.trans_out {F : List Nat} {a c d : World} {g r : Nat} (h : Chg F a c) (h3 : Chg [g, r] c d) (hr : a.heap.size ≤ r ∧ a.heap.size ≤ g) : Chg F a d :=
  ⟨h3.os.trans h.os, h3.tape.trans h.tape, h3.output.trans h.output, Nat.le_trans h.size h3.size, fun k hk hn => by
    rw [h3.block k (Nat.lt_of_lt_of_le hk h.size) (by simp only [List.mem_cons, List.not_mem_nil, or_false]; omega), h.block k hk hn]⟩

set_option maxRecDepth 100000 in
set_option maxHeartbeats 4000000 in
theorem l9Free_spec (w : World) (H : HMem) (x : Mem) (wk c : Nat) (s g : Int) (h : OwMem w H x) (hs : sizeLists x.Lists ≤ 536870912) (hsh : shapeB x.Heap = true) (hll : x.Lists.Global.length = 3 ∧ x.Lists.Own.length = 9) (hw : wk < 3) (hc : classInB x.Heap s = (c : Int)) (hcn : c < 3) (hg : genInB x.Heap s = g) (g0 : 1 ≤ g) (g6 : g ≤ 6) :
    Calls Tryz.prog 111 #[.agg #[.slice H.Heap.Bytes.a H.Heap.Bytes.len H.Heap.Bytes.cap, .slice H.Heap.Class.a H.Heap.Class.len H.Heap.Class.cap, .slice H.Lists.Global.a H.Lists.Global.len H.Lists.Global.cap, .slice H.Lists.Own.a H.Lists.Own.len H.Lists.Own.cap], .int .i64 wk, .int .i64 s] w fun e w' => ∃ H' : HMem, e = .returned (.agg #[.slice H'.Heap.Bytes.a H'.Heap.Bytes.len H'.Heap.Bytes.cap, .slice H'.Heap.Class.a H'.Heap.Class.len H'.Heap.Class.cap, .slice H'.Lists.Global.a H'.Lists.Global.len H'.Lists.Global.cap, .slice H'.Lists.Own.a H'.Lists.Own.len H'.Lists.Own.cap]) ∧ OwMem w' H' (freedM x wk s) ∧ (∀ g ∈ H'.foot, g ∈ H.foot ∨ w.heap.size ≤ g) ∧ Chg H.foot w w' := by
  have k1 : ¬ classInB x.Heap s < 0 := by rw [hc]; omega
  have HE := Hid.mk_ (freedM_eq (wk := wk) hc hg)
  have hgd := genIn_bd (shape_of hsh) k1
  have hl7 := fun (W : World) (hW : RdHeap W W.heap.size H.Heap x.Heap) => l7Class_spec W H.Heap x.Heap s hW hsh
  have hlg := fun (W : World) (hW : RdHeap W W.heap.size H.Heap x.Heap) => l7Gen_spec W H.Heap x.Heap s hW hsh k1
  rw [hc] at hl7 hgd
  rw [hg] at hlg
  have hga := fun W => GenAt_spec s (c : Int) W
  obtain ⟨P, hP⟩ : ∃ P : Nat, genAt s (c : Int) = (P : Int) := ⟨(genAt s (c : Int)).toNat, by omega⟩
  rw [hP] at hga hgd
  have HSG : Hid (setGenB x.Heap s (g + 1) = { x.Heap with Bytes := putAt x.Heap.Bytes P (digs 4 (g + 1)) }) := by
    show _ = _
    unfold setGenB
    rw [hc, hP, Int.toNat_natCast]
  have hst : ∀ W : World, OwL FI 3 W (.slice H.Heap.Bytes.a H.Heap.Bytes.len H.Heap.Bytes.cap) x.Heap.Bytes → Calls Tryz.prog 86 #[(.slice H.Heap.Bytes.a H.Heap.Bytes.len H.Heap.Bytes.cap), .int .i64 (P : Int), .int .i64 4, .int .i64 (g + 1)] W fun e w' => e = .returned (.slice H.Heap.Bytes.a H.Heap.Bytes.len H.Heap.Bytes.cap) ∧ OwL FI 3 w' (.slice H.Heap.Bytes.a H.Heap.Bytes.len H.Heap.Bytes.cap) (putAt x.Heap.Bytes P (digs 4 (g + 1))) ∧ Chg (foot1 (.slice H.Heap.Bytes.a H.Heap.Bytes.len H.Heap.Bytes.cap)) W w' := fun W o => l3Store_spec W _ x.Heap.Bytes P 4 (g + 1) o (by decide) (by decide) (by omega) (by omega) (by omega)
  have hgv := fun (W : World) (o : OwLists W H.Lists x.Lists) => l8Give_spec W H.Lists x.Lists wk c s o hs hll hw hcn
  have hf := h.lt
  clear hgd hP hc hg hsh hll hs k1
  have o := (h.alloc_ (.cells #[.slice H.Heap.Bytes.a H.Heap.Bytes.len H.Heap.Bytes.cap, .slice H.Heap.Class.a H.Heap.Class.len H.Heap.Class.cap, .slice H.Lists.Global.a H.Lists.Global.len H.Lists.Global.cap, .slice H.Lists.Own.a H.Lists.Own.len H.Lists.Own.cap] 31)).alloc_ (.cells #[.slice none 0 0, .slice none 0 0, .slice none 0 0, .slice none 0 0] 31)
  clear h
  have B_a : Box ((w.alloc (.cells #[.slice H.Heap.Bytes.a H.Heap.Bytes.len H.Heap.Bytes.cap, .slice H.Heap.Class.a H.Heap.Class.len H.Heap.Class.cap, .slice H.Lists.Global.a H.Lists.Global.len H.Lists.Global.cap, .slice H.Lists.Own.a H.Lists.Own.len H.Lists.Own.cap] 31)).alloc (.cells #[.slice none 0 0, .slice none 0 0, .slice none 0 0, .slice none 0 0] 31)) w.heap.size [.slice H.Heap.Bytes.a H.Heap.Bytes.len H.Heap.Bytes.cap, .slice H.Heap.Class.a H.Heap.Class.len H.Heap.Class.cap, .slice H.Lists.Global.a H.Lists.Global.len H.Lists.Global.cap, .slice H.Lists.Own.a H.Lists.Own.len H.Lists.Own.cap] := (Box.new w #[.slice H.Heap.Bytes.a H.Heap.Bytes.len H.Heap.Bytes.cap, .slice H.Heap.Class.a H.Heap.Class.len H.Heap.Class.cap, .slice H.Lists.Global.a H.Lists.Global.len H.Lists.Global.cap, .slice H.Lists.Own.a H.Lists.Own.len H.Lists.Own.cap] _).alloc _
  have B_r : Box ((w.alloc (.cells #[.slice H.Heap.Bytes.a H.Heap.Bytes.len H.Heap.Bytes.cap, .slice H.Heap.Class.a H.Heap.Class.len H.Heap.Class.cap, .slice H.Lists.Global.a H.Lists.Global.len H.Lists.Global.cap, .slice H.Lists.Own.a H.Lists.Own.len H.Lists.Own.cap] 31)).alloc (.cells #[.slice none 0 0, .slice none 0 0, .slice none 0 0, .slice none 0 0] 31)) (w.heap.size + 1) [.slice none 0 0, .slice none 0 0, .slice none 0 0, .slice none 0 0] := by
    have hb := Box.new (w.alloc (.cells #[.slice H.Heap.Bytes.a H.Heap.Bytes.len H.Heap.Bytes.cap, .slice H.Heap.Class.a H.Heap.Class.len H.Heap.Class.cap, .slice H.Lists.Global.a H.Lists.Global.len H.Lists.Global.cap, .slice H.Lists.Own.a H.Lists.Own.len H.Lists.Own.cap] 31)) #[.slice none 0 0, .slice none 0 0, .slice none 0 0, .slice none 0 0] 31
    rw [World.size_alloc] at hb
    exact hb
  have hB : Chg H.foot w ((w.alloc (.cells #[.slice H.Heap.Bytes.a H.Heap.Bytes.len H.Heap.Bytes.cap, .slice H.Heap.Class.a H.Heap.Class.len H.Heap.Class.cap, .slice H.Lists.Global.a H.Lists.Global.len H.Lists.Global.cap, .slice H.Lists.Own.a H.Lists.Own.len H.Lists.Own.cap] 31)).alloc (.cells #[.slice none 0 0, .slice none 0 0, .slice none 0 0, .slice none 0 0] 31)) := ((Chg.refl _ _).alloc_ _).alloc_ _
  go_enter Tryz.func111, Tryz.ntmps111
  go_wp2_with fail
  generalize hW0 : ((w.alloc (.cells #[.slice H.Heap.Bytes.a H.Heap.Bytes.len H.Heap.Bytes.cap, .slice H.Heap.Class.a H.Heap.Class.len H.Heap.Class.cap, .slice H.Lists.Global.a H.Lists.Global.len H.Lists.Global.cap, .slice H.Lists.Own.a H.Lists.Own.len H.Lists.Own.cap] 31)).alloc (.cells #[.slice none 0 0, .slice none 0 0, .slice none 0 0, .slice none 0 0] 31)) = w0 at o B_a B_r hB ⊢
  clear hW0
  refine (hl7 _ o.Heap.rd').mono ?_
  clear hl7
  rintro e w1 ⟨rfl, hb⟩
  replace B_a := B_a.below hb
  replace B_r := B_r.below hb
  replace o := o.step0 hb
  replace hB := hB.then_ (hb.mono hB.size)
  clear hb
  have q_a_0 := B_a.cell 0 _ rfl
  have q_a_1 := B_a.cell 1 _ rfl
  have q_a_2 := B_a.cell 2 _ rfl
  have q_a_3 := B_a.cell 3 _ rfl
  have q_r_0 := B_r.cell 0 _ rfl
  have q_r_1 := B_r.cell 1 _ rfl
  have q_r_2 := B_r.cell 2 _ rfl
  have q_r_3 := B_r.cell 3 _ rfl
  have fr_a := B_a.fro
  have z_a := B_a.lt
  have fr_r := B_r.fro
  have z_r := B_r.lt
  go_wp2_with fail
  refine (hlg _ o.Heap.rd').mono ?_
  clear hlg
  rintro e w2 ⟨rfl, hb⟩
  replace B_a := B_a.below hb
  replace B_r := B_r.below hb
  replace o := o.step0 hb
  replace hB := hB.then_ (hb.mono hB.size)
  clear hb
  replace q_a_0 := B_a.cell 0 _ rfl
  replace q_a_1 := B_a.cell 1 _ rfl
  replace q_a_2 := B_a.cell 2 _ rfl
  replace q_a_3 := B_a.cell 3 _ rfl
  replace q_r_0 := B_r.cell 0 _ rfl
  replace q_r_1 := B_r.cell 1 _ rfl
  replace q_r_2 := B_r.cell 2 _ rfl
  replace q_r_3 := B_r.cell 3 _ rfl
  replace fr_a := B_a.fro
  replace z_a := B_a.lt
  replace fr_r := B_r.fro
  replace z_r := B_r.lt
  go_wp2_with fail
  have ob : OwL FI 3 w2 (.slice H.Heap.Bytes.a H.Heap.Bytes.len H.Heap.Bytes.cap) x.Heap.Bytes := o.Heap.Bytes
  have obd : OwL FI 3 w2.drew (.slice H.Heap.Bytes.a H.Heap.Bytes.len H.Heap.Bytes.cap) x.Heap.Bytes := ob.keep (fun _ _ => rfl)
  go_region_with (first | (go_at_call 158; refine (hga _).mono ?_; rintro e wv ⟨rfl, rfl⟩) | (go_at_call 86; (first | ((with_reducible refine (hst _ ob).mono ?_); rintro e wq ⟨rfl, hbN, hx⟩; replace hx : Chg (foot1 H.Heap.Bytes.val) w2 wq := ⟨hx.os, hx.tape, hx.output, hx.size, hx.block⟩; replace B_a := B_a.chg hx (fun hm => by have := hf _ (HMem.bytes_foot hm); omega); replace B_r := B_r.chg hx (fun hm => by have := hf _ (HMem.bytes_foot hm); omega); replace o : OwMem wq H { x with Heap := setGenB x.Heap s (g + 1) } := (by rw [HSG.out]; exact o.setBytes hbN hx); replace hB := hB.trans (hx.mono (fun b hb => HMem.bytes_foot hb)); replace q_a_0 := B_a.cell 0 _ rfl; replace q_a_1 := B_a.cell 1 _ rfl; replace q_a_2 := B_a.cell 2 _ rfl; replace q_a_3 := B_a.cell 3 _ rfl; replace q_r_0 := B_r.cell 0 _ rfl; replace q_r_1 := B_r.cell 1 _ rfl; replace q_r_2 := B_r.cell 2 _ rfl; replace q_r_3 := B_r.cell 3 _ rfl; replace fr_a := B_a.fro; replace z_a := B_a.lt; replace fr_r := B_r.fro; replace z_r := B_r.lt) | ((with_reducible refine (hst _ obd).mono ?_); rintro e wq ⟨rfl, hbN, hx⟩; replace hx : Chg (foot1 H.Heap.Bytes.val) w2 wq := ⟨hx.os, hx.tape, hx.output, hx.size, hx.block⟩; replace B_a := B_a.chg hx (fun hm => by have := hf _ (HMem.bytes_foot hm); omega); replace B_r := B_r.chg hx (fun hm => by have := hf _ (HMem.bytes_foot hm); omega); replace o : OwMem wq H { x with Heap := setGenB x.Heap s (g + 1) } := (by rw [HSG.out]; exact o.setBytes hbN hx); replace hB := hB.trans (hx.mono (fun b hb => HMem.bytes_foot hb)); replace q_a_0 := B_a.cell 0 _ rfl; replace q_a_1 := B_a.cell 1 _ rfl; replace q_a_2 := B_a.cell 2 _ rfl; replace q_a_3 := B_a.cell 3 _ rfl; replace q_r_0 := B_r.cell 0 _ rfl; replace q_r_1 := B_r.cell 1 _ rfl; replace q_r_2 := B_r.cell 2 _ rfl; replace q_r_3 := B_r.cell 3 _ rfl; replace fr_a := B_a.fro; replace z_a := B_a.lt; replace fr_r := B_r.fro; replace z_r := B_r.lt))))
  all_goals
    clear hga hst ob obd
    by_cases kg : g + 1 ≤ 6
    case pos =>
      have HF : Hid (freedM x wk s = ⟨setGenB x.Heap s (g + 1), giveL x.Lists (wk * 3 + c) c s⟩) := by rw [HE.out, if_pos kg]; exact rfl
      go_wp2_with fail
      replace B_a := B_a.set 0 (.slice H.Heap.Bytes.a H.Heap.Bytes.len H.Heap.Bytes.cap)
      replace B_r := B_r.other (g' := w.heap.size) (i := 0) (by omega) (.slice H.Heap.Bytes.a H.Heap.Bytes.len H.Heap.Bytes.cap)
      replace o := o.chg (F := [w.heap.size]) ((Chg.refl _ wq).set_ (g := w.heap.size) (i := 0) (by simp) (.slice H.Heap.Bytes.a H.Heap.Bytes.len H.Heap.Bytes.cap)) (fun b hb hm => by simp only [List.mem_cons, List.not_mem_nil, or_false] at hm; have := hf b hb; omega)
      replace hB := hB.set_new (g := w.heap.size) (i := 0) (Nat.le_refl _) (.slice H.Heap.Bytes.a H.Heap.Bytes.len H.Heap.Bytes.cap)
      generalize hW3 : wq.setCell ⟨w.heap.size, 0, none⟩ (.slice H.Heap.Bytes.a H.Heap.Bytes.len H.Heap.Bytes.cap) = w4 at o B_a B_r hB ⊢
      clear hW3
      refine (hgv _ o.Lists).mono ?_
      rintro e w5 ⟨K, rfl, hN, hfN, hx⟩
      have hsz4 := hB.size
      have hz4 : w.heap.size + 1 < w4.heap.size := B_r.lt
      have hLF := fun b (hb : b ∈ H.Lists.foot) => (show b ∈ H.foot from HMem.mem_foot.2 (.inr hb))
      replace B_a := B_a.chg hx (fun hm => by have := hf _ (hLF _ hm); omega)
      replace B_r := B_r.chg hx (fun hm => by have := hf _ (hLF _ hm); omega)
      have oN := owMem_lists o hN hx hfN
      replace hB := hB.trans (hx.mono hLF)
      have q_a_0 := B_a.cell 0 _ rfl
      have q_a_1 := B_a.cell 1 _ rfl
      have q_a_2 := B_a.cell 2 _ rfl
      have q_a_3 := B_a.cell 3 _ rfl
      have q_r_0 := B_r.cell 0 _ rfl
      have q_r_1 := B_r.cell 1 _ rfl
      have q_r_2 := B_r.cell 2 _ rfl
      have q_r_3 := B_r.cell 3 _ rfl
      have fr_a := B_a.fro
      have z_a := B_a.lt
      have fr_r := B_r.fro
      have z_r := B_r.lt
      have hfK : ∀ b ∈ HMem.foot ⟨H.Heap, K⟩, b ∈ H.foot ∨ (w4.heap.size ≤ b ∧ w.heap.size + 1 < b) := by
        intro b hb
        rcases HMem.mem_foot.1 hb with hb | hb
        · exact .inl (HMem.mem_foot.2 (.inl hb))
        · rcases hfN b hb with hh | hh
          · exact .inl (hLF b hh)
          · exact .inr ⟨hh, by omega⟩
      go_wp2_with fail
      refine bodyPost_ret (v := .agg #[.slice H.Heap.Bytes.a H.Heap.Bytes.len H.Heap.Bytes.cap, .slice H.Heap.Class.a H.Heap.Class.len H.Heap.Class.cap, .slice K.Global.a K.Global.len K.Global.cap, .slice K.Own.a K.Own.len K.Own.cap]) (by simp [results, Tryz.results111, go_sem, q_r_0, q_r_1, q_r_2, q_r_3]) rfl ⟨⟨H.Heap, K⟩, rfl, by rw [HF.out]; exact oN.chg (F := [w.heap.size + 1, w.heap.size]) (by repeat (first | with_reducible exact Chg.refl _ _ | with_reducible refine Chg.set_ ?_ (by simp) _ | with_reducible refine Chg.alloc_ ?_ _ | with_reducible refine Chg.drew_ ?_)) (fun b hb hm => by simp only [List.mem_cons, List.not_mem_nil, or_false] at hm; rcases hfK b hb with hh | hh; (have := hf b hh; omega); omega), fun b hb => by rcases hfK b hb with hh | hh; (exact .inl hh); (right; omega), ?_⟩
      exact hB.trans_out (g := w.heap.size + 1) (r := w.heap.size) (by repeat (first | with_reducible exact Chg.refl _ _ | with_reducible refine Chg.set_ ?_ (by simp) _ | with_reducible refine Chg.alloc_ ?_ _ | with_reducible refine Chg.drew_ ?_)) (by omega)
    case neg =>
      have HF : Hid (freedM x wk s = ⟨setGenB x.Heap s (g + 1), x.Lists⟩) := by rw [HE.out, if_neg kg]; exact rfl
      go_wp2_with fail
      refine bodyPost_ret (v := .agg #[.slice H.Heap.Bytes.a H.Heap.Bytes.len H.Heap.Bytes.cap, .slice H.Heap.Class.a H.Heap.Class.len H.Heap.Class.cap, .slice H.Lists.Global.a H.Lists.Global.len H.Lists.Global.cap, .slice H.Lists.Own.a H.Lists.Own.len H.Lists.Own.cap]) (by simp [results, Tryz.results111, go_sem, q_r_0, q_r_1, q_r_2, q_r_3]) rfl ⟨H, rfl, by rw [HF.out]; exact o.chg (F := [w.heap.size + 1, w.heap.size]) (by repeat (first | with_reducible exact Chg.refl _ _ | with_reducible refine Chg.set_ ?_ (by simp) _ | with_reducible refine Chg.alloc_ ?_ _ | with_reducible refine Chg.drew_ ?_)) (fun b hb hm => by simp only [List.mem_cons, List.not_mem_nil, or_false] at hm; have := hf b hb; omega), fun b hb => .inl hb, ?_⟩
      exact hB.trans_out (g := w.heap.size + 1) (r := w.heap.size) (by repeat (first | with_reducible exact Chg.refl _ _ | with_reducible refine Chg.set_ ?_ (by simp) _ | with_reducible refine Chg.alloc_ ?_ _ | with_reducible refine Chg.drew_ ?_)) (by omega)
end Go.Proofs.YtkmggglljkmjoaaGreat

