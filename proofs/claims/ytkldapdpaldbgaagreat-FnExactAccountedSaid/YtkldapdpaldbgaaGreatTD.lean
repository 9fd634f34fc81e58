/-
  Work to do: the contracts of its test.
-/
import Derived.Test.YtkldapdpaldbgaaGreatT
import Derived.Test.YtkldapdpaldbgaaGreatL
import Derived.Deep.QuietTactic
import Derived.BigQuiet
import Derived.Deep.LoopGhost
import Derived.Deep.RegionHeld3
import Derived.Test.YtkldapdpaldbgaaGreatN
import Derived.Test.YtkldapdpaldbgaaGreatA
import Derived.WalkSpells
import Derived.Laws.Cover3
import Derived.Test.YtkldapdpaldbgaaGreatSI
namespace Go.Proofs.YtkldapdpaldbgaaGreat
open Go.RowKit
def opOkB (k c s v : Int) : Bool :=
  decide (1 ≤ k ∧ k ≤ 7) && (if k = 1 ∨ k = 2 ∨ k = 3 ∨ k = 7 then decide (0 ≤ c ∧ c ≤ 1) else decide (c = 0)) && (if k = 1 then decide (0 ≤ s ∧ s ≤ 100 ∧ 0 ≤ v ∧ v ≤ 65535) else decide (s = 0 ∧ v = 0))

set_option maxHeartbeats 2000000 in
theorem opOk_impl (k c s v : Int) (w : World) : Calls Tryz.prog 190 #[.agg #[.int .i64 k, .int .i64 c, .int .i64 s, .int .i64 v]] w fun e w' => e = .returned (.bool (opOkB k c s v)) ∧ Below w.heap.size w w' := by
  by_cases hc : k = 1 ∨ k = 2 ∨ k = 3 ∨ k = 4 ∨ k = 5 ∨ k = 6 ∨ k = 7
  · rcases hc with rfl | rfl | rfl | rfl | rfl | rfl | rfl <;>
      (go_enter Tryz.func190, Tryz.ntmps190; go_wp2; all_goals (go_ret; exact ⟨ret_bool (by rw [Bool.eq_iff_iff]; simp [opOkB] at *; try omega), by repeat (first | exact Below.refl _ _ | refine Below.alloc ?_ (by simp <;> omega) _ | refine below_grow_of ?_ (by simp <;> omega) _ _ | refine Below.drew ?_)⟩))
  · by_cases h1 : 1 ≤ k
    · go_enter Tryz.func190, Tryz.ntmps190
      go_wp2
      all_goals (go_ret; exact ⟨ret_bool (by rw [Bool.eq_iff_iff]; simp [opOkB] at *; try omega), by repeat (first | exact Below.refl _ _ | refine Below.alloc ?_ (by simp <;> omega) _ | refine below_grow_of ?_ (by simp <;> omega) _ _ | refine Below.drew ?_)⟩)
    · go_enter Tryz.func190, Tryz.ntmps190
      go_wp2
      all_goals (go_ret; exact ⟨ret_bool (by rw [Bool.eq_iff_iff]; simp [opOkB] at *; try omega), by repeat (first | exact Below.refl _ _ | refine Below.alloc ?_ (by simp <;> omega) _ | refine below_grow_of ?_ (by simp <;> omega) _ _ | refine Below.drew ?_)⟩)

set_option maxHeartbeats 2000000 in
theorem opOk_spec (k c s v : Int) (w : World) : Calls Tryz.prog 109 #[.agg #[.int .i64 k, .int .i64 c, .int .i64 s, .int .i64 v]] w fun e w' => e = .returned (.bool (opOkB k c s v)) ∧ Below w.heap.size w w' := by
  by_cases hc : k = 1 ∨ k = 2 ∨ k = 3 ∨ k = 4 ∨ k = 5 ∨ k = 6 ∨ k = 7
  · rcases hc with rfl | rfl | rfl | rfl | rfl | rfl | rfl <;>
      (go_enter Tryz.func109, Tryz.ntmps109; go_wp2; all_goals (go_ret; exact ⟨ret_bool (by rw [Bool.eq_iff_iff]; simp [opOkB] at *; try omega), by repeat (first | exact Below.refl _ _ | refine Below.alloc ?_ (by simp <;> omega) _ | refine below_grow_of ?_ (by simp <;> omega) _ _ | refine Below.drew ?_)⟩))
  · by_cases h1 : 1 ≤ k
    · go_enter Tryz.func109, Tryz.ntmps109
      go_wp2
      all_goals (go_ret; exact ⟨ret_bool (by rw [Bool.eq_iff_iff]; simp [opOkB] at *; try omega), by repeat (first | exact Below.refl _ _ | refine Below.alloc ?_ (by simp <;> omega) _ | refine below_grow_of ?_ (by simp <;> omega) _ _ | refine Below.drew ?_)⟩)
    · go_enter Tryz.func109, Tryz.ntmps109
      go_wp2
      all_goals (go_ret; exact ⟨ret_bool (by rw [Bool.eq_iff_iff]; simp [opOkB] at *; try omega), by repeat (first | exact Below.refl _ _ | refine Below.alloc ?_ (by simp <;> omega) _ | refine below_grow_of ?_ (by simp <;> omega) _ _ | refine Below.drew ?_)⟩)

def opOkS (o : Op) : Bool := opOkB o.Kind o.Cell o.Size o.Val
def todoOkB (ll : List (List Op)) : Bool := (ll.length == 3) && ll.all fun q => decide (q.length ≤ 12) && q.all opOkS
theorem OwLL.nil_ {α : Type} {T : FT α} {e E : TypeId} {w : World} : OwLL T e E w (.slice none 0 0) [] [] := ⟨rfl, World.ownsRow_nil _ _ _ _, fun k s l h => by simp at h, by simp [foot2, foot1, Value.ownBlock]⟩

set_option maxHeartbeats 1000000 in
theorem todoOk2_impl (x : Op) (w : World) : Calls Tryz.prog 189 #[.agg #[.int .i64 x.Kind, .int .i64 x.Cell, .int .i64 x.Size, .int .i64 x.Val]] w fun e w' => e = .returned (.bool (!opOkS x)) ∧ Below w.heap.size w w' := by
  have k := opOk_impl x.Kind x.Cell x.Size x.Val
  rw [show opOkB x.Kind x.Cell x.Size x.Val = opOkS x from rfl] at k
  go_enter Tryz.func189, Tryz.ntmps189
  go_wp2_with fail
  refine (k _).mono ?_
  rintro e w1 ⟨rfl, hb1⟩
  go_wp2
  go_ret
  exact ⟨rfl, ((Below.refl _ _).alloc (Nat.le_refl _) _).trans (hb1.mono (by simp))⟩
set_option maxHeartbeats 1000000 in
theorem todoOk1_impl (A : Option Addr) (c : Nat) (l : List Op) (w : World) (h : RdL FOp w w.heap.size (.slice A l.length c) l) :
    Calls Tryz.prog 187 #[.agg #[.slice A l.length c]] w fun e w' => e = .returned (.bool (!(decide (l.length ≤ 12) && l.all opOkS))) ∧ Below w.heap.size w w' := by
  obtain ⟨_, hln⟩ := RdL.len_ h
  have HA := Hid.mk_ (all_not_any opOkS l)
  by_cases c12 : l.length ≤ 12
  · have HD := Hid.mk_ (decide_eq_true c12)
    go_enter Tryz.func187, Tryz.ntmps187
    go_wp2_with fail
    refine (ContainsFuncOp_ct _ _ l (rd_up h (by repeat (first | exact Below.refl _ _ | refine Below.alloc ?_ (by simp <;> omega) _ | refine below_grow_of ?_ (by simp <;> omega) _ _ | refine Below.drew ?_ | refine below_drewN ?_ _))) 189 #[] (fun o => !opOkS o) (fun _ _ => by kernel_rfl) (fun x W _ _ => todoOk2_impl x W)).mono ?_
    rintro e w1 ⟨rfl, hb1⟩
    go_wp2
    go_ret
    exact ⟨ret_bool (by rw [HD.out, HA.out]; simp; try (intro hh; omega)), ((Below.refl _ _).alloc (Nat.le_refl _) _).trans (hb1.mono (by simp))⟩
  · have HD := Hid.mk_ (decide_eq_false c12)
    have c13 : 12 < l.length := by omega
    clear c12
    go_enter Tryz.func187, Tryz.ntmps187
    go_wp2
    go_ret
    exact ⟨ret_bool (by rw [HD.out]; simp), by repeat (first | exact Below.refl _ _ | refine Below.alloc ?_ (by simp <;> omega) _ | refine below_grow_of ?_ (by simp <;> omega) _ _ | refine Below.drew ?_ | refine below_drewN ?_ _)⟩
set_option maxHeartbeats 1000000 in
theorem todoOk_impl (w : World) (v : Value) (t : List SV) (ll : List (List Op)) (h : RdLL FOp w w.heap.size v t ll) :
    Calls Tryz.prog 110 #[v] w fun e w' => e = .returned (.bool (todoOkB ll)) ∧ Below w.heap.size w w' := by
  obtain ⟨A, c, hv, _⟩ := id h.outer
  subst hv
  obtain ⟨en, hcap, hmx⟩ := h.len'
  have hlt0 : ll.length ≤ 9223372036854775807 := by unfold maxLen at hmx; omega
  rw [en] at h ⊢
  clear en hcap hmx
  have HE := Hid.mk_ (show todoOkB ll = ((ll.length == 3) && ll.all fun q => decide (q.length ≤ 12) && q.all opOkS) from rfl)
  have HA := Hid.mk_ (all_not_any (fun q : List Op => decide (q.length ≤ 12) && q.all opOkS) ll)
  by_cases c3 : ll.length = 3
  case neg =>
    have c3' : ((ll.length : Int) == 3) = false := by simp; omega
    have HF := Hid.mk_ (show (ll.length == 3) = false by simpa using c3)
    clear c3
    go_enter Tryz.func110, Tryz.ntmps110
    go_wp2
    go_ret
    exact ⟨ret_bool (by rw [HE.out, HF.out]; rfl), Below.refl _ _⟩
  have c3' : ((ll.length : Int) == 3) = true := by simp; omega
  have HF := Hid.mk_ (show (ll.length == 3) = true by simpa using c3)
  clear c3
  go_enter Tryz.func110, Tryz.ntmps110
  go_wp2_with fail
  refine (ContainsFuncQ_ct _ _ t ll h 187 #[] (fun q => !(decide (q.length ≤ 12) && q.all opOkS)) (fun _ _ _ _ => by kernel_rfl) (fun A c l W _ hr => todoOk1_impl A c l W hr)).mono ?_
  rintro e w1 ⟨rfl, hb1⟩
  go_wp2
  go_ret
  exact ⟨ret_bool (by rw [HE.out, HF.out, HA.out]; simp), hb1⟩

set_option maxRecDepth 100000 in
set_option maxHeartbeats 2000000 in
theorem todoOk_spec (w : World) (v : Value) (t : List SV) (ll : List (List Op)) (h : RdLL FOp w w.heap.size v t ll) :
    Calls Tryz.prog 106 #[v] w fun e w' => e = .returned (.bool (todoOkB ll)) ∧ Below w.heap.size w w' := by
  obtain ⟨A, c, hv, _⟩ := id h.outer
  subst hv
  obtain ⟨en, hcap, hmx⟩ := h.len'
  have hlt0 : ll.length ≤ 9223372036854775807 := by unfold maxLen at hmx; omega
  rw [en] at h ⊢
  clear en hcap hmx
  have HE := Hid.mk_ (show todoOkB ll = ((ll.length == 3) && ll.all fun q => decide (q.length ≤ 12) && q.all opOkS) from rfl)
  go_enter Tryz.func106, Tryz.ntmps106
  go_wp2
  go_loopw [3] (fun i wr => ∃ k : Nat, k ≤ ll.length ∧ i = .int .i64 k ∧ Hid ((ll.take k).all (fun q => decide (q.length ≤ 12) && q.all opOkS) = true) ∧ Below w.heap.size w wr) (fun i _ => ll.length - (intOf i).toNat)
  case atStart => exact ⟨0, Nat.zero_le _, rfl, rfl, Below.refl _ _⟩
  case round =>
    obtain ⟨i, hi, rfl, HT, hb⟩ := hrel
    by_cases hlt : i < ll.length
    · obtain ⟨g, o, A', c', rfl, hg, p0, r1⟩ := h.row hb hlt
      obtain ⟨_, hln⟩ := RdL.len_ r1
      have HS := Hid.mk_ (show (ll.take (i + 1)).all (fun q => decide (q.length ≤ 12) && q.all opOkS) = ((ll.take i).all (fun q => decide (q.length ≤ 12) && q.all opOkS) && (decide (ll[i].length ≤ 12) && ll[i].all opOkS)) by rw [List.take_succ_eq_append_getElem hlt, List.all_append]; simp)
      have HX := Hid.mk_ (fun hp : (decide (ll[i].length ≤ 12) && ll[i].all opOkS) = false => (show todoOkB ll = false by rw [HE.out, show (ll.all fun q => decide (q.length ≤ 12) && q.all opOkS) = false from List.all_eq_false.2 ⟨ll[i], List.getElem_mem hlt, by simpa using hp⟩]; simp))
      clear h
      generalize ll[i] = l at *
      by_cases c12 : l.length ≤ 12
      case neg =>
        have HN := Hid.mk_ (HX.out (by rw [decide_eq_false c12]; rfl))
        have c13 : 12 < l.length := by omega
        clear c12
        go_wp2
        go_ret
        exact ⟨ret_bool HN.out.symm, hb⟩
      have HD := Hid.mk_ (decide_eq_true c12)
      go_wp2
      go_loopw [4] (fun i wr' => ∃ k : Nat, k ≤ l.length ∧ i = .int .i64 k ∧ Hid ((l.take k).all opOkS = true) ∧ Below w.heap.size w wr') (fun i _ => l.length - (intOf i).toNat)
      case atStart => exact ⟨0, Nat.zero_le _, rfl, rfl, hb⟩
      case round =>
        obtain ⟨j, hj, rfl, HU, hb2⟩ := hrel
        have p2 := (hb2.cell (p := ⟨g, o + i, none⟩) hg).trans ((hb.cell (p := ⟨g, o + i, none⟩) hg).symm.trans p0)
        by_cases hl2 : j < l.length
        · obtain ⟨g2, o2, cap2, he, hg2, _, _, hc⟩ := (r1.below hb2).at_ (List.getElem?_eq_getElem hl2)
          injection he with he1 he2 he3
          clear he2
          subst he1 he3
          have z0 : wr.cell? ⟨g2, o2 + j * 4, none⟩ = some (.int .i64 l[j].Kind) := hc 0 _ rfl
          have z1 : wr.cell? ⟨g2, o2 + j * 4 + 1, none⟩ = some (.int .i64 l[j].Cell) := hc 1 _ rfl
          have z2 : wr.cell? ⟨g2, o2 + j * 4 + 2, none⟩ = some (.int .i64 l[j].Size) := hc 2 _ rfl
          have z3 : wr.cell? ⟨g2, o2 + j * 4 + 3, none⟩ = some (.int .i64 l[j].Val) := hc 3 _ rfl
          clear hc r1
          have HS2 := Hid.mk_ (show (l.take (j + 1)).all opOkS = ((l.take j).all opOkS && opOkS l[j]) by rw [List.take_succ_eq_append_getElem hl2, List.all_append]; simp)
          have HX2 := Hid.mk_ (fun hp : opOkS l[j] = false => (show l.all opOkS = false from List.all_eq_false.2 ⟨l[j], List.getElem_mem hl2, by rw [hp]; decide⟩))
          have k := opOk_spec l[j].Kind l[j].Cell l[j].Size l[j].Val
          rw [show opOkB l[j].Kind l[j].Cell l[j].Size l[j].Val = opOkS l[j] from rfl] at k
          generalize l[j] = op at *
          cases hop : opOkS op with
          | false =>
            rw [hop] at k
            have HN := Hid.mk_ (HX.out (by rw [HX2.out hop, Bool.and_false]))
            clear hop
            go_wp2_with fail
            refine (k _).mono ?_
            rintro e w5 ⟨rfl, hb5⟩
            go_wp2
            go_ret
            exact ⟨ret_bool HN.out.symm, hb2.trans (hb5.mono hb2.size)⟩
          | true =>
            rw [hop] at k
            have HN := Hid.mk_ (show (l.take (j + 1)).all opOkS = true by rw [HS2.out, HU.out, hop]; rfl)
            clear hop
            go_wp2_with fail
            refine (k _).mono ?_
            rintro e w5 ⟨rfl, hb5⟩
            go_wp2
            go_roundw
            case rel => exact ⟨j + 1, by omega, by go_num, HN, hb2.trans (hb5.mono hb2.size)⟩
            case measure => simp [intOf]; omega
        · have HL := Hid.mk_ (show l.all opOkS = true by have a := HU.out; rwa [List.take_of_length_le (by omega)] at a)
          have HN := Hid.mk_ (show (ll.take (i + 1)).all (fun q => decide (q.length ≤ 12) && q.all opOkS) = true by rw [HS.out, HT.out, HD.out, HL.out]; rfl)
          go_wp2
          go_roundw
          case rel => exact ⟨i + 1, by omega, by go_num, HN, hb2⟩
          case measure => simp [intOf]; omega
    · have HL := Hid.mk_ (show (ll.all fun q => decide (q.length ≤ 12) && q.all opOkS) = true by have a := HT.out; rwa [List.take_of_length_le (by omega)] at a)
      go_wp2
      go_ret
      exact ⟨ret_bool (by rw [HE.out, HL.out, Bool.and_true, Bool.eq_iff_iff]; simp; omega), hb⟩
end Go.Proofs.YtkldapdpaldbgaaGreat
