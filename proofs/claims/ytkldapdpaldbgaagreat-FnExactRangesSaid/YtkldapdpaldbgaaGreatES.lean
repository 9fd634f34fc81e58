/-
  Spans: compared, made, measured, marked.
-/
import Derived.Test.YtkldapdpaldbgaaGreatT
import Derived.Test.YtkldapdpaldbgaaGreatL
import Derived.Deep.QuietTactic
import Derived.BigQuiet
import Derived.Deep.LoopGhost
import Derived.Deep.RegionHeld3
import Derived.Test.YtkldapdpaldbgaaGreatN
import Derived.Test.YtkldapdpaldbgaaGreatA
import Derived.WalkSpells
import Derived.Laws.Cover3
import Derived.Test.YtkldapdpaldbgaaGreatEL
namespace Go.Proofs.YtkldapdpaldbgaaGreat
open Go.RowKit
def mkSpan (k : Int) : Span := ⟨k, k + 1⟩

set_option maxHeartbeats 2000000 in
theorem eqSpan_ct (a0 a1 : Int) (w : World) : Calls Tryz.prog 105 #[.agg #[.int .i64 a0, .int .i64 a1], .agg #[.int .i64 a0, .int .i64 a1]] w fun e w' => e = .returned (.bool true) ∧ Below w.heap.size w w' := by
  go_enter Tryz.func105, Tryz.ntmps105
  go_wp2
  go_ret
  exact ⟨rfl, by repeat (first | exact Below.refl _ _ | refine Below.alloc ?_ (by simp <;> omega) _ | refine below_grow_of ?_ (by simp <;> omega) _ _ | refine Below.drew ?_ | refine below_drewN ?_ _)⟩

theorem Tryz.infoSpan : (Tryz.prog.info? 88).map (fun i => (i.zero, i.size, i.bytes)) = some (some (.agg #[.int .i64 0, .int .i64 0]), FSpan.n, 16) := by kernel_rfl
set_option maxHeartbeats 1000000 in
theorem eqSpanS_ct (w : World) (v1 v2 : Value) (l : List Span) (h1 : RdL FSpan w w.heap.size v1 l) (h2 : RdL FSpan w w.heap.size v2 l) (hs : l.length ≤ 1073741824) :
    Calls Tryz.prog 39 #[v1, v2] w fun e w' => e = .returned (.bool true) ∧ Below w.heap.size w w' := by
  obtain ⟨A1, c1, hv1, _⟩ := id h1
  obtain ⟨A2, c2, hv2, _⟩ := id h2
  subst hv1 hv2
  go_enter Tryz.func39, Tryz.ntmps39
  go_wp2
  go_loopw [5] (fun i wr => ∃ k : Nat, k ≤ l.length ∧ i = .int .i64 k ∧ Below w.heap.size w wr) (fun i _ => l.length - (intOf i).toNat)
  case atStart => exact ⟨0, Nat.zero_le _, rfl, Below.refl _ _⟩
  case round =>
    obtain ⟨i, hk, rfl, hb⟩ := hrel
    by_cases hlt : i < l.length
    · obtain ⟨g1, o1, cap1, e1, b1, _, _, q1⟩ := (h1.below hb).at_ (List.getElem?_eq_getElem hlt)
      obtain ⟨g2, o2, cap2, e2, b2, _, _, q2⟩ := (h2.below hb).at_ (List.getElem?_eq_getElem hlt)
      injection e1 with e11 _ e13
      injection e2 with e21 _ e23
      subst e11 e13 e21 e23
      have z1 : g1 < wr.heap.size := Nat.lt_of_lt_of_le b1 hb.size
      have z0 : w.heap.size ≤ wr.heap.size := hb.size
      have z2 : g2 < wr.heap.size := Nat.lt_of_lt_of_le b2 hb.size
      have p0 : wr.cell? ⟨g1, o1 + i * 2, none⟩ = some (.int .i64 l[i].From) := q1 0 _ rfl
      have p1 : wr.cell? ⟨g1, o1 + i * 2 + 1, none⟩ = some (.int .i64 l[i].To) := q1 1 _ rfl
      have r0 : wr.cell? ⟨g2, o2 + i * 2, none⟩ = some (.int .i64 l[i].From) := q2 0 _ rfl
      have r1 : wr.cell? ⟨g2, o2 + i * 2 + 1, none⟩ = some (.int .i64 l[i].To) := q2 1 _ rfl
      clear q1 q2
      go_wp2
      go_region_held3 (fun w' => w'.cell? ⟨g1, o1 + i * 2, none⟩ = some (.int .i64 l[i].From) ∧ w'.cell? ⟨g1, o1 + i * 2 + 1, none⟩ = some (.int .i64 l[i].To) ∧ w'.cell? ⟨g2, o2 + i * 2, none⟩ = some (.int .i64 l[i].From) ∧ w'.cell? ⟨g2, o2 + i * 2 + 1, none⟩ = some (.int .i64 l[i].To) ∧ g1 < w'.heap.size ∧ g2 < w'.heap.size ∧ Below w.heap.size w w') (first | (go_keep; done) | ((try go_split_ands); refine ⟨?_, ?_, ?_, ?_, ?_, ?_, ?_⟩; all_goals first | assumption | exact Below.drew (by assumption) | (simp [go_sem, *]; done) | exact below_grow_of (by assumption) (by omega) _ _ | (rw [size_grow]; omega))) ((go_at_call 105; refine (eqSpan_ct _ _ _).mono ?_; rintro e w1 ⟨rfl, hb1⟩; obtain ⟨os1, d1, rfl⟩ := below_grows hb1; clear hb1))
      go_wp2
      go_roundw
      case rel => exact ⟨i + 1, by omega, by go_num, by first | assumption | (try go_split_ands; assumption)⟩
      case measure => simp [intOf]; omega
    · go_wp2
      go_ret
      exact ⟨rfl, hb⟩

set_option maxHeartbeats 1000000 in
theorem markSpanS_ct (w : World) (v : Value) (l : List Span) (k : Int) (h : OwL FSpan 88 w v l) (hk0 : 0 ≤ k) (hk1 : (k + (l.length : Int) * 2) ≤ 4611686018427387904) :
    Calls Tryz.prog 40 #[v, .int .i64 k] w fun e w' => e = .returned (.int .i64 (k + (l.length : Int) * 2)) ∧ OwL FSpan 88 w' v (marks mkSpan 2 l l.length k) ∧ w.grownBy w' v.ownBlock ∧ w'.heap.size = w.heap.size := by
  rcases h.form with ⟨rfl, rfl⟩ | ⟨g, cap, hv, hg, hl, hc⟩
  · go_enter Tryz.func40, Tryz.ntmps40
    go_wp2
    go_loop [1, 5] (fun q i => q = .int .i64 k ∧ i = .int .i64 0) (fun _ _ => 0)
    case atStart => exact ⟨rfl, rfl⟩
    case round =>
      obtain ⟨rfl, rfl⟩ := hrel
      go_wp2
      go_ret
      exact ⟨by simp, h, World.grownBy.refl _ _, rfl⟩
  subst hv
  go_enter Tryz.func40, Tryz.ntmps40
  go_wp2
  go_loopw [1, 5] (fun q i wr => ∃ i' : Nat, i' ≤ l.length ∧ i = .int .i64 i' ∧ q = .int .i64 (k + (i' : Int) * 2) ∧ OwL FSpan 88 wr (.slice (some ⟨g, 0, none⟩) l.length cap) (marks mkSpan 2 l i' k) ∧ w.grownBy wr (some g) ∧ wr.heap.size = w.heap.size) (fun _ i _ => l.length - (intOf i).toNat)
  case atStart => exact ⟨0, Nat.zero_le _, rfl, by simp, h, World.grownBy.refl _ _, rfl⟩
  case round =>
    obtain ⟨i, hi, rfl, rfl, ho, hgr, hsz⟩ := hrel
    by_cases hlt : i < l.length
    · have hx := marks_get mkSpan 2 l i k hlt
      have hf := ho.frozen_
      have c0 : wr.cell? ⟨g, i * 2, none⟩ = some (.int .i64 l[i].From) := ho.cell_ (j := 0) hx (by decide)
      have c1 : wr.cell? ⟨g, i * 2 + 1, none⟩ = some (.int .i64 l[i].To) := ho.cell_ (j := 1) hx (by decide)
      clear h
      go_wp2
      clear hf c0 c1
      go_roundw
      case rel =>
        have s0 := ho.set_ (j := 0) (y := (⟨(k + (i : Int) * 2), l[i].To⟩ : Span)) (u := .int .i64 (k + (i : Int) * 2)) hx (by decide) rfl
        have s1 := s0.set_ (j := 1) (y := (⟨(k + (i : Int) * 2), (k + (i : Int) * 2 + 1)⟩ : Span)) (u := .int .i64 (k + (i : Int) * 2 + 1)) (set_get (⟨(k + (i : Int) * 2), l[i].To⟩ : Span) hx) (by decide) rfl
        refine ⟨i + 1, by omega, by go_num, by go_num, ?_, grown_set (grown_set (hgr) _ _) _ _, by simp [hsz]⟩
        simp only [List.set_set] at s1
        have e := marks_step mkSpan 2 l i k hlt
        rw [← e]
        exact s1
      case measure => simp [intOf]; omega
    · go_wp2
      go_ret
      obtain rfl : i = l.length := by omega
      exact ⟨rfl, ho, hgr, hsz⟩

set_option maxHeartbeats 1000000 in
theorem heldSpanS_ct (w : World) (v : Value) (l : List Span) (k : Int) (h : RdL FSpan w w.heap.size v (marks mkSpan 2 l l.length k)) (hk0 : 0 ≤ k) (hk1 : (k + (l.length : Int) * 2) ≤ 4611686018427387904) :
    Calls Tryz.prog 41 #[v, .int .i64 k] w fun e w' => e = .returned (.int .i64 (k + (l.length : Int) * 2)) ∧ Below w.heap.size w w' := by
  obtain ⟨A, cap, hv, _⟩ := id h
  rw [marks_length] at hv
  subst hv
  go_enter Tryz.func41, Tryz.ntmps41
  go_wp2
  go_loopw [1, 5] (fun q i wr => ∃ i' : Nat, i' ≤ l.length ∧ i = .int .i64 i' ∧ q = .int .i64 (k + (i' : Int) * 2) ∧ Below w.heap.size w wr) (fun _ i _ => l.length - (intOf i).toNat)
  case atStart => exact ⟨0, Nat.zero_le _, rfl, by simp, Below.refl _ _⟩
  case round =>
    obtain ⟨i, hi, rfl, rfl, hb⟩ := hrel
    by_cases hlt : i < l.length
    · obtain ⟨g, off, cap', he, _, _, _, hq⟩ := (h.below hb).at_ (marks_at mkSpan 2 l k i hlt)
      injection he with he1 he2 he3
      clear he2
      subst he1 he3
      have c0 : wr.cell? ⟨g, off + i * 2, none⟩ = some (.int .i64 (k + (i : Int) * 2)) := hq 0 _ rfl
      have c1 : wr.cell? ⟨g, off + i * 2 + 1, none⟩ = some (.int .i64 (k + (i : Int) * 2 + 1)) := hq 1 _ rfl
      clear hq
      go_wp2
      all_goals
        go_roundw
        case rel => exact ⟨i + 1, by omega, by go_num, by go_num, by first | exact hb | exact below_drewN hb _⟩
        case measure => simp [intOf]; omega
    · go_wp2
      go_ret
      obtain rfl : i = l.length := by omega
      exact ⟨rfl, hb⟩
end Go.Proofs.YtkldapdpaldbgaaGreat
