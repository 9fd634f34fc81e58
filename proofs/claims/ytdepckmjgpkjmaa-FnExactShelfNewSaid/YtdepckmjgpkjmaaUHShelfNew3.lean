/-
  Several texts in one: lemmas and contracts that the claim rests on.
-/
import Derived.Test.YtdepckmjgpkjmaaUHShelfNew1
import Derived.Deep.QuietTactic
import Derived.BigQuiet
import Derived.Deep.LoopGhost
import Derived.Deep.RegionHeld3
import Derived.WalkSpells
import Derived.Laws.Cover3
import Derived.Test.YtdepckmjgpkjmaaUHShelfNew2
import Derived.Deep.MidRow
import Derived.Deep.CutRange
/-
  Events: compared, made, measured, marked.
-/
namespace Go.Proofs.Ytdepckmjgpkjmaa
open Go.RowKit

set_option maxHeartbeats 2000000 in
theorem eqEv_ct (a0 a1 a2 a3 a4 a5 a6 : Int) (w : World) : Calls Try.prog 13 #[.agg #[.int .i64 a0, .int .i64 a1, .int .i64 a2, .int .i64 a3, .int .i64 a4, .int .i64 a5, .int .i64 a6], .agg #[.int .i64 a0, .int .i64 a1, .int .i64 a2, .int .i64 a3, .int .i64 a4, .int .i64 a5, .int .i64 a6]] w fun e w' => e = .returned (.bool true) ∧ Below w.heap.size w w' := by
  go_enter Try.func13, Try.ntmps13
  go_wp2
  go_ret
  exact ⟨rfl, by repeat (first | exact Below.refl _ _ | refine Below.alloc ?_ (by simp <;> omega) _ | refine below_grow_of ?_ (by simp <;> omega) _ _ | refine Below.drew ?_ | refine below_drewN ?_ _)⟩

set_option maxHeartbeats 1000000 in
theorem eqEvS_ct (w : World) (v1 v2 : Value) (l : List Ev) (h1 : RdL FEv w w.heap.size v1 l) (h2 : RdL FEv w w.heap.size v2 l) (hs : l.length ≤ 1073741824) :
    Calls Try.prog 14 #[v1, v2] w fun e w' => e = .returned (.bool true) ∧ Below w.heap.size w w' := by
  obtain ⟨A1, c1, hv1, _⟩ := id h1
  obtain ⟨A2, c2, hv2, _⟩ := id h2
  subst hv1 hv2
  go_enter Try.func14, Try.ntmps14
  go_wp2
  go_loopw [5] (fun i wr => ∃ k : Nat, k ≤ l.length ∧ i = .int .i64 k ∧ Below w.heap.size w wr) (fun i _ => l.length - (intOf i).toNat)
  case atStart => exact ⟨0, Nat.zero_le _, rfl, Below.refl _ _⟩
  case round =>
    obtain ⟨i, hk, rfl, hb⟩ := hrel
    by_cases hlt : i < l.length
    · obtain ⟨g1, o1, cap1, e1, b1, _, _, q1⟩ := (h1.below hb).at_ (List.getElem?_eq_getElem hlt)
      obtain ⟨g2, o2, cap2, e2, b2, _, _, q2⟩ := (h2.below hb).at_ (List.getElem?_eq_getElem hlt)
      injection e1 with e11 _ e13
      injection e2 with e21 _ e23
      subst e11 e13 e21 e23
      have z1 : g1 < wr.heap.size := Nat.lt_of_lt_of_le b1 hb.size
      have z0 : w.heap.size ≤ wr.heap.size := hb.size
      have z2 : g2 < wr.heap.size := Nat.lt_of_lt_of_le b2 hb.size
      have p0 : wr.cell? ⟨g1, o1 + i * 7, none⟩ = some (.int .i64 l[i].Kind) := q1 0 _ rfl
      have p1 : wr.cell? ⟨g1, o1 + i * 7 + 1, none⟩ = some (.int .i64 l[i].Who) := q1 1 _ rfl
      have p2 : wr.cell? ⟨g1, o1 + i * 7 + 2, none⟩ = some (.int .i64 l[i].Serial) := q1 2 _ rfl
      have p3 : wr.cell? ⟨g1, o1 + i * 7 + 3, none⟩ = some (.int .i64 l[i].Cell) := q1 3 _ rfl
      have p4 : wr.cell? ⟨g1, o1 + i * 7 + 4, none⟩ = some (.int .i64 l[i].Handle) := q1 4 _ rfl
      have p5 : wr.cell? ⟨g1, o1 + i * 7 + 5, none⟩ = some (.int .i64 l[i].Val) := q1 5 _ rfl
      have p6 : wr.cell? ⟨g1, o1 + i * 7 + 6, none⟩ = some (.int .i64 l[i].Code) := q1 6 _ rfl
      have r0 : wr.cell? ⟨g2, o2 + i * 7, none⟩ = some (.int .i64 l[i].Kind) := q2 0 _ rfl
      have r1 : wr.cell? ⟨g2, o2 + i * 7 + 1, none⟩ = some (.int .i64 l[i].Who) := q2 1 _ rfl
      have r2 : wr.cell? ⟨g2, o2 + i * 7 + 2, none⟩ = some (.int .i64 l[i].Serial) := q2 2 _ rfl
      have r3 : wr.cell? ⟨g2, o2 + i * 7 + 3, none⟩ = some (.int .i64 l[i].Cell) := q2 3 _ rfl
      have r4 : wr.cell? ⟨g2, o2 + i * 7 + 4, none⟩ = some (.int .i64 l[i].Handle) := q2 4 _ rfl
      have r5 : wr.cell? ⟨g2, o2 + i * 7 + 5, none⟩ = some (.int .i64 l[i].Val) := q2 5 _ rfl
      have r6 : wr.cell? ⟨g2, o2 + i * 7 + 6, none⟩ = some (.int .i64 l[i].Code) := q2 6 _ rfl
      clear q1 q2
      go_wp2
      go_region_held3 (fun w' => w'.cell? ⟨g1, o1 + i * 7, none⟩ = some (.int .i64 l[i].Kind) ∧ w'.cell? ⟨g1, o1 + i * 7 + 1, none⟩ = some (.int .i64 l[i].Who) ∧ w'.cell? ⟨g1, o1 + i * 7 + 2, none⟩ = some (.int .i64 l[i].Serial) ∧ w'.cell? ⟨g1, o1 + i * 7 + 3, none⟩ = some (.int .i64 l[i].Cell) ∧ w'.cell? ⟨g1, o1 + i * 7 + 4, none⟩ = some (.int .i64 l[i].Handle) ∧ w'.cell? ⟨g1, o1 + i * 7 + 5, none⟩ = some (.int .i64 l[i].Val) ∧ w'.cell? ⟨g1, o1 + i * 7 + 6, none⟩ = some (.int .i64 l[i].Code) ∧ w'.cell? ⟨g2, o2 + i * 7, none⟩ = some (.int .i64 l[i].Kind) ∧ w'.cell? ⟨g2, o2 + i * 7 + 1, none⟩ = some (.int .i64 l[i].Who) ∧ w'.cell? ⟨g2, o2 + i * 7 + 2, none⟩ = some (.int .i64 l[i].Serial) ∧ w'.cell? ⟨g2, o2 + i * 7 + 3, none⟩ = some (.int .i64 l[i].Cell) ∧ w'.cell? ⟨g2, o2 + i * 7 + 4, none⟩ = some (.int .i64 l[i].Handle) ∧ w'.cell? ⟨g2, o2 + i * 7 + 5, none⟩ = some (.int .i64 l[i].Val) ∧ w'.cell? ⟨g2, o2 + i * 7 + 6, none⟩ = some (.int .i64 l[i].Code) ∧ g1 < w'.heap.size ∧ g2 < w'.heap.size ∧ Below w.heap.size w w') (first | (go_keep; done) | ((try go_split_ands); refine ⟨?_, ?_, ?_, ?_, ?_, ?_, ?_, ?_, ?_, ?_, ?_, ?_, ?_, ?_, ?_, ?_, ?_⟩; all_goals first | assumption | exact Below.drew (by assumption) | (simp [go_sem, *]; done) | exact below_grow_of (by assumption) (by omega) _ _ | (rw [size_grow]; omega))) ((go_at_call 13; refine (eqEv_ct _ _ _ _ _ _ _ _).mono ?_; rintro e w1 ⟨rfl, hb1⟩; obtain ⟨os1, d1, rfl⟩ := below_grows hb1; clear hb1))
      go_wp2
      go_roundw
      case rel => exact ⟨i + 1, by omega, by go_num, by first | assumption | (try go_split_ands; assumption)⟩
      case measure => simp [intOf]; omega
    · go_wp2
      go_ret
      exact ⟨rfl, hb⟩

set_option maxHeartbeats 1000000 in
theorem markEvS_ct (w : World) (v : Value) (l : List Ev) (k : Int) (h : OwL FEv 25 w v l) (hk0 : 0 ≤ k) (hk1 : (k + (l.length : Int) * 7) ≤ 4611686018427387904) :
    Calls Try.prog 27 #[v, .int .i64 k] w fun e w' => e = .returned (.int .i64 (k + (l.length : Int) * 7)) ∧ OwL FEv 25 w' v (marks mkEv 7 l l.length k) ∧ w.grownBy w' v.ownBlock ∧ w'.heap.size = w.heap.size := by
  rcases h.form with ⟨rfl, rfl⟩ | ⟨g, cap, hv, hg, hl, hc⟩
  · go_enter Try.func27, Try.ntmps27
    go_wp2
    go_loop [1, 5] (fun q i => q = .int .i64 k ∧ i = .int .i64 0) (fun _ _ => 0)
    case atStart => exact ⟨rfl, rfl⟩
    case round =>
      obtain ⟨rfl, rfl⟩ := hrel
      go_wp2
      go_ret
      exact ⟨by simp, h, World.grownBy.refl _ _, rfl⟩
  subst hv
  go_enter Try.func27, Try.ntmps27
  go_wp2
  go_loopw [1, 5] (fun q i wr => ∃ i' : Nat, i' ≤ l.length ∧ i = .int .i64 i' ∧ q = .int .i64 (k + (i' : Int) * 7) ∧ OwL FEv 25 wr (.slice (some ⟨g, 0, none⟩) l.length cap) (marks mkEv 7 l i' k) ∧ w.grownBy wr (some g) ∧ wr.heap.size = w.heap.size) (fun _ i _ => l.length - (intOf i).toNat)
  case atStart => exact ⟨0, Nat.zero_le _, rfl, by simp, h, World.grownBy.refl _ _, rfl⟩
  case round =>
    obtain ⟨i, hi, rfl, rfl, ho, hgr, hsz⟩ := hrel
    by_cases hlt : i < l.length
    · have hx := marks_get mkEv 7 l i k hlt
      have hf := ho.frozen_
      have c0 : wr.cell? ⟨g, i * 7, none⟩ = some (.int .i64 l[i].Kind) := ho.cell_ (j := 0) hx (by decide)
      have c1 : wr.cell? ⟨g, i * 7 + 1, none⟩ = some (.int .i64 l[i].Who) := ho.cell_ (j := 1) hx (by decide)
      have c2 : wr.cell? ⟨g, i * 7 + 2, none⟩ = some (.int .i64 l[i].Serial) := ho.cell_ (j := 2) hx (by decide)
      have c3 : wr.cell? ⟨g, i * 7 + 3, none⟩ = some (.int .i64 l[i].Cell) := ho.cell_ (j := 3) hx (by decide)
      have c4 : wr.cell? ⟨g, i * 7 + 4, none⟩ = some (.int .i64 l[i].Handle) := ho.cell_ (j := 4) hx (by decide)
      have c5 : wr.cell? ⟨g, i * 7 + 5, none⟩ = some (.int .i64 l[i].Val) := ho.cell_ (j := 5) hx (by decide)
      have c6 : wr.cell? ⟨g, i * 7 + 6, none⟩ = some (.int .i64 l[i].Code) := ho.cell_ (j := 6) hx (by decide)
      clear h
      go_wp2
      clear hf c0 c1 c2 c3 c4 c5 c6
      go_roundw
      case rel =>
        have s0 := ho.set_ (j := 0) (y := (⟨(k + (i : Int) * 7), l[i].Who, l[i].Serial, l[i].Cell, l[i].Handle, l[i].Val, l[i].Code⟩ : Ev)) (u := .int .i64 (k + (i : Int) * 7)) hx (by decide) rfl
        have s1 := s0.set_ (j := 1) (y := (⟨(k + (i : Int) * 7), (k + (i : Int) * 7 + 1), l[i].Serial, l[i].Cell, l[i].Handle, l[i].Val, l[i].Code⟩ : Ev)) (u := .int .i64 (k + (i : Int) * 7 + 1)) (set_get (⟨(k + (i : Int) * 7), l[i].Who, l[i].Serial, l[i].Cell, l[i].Handle, l[i].Val, l[i].Code⟩ : Ev) hx) (by decide) rfl
        have s2 := s1.set_ (j := 2) (y := (⟨(k + (i : Int) * 7), (k + (i : Int) * 7 + 1), (k + (i : Int) * 7 + 1 + 1), l[i].Cell, l[i].Handle, l[i].Val, l[i].Code⟩ : Ev)) (u := .int .i64 (k + (i : Int) * 7 + 1 + 1)) (set_get (⟨(k + (i : Int) * 7), (k + (i : Int) * 7 + 1), l[i].Serial, l[i].Cell, l[i].Handle, l[i].Val, l[i].Code⟩ : Ev) (set_get (⟨(k + (i : Int) * 7), l[i].Who, l[i].Serial, l[i].Cell, l[i].Handle, l[i].Val, l[i].Code⟩ : Ev) hx)) (by decide) rfl
        have s3 := s2.set_ (j := 3) (y := (⟨(k + (i : Int) * 7), (k + (i : Int) * 7 + 1), (k + (i : Int) * 7 + 1 + 1), (k + (i : Int) * 7 + 1 + 1 + 1), l[i].Handle, l[i].Val, l[i].Code⟩ : Ev)) (u := .int .i64 (k + (i : Int) * 7 + 1 + 1 + 1)) (set_get (⟨(k + (i : Int) * 7), (k + (i : Int) * 7 + 1), (k + (i : Int) * 7 + 1 + 1), l[i].Cell, l[i].Handle, l[i].Val, l[i].Code⟩ : Ev) (set_get (⟨(k + (i : Int) * 7), (k + (i : Int) * 7 + 1), l[i].Serial, l[i].Cell, l[i].Handle, l[i].Val, l[i].Code⟩ : Ev) (set_get (⟨(k + (i : Int) * 7), l[i].Who, l[i].Serial, l[i].Cell, l[i].Handle, l[i].Val, l[i].Code⟩ : Ev) hx))) (by decide) rfl
        have s4 := s3.set_ (j := 4) (y := (⟨(k + (i : Int) * 7), (k + (i : Int) * 7 + 1), (k + (i : Int) * 7 + 1 + 1), (k + (i : Int) * 7 + 1 + 1 + 1), (k + (i : Int) * 7 + 1 + 1 + 1 + 1), l[i].Val, l[i].Code⟩ : Ev)) (u := .int .i64 (k + (i : Int) * 7 + 1 + 1 + 1 + 1)) (set_get (⟨(k + (i : Int) * 7), (k + (i : Int) * 7 + 1), (k + (i : Int) * 7 + 1 + 1), (k + (i : Int) * 7 + 1 + 1 + 1), l[i].Handle, l[i].Val, l[i].Code⟩ : Ev) (set_get (⟨(k + (i : Int) * 7), (k + (i : Int) * 7 + 1), (k + (i : Int) * 7 + 1 + 1), l[i].Cell, l[i].Handle, l[i].Val, l[i].Code⟩ : Ev) (set_get (⟨(k + (i : Int) * 7), (k + (i : Int) * 7 + 1), l[i].Serial, l[i].Cell, l[i].Handle, l[i].Val, l[i].Code⟩ : Ev) (set_get (⟨(k + (i : Int) * 7), l[i].Who, l[i].Serial, l[i].Cell, l[i].Handle, l[i].Val, l[i].Code⟩ : Ev) hx)))) (by decide) rfl
        have s5 := s4.set_ (j := 5) (y := (⟨(k + (i : Int) * 7), (k + (i : Int) * 7 + 1), (k + (i : Int) * 7 + 1 + 1), (k + (i : Int) * 7 + 1 + 1 + 1), (k + (i : Int) * 7 + 1 + 1 + 1 + 1), (k + (i : Int) * 7 + 1 + 1 + 1 + 1 + 1), l[i].Code⟩ : Ev)) (u := .int .i64 (k + (i : Int) * 7 + 1 + 1 + 1 + 1 + 1)) (set_get (⟨(k + (i : Int) * 7), (k + (i : Int) * 7 + 1), (k + (i : Int) * 7 + 1 + 1), (k + (i : Int) * 7 + 1 + 1 + 1), (k + (i : Int) * 7 + 1 + 1 + 1 + 1), l[i].Val, l[i].Code⟩ : Ev) (set_get (⟨(k + (i : Int) * 7), (k + (i : Int) * 7 + 1), (k + (i : Int) * 7 + 1 + 1), (k + (i : Int) * 7 + 1 + 1 + 1), l[i].Handle, l[i].Val, l[i].Code⟩ : Ev) (set_get (⟨(k + (i : Int) * 7), (k + (i : Int) * 7 + 1), (k + (i : Int) * 7 + 1 + 1), l[i].Cell, l[i].Handle, l[i].Val, l[i].Code⟩ : Ev) (set_get (⟨(k + (i : Int) * 7), (k + (i : Int) * 7 + 1), l[i].Serial, l[i].Cell, l[i].Handle, l[i].Val, l[i].Code⟩ : Ev) (set_get (⟨(k + (i : Int) * 7), l[i].Who, l[i].Serial, l[i].Cell, l[i].Handle, l[i].Val, l[i].Code⟩ : Ev) hx))))) (by decide) rfl
        have s6 := s5.set_ (j := 6) (y := (⟨(k + (i : Int) * 7), (k + (i : Int) * 7 + 1), (k + (i : Int) * 7 + 1 + 1), (k + (i : Int) * 7 + 1 + 1 + 1), (k + (i : Int) * 7 + 1 + 1 + 1 + 1), (k + (i : Int) * 7 + 1 + 1 + 1 + 1 + 1), (k + (i : Int) * 7 + 1 + 1 + 1 + 1 + 1 + 1)⟩ : Ev)) (u := .int .i64 (k + (i : Int) * 7 + 1 + 1 + 1 + 1 + 1 + 1)) (set_get (⟨(k + (i : Int) * 7), (k + (i : Int) * 7 + 1), (k + (i : Int) * 7 + 1 + 1), (k + (i : Int) * 7 + 1 + 1 + 1), (k + (i : Int) * 7 + 1 + 1 + 1 + 1), (k + (i : Int) * 7 + 1 + 1 + 1 + 1 + 1), l[i].Code⟩ : Ev) (set_get (⟨(k + (i : Int) * 7), (k + (i : Int) * 7 + 1), (k + (i : Int) * 7 + 1 + 1), (k + (i : Int) * 7 + 1 + 1 + 1), (k + (i : Int) * 7 + 1 + 1 + 1 + 1), l[i].Val, l[i].Code⟩ : Ev) (set_get (⟨(k + (i : Int) * 7), (k + (i : Int) * 7 + 1), (k + (i : Int) * 7 + 1 + 1), (k + (i : Int) * 7 + 1 + 1 + 1), l[i].Handle, l[i].Val, l[i].Code⟩ : Ev) (set_get (⟨(k + (i : Int) * 7), (k + (i : Int) * 7 + 1), (k + (i : Int) * 7 + 1 + 1), l[i].Cell, l[i].Handle, l[i].Val, l[i].Code⟩ : Ev) (set_get (⟨(k + (i : Int) * 7), (k + (i : Int) * 7 + 1), l[i].Serial, l[i].Cell, l[i].Handle, l[i].Val, l[i].Code⟩ : Ev) (set_get (⟨(k + (i : Int) * 7), l[i].Who, l[i].Serial, l[i].Cell, l[i].Handle, l[i].Val, l[i].Code⟩ : Ev) hx)))))) (by decide) rfl
        refine ⟨i + 1, by omega, by go_num, by go_num, ?_, grown_set (grown_set (grown_set (grown_set (grown_set (grown_set (grown_set (hgr) _ _) _ _) _ _) _ _) _ _) _ _) _ _, by simp [hsz]⟩
        simp only [List.set_set] at s6
        have e := marks_step mkEv 7 l i k hlt
        rw [← e]
        exact s6
      case measure => simp [intOf]; omega
    · go_wp2
      go_ret
      obtain rfl : i = l.length := by omega
      exact ⟨rfl, ho, hgr, hsz⟩

set_option maxHeartbeats 1000000 in
theorem heldEvS_ct (w : World) (v : Value) (l : List Ev) (k : Int) (h : RdL FEv w w.heap.size v (marks mkEv 7 l l.length k)) (hk0 : 0 ≤ k) (hk1 : (k + (l.length : Int) * 7) ≤ 4611686018427387904) :
    Calls Try.prog 28 #[v, .int .i64 k] w fun e w' => e = .returned (.int .i64 (k + (l.length : Int) * 7)) ∧ Below w.heap.size w w' := by
  obtain ⟨A, cap, hv, _⟩ := id h
  rw [marks_length] at hv
  subst hv
  go_enter Try.func28, Try.ntmps28
  go_wp2
  go_loopw [1, 5] (fun q i wr => ∃ i' : Nat, i' ≤ l.length ∧ i = .int .i64 i' ∧ q = .int .i64 (k + (i' : Int) * 7) ∧ Below w.heap.size w wr) (fun _ i _ => l.length - (intOf i).toNat)
  case atStart => exact ⟨0, Nat.zero_le _, rfl, by simp, Below.refl _ _⟩
  case round =>
    obtain ⟨i, hi, rfl, rfl, hb⟩ := hrel
    by_cases hlt : i < l.length
    · obtain ⟨g, off, cap', he, _, _, _, hq⟩ := (h.below hb).at_ (marks_at mkEv 7 l k i hlt)
      injection he with he1 he2 he3
      clear he2
      subst he1 he3
      have c0 : wr.cell? ⟨g, off + i * 7, none⟩ = some (.int .i64 (k + (i : Int) * 7)) := hq 0 _ rfl
      have c1 : wr.cell? ⟨g, off + i * 7 + 1, none⟩ = some (.int .i64 (k + (i : Int) * 7 + 1)) := hq 1 _ rfl
      have c2 : wr.cell? ⟨g, off + i * 7 + 2, none⟩ = some (.int .i64 (k + (i : Int) * 7 + 1 + 1)) := hq 2 _ rfl
      have c3 : wr.cell? ⟨g, off + i * 7 + 3, none⟩ = some (.int .i64 (k + (i : Int) * 7 + 1 + 1 + 1)) := hq 3 _ rfl
      have c4 : wr.cell? ⟨g, off + i * 7 + 4, none⟩ = some (.int .i64 (k + (i : Int) * 7 + 1 + 1 + 1 + 1)) := hq 4 _ rfl
      have c5 : wr.cell? ⟨g, off + i * 7 + 5, none⟩ = some (.int .i64 (k + (i : Int) * 7 + 1 + 1 + 1 + 1 + 1)) := hq 5 _ rfl
      have c6 : wr.cell? ⟨g, off + i * 7 + 6, none⟩ = some (.int .i64 (k + (i : Int) * 7 + 1 + 1 + 1 + 1 + 1 + 1)) := hq 6 _ rfl
      clear hq
      go_wp2
      all_goals
        go_roundw
        case rel => exact ⟨i + 1, by omega, by go_num, by go_num, by first | exact hb | exact below_drewN hb _⟩
        case measure => simp [intOf]; omega
    · go_wp2
      go_ret
      obtain rfl : i = l.length := by omega
      exact ⟨rfl, hb⟩
theorem eqEvS_w (w : World) (K1 K2 : SV) (l : List Ev) (h1 : RdL FEv w w.heap.size K1.val l) (h2 : RdL FEv w w.heap.size K2.val l) (hs : l.length ≤ 1073741824) :
    Calls Try.prog 14 #[.slice K1.a K1.len K1.cap, .slice K2.a K2.len K2.cap] w fun e w' => e = .returned (.bool true) ∧ Below w.heap.size w w' := eqEvS_ct w _ _ l h1 h2 hs
theorem markEvS_w (w : World) (K : SV) (l : List Ev) (k : Int) (h : OwL FEv 25 w K.val l) (hk0 : 0 ≤ k) (hk1 : k + ((l.length * 7 : Nat) : Int) ≤ 4611686018427387904) :
    Calls Try.prog 27 #[.slice K.a K.len K.cap, .int .i64 k] w fun e w' => e = .returned (.int .i64 (k + ((l.length * 7 : Nat) : Int))) ∧ OwL FEv 25 w' K.val (marks mkEv 7 l l.length k) ∧ Chg (foot1 K.val) w w' :=
  (markEvS_ct w _ l k h hk0 (by omega)).mono fun _ _ ⟨a, b, c, _⟩ => ⟨a.trans (ret_i64 (by omega)), b, Chg.of_grown c⟩
theorem heldEvS_w (w : World) (K : SV) (l : List Ev) (k : Int) (h : RdL FEv w w.heap.size K.val (marks mkEv 7 l l.length k)) (hk0 : 0 ≤ k) (hk1 : k + ((l.length * 7 : Nat) : Int) ≤ 4611686018427387904) :
    Calls Try.prog 28 #[.slice K.a K.len K.cap, .int .i64 k] w fun e w' => e = .returned (.int .i64 (k + ((l.length * 7 : Nat) : Int))) ∧ Below w.heap.size w w' :=
  (heldEvS_ct w _ l k h hk0 (by omega)).mono fun _ _ ⟨a, b⟩ => ⟨a.trans (ret_i64 (by omega)), b⟩
end Go.Proofs.Ytdepckmjgpkjmaa

/-
  Whole elements: loaded, stored.
-/
namespace Go.Proofs.Ytdepckmjgpkjmaa
open Go.RowKit

variable {α : Type} {T : FT α}
theorem results_cell_of {P : Program} {fn : Func} {p : Tmp} {ty : TypeId} {tmps : Array Value} {w : World} {ad : Addr} {v : Value} (h : fn.results = #[.cell p ty]) (hp : tmps.getD p undef = .pointer (some ad)) (hl : (loadVar ty ad).run P w = .ok v w) : (results fn tmps).run P w = .ok v w := by
  have hp' : tmps[p]?.getD undef = .pointer (some ad) := by simpa using hp
  simp only [results, h]
  simp [hp', asAddr, hl]
theorem Below.setCells {B : Nat} {a : World} {b : Nat} (hb : B ≤ b) : ∀ (vs : List Value) (o : Nat) {w : World}, Below B a w → Below B a (w.setCells b o vs)
  | [], _, _, h => h
  | v :: r, o, _, h => Below.setCells hb r (o + 1) (h.setCell (p := ⟨b, o, none⟩) hb v)
theorem Chg.setCells {F : List Nat} {w : World} {b : Nat} (hb : b ∈ F) : ∀ (vs : List Value) (o : Nat) {w' : World}, Chg F w w' → Chg F w (w'.setCells b o vs)
  | [], _, _, h => h
  | v :: r, o, _, h => Chg.setCells hb r (o + 1) (h.set_ hb v)
/-- a list, some of its places from o on put anew -/
def putL (xs : List Value) (o : Nat) : List Value → List Value
  | [] => xs
  | v :: r => putL (xs.set o v) (o + 1) r
theorem putL_get (vs : List Value) : ∀ (xs : List Value) (o i : Nat), o + vs.length ≤ xs.length → (putL xs o vs)[i]? = if o ≤ i ∧ i < o + vs.length then vs[i - o]? else xs[i]? := by
  induction vs with
  | nil => intro xs o i _; rw [if_neg (by simp <;> omega)]; rfl
  | cons v r ih =>
    intro xs o i h
    simp only [List.length_cons] at h
    show (putL (xs.set o v) (o + 1) r)[i]? = _
    rw [ih _ _ _ (by simp <;> omega)]
    by_cases h1 : i = o
    · subst h1
      rw [if_neg (by omega), if_pos (by simp), Nat.sub_self, List.getElem?_set, if_pos rfl, if_pos (by omega)]
      rfl
    · by_cases h2 : o + 1 ≤ i ∧ i < o + 1 + r.length
      · rw [if_pos h2, if_pos (by simp only [List.length_cons]; omega), show i - o = (i - (o + 1)) + 1 by omega]
        rfl
      · rw [if_neg h2, if_neg (by simp only [List.length_cons]; omega), List.getElem?_set, if_neg (fun e => h1 e.symm)]
theorem ownsRow_putL {e : TypeId} {g n c sz : Nat} (vs : List Value) : ∀ (o : Nat) (w : World) (xs : List Value), w.ownsRow 0 e sz (.slice (some ⟨g, 0, none⟩) n c) n xs → (w.setCells g o vs).ownsRow 0 e sz (.slice (some ⟨g, 0, none⟩) n c) n (putL xs o vs) := by
  induction vs with
  | nil => intro o w xs h; exact h
  | cons v r ih => intro o w xs h; exact ih (o + 1) _ _ (World.ownsRow.stored (w := w) (g := g) h o v).1
theorem flat_putL (l : List α) (k : Nat) (x y : α) (hx : l[k]? = some x) : flat T (l.set k y) = putL (flat T l) (k * T.n) (T.enc y) := by
  have hk : k < l.length := (List.getElem?_eq_some_iff.1 hx).1
  have hle : k * T.n + T.n ≤ l.length * T.n := by rw [← Nat.succ_mul]; exact Nat.mul_le_mul_right _ hk
  apply List.ext_getElem?
  intro i
  rw [putL_get _ _ _ _ (by rw [T.len, length_flat]; exact hle), T.len]
  by_cases hi : i < l.length * T.n
  · have hp := T.pos
    have hm : i % T.n < T.n := Nat.mod_lt _ hp
    have hd : i / T.n < l.length := by rw [Nat.div_lt_iff_lt_mul hp]; exact hi
    have he : i / T.n * T.n + i % T.n = i := by rw [Nat.mul_comm]; exact Nat.div_add_mod i T.n
    by_cases hq : i / T.n = k
    · have h1 : (l.set k y)[i / T.n]? = some y := by rw [hq]; simp [hk]
      rw [← he, flat_get T _ _ _ y h1 hm, if_pos (by rw [hq]; omega), hq]
      congr 1
      omega
    · have h1 : (l.set k y)[i / T.n]? = some l[i / T.n] := by rw [List.getElem?_set, if_neg (fun e => hq e.symm)]; exact List.getElem?_eq_getElem hd
      have hne : ¬ (k * T.n ≤ i ∧ i < k * T.n + T.n) := by
        rintro ⟨a, b⟩
        apply hq
        rw [← Nat.succ_mul] at b
        exact Nat.le_antisymm (Nat.le_of_lt_succ ((Nat.div_lt_iff_lt_mul hp).2 b)) ((Nat.le_div_iff_mul_le hp).2 a)
      rw [if_neg hne, ← he, flat_get T _ _ _ _ h1 hm, flat_get T l _ _ _ (List.getElem?_eq_getElem hd) hm]
  · rw [List.getElem?_eq_none (by rw [length_flat, List.length_set]; omega), if_neg (by omega), List.getElem?_eq_none (by rw [length_flat]; omega)]
/-- A whole element stored. -/
theorem OwL.setRow {e : TypeId} {w : World} {l : List α} {g n c : Nat} (h : OwL T e w (.slice (some ⟨g, 0, none⟩) n c) l) {k : Nat} {x y : α} (hx : l[k]? = some x) :
    OwL T e (w.setCells g (k * T.n) (T.enc y)) (.slice (some ⟨g, 0, none⟩) n c) (l.set k y) := by
  obtain rfl := h.len_eq
  have hs := ownsRow_putL (g := g) (T.enc y) (k * T.n) w _ h
  rw [← flat_putL l k x y hx] at hs
  unfold OwL
  rw [List.length_set]
  exact hs
/-- A whole element's cells, as a range. -/
theorem RdL.range_ {w : World} {B : Nat} {v : Value} {l : List α} (h : RdL T w B v l) {k : Nat} {x : α} (hx : l[k]? = some x) :
    ∃ g off cap, v = .slice (some ⟨g, off, none⟩) l.length cap ∧ g < B ∧ l.length ≤ cap ∧ cap ≤ maxLen ∧ w.rangeAt g (off + k * T.n) (T.enc x) := by
  obtain ⟨g, off, cap, hv, hg, h1, h2, hc⟩ := h.at_ hx
  exact ⟨g, off, cap, hv, hg, h1, h2, fun j u hu => by rw [Nat.add_assoc]; exact hc j u hu⟩
theorem OwL.range_ {e : TypeId} {w : World} {l : List α} {g n c : Nat} (h : OwL T e w (.slice (some ⟨g, 0, none⟩) n c) l) {k : Nat} {x : α} (hx : l[k]? = some x) : w.rangeAt g (k * T.n) (T.enc x) := fun j u hu => by
  have hj : j < T.n := by have := (List.getElem?_eq_some_iff.1 hu).1; rwa [T.len] at this
  rw [h.cell_ hx hj, hu]
def row? (W : World) (g o n : Nat) : Option (List Value) :=
  if ((List.range n).all fun j => (W.cell? ⟨g, o + j, none⟩).isSome) = true then some ((List.range n).map fun j => (W.cell? ⟨g, o + j, none⟩).getD undef) else none
theorem row?_iff {W : World} {g o n : Nat} {cs : List Value} : row? W g o n = some cs ↔ (cs.length = n ∧ W.rangeAt g o cs) := by
  unfold row?
  constructor
  · intro h
    split at h
    · rename_i hall
      injection h with h
      subst h
      refine ⟨by simp, fun j v hv => ?_⟩
      have hj : j < n := by have := (List.getElem?_eq_some_iff.1 hv).1; simpa using this
      have hs := List.all_eq_true.1 hall j (List.mem_range.2 hj)
      obtain ⟨x, hx⟩ := Option.isSome_iff_exists.1 hs
      simp [hj, hx] at hv
      rw [hx, hv]
    · cases h
  · rintro ⟨h1, h2⟩
    have hc : ∀ j, (hj : j < n) → W.cell? ⟨g, o + j, none⟩ = some (cs[j]'(by omega)) := fun j hj => h2 j _ (List.getElem?_eq_getElem (by omega))
    rw [if_pos (List.all_eq_true.2 fun j hj => by rw [hc j (List.mem_range.1 hj)]; rfl)]
    congr 1
    apply List.ext_getElem
    · simp [h1]
    · intro i hi1 hi2
      have hi : i < n := by omega
      simp [hc i hi]
theorem row?_of {W : World} {g o n : Nat} {cs : List Value} (h : W.rangeAt g o cs) (hn : cs.length = n) : row? W g o n = some cs := row?_iff.2 ⟨hn, h⟩
theorem row?_block {w w' : World} {g : Nat} (h : w'.heap[g]? = w.heap[g]?) (o n : Nat) : row? w' g o n = row? w g o n := by
  have e : ∀ j, w'.cell? ⟨g, o + j, none⟩ = w.cell? ⟨g, o + j, none⟩ := fun j => by simp [World.cell?, h]
  simp [row?, e]
@[go_sem] theorem row?_drew (w : World) (g o n : Nat) : row? w.drew g o n = row? w g o n := row?_block rfl o n
@[go_sem] theorem row?_drewN (w : World) (k g o n : Nat) : row? (w.drewN k) g o n = row? w g o n := row?_block rfl o n
theorem row?_grow {w : World} {os : List Obj} {d : Nat} {g : Nat} (hg : g < w.heap.size) (o n : Nat) : row? (grow w os d) g o n = row? w g o n := row?_block (heap_grow w os d g hg) o n
/-- a whole element's load, as the walk meets it -/
def loadRes (P : Program) (ty : TypeId) (v : Value) (w : World) : Result Next := ((Instr.loadAt ty v).run P w).andThen fun u w' => .ok (.value u) w'
def stuckLoad (P : Program) (ty : TypeId) (W : World) (g o : Nat) : Result Next := loadRes P ty (.pointer (some ⟨g, o, none⟩)) W
theorem exec_load {P : Program} (ty : TypeId) (ρ : Operand → Value) (d : Option Tmp) (x : Operand) (t : TypeId) (p : String) (af : Array Edge) (g : Option (Nat × Bool)) (w : World) : (execOp ρ ⟨d, .load ty x, t, p, af, g⟩).run P w = loadRes P ty (ρ x) w := by
  simp [execOp, loadRes]
theorem loadRule {P : Program} {ty : TypeId} {n : Nat} {d : TypeDesc} (hu : P.underlying ty = some d) (hd : d.isRow = true) (hi : (P.info? ty).map (·.size) = some n) (W : World) (g o : Nat) :
    loadRes P ty (.pointer (some ⟨g, o, none⟩)) W = match row? W g o n with | some cs => .ok (.value (.agg cs.toArray)) W | none => stuckLoad P ty W g o := by
  cases h : row? W g o n with
  | none => rfl
  | some cs =>
    obtain ⟨h1, h2⟩ := row?_iff.1 h
    show loadRes P ty _ W = _
    unfold loadRes
    rw [run_loadAt_mid W g o ty cs d h2 hu hd (by rw [hi, h1])]
    rfl
end Go.Proofs.Ytdepckmjgpkjmaa

/-
  Operations and jobs: made.
-/
namespace Go.Proofs.Ytdepckmjgpkjmaa
open Go.RowKit

set_option maxHeartbeats 2000000 in
theorem eqSub_ct (a0 a1 a2 a3 a4 a5 a6 a7 a8 : Int) (a9 : Bool) (w : World) : Calls Try.prog 137 #[.agg #[.int .i64 a0, .int .i64 a1, .int .i64 a2, .int .i64 a3, .int .i64 a4, .int .i64 a5, .int .i64 a6, .int .i64 a7, .int .i64 a8, .bool a9], .agg #[.int .i64 a0, .int .i64 a1, .int .i64 a2, .int .i64 a3, .int .i64 a4, .int .i64 a5, .int .i64 a6, .int .i64 a7, .int .i64 a8, .bool a9]] w fun e w' => e = .returned (.bool true) ∧ Below w.heap.size w w' := by
  go_enter Try.func137, Try.ntmps137
  go_wp2
  go_ret
  exact ⟨rfl, by repeat (first | exact Below.refl _ _ | refine Below.alloc ?_ (by simp <;> omega) _ | refine below_grow_of ?_ (by simp <;> omega) _ _ | refine Below.drew ?_ | refine below_drewN ?_ _)⟩

theorem Try.sizeJob : (Try.prog.info? 97).map (·.size) = some 21 := by kernel_rfl
end Go.Proofs.Ytdepckmjgpkjmaa

/-
  Jobs: made.
-/
namespace Go.Proofs.Ytdepckmjgpkjmaa
open Go.RowKit

theorem Try.infoJob : (Try.prog.info? 97).map (fun i => (i.zero, i.size, i.bytes)) = some (some (.agg #[.bool false, .int .i64 0, .int .i64 0, .int .i64 0, .int .i64 0, .int .i64 0, .int .i64 0, .int .i64 0, .int .i64 0, .int .i64 0, .int .i64 0, .int .i64 0, .int .i64 0, .int .i64 0, .int .i64 0, .int .i64 0, .bool false, .int .i64 0, .int .i64 0, .int .i64 0, .int .i64 0]), FJob.n, 168) := by kernel_rfl
end Go.Proofs.Ytdepckmjgpkjmaa

/-
  Jobs compared.
-/
namespace Go.Proofs.Ytdepckmjgpkjmaa
open Go.RowKit

set_option maxHeartbeats 2000000 in
theorem eqJob_ct (a1 a2 a3 a4 a5 a6 a7 a8 a9 a10 a11 a12 a13 a14 a15 a17 a18 a19 a20 : Int) (a0 a16 : Bool) (w : World) : Calls Try.prog 91 #[.agg #[.bool a0, .int .i64 a1, .int .i64 a2, .int .i64 a3, .int .i64 a4, .int .i64 a5, .int .i64 a6, .int .i64 a7, .int .i64 a8, .int .i64 a9, .int .i64 a10, .int .i64 a11, .int .i64 a12, .int .i64 a13, .int .i64 a14, .int .i64 a15, .bool a16, .int .i64 a17, .int .i64 a18, .int .i64 a19, .int .i64 a20], .agg #[.bool a0, .int .i64 a1, .int .i64 a2, .int .i64 a3, .int .i64 a4, .int .i64 a5, .int .i64 a6, .int .i64 a7, .int .i64 a8, .int .i64 a9, .int .i64 a10, .int .i64 a11, .int .i64 a12, .int .i64 a13, .int .i64 a14, .int .i64 a15, .bool a16, .int .i64 a17, .int .i64 a18, .int .i64 a19, .int .i64 a20]] w fun e w' => e = .returned (.bool true) ∧ Below w.heap.size w w' := by
  go_enter Try.func91, Try.ntmps91
  go_wp2_with (first | (go_at_call 136; refine (eqOp_ct _ _ _ _ _).mono ?_; rintro e w1 ⟨rfl, hb1⟩; obtain ⟨os1, d1, rfl⟩ := below_grows hb1; clear hb1) | (go_at_call 137; refine (eqSub_ct _ _ _ _ _ _ _ _ _ _ _).mono ?_; rintro e w2 ⟨rfl, hb2⟩; obtain ⟨os2, d2, rfl⟩ := below_grows hb2; clear hb2))
  go_ret
  exact ⟨rfl, by repeat (first | exact Below.refl _ _ | refine Below.alloc ?_ (by simp <;> omega) _ | refine below_grow_of ?_ (by simp <;> omega) _ _ | refine Below.drew ?_ | refine below_drewN ?_ _)⟩
end Go.Proofs.Ytdepckmjgpkjmaa

/-
  Jobs compared.
-/
namespace Go.Proofs.Ytdepckmjgpkjmaa
open Go.RowKit

theorem execJob (ρ : Operand → Value) (d : Option Tmp) (x : Operand) (t : TypeId) (p : String) (af : Array Edge) (g : Option (Nat × Bool)) (w : World) : (execOp ρ ⟨d, .load 97 x, t, p, af, g⟩).run Try.prog w = loadRes Try.prog 97 (ρ x) w := exec_load _ _ _ _ _ _ _ _ _
theorem loadResJob (W : World) (g o : Nat) : loadRes Try.prog 97 (.pointer (some ⟨g, o, none⟩)) W = match row? W g o 21 with | some cs => .ok (.value (.agg cs.toArray)) W | none => stuckLoad Try.prog 97 W g o := loadRule Try.underlying97 rfl Try.sizeJob W g o
attribute [local go_sem ↓] execJob
attribute [local go_sem] loadResJob
theorem eqJob_any (x : Job) (w : World) : Calls Try.prog 91 #[.agg (FJob.enc x).toArray, .agg (FJob.enc x).toArray] w fun e w' => e = .returned (.bool true) ∧ Below w.heap.size w w' :=
  eqJob_ct x.Op.Kind x.Op.Cell x.Op.Size x.Op.Val x.Serial x.Pc x.Sub.Kind x.Sub.A x.Sub.Pc x.Sub.E x.Sub.Row x.Sub.B x.Sub.H x.Sub.Out x.Sub.Code x.H x.Old x.Val x.Code x.Busy x.Sub.Done w
set_option maxRecDepth 100000 in
set_option maxHeartbeats 1000000 in
theorem eqJobS_ct (w : World) (v1 v2 : Value) (l : List Job) (h1 : RdL FJob w w.heap.size v1 l) (h2 : RdL FJob w w.heap.size v2 l) (hs : l.length ≤ 1073741824) :
    Calls Try.prog 51 #[v1, v2] w fun e w' => e = .returned (.bool true) ∧ Below w.heap.size w w' := by
  obtain ⟨A1, c1, hv1, _⟩ := id h1
  obtain ⟨A2, c2, hv2, _⟩ := id h2
  subst hv1 hv2
  go_enter Try.func51, Try.ntmps51
  go_wp2
  go_loopw [5] (fun i wr => ∃ k : Nat, k ≤ l.length ∧ i = .int .i64 k ∧ Below w.heap.size w wr) (fun i _ => l.length - (intOf i).toNat)
  case atStart => exact ⟨0, Nat.zero_le _, rfl, Below.refl _ _⟩
  case round =>
    obtain ⟨i, hk, rfl, hb⟩ := hrel
    by_cases hlt : i < l.length
    · obtain ⟨g1, o1, cap1, e1, b1, _, _, q1⟩ := (h1.below hb).range_ (List.getElem?_eq_getElem hlt)
      obtain ⟨g2, o2, cap2, e2, b2, _, _, q2⟩ := (h2.below hb).range_ (List.getElem?_eq_getElem hlt)
      injection e1 with e11 _ e13
      injection e2 with e21 _ e23
      subst e11 e13 e21 e23
      have z1 : g1 < wr.heap.size := Nat.lt_of_lt_of_le b1 hb.size
      have z0 : w.heap.size ≤ wr.heap.size := hb.size
      have z2 : g2 < wr.heap.size := Nat.lt_of_lt_of_le b2 hb.size
      have hq := eqJob_any l[i]
      have hlen := FJob.len l[i]
      have hone := FJob.one l[i]
      rw [show FJob.n = 21 from rfl] at hlen q1 q2
      generalize l[i] = xi at *
      generalize FJob.enc xi = cs at *
      clear xi
      replace q1 := row?_of q1 hlen
      replace q2 := row?_of q2 hlen
      clear hlen hone
      go_wp2
      go_region_held3 (fun w' => row? w' g1 (o1 + i * 21) 21 = some cs ∧ row? w' g2 (o2 + i * 21) 21 = some cs ∧ g1 < w'.heap.size ∧ g2 < w'.heap.size ∧ Below w.heap.size w w') (first | (go_keep; done) | ((try go_split_ands); refine ⟨?_, ?_, ?_, ?_, ?_⟩; all_goals first | assumption | exact Below.drew (by assumption) | (simp [go_sem, *]; done) | exact (row?_grow (by assumption) _ _).trans (by assumption) | exact below_grow_of (by assumption) (by omega) _ _ | (rw [size_grow]; omega))) ((go_at_call 91; refine (hq _).mono ?_; rintro e w1 ⟨rfl, hb1⟩; obtain ⟨os1, d1, rfl⟩ := below_grows hb1; clear hb1))
      go_wp2
      go_roundw
      case rel => exact ⟨i + 1, by omega, by go_num, by first | assumption | (try go_split_ands; assumption)⟩
      case measure => simp [intOf]; omega
    · go_wp2
      go_ret
      exact ⟨rfl, hb⟩
end Go.Proofs.Ytdepckmjgpkjmaa

