/-
  Events: compared, made, measured, marked.
-/
import Derived.Test.YtdepckmjgpkjmaaT
import Derived.Test.YtdepckmjgpkjmaaL
import Derived.Deep.QuietTactic
import Derived.BigQuiet
import Derived.Deep.LoopGhost
import Derived.Deep.RegionHeld3
import Derived.Test.YtdepckmjgpkjmaaN
import Derived.Test.YtdepckmjgpkjmaaA
import Derived.WalkSpells
import Derived.Laws.Cover3
import Derived.Test.YtdepckmjgpkjmaaEL
import Derived.Test.YtdepckmjgpkjmaaVS
namespace Go.Proofs.Ytdepckmjgpkjmaa
open Go.RowKit

set_option maxHeartbeats 2000000 in
theorem toEv_ct (a0 a1 a2 a3 a4 a5 a6 : Int) (w : World) : Calls Try.prog 36 #[.agg #[.int .i64 a0, .int .i64 a1, .int .i64 a2, .int .i64 a3, .int .i64 a4, .int .i64 a5, .int .i64 a6]] w fun e w' => e = .returned (.agg #[.int .i64 a0, .int .i64 a1, .int .i64 a2, .int .i64 a3, .int .i64 a4, .int .i64 a5, .int .i64 a6]) ∧ Below w.heap.size w w' := by
  go_enter Try.func36, Try.ntmps36
  go_wp2
  refine bodyPost_ret (v := .agg #[.int .i64 a0, .int .i64 a1, .int .i64 a2, .int .i64 a3, .int .i64 a4, .int .i64 a5, .int .i64 a6]) (by simp [results, Try.results36, go_sem]) rfl ⟨rfl, ?_⟩
  repeat (first | exact Below.refl _ _ | refine Below.alloc ?_ (by simp <;> omega) _ | refine below_grow_of ?_ (by simp <;> omega) _ _ | refine Below.drew ?_ | refine below_drewN ?_ _)

set_option maxHeartbeats 2000000 in
theorem eqEv_ct (a0 a1 a2 a3 a4 a5 a6 : Int) (w : World) : Calls Try.prog 13 #[.agg #[.int .i64 a0, .int .i64 a1, .int .i64 a2, .int .i64 a3, .int .i64 a4, .int .i64 a5, .int .i64 a6], .agg #[.int .i64 a0, .int .i64 a1, .int .i64 a2, .int .i64 a3, .int .i64 a4, .int .i64 a5, .int .i64 a6]] w fun e w' => e = .returned (.bool true) ∧ Below w.heap.size w w' := by
  go_enter Try.func13, Try.ntmps13
  go_wp2
  go_ret
  exact ⟨rfl, by repeat (first | exact Below.refl _ _ | refine Below.alloc ?_ (by simp <;> omega) _ | refine below_grow_of ?_ (by simp <;> omega) _ _ | refine Below.drew ?_ | refine below_drewN ?_ _)⟩

theorem Try.infoEv : (Try.prog.info? 25).map (fun i => (i.zero, i.size, i.bytes)) = some (some (.agg #[.int .i64 0, .int .i64 0, .int .i64 0, .int .i64 0, .int .i64 0, .int .i64 0, .int .i64 0]), FEv.n, 56) := by kernel_rfl
set_option maxHeartbeats 1000000 in
theorem toEvS_ct (w : World) (v : Value) (l : List Ev) (h : RdL FEv w w.heap.size v l) (hs : l.length ≤ 1048576) :
    Calls Try.prog 11 #[v] w fun e w' => e = .returned (.slice (some ⟨w.heap.size, 0, none⟩) l.length l.length) ∧ OwL FEv 25 w' (.slice (some ⟨w.heap.size, 0, none⟩) l.length l.length) l ∧ Below w.heap.size w w' := by
  have hmk := run_make_flat (P := Try.prog) FEv 27 25 (.agg #[.int .i64 0, .int .i64 0, .int .i64 0, .int .i64 0, .int .i64 0, .int .i64 0, .int .i64 0]) 56 Try.underlying27 Try.infoEv l.length (by omega) (by omega)
  obtain ⟨A, cap, hv, _⟩ := id h
  subst hv
  go_enter Try.func11, Try.ntmps11
  go_wp2
  clear hmk
  go_loopw [4] (fun i wr => ∃ k : Nat, k ≤ l.length ∧ i = .int .i64 k ∧ OwL FEv 25 wr (.slice (some ⟨w.heap.size, 0, none⟩) l.length l.length) (l.take k ++ List.replicate (l.length - k) ⟨0, 0, 0, 0, 0, 0, 0⟩) ∧ Below w.heap.size w wr) (fun i _ => l.length - (intOf i).toNat)
  case atStart => exact ⟨0, Nat.zero_le _, rfl, OwL.made FEv #[.int .i64 0, .int .i64 0, .int .i64 0, .int .i64 0, .int .i64 0, .int .i64 0, .int .i64 0] rfl l.length (by simp [maxLen]; omega) w 25, (Below.refl _ _).alloc (Nat.le_refl _) _⟩
  case round =>
    obtain ⟨i, hk, rfl, ho, hb⟩ := hrel
    by_cases hlt : i < l.length
    · obtain ⟨g, off, cap', he, hg, _, _, hc⟩ := (h.below hb).at_ (List.getElem?_eq_getElem hlt)
      injection he with he1 he2 he3
      subst he1 he3
      have p0 : wr.cell? ⟨g, off + i * 7, none⟩ = some (.int .i64 l[i].Kind) := hc 0 _ rfl
      have p1 : wr.cell? ⟨g, off + i * 7 + 1, none⟩ = some (.int .i64 l[i].Who) := hc 1 _ rfl
      have p2 : wr.cell? ⟨g, off + i * 7 + 2, none⟩ = some (.int .i64 l[i].Serial) := hc 2 _ rfl
      have p3 : wr.cell? ⟨g, off + i * 7 + 3, none⟩ = some (.int .i64 l[i].Cell) := hc 3 _ rfl
      have p4 : wr.cell? ⟨g, off + i * 7 + 4, none⟩ = some (.int .i64 l[i].Handle) := hc 4 _ rfl
      have p5 : wr.cell? ⟨g, off + i * 7 + 5, none⟩ = some (.int .i64 l[i].Val) := hc 5 _ rfl
      have p6 : wr.cell? ⟨g, off + i * 7 + 6, none⟩ = some (.int .i64 l[i].Code) := hc 6 _ rfl
      have hx := upd_get l ⟨0, 0, 0, 0, 0, 0, 0⟩ i hlt
      have hz : w.heap.size < wr.heap.size := (World.ownsRow.lt ho _ rfl).2
      have hf := ho.frozen_
      have c0 : wr.cell? ⟨w.heap.size, i * 7, none⟩ = some (.int .i64 0) := ho.cell_ (j := 0) hx (by decide)
      have c1 : wr.cell? ⟨w.heap.size, i * 7 + 1, none⟩ = some (.int .i64 0) := ho.cell_ (j := 1) hx (by decide)
      have c2 : wr.cell? ⟨w.heap.size, i * 7 + 2, none⟩ = some (.int .i64 0) := ho.cell_ (j := 2) hx (by decide)
      have c3 : wr.cell? ⟨w.heap.size, i * 7 + 3, none⟩ = some (.int .i64 0) := ho.cell_ (j := 3) hx (by decide)
      have c4 : wr.cell? ⟨w.heap.size, i * 7 + 4, none⟩ = some (.int .i64 0) := ho.cell_ (j := 4) hx (by decide)
      have c5 : wr.cell? ⟨w.heap.size, i * 7 + 5, none⟩ = some (.int .i64 0) := ho.cell_ (j := 5) hx (by decide)
      have c6 : wr.cell? ⟨w.heap.size, i * 7 + 6, none⟩ = some (.int .i64 0) := ho.cell_ (j := 6) hx (by decide)
      clear hc
      go_wp2_with (go_at_call 36; refine (toEv_ct _ _ _ _ _ _ _ _).mono ?_; rintro e w1 ⟨rfl, hb1⟩; obtain ⟨os1, d1, rfl⟩ := below_grows hb1; clear hb1)
      clear hf c0 p0 c1 p1 c2 p2 c3 p3 c4 p4 c5 p5 c6 p6
      go_roundw
      case rel =>
        have s0 := ho.set_ (j := 0) (y := (⟨l[i].Kind, 0, 0, 0, 0, 0, 0⟩ : Ev)) (u := .int .i64 l[i].Kind) hx (by decide) rfl
        have s1 := s0.set_ (j := 1) (y := (⟨l[i].Kind, l[i].Who, 0, 0, 0, 0, 0⟩ : Ev)) (u := .int .i64 l[i].Who) (set_get (⟨l[i].Kind, 0, 0, 0, 0, 0, 0⟩ : Ev) hx) (by decide) rfl
        have s2 := s1.set_ (j := 2) (y := (⟨l[i].Kind, l[i].Who, l[i].Serial, 0, 0, 0, 0⟩ : Ev)) (u := .int .i64 l[i].Serial) (set_get (⟨l[i].Kind, l[i].Who, 0, 0, 0, 0, 0⟩ : Ev) (set_get (⟨l[i].Kind, 0, 0, 0, 0, 0, 0⟩ : Ev) hx)) (by decide) rfl
        have s3 := s2.set_ (j := 3) (y := (⟨l[i].Kind, l[i].Who, l[i].Serial, l[i].Cell, 0, 0, 0⟩ : Ev)) (u := .int .i64 l[i].Cell) (set_get (⟨l[i].Kind, l[i].Who, l[i].Serial, 0, 0, 0, 0⟩ : Ev) (set_get (⟨l[i].Kind, l[i].Who, 0, 0, 0, 0, 0⟩ : Ev) (set_get (⟨l[i].Kind, 0, 0, 0, 0, 0, 0⟩ : Ev) hx))) (by decide) rfl
        have s4 := s3.set_ (j := 4) (y := (⟨l[i].Kind, l[i].Who, l[i].Serial, l[i].Cell, l[i].Handle, 0, 0⟩ : Ev)) (u := .int .i64 l[i].Handle) (set_get (⟨l[i].Kind, l[i].Who, l[i].Serial, l[i].Cell, 0, 0, 0⟩ : Ev) (set_get (⟨l[i].Kind, l[i].Who, l[i].Serial, 0, 0, 0, 0⟩ : Ev) (set_get (⟨l[i].Kind, l[i].Who, 0, 0, 0, 0, 0⟩ : Ev) (set_get (⟨l[i].Kind, 0, 0, 0, 0, 0, 0⟩ : Ev) hx)))) (by decide) rfl
        have s5 := s4.set_ (j := 5) (y := (⟨l[i].Kind, l[i].Who, l[i].Serial, l[i].Cell, l[i].Handle, l[i].Val, 0⟩ : Ev)) (u := .int .i64 l[i].Val) (set_get (⟨l[i].Kind, l[i].Who, l[i].Serial, l[i].Cell, l[i].Handle, 0, 0⟩ : Ev) (set_get (⟨l[i].Kind, l[i].Who, l[i].Serial, l[i].Cell, 0, 0, 0⟩ : Ev) (set_get (⟨l[i].Kind, l[i].Who, l[i].Serial, 0, 0, 0, 0⟩ : Ev) (set_get (⟨l[i].Kind, l[i].Who, 0, 0, 0, 0, 0⟩ : Ev) (set_get (⟨l[i].Kind, 0, 0, 0, 0, 0, 0⟩ : Ev) hx))))) (by decide) rfl
        have s6 := s5.set_ (j := 6) (y := (⟨l[i].Kind, l[i].Who, l[i].Serial, l[i].Cell, l[i].Handle, l[i].Val, l[i].Code⟩ : Ev)) (u := .int .i64 l[i].Code) (set_get (⟨l[i].Kind, l[i].Who, l[i].Serial, l[i].Cell, l[i].Handle, l[i].Val, 0⟩ : Ev) (set_get (⟨l[i].Kind, l[i].Who, l[i].Serial, l[i].Cell, l[i].Handle, 0, 0⟩ : Ev) (set_get (⟨l[i].Kind, l[i].Who, l[i].Serial, l[i].Cell, 0, 0, 0⟩ : Ev) (set_get (⟨l[i].Kind, l[i].Who, l[i].Serial, 0, 0, 0, 0⟩ : Ev) (set_get (⟨l[i].Kind, l[i].Who, 0, 0, 0, 0, 0⟩ : Ev) (set_get (⟨l[i].Kind, 0, 0, 0, 0, 0, 0⟩ : Ev) hx)))))) (by decide) rfl
        simp only [List.set_set] at s6
        have e := upd_step l ⟨0, 0, 0, 0, 0, 0, 0⟩ i hlt
        refine ⟨i + 1, by omega, by go_num, ?_, ?_⟩
        · rw [← e]
          first | exact OwL.grow_ s6 _ _ | exact s6
        · first | exact below_grow_of (Below.setCell (Below.setCell (Below.setCell (Below.setCell (Below.setCell (Below.setCell (Below.setCell (hb) (by simp) _) (by simp) _) (by simp) _) (by simp) _) (by simp) _) (by simp) _) (by simp) _) (by simp; omega) _ _ | exact (Below.setCell (Below.setCell (Below.setCell (Below.setCell (Below.setCell (Below.setCell (Below.setCell (hb) (by simp) _) (by simp) _) (by simp) _) (by simp) _) (by simp) _) (by simp) _) (by simp) _)
      case measure => simp [intOf]; omega
    · go_wp2
      go_ret
      obtain rfl : i = l.length := by omega
      exact ⟨rfl, by simpa using ho, hb⟩

set_option maxHeartbeats 1000000 in
theorem eqEvS_ct (w : World) (v1 v2 : Value) (l : List Ev) (h1 : RdL FEv w w.heap.size v1 l) (h2 : RdL FEv w w.heap.size v2 l) (hs : l.length ≤ 1073741824) :
    Calls Try.prog 14 #[v1, v2] w fun e w' => e = .returned (.bool true) ∧ Below w.heap.size w w' := by
  obtain ⟨A1, c1, hv1, _⟩ := id h1
  obtain ⟨A2, c2, hv2, _⟩ := id h2
  subst hv1 hv2
  go_enter Try.func14, Try.ntmps14
  go_wp2
  go_loopw [5] (fun i wr => ∃ k : Nat, k ≤ l.length ∧ i = .int .i64 k ∧ Below w.heap.size w wr) (fun i _ => l.length - (intOf i).toNat)
  case atStart => exact ⟨0, Nat.zero_le _, rfl, Below.refl _ _⟩
  case round =>
    obtain ⟨i, hk, rfl, hb⟩ := hrel
    by_cases hlt : i < l.length
    · obtain ⟨g1, o1, cap1, e1, b1, _, _, q1⟩ := (h1.below hb).at_ (List.getElem?_eq_getElem hlt)
      obtain ⟨g2, o2, cap2, e2, b2, _, _, q2⟩ := (h2.below hb).at_ (List.getElem?_eq_getElem hlt)
      injection e1 with e11 _ e13
      injection e2 with e21 _ e23
      subst e11 e13 e21 e23
      have z1 : g1 < wr.heap.size := Nat.lt_of_lt_of_le b1 hb.size
      have z0 : w.heap.size ≤ wr.heap.size := hb.size
      have z2 : g2 < wr.heap.size := Nat.lt_of_lt_of_le b2 hb.size
      have p0 : wr.cell? ⟨g1, o1 + i * 7, none⟩ = some (.int .i64 l[i].Kind) := q1 0 _ rfl
      have p1 : wr.cell? ⟨g1, o1 + i * 7 + 1, none⟩ = some (.int .i64 l[i].Who) := q1 1 _ rfl
      have p2 : wr.cell? ⟨g1, o1 + i * 7 + 2, none⟩ = some (.int .i64 l[i].Serial) := q1 2 _ rfl
      have p3 : wr.cell? ⟨g1, o1 + i * 7 + 3, none⟩ = some (.int .i64 l[i].Cell) := q1 3 _ rfl
      have p4 : wr.cell? ⟨g1, o1 + i * 7 + 4, none⟩ = some (.int .i64 l[i].Handle) := q1 4 _ rfl
      have p5 : wr.cell? ⟨g1, o1 + i * 7 + 5, none⟩ = some (.int .i64 l[i].Val) := q1 5 _ rfl
      have p6 : wr.cell? ⟨g1, o1 + i * 7 + 6, none⟩ = some (.int .i64 l[i].Code) := q1 6 _ rfl
      have r0 : wr.cell? ⟨g2, o2 + i * 7, none⟩ = some (.int .i64 l[i].Kind) := q2 0 _ rfl
      have r1 : wr.cell? ⟨g2, o2 + i * 7 + 1, none⟩ = some (.int .i64 l[i].Who) := q2 1 _ rfl
      have r2 : wr.cell? ⟨g2, o2 + i * 7 + 2, none⟩ = some (.int .i64 l[i].Serial) := q2 2 _ rfl
      have r3 : wr.cell? ⟨g2, o2 + i * 7 + 3, none⟩ = some (.int .i64 l[i].Cell) := q2 3 _ rfl
      have r4 : wr.cell? ⟨g2, o2 + i * 7 + 4, none⟩ = some (.int .i64 l[i].Handle) := q2 4 _ rfl
      have r5 : wr.cell? ⟨g2, o2 + i * 7 + 5, none⟩ = some (.int .i64 l[i].Val) := q2 5 _ rfl
      have r6 : wr.cell? ⟨g2, o2 + i * 7 + 6, none⟩ = some (.int .i64 l[i].Code) := q2 6 _ rfl
      clear q1 q2
      go_wp2
      go_region_held3 (fun w' => w'.cell? ⟨g1, o1 + i * 7, none⟩ = some (.int .i64 l[i].Kind) ∧ w'.cell? ⟨g1, o1 + i * 7 + 1, none⟩ = some (.int .i64 l[i].Who) ∧ w'.cell? ⟨g1, o1 + i * 7 + 2, none⟩ = some (.int .i64 l[i].Serial) ∧ w'.cell? ⟨g1, o1 + i * 7 + 3, none⟩ = some (.int .i64 l[i].Cell) ∧ w'.cell? ⟨g1, o1 + i * 7 + 4, none⟩ = some (.int .i64 l[i].Handle) ∧ w'.cell? ⟨g1, o1 + i * 7 + 5, none⟩ = some (.int .i64 l[i].Val) ∧ w'.cell? ⟨g1, o1 + i * 7 + 6, none⟩ = some (.int .i64 l[i].Code) ∧ w'.cell? ⟨g2, o2 + i * 7, none⟩ = some (.int .i64 l[i].Kind) ∧ w'.cell? ⟨g2, o2 + i * 7 + 1, none⟩ = some (.int .i64 l[i].Who) ∧ w'.cell? ⟨g2, o2 + i * 7 + 2, none⟩ = some (.int .i64 l[i].Serial) ∧ w'.cell? ⟨g2, o2 + i * 7 + 3, none⟩ = some (.int .i64 l[i].Cell) ∧ w'.cell? ⟨g2, o2 + i * 7 + 4, none⟩ = some (.int .i64 l[i].Handle) ∧ w'.cell? ⟨g2, o2 + i * 7 + 5, none⟩ = some (.int .i64 l[i].Val) ∧ w'.cell? ⟨g2, o2 + i * 7 + 6, none⟩ = some (.int .i64 l[i].Code) ∧ g1 < w'.heap.size ∧ g2 < w'.heap.size ∧ Below w.heap.size w w') (first | (go_keep; done) | ((try go_split_ands); refine ⟨?_, ?_, ?_, ?_, ?_, ?_, ?_, ?_, ?_, ?_, ?_, ?_, ?_, ?_, ?_, ?_, ?_⟩; all_goals first | assumption | exact Below.drew (by assumption) | (simp [go_sem, *]; done) | exact below_grow_of (by assumption) (by omega) _ _ | (rw [size_grow]; omega))) ((go_at_call 13; refine (eqEv_ct _ _ _ _ _ _ _ _).mono ?_; rintro e w1 ⟨rfl, hb1⟩; obtain ⟨os1, d1, rfl⟩ := below_grows hb1; clear hb1))
      go_wp2
      go_roundw
      case rel => exact ⟨i + 1, by omega, by go_num, by first | assumption | (try go_split_ands; assumption)⟩
      case measure => simp [intOf]; omega
    · go_wp2
      go_ret
      exact ⟨rfl, hb⟩

set_option maxHeartbeats 400000 in
theorem szEvS_ct (w : World) (A : Option Addr) (n c : Nat) (k : Nat) (hn : n ≤ 9223372036854775807) (hk : k ≤ 1073741824) :
    Calls Try.prog 9 #[.slice A n c, .int .i64 k] w fun e w' => e = .returned (.int .i64 (leftOf k n)) ∧ Below w.heap.size w w' := by
  by_cases h : n ≤ k
  · go_enter Try.func9, Try.ntmps9
    go_wp2
    go_ret
    exact ⟨ret_i64 (leftOf_pos h).symm, by repeat (first | exact Below.refl _ _ | refine Below.alloc ?_ (by simp <;> omega) _ | refine below_grow_of ?_ (by simp <;> omega) _ _ | refine Below.drew ?_ | refine below_drewN ?_ _)⟩
  · go_enter Try.func9, Try.ntmps9
    go_wp2
    go_ret
    exact ⟨ret_i64 (leftOf_neg h).symm, by repeat (first | exact Below.refl _ _ | refine Below.alloc ?_ (by simp <;> omega) _ | refine below_grow_of ?_ (by simp <;> omega) _ _ | refine Below.drew ?_ | refine below_drewN ?_ _)⟩

set_option maxHeartbeats 1000000 in
theorem markEvS_ct (w : World) (v : Value) (l : List Ev) (k : Int) (h : OwL FEv 25 w v l) (hk0 : 0 ≤ k) (hk1 : (k + (l.length : Int) * 7) ≤ 4611686018427387904) :
    Calls Try.prog 27 #[v, .int .i64 k] w fun e w' => e = .returned (.int .i64 (k + (l.length : Int) * 7)) ∧ OwL FEv 25 w' v (marks mkEv 7 l l.length k) ∧ w.grownBy w' v.ownBlock ∧ w'.heap.size = w.heap.size := by
  rcases h.form with ⟨rfl, rfl⟩ | ⟨g, cap, hv, hg, hl, hc⟩
  · go_enter Try.func27, Try.ntmps27
    go_wp2
    go_loop [1, 5] (fun q i => q = .int .i64 k ∧ i = .int .i64 0) (fun _ _ => 0)
    case atStart => exact ⟨rfl, rfl⟩
    case round =>
      obtain ⟨rfl, rfl⟩ := hrel
      go_wp2
      go_ret
      exact ⟨by simp, h, World.grownBy.refl _ _, rfl⟩
  subst hv
  go_enter Try.func27, Try.ntmps27
  go_wp2
  go_loopw [1, 5] (fun q i wr => ∃ i' : Nat, i' ≤ l.length ∧ i = .int .i64 i' ∧ q = .int .i64 (k + (i' : Int) * 7) ∧ OwL FEv 25 wr (.slice (some ⟨g, 0, none⟩) l.length cap) (marks mkEv 7 l i' k) ∧ w.grownBy wr (some g) ∧ wr.heap.size = w.heap.size) (fun _ i _ => l.length - (intOf i).toNat)
  case atStart => exact ⟨0, Nat.zero_le _, rfl, by simp, h, World.grownBy.refl _ _, rfl⟩
  case round =>
    obtain ⟨i, hi, rfl, rfl, ho, hgr, hsz⟩ := hrel
    by_cases hlt : i < l.length
    · have hx := marks_get mkEv 7 l i k hlt
      have hf := ho.frozen_
      have c0 : wr.cell? ⟨g, i * 7, none⟩ = some (.int .i64 l[i].Kind) := ho.cell_ (j := 0) hx (by decide)
      have c1 : wr.cell? ⟨g, i * 7 + 1, none⟩ = some (.int .i64 l[i].Who) := ho.cell_ (j := 1) hx (by decide)
      have c2 : wr.cell? ⟨g, i * 7 + 2, none⟩ = some (.int .i64 l[i].Serial) := ho.cell_ (j := 2) hx (by decide)
      have c3 : wr.cell? ⟨g, i * 7 + 3, none⟩ = some (.int .i64 l[i].Cell) := ho.cell_ (j := 3) hx (by decide)
      have c4 : wr.cell? ⟨g, i * 7 + 4, none⟩ = some (.int .i64 l[i].Handle) := ho.cell_ (j := 4) hx (by decide)
      have c5 : wr.cell? ⟨g, i * 7 + 5, none⟩ = some (.int .i64 l[i].Val) := ho.cell_ (j := 5) hx (by decide)
      have c6 : wr.cell? ⟨g, i * 7 + 6, none⟩ = some (.int .i64 l[i].Code) := ho.cell_ (j := 6) hx (by decide)
      clear h
      go_wp2
      clear hf c0 c1 c2 c3 c4 c5 c6
      go_roundw
      case rel =>
        have s0 := ho.set_ (j := 0) (y := (⟨(k + (i : Int) * 7), l[i].Who, l[i].Serial, l[i].Cell, l[i].Handle, l[i].Val, l[i].Code⟩ : Ev)) (u := .int .i64 (k + (i : Int) * 7)) hx (by decide) rfl
        have s1 := s0.set_ (j := 1) (y := (⟨(k + (i : Int) * 7), (k + (i : Int) * 7 + 1), l[i].Serial, l[i].Cell, l[i].Handle, l[i].Val, l[i].Code⟩ : Ev)) (u := .int .i64 (k + (i : Int) * 7 + 1)) (set_get (⟨(k + (i : Int) * 7), l[i].Who, l[i].Serial, l[i].Cell, l[i].Handle, l[i].Val, l[i].Code⟩ : Ev) hx) (by decide) rfl
        have s2 := s1.set_ (j := 2) (y := (⟨(k + (i : Int) * 7), (k + (i : Int) * 7 + 1), (k + (i : Int) * 7 + 1 + 1), l[i].Cell, l[i].Handle, l[i].Val, l[i].Code⟩ : Ev)) (u := .int .i64 (k + (i : Int) * 7 + 1 + 1)) (set_get (⟨(k + (i : Int) * 7), (k + (i : Int) * 7 + 1), l[i].Serial, l[i].Cell, l[i].Handle, l[i].Val, l[i].Code⟩ : Ev) (set_get (⟨(k + (i : Int) * 7), l[i].Who, l[i].Serial, l[i].Cell, l[i].Handle, l[i].Val, l[i].Code⟩ : Ev) hx)) (by decide) rfl
        have s3 := s2.set_ (j := 3) (y := (⟨(k + (i : Int) * 7), (k + (i : Int) * 7 + 1), (k + (i : Int) * 7 + 1 + 1), (k + (i : Int) * 7 + 1 + 1 + 1), l[i].Handle, l[i].Val, l[i].Code⟩ : Ev)) (u := .int .i64 (k + (i : Int) * 7 + 1 + 1 + 1)) (set_get (⟨(k + (i : Int) * 7), (k + (i : Int) * 7 + 1), (k + (i : Int) * 7 + 1 + 1), l[i].Cell, l[i].Handle, l[i].Val, l[i].Code⟩ : Ev) (set_get (⟨(k + (i : Int) * 7), (k + (i : Int) * 7 + 1), l[i].Serial, l[i].Cell, l[i].Handle, l[i].Val, l[i].Code⟩ : Ev) (set_get (⟨(k + (i : Int) * 7), l[i].Who, l[i].Serial, l[i].Cell, l[i].Handle, l[i].Val, l[i].Code⟩ : Ev) hx))) (by decide) rfl
        have s4 := s3.set_ (j := 4) (y := (⟨(k + (i : Int) * 7), (k + (i : Int) * 7 + 1), (k + (i : Int) * 7 + 1 + 1), (k + (i : Int) * 7 + 1 + 1 + 1), (k + (i : Int) * 7 + 1 + 1 + 1 + 1), l[i].Val, l[i].Code⟩ : Ev)) (u := .int .i64 (k + (i : Int) * 7 + 1 + 1 + 1 + 1)) (set_get (⟨(k + (i : Int) * 7), (k + (i : Int) * 7 + 1), (k + (i : Int) * 7 + 1 + 1), (k + (i : Int) * 7 + 1 + 1 + 1), l[i].Handle, l[i].Val, l[i].Code⟩ : Ev) (set_get (⟨(k + (i : Int) * 7), (k + (i : Int) * 7 + 1), (k + (i : Int) * 7 + 1 + 1), l[i].Cell, l[i].Handle, l[i].Val, l[i].Code⟩ : Ev) (set_get (⟨(k + (i : Int) * 7), (k + (i : Int) * 7 + 1), l[i].Serial, l[i].Cell, l[i].Handle, l[i].Val, l[i].Code⟩ : Ev) (set_get (⟨(k + (i : Int) * 7), l[i].Who, l[i].Serial, l[i].Cell, l[i].Handle, l[i].Val, l[i].Code⟩ : Ev) hx)))) (by decide) rfl
        have s5 := s4.set_ (j := 5) (y := (⟨(k + (i : Int) * 7), (k + (i : Int) * 7 + 1), (k + (i : Int) * 7 + 1 + 1), (k + (i : Int) * 7 + 1 + 1 + 1), (k + (i : Int) * 7 + 1 + 1 + 1 + 1), (k + (i : Int) * 7 + 1 + 1 + 1 + 1 + 1), l[i].Code⟩ : Ev)) (u := .int .i64 (k + (i : Int) * 7 + 1 + 1 + 1 + 1 + 1)) (set_get (⟨(k + (i : Int) * 7), (k + (i : Int) * 7 + 1), (k + (i : Int) * 7 + 1 + 1), (k + (i : Int) * 7 + 1 + 1 + 1), (k + (i : Int) * 7 + 1 + 1 + 1 + 1), l[i].Val, l[i].Code⟩ : Ev) (set_get (⟨(k + (i : Int) * 7), (k + (i : Int) * 7 + 1), (k + (i : Int) * 7 + 1 + 1), (k + (i : Int) * 7 + 1 + 1 + 1), l[i].Handle, l[i].Val, l[i].Code⟩ : Ev) (set_get (⟨(k + (i : Int) * 7), (k + (i : Int) * 7 + 1), (k + (i : Int) * 7 + 1 + 1), l[i].Cell, l[i].Handle, l[i].Val, l[i].Code⟩ : Ev) (set_get (⟨(k + (i : Int) * 7), (k + (i : Int) * 7 + 1), l[i].Serial, l[i].Cell, l[i].Handle, l[i].Val, l[i].Code⟩ : Ev) (set_get (⟨(k + (i : Int) * 7), l[i].Who, l[i].Serial, l[i].Cell, l[i].Handle, l[i].Val, l[i].Code⟩ : Ev) hx))))) (by decide) rfl
        have s6 := s5.set_ (j := 6) (y := (⟨(k + (i : Int) * 7), (k + (i : Int) * 7 + 1), (k + (i : Int) * 7 + 1 + 1), (k + (i : Int) * 7 + 1 + 1 + 1), (k + (i : Int) * 7 + 1 + 1 + 1 + 1), (k + (i : Int) * 7 + 1 + 1 + 1 + 1 + 1), (k + (i : Int) * 7 + 1 + 1 + 1 + 1 + 1 + 1)⟩ : Ev)) (u := .int .i64 (k + (i : Int) * 7 + 1 + 1 + 1 + 1 + 1 + 1)) (set_get (⟨(k + (i : Int) * 7), (k + (i : Int) * 7 + 1), (k + (i : Int) * 7 + 1 + 1), (k + (i : Int) * 7 + 1 + 1 + 1), (k + (i : Int) * 7 + 1 + 1 + 1 + 1), (k + (i : Int) * 7 + 1 + 1 + 1 + 1 + 1), l[i].Code⟩ : Ev) (set_get (⟨(k + (i : Int) * 7), (k + (i : Int) * 7 + 1), (k + (i : Int) * 7 + 1 + 1), (k + (i : Int) * 7 + 1 + 1 + 1), (k + (i : Int) * 7 + 1 + 1 + 1 + 1), l[i].Val, l[i].Code⟩ : Ev) (set_get (⟨(k + (i : Int) * 7), (k + (i : Int) * 7 + 1), (k + (i : Int) * 7 + 1 + 1), (k + (i : Int) * 7 + 1 + 1 + 1), l[i].Handle, l[i].Val, l[i].Code⟩ : Ev) (set_get (⟨(k + (i : Int) * 7), (k + (i : Int) * 7 + 1), (k + (i : Int) * 7 + 1 + 1), l[i].Cell, l[i].Handle, l[i].Val, l[i].Code⟩ : Ev) (set_get (⟨(k + (i : Int) * 7), (k + (i : Int) * 7 + 1), l[i].Serial, l[i].Cell, l[i].Handle, l[i].Val, l[i].Code⟩ : Ev) (set_get (⟨(k + (i : Int) * 7), l[i].Who, l[i].Serial, l[i].Cell, l[i].Handle, l[i].Val, l[i].Code⟩ : Ev) hx)))))) (by decide) rfl
        refine ⟨i + 1, by omega, by go_num, by go_num, ?_, grown_set (grown_set (grown_set (grown_set (grown_set (grown_set (grown_set (hgr) _ _) _ _) _ _) _ _) _ _) _ _) _ _, by simp [hsz]⟩
        simp only [List.set_set] at s6
        have e := marks_step mkEv 7 l i k hlt
        rw [← e]
        exact s6
      case measure => simp [intOf]; omega
    · go_wp2
      go_ret
      obtain rfl : i = l.length := by omega
      exact ⟨rfl, ho, hgr, hsz⟩

set_option maxHeartbeats 1000000 in
theorem heldEvS_ct (w : World) (v : Value) (l : List Ev) (k : Int) (h : RdL FEv w w.heap.size v (marks mkEv 7 l l.length k)) (hk0 : 0 ≤ k) (hk1 : (k + (l.length : Int) * 7) ≤ 4611686018427387904) :
    Calls Try.prog 28 #[v, .int .i64 k] w fun e w' => e = .returned (.int .i64 (k + (l.length : Int) * 7)) ∧ Below w.heap.size w w' := by
  obtain ⟨A, cap, hv, _⟩ := id h
  rw [marks_length] at hv
  subst hv
  go_enter Try.func28, Try.ntmps28
  go_wp2
  go_loopw [1, 5] (fun q i wr => ∃ i' : Nat, i' ≤ l.length ∧ i = .int .i64 i' ∧ q = .int .i64 (k + (i' : Int) * 7) ∧ Below w.heap.size w wr) (fun _ i _ => l.length - (intOf i).toNat)
  case atStart => exact ⟨0, Nat.zero_le _, rfl, by simp, Below.refl _ _⟩
  case round =>
    obtain ⟨i, hi, rfl, rfl, hb⟩ := hrel
    by_cases hlt : i < l.length
    · obtain ⟨g, off, cap', he, _, _, _, hq⟩ := (h.below hb).at_ (marks_at mkEv 7 l k i hlt)
      injection he with he1 he2 he3
      clear he2
      subst he1 he3
      have c0 : wr.cell? ⟨g, off + i * 7, none⟩ = some (.int .i64 (k + (i : Int) * 7)) := hq 0 _ rfl
      have c1 : wr.cell? ⟨g, off + i * 7 + 1, none⟩ = some (.int .i64 (k + (i : Int) * 7 + 1)) := hq 1 _ rfl
      have c2 : wr.cell? ⟨g, off + i * 7 + 2, none⟩ = some (.int .i64 (k + (i : Int) * 7 + 1 + 1)) := hq 2 _ rfl
      have c3 : wr.cell? ⟨g, off + i * 7 + 3, none⟩ = some (.int .i64 (k + (i : Int) * 7 + 1 + 1 + 1)) := hq 3 _ rfl
      have c4 : wr.cell? ⟨g, off + i * 7 + 4, none⟩ = some (.int .i64 (k + (i : Int) * 7 + 1 + 1 + 1 + 1)) := hq 4 _ rfl
      have c5 : wr.cell? ⟨g, off + i * 7 + 5, none⟩ = some (.int .i64 (k + (i : Int) * 7 + 1 + 1 + 1 + 1 + 1)) := hq 5 _ rfl
      have c6 : wr.cell? ⟨g, off + i * 7 + 6, none⟩ = some (.int .i64 (k + (i : Int) * 7 + 1 + 1 + 1 + 1 + 1 + 1)) := hq 6 _ rfl
      clear hq
      go_wp2
      all_goals
        go_roundw
        case rel => exact ⟨i + 1, by omega, by go_num, by go_num, by first | exact hb | exact below_drewN hb _⟩
        case measure => simp [intOf]; omega
    · go_wp2
      go_ret
      obtain rfl : i = l.length := by omega
      exact ⟨rfl, hb⟩
theorem toEvS_w (w : World) (K : SV) (l : List Ev) (h : RdL FEv w w.heap.size K.val l) (hs : l.length ≤ 1048576) :
    Calls Try.prog 11 #[.slice K.a K.len K.cap] w fun e w' => ∃ K' : SV, e = .returned (.slice K'.a K'.len K'.cap) ∧ OwL FEv 25 w' K'.val l ∧ (∀ g ∈ foot1 K'.val, w.heap.size ≤ g) ∧ Below w.heap.size w w' :=
  (toEvS_ct w _ l h hs).mono fun _ _ ⟨a, b, c⟩ => ⟨⟨_, _, _⟩, a, b, fun g hg => by have := mem_foot1.1 hg; simp [SV.val, Value.ownBlock] at this; omega, c⟩
theorem eqEvS_w (w : World) (K1 K2 : SV) (l : List Ev) (h1 : RdL FEv w w.heap.size K1.val l) (h2 : RdL FEv w w.heap.size K2.val l) (hs : l.length ≤ 1073741824) :
    Calls Try.prog 14 #[.slice K1.a K1.len K1.cap, .slice K2.a K2.len K2.cap] w fun e w' => e = .returned (.bool true) ∧ Below w.heap.size w w' := eqEvS_ct w _ _ l h1 h2 hs
theorem szEvS_w (w : World) (K : SV) (l : List Ev) (k : Nat) (h : RdL FEv w w.heap.size K.val l) (hk : k ≤ 1073741824) :
    Calls Try.prog 9 #[.slice K.a K.len K.cap, .int .i64 k] w fun e w' => e = .returned (.int .i64 (leftOf k l.length)) ∧ Below w.heap.size w w' := by
  have hl := RdL.len_ (show RdL FEv w w.heap.size (.slice K.a K.len K.cap) l from h)
  rw [← hl.1]
  exact szEvS_ct w K.a K.len K.cap k hl.2 hk
theorem markEvS_w (w : World) (K : SV) (l : List Ev) (k : Int) (h : OwL FEv 25 w K.val l) (hk0 : 0 ≤ k) (hk1 : k + ((l.length * 7 : Nat) : Int) ≤ 4611686018427387904) :
    Calls Try.prog 27 #[.slice K.a K.len K.cap, .int .i64 k] w fun e w' => e = .returned (.int .i64 (k + ((l.length * 7 : Nat) : Int))) ∧ OwL FEv 25 w' K.val (marks mkEv 7 l l.length k) ∧ Chg (foot1 K.val) w w' :=
  (markEvS_ct w _ l k h hk0 (by omega)).mono fun _ _ ⟨a, b, c, _⟩ => ⟨a.trans (ret_i64 (by omega)), b, Chg.of_grown c⟩
theorem heldEvS_w (w : World) (K : SV) (l : List Ev) (k : Int) (h : RdL FEv w w.heap.size K.val (marks mkEv 7 l l.length k)) (hk0 : 0 ≤ k) (hk1 : k + ((l.length * 7 : Nat) : Int) ≤ 4611686018427387904) :
    Calls Try.prog 28 #[.slice K.a K.len K.cap, .int .i64 k] w fun e w' => e = .returned (.int .i64 (k + ((l.length * 7 : Nat) : Int))) ∧ Below w.heap.size w w' :=
  (heldEvS_ct w _ l k h hk0 (by omega)).mono fun _ _ ⟨a, b⟩ => ⟨a.trans (ret_i64 (by omega)), b⟩
end Go.Proofs.Ytdepckmjgpkjmaa
