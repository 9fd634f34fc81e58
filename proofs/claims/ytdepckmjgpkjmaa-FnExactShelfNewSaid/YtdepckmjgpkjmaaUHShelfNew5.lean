/-
  Several texts in one: lemmas and contracts that the claim rests on.
-/
import Derived.Test.YtdepckmjgpkjmaaUHShelfNew1
import Derived.Deep.QuietTactic
import Derived.BigQuiet
import Derived.Deep.LoopGhost
import Derived.Deep.RegionHeld3
import Derived.WalkSpells
import Derived.Laws.Cover3
import Derived.Test.YtdepckmjgpkjmaaUHShelfNew3
import Derived.Test.YtdepckmjgpkjmaaUHShelfNew4
import Derived.Test.YtdepckmjgpkjmaaUHShelfNew2
/-
  Jobs: held.
-/
namespace Go.Proofs.Ytdepckmjgpkjmaa
open Go.RowKit

set_option maxRecDepth 1000000 in
set_option maxHeartbeats 8000000 in
theorem heldJobS_ct (w : World) (v : Value) (l : List Job) (k : Int) (h : RdL FJob w w.heap.size v (marks mkJob 21 l l.length k)) (hk0 : 0 ≤ k) (hk1 : (k + (l.length : Int) * 21) ≤ 4611686018427387904) :
    Calls Try.prog 76 #[v, .int .i64 k] w fun e w' => e = .returned (.int .i64 (k + (l.length : Int) * 21)) ∧ Below w.heap.size w w' := by
  obtain ⟨A, cap, hv, _⟩ := id h
  rw [marks_length] at hv
  subst hv
  go_enter Try.func76, Try.ntmps76
  go_wp2
  go_loopw [1, 5] (fun q i wr => ∃ i' : Nat, i' ≤ l.length ∧ i = .int .i64 i' ∧ q = .int .i64 (k + (i' : Int) * 21) ∧ Below w.heap.size w wr) (fun _ i _ => l.length - (intOf i).toNat)
  case atStart => exact ⟨0, Nat.zero_le _, rfl, by simp, Below.refl _ _⟩
  case round =>
    obtain ⟨i, hi, rfl, rfl, hb⟩ := hrel
    by_cases hlt : i < l.length
    · obtain ⟨g, off, cap', he, _, _, _, hq⟩ := (h.below hb).at_ (marks_at mkJob 21 l k i hlt)
      injection he with he1 he2 he3
      clear he2
      subst he1 he3
      have c0 : wr.cell? ⟨g, off + i * 21, none⟩ = some (.bool ((k + (i : Int) * 21) % 3 == 0)) := hq 0 _ rfl
      have c1 : wr.cell? ⟨g, off + i * 21 + 1, none⟩ = some (.int .i64 (k + (i : Int) * 21 + 1)) := hq 1 _ rfl
      have c2 : wr.cell? ⟨g, off + i * 21 + 2, none⟩ = some (.int .i64 (k + (i : Int) * 21 + 1 + 1)) := hq 2 _ rfl
      have c3 : wr.cell? ⟨g, off + i * 21 + 3, none⟩ = some (.int .i64 (k + (i : Int) * 21 + 1 + 1 + 1)) := hq 3 _ rfl
      have c4 : wr.cell? ⟨g, off + i * 21 + 4, none⟩ = some (.int .i64 (k + (i : Int) * 21 + 1 + 1 + 1 + 1)) := hq 4 _ rfl
      have c5 : wr.cell? ⟨g, off + i * 21 + 5, none⟩ = some (.int .i64 (k + (i : Int) * 21 + 1 + 1 + 1 + 1 + 1)) := hq 5 _ rfl
      have c6 : wr.cell? ⟨g, off + i * 21 + 6, none⟩ = some (.int .i64 (k + (i : Int) * 21 + 1 + 1 + 1 + 1 + 1 + 1)) := hq 6 _ rfl
      have c7 : wr.cell? ⟨g, off + i * 21 + 7, none⟩ = some (.int .i64 (k + (i : Int) * 21 + 1 + 1 + 1 + 1 + 1 + 1 + 1)) := hq 7 _ rfl
      have c8 : wr.cell? ⟨g, off + i * 21 + 8, none⟩ = some (.int .i64 (k + (i : Int) * 21 + 1 + 1 + 1 + 1 + 1 + 1 + 1 + 1)) := hq 8 _ rfl
      have c9 : wr.cell? ⟨g, off + i * 21 + 9, none⟩ = some (.int .i64 (k + (i : Int) * 21 + 1 + 1 + 1 + 1 + 1 + 1 + 1 + 1 + 1)) := hq 9 _ rfl
      have c10 : wr.cell? ⟨g, off + i * 21 + 10, none⟩ = some (.int .i64 (k + (i : Int) * 21 + 1 + 1 + 1 + 1 + 1 + 1 + 1 + 1 + 1 + 1)) := hq 10 _ rfl
      have c11 : wr.cell? ⟨g, off + i * 21 + 11, none⟩ = some (.int .i64 (k + (i : Int) * 21 + 1 + 1 + 1 + 1 + 1 + 1 + 1 + 1 + 1 + 1 + 1)) := hq 11 _ rfl
      have c12 : wr.cell? ⟨g, off + i * 21 + 12, none⟩ = some (.int .i64 (k + (i : Int) * 21 + 1 + 1 + 1 + 1 + 1 + 1 + 1 + 1 + 1 + 1 + 1 + 1)) := hq 12 _ rfl
      have c13 : wr.cell? ⟨g, off + i * 21 + 13, none⟩ = some (.int .i64 (k + (i : Int) * 21 + 1 + 1 + 1 + 1 + 1 + 1 + 1 + 1 + 1 + 1 + 1 + 1 + 1)) := hq 13 _ rfl
      have c14 : wr.cell? ⟨g, off + i * 21 + 14, none⟩ = some (.int .i64 (k + (i : Int) * 21 + 1 + 1 + 1 + 1 + 1 + 1 + 1 + 1 + 1 + 1 + 1 + 1 + 1 + 1)) := hq 14 _ rfl
      have c15 : wr.cell? ⟨g, off + i * 21 + 15, none⟩ = some (.int .i64 (k + (i : Int) * 21 + 1 + 1 + 1 + 1 + 1 + 1 + 1 + 1 + 1 + 1 + 1 + 1 + 1 + 1 + 1)) := hq 15 _ rfl
      have c16 : wr.cell? ⟨g, off + i * 21 + 16, none⟩ = some (.bool ((k + (i : Int) * 21 + 1 + 1 + 1 + 1 + 1 + 1 + 1 + 1 + 1 + 1 + 1 + 1 + 1 + 1 + 1 + 1) % 3 == 0)) := hq 16 _ rfl
      have c17 : wr.cell? ⟨g, off + i * 21 + 17, none⟩ = some (.int .i64 (k + (i : Int) * 21 + 1 + 1 + 1 + 1 + 1 + 1 + 1 + 1 + 1 + 1 + 1 + 1 + 1 + 1 + 1 + 1 + 1)) := hq 17 _ rfl
      have c18 : wr.cell? ⟨g, off + i * 21 + 18, none⟩ = some (.int .i64 (k + (i : Int) * 21 + 1 + 1 + 1 + 1 + 1 + 1 + 1 + 1 + 1 + 1 + 1 + 1 + 1 + 1 + 1 + 1 + 1 + 1)) := hq 18 _ rfl
      have c19 : wr.cell? ⟨g, off + i * 21 + 19, none⟩ = some (.int .i64 (k + (i : Int) * 21 + 1 + 1 + 1 + 1 + 1 + 1 + 1 + 1 + 1 + 1 + 1 + 1 + 1 + 1 + 1 + 1 + 1 + 1 + 1)) := hq 19 _ rfl
      have c20 : wr.cell? ⟨g, off + i * 21 + 20, none⟩ = some (.int .i64 (k + (i : Int) * 21 + 1 + 1 + 1 + 1 + 1 + 1 + 1 + 1 + 1 + 1 + 1 + 1 + 1 + 1 + 1 + 1 + 1 + 1 + 1 + 1)) := hq 20 _ rfl
      clear hq
      go_wp2
      all_goals
        go_roundw
        case rel => exact ⟨i + 1, by omega, by go_num, by go_num, by first | exact hb | exact below_drewN hb _⟩
        case measure => simp [intOf]; omega
    · go_wp2
      go_ret
      obtain rfl : i = l.length := by omega
      exact ⟨rfl, hb⟩
end Go.Proofs.Ytdepckmjgpkjmaa

/-
  Jobs: the forms that structs want.
-/
namespace Go.Proofs.Ytdepckmjgpkjmaa
open Go.RowKit
theorem eqJobS_w (w : World) (K1 K2 : SV) (l : List Job) (h1 : RdL FJob w w.heap.size K1.val l) (h2 : RdL FJob w w.heap.size K2.val l) (hs : l.length ≤ 1073741824) :
    Calls Try.prog 51 #[.slice K1.a K1.len K1.cap, .slice K2.a K2.len K2.cap] w fun e w' => e = .returned (.bool true) ∧ Below w.heap.size w w' := eqJobS_ct w _ _ l h1 h2 hs
theorem markJobS_w (w : World) (K : SV) (l : List Job) (k : Int) (h : OwL FJob 97 w K.val l) (hk0 : 0 ≤ k) (hk1 : k + ((l.length * 21 : Nat) : Int) ≤ 4611686018427387904) :
    Calls Try.prog 63 #[.slice K.a K.len K.cap, .int .i64 k] w fun e w' => e = .returned (.int .i64 (k + ((l.length * 21 : Nat) : Int))) ∧ OwL FJob 97 w' K.val (marks mkJob 21 l l.length k) ∧ Chg (foot1 K.val) w w' :=
  (markJobS_ct w _ l k h hk0 (by omega)).mono fun _ _ ⟨a, b, c, _⟩ => ⟨a.trans (ret_i64 (by omega)), b, Chg.of_grown c⟩
theorem heldJobS_w (w : World) (K : SV) (l : List Job) (k : Int) (h : RdL FJob w w.heap.size K.val (marks mkJob 21 l l.length k)) (hk0 : 0 ≤ k) (hk1 : k + ((l.length * 21 : Nat) : Int) ≤ 4611686018427387904) :
    Calls Try.prog 76 #[.slice K.a K.len K.cap, .int .i64 k] w fun e w' => e = .returned (.int .i64 (k + ((l.length * 21 : Nat) : Int))) ∧ Below w.heap.size w w' :=
  (heldJobS_ct w _ l k h hk0 (by omega)).mono fun _ _ ⟨a, b⟩ => ⟨a.trans (ret_i64 (by omega)), b⟩
end Go.Proofs.Ytdepckmjgpkjmaa

/-
  Pins and clocks: compared, made, measured, marked.
-/
namespace Go.Proofs.Ytdepckmjgpkjmaa
open Go.RowKit

set_option maxHeartbeats 2000000 in
theorem eqPin_ct (a1 a3 : Int) (a0 a2 : Bool) (w : World) : Calls Try.prog 168 #[.agg #[.bool a0, .int .i64 a1, .bool a2, .int .i64 a3], .agg #[.bool a0, .int .i64 a1, .bool a2, .int .i64 a3]] w fun e w' => e = .returned (.bool true) ∧ Below w.heap.size w w' := by
  go_enter Try.func168, Try.ntmps168
  go_wp2
  go_ret
  exact ⟨rfl, by repeat (first | exact Below.refl _ _ | refine Below.alloc ?_ (by simp <;> omega) _ | refine below_grow_of ?_ (by simp <;> omega) _ _ | refine Below.drew ?_ | refine below_drewN ?_ _)⟩

theorem Try.infoPin : (Try.prog.info? 178).map (fun i => (i.zero, i.size, i.bytes)) = some (some (.agg #[.bool false, .int .i64 0, .bool false, .int .i64 0]), FPin.n, 32) := by kernel_rfl
set_option maxHeartbeats 1000000 in
theorem eqPinS_ct (w : World) (v1 v2 : Value) (l : List Pin) (h1 : RdL FPin w w.heap.size v1 l) (h2 : RdL FPin w w.heap.size v2 l) (hs : l.length ≤ 1073741824) :
    Calls Try.prog 134 #[v1, v2] w fun e w' => e = .returned (.bool true) ∧ Below w.heap.size w w' := by
  obtain ⟨A1, c1, hv1, _⟩ := id h1
  obtain ⟨A2, c2, hv2, _⟩ := id h2
  subst hv1 hv2
  go_enter Try.func134, Try.ntmps134
  go_wp2
  go_loopw [5] (fun i wr => ∃ k : Nat, k ≤ l.length ∧ i = .int .i64 k ∧ Below w.heap.size w wr) (fun i _ => l.length - (intOf i).toNat)
  case atStart => exact ⟨0, Nat.zero_le _, rfl, Below.refl _ _⟩
  case round =>
    obtain ⟨i, hk, rfl, hb⟩ := hrel
    by_cases hlt : i < l.length
    · obtain ⟨g1, o1, cap1, e1, b1, _, _, q1⟩ := (h1.below hb).at_ (List.getElem?_eq_getElem hlt)
      obtain ⟨g2, o2, cap2, e2, b2, _, _, q2⟩ := (h2.below hb).at_ (List.getElem?_eq_getElem hlt)
      injection e1 with e11 _ e13
      injection e2 with e21 _ e23
      subst e11 e13 e21 e23
      have z1 : g1 < wr.heap.size := Nat.lt_of_lt_of_le b1 hb.size
      have z0 : w.heap.size ≤ wr.heap.size := hb.size
      have z2 : g2 < wr.heap.size := Nat.lt_of_lt_of_le b2 hb.size
      have p0 : wr.cell? ⟨g1, o1 + i * 4, none⟩ = some (.bool l[i].On) := q1 0 _ rfl
      have p1 : wr.cell? ⟨g1, o1 + i * 4 + 1, none⟩ = some (.int .i64 l[i].Epoch) := q1 1 _ rfl
      have p2 : wr.cell? ⟨g1, o1 + i * 4 + 2, none⟩ = some (.bool l[i].Marked) := q1 2 _ rfl
      have p3 : wr.cell? ⟨g1, o1 + i * 4 + 3, none⟩ = some (.int .i64 l[i].Seen) := q1 3 _ rfl
      have r0 : wr.cell? ⟨g2, o2 + i * 4, none⟩ = some (.bool l[i].On) := q2 0 _ rfl
      have r1 : wr.cell? ⟨g2, o2 + i * 4 + 1, none⟩ = some (.int .i64 l[i].Epoch) := q2 1 _ rfl
      have r2 : wr.cell? ⟨g2, o2 + i * 4 + 2, none⟩ = some (.bool l[i].Marked) := q2 2 _ rfl
      have r3 : wr.cell? ⟨g2, o2 + i * 4 + 3, none⟩ = some (.int .i64 l[i].Seen) := q2 3 _ rfl
      clear q1 q2
      go_wp2
      go_region_held3 (fun w' => w'.cell? ⟨g1, o1 + i * 4, none⟩ = some (.bool l[i].On) ∧ w'.cell? ⟨g1, o1 + i * 4 + 1, none⟩ = some (.int .i64 l[i].Epoch) ∧ w'.cell? ⟨g1, o1 + i * 4 + 2, none⟩ = some (.bool l[i].Marked) ∧ w'.cell? ⟨g1, o1 + i * 4 + 3, none⟩ = some (.int .i64 l[i].Seen) ∧ w'.cell? ⟨g2, o2 + i * 4, none⟩ = some (.bool l[i].On) ∧ w'.cell? ⟨g2, o2 + i * 4 + 1, none⟩ = some (.int .i64 l[i].Epoch) ∧ w'.cell? ⟨g2, o2 + i * 4 + 2, none⟩ = some (.bool l[i].Marked) ∧ w'.cell? ⟨g2, o2 + i * 4 + 3, none⟩ = some (.int .i64 l[i].Seen) ∧ g1 < w'.heap.size ∧ g2 < w'.heap.size ∧ Below w.heap.size w w') (first | (go_keep; done) | ((try go_split_ands); refine ⟨?_, ?_, ?_, ?_, ?_, ?_, ?_, ?_, ?_, ?_, ?_⟩; all_goals first | assumption | exact Below.drew (by assumption) | (simp [go_sem, *]; done) | exact below_grow_of (by assumption) (by omega) _ _ | (rw [size_grow]; omega))) ((go_at_call 168; refine (eqPin_ct _ _ _ _ _).mono ?_; rintro e w1 ⟨rfl, hb1⟩; obtain ⟨os1, d1, rfl⟩ := below_grows hb1; clear hb1))
      go_wp2
      go_roundw
      case rel => exact ⟨i + 1, by omega, by go_num, by first | assumption | (try go_split_ands; assumption)⟩
      case measure => simp [intOf]; omega
    · go_wp2
      go_ret
      exact ⟨rfl, hb⟩

set_option maxHeartbeats 1000000 in
theorem markPinS_ct (w : World) (v : Value) (l : List Pin) (k : Int) (h : OwL FPin 178 w v l) (hk0 : 0 ≤ k) (hk1 : (k + (l.length : Int) * 4) ≤ 4611686018427387904) :
    Calls Try.prog 148 #[v, .int .i64 k] w fun e w' => e = .returned (.int .i64 (k + (l.length : Int) * 4)) ∧ OwL FPin 178 w' v (marks mkPin 4 l l.length k) ∧ w.grownBy w' v.ownBlock ∧ w'.heap.size = w.heap.size := by
  rcases h.form with ⟨rfl, rfl⟩ | ⟨g, cap, hv, hg, hl, hc⟩
  · go_enter Try.func148, Try.ntmps148
    go_wp2
    go_loop [1, 5] (fun q i => q = .int .i64 k ∧ i = .int .i64 0) (fun _ _ => 0)
    case atStart => exact ⟨rfl, rfl⟩
    case round =>
      obtain ⟨rfl, rfl⟩ := hrel
      go_wp2
      go_ret
      exact ⟨by simp, h, World.grownBy.refl _ _, rfl⟩
  subst hv
  go_enter Try.func148, Try.ntmps148
  go_wp2
  go_loopw [1, 5] (fun q i wr => ∃ i' : Nat, i' ≤ l.length ∧ i = .int .i64 i' ∧ q = .int .i64 (k + (i' : Int) * 4) ∧ OwL FPin 178 wr (.slice (some ⟨g, 0, none⟩) l.length cap) (marks mkPin 4 l i' k) ∧ w.grownBy wr (some g) ∧ wr.heap.size = w.heap.size) (fun _ i _ => l.length - (intOf i).toNat)
  case atStart => exact ⟨0, Nat.zero_le _, rfl, by simp, h, World.grownBy.refl _ _, rfl⟩
  case round =>
    obtain ⟨i, hi, rfl, rfl, ho, hgr, hsz⟩ := hrel
    by_cases hlt : i < l.length
    · have hx := marks_get mkPin 4 l i k hlt
      have hf := ho.frozen_
      have c0 : wr.cell? ⟨g, i * 4, none⟩ = some (.bool l[i].On) := ho.cell_ (j := 0) hx (by decide)
      have c1 : wr.cell? ⟨g, i * 4 + 1, none⟩ = some (.int .i64 l[i].Epoch) := ho.cell_ (j := 1) hx (by decide)
      have c2 : wr.cell? ⟨g, i * 4 + 2, none⟩ = some (.bool l[i].Marked) := ho.cell_ (j := 2) hx (by decide)
      have c3 : wr.cell? ⟨g, i * 4 + 3, none⟩ = some (.int .i64 l[i].Seen) := ho.cell_ (j := 3) hx (by decide)
      clear h
      go_wp2
      clear hf c0 c1 c2 c3
      go_roundw
      case rel =>
        have s0 := ho.set_ (j := 0) (y := (⟨((k + (i : Int) * 4) % 3 == 0), l[i].Epoch, l[i].Marked, l[i].Seen⟩ : Pin)) (u := .bool ((k + (i : Int) * 4) % 3 == 0)) hx (by decide) rfl
        have s1 := s0.set_ (j := 1) (y := (⟨((k + (i : Int) * 4) % 3 == 0), (k + (i : Int) * 4 + 1), l[i].Marked, l[i].Seen⟩ : Pin)) (u := .int .i64 (k + (i : Int) * 4 + 1)) (set_get (⟨((k + (i : Int) * 4) % 3 == 0), l[i].Epoch, l[i].Marked, l[i].Seen⟩ : Pin) hx) (by decide) rfl
        have s2 := s1.set_ (j := 2) (y := (⟨((k + (i : Int) * 4) % 3 == 0), (k + (i : Int) * 4 + 1), ((k + (i : Int) * 4 + 1 + 1) % 3 == 0), l[i].Seen⟩ : Pin)) (u := .bool ((k + (i : Int) * 4 + 1 + 1) % 3 == 0)) (set_get (⟨((k + (i : Int) * 4) % 3 == 0), (k + (i : Int) * 4 + 1), l[i].Marked, l[i].Seen⟩ : Pin) (set_get (⟨((k + (i : Int) * 4) % 3 == 0), l[i].Epoch, l[i].Marked, l[i].Seen⟩ : Pin) hx)) (by decide) rfl
        have s3 := s2.set_ (j := 3) (y := (⟨((k + (i : Int) * 4) % 3 == 0), (k + (i : Int) * 4 + 1), ((k + (i : Int) * 4 + 1 + 1) % 3 == 0), (k + (i : Int) * 4 + 1 + 1 + 1)⟩ : Pin)) (u := .int .i64 (k + (i : Int) * 4 + 1 + 1 + 1)) (set_get (⟨((k + (i : Int) * 4) % 3 == 0), (k + (i : Int) * 4 + 1), ((k + (i : Int) * 4 + 1 + 1) % 3 == 0), l[i].Seen⟩ : Pin) (set_get (⟨((k + (i : Int) * 4) % 3 == 0), (k + (i : Int) * 4 + 1), l[i].Marked, l[i].Seen⟩ : Pin) (set_get (⟨((k + (i : Int) * 4) % 3 == 0), l[i].Epoch, l[i].Marked, l[i].Seen⟩ : Pin) hx))) (by decide) rfl
        refine ⟨i + 1, by omega, by go_num, by go_num, ?_, grown_set (grown_set (grown_set (grown_set (hgr) _ _) _ _) _ _) _ _, by simp [hsz]⟩
        simp only [List.set_set] at s3
        have e := marks_step mkPin 4 l i k hlt
        rw [← e]
        exact s3
      case measure => simp [intOf]; omega
    · go_wp2
      go_ret
      obtain rfl : i = l.length := by omega
      exact ⟨rfl, ho, hgr, hsz⟩

set_option maxHeartbeats 1000000 in
theorem heldPinS_ct (w : World) (v : Value) (l : List Pin) (k : Int) (h : RdL FPin w w.heap.size v (marks mkPin 4 l l.length k)) (hk0 : 0 ≤ k) (hk1 : (k + (l.length : Int) * 4) ≤ 4611686018427387904) :
    Calls Try.prog 160 #[v, .int .i64 k] w fun e w' => e = .returned (.int .i64 (k + (l.length : Int) * 4)) ∧ Below w.heap.size w w' := by
  obtain ⟨A, cap, hv, _⟩ := id h
  rw [marks_length] at hv
  subst hv
  go_enter Try.func160, Try.ntmps160
  go_wp2
  go_loopw [1, 5] (fun q i wr => ∃ i' : Nat, i' ≤ l.length ∧ i = .int .i64 i' ∧ q = .int .i64 (k + (i' : Int) * 4) ∧ Below w.heap.size w wr) (fun _ i _ => l.length - (intOf i).toNat)
  case atStart => exact ⟨0, Nat.zero_le _, rfl, by simp, Below.refl _ _⟩
  case round =>
    obtain ⟨i, hi, rfl, rfl, hb⟩ := hrel
    by_cases hlt : i < l.length
    · obtain ⟨g, off, cap', he, _, _, _, hq⟩ := (h.below hb).at_ (marks_at mkPin 4 l k i hlt)
      injection he with he1 he2 he3
      clear he2
      subst he1 he3
      have c0 : wr.cell? ⟨g, off + i * 4, none⟩ = some (.bool ((k + (i : Int) * 4) % 3 == 0)) := hq 0 _ rfl
      have c1 : wr.cell? ⟨g, off + i * 4 + 1, none⟩ = some (.int .i64 (k + (i : Int) * 4 + 1)) := hq 1 _ rfl
      have c2 : wr.cell? ⟨g, off + i * 4 + 2, none⟩ = some (.bool ((k + (i : Int) * 4 + 1 + 1) % 3 == 0)) := hq 2 _ rfl
      have c3 : wr.cell? ⟨g, off + i * 4 + 3, none⟩ = some (.int .i64 (k + (i : Int) * 4 + 1 + 1 + 1)) := hq 3 _ rfl
      clear hq
      go_wp2
      all_goals
        go_roundw
        case rel => exact ⟨i + 1, by omega, by go_num, by go_num, by first | exact hb | exact below_drewN hb _⟩
        case measure => simp [intOf]; omega
    · go_wp2
      go_ret
      obtain rfl : i = l.length := by omega
      exact ⟨rfl, hb⟩
set_option maxHeartbeats 400000 in
theorem eqClock_ct (w : World) (H1 H2 : HClock) (x : Clock) (h1 : RdClock w w.heap.size H1 x) (h2 : RdClock w w.heap.size H2 x) (hs : x.Pins.length ≤ 1073741824) :
    Calls Try.prog 89 #[.agg #[.int .i64 x.Epoch, .slice H1.Pins.a H1.Pins.len H1.Pins.cap], .agg #[.int .i64 x.Epoch, .slice H2.Pins.a H2.Pins.len H2.Pins.cap]] w fun e w' => e = .returned (.bool true) ∧ Below w.heap.size w w' := by
  obtain ⟨ep, l⟩ := x
  obtain ⟨⟨A1, n1, c1⟩⟩ := H1
  have hr1 : RdL FPin w w.heap.size (.slice A1 n1 c1) l := h1.Pins
  obtain ⟨_, _, hv, _, _, qx⟩ := id hr1
  simp only [Value.slice.injEq] at hv
  obtain ⟨rfl, rfl, rfl⟩ := hv
  clear qx h1
  obtain ⟨⟨A2, n2, c2⟩⟩ := H2
  have hr2 : RdL FPin w w.heap.size (.slice A2 n2 c2) l := h2.Pins
  obtain ⟨_, _, hv, _, _, qx⟩ := id hr2
  simp only [Value.slice.injEq] at hv
  obtain ⟨rfl, rfl, rfl⟩ := hv
  clear qx h2
  simp only at hs
  show Calls Try.prog 89 #[.agg #[.int .i64 ep, .slice A1 l.length c1], .agg #[.int .i64 ep, .slice A2 l.length c2]] _ _
  go_enter Try.func89, Try.ntmps89
  go_wp2_with (go_at_call 134; refine (eqPinS_ct _ _ _ l (rd_up hr1 (by repeat (first | exact Below.refl _ _ | refine Below.alloc ?_ (by simp <;> omega) _ | refine below_grow_of ?_ (by simp <;> omega) _ _ | refine Below.drew ?_ | refine below_drewN ?_ _))) (rd_up hr2 (by repeat (first | exact Below.refl _ _ | refine Below.alloc ?_ (by simp <;> omega) _ | refine below_grow_of ?_ (by simp <;> omega) _ _ | refine Below.drew ?_ | refine below_drewN ?_ _))) hs).mono ?_; rintro e w1 ⟨rfl, hb1⟩; obtain ⟨os1, d1, rfl⟩ := below_grows hb1; clear hb1)
  go_ret
  exact ⟨rfl, by repeat (first | exact Below.refl _ _ | refine Below.alloc ?_ (by simp <;> omega) _ | refine below_grow_of ?_ (by simp <;> omega) _ _ | refine Below.drew ?_ | refine below_drewN ?_ _)⟩
set_option maxHeartbeats 400000 in
theorem markClock_ct (w : World) (H : HClock) (x : Clock) (k : Int) (h : OwClock w H x) (hk0 : 0 ≤ k) (hk1 : k + (nMarkClock x : Int) ≤ 4611686018427387904) :
    Calls Try.prog 99 #[.agg #[.int .i64 x.Epoch, .slice H.Pins.a H.Pins.len H.Pins.cap], .int .i64 k] w fun e w' => e = .returned (.int .i64 (k + (nMarkClock x : Int))) ∧ OwClock w' H (markClock x k) ∧ Chg H.foot w w' := by
  obtain ⟨⟨A, n, c⟩⟩ := H
  obtain ⟨ep, l⟩ := x
  have hr : OwL FPin 178 w (.slice A n c) l := h.Pins
  have hlt := foot_lt hr
  have HK := Hid.mk_ (show k + (nMarkClock ⟨ep, l⟩ : Int) = k + (l.length : Int) * 4 by unfold nMarkClock; simp)
  have hk2 : k + (l.length : Int) * 4 ≤ 4611686018427387904 := by rw [← HK.out]; exact hk1
  clear h hk1
  show Calls Try.prog 99 #[.agg #[.int .i64 ep, .slice A n c], .int .i64 k] _ _
  go_enter Try.func99, Try.ntmps99
  go_wp2_with fail
  refine (markPinS_ct _ _ l k (hr.alloc_ _) hk0 hk2).mono ?_
  rintro e w1 ⟨rfl, hom, hg1, _⟩
  go_wp2_with fail
  go_ret
  refine ⟨ret_i64 HK.out.symm, ⟨hom⟩, ?_⟩
  have hc := Chg.of_grown hg1
  exact ⟨hc.os, hc.tape, hc.output, Nat.le_trans (by simp) hc.size, fun b hb hn => (hc.block b (by simp; omega) hn).trans (Below.heap_alloc w _ b hb)⟩
set_option maxHeartbeats 400000 in
theorem heldClock_ct (w : World) (H : HClock) (x : Clock) (k : Int) (h : RdClock w w.heap.size H (markClock x k)) (hk0 : 0 ≤ k) (hk1 : k + (nMarkClock x : Int) ≤ 4611686018427387904) :
    Calls Try.prog 119 #[.agg #[.int .i64 x.Epoch, .slice H.Pins.a H.Pins.len H.Pins.cap], .int .i64 k] w fun e w' => e = .returned (.int .i64 (k + (nMarkClock x : Int))) ∧ Below w.heap.size w w' := by
  obtain ⟨⟨A, n, c⟩⟩ := H
  obtain ⟨ep, l⟩ := x
  have hr : RdL FPin w w.heap.size (.slice A n c) (marks mkPin 4 l l.length k) := h.Pins
  have HK := Hid.mk_ (show k + (nMarkClock ⟨ep, l⟩ : Int) = k + (l.length : Int) * 4 by unfold nMarkClock; simp)
  have hk2 : k + (l.length : Int) * 4 ≤ 4611686018427387904 := by rw [← HK.out]; exact hk1
  have hk3 : 0 ≤ k + (l.length : Int) * 4 := by omega
  clear h hk1
  show Calls Try.prog 119 #[.agg #[.int .i64 ep, .slice A n c], .int .i64 k] _ _
  go_enter Try.func119, Try.ntmps119
  go_wp2_with fail
  refine (heldPinS_ct _ _ l k (rd_up hr (by repeat (first | exact Below.refl _ _ | refine Below.alloc ?_ (by simp <;> omega) _ | refine below_grow_of ?_ (by simp <;> omega) _ _ | refine Below.drew ?_ | refine below_drewN ?_ _))) hk0 hk2).mono ?_
  rintro e w1 ⟨rfl, hb1⟩
  go_wp2_with fail
  go_ret
  exact ⟨ret_i64 HK.out.symm, Below.trans (by repeat (first | exact Below.refl _ _ | refine Below.alloc ?_ (by simp <;> omega) _ | refine below_grow_of ?_ (by simp <;> omega) _ _ | refine Below.drew ?_ | refine below_drewN ?_ _)) (hb1.mono (by simp))⟩
end Go.Proofs.Ytdepckmjgpkjmaa

/-
  Rows in limbo: compared, made, measured, marked.
-/
namespace Go.Proofs.Ytdepckmjgpkjmaa
open Go.RowKit

set_option maxHeartbeats 2000000 in
theorem eqLRow_ct (a0 a1 : Int) (w : World) : Calls Try.prog 180 #[.agg #[.int .i64 a0, .int .i64 a1], .agg #[.int .i64 a0, .int .i64 a1]] w fun e w' => e = .returned (.bool true) ∧ Below w.heap.size w w' := by
  go_enter Try.func180, Try.ntmps180
  go_wp2
  go_ret
  exact ⟨rfl, by repeat (first | exact Below.refl _ _ | refine Below.alloc ?_ (by simp <;> omega) _ | refine below_grow_of ?_ (by simp <;> omega) _ _ | refine Below.drew ?_ | refine below_drewN ?_ _)⟩

set_option maxHeartbeats 1000000 in
theorem eqLRowS_ct (w : World) (v1 v2 : Value) (l : List LRow) (h1 : RdL FLRow w w.heap.size v1 l) (h2 : RdL FLRow w w.heap.size v2 l) (hs : l.length ≤ 1073741824) :
    Calls Try.prog 169 #[v1, v2] w fun e w' => e = .returned (.bool true) ∧ Below w.heap.size w w' := by
  obtain ⟨A1, c1, hv1, _⟩ := id h1
  obtain ⟨A2, c2, hv2, _⟩ := id h2
  subst hv1 hv2
  go_enter Try.func169, Try.ntmps169
  go_wp2
  go_loopw [5] (fun i wr => ∃ k : Nat, k ≤ l.length ∧ i = .int .i64 k ∧ Below w.heap.size w wr) (fun i _ => l.length - (intOf i).toNat)
  case atStart => exact ⟨0, Nat.zero_le _, rfl, Below.refl _ _⟩
  case round =>
    obtain ⟨i, hk, rfl, hb⟩ := hrel
    by_cases hlt : i < l.length
    · obtain ⟨g1, o1, cap1, e1, b1, _, _, q1⟩ := (h1.below hb).at_ (List.getElem?_eq_getElem hlt)
      obtain ⟨g2, o2, cap2, e2, b2, _, _, q2⟩ := (h2.below hb).at_ (List.getElem?_eq_getElem hlt)
      injection e1 with e11 _ e13
      injection e2 with e21 _ e23
      subst e11 e13 e21 e23
      have z1 : g1 < wr.heap.size := Nat.lt_of_lt_of_le b1 hb.size
      have z0 : w.heap.size ≤ wr.heap.size := hb.size
      have z2 : g2 < wr.heap.size := Nat.lt_of_lt_of_le b2 hb.size
      have p0 : wr.cell? ⟨g1, o1 + i * 2, none⟩ = some (.int .i64 l[i].Handle) := q1 0 _ rfl
      have p1 : wr.cell? ⟨g1, o1 + i * 2 + 1, none⟩ = some (.int .i64 l[i].Epoch) := q1 1 _ rfl
      have r0 : wr.cell? ⟨g2, o2 + i * 2, none⟩ = some (.int .i64 l[i].Handle) := q2 0 _ rfl
      have r1 : wr.cell? ⟨g2, o2 + i * 2 + 1, none⟩ = some (.int .i64 l[i].Epoch) := q2 1 _ rfl
      clear q1 q2
      go_wp2
      go_region_held3 (fun w' => w'.cell? ⟨g1, o1 + i * 2, none⟩ = some (.int .i64 l[i].Handle) ∧ w'.cell? ⟨g1, o1 + i * 2 + 1, none⟩ = some (.int .i64 l[i].Epoch) ∧ w'.cell? ⟨g2, o2 + i * 2, none⟩ = some (.int .i64 l[i].Handle) ∧ w'.cell? ⟨g2, o2 + i * 2 + 1, none⟩ = some (.int .i64 l[i].Epoch) ∧ g1 < w'.heap.size ∧ g2 < w'.heap.size ∧ Below w.heap.size w w') (first | (go_keep; done) | ((try go_split_ands); refine ⟨?_, ?_, ?_, ?_, ?_, ?_, ?_⟩; all_goals first | assumption | exact Below.drew (by assumption) | (simp [go_sem, *]; done) | exact below_grow_of (by assumption) (by omega) _ _ | (rw [size_grow]; omega))) ((go_at_call 180; refine (eqLRow_ct _ _ _).mono ?_; rintro e w1 ⟨rfl, hb1⟩; obtain ⟨os1, d1, rfl⟩ := below_grows hb1; clear hb1))
      go_wp2
      go_roundw
      case rel => exact ⟨i + 1, by omega, by go_num, by first | assumption | (try go_split_ands; assumption)⟩
      case measure => simp [intOf]; omega
    · go_wp2
      go_ret
      exact ⟨rfl, hb⟩

set_option maxHeartbeats 1000000 in
theorem markLRowS_ct (w : World) (v : Value) (l : List LRow) (k : Int) (h : OwL FLRow 180 w v l) (hk0 : 0 ≤ k) (hk1 : (k + (l.length : Int) * 2) ≤ 4611686018427387904) :
    Calls Try.prog 149 #[v, .int .i64 k] w fun e w' => e = .returned (.int .i64 (k + (l.length : Int) * 2)) ∧ OwL FLRow 180 w' v (marks mkLRow 2 l l.length k) ∧ w.grownBy w' v.ownBlock ∧ w'.heap.size = w.heap.size := by
  rcases h.form with ⟨rfl, rfl⟩ | ⟨g, cap, hv, hg, hl, hc⟩
  · go_enter Try.func149, Try.ntmps149
    go_wp2
    go_loop [1, 5] (fun q i => q = .int .i64 k ∧ i = .int .i64 0) (fun _ _ => 0)
    case atStart => exact ⟨rfl, rfl⟩
    case round =>
      obtain ⟨rfl, rfl⟩ := hrel
      go_wp2
      go_ret
      exact ⟨by simp, h, World.grownBy.refl _ _, rfl⟩
  subst hv
  go_enter Try.func149, Try.ntmps149
  go_wp2
  go_loopw [1, 5] (fun q i wr => ∃ i' : Nat, i' ≤ l.length ∧ i = .int .i64 i' ∧ q = .int .i64 (k + (i' : Int) * 2) ∧ OwL FLRow 180 wr (.slice (some ⟨g, 0, none⟩) l.length cap) (marks mkLRow 2 l i' k) ∧ w.grownBy wr (some g) ∧ wr.heap.size = w.heap.size) (fun _ i _ => l.length - (intOf i).toNat)
  case atStart => exact ⟨0, Nat.zero_le _, rfl, by simp, h, World.grownBy.refl _ _, rfl⟩
  case round =>
    obtain ⟨i, hi, rfl, rfl, ho, hgr, hsz⟩ := hrel
    by_cases hlt : i < l.length
    · have hx := marks_get mkLRow 2 l i k hlt
      have hf := ho.frozen_
      have c0 : wr.cell? ⟨g, i * 2, none⟩ = some (.int .i64 l[i].Handle) := ho.cell_ (j := 0) hx (by decide)
      have c1 : wr.cell? ⟨g, i * 2 + 1, none⟩ = some (.int .i64 l[i].Epoch) := ho.cell_ (j := 1) hx (by decide)
      clear h
      go_wp2
      clear hf c0 c1
      go_roundw
      case rel =>
        have s0 := ho.set_ (j := 0) (y := (⟨(k + (i : Int) * 2), l[i].Epoch⟩ : LRow)) (u := .int .i64 (k + (i : Int) * 2)) hx (by decide) rfl
        have s1 := s0.set_ (j := 1) (y := (⟨(k + (i : Int) * 2), (k + (i : Int) * 2 + 1)⟩ : LRow)) (u := .int .i64 (k + (i : Int) * 2 + 1)) (set_get (⟨(k + (i : Int) * 2), l[i].Epoch⟩ : LRow) hx) (by decide) rfl
        refine ⟨i + 1, by omega, by go_num, by go_num, ?_, grown_set (grown_set (hgr) _ _) _ _, by simp [hsz]⟩
        simp only [List.set_set] at s1
        have e := marks_step mkLRow 2 l i k hlt
        rw [← e]
        exact s1
      case measure => simp [intOf]; omega
    · go_wp2
      go_ret
      obtain rfl : i = l.length := by omega
      exact ⟨rfl, ho, hgr, hsz⟩

set_option maxHeartbeats 1000000 in
theorem heldLRowS_ct (w : World) (v : Value) (l : List LRow) (k : Int) (h : RdL FLRow w w.heap.size v (marks mkLRow 2 l l.length k)) (hk0 : 0 ≤ k) (hk1 : (k + (l.length : Int) * 2) ≤ 4611686018427387904) :
    Calls Try.prog 161 #[v, .int .i64 k] w fun e w' => e = .returned (.int .i64 (k + (l.length : Int) * 2)) ∧ Below w.heap.size w w' := by
  obtain ⟨A, cap, hv, _⟩ := id h
  rw [marks_length] at hv
  subst hv
  go_enter Try.func161, Try.ntmps161
  go_wp2
  go_loopw [1, 5] (fun q i wr => ∃ i' : Nat, i' ≤ l.length ∧ i = .int .i64 i' ∧ q = .int .i64 (k + (i' : Int) * 2) ∧ Below w.heap.size w wr) (fun _ i _ => l.length - (intOf i).toNat)
  case atStart => exact ⟨0, Nat.zero_le _, rfl, by simp, Below.refl _ _⟩
  case round =>
    obtain ⟨i, hi, rfl, rfl, hb⟩ := hrel
    by_cases hlt : i < l.length
    · obtain ⟨g, off, cap', he, _, _, _, hq⟩ := (h.below hb).at_ (marks_at mkLRow 2 l k i hlt)
      injection he with he1 he2 he3
      clear he2
      subst he1 he3
      have c0 : wr.cell? ⟨g, off + i * 2, none⟩ = some (.int .i64 (k + (i : Int) * 2)) := hq 0 _ rfl
      have c1 : wr.cell? ⟨g, off + i * 2 + 1, none⟩ = some (.int .i64 (k + (i : Int) * 2 + 1)) := hq 1 _ rfl
      clear hq
      go_wp2
      all_goals
        go_roundw
        case rel => exact ⟨i + 1, by omega, by go_num, by go_num, by first | exact hb | exact below_drewN hb _⟩
        case measure => simp [intOf]; omega
    · go_wp2
      go_ret
      obtain rfl : i = l.length := by omega
      exact ⟨rfl, hb⟩

set_option maxHeartbeats 400000 in
theorem eqLList_ct (w : World) (v1 v2 : Value) (l : List LRow) (h1 : RdL FLRow w w.heap.size v1 l) (h2 : RdL FLRow w w.heap.size v2 l) (hs : l.length ≤ 1073741824) :
    Calls Try.prog 135 #[.agg #[v1], .agg #[v2]] w fun e w' => e = .returned (.bool true) ∧ Below w.heap.size w w' := by
  obtain ⟨A1, c1, hv1, _⟩ := id h1
  obtain ⟨A2, c2, hv2, _⟩ := id h2
  subst hv1 hv2
  go_enter Try.func135, Try.ntmps135
  go_wp2_with (go_at_call 169; refine (eqLRowS_ct _ _ _ l (rd_up h1 (by repeat (first | exact Below.refl _ _ | refine Below.alloc ?_ (by simp <;> omega) _ | refine below_grow_of ?_ (by simp <;> omega) _ _ | refine Below.drew ?_ | refine below_drewN ?_ _))) (rd_up h2 (by repeat (first | exact Below.refl _ _ | refine Below.alloc ?_ (by simp <;> omega) _ | refine below_grow_of ?_ (by simp <;> omega) _ _ | refine Below.drew ?_ | refine below_drewN ?_ _))) hs).mono ?_; rintro e w1 ⟨rfl, hb1⟩; obtain ⟨os1, d1, rfl⟩ := below_grows hb1; clear hb1)
  go_ret
  exact ⟨rfl, by repeat (first | exact Below.refl _ _ | refine Below.alloc ?_ (by simp <;> omega) _ | refine below_grow_of ?_ (by simp <;> omega) _ _ | refine Below.drew ?_ | refine below_drewN ?_ _)⟩

set_option maxHeartbeats 1000000 in
theorem eqLListS_ct (w : World) (v1 v2 : Value) (t1 t2 : List SV) (ll : List (List LRow)) (h1 : RdLL FLRow w w.heap.size v1 t1 ll) (h2 : RdLL FLRow w w.heap.size v2 t2 ll) (hs : szLL ll ≤ 1073741824) :
    Calls Try.prog 90 #[v1, v2] w fun e w' => e = .returned (.bool true) ∧ Below w.heap.size w w' := by
  obtain ⟨A1, c1, hv1, _⟩ := id h1.outer
  obtain ⟨A2, c2, hv2, _⟩ := id h2.outer
  have n1 := h1.len
  have n2 := h2.len
  rw [n1] at hv1
  rw [n2] at hv2
  have hs0 : ll.length ≤ 1073741824 := Nat.le_trans (Nat.le_add_right _ _) hs
  subst hv1 hv2
  have N1 : Hid (t1.length = ll.length) := n1
  have N2 : Hid (t2.length = ll.length) := n2
  clear n1 n2
  go_enter Try.func90, Try.ntmps90
  go_wp2
  go_loopw [5] (fun i wr => ∃ k : Nat, k ≤ ll.length ∧ i = .int .i64 k ∧ Below w.heap.size w wr) (fun i _ => ll.length - (intOf i).toNat)
  case atStart => exact ⟨0, Nat.zero_le _, rfl, Below.refl _ _⟩
  case round =>
    obtain ⟨i, hk, rfl, hb⟩ := hrel
    by_cases hlt : i < ll.length
    · have m1 : t1[i]? = some (t1[i]'(by rw [N1.out]; exact hlt)) := List.getElem?_eq_getElem _
      have m2 : t2[i]? = some (t2[i]'(by rw [N2.out]; exact hlt)) := List.getElem?_eq_getElem _
      have r1 := h1.inner i _ _ m1 (List.getElem?_eq_getElem hlt)
      have r2 := h2.inner i _ _ m2 (List.getElem?_eq_getElem hlt)
      obtain ⟨g1, o1, cap1, e1, b1, _, _, q1⟩ := (h1.outer.below hb).at_ m1
      obtain ⟨g2, o2, cap2, e2, b2, _, _, q2⟩ := (h2.outer.below hb).at_ m2
      generalize t1[i]'(by rw [N1.out]; exact hlt) = s1 at m1 r1 q1
      generalize t2[i]'(by rw [N2.out]; exact hlt) = s2 at m2 r2 q2
      injection e1 with e11 e12 e13
      injection e2 with e21 e22 e23
      clear e12 e22
      subst e11 e13 e21 e23
      have z1 : g1 < wr.heap.size := Nat.lt_of_lt_of_le b1 hb.size
      have z0 : w.heap.size ≤ wr.heap.size := hb.size
      have z2 : g2 < wr.heap.size := Nat.lt_of_lt_of_le b2 hb.size
      have p0 : wr.cell? ⟨g1, o1 + i, none⟩ = some (.slice s1.a s1.len s1.cap) := by simpa [FS] using q1 0 _ rfl
      have r0 : wr.cell? ⟨g2, o2 + i, none⟩ = some (.slice s2.a s2.len s2.cap) := by simpa [FS] using q2 0 _ rfl
      have hs1 : ll[i].length ≤ 1073741824 := Nat.le_trans (le_szLL (List.getElem_mem hlt)) hs
      clear q1 q2 m1 m2
      go_wp2
      go_region_held3 (fun w' => w'.cell? ⟨g1, o1 + i, none⟩ = some (.slice s1.a s1.len s1.cap) ∧ w'.cell? ⟨g2, o2 + i, none⟩ = some (.slice s2.a s2.len s2.cap) ∧ g1 < w'.heap.size ∧ g2 < w'.heap.size ∧ Below w.heap.size w w') (first | (go_keep; done) | ((try go_split_ands); refine ⟨?_, ?_, ?_, ?_, ?_⟩; all_goals first | assumption | exact Below.drew (by assumption) | (simp [go_sem, *]; done) | exact below_grow_of (by assumption) (by omega) _ _ | (rw [size_grow]; omega))) ((go_at_call 135; refine (eqLList_ct _ _ _ _ (rd_up r1 (by go_split_ands; assumption)) (rd_up r2 (by go_split_ands; assumption)) hs1).mono ?_; rintro e w1 ⟨rfl, hb1⟩; obtain ⟨os1, d1, rfl⟩ := below_grows hb1; clear hb1))
      go_wp2
      go_roundw
      case rel => exact ⟨i + 1, by omega, by go_num, by first | assumption | (try go_split_ands; assumption)⟩
      case measure => simp [intOf]; omega
    · go_wp2
      go_ret
      exact ⟨rfl, hb⟩

set_option maxHeartbeats 1000000 in
theorem markLListS_ct (w : World) (v : Value) (t : List SV) (ll : List (List LRow)) (k : Int) (h : OwLL FLRow 180 167 w v t ll) (hk0 : 0 ≤ k) (hk1 : (k + (totLL ll : Int) * 2) ≤ 4611686018427387904) :
    Calls Try.prog 100 #[v, .int .i64 k] w fun e w' => e = .returned (.int .i64 (k + (totLL ll : Int) * 2)) ∧ OwLL FLRow 180 167 w' v t (markLL mkLRow 2 ll k) ∧ Chg (foot2 v t) w w' := by
  obtain ⟨A, c, hv, _⟩ := id h.rd'.outer
  rw [h.len] at hv
  have hlt0 : ll.length ≤ 9223372036854775807 := by
    have := h.rd'.outer
    obtain ⟨_, c', _, q1, q2, _⟩ := this
    rw [h.len] at q1
    unfold maxLen at q2
    omega
  subst hv
  go_enter Try.func100, Try.ntmps100
  go_wp2
  go_loopw [1, 5] (fun q i wr => ∃ i' : Nat, i' ≤ ll.length ∧ i = .int .i64 i' ∧ q = .int .i64 (k + (totLL (ll.take i') : Int) * 2) ∧ OwLL FLRow 180 167 wr (.slice A ll.length c) t (marksLL mkLRow 2 ll i' k) ∧ Chg (foot2 (.slice A ll.length c) t) w wr) (fun _ i _ => ll.length - (intOf i).toNat)
  case atStart => exact ⟨0, Nat.zero_le _, rfl, by simp [totLL], h, Chg.refl _ _⟩
  case round =>
    obtain ⟨i, hi, rfl, rfl, ho, hch⟩ := hrel
    by_cases hlt : i < ll.length
    · have hT : Hid (t.length = ll.length) := h.len
      have m1 : t[i]? = some (t[i]'(by rw [hT.out]; exact hlt)) := List.getElem?_eq_getElem _
      generalize t[i]'(by rw [hT.out]; exact hlt) = s at m1
      have ro := ho.inner i s _ m1 (marksLL_get mkLRow 2 ll i k hlt)
      obtain ⟨g, o1, cap1, e1, b1, _, _, q1⟩ := ho.rd'.outer.at_ m1
      injection e1 with e11 e12 e13
      clear e12
      subst e11 e13
      have p0 : wr.cell? ⟨g, o1 + i, none⟩ = some (.slice s.a s.len s.cap) := by simpa [FS] using q1 0 _ rfl
      have ht1 := totLL_take_succ ll i hlt
      have ht2 := totLL_take_le ll (i + 1)
      have HT : Hid (totLL (ll.take (i + 1)) = totLL (ll.take i) + ll[i].length) := ht1
      have kb : k + (totLL (ll.take i) : Int) * 2 + (ll[i].length : Int) * 2 ≤ 4611686018427387904 := by omega
      have k0 : 0 ≤ k + (totLL (ll.take i) : Int) * 2 := by omega
      clear q1 ht1 h
      go_wp2_with (go_at_call 149; refine (markLRowS_ct _ s.val ll[i] _ ro (by omega) (by omega)).mono ?_; rintro e w1 ⟨rfl, ho1, hg1, hs1⟩)
      go_roundw
      case rel =>
        refine ⟨i + 1, by omega, by go_num, by rw [HT.out]; go_num, ?_, hch.trans ((Chg.of_grown hg1).mono fun g hg => mem_foot2.2 (.inr ⟨s, List.mem_of_getElem? m1, mem_foot1.1 hg⟩))⟩
        have e := marksLL_step mkLRow 2 ll i k hlt
        rw [← e]
        refine ho.set_row m1 ?_ (Chg.of_grown hg1)
        exact ho1
      case measure => simp [intOf]; omega
    · go_wp2
      go_ret
      obtain rfl : i = ll.length := by omega
      exact ⟨by simp, by rw [← marksLL_all]; exact ho, hch⟩

set_option maxHeartbeats 1000000 in
theorem heldLListS_ct (w : World) (v : Value) (t : List SV) (ll : List (List LRow)) (k : Int) (h : RdLL FLRow w w.heap.size v t (markLL mkLRow 2 ll k)) (hk0 : 0 ≤ k) (hk1 : (k + (totLL ll : Int) * 2) ≤ 4611686018427387904) :
    Calls Try.prog 120 #[v, .int .i64 k] w fun e w' => e = .returned (.int .i64 (k + (totLL ll : Int) * 2)) ∧ Below w.heap.size w w' := by
  obtain ⟨A, c, hv, q1, q2, _⟩ := id h.outer
  have hlen : t.length = ll.length := h.len.trans (length_markLL _ _ _ _)
  rw [hlen] at hv q1
  have hlt0 : ll.length ≤ 9223372036854775807 := by
    unfold maxLen at q2
    omega
  subst hv
  have hT : Hid (t.length = ll.length) := hlen
  clear hlen
  go_enter Try.func120, Try.ntmps120
  go_wp2
  go_loopw [1, 5] (fun q i wr => ∃ i' : Nat, i' ≤ ll.length ∧ i = .int .i64 i' ∧ q = .int .i64 (k + (totLL (ll.take i') : Int) * 2) ∧ Below w.heap.size w wr) (fun _ i _ => ll.length - (intOf i).toNat)
  case atStart => exact ⟨0, Nat.zero_le _, rfl, by simp [totLL], Below.refl _ _⟩
  case round =>
    obtain ⟨i, hi, rfl, rfl, hb⟩ := hrel
    by_cases hlt : i < ll.length
    · have m1 : t[i]? = some (t[i]'(by rw [hT.out]; exact hlt)) := List.getElem?_eq_getElem _
      generalize t[i]'(by rw [hT.out]; exact hlt) = s at m1
      have ro := rd_up (h.inner i s _ m1 (markLL_get mkLRow 2 ll i k hlt)) hb
      obtain ⟨g, o1, cap1, e1, b1, _, _, q1⟩ := (h.outer.below hb).at_ m1
      injection e1 with e11 e12 e13
      clear e12
      subst e11 e13
      have p0 : wr.cell? ⟨g, o1 + i, none⟩ = some (.slice s.a s.len s.cap) := by simpa [FS] using q1 0 _ rfl
      have ht1 := totLL_take_succ ll i hlt
      have ht2 := totLL_take_le ll (i + 1)
      have HT : Hid (totLL (ll.take (i + 1)) = totLL (ll.take i) + ll[i].length) := ht1
      have kb : k + (totLL (ll.take i) : Int) * 2 + (ll[i].length : Int) * 2 ≤ 4611686018427387904 := by omega
      have k0 : 0 ≤ k + (totLL (ll.take i) : Int) * 2 := by omega
      clear q1 ht1 h
      go_wp2_with (go_at_call 161; refine (heldLRowS_ct _ s.val ll[i] _ ro (by omega) (by omega)).mono ?_; rintro e w1 ⟨rfl, hb1⟩; obtain ⟨os1, d1, rfl⟩ := below_grows hb1; clear hb1)
      go_roundw
      case rel => exact ⟨i + 1, by omega, by go_num, by rw [HT.out]; go_num, below_grow_of hb hb.size _ _⟩
      case measure => simp [intOf]; omega
    · go_wp2
      go_ret
      obtain rfl : i = ll.length := by omega
      exact ⟨by simp, hb⟩

theorem Try.infoLList : (Try.prog.info? 167).map (fun i => (i.zero, i.size, i.bytes)) = some (some (.agg #[.slice none 0 0]), FS.n, 24) := by kernel_rfl
theorem eqLListS_w (w : World) (K1 : SV) (t1 : List SV) (K2 : SV) (t2 : List SV) (ll : List (List LRow)) (h1 : RdLL FLRow w w.heap.size K1.val t1 ll) (h2 : RdLL FLRow w w.heap.size K2.val t2 ll) (hs : szLL ll ≤ 1073741824) :
    Calls Try.prog 90 #[.slice K1.a K1.len K1.cap, .slice K2.a K2.len K2.cap] w fun e w' => e = .returned (.bool true) ∧ Below w.heap.size w w' := eqLListS_ct w _ _ t1 t2 ll h1 h2 hs
theorem markLListS_w (w : World) (K : SV) (t : List SV) (ll : List (List LRow)) (k : Int) (h : OwLL FLRow 180 167 w K.val t ll) (hk0 : 0 ≤ k) (hk1 : k + ((totLL ll * 2 : Nat) : Int) ≤ 4611686018427387904) :
    Calls Try.prog 100 #[.slice K.a K.len K.cap, .int .i64 k] w fun e w' => e = .returned (.int .i64 (k + ((totLL ll * 2 : Nat) : Int))) ∧ OwLL FLRow 180 167 w' K.val t (markLL mkLRow 2 ll k) ∧ Chg (foot2 K.val t) w w' :=
  (markLListS_ct w _ t ll k h hk0 (by omega)).mono fun _ _ ⟨a, b, c⟩ => ⟨a.trans (ret_i64 (by omega)), b, c⟩
theorem heldLListS_w (w : World) (K : SV) (t : List SV) (ll : List (List LRow)) (k : Int) (h : RdLL FLRow w w.heap.size K.val t (markLL mkLRow 2 ll k)) (hk0 : 0 ≤ k) (hk1 : k + ((totLL ll * 2 : Nat) : Int) ≤ 4611686018427387904) :
    Calls Try.prog 120 #[.slice K.a K.len K.cap, .int .i64 k] w fun e w' => e = .returned (.int .i64 (k + ((totLL ll * 2 : Nat) : Int))) ∧ Below w.heap.size w w' :=
  (heldLListS_ct w _ t ll k h hk0 (by omega)).mono fun _ _ ⟨a, b⟩ => ⟨a.trans (ret_i64 (by omega)), b⟩
end Go.Proofs.Ytdepckmjgpkjmaa

/-
  Heap: compared, made, measured, marked.
-/
namespace Go.Proofs.Ytdepckmjgpkjmaa
open Go.RowKit

set_option maxRecDepth 100000 in
set_option maxHeartbeats 4000000 in
theorem eqHeap_ct (w : World) (H1 H2 : HHeap) (x : Heap) (h1 : RdHeap w w.heap.size H1 x) (h2 : RdHeap w w.heap.size H2 x) (hs : sizeHeap x ≤ 1073741824) :
    Calls Try.prog 132 #[.agg #[.slice H1.Bytes.a H1.Bytes.len H1.Bytes.cap, .slice H1.Class.a H1.Class.len H1.Class.cap], .agg #[.slice H2.Bytes.a H2.Bytes.len H2.Bytes.cap, .slice H2.Class.a H2.Class.len H2.Class.cap]] w fun e w' => e = .returned (.bool true) ∧ Below w.heap.size w w' := by
  have hs0 : x.Bytes.length ≤ 1073741824 := by unfold sizeHeap at hs; omega
  have hs1 : x.Class.length ≤ 1073741824 := by unfold sizeHeap at hs; omega
  clear hs
  have ba0 : Box ((w.alloc (.cells #[.slice H1.Bytes.a H1.Bytes.len H1.Bytes.cap, .slice H1.Class.a H1.Class.len H1.Class.cap] 54)).alloc (.cells #[.slice H2.Bytes.a H2.Bytes.len H2.Bytes.cap, .slice H2.Class.a H2.Class.len H2.Class.cap] 54)) w.heap.size [.slice H1.Bytes.a H1.Bytes.len H1.Bytes.cap, .slice H1.Class.a H1.Class.len H1.Class.cap] := (Box.new w #[.slice H1.Bytes.a H1.Bytes.len H1.Bytes.cap, .slice H1.Class.a H1.Class.len H1.Class.cap] 54).alloc _
  have bb0 : Box ((w.alloc (.cells #[.slice H1.Bytes.a H1.Bytes.len H1.Bytes.cap, .slice H1.Class.a H1.Class.len H1.Class.cap] 54)).alloc (.cells #[.slice H2.Bytes.a H2.Bytes.len H2.Bytes.cap, .slice H2.Class.a H2.Class.len H2.Class.cap] 54)) (w.heap.size + 1) [.slice H2.Bytes.a H2.Bytes.len H2.Bytes.cap, .slice H2.Class.a H2.Class.len H2.Class.cap] := by have a := Box.new (w.alloc (.cells #[.slice H1.Bytes.a H1.Bytes.len H1.Bytes.cap, .slice H1.Class.a H1.Class.len H1.Class.cap] 54)) #[.slice H2.Bytes.a H2.Bytes.len H2.Bytes.cap, .slice H2.Class.a H2.Class.len H2.Class.cap] 54; simpa using a
  have hB0 : Below w.heap.size w ((w.alloc (.cells #[.slice H1.Bytes.a H1.Bytes.len H1.Bytes.cap, .slice H1.Class.a H1.Class.len H1.Class.cap] 54)).alloc (.cells #[.slice H2.Bytes.a H2.Bytes.len H2.Bytes.cap, .slice H2.Class.a H2.Class.len H2.Class.cap] 54)) := by repeat (first | exact Below.refl _ _ | refine Below.alloc ?_ (by simp <;> omega) _ | refine below_grow_of ?_ (by simp <;> omega) _ _ | refine Below.drew ?_ | refine below_drewN ?_ _)
  go_enter Try.func132, Try.ntmps132
  go_wp2_with fail
  refine (eqIntS_w _ H1.Bytes H2.Bytes x.Bytes (rd_up h1.Bytes hB0) (rd_up h2.Bytes hB0) hs0).mono ?_
  rintro e w1 ⟨rfl, hb0⟩
  have ba1 := ba0.below hb0
  have bb1 := bb0.below hb0
  have hB1 := hB0.trans (hb0.mono hB0.size)
  clear ba0 bb0 hb0 hB0
  have qa0 := ba1.cell 0 _ rfl
  have qb0 := bb1.cell 0 _ rfl
  have qa1 := ba1.cell 1 _ rfl
  have qb1 := bb1.cell 1 _ rfl
  go_wp2_with fail
  refine (eqIntS_w _ H1.Class H2.Class x.Class (rd_up h1.Class hB1) (rd_up h2.Class hB1) hs1).mono ?_
  rintro e w2 ⟨rfl, hb1⟩
  have ba2 := ba1.below hb1
  have bb2 := bb1.below hb1
  have hB2 := hB1.trans (hb1.mono hB1.size)
  clear ba1 bb1 hb1 hB1 qa0 qb0 qa1 qb1
  have qa0 := ba2.cell 0 _ rfl
  have qb0 := bb2.cell 0 _ rfl
  have qa1 := ba2.cell 1 _ rfl
  have qb1 := bb2.cell 1 _ rfl
  go_wp2
  go_ret
  exact ⟨rfl, hB2⟩

set_option maxRecDepth 100000 in
set_option maxHeartbeats 4000000 in
theorem markHeap_ct (w : World) (H : HHeap) (x : Heap) (k : Int) (h : OwHeap w H x) (hk0 : 0 ≤ k) (hk1 : k + (nMarkHeap x : Int) ≤ 4611686018427387904) :
    Calls Try.prog 146 #[.agg #[.slice H.Bytes.a H.Bytes.len H.Bytes.cap, .slice H.Class.a H.Class.len H.Class.cap], .int .i64 k] w fun e w' => e = .returned (.int .i64 (k + (nMarkHeap x : Int))) ∧ OwHeap w' H (markHeap x k) ∧ Chg H.foot w w' := by
  have ba0 : Box (w.alloc (.cells #[.slice H.Bytes.a H.Bytes.len H.Bytes.cap, .slice H.Class.a H.Class.len H.Class.cap] 54)) w.heap.size [.slice H.Bytes.a H.Bytes.len H.Bytes.cap, .slice H.Class.a H.Class.len H.Class.cap] := Box.new w #[.slice H.Bytes.a H.Bytes.len H.Bytes.cap, .slice H.Class.a H.Class.len H.Class.cap] 54
  have HE := Hid.mk_ (show nMarkHeap x = x.Bytes.length + x.Class.length from rfl)
  have HK := Hid.mk_ hk1
  clear hk1
  have hlt := h.lt
  have hl0 : ∀ g ∈ foot1 H.Bytes.val, g < w.heap.size := (foot_lt h.Bytes)
  have ho0 := h.Bytes.keep (w' := (w.alloc (.cells #[.slice H.Bytes.a H.Bytes.len H.Bytes.cap, .slice H.Class.a H.Class.len H.Class.cap] 54))) (fun g hg => Below.heap_alloc w _ g (hl0 g (mem_foot1.2 hg)))
  have hl1 : ∀ g ∈ foot1 H.Class.val, g < w.heap.size := (foot_lt h.Class)
  have ho1 := h.Class.keep (w' := (w.alloc (.cells #[.slice H.Bytes.a H.Bytes.len H.Bytes.cap, .slice H.Class.a H.Class.len H.Class.cap] 54))) (fun g hg => Below.heap_alloc w _ g (hl1 g (mem_foot1.2 hg)))
  have hC0 : Chg H.foot w (w.alloc (.cells #[.slice H.Bytes.a H.Bytes.len H.Bytes.cap, .slice H.Class.a H.Class.len H.Class.cap] 54)) := (Chg.refl _ w).alloc_ _
  go_enter Try.func146, Try.ntmps146
  go_wp2_with fail
  refine (markIntS_w _ H.Bytes x.Bytes (k) ho0 (by omega) (by have := HK.out; rw [HE.out] at this; omega)).mono ?_
  clear ho0
  rintro e w1 ⟨rfl, ho0, hc⟩
  have ba1 := ba0.chg hc (fun hm => Nat.lt_irrefl _ (hl0 _ hm))
  have hC1 : Chg H.foot w w1 := hC0.trans (hc.mono fun g hg => HHeap.mem_foot.2 (.inl hg))
  replace ho1 := ho1.chg hc (fun g hg hm => h.d01 g hm hg)
  clear ba0 hc hC0
  have qa0 := ba1.cell 0 _ rfl
  have qa1 := ba1.cell 1 _ rfl
  go_wp2_with fail
  refine (markIntS_w _ H.Class x.Class (k + ((x.Bytes.length : Nat) : Int)) ho1 (by omega) (by have := HK.out; rw [HE.out] at this; omega)).mono ?_
  clear ho1
  rintro e w2 ⟨rfl, ho1, hc⟩
  have ba2 := ba1.chg hc (fun hm => Nat.lt_irrefl _ (hl1 _ hm))
  have hC2 : Chg H.foot w w2 := hC1.trans (hc.mono fun g hg => HHeap.mem_foot.2 (.inr (hg)))
  replace ho0 := ho0.chg hc (fun g hg hm => h.d01 g hg hm)
  clear ba1 hc hC1 qa0 qa1
  have qa0 := ba2.cell 0 _ rfl
  have qa1 := ba2.cell 1 _ rfl
  go_wp2
  go_ret
  exact ⟨ret_i64 (by rw [HE.out]; omega), ⟨ho0, ho1, h.d01⟩, hC2⟩

set_option maxRecDepth 100000 in
set_option maxHeartbeats 4000000 in
theorem heldHeap_ct (w : World) (H : HHeap) (x : Heap) (k : Int) (h : RdHeap w w.heap.size H (markHeap x k)) (hk0 : 0 ≤ k) (hk1 : k + (nMarkHeap x : Int) ≤ 4611686018427387904) :
    Calls Try.prog 158 #[.agg #[.slice H.Bytes.a H.Bytes.len H.Bytes.cap, .slice H.Class.a H.Class.len H.Class.cap], .int .i64 k] w fun e w' => e = .returned (.int .i64 (k + (nMarkHeap x : Int))) ∧ Below w.heap.size w w' := by
  have ba0 : Box (w.alloc (.cells #[.slice H.Bytes.a H.Bytes.len H.Bytes.cap, .slice H.Class.a H.Class.len H.Class.cap] 54)) w.heap.size [.slice H.Bytes.a H.Bytes.len H.Bytes.cap, .slice H.Class.a H.Class.len H.Class.cap] := Box.new w #[.slice H.Bytes.a H.Bytes.len H.Bytes.cap, .slice H.Class.a H.Class.len H.Class.cap] 54
  have hB0 : Below w.heap.size w (w.alloc (.cells #[.slice H.Bytes.a H.Bytes.len H.Bytes.cap, .slice H.Class.a H.Class.len H.Class.cap] 54)) := by repeat (first | exact Below.refl _ _ | refine Below.alloc ?_ (by simp <;> omega) _ | refine below_grow_of ?_ (by simp <;> omega) _ _ | refine Below.drew ?_ | refine below_drewN ?_ _)
  have HE := Hid.mk_ (show nMarkHeap x = x.Bytes.length + x.Class.length from rfl)
  have HK := Hid.mk_ hk1
  clear hk1
  go_enter Try.func158, Try.ntmps158
  go_wp2_with fail
  refine (heldIntS_w _ H.Bytes x.Bytes (k) (rd_up h.Bytes hB0) (by omega) (by have := HK.out; rw [HE.out] at this; omega)).mono ?_
  rintro e w1 ⟨rfl, hb0⟩
  have ba1 := ba0.below hb0
  have hB1 := hB0.trans (hb0.mono hB0.size)
  have hn0 : ¬ k + ((x.Bytes.length : Nat) : Int) < 0 := by omega
  clear ba0 hb0 hB0
  have qa0 := ba1.cell 0 _ rfl
  have qa1 := ba1.cell 1 _ rfl
  go_wp2_with fail
  refine (heldIntS_w _ H.Class x.Class (k + ((x.Bytes.length : Nat) : Int)) (rd_up h.Class hB1) (by omega) (by have := HK.out; rw [HE.out] at this; omega)).mono ?_
  rintro e w2 ⟨rfl, hb1⟩
  have ba2 := ba1.below hb1
  have hB2 := hB1.trans (hb1.mono hB1.size)
  have hn1 : ¬ k + ((x.Bytes.length : Nat) : Int) + ((x.Class.length : Nat) : Int) < 0 := by omega
  clear ba1 hb1 hB1 qa0 qa1
  have qa0 := ba2.cell 0 _ rfl
  have qa1 := ba2.cell 1 _ rfl
  go_wp2
  go_ret
  exact ⟨ret_i64 (by rw [HE.out]; omega), hB2⟩
end Go.Proofs.Ytdepckmjgpkjmaa

/-
  Lists: compared, made, measured, marked.
-/
namespace Go.Proofs.Ytdepckmjgpkjmaa
open Go.RowKit

set_option maxRecDepth 100000 in
set_option maxHeartbeats 4000000 in
theorem eqLists_ct (w : World) (H1 H2 : HLists) (x : Lists) (h1 : RdLists w w.heap.size H1 x) (h2 : RdLists w w.heap.size H2 x) (hs : sizeLists x ≤ 1073741824) :
    Calls Try.prog 133 #[.agg #[.slice H1.Global.a H1.Global.len H1.Global.cap, .slice H1.Own.a H1.Own.len H1.Own.cap], .agg #[.slice H2.Global.a H2.Global.len H2.Global.cap, .slice H2.Own.a H2.Own.len H2.Own.cap]] w fun e w' => e = .returned (.bool true) ∧ Below w.heap.size w w' := by
  have hs0 : szLL x.Global ≤ 1073741824 := by unfold sizeLists at hs; omega
  have hs1 : szLL x.Own ≤ 1073741824 := by unfold sizeLists at hs; omega
  clear hs
  have ba0 : Box ((w.alloc (.cells #[.slice H1.Global.a H1.Global.len H1.Global.cap, .slice H1.Own.a H1.Own.len H1.Own.cap] 57)).alloc (.cells #[.slice H2.Global.a H2.Global.len H2.Global.cap, .slice H2.Own.a H2.Own.len H2.Own.cap] 57)) w.heap.size [.slice H1.Global.a H1.Global.len H1.Global.cap, .slice H1.Own.a H1.Own.len H1.Own.cap] := (Box.new w #[.slice H1.Global.a H1.Global.len H1.Global.cap, .slice H1.Own.a H1.Own.len H1.Own.cap] 57).alloc _
  have bb0 : Box ((w.alloc (.cells #[.slice H1.Global.a H1.Global.len H1.Global.cap, .slice H1.Own.a H1.Own.len H1.Own.cap] 57)).alloc (.cells #[.slice H2.Global.a H2.Global.len H2.Global.cap, .slice H2.Own.a H2.Own.len H2.Own.cap] 57)) (w.heap.size + 1) [.slice H2.Global.a H2.Global.len H2.Global.cap, .slice H2.Own.a H2.Own.len H2.Own.cap] := by have a := Box.new (w.alloc (.cells #[.slice H1.Global.a H1.Global.len H1.Global.cap, .slice H1.Own.a H1.Own.len H1.Own.cap] 57)) #[.slice H2.Global.a H2.Global.len H2.Global.cap, .slice H2.Own.a H2.Own.len H2.Own.cap] 57; simpa using a
  have hB0 : Below w.heap.size w ((w.alloc (.cells #[.slice H1.Global.a H1.Global.len H1.Global.cap, .slice H1.Own.a H1.Own.len H1.Own.cap] 57)).alloc (.cells #[.slice H2.Global.a H2.Global.len H2.Global.cap, .slice H2.Own.a H2.Own.len H2.Own.cap] 57)) := by repeat (first | exact Below.refl _ _ | refine Below.alloc ?_ (by simp <;> omega) _ | refine below_grow_of ?_ (by simp <;> omega) _ _ | refine Below.drew ?_ | refine below_drewN ?_ _)
  go_enter Try.func133, Try.ntmps133
  go_wp2_with fail
  refine (eqSListS_w _ H1.Global H1.GlobalT H2.Global H2.GlobalT x.Global (rdLL_up h1.Global hB0) (rdLL_up h2.Global hB0) hs0).mono ?_
  rintro e w1 ⟨rfl, hb0⟩
  have ba1 := ba0.below hb0
  have bb1 := bb0.below hb0
  have hB1 := hB0.trans (hb0.mono hB0.size)
  clear ba0 bb0 hb0 hB0
  have qa0 := ba1.cell 0 _ rfl
  have qb0 := bb1.cell 0 _ rfl
  have qa1 := ba1.cell 1 _ rfl
  have qb1 := bb1.cell 1 _ rfl
  go_wp2_with fail
  refine (eqSListS_w _ H1.Own H1.OwnT H2.Own H2.OwnT x.Own (rdLL_up h1.Own hB1) (rdLL_up h2.Own hB1) hs1).mono ?_
  rintro e w2 ⟨rfl, hb1⟩
  have ba2 := ba1.below hb1
  have bb2 := bb1.below hb1
  have hB2 := hB1.trans (hb1.mono hB1.size)
  clear ba1 bb1 hb1 hB1 qa0 qb0 qa1 qb1
  have qa0 := ba2.cell 0 _ rfl
  have qb0 := bb2.cell 0 _ rfl
  have qa1 := ba2.cell 1 _ rfl
  have qb1 := bb2.cell 1 _ rfl
  go_wp2
  go_ret
  exact ⟨rfl, hB2⟩

set_option maxRecDepth 100000 in
set_option maxHeartbeats 4000000 in
theorem markLists_ct (w : World) (H : HLists) (x : Lists) (k : Int) (h : OwLists w H x) (hk0 : 0 ≤ k) (hk1 : k + (nMarkLists x : Int) ≤ 4611686018427387904) :
    Calls Try.prog 147 #[.agg #[.slice H.Global.a H.Global.len H.Global.cap, .slice H.Own.a H.Own.len H.Own.cap], .int .i64 k] w fun e w' => e = .returned (.int .i64 (k + (nMarkLists x : Int))) ∧ OwLists w' H (markLists x k) ∧ Chg H.foot w w' := by
  have ba0 : Box (w.alloc (.cells #[.slice H.Global.a H.Global.len H.Global.cap, .slice H.Own.a H.Own.len H.Own.cap] 57)) w.heap.size [.slice H.Global.a H.Global.len H.Global.cap, .slice H.Own.a H.Own.len H.Own.cap] := Box.new w #[.slice H.Global.a H.Global.len H.Global.cap, .slice H.Own.a H.Own.len H.Own.cap] 57
  have HE := Hid.mk_ (show nMarkLists x = totLL x.Global + totLL x.Own from rfl)
  have HK := Hid.mk_ hk1
  clear hk1
  have hlt := h.lt
  have hl0 : ∀ g ∈ foot2 H.Global.val H.GlobalT, g < w.heap.size := h.Global.lt
  have ho0 := h.Global.keep (w' := (w.alloc (.cells #[.slice H.Global.a H.Global.len H.Global.cap, .slice H.Own.a H.Own.len H.Own.cap] 57))) (fun g hg => Below.heap_alloc w _ g (hl0 g hg))
  have hl1 : ∀ g ∈ foot2 H.Own.val H.OwnT, g < w.heap.size := h.Own.lt
  have ho1 := h.Own.keep (w' := (w.alloc (.cells #[.slice H.Global.a H.Global.len H.Global.cap, .slice H.Own.a H.Own.len H.Own.cap] 57))) (fun g hg => Below.heap_alloc w _ g (hl1 g hg))
  have hC0 : Chg H.foot w (w.alloc (.cells #[.slice H.Global.a H.Global.len H.Global.cap, .slice H.Own.a H.Own.len H.Own.cap] 57)) := (Chg.refl _ w).alloc_ _
  go_enter Try.func147, Try.ntmps147
  go_wp2_with fail
  refine (markSListS_w _ H.Global H.GlobalT x.Global (k) ho0 (by omega) (by have := HK.out; rw [HE.out] at this; omega)).mono ?_
  clear ho0
  rintro e w1 ⟨rfl, ho0, hc⟩
  have ba1 := ba0.chg hc (fun hm => Nat.lt_irrefl _ (hl0 _ hm))
  have hC1 : Chg H.foot w w1 := hC0.trans (hc.mono fun g hg => HLists.mem_foot.2 (.inl hg))
  replace ho1 := ho1.chg hc (fun g hg hm => h.d01 g hm hg)
  clear ba0 hc hC0
  have qa0 := ba1.cell 0 _ rfl
  have qa1 := ba1.cell 1 _ rfl
  go_wp2_with fail
  refine (markSListS_w _ H.Own H.OwnT x.Own (k + ((totLL x.Global : Nat) : Int)) ho1 (by omega) (by have := HK.out; rw [HE.out] at this; omega)).mono ?_
  clear ho1
  rintro e w2 ⟨rfl, ho1, hc⟩
  have ba2 := ba1.chg hc (fun hm => Nat.lt_irrefl _ (hl1 _ hm))
  have hC2 : Chg H.foot w w2 := hC1.trans (hc.mono fun g hg => HLists.mem_foot.2 (.inr (hg)))
  replace ho0 := ho0.chg hc (fun g hg hm => h.d01 g hg hm)
  clear ba1 hc hC1 qa0 qa1
  have qa0 := ba2.cell 0 _ rfl
  have qa1 := ba2.cell 1 _ rfl
  go_wp2
  go_ret
  exact ⟨ret_i64 (by rw [HE.out]; omega), ⟨ho0, ho1, h.d01⟩, hC2⟩

set_option maxRecDepth 100000 in
set_option maxHeartbeats 4000000 in
theorem heldLists_ct (w : World) (H : HLists) (x : Lists) (k : Int) (h : RdLists w w.heap.size H (markLists x k)) (hk0 : 0 ≤ k) (hk1 : k + (nMarkLists x : Int) ≤ 4611686018427387904) :
    Calls Try.prog 159 #[.agg #[.slice H.Global.a H.Global.len H.Global.cap, .slice H.Own.a H.Own.len H.Own.cap], .int .i64 k] w fun e w' => e = .returned (.int .i64 (k + (nMarkLists x : Int))) ∧ Below w.heap.size w w' := by
  have ba0 : Box (w.alloc (.cells #[.slice H.Global.a H.Global.len H.Global.cap, .slice H.Own.a H.Own.len H.Own.cap] 57)) w.heap.size [.slice H.Global.a H.Global.len H.Global.cap, .slice H.Own.a H.Own.len H.Own.cap] := Box.new w #[.slice H.Global.a H.Global.len H.Global.cap, .slice H.Own.a H.Own.len H.Own.cap] 57
  have hB0 : Below w.heap.size w (w.alloc (.cells #[.slice H.Global.a H.Global.len H.Global.cap, .slice H.Own.a H.Own.len H.Own.cap] 57)) := by repeat (first | exact Below.refl _ _ | refine Below.alloc ?_ (by simp <;> omega) _ | refine below_grow_of ?_ (by simp <;> omega) _ _ | refine Below.drew ?_ | refine below_drewN ?_ _)
  have HE := Hid.mk_ (show nMarkLists x = totLL x.Global + totLL x.Own from rfl)
  have HK := Hid.mk_ hk1
  clear hk1
  go_enter Try.func159, Try.ntmps159
  go_wp2_with fail
  refine (heldSListS_w _ H.Global H.GlobalT x.Global (k) (rdLL_up h.Global hB0) (by omega) (by have := HK.out; rw [HE.out] at this; omega)).mono ?_
  rintro e w1 ⟨rfl, hb0⟩
  have ba1 := ba0.below hb0
  have hB1 := hB0.trans (hb0.mono hB0.size)
  have hn0 : ¬ k + ((totLL x.Global : Nat) : Int) < 0 := by omega
  clear ba0 hb0 hB0
  have qa0 := ba1.cell 0 _ rfl
  have qa1 := ba1.cell 1 _ rfl
  go_wp2_with fail
  refine (heldSListS_w _ H.Own H.OwnT x.Own (k + ((totLL x.Global : Nat) : Int)) (rdLL_up h.Own hB1) (by omega) (by have := HK.out; rw [HE.out] at this; omega)).mono ?_
  rintro e w2 ⟨rfl, hb1⟩
  have ba2 := ba1.below hb1
  have hB2 := hB1.trans (hb1.mono hB1.size)
  have hn1 : ¬ k + ((totLL x.Global : Nat) : Int) + ((totLL x.Own : Nat) : Int) < 0 := by omega
  clear ba1 hb1 hB1 qa0 qa1
  have qa0 := ba2.cell 0 _ rfl
  have qa1 := ba2.cell 1 _ rfl
  go_wp2
  go_ret
  exact ⟨ret_i64 (by rw [HE.out]; omega), hB2⟩
end Go.Proofs.Ytdepckmjgpkjmaa

/-
  Mem: compared, made, measured, marked.
-/
namespace Go.Proofs.Ytdepckmjgpkjmaa
open Go.RowKit

set_option maxRecDepth 100000 in
set_option maxHeartbeats 4000000 in
theorem eqMem_ct (w : World) (H1 H2 : HMem) (x : Mem) (h1 : RdMem w w.heap.size H1 x) (h2 : RdMem w w.heap.size H2 x) (hs : sizeMem x ≤ 1073741824) :
    Calls Try.prog 88 #[.agg #[.slice H1.Heap.Bytes.a H1.Heap.Bytes.len H1.Heap.Bytes.cap, .slice H1.Heap.Class.a H1.Heap.Class.len H1.Heap.Class.cap, .slice H1.Lists.Global.a H1.Lists.Global.len H1.Lists.Global.cap, .slice H1.Lists.Own.a H1.Lists.Own.len H1.Lists.Own.cap], .agg #[.slice H2.Heap.Bytes.a H2.Heap.Bytes.len H2.Heap.Bytes.cap, .slice H2.Heap.Class.a H2.Heap.Class.len H2.Heap.Class.cap, .slice H2.Lists.Global.a H2.Lists.Global.len H2.Lists.Global.cap, .slice H2.Lists.Own.a H2.Lists.Own.len H2.Lists.Own.cap]] w fun e w' => e = .returned (.bool true) ∧ Below w.heap.size w w' := by
  have hs0 : sizeHeap x.Heap ≤ 1073741824 := by unfold sizeMem at hs; omega
  have hs1 : sizeLists x.Lists ≤ 1073741824 := by unfold sizeMem at hs; omega
  clear hs
  have ba0 : Box ((w.alloc (.cells #[.slice H1.Heap.Bytes.a H1.Heap.Bytes.len H1.Heap.Bytes.cap, .slice H1.Heap.Class.a H1.Heap.Class.len H1.Heap.Class.cap, .slice H1.Lists.Global.a H1.Lists.Global.len H1.Lists.Global.cap, .slice H1.Lists.Own.a H1.Lists.Own.len H1.Lists.Own.cap] 59)).alloc (.cells #[.slice H2.Heap.Bytes.a H2.Heap.Bytes.len H2.Heap.Bytes.cap, .slice H2.Heap.Class.a H2.Heap.Class.len H2.Heap.Class.cap, .slice H2.Lists.Global.a H2.Lists.Global.len H2.Lists.Global.cap, .slice H2.Lists.Own.a H2.Lists.Own.len H2.Lists.Own.cap] 59)) w.heap.size [.slice H1.Heap.Bytes.a H1.Heap.Bytes.len H1.Heap.Bytes.cap, .slice H1.Heap.Class.a H1.Heap.Class.len H1.Heap.Class.cap, .slice H1.Lists.Global.a H1.Lists.Global.len H1.Lists.Global.cap, .slice H1.Lists.Own.a H1.Lists.Own.len H1.Lists.Own.cap] := (Box.new w #[.slice H1.Heap.Bytes.a H1.Heap.Bytes.len H1.Heap.Bytes.cap, .slice H1.Heap.Class.a H1.Heap.Class.len H1.Heap.Class.cap, .slice H1.Lists.Global.a H1.Lists.Global.len H1.Lists.Global.cap, .slice H1.Lists.Own.a H1.Lists.Own.len H1.Lists.Own.cap] 59).alloc _
  have bb0 : Box ((w.alloc (.cells #[.slice H1.Heap.Bytes.a H1.Heap.Bytes.len H1.Heap.Bytes.cap, .slice H1.Heap.Class.a H1.Heap.Class.len H1.Heap.Class.cap, .slice H1.Lists.Global.a H1.Lists.Global.len H1.Lists.Global.cap, .slice H1.Lists.Own.a H1.Lists.Own.len H1.Lists.Own.cap] 59)).alloc (.cells #[.slice H2.Heap.Bytes.a H2.Heap.Bytes.len H2.Heap.Bytes.cap, .slice H2.Heap.Class.a H2.Heap.Class.len H2.Heap.Class.cap, .slice H2.Lists.Global.a H2.Lists.Global.len H2.Lists.Global.cap, .slice H2.Lists.Own.a H2.Lists.Own.len H2.Lists.Own.cap] 59)) (w.heap.size + 1) [.slice H2.Heap.Bytes.a H2.Heap.Bytes.len H2.Heap.Bytes.cap, .slice H2.Heap.Class.a H2.Heap.Class.len H2.Heap.Class.cap, .slice H2.Lists.Global.a H2.Lists.Global.len H2.Lists.Global.cap, .slice H2.Lists.Own.a H2.Lists.Own.len H2.Lists.Own.cap] := by have a := Box.new (w.alloc (.cells #[.slice H1.Heap.Bytes.a H1.Heap.Bytes.len H1.Heap.Bytes.cap, .slice H1.Heap.Class.a H1.Heap.Class.len H1.Heap.Class.cap, .slice H1.Lists.Global.a H1.Lists.Global.len H1.Lists.Global.cap, .slice H1.Lists.Own.a H1.Lists.Own.len H1.Lists.Own.cap] 59)) #[.slice H2.Heap.Bytes.a H2.Heap.Bytes.len H2.Heap.Bytes.cap, .slice H2.Heap.Class.a H2.Heap.Class.len H2.Heap.Class.cap, .slice H2.Lists.Global.a H2.Lists.Global.len H2.Lists.Global.cap, .slice H2.Lists.Own.a H2.Lists.Own.len H2.Lists.Own.cap] 59; simpa using a
  have hB0 : Below w.heap.size w ((w.alloc (.cells #[.slice H1.Heap.Bytes.a H1.Heap.Bytes.len H1.Heap.Bytes.cap, .slice H1.Heap.Class.a H1.Heap.Class.len H1.Heap.Class.cap, .slice H1.Lists.Global.a H1.Lists.Global.len H1.Lists.Global.cap, .slice H1.Lists.Own.a H1.Lists.Own.len H1.Lists.Own.cap] 59)).alloc (.cells #[.slice H2.Heap.Bytes.a H2.Heap.Bytes.len H2.Heap.Bytes.cap, .slice H2.Heap.Class.a H2.Heap.Class.len H2.Heap.Class.cap, .slice H2.Lists.Global.a H2.Lists.Global.len H2.Lists.Global.cap, .slice H2.Lists.Own.a H2.Lists.Own.len H2.Lists.Own.cap] 59)) := by repeat (first | exact Below.refl _ _ | refine Below.alloc ?_ (by simp <;> omega) _ | refine below_grow_of ?_ (by simp <;> omega) _ _ | refine Below.drew ?_ | refine below_drewN ?_ _)
  go_enter Try.func88, Try.ntmps88
  go_wp2_with fail
  refine (eqHeap_ct _ H1.Heap H2.Heap x.Heap (rdHeap_up h1.Heap hB0) (rdHeap_up h2.Heap hB0) hs0).mono ?_
  rintro e w1 ⟨rfl, hb0⟩
  have ba1 := ba0.below hb0
  have bb1 := bb0.below hb0
  have hB1 := hB0.trans (hb0.mono hB0.size)
  clear ba0 bb0 hb0 hB0
  have qa0 := ba1.cell 0 _ rfl
  have qb0 := bb1.cell 0 _ rfl
  have qa1 := ba1.cell 1 _ rfl
  have qb1 := bb1.cell 1 _ rfl
  have qa2 := ba1.cell 2 _ rfl
  have qb2 := bb1.cell 2 _ rfl
  have qa3 := ba1.cell 3 _ rfl
  have qb3 := bb1.cell 3 _ rfl
  go_wp2_with fail
  refine (eqLists_ct _ H1.Lists H2.Lists x.Lists (rdLists_up h1.Lists hB1) (rdLists_up h2.Lists hB1) hs1).mono ?_
  rintro e w2 ⟨rfl, hb1⟩
  have ba2 := ba1.below hb1
  have bb2 := bb1.below hb1
  have hB2 := hB1.trans (hb1.mono hB1.size)
  clear ba1 bb1 hb1 hB1 qa0 qb0 qa1 qb1 qa2 qb2 qa3 qb3
  have qa0 := ba2.cell 0 _ rfl
  have qb0 := bb2.cell 0 _ rfl
  have qa1 := ba2.cell 1 _ rfl
  have qb1 := bb2.cell 1 _ rfl
  have qa2 := ba2.cell 2 _ rfl
  have qb2 := bb2.cell 2 _ rfl
  have qa3 := ba2.cell 3 _ rfl
  have qb3 := bb2.cell 3 _ rfl
  go_wp2
  go_ret
  exact ⟨rfl, hB2⟩

set_option maxRecDepth 100000 in
set_option maxHeartbeats 4000000 in
theorem markMem_ct (w : World) (H : HMem) (x : Mem) (k : Int) (h : OwMem w H x) (hk0 : 0 ≤ k) (hk1 : k + (nMarkMem x : Int) ≤ 4611686018427387904) :
    Calls Try.prog 98 #[.agg #[.slice H.Heap.Bytes.a H.Heap.Bytes.len H.Heap.Bytes.cap, .slice H.Heap.Class.a H.Heap.Class.len H.Heap.Class.cap, .slice H.Lists.Global.a H.Lists.Global.len H.Lists.Global.cap, .slice H.Lists.Own.a H.Lists.Own.len H.Lists.Own.cap], .int .i64 k] w fun e w' => e = .returned (.int .i64 (k + (nMarkMem x : Int))) ∧ OwMem w' H (markMem x k) ∧ Chg H.foot w w' := by
  have ba0 : Box (w.alloc (.cells #[.slice H.Heap.Bytes.a H.Heap.Bytes.len H.Heap.Bytes.cap, .slice H.Heap.Class.a H.Heap.Class.len H.Heap.Class.cap, .slice H.Lists.Global.a H.Lists.Global.len H.Lists.Global.cap, .slice H.Lists.Own.a H.Lists.Own.len H.Lists.Own.cap] 59)) w.heap.size [.slice H.Heap.Bytes.a H.Heap.Bytes.len H.Heap.Bytes.cap, .slice H.Heap.Class.a H.Heap.Class.len H.Heap.Class.cap, .slice H.Lists.Global.a H.Lists.Global.len H.Lists.Global.cap, .slice H.Lists.Own.a H.Lists.Own.len H.Lists.Own.cap] := Box.new w #[.slice H.Heap.Bytes.a H.Heap.Bytes.len H.Heap.Bytes.cap, .slice H.Heap.Class.a H.Heap.Class.len H.Heap.Class.cap, .slice H.Lists.Global.a H.Lists.Global.len H.Lists.Global.cap, .slice H.Lists.Own.a H.Lists.Own.len H.Lists.Own.cap] 59
  have HE := Hid.mk_ (show nMarkMem x = nMarkHeap x.Heap + nMarkLists x.Lists from rfl)
  have HK := Hid.mk_ hk1
  clear hk1
  have hlt := h.lt
  have hl0 : ∀ g ∈ H.Heap.foot, g < w.heap.size := h.Heap.lt
  have ho0 := h.Heap.keep (w' := (w.alloc (.cells #[.slice H.Heap.Bytes.a H.Heap.Bytes.len H.Heap.Bytes.cap, .slice H.Heap.Class.a H.Heap.Class.len H.Heap.Class.cap, .slice H.Lists.Global.a H.Lists.Global.len H.Lists.Global.cap, .slice H.Lists.Own.a H.Lists.Own.len H.Lists.Own.cap] 59))) (fun g hg => Below.heap_alloc w _ g (hl0 g hg))
  have hl1 : ∀ g ∈ H.Lists.foot, g < w.heap.size := h.Lists.lt
  have ho1 := h.Lists.keep (w' := (w.alloc (.cells #[.slice H.Heap.Bytes.a H.Heap.Bytes.len H.Heap.Bytes.cap, .slice H.Heap.Class.a H.Heap.Class.len H.Heap.Class.cap, .slice H.Lists.Global.a H.Lists.Global.len H.Lists.Global.cap, .slice H.Lists.Own.a H.Lists.Own.len H.Lists.Own.cap] 59))) (fun g hg => Below.heap_alloc w _ g (hl1 g hg))
  have hC0 : Chg H.foot w (w.alloc (.cells #[.slice H.Heap.Bytes.a H.Heap.Bytes.len H.Heap.Bytes.cap, .slice H.Heap.Class.a H.Heap.Class.len H.Heap.Class.cap, .slice H.Lists.Global.a H.Lists.Global.len H.Lists.Global.cap, .slice H.Lists.Own.a H.Lists.Own.len H.Lists.Own.cap] 59)) := (Chg.refl _ w).alloc_ _
  go_enter Try.func98, Try.ntmps98
  go_wp2_with fail
  refine (markHeap_ct _ H.Heap x.Heap (k) ho0 (by omega) (by have := HK.out; rw [HE.out] at this; omega)).mono ?_
  clear ho0
  rintro e w1 ⟨rfl, ho0, hc⟩
  have ba1 := ba0.chg hc (fun hm => Nat.lt_irrefl _ (hl0 _ hm))
  have hC1 : Chg H.foot w w1 := hC0.trans (hc.mono fun g hg => HMem.mem_foot.2 (.inl hg))
  replace ho1 := ho1.chg hc (fun g hg hm => h.d01 g hm hg)
  clear ba0 hc hC0
  have qa0 := ba1.cell 0 _ rfl
  have qa1 := ba1.cell 1 _ rfl
  have qa2 := ba1.cell 2 _ rfl
  have qa3 := ba1.cell 3 _ rfl
  go_wp2_with fail
  refine (markLists_ct _ H.Lists x.Lists (k + ((nMarkHeap x.Heap : Nat) : Int)) ho1 (by omega) (by have := HK.out; rw [HE.out] at this; omega)).mono ?_
  clear ho1
  rintro e w2 ⟨rfl, ho1, hc⟩
  have ba2 := ba1.chg hc (fun hm => Nat.lt_irrefl _ (hl1 _ hm))
  have hC2 : Chg H.foot w w2 := hC1.trans (hc.mono fun g hg => HMem.mem_foot.2 (.inr (hg)))
  replace ho0 := ho0.chg hc (fun g hg hm => h.d01 g hg hm)
  clear ba1 hc hC1 qa0 qa1 qa2 qa3
  have qa0 := ba2.cell 0 _ rfl
  have qa1 := ba2.cell 1 _ rfl
  have qa2 := ba2.cell 2 _ rfl
  have qa3 := ba2.cell 3 _ rfl
  go_wp2
  go_ret
  exact ⟨ret_i64 (by rw [HE.out]; omega), ⟨ho0, ho1, h.d01⟩, hC2⟩

set_option maxRecDepth 100000 in
set_option maxHeartbeats 4000000 in
theorem heldMem_ct (w : World) (H : HMem) (x : Mem) (k : Int) (h : RdMem w w.heap.size H (markMem x k)) (hk0 : 0 ≤ k) (hk1 : k + (nMarkMem x : Int) ≤ 4611686018427387904) :
    Calls Try.prog 118 #[.agg #[.slice H.Heap.Bytes.a H.Heap.Bytes.len H.Heap.Bytes.cap, .slice H.Heap.Class.a H.Heap.Class.len H.Heap.Class.cap, .slice H.Lists.Global.a H.Lists.Global.len H.Lists.Global.cap, .slice H.Lists.Own.a H.Lists.Own.len H.Lists.Own.cap], .int .i64 k] w fun e w' => e = .returned (.int .i64 (k + (nMarkMem x : Int))) ∧ Below w.heap.size w w' := by
  have ba0 : Box (w.alloc (.cells #[.slice H.Heap.Bytes.a H.Heap.Bytes.len H.Heap.Bytes.cap, .slice H.Heap.Class.a H.Heap.Class.len H.Heap.Class.cap, .slice H.Lists.Global.a H.Lists.Global.len H.Lists.Global.cap, .slice H.Lists.Own.a H.Lists.Own.len H.Lists.Own.cap] 59)) w.heap.size [.slice H.Heap.Bytes.a H.Heap.Bytes.len H.Heap.Bytes.cap, .slice H.Heap.Class.a H.Heap.Class.len H.Heap.Class.cap, .slice H.Lists.Global.a H.Lists.Global.len H.Lists.Global.cap, .slice H.Lists.Own.a H.Lists.Own.len H.Lists.Own.cap] := Box.new w #[.slice H.Heap.Bytes.a H.Heap.Bytes.len H.Heap.Bytes.cap, .slice H.Heap.Class.a H.Heap.Class.len H.Heap.Class.cap, .slice H.Lists.Global.a H.Lists.Global.len H.Lists.Global.cap, .slice H.Lists.Own.a H.Lists.Own.len H.Lists.Own.cap] 59
  have hB0 : Below w.heap.size w (w.alloc (.cells #[.slice H.Heap.Bytes.a H.Heap.Bytes.len H.Heap.Bytes.cap, .slice H.Heap.Class.a H.Heap.Class.len H.Heap.Class.cap, .slice H.Lists.Global.a H.Lists.Global.len H.Lists.Global.cap, .slice H.Lists.Own.a H.Lists.Own.len H.Lists.Own.cap] 59)) := by repeat (first | exact Below.refl _ _ | refine Below.alloc ?_ (by simp <;> omega) _ | refine below_grow_of ?_ (by simp <;> omega) _ _ | refine Below.drew ?_ | refine below_drewN ?_ _)
  have HE := Hid.mk_ (show nMarkMem x = nMarkHeap x.Heap + nMarkLists x.Lists from rfl)
  have HK := Hid.mk_ hk1
  clear hk1
  go_enter Try.func118, Try.ntmps118
  go_wp2_with fail
  refine (heldHeap_ct _ H.Heap x.Heap (k) (rdHeap_up h.Heap hB0) (by omega) (by have := HK.out; rw [HE.out] at this; omega)).mono ?_
  rintro e w1 ⟨rfl, hb0⟩
  have ba1 := ba0.below hb0
  have hB1 := hB0.trans (hb0.mono hB0.size)
  have hn0 : ¬ k + ((nMarkHeap x.Heap : Nat) : Int) < 0 := by omega
  clear ba0 hb0 hB0
  have qa0 := ba1.cell 0 _ rfl
  have qa1 := ba1.cell 1 _ rfl
  have qa2 := ba1.cell 2 _ rfl
  have qa3 := ba1.cell 3 _ rfl
  go_wp2_with fail
  refine (heldLists_ct _ H.Lists x.Lists (k + ((nMarkHeap x.Heap : Nat) : Int)) (rdLists_up h.Lists hB1) (by omega) (by have := HK.out; rw [HE.out] at this; omega)).mono ?_
  rintro e w2 ⟨rfl, hb1⟩
  have ba2 := ba1.below hb1
  have hB2 := hB1.trans (hb1.mono hB1.size)
  have hn1 : ¬ k + ((nMarkHeap x.Heap : Nat) : Int) + ((nMarkLists x.Lists : Nat) : Int) < 0 := by omega
  clear ba1 hb1 hB1 qa0 qa1 qa2 qa3
  have qa0 := ba2.cell 0 _ rfl
  have qa1 := ba2.cell 1 _ rfl
  have qa2 := ba2.cell 2 _ rfl
  have qa3 := ba2.cell 3 _ rfl
  go_wp2
  go_ret
  exact ⟨ret_i64 (by rw [HE.out]; omega), hB2⟩
end Go.Proofs.Ytdepckmjgpkjmaa

