/-
  Queues of operations: compared, made, measured, marked. Events: compared, made, measured, marked. Whole elements: loaded, stored. Operations and jobs: made. Jobs: made. Jobs compared. Jobs compared. Jobs: measured, marked. Jobs: held. Jobs: the forms that structs want.
-/
import Derived.Test.YtkldapdpaldbgaaGreatT
import Derived.Test.YtkldapdpaldbgaaGreatL
import Derived.Deep.QuietTactic
import Derived.BigQuiet
import Derived.Deep.LoopGhost
import Derived.Deep.RegionHeld3
import Derived.Test.YtkldapdpaldbgaaGreatN
import Derived.Test.YtkldapdpaldbgaaGreatA
import Derived.WalkSpells
import Derived.Laws.Cover3
import Derived.Test.YtkldapdpaldbgaaGreatEL
import Derived.Test.YtkldapdpaldbgaaGreatVS
import Derived.Test.YtkldapdpaldbgaaGreatBX
import Derived.Deep.MidRow
import Derived.Deep.CutRange
namespace Go.Proofs.YtkldapdpaldbgaaGreat
open Go.RowKit

set_option maxHeartbeats 2000000 in
theorem toOp_ct (a0 a1 a2 a3 : Int) (w : World) : Calls Tryz.prog 221 #[.agg #[.int .i64 a0, .int .i64 a1, .int .i64 a2, .int .i64 a3]] w fun e w' => e = .returned (.agg #[.int .i64 a0, .int .i64 a1, .int .i64 a2, .int .i64 a3]) ∧ Below w.heap.size w w' := by
  go_enter Tryz.func221, Tryz.ntmps221
  go_wp2
  refine bodyPost_ret (v := .agg #[.int .i64 a0, .int .i64 a1, .int .i64 a2, .int .i64 a3]) (by simp [results, Tryz.results221, go_sem]) rfl ⟨rfl, ?_⟩
  repeat (first | exact Below.refl _ _ | refine Below.alloc ?_ (by simp <;> omega) _ | refine below_grow_of ?_ (by simp <;> omega) _ _ | refine Below.drew ?_ | refine below_drewN ?_ _)

set_option maxHeartbeats 2000000 in
theorem eqOp_ct (a0 a1 a2 a3 : Int) (w : World) : Calls Tryz.prog 230 #[.agg #[.int .i64 a0, .int .i64 a1, .int .i64 a2, .int .i64 a3], .agg #[.int .i64 a0, .int .i64 a1, .int .i64 a2, .int .i64 a3]] w fun e w' => e = .returned (.bool true) ∧ Below w.heap.size w w' := by
  go_enter Tryz.func230, Tryz.ntmps230
  go_wp2
  go_ret
  exact ⟨rfl, by repeat (first | exact Below.refl _ _ | refine Below.alloc ?_ (by simp <;> omega) _ | refine below_grow_of ?_ (by simp <;> omega) _ _ | refine Below.drew ?_ | refine below_drewN ?_ _)⟩

theorem Tryz.infoOp : (Tryz.prog.info? 142).map (fun i => (i.zero, i.size, i.bytes)) = some (some (.agg #[.int .i64 0, .int .i64 0, .int .i64 0, .int .i64 0]), FOp.n, 32) := by kernel_rfl
set_option maxHeartbeats 1000000 in
theorem toOpS_ct (w : World) (v : Value) (l : List Op) (h : RdL FOp w w.heap.size v l) (hs : l.length ≤ 1048576) :
    Calls Tryz.prog 223 #[v] w fun e w' => e = .returned (.slice (some ⟨w.heap.size, 0, none⟩) l.length l.length) ∧ OwL FOp 142 w' (.slice (some ⟨w.heap.size, 0, none⟩) l.length l.length) l ∧ Below w.heap.size w w' := by
  have hmk := run_make_flat (P := Tryz.prog) FOp 180 142 (.agg #[.int .i64 0, .int .i64 0, .int .i64 0, .int .i64 0]) 32 Tryz.underlying180 Tryz.infoOp l.length (by omega) (by omega)
  obtain ⟨A, cap, hv, _⟩ := id h
  subst hv
  go_enter Tryz.func223, Tryz.ntmps223
  go_wp2
  clear hmk
  go_loopw [4] (fun i wr => ∃ k : Nat, k ≤ l.length ∧ i = .int .i64 k ∧ OwL FOp 142 wr (.slice (some ⟨w.heap.size, 0, none⟩) l.length l.length) (l.take k ++ List.replicate (l.length - k) ⟨0, 0, 0, 0⟩) ∧ Below w.heap.size w wr) (fun i _ => l.length - (intOf i).toNat)
  case atStart => exact ⟨0, Nat.zero_le _, rfl, OwL.made FOp #[.int .i64 0, .int .i64 0, .int .i64 0, .int .i64 0] rfl l.length (by simp [maxLen]; omega) w 142, (Below.refl _ _).alloc (Nat.le_refl _) _⟩
  case round =>
    obtain ⟨i, hk, rfl, ho, hb⟩ := hrel
    by_cases hlt : i < l.length
    · obtain ⟨g, off, cap', he, hg, _, _, hc⟩ := (h.below hb).at_ (List.getElem?_eq_getElem hlt)
      injection he with he1 he2 he3
      subst he1 he3
      have p0 : wr.cell? ⟨g, off + i * 4, none⟩ = some (.int .i64 l[i].Kind) := hc 0 _ rfl
      have p1 : wr.cell? ⟨g, off + i * 4 + 1, none⟩ = some (.int .i64 l[i].Cell) := hc 1 _ rfl
      have p2 : wr.cell? ⟨g, off + i * 4 + 2, none⟩ = some (.int .i64 l[i].Size) := hc 2 _ rfl
      have p3 : wr.cell? ⟨g, off + i * 4 + 3, none⟩ = some (.int .i64 l[i].Val) := hc 3 _ rfl
      have hx := upd_get l ⟨0, 0, 0, 0⟩ i hlt
      have hz : w.heap.size < wr.heap.size := (World.ownsRow.lt ho _ rfl).2
      have hf := ho.frozen_
      have c0 : wr.cell? ⟨w.heap.size, i * 4, none⟩ = some (.int .i64 0) := ho.cell_ (j := 0) hx (by decide)
      have c1 : wr.cell? ⟨w.heap.size, i * 4 + 1, none⟩ = some (.int .i64 0) := ho.cell_ (j := 1) hx (by decide)
      have c2 : wr.cell? ⟨w.heap.size, i * 4 + 2, none⟩ = some (.int .i64 0) := ho.cell_ (j := 2) hx (by decide)
      have c3 : wr.cell? ⟨w.heap.size, i * 4 + 3, none⟩ = some (.int .i64 0) := ho.cell_ (j := 3) hx (by decide)
      clear hc
      go_wp2_with (go_at_call 221; refine (toOp_ct _ _ _ _ _).mono ?_; rintro e w1 ⟨rfl, hb1⟩; obtain ⟨os1, d1, rfl⟩ := below_grows hb1; clear hb1)
      clear hf c0 p0 c1 p1 c2 p2 c3 p3
      go_roundw
      case rel =>
        have s0 := ho.set_ (j := 0) (y := (⟨l[i].Kind, 0, 0, 0⟩ : Op)) (u := .int .i64 l[i].Kind) hx (by decide) rfl
        have s1 := s0.set_ (j := 1) (y := (⟨l[i].Kind, l[i].Cell, 0, 0⟩ : Op)) (u := .int .i64 l[i].Cell) (set_get (⟨l[i].Kind, 0, 0, 0⟩ : Op) hx) (by decide) rfl
        have s2 := s1.set_ (j := 2) (y := (⟨l[i].Kind, l[i].Cell, l[i].Size, 0⟩ : Op)) (u := .int .i64 l[i].Size) (set_get (⟨l[i].Kind, l[i].Cell, 0, 0⟩ : Op) (set_get (⟨l[i].Kind, 0, 0, 0⟩ : Op) hx)) (by decide) rfl
        have s3 := s2.set_ (j := 3) (y := (⟨l[i].Kind, l[i].Cell, l[i].Size, l[i].Val⟩ : Op)) (u := .int .i64 l[i].Val) (set_get (⟨l[i].Kind, l[i].Cell, l[i].Size, 0⟩ : Op) (set_get (⟨l[i].Kind, l[i].Cell, 0, 0⟩ : Op) (set_get (⟨l[i].Kind, 0, 0, 0⟩ : Op) hx))) (by decide) rfl
        simp only [List.set_set] at s3
        have e := upd_step l ⟨0, 0, 0, 0⟩ i hlt
        refine ⟨i + 1, by omega, by go_num, ?_, ?_⟩
        · rw [← e]
          first | exact OwL.grow_ s3 _ _ | exact s3
        · first | exact below_grow_of (Below.setCell (Below.setCell (Below.setCell (Below.setCell (hb) (by simp) _) (by simp) _) (by simp) _) (by simp) _) (by simp; omega) _ _ | exact (Below.setCell (Below.setCell (Below.setCell (Below.setCell (hb) (by simp) _) (by simp) _) (by simp) _) (by simp) _)
      case measure => simp [intOf]; omega
    · go_wp2
      go_ret
      obtain rfl : i = l.length := by omega
      exact ⟨rfl, by simpa using ho, hb⟩

set_option maxHeartbeats 1000000 in
theorem eqOpS_ct (w : World) (v1 v2 : Value) (l : List Op) (h1 : RdL FOp w w.heap.size v1 l) (h2 : RdL FOp w w.heap.size v2 l) (hs : l.length ≤ 1073741824) :
    Calls Tryz.prog 232 #[v1, v2] w fun e w' => e = .returned (.bool true) ∧ Below w.heap.size w w' := by
  obtain ⟨A1, c1, hv1, _⟩ := id h1
  obtain ⟨A2, c2, hv2, _⟩ := id h2
  subst hv1 hv2
  go_enter Tryz.func232, Tryz.ntmps232
  go_wp2
  go_loopw [5] (fun i wr => ∃ k : Nat, k ≤ l.length ∧ i = .int .i64 k ∧ Below w.heap.size w wr) (fun i _ => l.length - (intOf i).toNat)
  case atStart => exact ⟨0, Nat.zero_le _, rfl, Below.refl _ _⟩
  case round =>
    obtain ⟨i, hk, rfl, hb⟩ := hrel
    by_cases hlt : i < l.length
    · obtain ⟨g1, o1, cap1, e1, b1, _, _, q1⟩ := (h1.below hb).at_ (List.getElem?_eq_getElem hlt)
      obtain ⟨g2, o2, cap2, e2, b2, _, _, q2⟩ := (h2.below hb).at_ (List.getElem?_eq_getElem hlt)
      injection e1 with e11 _ e13
      injection e2 with e21 _ e23
      subst e11 e13 e21 e23
      have z1 : g1 < wr.heap.size := Nat.lt_of_lt_of_le b1 hb.size
      have z0 : w.heap.size ≤ wr.heap.size := hb.size
      have z2 : g2 < wr.heap.size := Nat.lt_of_lt_of_le b2 hb.size
      have p0 : wr.cell? ⟨g1, o1 + i * 4, none⟩ = some (.int .i64 l[i].Kind) := q1 0 _ rfl
      have p1 : wr.cell? ⟨g1, o1 + i * 4 + 1, none⟩ = some (.int .i64 l[i].Cell) := q1 1 _ rfl
      have p2 : wr.cell? ⟨g1, o1 + i * 4 + 2, none⟩ = some (.int .i64 l[i].Size) := q1 2 _ rfl
      have p3 : wr.cell? ⟨g1, o1 + i * 4 + 3, none⟩ = some (.int .i64 l[i].Val) := q1 3 _ rfl
      have r0 : wr.cell? ⟨g2, o2 + i * 4, none⟩ = some (.int .i64 l[i].Kind) := q2 0 _ rfl
      have r1 : wr.cell? ⟨g2, o2 + i * 4 + 1, none⟩ = some (.int .i64 l[i].Cell) := q2 1 _ rfl
      have r2 : wr.cell? ⟨g2, o2 + i * 4 + 2, none⟩ = some (.int .i64 l[i].Size) := q2 2 _ rfl
      have r3 : wr.cell? ⟨g2, o2 + i * 4 + 3, none⟩ = some (.int .i64 l[i].Val) := q2 3 _ rfl
      clear q1 q2
      go_wp2
      go_region_held3 (fun w' => w'.cell? ⟨g1, o1 + i * 4, none⟩ = some (.int .i64 l[i].Kind) ∧ w'.cell? ⟨g1, o1 + i * 4 + 1, none⟩ = some (.int .i64 l[i].Cell) ∧ w'.cell? ⟨g1, o1 + i * 4 + 2, none⟩ = some (.int .i64 l[i].Size) ∧ w'.cell? ⟨g1, o1 + i * 4 + 3, none⟩ = some (.int .i64 l[i].Val) ∧ w'.cell? ⟨g2, o2 + i * 4, none⟩ = some (.int .i64 l[i].Kind) ∧ w'.cell? ⟨g2, o2 + i * 4 + 1, none⟩ = some (.int .i64 l[i].Cell) ∧ w'.cell? ⟨g2, o2 + i * 4 + 2, none⟩ = some (.int .i64 l[i].Size) ∧ w'.cell? ⟨g2, o2 + i * 4 + 3, none⟩ = some (.int .i64 l[i].Val) ∧ g1 < w'.heap.size ∧ g2 < w'.heap.size ∧ Below w.heap.size w w') (first | (go_keep; done) | ((try go_split_ands); refine ⟨?_, ?_, ?_, ?_, ?_, ?_, ?_, ?_, ?_, ?_, ?_⟩; all_goals first | assumption | exact Below.drew (by assumption) | (simp [go_sem, *]; done) | exact below_grow_of (by assumption) (by omega) _ _ | (rw [size_grow]; omega))) ((go_at_call 230; refine (eqOp_ct _ _ _ _ _).mono ?_; rintro e w1 ⟨rfl, hb1⟩; obtain ⟨os1, d1, rfl⟩ := below_grows hb1; clear hb1))
      go_wp2
      go_roundw
      case rel => exact ⟨i + 1, by omega, by go_num, by first | assumption | (try go_split_ands; assumption)⟩
      case measure => simp [intOf]; omega
    · go_wp2
      go_ret
      exact ⟨rfl, hb⟩

set_option maxHeartbeats 400000 in
theorem szOpS_ct (w : World) (A : Option Addr) (n c : Nat) (k : Nat) (hn : n ≤ 9223372036854775807) (hk : k ≤ 1073741824) :
    Calls Tryz.prog 220 #[.slice A n c, .int .i64 k] w fun e w' => e = .returned (.int .i64 (leftOf k n)) ∧ Below w.heap.size w w' := by
  by_cases h : n ≤ k
  · go_enter Tryz.func220, Tryz.ntmps220
    go_wp2
    go_ret
    exact ⟨ret_i64 (leftOf_pos h).symm, by repeat (first | exact Below.refl _ _ | refine Below.alloc ?_ (by simp <;> omega) _ | refine below_grow_of ?_ (by simp <;> omega) _ _ | refine Below.drew ?_ | refine below_drewN ?_ _)⟩
  · go_enter Tryz.func220, Tryz.ntmps220
    go_wp2
    go_ret
    exact ⟨ret_i64 (leftOf_neg h).symm, by repeat (first | exact Below.refl _ _ | refine Below.alloc ?_ (by simp <;> omega) _ | refine below_grow_of ?_ (by simp <;> omega) _ _ | refine Below.drew ?_ | refine below_drewN ?_ _)⟩

set_option maxHeartbeats 400000 in
theorem eqQueue_ct (w : World) (v1 v2 : Value) (l : List Op) (h1 : RdL FOp w w.heap.size v1 l) (h2 : RdL FOp w w.heap.size v2 l) (hs : l.length ≤ 1073741824) :
    Calls Tryz.prog 151 #[.agg #[v1], .agg #[v2]] w fun e w' => e = .returned (.bool true) ∧ Below w.heap.size w w' := by
  obtain ⟨A1, c1, hv1, _⟩ := id h1
  obtain ⟨A2, c2, hv2, _⟩ := id h2
  subst hv1 hv2
  go_enter Tryz.func151, Tryz.ntmps151
  go_wp2_with (go_at_call 232; refine (eqOpS_ct _ _ _ l (rd_up h1 (by repeat (first | exact Below.refl _ _ | refine Below.alloc ?_ (by simp <;> omega) _ | refine below_grow_of ?_ (by simp <;> omega) _ _ | refine Below.drew ?_ | refine below_drewN ?_ _))) (rd_up h2 (by repeat (first | exact Below.refl _ _ | refine Below.alloc ?_ (by simp <;> omega) _ | refine below_grow_of ?_ (by simp <;> omega) _ _ | refine Below.drew ?_ | refine below_drewN ?_ _))) hs).mono ?_; rintro e w1 ⟨rfl, hb1⟩; obtain ⟨os1, d1, rfl⟩ := below_grows hb1; clear hb1)
  go_ret
  exact ⟨rfl, by repeat (first | exact Below.refl _ _ | refine Below.alloc ?_ (by simp <;> omega) _ | refine below_grow_of ?_ (by simp <;> omega) _ _ | refine Below.drew ?_ | refine below_drewN ?_ _)⟩

set_option maxHeartbeats 1000000 in
theorem eqQueueS_ct (w : World) (v1 v2 : Value) (t1 t2 : List SV) (ll : List (List Op)) (h1 : RdLL FOp w w.heap.size v1 t1 ll) (h2 : RdLL FOp w w.heap.size v2 t2 ll) (hs : szLL ll ≤ 1073741824) :
    Calls Tryz.prog 75 #[v1, v2] w fun e w' => e = .returned (.bool true) ∧ Below w.heap.size w w' := by
  obtain ⟨A1, c1, hv1, _⟩ := id h1.outer
  obtain ⟨A2, c2, hv2, _⟩ := id h2.outer
  have n1 := h1.len
  have n2 := h2.len
  rw [n1] at hv1
  rw [n2] at hv2
  have hs0 : ll.length ≤ 1073741824 := Nat.le_trans (Nat.le_add_right _ _) hs
  subst hv1 hv2
  have N1 : Hid (t1.length = ll.length) := n1
  have N2 : Hid (t2.length = ll.length) := n2
  clear n1 n2
  go_enter Tryz.func75, Tryz.ntmps75
  go_wp2
  go_loopw [5] (fun i wr => ∃ k : Nat, k ≤ ll.length ∧ i = .int .i64 k ∧ Below w.heap.size w wr) (fun i _ => ll.length - (intOf i).toNat)
  case atStart => exact ⟨0, Nat.zero_le _, rfl, Below.refl _ _⟩
  case round =>
    obtain ⟨i, hk, rfl, hb⟩ := hrel
    by_cases hlt : i < ll.length
    · have m1 : t1[i]? = some (t1[i]'(by rw [N1.out]; exact hlt)) := List.getElem?_eq_getElem _
      have m2 : t2[i]? = some (t2[i]'(by rw [N2.out]; exact hlt)) := List.getElem?_eq_getElem _
      have r1 := h1.inner i _ _ m1 (List.getElem?_eq_getElem hlt)
      have r2 := h2.inner i _ _ m2 (List.getElem?_eq_getElem hlt)
      obtain ⟨g1, o1, cap1, e1, b1, _, _, q1⟩ := (h1.outer.below hb).at_ m1
      obtain ⟨g2, o2, cap2, e2, b2, _, _, q2⟩ := (h2.outer.below hb).at_ m2
      generalize t1[i]'(by rw [N1.out]; exact hlt) = s1 at m1 r1 q1
      generalize t2[i]'(by rw [N2.out]; exact hlt) = s2 at m2 r2 q2
      injection e1 with e11 e12 e13
      injection e2 with e21 e22 e23
      clear e12 e22
      subst e11 e13 e21 e23
      have z1 : g1 < wr.heap.size := Nat.lt_of_lt_of_le b1 hb.size
      have z0 : w.heap.size ≤ wr.heap.size := hb.size
      have z2 : g2 < wr.heap.size := Nat.lt_of_lt_of_le b2 hb.size
      have p0 : wr.cell? ⟨g1, o1 + i, none⟩ = some (.slice s1.a s1.len s1.cap) := by simpa [FS] using q1 0 _ rfl
      have r0 : wr.cell? ⟨g2, o2 + i, none⟩ = some (.slice s2.a s2.len s2.cap) := by simpa [FS] using q2 0 _ rfl
      have hs1 : ll[i].length ≤ 1073741824 := Nat.le_trans (le_szLL (List.getElem_mem hlt)) hs
      clear q1 q2 m1 m2
      go_wp2
      go_region_held3 (fun w' => w'.cell? ⟨g1, o1 + i, none⟩ = some (.slice s1.a s1.len s1.cap) ∧ w'.cell? ⟨g2, o2 + i, none⟩ = some (.slice s2.a s2.len s2.cap) ∧ g1 < w'.heap.size ∧ g2 < w'.heap.size ∧ Below w.heap.size w w') (first | (go_keep; done) | ((try go_split_ands); refine ⟨?_, ?_, ?_, ?_, ?_⟩; all_goals first | assumption | exact Below.drew (by assumption) | (simp [go_sem, *]; done) | exact below_grow_of (by assumption) (by omega) _ _ | (rw [size_grow]; omega))) ((go_at_call 151; refine (eqQueue_ct _ _ _ _ (rd_up r1 (by go_split_ands; assumption)) (rd_up r2 (by go_split_ands; assumption)) hs1).mono ?_; rintro e w1 ⟨rfl, hb1⟩; obtain ⟨os1, d1, rfl⟩ := below_grows hb1; clear hb1))
      go_wp2
      go_roundw
      case rel => exact ⟨i + 1, by omega, by go_num, by first | assumption | (try go_split_ands; assumption)⟩
      case measure => simp [intOf]; omega
    · go_wp2
      go_ret
      exact ⟨rfl, hb⟩

set_option maxHeartbeats 400000 in
theorem toQueue_ct (w : World) (v : Value) (l : List Op) (h : RdL FOp w w.heap.size v l) (hs : l.length ≤ 1048576) :
    Calls Tryz.prog 143 #[.agg #[v]] w fun e w' => ∃ s : SV, e = .returned (.agg #[.slice s.a s.len s.cap]) ∧ OwL FOp 142 w' s.val l ∧ (∀ g ∈ foot1 s.val, w.heap.size ≤ g) ∧ Below w.heap.size w w' := by
  obtain ⟨A, c, hv, _⟩ := id h
  subst hv
  go_enter Tryz.func143, Tryz.ntmps143
  go_wp2_with fail
  refine (toOpS_ct _ _ l (rd_up h (by repeat (first | exact Below.refl _ _ | refine Below.alloc ?_ (by simp <;> omega) _ | refine below_grow_of ?_ (by simp <;> omega) _ _ | refine Below.drew ?_ | refine below_drewN ?_ _))) hs).mono ?_
  rintro e w1 ⟨rfl, ho, hb1⟩
  obtain ⟨os1, d1, rfl⟩ := below_grows hb1
  clear hb1
  go_wp2
  refine bodyPost_ret (v := .agg #[.slice (some ⟨w.heap.size + 1 + 1 + 1, 0, none⟩) l.length l.length]) (by simp [results, Tryz.results143, go_sem]) rfl ⟨⟨_, _, _⟩, rfl, ?_, ?_, ?_⟩
  · simp only [World.size_alloc] at ho
    refine OwL.regrow ho ?_ ?_ _
    · simp
    · simp [foot1, Value.ownBlock]
  · simp [foot1, Value.ownBlock, SV.val]; omega
  · repeat (first | exact Below.refl _ _ | refine Below.alloc ?_ (by simp <;> omega) _ | refine below_grow_of ?_ (by simp <;> omega) _ _ | refine Below.drew ?_ | refine below_drewN ?_ _)

theorem Tryz.infoQueue : (Tryz.prog.info? 182).map (fun i => (i.zero, i.size, i.bytes)) = some (some (.agg #[.slice none 0 0]), FS.n, 24) := by kernel_rfl
set_option maxHeartbeats 1000000 in
theorem toQueueS_ct (w : World) (v : Value) (t : List SV) (ll : List (List Op)) (h : RdLL FOp w w.heap.size v t ll) (hs : szLL ll ≤ 1048576) :
    Calls Tryz.prog 68 #[v] w fun e w' => ∃ t' : List SV, e = .returned (.slice (some ⟨w.heap.size, 0, none⟩) ll.length ll.length) ∧ OwLL FOp 142 182 w' (.slice (some ⟨w.heap.size, 0, none⟩) ll.length ll.length) t' ll ∧ (∀ g ∈ foot2 (.slice (some ⟨w.heap.size, 0, none⟩) ll.length ll.length) t', w.heap.size ≤ g) ∧ Below w.heap.size w w' := by
  have hs0 : ll.length ≤ 1048576 := Nat.le_trans (Nat.le_add_right _ _) hs
  have hmk := run_make_flat (P := Tryz.prog) FS 66 182 (.agg #[.slice none 0 0]) 24 Tryz.underlying66 Tryz.infoQueue ll.length (by omega) (by omega)
  obtain ⟨A, cap, hv, _⟩ := id h.outer
  have N1 : Hid (t.length = ll.length) := h.len
  rw [h.len] at hv
  subst hv
  go_enter Tryz.func68, Tryz.ntmps68
  go_wp2
  clear hmk
  go_loopw [4] (fun i wr => ∃ k : Nat, k ≤ ll.length ∧ i = .int .i64 k ∧ (∃ t' : List SV, OwLL FOp 142 182 wr (.slice (some ⟨w.heap.size, 0, none⟩) ll.length ll.length) t' (ll.take k ++ List.replicate (ll.length - k) []) ∧ (∀ g ∈ foot2 (.slice (some ⟨w.heap.size, 0, none⟩) ll.length ll.length) t', w.heap.size ≤ g)) ∧ Below w.heap.size w wr) (fun i _ => ll.length - (intOf i).toNat)
  case atStart => exact ⟨0, Nat.zero_le _, rfl, ⟨_, OwLL.made #[.slice none 0 0] rfl ll.length (by simp [maxLen]; omega) w FOp 142 182, foot2_made _ _⟩, (Below.refl _ _).alloc (Nat.le_refl _) _⟩
  case round =>
    obtain ⟨i, hk, rfl, ⟨t', ho, hfo⟩, hb⟩ := hrel
    by_cases hlt : i < ll.length
    · have m1 : t[i]? = some (t[i]'(by rw [N1.out]; exact hlt)) := List.getElem?_eq_getElem _
      have r1 := h.inner i _ _ m1 (List.getElem?_eq_getElem hlt)
      obtain ⟨g1, o1, cap1, e1, b1, _, _, q1⟩ := (h.outer.below hb).at_ m1
      generalize t[i]'(by rw [N1.out]; exact hlt) = s1 at m1 r1 q1
      injection e1 with e11 e12 e13
      clear e12
      subst e11 e13
      have p0 : wr.cell? ⟨g1, o1 + i, none⟩ = some (.slice s1.a s1.len s1.cap) := by simpa [FS] using q1 0 _ rfl
      have hs1 : ll[i].length ≤ 1048576 := Nat.le_trans (le_szLL (List.getElem_mem hlt)) hs
      have hx := upd_get ll [] i hlt
      have hti : i < t'.length := by rw [ho.len]; exact (List.getElem?_eq_some_iff.1 hx).1
      have m2 : t'[i]? = some t'[i] := List.getElem?_eq_getElem hti
      have hz : w.heap.size < wr.heap.size := (World.ownsRow.lt ho.outer _ rfl).2
      have hf := ho.outer.frozen_
      have c0 : wr.cell? ⟨w.heap.size, i, none⟩ = some (.slice t'[i].a t'[i].len t'[i].cap) := by simpa [FS] using ho.outer.cell_ (j := 0) m2 (by decide)
      clear q1 m1 h
      go_wp2_with (go_at_call 143; refine (toQueue_ct _ s1.val ll[i] (rd_up r1 hb) hs1).mono ?_; rintro e w1 ⟨s, rfl, hos, hfs, hb1⟩; obtain ⟨os1, d1, rfl⟩ := below_grows hb1; clear hb1)
      clear hf c0 p0
      go_roundw
      case rel =>
        have e := upd_step ll [] i hlt
        have hsv := (ho.grow_ os1 d1).set_sv m2 hos (fun b hb hm => by have a := hfs b hb; have c := ho.lt b hm; omega)
        rw [e] at hsv
        rw [← setCell_grow wr os1 d1 w.heap.size i (.slice s.a s.len s.cap) hz]
        refine ⟨i + 1, by omega, by go_num, ⟨_, hsv, fun b hb => ?_⟩, ?_⟩
        · rcases foot2_set hb with hb | hb
          · exact hfo b hb
          · have := hfs b hb
            omega
        · exact Below.setCell (below_grow_of hb hb.size _ _) (Nat.le_refl _) _
      case measure => simp [intOf]; omega
    · go_wp2
      go_ret
      obtain rfl : i = ll.length := by omega
      exact ⟨t', rfl, by simpa using ho, hfo, hb⟩

set_option maxHeartbeats 400000 in
theorem szQueue_ct (w : World) (A : Option Addr) (n c : Nat) (k : Nat) (hn : n ≤ 9223372036854775807) (hk : k ≤ 1073741824) :
    Calls Tryz.prog 139 #[.agg #[.slice A n c], .int .i64 k] w fun e w' => e = .returned (.int .i64 (leftOf k n)) ∧ Below w.heap.size w w' := by
  by_cases h : n ≤ k
  · go_enter Tryz.func139, Tryz.ntmps139
    go_wp2
    go_ret
    exact ⟨ret_i64 ((leftOf_pos h).symm), by repeat (first | exact Below.refl _ _ | refine Below.alloc ?_ (by simp <;> omega) _ | refine below_grow_of ?_ (by simp <;> omega) _ _ | refine Below.drew ?_ | refine below_drewN ?_ _)⟩
  · go_enter Tryz.func139, Tryz.ntmps139
    go_wp2
    go_ret
    exact ⟨ret_i64 ((leftOf_neg h).symm), by repeat (first | exact Below.refl _ _ | refine Below.alloc ?_ (by simp <;> omega) _ | refine below_grow_of ?_ (by simp <;> omega) _ _ | refine Below.drew ?_ | refine below_drewN ?_ _)⟩

set_option maxHeartbeats 1000000 in
theorem szQueueS_ct (w : World) (v : Value) (t : List SV) (ll : List (List Op)) (left : Nat) (h : RdLL FOp w w.heap.size v t ll) (hl : left ≤ 1073741824) :
    Calls Tryz.prog 63 #[v, .int .i64 left] w fun e w' => e = .returned (.int .i64 (leftOf left (szLL ll))) ∧ Below w.heap.size w w' := by
  obtain ⟨A, c, hv, q1, q2, _⟩ := id h.outer
  have N1 : Hid (t.length = ll.length) := h.len
  rw [h.len] at hv q1
  have hlt0 : ll.length ≤ 9223372036854775807 := by unfold maxLen at q2; omega
  subst hv
  clear q1 q2
  by_cases hbig : ll.length ≤ left
  case neg =>
    go_enter Tryz.func63, Tryz.ntmps63
    go_wp2
    go_ret
    exact ⟨ret_i64 (leftOf_neg (by unfold szLL; omega)).symm, Below.refl _ _⟩
  go_enter Tryz.func63, Tryz.ntmps63
  go_wp2
  go_loopw [1, 5] (fun q i wr => ∃ i' : Nat, i' ≤ ll.length ∧ i = .int .i64 i' ∧ (∃ q' : Nat, q = .int .i64 q' ∧ q' + ll.length + totLL (ll.take i') = left) ∧ Below w.heap.size w wr) (fun _ i _ => ll.length - (intOf i).toNat)
  case atStart => exact ⟨0, Nat.zero_le _, rfl, ⟨left - ll.length, by go_num, by simp [totLL]; omega⟩, Below.refl _ _⟩
  case round =>
    obtain ⟨i, hi, rfl, ⟨q, rfl, hq⟩, hb⟩ := hrel
    have HQ := Hid.mk_ hq
    clear hq
    by_cases hlt : i < ll.length
    · have m1 : t[i]? = some (t[i]'(by rw [N1.out]; exact hlt)) := List.getElem?_eq_getElem _
      obtain ⟨g1, o1, cap1, e1, b1, _, _, q1⟩ := (h.outer.below hb).at_ m1
      have r1 := h.inner i _ _ m1 (List.getElem?_eq_getElem hlt)
      generalize t[i]'(by rw [N1.out]; exact hlt) = s1 at m1 q1 r1
      injection e1 with e11 e12 e13
      clear e12
      subst e11 e13
      obtain ⟨A', c', hv', u1, u2, _⟩ := r1
      have p0 : wr.cell? ⟨g1, o1 + i, none⟩ = some (.slice A' ll[i].length c') := by
        have := q1 0 _ rfl
        rw [← hv']
        simpa [FS, SV.val] using this
      have hn1 : ll[i].length ≤ 9223372036854775807 := by unfold maxLen at u2; omega
      have ht1 := totLL_take_succ ll i hlt
      have HT : Hid (totLL (ll.take (i + 1)) = totLL (ll.take i) + ll[i].length) := ht1
      have ht2 := totLL_take_le ll (i + 1)
      have hq2 : q ≤ 1073741824 := by have := HQ.out; omega
      have hsz : szLL ll = ll.length + totLL ll := rfl
      have HS := Hid.mk_ hsz
      clear q1 m1 h ht1 hv' hsz
      by_cases hge : ll[i].length ≤ q
      · have e0 := Hid.mk_ (leftOf_pos hge)
        go_wp2_with (go_at_call 139; refine (szQueue_ct _ A' ll[i].length c' q hn1 hq2).mono ?_; rw [e0.out]; rintro e w1 ⟨rfl, hb1⟩; obtain ⟨os1, d1, rfl⟩ := below_grows hb1; clear hb1)
        go_roundw
        case rel => exact ⟨i + 1, by omega, by go_num, ⟨q - ll[i].length, by go_num, by have := HQ.out; rw [HT.out]; omega⟩, below_grow_of hb hb.size _ _⟩
        case measure => simp [intOf]; omega
      · have e0 := Hid.mk_ (leftOf_neg hge)
        go_wp2_with (go_at_call 139; refine (szQueue_ct _ A' ll[i].length c' q hn1 hq2).mono ?_; rw [e0.out]; rintro e w1 ⟨rfl, hb1⟩; obtain ⟨os1, d1, rfl⟩ := below_grows hb1; clear hb1)
        go_ret
        exact ⟨ret_i64 (leftOf_neg (by rw [HS.out]; have := HQ.out; have := HT.out; omega)).symm, below_grow_of hb hb.size _ _⟩
    · go_wp2
      go_ret
      obtain rfl : i = ll.length := by omega
      have hq := HQ.out
      rw [List.take_length] at hq
      exact ⟨ret_i64 (by rw [leftOf_pos (by unfold szLL; unfold totLL at hq; omega)]; unfold szLL; unfold totLL at hq; omega), hb⟩
theorem toQueueS_w (w : World) (K : SV) (t : List SV) (ll : List (List Op)) (h : RdLL FOp w w.heap.size K.val t ll) (hs : szLL ll ≤ 1048576) :
    Calls Tryz.prog 68 #[.slice K.a K.len K.cap] w fun e w' => ∃ (K' : SV) (t' : List SV), e = .returned (.slice K'.a K'.len K'.cap) ∧ OwLL FOp 142 182 w' K'.val t' ll ∧ (∀ g ∈ foot2 K'.val t', w.heap.size ≤ g) ∧ Below w.heap.size w w' :=
  (toQueueS_ct w _ t ll h hs).mono fun _ _ ⟨t', a, b, c, d⟩ => ⟨⟨_, _, _⟩, t', a, b, c, d⟩
theorem eqQueueS_w (w : World) (K1 : SV) (t1 : List SV) (K2 : SV) (t2 : List SV) (ll : List (List Op)) (h1 : RdLL FOp w w.heap.size K1.val t1 ll) (h2 : RdLL FOp w w.heap.size K2.val t2 ll) (hs : szLL ll ≤ 1073741824) :
    Calls Tryz.prog 75 #[.slice K1.a K1.len K1.cap, .slice K2.a K2.len K2.cap] w fun e w' => e = .returned (.bool true) ∧ Below w.heap.size w w' := eqQueueS_ct w _ _ t1 t2 ll h1 h2 hs
theorem szQueueS_w (w : World) (K : SV) (t : List SV) (ll : List (List Op)) (k : Nat) (h : RdLL FOp w w.heap.size K.val t ll) (hk : k ≤ 1073741824) :
    Calls Tryz.prog 63 #[.slice K.a K.len K.cap, .int .i64 k] w fun e w' => e = .returned (.int .i64 (leftOf k (szLL ll))) ∧ Below w.heap.size w w' := szQueueS_ct w _ t ll k h hk
end Go.Proofs.YtkldapdpaldbgaaGreat
namespace Go.Proofs.YtkldapdpaldbgaaGreat
open Go.RowKit

set_option maxHeartbeats 2000000 in
theorem toEv_ct (a0 a1 a2 a3 a4 a5 a6 : Int) (w : World) : Calls Tryz.prog 144 #[.agg #[.int .i64 a0, .int .i64 a1, .int .i64 a2, .int .i64 a3, .int .i64 a4, .int .i64 a5, .int .i64 a6]] w fun e w' => e = .returned (.agg #[.int .i64 a0, .int .i64 a1, .int .i64 a2, .int .i64 a3, .int .i64 a4, .int .i64 a5, .int .i64 a6]) ∧ Below w.heap.size w w' := by
  go_enter Tryz.func144, Tryz.ntmps144
  go_wp2
  refine bodyPost_ret (v := .agg #[.int .i64 a0, .int .i64 a1, .int .i64 a2, .int .i64 a3, .int .i64 a4, .int .i64 a5, .int .i64 a6]) (by simp [results, Tryz.results144, go_sem]) rfl ⟨rfl, ?_⟩
  repeat (first | exact Below.refl _ _ | refine Below.alloc ?_ (by simp <;> omega) _ | refine below_grow_of ?_ (by simp <;> omega) _ _ | refine Below.drew ?_ | refine below_drewN ?_ _)

set_option maxHeartbeats 2000000 in
theorem eqEv_ct (a0 a1 a2 a3 a4 a5 a6 : Int) (w : World) : Calls Tryz.prog 152 #[.agg #[.int .i64 a0, .int .i64 a1, .int .i64 a2, .int .i64 a3, .int .i64 a4, .int .i64 a5, .int .i64 a6], .agg #[.int .i64 a0, .int .i64 a1, .int .i64 a2, .int .i64 a3, .int .i64 a4, .int .i64 a5, .int .i64 a6]] w fun e w' => e = .returned (.bool true) ∧ Below w.heap.size w w' := by
  go_enter Tryz.func152, Tryz.ntmps152
  go_wp2
  go_ret
  exact ⟨rfl, by repeat (first | exact Below.refl _ _ | refine Below.alloc ?_ (by simp <;> omega) _ | refine below_grow_of ?_ (by simp <;> omega) _ _ | refine Below.drew ?_ | refine below_drewN ?_ _)⟩

theorem Tryz.infoEv : (Tryz.prog.info? 185).map (fun i => (i.zero, i.size, i.bytes)) = some (some (.agg #[.int .i64 0, .int .i64 0, .int .i64 0, .int .i64 0, .int .i64 0, .int .i64 0, .int .i64 0]), FEv.n, 56) := by kernel_rfl
set_option maxHeartbeats 1000000 in
theorem toEvS_ct (w : World) (v : Value) (l : List Ev) (h : RdL FEv w w.heap.size v l) (hs : l.length ≤ 1048576) :
    Calls Tryz.prog 69 #[v] w fun e w' => e = .returned (.slice (some ⟨w.heap.size, 0, none⟩) l.length l.length) ∧ OwL FEv 185 w' (.slice (some ⟨w.heap.size, 0, none⟩) l.length l.length) l ∧ Below w.heap.size w w' := by
  have hmk := run_make_flat (P := Tryz.prog) FEv 67 185 (.agg #[.int .i64 0, .int .i64 0, .int .i64 0, .int .i64 0, .int .i64 0, .int .i64 0, .int .i64 0]) 56 Tryz.underlying67 Tryz.infoEv l.length (by omega) (by omega)
  obtain ⟨A, cap, hv, _⟩ := id h
  subst hv
  go_enter Tryz.func69, Tryz.ntmps69
  go_wp2
  clear hmk
  go_loopw [4] (fun i wr => ∃ k : Nat, k ≤ l.length ∧ i = .int .i64 k ∧ OwL FEv 185 wr (.slice (some ⟨w.heap.size, 0, none⟩) l.length l.length) (l.take k ++ List.replicate (l.length - k) ⟨0, 0, 0, 0, 0, 0, 0⟩) ∧ Below w.heap.size w wr) (fun i _ => l.length - (intOf i).toNat)
  case atStart => exact ⟨0, Nat.zero_le _, rfl, OwL.made FEv #[.int .i64 0, .int .i64 0, .int .i64 0, .int .i64 0, .int .i64 0, .int .i64 0, .int .i64 0] rfl l.length (by simp [maxLen]; omega) w 185, (Below.refl _ _).alloc (Nat.le_refl _) _⟩
  case round =>
    obtain ⟨i, hk, rfl, ho, hb⟩ := hrel
    by_cases hlt : i < l.length
    · obtain ⟨g, off, cap', he, hg, _, _, hc⟩ := (h.below hb).at_ (List.getElem?_eq_getElem hlt)
      injection he with he1 he2 he3
      subst he1 he3
      have p0 : wr.cell? ⟨g, off + i * 7, none⟩ = some (.int .i64 l[i].Kind) := hc 0 _ rfl
      have p1 : wr.cell? ⟨g, off + i * 7 + 1, none⟩ = some (.int .i64 l[i].Who) := hc 1 _ rfl
      have p2 : wr.cell? ⟨g, off + i * 7 + 2, none⟩ = some (.int .i64 l[i].Serial) := hc 2 _ rfl
      have p3 : wr.cell? ⟨g, off + i * 7 + 3, none⟩ = some (.int .i64 l[i].Cell) := hc 3 _ rfl
      have p4 : wr.cell? ⟨g, off + i * 7 + 4, none⟩ = some (.int .i64 l[i].Handle) := hc 4 _ rfl
      have p5 : wr.cell? ⟨g, off + i * 7 + 5, none⟩ = some (.int .i64 l[i].Val) := hc 5 _ rfl
      have p6 : wr.cell? ⟨g, off + i * 7 + 6, none⟩ = some (.int .i64 l[i].Code) := hc 6 _ rfl
      have hx := upd_get l ⟨0, 0, 0, 0, 0, 0, 0⟩ i hlt
      have hz : w.heap.size < wr.heap.size := (World.ownsRow.lt ho _ rfl).2
      have hf := ho.frozen_
      have c0 : wr.cell? ⟨w.heap.size, i * 7, none⟩ = some (.int .i64 0) := ho.cell_ (j := 0) hx (by decide)
      have c1 : wr.cell? ⟨w.heap.size, i * 7 + 1, none⟩ = some (.int .i64 0) := ho.cell_ (j := 1) hx (by decide)
      have c2 : wr.cell? ⟨w.heap.size, i * 7 + 2, none⟩ = some (.int .i64 0) := ho.cell_ (j := 2) hx (by decide)
      have c3 : wr.cell? ⟨w.heap.size, i * 7 + 3, none⟩ = some (.int .i64 0) := ho.cell_ (j := 3) hx (by decide)
      have c4 : wr.cell? ⟨w.heap.size, i * 7 + 4, none⟩ = some (.int .i64 0) := ho.cell_ (j := 4) hx (by decide)
      have c5 : wr.cell? ⟨w.heap.size, i * 7 + 5, none⟩ = some (.int .i64 0) := ho.cell_ (j := 5) hx (by decide)
      have c6 : wr.cell? ⟨w.heap.size, i * 7 + 6, none⟩ = some (.int .i64 0) := ho.cell_ (j := 6) hx (by decide)
      clear hc
      go_wp2_with (go_at_call 144; refine (toEv_ct _ _ _ _ _ _ _ _).mono ?_; rintro e w1 ⟨rfl, hb1⟩; obtain ⟨os1, d1, rfl⟩ := below_grows hb1; clear hb1)
      clear hf c0 p0 c1 p1 c2 p2 c3 p3 c4 p4 c5 p5 c6 p6
      go_roundw
      case rel =>
        have s0 := ho.set_ (j := 0) (y := (⟨l[i].Kind, 0, 0, 0, 0, 0, 0⟩ : Ev)) (u := .int .i64 l[i].Kind) hx (by decide) rfl
        have s1 := s0.set_ (j := 1) (y := (⟨l[i].Kind, l[i].Who, 0, 0, 0, 0, 0⟩ : Ev)) (u := .int .i64 l[i].Who) (set_get (⟨l[i].Kind, 0, 0, 0, 0, 0, 0⟩ : Ev) hx) (by decide) rfl
        have s2 := s1.set_ (j := 2) (y := (⟨l[i].Kind, l[i].Who, l[i].Serial, 0, 0, 0, 0⟩ : Ev)) (u := .int .i64 l[i].Serial) (set_get (⟨l[i].Kind, l[i].Who, 0, 0, 0, 0, 0⟩ : Ev) (set_get (⟨l[i].Kind, 0, 0, 0, 0, 0, 0⟩ : Ev) hx)) (by decide) rfl
        have s3 := s2.set_ (j := 3) (y := (⟨l[i].Kind, l[i].Who, l[i].Serial, l[i].Cell, 0, 0, 0⟩ : Ev)) (u := .int .i64 l[i].Cell) (set_get (⟨l[i].Kind, l[i].Who, l[i].Serial, 0, 0, 0, 0⟩ : Ev) (set_get (⟨l[i].Kind, l[i].Who, 0, 0, 0, 0, 0⟩ : Ev) (set_get (⟨l[i].Kind, 0, 0, 0, 0, 0, 0⟩ : Ev) hx))) (by decide) rfl
        have s4 := s3.set_ (j := 4) (y := (⟨l[i].Kind, l[i].Who, l[i].Serial, l[i].Cell, l[i].Handle, 0, 0⟩ : Ev)) (u := .int .i64 l[i].Handle) (set_get (⟨l[i].Kind, l[i].Who, l[i].Serial, l[i].Cell, 0, 0, 0⟩ : Ev) (set_get (⟨l[i].Kind, l[i].Who, l[i].Serial, 0, 0, 0, 0⟩ : Ev) (set_get (⟨l[i].Kind, l[i].Who, 0, 0, 0, 0, 0⟩ : Ev) (set_get (⟨l[i].Kind, 0, 0, 0, 0, 0, 0⟩ : Ev) hx)))) (by decide) rfl
        have s5 := s4.set_ (j := 5) (y := (⟨l[i].Kind, l[i].Who, l[i].Serial, l[i].Cell, l[i].Handle, l[i].Val, 0⟩ : Ev)) (u := .int .i64 l[i].Val) (set_get (⟨l[i].Kind, l[i].Who, l[i].Serial, l[i].Cell, l[i].Handle, 0, 0⟩ : Ev) (set_get (⟨l[i].Kind, l[i].Who, l[i].Serial, l[i].Cell, 0, 0, 0⟩ : Ev) (set_get (⟨l[i].Kind, l[i].Who, l[i].Serial, 0, 0, 0, 0⟩ : Ev) (set_get (⟨l[i].Kind, l[i].Who, 0, 0, 0, 0, 0⟩ : Ev) (set_get (⟨l[i].Kind, 0, 0, 0, 0, 0, 0⟩ : Ev) hx))))) (by decide) rfl
        have s6 := s5.set_ (j := 6) (y := (⟨l[i].Kind, l[i].Who, l[i].Serial, l[i].Cell, l[i].Handle, l[i].Val, l[i].Code⟩ : Ev)) (u := .int .i64 l[i].Code) (set_get (⟨l[i].Kind, l[i].Who, l[i].Serial, l[i].Cell, l[i].Handle, l[i].Val, 0⟩ : Ev) (set_get (⟨l[i].Kind, l[i].Who, l[i].Serial, l[i].Cell, l[i].Handle, 0, 0⟩ : Ev) (set_get (⟨l[i].Kind, l[i].Who, l[i].Serial, l[i].Cell, 0, 0, 0⟩ : Ev) (set_get (⟨l[i].Kind, l[i].Who, l[i].Serial, 0, 0, 0, 0⟩ : Ev) (set_get (⟨l[i].Kind, l[i].Who, 0, 0, 0, 0, 0⟩ : Ev) (set_get (⟨l[i].Kind, 0, 0, 0, 0, 0, 0⟩ : Ev) hx)))))) (by decide) rfl
        simp only [List.set_set] at s6
        have e := upd_step l ⟨0, 0, 0, 0, 0, 0, 0⟩ i hlt
        refine ⟨i + 1, by omega, by go_num, ?_, ?_⟩
        · rw [← e]
          first | exact OwL.grow_ s6 _ _ | exact s6
        · first | exact below_grow_of (Below.setCell (Below.setCell (Below.setCell (Below.setCell (Below.setCell (Below.setCell (Below.setCell (hb) (by simp) _) (by simp) _) (by simp) _) (by simp) _) (by simp) _) (by simp) _) (by simp) _) (by simp; omega) _ _ | exact (Below.setCell (Below.setCell (Below.setCell (Below.setCell (Below.setCell (Below.setCell (Below.setCell (hb) (by simp) _) (by simp) _) (by simp) _) (by simp) _) (by simp) _) (by simp) _) (by simp) _)
      case measure => simp [intOf]; omega
    · go_wp2
      go_ret
      obtain rfl : i = l.length := by omega
      exact ⟨rfl, by simpa using ho, hb⟩

set_option maxHeartbeats 1000000 in
theorem eqEvS_ct (w : World) (v1 v2 : Value) (l : List Ev) (h1 : RdL FEv w w.heap.size v1 l) (h2 : RdL FEv w w.heap.size v2 l) (hs : l.length ≤ 1073741824) :
    Calls Tryz.prog 76 #[v1, v2] w fun e w' => e = .returned (.bool true) ∧ Below w.heap.size w w' := by
  obtain ⟨A1, c1, hv1, _⟩ := id h1
  obtain ⟨A2, c2, hv2, _⟩ := id h2
  subst hv1 hv2
  go_enter Tryz.func76, Tryz.ntmps76
  go_wp2
  go_loopw [5] (fun i wr => ∃ k : Nat, k ≤ l.length ∧ i = .int .i64 k ∧ Below w.heap.size w wr) (fun i _ => l.length - (intOf i).toNat)
  case atStart => exact ⟨0, Nat.zero_le _, rfl, Below.refl _ _⟩
  case round =>
    obtain ⟨i, hk, rfl, hb⟩ := hrel
    by_cases hlt : i < l.length
    · obtain ⟨g1, o1, cap1, e1, b1, _, _, q1⟩ := (h1.below hb).at_ (List.getElem?_eq_getElem hlt)
      obtain ⟨g2, o2, cap2, e2, b2, _, _, q2⟩ := (h2.below hb).at_ (List.getElem?_eq_getElem hlt)
      injection e1 with e11 _ e13
      injection e2 with e21 _ e23
      subst e11 e13 e21 e23
      have z1 : g1 < wr.heap.size := Nat.lt_of_lt_of_le b1 hb.size
      have z0 : w.heap.size ≤ wr.heap.size := hb.size
      have z2 : g2 < wr.heap.size := Nat.lt_of_lt_of_le b2 hb.size
      have p0 : wr.cell? ⟨g1, o1 + i * 7, none⟩ = some (.int .i64 l[i].Kind) := q1 0 _ rfl
      have p1 : wr.cell? ⟨g1, o1 + i * 7 + 1, none⟩ = some (.int .i64 l[i].Who) := q1 1 _ rfl
      have p2 : wr.cell? ⟨g1, o1 + i * 7 + 2, none⟩ = some (.int .i64 l[i].Serial) := q1 2 _ rfl
      have p3 : wr.cell? ⟨g1, o1 + i * 7 + 3, none⟩ = some (.int .i64 l[i].Cell) := q1 3 _ rfl
      have p4 : wr.cell? ⟨g1, o1 + i * 7 + 4, none⟩ = some (.int .i64 l[i].Handle) := q1 4 _ rfl
      have p5 : wr.cell? ⟨g1, o1 + i * 7 + 5, none⟩ = some (.int .i64 l[i].Val) := q1 5 _ rfl
      have p6 : wr.cell? ⟨g1, o1 + i * 7 + 6, none⟩ = some (.int .i64 l[i].Code) := q1 6 _ rfl
      have r0 : wr.cell? ⟨g2, o2 + i * 7, none⟩ = some (.int .i64 l[i].Kind) := q2 0 _ rfl
      have r1 : wr.cell? ⟨g2, o2 + i * 7 + 1, none⟩ = some (.int .i64 l[i].Who) := q2 1 _ rfl
      have r2 : wr.cell? ⟨g2, o2 + i * 7 + 2, none⟩ = some (.int .i64 l[i].Serial) := q2 2 _ rfl
      have r3 : wr.cell? ⟨g2, o2 + i * 7 + 3, none⟩ = some (.int .i64 l[i].Cell) := q2 3 _ rfl
      have r4 : wr.cell? ⟨g2, o2 + i * 7 + 4, none⟩ = some (.int .i64 l[i].Handle) := q2 4 _ rfl
      have r5 : wr.cell? ⟨g2, o2 + i * 7 + 5, none⟩ = some (.int .i64 l[i].Val) := q2 5 _ rfl
      have r6 : wr.cell? ⟨g2, o2 + i * 7 + 6, none⟩ = some (.int .i64 l[i].Code) := q2 6 _ rfl
      clear q1 q2
      go_wp2
      go_region_held3 (fun w' => w'.cell? ⟨g1, o1 + i * 7, none⟩ = some (.int .i64 l[i].Kind) ∧ w'.cell? ⟨g1, o1 + i * 7 + 1, none⟩ = some (.int .i64 l[i].Who) ∧ w'.cell? ⟨g1, o1 + i * 7 + 2, none⟩ = some (.int .i64 l[i].Serial) ∧ w'.cell? ⟨g1, o1 + i * 7 + 3, none⟩ = some (.int .i64 l[i].Cell) ∧ w'.cell? ⟨g1, o1 + i * 7 + 4, none⟩ = some (.int .i64 l[i].Handle) ∧ w'.cell? ⟨g1, o1 + i * 7 + 5, none⟩ = some (.int .i64 l[i].Val) ∧ w'.cell? ⟨g1, o1 + i * 7 + 6, none⟩ = some (.int .i64 l[i].Code) ∧ w'.cell? ⟨g2, o2 + i * 7, none⟩ = some (.int .i64 l[i].Kind) ∧ w'.cell? ⟨g2, o2 + i * 7 + 1, none⟩ = some (.int .i64 l[i].Who) ∧ w'.cell? ⟨g2, o2 + i * 7 + 2, none⟩ = some (.int .i64 l[i].Serial) ∧ w'.cell? ⟨g2, o2 + i * 7 + 3, none⟩ = some (.int .i64 l[i].Cell) ∧ w'.cell? ⟨g2, o2 + i * 7 + 4, none⟩ = some (.int .i64 l[i].Handle) ∧ w'.cell? ⟨g2, o2 + i * 7 + 5, none⟩ = some (.int .i64 l[i].Val) ∧ w'.cell? ⟨g2, o2 + i * 7 + 6, none⟩ = some (.int .i64 l[i].Code) ∧ g1 < w'.heap.size ∧ g2 < w'.heap.size ∧ Below w.heap.size w w') (first | (go_keep; done) | ((try go_split_ands); refine ⟨?_, ?_, ?_, ?_, ?_, ?_, ?_, ?_, ?_, ?_, ?_, ?_, ?_, ?_, ?_, ?_, ?_⟩; all_goals first | assumption | exact Below.drew (by assumption) | (simp [go_sem, *]; done) | exact below_grow_of (by assumption) (by omega) _ _ | (rw [size_grow]; omega))) ((go_at_call 152; refine (eqEv_ct _ _ _ _ _ _ _ _).mono ?_; rintro e w1 ⟨rfl, hb1⟩; obtain ⟨os1, d1, rfl⟩ := below_grows hb1; clear hb1))
      go_wp2
      go_roundw
      case rel => exact ⟨i + 1, by omega, by go_num, by first | assumption | (try go_split_ands; assumption)⟩
      case measure => simp [intOf]; omega
    · go_wp2
      go_ret
      exact ⟨rfl, hb⟩

set_option maxHeartbeats 400000 in
theorem szEvS_ct (w : World) (A : Option Addr) (n c : Nat) (k : Nat) (hn : n ≤ 9223372036854775807) (hk : k ≤ 1073741824) :
    Calls Tryz.prog 64 #[.slice A n c, .int .i64 k] w fun e w' => e = .returned (.int .i64 (leftOf k n)) ∧ Below w.heap.size w w' := by
  by_cases h : n ≤ k
  · go_enter Tryz.func64, Tryz.ntmps64
    go_wp2
    go_ret
    exact ⟨ret_i64 (leftOf_pos h).symm, by repeat (first | exact Below.refl _ _ | refine Below.alloc ?_ (by simp <;> omega) _ | refine below_grow_of ?_ (by simp <;> omega) _ _ | refine Below.drew ?_ | refine below_drewN ?_ _)⟩
  · go_enter Tryz.func64, Tryz.ntmps64
    go_wp2
    go_ret
    exact ⟨ret_i64 (leftOf_neg h).symm, by repeat (first | exact Below.refl _ _ | refine Below.alloc ?_ (by simp <;> omega) _ | refine below_grow_of ?_ (by simp <;> omega) _ _ | refine Below.drew ?_ | refine below_drewN ?_ _)⟩

theorem toEvS_w (w : World) (K : SV) (l : List Ev) (h : RdL FEv w w.heap.size K.val l) (hs : l.length ≤ 1048576) :
    Calls Tryz.prog 69 #[.slice K.a K.len K.cap] w fun e w' => ∃ K' : SV, e = .returned (.slice K'.a K'.len K'.cap) ∧ OwL FEv 185 w' K'.val l ∧ (∀ g ∈ foot1 K'.val, w.heap.size ≤ g) ∧ Below w.heap.size w w' :=
  (toEvS_ct w _ l h hs).mono fun _ _ ⟨a, b, c⟩ => ⟨⟨_, _, _⟩, a, b, fun g hg => by have := mem_foot1.1 hg; simp [SV.val, Value.ownBlock] at this; omega, c⟩
theorem eqEvS_w (w : World) (K1 K2 : SV) (l : List Ev) (h1 : RdL FEv w w.heap.size K1.val l) (h2 : RdL FEv w w.heap.size K2.val l) (hs : l.length ≤ 1073741824) :
    Calls Tryz.prog 76 #[.slice K1.a K1.len K1.cap, .slice K2.a K2.len K2.cap] w fun e w' => e = .returned (.bool true) ∧ Below w.heap.size w w' := eqEvS_ct w _ _ l h1 h2 hs
theorem szEvS_w (w : World) (K : SV) (l : List Ev) (k : Nat) (h : RdL FEv w w.heap.size K.val l) (hk : k ≤ 1073741824) :
    Calls Tryz.prog 64 #[.slice K.a K.len K.cap, .int .i64 k] w fun e w' => e = .returned (.int .i64 (leftOf k l.length)) ∧ Below w.heap.size w w' := by
  have hl := RdL.len_ (show RdL FEv w w.heap.size (.slice K.a K.len K.cap) l from h)
  rw [← hl.1]
  exact szEvS_ct w K.a K.len K.cap k hl.2 hk
end Go.Proofs.YtkldapdpaldbgaaGreat
namespace Go.Proofs.YtkldapdpaldbgaaGreat
open Go.RowKit

variable {α : Type} {T : FT α}
theorem results_cell_of {P : Program} {fn : Func} {p : Tmp} {ty : TypeId} {tmps : Array Value} {w : World} {ad : Addr} {v : Value} (h : fn.results = #[.cell p ty]) (hp : tmps.getD p undef = .pointer (some ad)) (hl : (loadVar ty ad).run P w = .ok v w) : (results fn tmps).run P w = .ok v w := by
  have hp' : tmps[p]?.getD undef = .pointer (some ad) := by simpa using hp
  simp only [results, h]
  simp [hp', asAddr, hl]
theorem Below.setCells {B : Nat} {a : World} {b : Nat} (hb : B ≤ b) : ∀ (vs : List Value) (o : Nat) {w : World}, Below B a w → Below B a (w.setCells b o vs)
  | [], _, _, h => h
  | v :: r, o, _, h => Below.setCells hb r (o + 1) (h.setCell (p := ⟨b, o, none⟩) hb v)
theorem size_setCells_ (b : Nat) : ∀ (vs : List Value) (o : Nat) (w : World), (w.setCells b o vs).heap.size = w.heap.size
  | [], _, _ => rfl
  | v :: r, o, w => by rw [World.setCells, size_setCells_ b r (o + 1)]; simp
theorem Chg.setCells {F : List Nat} {w : World} {b : Nat} (hb : b ∈ F) : ∀ (vs : List Value) (o : Nat) {w' : World}, Chg F w w' → Chg F w (w'.setCells b o vs)
  | [], _, _, h => h
  | v :: r, o, _, h => Chg.setCells hb r (o + 1) (h.set_ hb v)
/-- a list, some of its places from o on put anew -/
def putL (xs : List Value) (o : Nat) : List Value → List Value
  | [] => xs
  | v :: r => putL (xs.set o v) (o + 1) r
theorem putL_length (vs : List Value) : ∀ (xs : List Value) (o : Nat), (putL xs o vs).length = xs.length := by
  induction vs with
  | nil => intro xs o; rfl
  | cons v r ih => intro xs o; show (putL (xs.set o v) (o + 1) r).length = _; rw [ih]; simp
theorem putL_get (vs : List Value) : ∀ (xs : List Value) (o i : Nat), o + vs.length ≤ xs.length → (putL xs o vs)[i]? = if o ≤ i ∧ i < o + vs.length then vs[i - o]? else xs[i]? := by
  induction vs with
  | nil => intro xs o i _; rw [if_neg (by simp <;> omega)]; rfl
  | cons v r ih =>
    intro xs o i h
    simp only [List.length_cons] at h
    show (putL (xs.set o v) (o + 1) r)[i]? = _
    rw [ih _ _ _ (by simp <;> omega)]
    by_cases h1 : i = o
    · subst h1
      rw [if_neg (by omega), if_pos (by simp), Nat.sub_self, List.getElem?_set, if_pos rfl, if_pos (by omega)]
      rfl
    · by_cases h2 : o + 1 ≤ i ∧ i < o + 1 + r.length
      · rw [if_pos h2, if_pos (by simp only [List.length_cons]; omega), show i - o = (i - (o + 1)) + 1 by omega]
        rfl
      · rw [if_neg h2, if_neg (by simp only [List.length_cons]; omega), List.getElem?_set, if_neg (fun e => h1 e.symm)]
theorem ownsRow_putL {e : TypeId} {g n c sz : Nat} (vs : List Value) : ∀ (o : Nat) (w : World) (xs : List Value), w.ownsRow 0 e sz (.slice (some ⟨g, 0, none⟩) n c) n xs → (w.setCells g o vs).ownsRow 0 e sz (.slice (some ⟨g, 0, none⟩) n c) n (putL xs o vs) := by
  induction vs with
  | nil => intro o w xs h; exact h
  | cons v r ih => intro o w xs h; exact ih (o + 1) _ _ (World.ownsRow.stored (w := w) (g := g) h o v).1
theorem flat_putL (l : List α) (k : Nat) (x y : α) (hx : l[k]? = some x) : flat T (l.set k y) = putL (flat T l) (k * T.n) (T.enc y) := by
  have hk : k < l.length := (List.getElem?_eq_some_iff.1 hx).1
  have hle : k * T.n + T.n ≤ l.length * T.n := by rw [← Nat.succ_mul]; exact Nat.mul_le_mul_right _ hk
  apply List.ext_getElem?
  intro i
  rw [putL_get _ _ _ _ (by rw [T.len, length_flat]; exact hle), T.len]
  by_cases hi : i < l.length * T.n
  · have hp := T.pos
    have hm : i % T.n < T.n := Nat.mod_lt _ hp
    have hd : i / T.n < l.length := by rw [Nat.div_lt_iff_lt_mul hp]; exact hi
    have he : i / T.n * T.n + i % T.n = i := by rw [Nat.mul_comm]; exact Nat.div_add_mod i T.n
    by_cases hq : i / T.n = k
    · have h1 : (l.set k y)[i / T.n]? = some y := by rw [hq]; simp [hk]
      rw [← he, flat_get T _ _ _ y h1 hm, if_pos (by rw [hq]; omega), hq]
      congr 1
      omega
    · have h1 : (l.set k y)[i / T.n]? = some l[i / T.n] := by rw [List.getElem?_set, if_neg (fun e => hq e.symm)]; exact List.getElem?_eq_getElem hd
      have hne : ¬ (k * T.n ≤ i ∧ i < k * T.n + T.n) := by
        rintro ⟨a, b⟩
        apply hq
        rw [← Nat.succ_mul] at b
        exact Nat.le_antisymm (Nat.le_of_lt_succ ((Nat.div_lt_iff_lt_mul hp).2 b)) ((Nat.le_div_iff_mul_le hp).2 a)
      rw [if_neg hne, ← he, flat_get T _ _ _ _ h1 hm, flat_get T l _ _ _ (List.getElem?_eq_getElem hd) hm]
  · rw [List.getElem?_eq_none (by rw [length_flat, List.length_set]; omega), if_neg (by omega), List.getElem?_eq_none (by rw [length_flat]; omega)]
/-- A whole element stored. -/
theorem OwL.setRow {e : TypeId} {w : World} {l : List α} {g n c : Nat} (h : OwL T e w (.slice (some ⟨g, 0, none⟩) n c) l) {k : Nat} {x y : α} (hx : l[k]? = some x) :
    OwL T e (w.setCells g (k * T.n) (T.enc y)) (.slice (some ⟨g, 0, none⟩) n c) (l.set k y) := by
  obtain rfl := h.len_eq
  have hs := ownsRow_putL (g := g) (T.enc y) (k * T.n) w _ h
  rw [← flat_putL l k x y hx] at hs
  unfold OwL
  rw [List.length_set]
  exact hs
/-- A whole element's cells are there, and may be written. -/
theorem OwL.there_ {e : TypeId} {w : World} {l : List α} {g n c : Nat} (h : OwL T e w (.slice (some ⟨g, 0, none⟩) n c) l) {k : Nat} (hk : k < l.length) : w.there g (k * T.n) T.n := fun j hj => by
  have h1 := h.cell_ (j := j) (List.getElem?_eq_getElem hk) hj
  refine ⟨?_, h.frozen_ _⟩
  rw [h1]
  rw [List.getElem?_eq_getElem (by rw [T.len]; exact hj)]
  rfl
/-- A whole element's cells, as a range. -/
theorem RdL.range_ {w : World} {B : Nat} {v : Value} {l : List α} (h : RdL T w B v l) {k : Nat} {x : α} (hx : l[k]? = some x) :
    ∃ g off cap, v = .slice (some ⟨g, off, none⟩) l.length cap ∧ g < B ∧ l.length ≤ cap ∧ cap ≤ maxLen ∧ w.rangeAt g (off + k * T.n) (T.enc x) := by
  obtain ⟨g, off, cap, hv, hg, h1, h2, hc⟩ := h.at_ hx
  exact ⟨g, off, cap, hv, hg, h1, h2, fun j u hu => by rw [Nat.add_assoc]; exact hc j u hu⟩
theorem OwL.range_ {e : TypeId} {w : World} {l : List α} {g n c : Nat} (h : OwL T e w (.slice (some ⟨g, 0, none⟩) n c) l) {k : Nat} {x : α} (hx : l[k]? = some x) : w.rangeAt g (k * T.n) (T.enc x) := fun j u hu => by
  have hj : j < T.n := by have := (List.getElem?_eq_some_iff.1 hu).1; rwa [T.len] at this
  rw [h.cell_ hx hj, hu]
def row? (W : World) (g o n : Nat) : Option (List Value) :=
  if ((List.range n).all fun j => (W.cell? ⟨g, o + j, none⟩).isSome) = true then some ((List.range n).map fun j => (W.cell? ⟨g, o + j, none⟩).getD undef) else none
theorem row?_iff {W : World} {g o n : Nat} {cs : List Value} : row? W g o n = some cs ↔ (cs.length = n ∧ W.rangeAt g o cs) := by
  unfold row?
  constructor
  · intro h
    split at h
    · rename_i hall
      injection h with h
      subst h
      refine ⟨by simp, fun j v hv => ?_⟩
      have hj : j < n := by have := (List.getElem?_eq_some_iff.1 hv).1; simpa using this
      have hs := List.all_eq_true.1 hall j (List.mem_range.2 hj)
      obtain ⟨x, hx⟩ := Option.isSome_iff_exists.1 hs
      simp [hj, hx] at hv
      rw [hx, hv]
    · cases h
  · rintro ⟨h1, h2⟩
    have hc : ∀ j, (hj : j < n) → W.cell? ⟨g, o + j, none⟩ = some (cs[j]'(by omega)) := fun j hj => h2 j _ (List.getElem?_eq_getElem (by omega))
    rw [if_pos (List.all_eq_true.2 fun j hj => by rw [hc j (List.mem_range.1 hj)]; rfl)]
    congr 1
    apply List.ext_getElem
    · simp [h1]
    · intro i hi1 hi2
      have hi : i < n := by omega
      simp [hc i hi]
theorem row?_of {W : World} {g o n : Nat} {cs : List Value} (h : W.rangeAt g o cs) (hn : cs.length = n) : row? W g o n = some cs := row?_iff.2 ⟨hn, h⟩
theorem row?_block {w w' : World} {g : Nat} (h : w'.heap[g]? = w.heap[g]?) (o n : Nat) : row? w' g o n = row? w g o n := by
  have e : ∀ j, w'.cell? ⟨g, o + j, none⟩ = w.cell? ⟨g, o + j, none⟩ := fun j => by simp [World.cell?, h]
  simp [row?, e]
@[go_sem] theorem row?_drew (w : World) (g o n : Nat) : row? w.drew g o n = row? w g o n := row?_block rfl o n
@[go_sem] theorem row?_drewN (w : World) (k g o n : Nat) : row? (w.drewN k) g o n = row? w g o n := row?_block rfl o n
theorem row?_grow {w : World} {os : List Obj} {d : Nat} {g : Nat} (hg : g < w.heap.size) (o n : Nat) : row? (grow w os d) g o n = row? w g o n := row?_block (heap_grow w os d g hg) o n
theorem row?_alloc {w : World} {ob : Obj} {g : Nat} (hg : g < w.heap.size) (o n : Nat) : row? (w.alloc ob) g o n = row? w g o n := row?_block (Below.heap_alloc w ob g hg) o n
theorem row?_below {w w' : World} {B g : Nat} (hb : Below B w w') (hg : g < B) (o n : Nat) : row? w' g o n = row? w g o n := row?_block (hb.block g hg) o n
theorem row?_other {w : World} {g g' i : Nat} {v : Value} (hn : g' ≠ g) (o n : Nat) : row? (w.setCell ⟨g', i, none⟩ v) g o n = row? w g o n := row?_block (Below.heap_setCell _ _ _ _ (fun e => hn e.symm)) o n
/-- a whole element's load, as the walk meets it -/
def loadRes (P : Program) (ty : TypeId) (v : Value) (w : World) : Result Next := ((Instr.loadAt ty v).run P w).andThen fun u w' => .ok (.value u) w'
def stuckLoad (P : Program) (ty : TypeId) (W : World) (g o : Nat) : Result Next := loadRes P ty (.pointer (some ⟨g, o, none⟩)) W
theorem exec_load {P : Program} (ty : TypeId) (ρ : Operand → Value) (d : Option Tmp) (x : Operand) (t : TypeId) (p : String) (af : Array Edge) (g : Option (Nat × Bool)) (w : World) : (execOp ρ ⟨d, .load ty x, t, p, af, g⟩).run P w = loadRes P ty (ρ x) w := by
  simp [execOp, loadRes]
theorem loadRule {P : Program} {ty : TypeId} {n : Nat} {d : TypeDesc} (hu : P.underlying ty = some d) (hd : d.isRow = true) (hi : (P.info? ty).map (·.size) = some n) (W : World) (g o : Nat) :
    loadRes P ty (.pointer (some ⟨g, o, none⟩)) W = match row? W g o n with | some cs => .ok (.value (.agg cs.toArray)) W | none => stuckLoad P ty W g o := by
  cases h : row? W g o n with
  | none => rfl
  | some cs =>
    obtain ⟨h1, h2⟩ := row?_iff.1 h
    show loadRes P ty _ W = _
    unfold loadRes
    rw [run_loadAt_mid W g o ty cs d h2 hu hd (by rw [hi, h1])]
    rfl
theorem rangeAt_grow {w : World} {g o : Nat} {cs : List Value} {os : List Obj} {d : Nat} (h : w.rangeAt g o cs) (hg : g < w.heap.size) : (grow w os d).rangeAt g o cs := fun j v hv => by
  rw [← h j v hv]
  simp [World.cell?, heap_grow w os d g hg]
theorem rangeAt_below {w w' : World} {B g o : Nat} {cs : List Value} (h : w.rangeAt g o cs) (hb : Below B w w') (hg : g < B) : w'.rangeAt g o cs := fun j v hv => (hb.cell (p := ⟨g, o + j, none⟩) hg).trans (h j v hv)
end Go.Proofs.YtkldapdpaldbgaaGreat
namespace Go.Proofs.YtkldapdpaldbgaaGreat
open Go.RowKit

set_option maxHeartbeats 2000000 in
theorem toSub_ct (a0 a1 a2 a3 a4 a5 a6 a7 a8 : Int) (a9 : Bool) (w : World) : Calls Tryz.prog 222 #[.agg #[.int .i64 a0, .int .i64 a1, .int .i64 a2, .int .i64 a3, .int .i64 a4, .int .i64 a5, .int .i64 a6, .int .i64 a7, .int .i64 a8, .bool a9]] w fun e w' => e = .returned (.agg #[.int .i64 a0, .int .i64 a1, .int .i64 a2, .int .i64 a3, .int .i64 a4, .int .i64 a5, .int .i64 a6, .int .i64 a7, .int .i64 a8, .bool a9]) ∧ Below w.heap.size w w' := by
  go_enter Tryz.func222, Tryz.ntmps222
  go_wp2
  refine bodyPost_ret (v := .agg #[.int .i64 a0, .int .i64 a1, .int .i64 a2, .int .i64 a3, .int .i64 a4, .int .i64 a5, .int .i64 a6, .int .i64 a7, .int .i64 a8, .bool a9]) (by simp [results, Tryz.results222, go_sem]) rfl ⟨rfl, ?_⟩
  repeat (first | exact Below.refl _ _ | refine Below.alloc ?_ (by simp <;> omega) _ | refine below_grow_of ?_ (by simp <;> omega) _ _ | refine Below.drew ?_ | refine below_drewN ?_ _)

set_option maxHeartbeats 2000000 in
theorem eqSub_ct (a0 a1 a2 a3 a4 a5 a6 a7 a8 : Int) (a9 : Bool) (w : World) : Calls Tryz.prog 231 #[.agg #[.int .i64 a0, .int .i64 a1, .int .i64 a2, .int .i64 a3, .int .i64 a4, .int .i64 a5, .int .i64 a6, .int .i64 a7, .int .i64 a8, .bool a9], .agg #[.int .i64 a0, .int .i64 a1, .int .i64 a2, .int .i64 a3, .int .i64 a4, .int .i64 a5, .int .i64 a6, .int .i64 a7, .int .i64 a8, .bool a9]] w fun e w' => e = .returned (.bool true) ∧ Below w.heap.size w w' := by
  go_enter Tryz.func231, Tryz.ntmps231
  go_wp2
  go_ret
  exact ⟨rfl, by repeat (first | exact Below.refl _ _ | refine Below.alloc ?_ (by simp <;> omega) _ | refine below_grow_of ?_ (by simp <;> omega) _ _ | refine Below.drew ?_ | refine below_drewN ?_ _)⟩

theorem Tryz.sizeJob : (Tryz.prog.info? 146).map (·.size) = some 21 := by kernel_rfl
set_option maxRecDepth 100000 in
set_option maxHeartbeats 4000000 in
theorem toJob_ct (a1 a2 a3 a4 a5 a6 a7 a8 a9 a10 a11 a12 a13 a14 a15 a17 a18 a19 a20 : Int) (a0 a16 : Bool) (w : World) : Calls Tryz.prog 142 #[.agg #[.bool a0, .int .i64 a1, .int .i64 a2, .int .i64 a3, .int .i64 a4, .int .i64 a5, .int .i64 a6, .int .i64 a7, .int .i64 a8, .int .i64 a9, .int .i64 a10, .int .i64 a11, .int .i64 a12, .int .i64 a13, .int .i64 a14, .int .i64 a15, .bool a16, .int .i64 a17, .int .i64 a18, .int .i64 a19, .int .i64 a20]] w fun e w' => e = .returned (.agg #[.bool a0, .int .i64 a1, .int .i64 a2, .int .i64 a3, .int .i64 a4, .int .i64 a5, .int .i64 a6, .int .i64 a7, .int .i64 a8, .int .i64 a9, .int .i64 a10, .int .i64 a11, .int .i64 a12, .int .i64 a13, .int .i64 a14, .int .i64 a15, .bool a16, .int .i64 a17, .int .i64 a18, .int .i64 a19, .int .i64 a20]) ∧ Below w.heap.size w w' := by
  have ba : Box (((w.alloc (.cells #[.bool a0, .int .i64 a1, .int .i64 a2, .int .i64 a3, .int .i64 a4, .int .i64 a5, .int .i64 a6, .int .i64 a7, .int .i64 a8, .int .i64 a9, .int .i64 a10, .int .i64 a11, .int .i64 a12, .int .i64 a13, .int .i64 a14, .int .i64 a15, .bool a16, .int .i64 a17, .int .i64 a18, .int .i64 a19, .int .i64 a20] 179)).alloc (.cells #[.bool false, .int .i64 0, .int .i64 0, .int .i64 0, .int .i64 0, .int .i64 0, .int .i64 0, .int .i64 0, .int .i64 0, .int .i64 0, .int .i64 0, .int .i64 0, .int .i64 0, .int .i64 0, .int .i64 0, .int .i64 0, .bool false, .int .i64 0, .int .i64 0, .int .i64 0, .int .i64 0] 146)).alloc (.cells #[.bool false, .int .i64 0, .int .i64 0, .int .i64 0, .int .i64 0, .int .i64 0, .int .i64 0, .int .i64 0, .int .i64 0, .int .i64 0, .int .i64 0, .int .i64 0, .int .i64 0, .int .i64 0, .int .i64 0, .int .i64 0, .bool false, .int .i64 0, .int .i64 0, .int .i64 0, .int .i64 0] 146)) w.heap.size [.bool a0, .int .i64 a1, .int .i64 a2, .int .i64 a3, .int .i64 a4, .int .i64 a5, .int .i64 a6, .int .i64 a7, .int .i64 a8, .int .i64 a9, .int .i64 a10, .int .i64 a11, .int .i64 a12, .int .i64 a13, .int .i64 a14, .int .i64 a15, .bool a16, .int .i64 a17, .int .i64 a18, .int .i64 a19, .int .i64 a20] := ((Box.new w #[.bool a0, .int .i64 a1, .int .i64 a2, .int .i64 a3, .int .i64 a4, .int .i64 a5, .int .i64 a6, .int .i64 a7, .int .i64 a8, .int .i64 a9, .int .i64 a10, .int .i64 a11, .int .i64 a12, .int .i64 a13, .int .i64 a14, .int .i64 a15, .bool a16, .int .i64 a17, .int .i64 a18, .int .i64 a19, .int .i64 a20] 179).alloc _).alloc _
  have br : Box (((w.alloc (.cells #[.bool a0, .int .i64 a1, .int .i64 a2, .int .i64 a3, .int .i64 a4, .int .i64 a5, .int .i64 a6, .int .i64 a7, .int .i64 a8, .int .i64 a9, .int .i64 a10, .int .i64 a11, .int .i64 a12, .int .i64 a13, .int .i64 a14, .int .i64 a15, .bool a16, .int .i64 a17, .int .i64 a18, .int .i64 a19, .int .i64 a20] 179)).alloc (.cells #[.bool false, .int .i64 0, .int .i64 0, .int .i64 0, .int .i64 0, .int .i64 0, .int .i64 0, .int .i64 0, .int .i64 0, .int .i64 0, .int .i64 0, .int .i64 0, .int .i64 0, .int .i64 0, .int .i64 0, .int .i64 0, .bool false, .int .i64 0, .int .i64 0, .int .i64 0, .int .i64 0] 146)).alloc (.cells #[.bool false, .int .i64 0, .int .i64 0, .int .i64 0, .int .i64 0, .int .i64 0, .int .i64 0, .int .i64 0, .int .i64 0, .int .i64 0, .int .i64 0, .int .i64 0, .int .i64 0, .int .i64 0, .int .i64 0, .int .i64 0, .bool false, .int .i64 0, .int .i64 0, .int .i64 0, .int .i64 0] 146)) (w.heap.size + 1) [.bool false, .int .i64 0, .int .i64 0, .int .i64 0, .int .i64 0, .int .i64 0, .int .i64 0, .int .i64 0, .int .i64 0, .int .i64 0, .int .i64 0, .int .i64 0, .int .i64 0, .int .i64 0, .int .i64 0, .int .i64 0, .bool false, .int .i64 0, .int .i64 0, .int .i64 0, .int .i64 0] := by have a := (Box.new (w.alloc (.cells #[.bool a0, .int .i64 a1, .int .i64 a2, .int .i64 a3, .int .i64 a4, .int .i64 a5, .int .i64 a6, .int .i64 a7, .int .i64 a8, .int .i64 a9, .int .i64 a10, .int .i64 a11, .int .i64 a12, .int .i64 a13, .int .i64 a14, .int .i64 a15, .bool a16, .int .i64 a17, .int .i64 a18, .int .i64 a19, .int .i64 a20] 179)) #[.bool false, .int .i64 0, .int .i64 0, .int .i64 0, .int .i64 0, .int .i64 0, .int .i64 0, .int .i64 0, .int .i64 0, .int .i64 0, .int .i64 0, .int .i64 0, .int .i64 0, .int .i64 0, .int .i64 0, .int .i64 0, .bool false, .int .i64 0, .int .i64 0, .int .i64 0, .int .i64 0] 146).alloc (.cells #[.bool false, .int .i64 0, .int .i64 0, .int .i64 0, .int .i64 0, .int .i64 0, .int .i64 0, .int .i64 0, .int .i64 0, .int .i64 0, .int .i64 0, .int .i64 0, .int .i64 0, .int .i64 0, .int .i64 0, .int .i64 0, .bool false, .int .i64 0, .int .i64 0, .int .i64 0, .int .i64 0] 146); simpa only [World.size_alloc] using a
  have bo : Box (((w.alloc (.cells #[.bool a0, .int .i64 a1, .int .i64 a2, .int .i64 a3, .int .i64 a4, .int .i64 a5, .int .i64 a6, .int .i64 a7, .int .i64 a8, .int .i64 a9, .int .i64 a10, .int .i64 a11, .int .i64 a12, .int .i64 a13, .int .i64 a14, .int .i64 a15, .bool a16, .int .i64 a17, .int .i64 a18, .int .i64 a19, .int .i64 a20] 179)).alloc (.cells #[.bool false, .int .i64 0, .int .i64 0, .int .i64 0, .int .i64 0, .int .i64 0, .int .i64 0, .int .i64 0, .int .i64 0, .int .i64 0, .int .i64 0, .int .i64 0, .int .i64 0, .int .i64 0, .int .i64 0, .int .i64 0, .bool false, .int .i64 0, .int .i64 0, .int .i64 0, .int .i64 0] 146)).alloc (.cells #[.bool false, .int .i64 0, .int .i64 0, .int .i64 0, .int .i64 0, .int .i64 0, .int .i64 0, .int .i64 0, .int .i64 0, .int .i64 0, .int .i64 0, .int .i64 0, .int .i64 0, .int .i64 0, .int .i64 0, .int .i64 0, .bool false, .int .i64 0, .int .i64 0, .int .i64 0, .int .i64 0] 146)) (w.heap.size + 1 + 1) [.bool false, .int .i64 0, .int .i64 0, .int .i64 0, .int .i64 0, .int .i64 0, .int .i64 0, .int .i64 0, .int .i64 0, .int .i64 0, .int .i64 0, .int .i64 0, .int .i64 0, .int .i64 0, .int .i64 0, .int .i64 0, .bool false, .int .i64 0, .int .i64 0, .int .i64 0, .int .i64 0] := by have a := Box.new ((w.alloc (.cells #[.bool a0, .int .i64 a1, .int .i64 a2, .int .i64 a3, .int .i64 a4, .int .i64 a5, .int .i64 a6, .int .i64 a7, .int .i64 a8, .int .i64 a9, .int .i64 a10, .int .i64 a11, .int .i64 a12, .int .i64 a13, .int .i64 a14, .int .i64 a15, .bool a16, .int .i64 a17, .int .i64 a18, .int .i64 a19, .int .i64 a20] 179)).alloc (.cells #[.bool false, .int .i64 0, .int .i64 0, .int .i64 0, .int .i64 0, .int .i64 0, .int .i64 0, .int .i64 0, .int .i64 0, .int .i64 0, .int .i64 0, .int .i64 0, .int .i64 0, .int .i64 0, .int .i64 0, .int .i64 0, .bool false, .int .i64 0, .int .i64 0, .int .i64 0, .int .i64 0] 146)) #[.bool false, .int .i64 0, .int .i64 0, .int .i64 0, .int .i64 0, .int .i64 0, .int .i64 0, .int .i64 0, .int .i64 0, .int .i64 0, .int .i64 0, .int .i64 0, .int .i64 0, .int .i64 0, .int .i64 0, .int .i64 0, .bool false, .int .i64 0, .int .i64 0, .int .i64 0, .int .i64 0] 146; simpa only [World.size_alloc] using a
  have hB : Below w.heap.size w (((w.alloc (.cells #[.bool a0, .int .i64 a1, .int .i64 a2, .int .i64 a3, .int .i64 a4, .int .i64 a5, .int .i64 a6, .int .i64 a7, .int .i64 a8, .int .i64 a9, .int .i64 a10, .int .i64 a11, .int .i64 a12, .int .i64 a13, .int .i64 a14, .int .i64 a15, .bool a16, .int .i64 a17, .int .i64 a18, .int .i64 a19, .int .i64 a20] 179)).alloc (.cells #[.bool false, .int .i64 0, .int .i64 0, .int .i64 0, .int .i64 0, .int .i64 0, .int .i64 0, .int .i64 0, .int .i64 0, .int .i64 0, .int .i64 0, .int .i64 0, .int .i64 0, .int .i64 0, .int .i64 0, .int .i64 0, .bool false, .int .i64 0, .int .i64 0, .int .i64 0, .int .i64 0] 146)).alloc (.cells #[.bool false, .int .i64 0, .int .i64 0, .int .i64 0, .int .i64 0, .int .i64 0, .int .i64 0, .int .i64 0, .int .i64 0, .int .i64 0, .int .i64 0, .int .i64 0, .int .i64 0, .int .i64 0, .int .i64 0, .int .i64 0, .bool false, .int .i64 0, .int .i64 0, .int .i64 0, .int .i64 0] 146)) := by repeat (first | exact Below.refl _ _ | refine Below.alloc ?_ (by simp <;> omega) _ | refine below_grow_of ?_ (by simp <;> omega) _ _ | refine Below.drew ?_ | refine below_drewN ?_ _)
  go_enter Tryz.func142, Tryz.ntmps142
  go_upto_region 2 with (fail)
  generalize hW0 : (((w.alloc (.cells #[.bool a0, .int .i64 a1, .int .i64 a2, .int .i64 a3, .int .i64 a4, .int .i64 a5, .int .i64 a6, .int .i64 a7, .int .i64 a8, .int .i64 a9, .int .i64 a10, .int .i64 a11, .int .i64 a12, .int .i64 a13, .int .i64 a14, .int .i64 a15, .bool a16, .int .i64 a17, .int .i64 a18, .int .i64 a19, .int .i64 a20] 179)).alloc (.cells #[.bool false, .int .i64 0, .int .i64 0, .int .i64 0, .int .i64 0, .int .i64 0, .int .i64 0, .int .i64 0, .int .i64 0, .int .i64 0, .int .i64 0, .int .i64 0, .int .i64 0, .int .i64 0, .int .i64 0, .int .i64 0, .bool false, .int .i64 0, .int .i64 0, .int .i64 0, .int .i64 0] 146)).alloc (.cells #[.bool false, .int .i64 0, .int .i64 0, .int .i64 0, .int .i64 0, .int .i64 0, .int .i64 0, .int .i64 0, .int .i64 0, .int .i64 0, .int .i64 0, .int .i64 0, .int .i64 0, .int .i64 0, .int .i64 0, .int .i64 0, .bool false, .int .i64 0, .int .i64 0, .int .i64 0, .int .i64 0] 146)) = w0 at ba br bo hB ⊢
  clear hW0
  have zz1 := ba.lt
  have zz2 := br.lt
  have zz3 := bo.lt
  have q0 := ba.cell 0 _ rfl
  have r0 := bo.cell 0 _ rfl
  have rf := bo.fro
  go_upto_region 3 with (fail)
  clear q0 r0 rf
  replace bo : Box (w0.setCell ⟨(w.heap.size + 1 + 1), 0, none⟩ (.bool a0)) (w.heap.size + 1 + 1) [.bool a0, .int .i64 0, .int .i64 0, .int .i64 0, .int .i64 0, .int .i64 0, .int .i64 0, .int .i64 0, .int .i64 0, .int .i64 0, .int .i64 0, .int .i64 0, .int .i64 0, .int .i64 0, .int .i64 0, .int .i64 0, .bool false, .int .i64 0, .int .i64 0, .int .i64 0, .int .i64 0] := (bo.set 0 (.bool a0))
  replace ba : Box (w0.setCell ⟨(w.heap.size + 1 + 1), 0, none⟩ (.bool a0)) w.heap.size [.bool a0, .int .i64 a1, .int .i64 a2, .int .i64 a3, .int .i64 a4, .int .i64 a5, .int .i64 a6, .int .i64 a7, .int .i64 a8, .int .i64 a9, .int .i64 a10, .int .i64 a11, .int .i64 a12, .int .i64 a13, .int .i64 a14, .int .i64 a15, .bool a16, .int .i64 a17, .int .i64 a18, .int .i64 a19, .int .i64 a20] := (ba.other (by omega) _)
  replace br : Box (w0.setCell ⟨(w.heap.size + 1 + 1), 0, none⟩ (.bool a0)) (w.heap.size + 1) [.bool false, .int .i64 0, .int .i64 0, .int .i64 0, .int .i64 0, .int .i64 0, .int .i64 0, .int .i64 0, .int .i64 0, .int .i64 0, .int .i64 0, .int .i64 0, .int .i64 0, .int .i64 0, .int .i64 0, .int .i64 0, .bool false, .int .i64 0, .int .i64 0, .int .i64 0, .int .i64 0] := (br.other (by omega) _)
  replace hB : Below w.heap.size w (w0.setCell ⟨(w.heap.size + 1 + 1), 0, none⟩ (.bool a0)) := (hB.setCell (by simp; omega) _)
  generalize hG : (w0.setCell ⟨(w.heap.size + 1 + 1), 0, none⟩ (.bool a0)) = w1 at ba br bo hB ⊢
  clear hG
  have q1 := ba.cell 1 _ rfl
  have q2 := ba.cell 2 _ rfl
  have q3 := ba.cell 3 _ rfl
  have q4 := ba.cell 4 _ rfl
  go_wp2_with fail
  refine (toOp_ct a1 a2 a3 a4  _).mono ?_
  rintro e w2 ⟨rfl, hb⟩
  replace ba := ba.below hb
  replace br := br.below hb
  replace bo := bo.below hb
  replace hB := hB.trans (hb.mono hB.size)
  clear hb q1 q2 q3 q4
  have r1 := bo.cell 1 _ rfl
  have r2 := bo.cell 2 _ rfl
  have r3 := bo.cell 3 _ rfl
  have r4 := bo.cell 4 _ rfl
  have rf := bo.fro
  go_upto_region 4 with (fail)
  clear r1 r2 r3 r4 rf
  replace bo : Box ((((w2.setCell ⟨(w.heap.size + 1 + 1), 1, none⟩ (.int .i64 a1)).setCell ⟨(w.heap.size + 1 + 1), 2, none⟩ (.int .i64 a2)).setCell ⟨(w.heap.size + 1 + 1), 3, none⟩ (.int .i64 a3)).setCell ⟨(w.heap.size + 1 + 1), 4, none⟩ (.int .i64 a4)) (w.heap.size + 1 + 1) [.bool a0, .int .i64 a1, .int .i64 a2, .int .i64 a3, .int .i64 a4, .int .i64 0, .int .i64 0, .int .i64 0, .int .i64 0, .int .i64 0, .int .i64 0, .int .i64 0, .int .i64 0, .int .i64 0, .int .i64 0, .int .i64 0, .bool false, .int .i64 0, .int .i64 0, .int .i64 0, .int .i64 0] := ((((bo.set 1 (.int .i64 a1)).set 2 (.int .i64 a2)).set 3 (.int .i64 a3)).set 4 (.int .i64 a4))
  replace ba : Box ((((w2.setCell ⟨(w.heap.size + 1 + 1), 1, none⟩ (.int .i64 a1)).setCell ⟨(w.heap.size + 1 + 1), 2, none⟩ (.int .i64 a2)).setCell ⟨(w.heap.size + 1 + 1), 3, none⟩ (.int .i64 a3)).setCell ⟨(w.heap.size + 1 + 1), 4, none⟩ (.int .i64 a4)) w.heap.size [.bool a0, .int .i64 a1, .int .i64 a2, .int .i64 a3, .int .i64 a4, .int .i64 a5, .int .i64 a6, .int .i64 a7, .int .i64 a8, .int .i64 a9, .int .i64 a10, .int .i64 a11, .int .i64 a12, .int .i64 a13, .int .i64 a14, .int .i64 a15, .bool a16, .int .i64 a17, .int .i64 a18, .int .i64 a19, .int .i64 a20] := ((((ba.other (by omega) _).other (by omega) _).other (by omega) _).other (by omega) _)
  replace br : Box ((((w2.setCell ⟨(w.heap.size + 1 + 1), 1, none⟩ (.int .i64 a1)).setCell ⟨(w.heap.size + 1 + 1), 2, none⟩ (.int .i64 a2)).setCell ⟨(w.heap.size + 1 + 1), 3, none⟩ (.int .i64 a3)).setCell ⟨(w.heap.size + 1 + 1), 4, none⟩ (.int .i64 a4)) (w.heap.size + 1) [.bool false, .int .i64 0, .int .i64 0, .int .i64 0, .int .i64 0, .int .i64 0, .int .i64 0, .int .i64 0, .int .i64 0, .int .i64 0, .int .i64 0, .int .i64 0, .int .i64 0, .int .i64 0, .int .i64 0, .int .i64 0, .bool false, .int .i64 0, .int .i64 0, .int .i64 0, .int .i64 0] := ((((br.other (by omega) _).other (by omega) _).other (by omega) _).other (by omega) _)
  replace hB : Below w.heap.size w ((((w2.setCell ⟨(w.heap.size + 1 + 1), 1, none⟩ (.int .i64 a1)).setCell ⟨(w.heap.size + 1 + 1), 2, none⟩ (.int .i64 a2)).setCell ⟨(w.heap.size + 1 + 1), 3, none⟩ (.int .i64 a3)).setCell ⟨(w.heap.size + 1 + 1), 4, none⟩ (.int .i64 a4)) := ((((hB.setCell (by simp; omega) _).setCell (by simp; omega) _).setCell (by simp; omega) _).setCell (by simp; omega) _)
  generalize hG : ((((w2.setCell ⟨(w.heap.size + 1 + 1), 1, none⟩ (.int .i64 a1)).setCell ⟨(w.heap.size + 1 + 1), 2, none⟩ (.int .i64 a2)).setCell ⟨(w.heap.size + 1 + 1), 3, none⟩ (.int .i64 a3)).setCell ⟨(w.heap.size + 1 + 1), 4, none⟩ (.int .i64 a4)) = w3 at ba br bo hB ⊢
  clear hG
  have q5 := ba.cell 5 _ rfl
  have r5 := bo.cell 5 _ rfl
  have rf := bo.fro
  go_upto_region 5 with (fail)
  clear q5 r5 rf
  replace bo : Box (w3.setCell ⟨(w.heap.size + 1 + 1), 5, none⟩ (.int .i64 a5)) (w.heap.size + 1 + 1) [.bool a0, .int .i64 a1, .int .i64 a2, .int .i64 a3, .int .i64 a4, .int .i64 a5, .int .i64 0, .int .i64 0, .int .i64 0, .int .i64 0, .int .i64 0, .int .i64 0, .int .i64 0, .int .i64 0, .int .i64 0, .int .i64 0, .bool false, .int .i64 0, .int .i64 0, .int .i64 0, .int .i64 0] := (bo.set 5 (.int .i64 a5))
  replace ba : Box (w3.setCell ⟨(w.heap.size + 1 + 1), 5, none⟩ (.int .i64 a5)) w.heap.size [.bool a0, .int .i64 a1, .int .i64 a2, .int .i64 a3, .int .i64 a4, .int .i64 a5, .int .i64 a6, .int .i64 a7, .int .i64 a8, .int .i64 a9, .int .i64 a10, .int .i64 a11, .int .i64 a12, .int .i64 a13, .int .i64 a14, .int .i64 a15, .bool a16, .int .i64 a17, .int .i64 a18, .int .i64 a19, .int .i64 a20] := (ba.other (by omega) _)
  replace br : Box (w3.setCell ⟨(w.heap.size + 1 + 1), 5, none⟩ (.int .i64 a5)) (w.heap.size + 1) [.bool false, .int .i64 0, .int .i64 0, .int .i64 0, .int .i64 0, .int .i64 0, .int .i64 0, .int .i64 0, .int .i64 0, .int .i64 0, .int .i64 0, .int .i64 0, .int .i64 0, .int .i64 0, .int .i64 0, .int .i64 0, .bool false, .int .i64 0, .int .i64 0, .int .i64 0, .int .i64 0] := (br.other (by omega) _)
  replace hB : Below w.heap.size w (w3.setCell ⟨(w.heap.size + 1 + 1), 5, none⟩ (.int .i64 a5)) := (hB.setCell (by simp; omega) _)
  generalize hG : (w3.setCell ⟨(w.heap.size + 1 + 1), 5, none⟩ (.int .i64 a5)) = w4 at ba br bo hB ⊢
  clear hG
  have q6 := ba.cell 6 _ rfl
  have r6 := bo.cell 6 _ rfl
  have rf := bo.fro
  go_upto_region 6 with (fail)
  clear q6 r6 rf
  replace bo : Box (w4.setCell ⟨(w.heap.size + 1 + 1), 6, none⟩ (.int .i64 a6)) (w.heap.size + 1 + 1) [.bool a0, .int .i64 a1, .int .i64 a2, .int .i64 a3, .int .i64 a4, .int .i64 a5, .int .i64 a6, .int .i64 0, .int .i64 0, .int .i64 0, .int .i64 0, .int .i64 0, .int .i64 0, .int .i64 0, .int .i64 0, .int .i64 0, .bool false, .int .i64 0, .int .i64 0, .int .i64 0, .int .i64 0] := (bo.set 6 (.int .i64 a6))
  replace ba : Box (w4.setCell ⟨(w.heap.size + 1 + 1), 6, none⟩ (.int .i64 a6)) w.heap.size [.bool a0, .int .i64 a1, .int .i64 a2, .int .i64 a3, .int .i64 a4, .int .i64 a5, .int .i64 a6, .int .i64 a7, .int .i64 a8, .int .i64 a9, .int .i64 a10, .int .i64 a11, .int .i64 a12, .int .i64 a13, .int .i64 a14, .int .i64 a15, .bool a16, .int .i64 a17, .int .i64 a18, .int .i64 a19, .int .i64 a20] := (ba.other (by omega) _)
  replace br : Box (w4.setCell ⟨(w.heap.size + 1 + 1), 6, none⟩ (.int .i64 a6)) (w.heap.size + 1) [.bool false, .int .i64 0, .int .i64 0, .int .i64 0, .int .i64 0, .int .i64 0, .int .i64 0, .int .i64 0, .int .i64 0, .int .i64 0, .int .i64 0, .int .i64 0, .int .i64 0, .int .i64 0, .int .i64 0, .int .i64 0, .bool false, .int .i64 0, .int .i64 0, .int .i64 0, .int .i64 0] := (br.other (by omega) _)
  replace hB : Below w.heap.size w (w4.setCell ⟨(w.heap.size + 1 + 1), 6, none⟩ (.int .i64 a6)) := (hB.setCell (by simp; omega) _)
  generalize hG : (w4.setCell ⟨(w.heap.size + 1 + 1), 6, none⟩ (.int .i64 a6)) = w5 at ba br bo hB ⊢
  clear hG
  have q7 := ba.cell 7 _ rfl
  have q8 := ba.cell 8 _ rfl
  have q9 := ba.cell 9 _ rfl
  have q10 := ba.cell 10 _ rfl
  have q11 := ba.cell 11 _ rfl
  have q12 := ba.cell 12 _ rfl
  have q13 := ba.cell 13 _ rfl
  have q14 := ba.cell 14 _ rfl
  have q15 := ba.cell 15 _ rfl
  have q16 := ba.cell 16 _ rfl
  go_wp2_with fail
  refine (toSub_ct a7 a8 a9 a10 a11 a12 a13 a14 a15 a16 _).mono ?_
  rintro e w6 ⟨rfl, hb⟩
  replace ba := ba.below hb
  replace br := br.below hb
  replace bo := bo.below hb
  replace hB := hB.trans (hb.mono hB.size)
  clear hb q7 q8 q9 q10 q11 q12 q13 q14 q15 q16
  have r7 := bo.cell 7 _ rfl
  have r8 := bo.cell 8 _ rfl
  have r9 := bo.cell 9 _ rfl
  have r10 := bo.cell 10 _ rfl
  have r11 := bo.cell 11 _ rfl
  have r12 := bo.cell 12 _ rfl
  have r13 := bo.cell 13 _ rfl
  have r14 := bo.cell 14 _ rfl
  have r15 := bo.cell 15 _ rfl
  have r16 := bo.cell 16 _ rfl
  have rf := bo.fro
  go_upto_region 7 with (fail)
  clear r7 r8 r9 r10 r11 r12 r13 r14 r15 r16 rf
  replace bo : Box ((((((((((w6.setCell ⟨(w.heap.size + 1 + 1), 7, none⟩ (.int .i64 a7)).setCell ⟨(w.heap.size + 1 + 1), 8, none⟩ (.int .i64 a8)).setCell ⟨(w.heap.size + 1 + 1), 9, none⟩ (.int .i64 a9)).setCell ⟨(w.heap.size + 1 + 1), 10, none⟩ (.int .i64 a10)).setCell ⟨(w.heap.size + 1 + 1), 11, none⟩ (.int .i64 a11)).setCell ⟨(w.heap.size + 1 + 1), 12, none⟩ (.int .i64 a12)).setCell ⟨(w.heap.size + 1 + 1), 13, none⟩ (.int .i64 a13)).setCell ⟨(w.heap.size + 1 + 1), 14, none⟩ (.int .i64 a14)).setCell ⟨(w.heap.size + 1 + 1), 15, none⟩ (.int .i64 a15)).setCell ⟨(w.heap.size + 1 + 1), 16, none⟩ (.bool a16)) (w.heap.size + 1 + 1) [.bool a0, .int .i64 a1, .int .i64 a2, .int .i64 a3, .int .i64 a4, .int .i64 a5, .int .i64 a6, .int .i64 a7, .int .i64 a8, .int .i64 a9, .int .i64 a10, .int .i64 a11, .int .i64 a12, .int .i64 a13, .int .i64 a14, .int .i64 a15, .bool a16, .int .i64 0, .int .i64 0, .int .i64 0, .int .i64 0] := ((((((((((bo.set 7 (.int .i64 a7)).set 8 (.int .i64 a8)).set 9 (.int .i64 a9)).set 10 (.int .i64 a10)).set 11 (.int .i64 a11)).set 12 (.int .i64 a12)).set 13 (.int .i64 a13)).set 14 (.int .i64 a14)).set 15 (.int .i64 a15)).set 16 (.bool a16))
  replace ba : Box ((((((((((w6.setCell ⟨(w.heap.size + 1 + 1), 7, none⟩ (.int .i64 a7)).setCell ⟨(w.heap.size + 1 + 1), 8, none⟩ (.int .i64 a8)).setCell ⟨(w.heap.size + 1 + 1), 9, none⟩ (.int .i64 a9)).setCell ⟨(w.heap.size + 1 + 1), 10, none⟩ (.int .i64 a10)).setCell ⟨(w.heap.size + 1 + 1), 11, none⟩ (.int .i64 a11)).setCell ⟨(w.heap.size + 1 + 1), 12, none⟩ (.int .i64 a12)).setCell ⟨(w.heap.size + 1 + 1), 13, none⟩ (.int .i64 a13)).setCell ⟨(w.heap.size + 1 + 1), 14, none⟩ (.int .i64 a14)).setCell ⟨(w.heap.size + 1 + 1), 15, none⟩ (.int .i64 a15)).setCell ⟨(w.heap.size + 1 + 1), 16, none⟩ (.bool a16)) w.heap.size [.bool a0, .int .i64 a1, .int .i64 a2, .int .i64 a3, .int .i64 a4, .int .i64 a5, .int .i64 a6, .int .i64 a7, .int .i64 a8, .int .i64 a9, .int .i64 a10, .int .i64 a11, .int .i64 a12, .int .i64 a13, .int .i64 a14, .int .i64 a15, .bool a16, .int .i64 a17, .int .i64 a18, .int .i64 a19, .int .i64 a20] := ((((((((((ba.other (by omega) _).other (by omega) _).other (by omega) _).other (by omega) _).other (by omega) _).other (by omega) _).other (by omega) _).other (by omega) _).other (by omega) _).other (by omega) _)
  replace br : Box ((((((((((w6.setCell ⟨(w.heap.size + 1 + 1), 7, none⟩ (.int .i64 a7)).setCell ⟨(w.heap.size + 1 + 1), 8, none⟩ (.int .i64 a8)).setCell ⟨(w.heap.size + 1 + 1), 9, none⟩ (.int .i64 a9)).setCell ⟨(w.heap.size + 1 + 1), 10, none⟩ (.int .i64 a10)).setCell ⟨(w.heap.size + 1 + 1), 11, none⟩ (.int .i64 a11)).setCell ⟨(w.heap.size + 1 + 1), 12, none⟩ (.int .i64 a12)).setCell ⟨(w.heap.size + 1 + 1), 13, none⟩ (.int .i64 a13)).setCell ⟨(w.heap.size + 1 + 1), 14, none⟩ (.int .i64 a14)).setCell ⟨(w.heap.size + 1 + 1), 15, none⟩ (.int .i64 a15)).setCell ⟨(w.heap.size + 1 + 1), 16, none⟩ (.bool a16)) (w.heap.size + 1) [.bool false, .int .i64 0, .int .i64 0, .int .i64 0, .int .i64 0, .int .i64 0, .int .i64 0, .int .i64 0, .int .i64 0, .int .i64 0, .int .i64 0, .int .i64 0, .int .i64 0, .int .i64 0, .int .i64 0, .int .i64 0, .bool false, .int .i64 0, .int .i64 0, .int .i64 0, .int .i64 0] := ((((((((((br.other (by omega) _).other (by omega) _).other (by omega) _).other (by omega) _).other (by omega) _).other (by omega) _).other (by omega) _).other (by omega) _).other (by omega) _).other (by omega) _)
  replace hB : Below w.heap.size w ((((((((((w6.setCell ⟨(w.heap.size + 1 + 1), 7, none⟩ (.int .i64 a7)).setCell ⟨(w.heap.size + 1 + 1), 8, none⟩ (.int .i64 a8)).setCell ⟨(w.heap.size + 1 + 1), 9, none⟩ (.int .i64 a9)).setCell ⟨(w.heap.size + 1 + 1), 10, none⟩ (.int .i64 a10)).setCell ⟨(w.heap.size + 1 + 1), 11, none⟩ (.int .i64 a11)).setCell ⟨(w.heap.size + 1 + 1), 12, none⟩ (.int .i64 a12)).setCell ⟨(w.heap.size + 1 + 1), 13, none⟩ (.int .i64 a13)).setCell ⟨(w.heap.size + 1 + 1), 14, none⟩ (.int .i64 a14)).setCell ⟨(w.heap.size + 1 + 1), 15, none⟩ (.int .i64 a15)).setCell ⟨(w.heap.size + 1 + 1), 16, none⟩ (.bool a16)) := ((((((((((hB.setCell (by simp; omega) _).setCell (by simp; omega) _).setCell (by simp; omega) _).setCell (by simp; omega) _).setCell (by simp; omega) _).setCell (by simp; omega) _).setCell (by simp; omega) _).setCell (by simp; omega) _).setCell (by simp; omega) _).setCell (by simp; omega) _)
  generalize hG : ((((((((((w6.setCell ⟨(w.heap.size + 1 + 1), 7, none⟩ (.int .i64 a7)).setCell ⟨(w.heap.size + 1 + 1), 8, none⟩ (.int .i64 a8)).setCell ⟨(w.heap.size + 1 + 1), 9, none⟩ (.int .i64 a9)).setCell ⟨(w.heap.size + 1 + 1), 10, none⟩ (.int .i64 a10)).setCell ⟨(w.heap.size + 1 + 1), 11, none⟩ (.int .i64 a11)).setCell ⟨(w.heap.size + 1 + 1), 12, none⟩ (.int .i64 a12)).setCell ⟨(w.heap.size + 1 + 1), 13, none⟩ (.int .i64 a13)).setCell ⟨(w.heap.size + 1 + 1), 14, none⟩ (.int .i64 a14)).setCell ⟨(w.heap.size + 1 + 1), 15, none⟩ (.int .i64 a15)).setCell ⟨(w.heap.size + 1 + 1), 16, none⟩ (.bool a16)) = w7 at ba br bo hB ⊢
  clear hG
  have q17 := ba.cell 17 _ rfl
  have r17 := bo.cell 17 _ rfl
  have rf := bo.fro
  go_upto_region 8 with (fail)
  clear q17 r17 rf
  replace bo : Box (w7.setCell ⟨(w.heap.size + 1 + 1), 17, none⟩ (.int .i64 a17)) (w.heap.size + 1 + 1) [.bool a0, .int .i64 a1, .int .i64 a2, .int .i64 a3, .int .i64 a4, .int .i64 a5, .int .i64 a6, .int .i64 a7, .int .i64 a8, .int .i64 a9, .int .i64 a10, .int .i64 a11, .int .i64 a12, .int .i64 a13, .int .i64 a14, .int .i64 a15, .bool a16, .int .i64 a17, .int .i64 0, .int .i64 0, .int .i64 0] := (bo.set 17 (.int .i64 a17))
  replace ba : Box (w7.setCell ⟨(w.heap.size + 1 + 1), 17, none⟩ (.int .i64 a17)) w.heap.size [.bool a0, .int .i64 a1, .int .i64 a2, .int .i64 a3, .int .i64 a4, .int .i64 a5, .int .i64 a6, .int .i64 a7, .int .i64 a8, .int .i64 a9, .int .i64 a10, .int .i64 a11, .int .i64 a12, .int .i64 a13, .int .i64 a14, .int .i64 a15, .bool a16, .int .i64 a17, .int .i64 a18, .int .i64 a19, .int .i64 a20] := (ba.other (by omega) _)
  replace br : Box (w7.setCell ⟨(w.heap.size + 1 + 1), 17, none⟩ (.int .i64 a17)) (w.heap.size + 1) [.bool false, .int .i64 0, .int .i64 0, .int .i64 0, .int .i64 0, .int .i64 0, .int .i64 0, .int .i64 0, .int .i64 0, .int .i64 0, .int .i64 0, .int .i64 0, .int .i64 0, .int .i64 0, .int .i64 0, .int .i64 0, .bool false, .int .i64 0, .int .i64 0, .int .i64 0, .int .i64 0] := (br.other (by omega) _)
  replace hB : Below w.heap.size w (w7.setCell ⟨(w.heap.size + 1 + 1), 17, none⟩ (.int .i64 a17)) := (hB.setCell (by simp; omega) _)
  generalize hG : (w7.setCell ⟨(w.heap.size + 1 + 1), 17, none⟩ (.int .i64 a17)) = w8 at ba br bo hB ⊢
  clear hG
  have q18 := ba.cell 18 _ rfl
  have r18 := bo.cell 18 _ rfl
  have rf := bo.fro
  go_upto_region 9 with (fail)
  clear q18 r18 rf
  replace bo : Box (w8.setCell ⟨(w.heap.size + 1 + 1), 18, none⟩ (.int .i64 a18)) (w.heap.size + 1 + 1) [.bool a0, .int .i64 a1, .int .i64 a2, .int .i64 a3, .int .i64 a4, .int .i64 a5, .int .i64 a6, .int .i64 a7, .int .i64 a8, .int .i64 a9, .int .i64 a10, .int .i64 a11, .int .i64 a12, .int .i64 a13, .int .i64 a14, .int .i64 a15, .bool a16, .int .i64 a17, .int .i64 a18, .int .i64 0, .int .i64 0] := (bo.set 18 (.int .i64 a18))
  replace ba : Box (w8.setCell ⟨(w.heap.size + 1 + 1), 18, none⟩ (.int .i64 a18)) w.heap.size [.bool a0, .int .i64 a1, .int .i64 a2, .int .i64 a3, .int .i64 a4, .int .i64 a5, .int .i64 a6, .int .i64 a7, .int .i64 a8, .int .i64 a9, .int .i64 a10, .int .i64 a11, .int .i64 a12, .int .i64 a13, .int .i64 a14, .int .i64 a15, .bool a16, .int .i64 a17, .int .i64 a18, .int .i64 a19, .int .i64 a20] := (ba.other (by omega) _)
  replace br : Box (w8.setCell ⟨(w.heap.size + 1 + 1), 18, none⟩ (.int .i64 a18)) (w.heap.size + 1) [.bool false, .int .i64 0, .int .i64 0, .int .i64 0, .int .i64 0, .int .i64 0, .int .i64 0, .int .i64 0, .int .i64 0, .int .i64 0, .int .i64 0, .int .i64 0, .int .i64 0, .int .i64 0, .int .i64 0, .int .i64 0, .bool false, .int .i64 0, .int .i64 0, .int .i64 0, .int .i64 0] := (br.other (by omega) _)
  replace hB : Below w.heap.size w (w8.setCell ⟨(w.heap.size + 1 + 1), 18, none⟩ (.int .i64 a18)) := (hB.setCell (by simp; omega) _)
  generalize hG : (w8.setCell ⟨(w.heap.size + 1 + 1), 18, none⟩ (.int .i64 a18)) = w9 at ba br bo hB ⊢
  clear hG
  have q19 := ba.cell 19 _ rfl
  have r19 := bo.cell 19 _ rfl
  have rf := bo.fro
  go_upto_region 10 with (fail)
  clear q19 r19 rf
  replace bo : Box (w9.setCell ⟨(w.heap.size + 1 + 1), 19, none⟩ (.int .i64 a19)) (w.heap.size + 1 + 1) [.bool a0, .int .i64 a1, .int .i64 a2, .int .i64 a3, .int .i64 a4, .int .i64 a5, .int .i64 a6, .int .i64 a7, .int .i64 a8, .int .i64 a9, .int .i64 a10, .int .i64 a11, .int .i64 a12, .int .i64 a13, .int .i64 a14, .int .i64 a15, .bool a16, .int .i64 a17, .int .i64 a18, .int .i64 a19, .int .i64 0] := (bo.set 19 (.int .i64 a19))
  replace ba : Box (w9.setCell ⟨(w.heap.size + 1 + 1), 19, none⟩ (.int .i64 a19)) w.heap.size [.bool a0, .int .i64 a1, .int .i64 a2, .int .i64 a3, .int .i64 a4, .int .i64 a5, .int .i64 a6, .int .i64 a7, .int .i64 a8, .int .i64 a9, .int .i64 a10, .int .i64 a11, .int .i64 a12, .int .i64 a13, .int .i64 a14, .int .i64 a15, .bool a16, .int .i64 a17, .int .i64 a18, .int .i64 a19, .int .i64 a20] := (ba.other (by omega) _)
  replace br : Box (w9.setCell ⟨(w.heap.size + 1 + 1), 19, none⟩ (.int .i64 a19)) (w.heap.size + 1) [.bool false, .int .i64 0, .int .i64 0, .int .i64 0, .int .i64 0, .int .i64 0, .int .i64 0, .int .i64 0, .int .i64 0, .int .i64 0, .int .i64 0, .int .i64 0, .int .i64 0, .int .i64 0, .int .i64 0, .int .i64 0, .bool false, .int .i64 0, .int .i64 0, .int .i64 0, .int .i64 0] := (br.other (by omega) _)
  replace hB : Below w.heap.size w (w9.setCell ⟨(w.heap.size + 1 + 1), 19, none⟩ (.int .i64 a19)) := (hB.setCell (by simp; omega) _)
  generalize hG : (w9.setCell ⟨(w.heap.size + 1 + 1), 19, none⟩ (.int .i64 a19)) = w10 at ba br bo hB ⊢
  clear hG
  have q20 := ba.cell 20 _ rfl
  have r20 := bo.cell 20 _ rfl
  have rf := bo.fro
  go_upto_region 11 with (fail)
  clear q20 r20 rf
  replace bo : Box (w10.setCell ⟨(w.heap.size + 1 + 1), 20, none⟩ (.int .i64 a20)) (w.heap.size + 1 + 1) [.bool a0, .int .i64 a1, .int .i64 a2, .int .i64 a3, .int .i64 a4, .int .i64 a5, .int .i64 a6, .int .i64 a7, .int .i64 a8, .int .i64 a9, .int .i64 a10, .int .i64 a11, .int .i64 a12, .int .i64 a13, .int .i64 a14, .int .i64 a15, .bool a16, .int .i64 a17, .int .i64 a18, .int .i64 a19, .int .i64 a20] := (bo.set 20 (.int .i64 a20))
  replace ba : Box (w10.setCell ⟨(w.heap.size + 1 + 1), 20, none⟩ (.int .i64 a20)) w.heap.size [.bool a0, .int .i64 a1, .int .i64 a2, .int .i64 a3, .int .i64 a4, .int .i64 a5, .int .i64 a6, .int .i64 a7, .int .i64 a8, .int .i64 a9, .int .i64 a10, .int .i64 a11, .int .i64 a12, .int .i64 a13, .int .i64 a14, .int .i64 a15, .bool a16, .int .i64 a17, .int .i64 a18, .int .i64 a19, .int .i64 a20] := (ba.other (by omega) _)
  replace br : Box (w10.setCell ⟨(w.heap.size + 1 + 1), 20, none⟩ (.int .i64 a20)) (w.heap.size + 1) [.bool false, .int .i64 0, .int .i64 0, .int .i64 0, .int .i64 0, .int .i64 0, .int .i64 0, .int .i64 0, .int .i64 0, .int .i64 0, .int .i64 0, .int .i64 0, .int .i64 0, .int .i64 0, .int .i64 0, .int .i64 0, .bool false, .int .i64 0, .int .i64 0, .int .i64 0, .int .i64 0] := (br.other (by omega) _)
  replace hB : Below w.heap.size w (w10.setCell ⟨(w.heap.size + 1 + 1), 20, none⟩ (.int .i64 a20)) := (hB.setCell (by simp; omega) _)
  generalize hG : (w10.setCell ⟨(w.heap.size + 1 + 1), 20, none⟩ (.int .i64 a20)) = w11 at ba br bo hB ⊢
  clear hG
  have hu := Tryz.underlying146
  have hr0 : w11.rangeAt (w.heap.size + 1 + 1) 0 [.bool a0, .int .i64 a1, .int .i64 a2, .int .i64 a3, .int .i64 a4, .int .i64 a5, .int .i64 a6, .int .i64 a7, .int .i64 a8, .int .i64 a9, .int .i64 a10, .int .i64 a11, .int .i64 a12, .int .i64 a13, .int .i64 a14, .int .i64 a15, .bool a16, .int .i64 a17, .int .i64 a18, .int .i64 a19, .int .i64 a20] := fun j v hv => by rw [Nat.zero_add]; exact bo.cell j v hv
  have ht0 : w11.there (w.heap.size + 1) 0 21 := fun j hj => by rw [Nat.zero_add]; exact ⟨by rw [br.cell j _ (List.getElem?_eq_getElem (by simpa using hj))]; rfl, br.fro j⟩
  clear ba br bo zz1 zz2 zz3
  have hE := Hid.mk_ (show ([.bool a0, .int .i64 a1, .int .i64 a2, .int .i64 a3, .int .i64 a4, .int .i64 a5, .int .i64 a6, .int .i64 a7, .int .i64 a8, .int .i64 a9, .int .i64 a10, .int .i64 a11, .int .i64 a12, .int .i64 a13, .int .i64 a14, .int .i64 a15, .bool a16, .int .i64 a17, .int .i64 a18, .int .i64 a19, .int .i64 a20] : List Value).length = 21 from rfl)
  have hO := Hid.mk_ (show ∀ v ∈ ([.bool a0, .int .i64 a1, .int .i64 a2, .int .i64 a3, .int .i64 a4, .int .i64 a5, .int .i64 a6, .int .i64 a7, .int .i64 a8, .int .i64 a9, .int .i64 a10, .int .i64 a11, .int .i64 a12, .int .i64 a13, .int .i64 a14, .int .i64 a15, .bool a16, .int .i64 a17, .int .i64 a18, .int .i64 a19, .int .i64 a20] : List Value), v.oneCell' = true from FJob.one ⟨a0, ⟨a1, a2, a3, a4⟩, a5, a6, ⟨a7, a8, a9, a10, a11, a12, a13, a14, a15, a16⟩, a17, a18, a19, a20⟩)
  obtain ⟨cs, hL⟩ : ∃ cs : List Value, cs = [.bool a0, .int .i64 a1, .int .i64 a2, .int .i64 a3, .int .i64 a4, .int .i64 a5, .int .i64 a6, .int .i64 a7, .int .i64 a8, .int .i64 a9, .int .i64 a10, .int .i64 a11, .int .i64 a12, .int .i64 a13, .int .i64 a14, .int .i64 a15, .bool a16, .int .i64 a17, .int .i64 a18, .int .i64 a19, .int .i64 a20] := ⟨_, rfl⟩
  rw [← hL] at hr0 hE hO
  have HL := Hid.mk_ (show (.agg #[.bool a0, .int .i64 a1, .int .i64 a2, .int .i64 a3, .int .i64 a4, .int .i64 a5, .int .i64 a6, .int .i64 a7, .int .i64 a8, .int .i64 a9, .int .i64 a10, .int .i64 a11, .int .i64 a12, .int .i64 a13, .int .i64 a14, .int .i64 a15, .bool a16, .int .i64 a17, .int .i64 a18, .int .i64 a19, .int .i64 a20] : Value) = .agg cs.toArray by rw [hL])
  clear hL
  have hi : Hid ((Tryz.prog.info? 146).map (·.size) = some cs.length) := Hid.mk_ (by rw [hE.out]; exact Tryz.sizeJob)
  have hU := Hid.mk_ hu
  have ht1 : w11.there (w.heap.size + 1) 0 cs.length := by rw [hE.out]; exact ht0
  have hl2 := Hid.mk_ (run_loadVar_mid (w11.setCells (w.heap.size + 1) 0 cs) (w.heap.size + 1) 0 146 cs _ (World.rangeAt_setCells_same _ _ _ _ ht1) hu rfl hi.out)
  clear hu ht0
  go_wp2_with (first | (refine wpList_load_mid rfl 146 (.tmp 3) rfl (w.heap.size + 1 + 1) 0 rfl cs _ hr0 hU.out rfl hi.out ?_) | (refine wpList_store_mid rfl 146 (.tmp 2) (.tmp 33) rfl (w.heap.size + 1) 0 cs.toArray rfl rfl ht1 hi.out (all_oneCell_toArray hO.out) ?_))
  exact bodyPost_ret (v := .agg cs.toArray) (results_cell_of Tryz.results142 rfl hl2.out) rfl ⟨by rw [HL.out], Below.setCells (by omega) _ _ hB⟩
end Go.Proofs.YtkldapdpaldbgaaGreat
namespace Go.Proofs.YtkldapdpaldbgaaGreat
open Go.RowKit

theorem toJob_any (x : Job) (w : World) : Calls Tryz.prog 142 #[.agg (FJob.enc x).toArray] w fun e w' => e = .returned (.agg (FJob.enc x).toArray) ∧ Below w.heap.size w w' :=
  toJob_ct x.Op.Kind x.Op.Cell x.Op.Size x.Op.Val x.Serial x.Pc x.Sub.Kind x.Sub.A x.Sub.Pc x.Sub.E x.Sub.Row x.Sub.B x.Sub.H x.Sub.Out x.Sub.Code x.H x.Old x.Val x.Code x.Busy x.Sub.Done w
theorem Tryz.infoJob : (Tryz.prog.info? 146).map (fun i => (i.zero, i.size, i.bytes)) = some (some (.agg #[.bool false, .int .i64 0, .int .i64 0, .int .i64 0, .int .i64 0, .int .i64 0, .int .i64 0, .int .i64 0, .int .i64 0, .int .i64 0, .int .i64 0, .int .i64 0, .int .i64 0, .int .i64 0, .int .i64 0, .int .i64 0, .bool false, .int .i64 0, .int .i64 0, .int .i64 0, .int .i64 0]), FJob.n, 168) := by kernel_rfl
theorem Tryz.sizeLJob : (Tryz.prog.info? 179).map (·.size) = some 21 := by kernel_rfl
set_option maxRecDepth 100000 in
set_option maxHeartbeats 1000000 in
theorem toJobS_ct (w : World) (v : Value) (l : List Job) (h : RdL FJob w w.heap.size v l) (hs : l.length ≤ 1048576) :
    Calls Tryz.prog 67 #[v] w fun e w' => e = .returned (.slice (some ⟨w.heap.size, 0, none⟩) l.length l.length) ∧ OwL FJob 146 w' (.slice (some ⟨w.heap.size, 0, none⟩) l.length l.length) l ∧ Below w.heap.size w w' := by
  have hmk := run_make_flat (P := Tryz.prog) FJob 65 146 (.agg #[.bool false, .int .i64 0, .int .i64 0, .int .i64 0, .int .i64 0, .int .i64 0, .int .i64 0, .int .i64 0, .int .i64 0, .int .i64 0, .int .i64 0, .int .i64 0, .int .i64 0, .int .i64 0, .int .i64 0, .int .i64 0, .bool false, .int .i64 0, .int .i64 0, .int .i64 0, .int .i64 0]) 168 Tryz.underlying65 Tryz.infoJob l.length (by omega) (by omega)
  have hU := Hid.mk_ Tryz.underlying179
  obtain ⟨A, cap, hv, _⟩ := id h
  subst hv
  go_enter Tryz.func67, Tryz.ntmps67
  go_wp2
  clear hmk
  go_loopw [4] (fun i wr => ∃ k : Nat, k ≤ l.length ∧ i = .int .i64 k ∧ OwL FJob 146 wr (.slice (some ⟨w.heap.size, 0, none⟩) l.length l.length) (l.take k ++ List.replicate (l.length - k) ⟨false, ⟨0, 0, 0, 0⟩, 0, 0, ⟨0, 0, 0, 0, 0, 0, 0, 0, 0, false⟩, 0, 0, 0, 0⟩) ∧ Below w.heap.size w wr) (fun i _ => l.length - (intOf i).toNat)
  case atStart => exact ⟨0, Nat.zero_le _, rfl, OwL.made FJob #[.bool false, .int .i64 0, .int .i64 0, .int .i64 0, .int .i64 0, .int .i64 0, .int .i64 0, .int .i64 0, .int .i64 0, .int .i64 0, .int .i64 0, .int .i64 0, .int .i64 0, .int .i64 0, .int .i64 0, .int .i64 0, .bool false, .int .i64 0, .int .i64 0, .int .i64 0, .int .i64 0] rfl l.length (by simp [maxLen]; omega) w 146, (Below.refl _ _).alloc (Nat.le_refl _) _⟩
  case round =>
    obtain ⟨i, hk, rfl, ho, hb⟩ := hrel
    by_cases hlt : i < l.length
    · obtain ⟨g, off, cap', he, hg, _, _, hc⟩ := (h.below hb).range_ (List.getElem?_eq_getElem hlt)
      injection he with he1 he2 he3
      clear he2
      subst he1 he3
      have hx := upd_get l ⟨false, ⟨0, 0, 0, 0⟩, 0, 0, ⟨0, 0, 0, 0, 0, 0, 0, 0, 0, false⟩, 0, 0, 0, 0⟩ i hlt
      have hz : w.heap.size < wr.heap.size := (World.ownsRow.lt ho _ rfl).2
      have htj := toJob_any l[i]
      have hlen := Hid.mk_ (FJob.len l[i])
      have hone := Hid.mk_ (FJob.one l[i])
      have hrow := fun (W : World) (hW : OwL FJob 146 W (.slice (some ⟨w.heap.size, 0, none⟩) l.length l.length) (l.take i ++ List.replicate (l.length - i) ⟨false, ⟨0, 0, 0, 0⟩, 0, 0, ⟨0, 0, 0, 0, 0, 0, 0, 0, 0, false⟩, 0, 0, 0, 0⟩)) => (OwL.setRow (y := l[i]) hW hx : OwL FJob 146 (W.setCells w.heap.size (i * FJob.n) (FJob.enc l[i])) _ _)
      have hthere := fun (W : World) (hW : OwL FJob 146 W (.slice (some ⟨w.heap.size, 0, none⟩) l.length l.length) (l.take i ++ List.replicate (l.length - i) ⟨false, ⟨0, 0, 0, 0⟩, 0, 0, ⟨0, 0, 0, 0, 0, 0, 0, 0, 0, false⟩, 0, 0, 0, 0⟩)) => OwL.there_ hW (k := i) (by simp; omega)
      rw [show FJob.n = 21 from rfl] at hthere hlen hc hrow
      have hupd := Hid.mk_ (upd_step l ⟨false, ⟨0, 0, 0, 0⟩, 0, 0, ⟨0, 0, 0, 0, 0, 0, 0, 0, 0, false⟩, 0, 0, 0, 0⟩ i hlt)
      clear hx
      obtain ⟨cs, hcs⟩ : ∃ cs, cs = FJob.enc l[i] := ⟨_, rfl⟩
      rw [← hcs] at htj hlen hone hc hrow
      clear hcs
      have hlen' : Hid (cs.toArray.size = 21) := Hid.mk_ (by rw [List.size_toArray]; exact hlen.out)
      go_wp2_with (first | (refine wpList_load_mid rfl 179 (.tmp 18) rfl g (off + i * 21) rfl cs _ hc hU.out rfl (by rw [hlen.out]; exact Tryz.sizeLJob) ?_) | (go_at_call 142; refine (htj _).mono ?_; rintro e w1 ⟨rfl, hb1⟩; replace ho := ho.keep (fun q hq => hb1.block q (World.ownsRow.lt ho _ hq).2); replace hb := hb.trans (hb1.mono hb.size); have hth := hthere _ ho; clear hb1) | (refine wpList_store_mid rfl 146 (.tmp 21) (.tmp 20) rfl w.heap.size (i * 21) cs.toArray rfl rfl (by rw [hlen'.out]; exact hth) (by rw [hlen'.out]; exact Tryz.sizeJob) (all_oneCell_toArray hone.out) ?_))
      go_roundw
      case rel => exact ⟨i + 1, by omega, by go_num, by rw [← hupd.out]; exact hrow _ ho, Below.setCells (Nat.le_refl _) _ _ hb⟩
      case measure => simp [intOf]; omega
    · go_wp2
      go_ret
      obtain rfl : i = l.length := by omega
      exact ⟨rfl, by simpa using ho, hb⟩
end Go.Proofs.YtkldapdpaldbgaaGreat
namespace Go.Proofs.YtkldapdpaldbgaaGreat
open Go.RowKit

set_option maxHeartbeats 2000000 in
theorem eqJob_ct (a1 a2 a3 a4 a5 a6 a7 a8 a9 a10 a11 a12 a13 a14 a15 a17 a18 a19 a20 : Int) (a0 a16 : Bool) (w : World) : Calls Tryz.prog 150 #[.agg #[.bool a0, .int .i64 a1, .int .i64 a2, .int .i64 a3, .int .i64 a4, .int .i64 a5, .int .i64 a6, .int .i64 a7, .int .i64 a8, .int .i64 a9, .int .i64 a10, .int .i64 a11, .int .i64 a12, .int .i64 a13, .int .i64 a14, .int .i64 a15, .bool a16, .int .i64 a17, .int .i64 a18, .int .i64 a19, .int .i64 a20], .agg #[.bool a0, .int .i64 a1, .int .i64 a2, .int .i64 a3, .int .i64 a4, .int .i64 a5, .int .i64 a6, .int .i64 a7, .int .i64 a8, .int .i64 a9, .int .i64 a10, .int .i64 a11, .int .i64 a12, .int .i64 a13, .int .i64 a14, .int .i64 a15, .bool a16, .int .i64 a17, .int .i64 a18, .int .i64 a19, .int .i64 a20]] w fun e w' => e = .returned (.bool true) ∧ Below w.heap.size w w' := by
  go_enter Tryz.func150, Tryz.ntmps150
  go_wp2_with (first | (go_at_call 230; refine (eqOp_ct _ _ _ _ _).mono ?_; rintro e w1 ⟨rfl, hb1⟩; obtain ⟨os1, d1, rfl⟩ := below_grows hb1; clear hb1) | (go_at_call 231; refine (eqSub_ct _ _ _ _ _ _ _ _ _ _ _).mono ?_; rintro e w2 ⟨rfl, hb2⟩; obtain ⟨os2, d2, rfl⟩ := below_grows hb2; clear hb2))
  go_ret
  exact ⟨rfl, by repeat (first | exact Below.refl _ _ | refine Below.alloc ?_ (by simp <;> omega) _ | refine below_grow_of ?_ (by simp <;> omega) _ _ | refine Below.drew ?_ | refine below_drewN ?_ _)⟩
end Go.Proofs.YtkldapdpaldbgaaGreat
namespace Go.Proofs.YtkldapdpaldbgaaGreat
open Go.RowKit

theorem execJob (ρ : Operand → Value) (d : Option Tmp) (x : Operand) (t : TypeId) (p : String) (af : Array Edge) (g : Option (Nat × Bool)) (w : World) : (execOp ρ ⟨d, .load 146 x, t, p, af, g⟩).run Tryz.prog w = loadRes Tryz.prog 146 (ρ x) w := exec_load _ _ _ _ _ _ _ _ _
theorem loadResJob (W : World) (g o : Nat) : loadRes Tryz.prog 146 (.pointer (some ⟨g, o, none⟩)) W = match row? W g o 21 with | some cs => .ok (.value (.agg cs.toArray)) W | none => stuckLoad Tryz.prog 146 W g o := loadRule Tryz.underlying146 rfl Tryz.sizeJob W g o
attribute [local go_sem ↓] execJob
attribute [local go_sem] loadResJob
theorem eqJob_any (x : Job) (w : World) : Calls Tryz.prog 150 #[.agg (FJob.enc x).toArray, .agg (FJob.enc x).toArray] w fun e w' => e = .returned (.bool true) ∧ Below w.heap.size w w' :=
  eqJob_ct x.Op.Kind x.Op.Cell x.Op.Size x.Op.Val x.Serial x.Pc x.Sub.Kind x.Sub.A x.Sub.Pc x.Sub.E x.Sub.Row x.Sub.B x.Sub.H x.Sub.Out x.Sub.Code x.H x.Old x.Val x.Code x.Busy x.Sub.Done w
set_option maxRecDepth 100000 in
set_option maxHeartbeats 1000000 in
theorem eqJobS_ct (w : World) (v1 v2 : Value) (l : List Job) (h1 : RdL FJob w w.heap.size v1 l) (h2 : RdL FJob w w.heap.size v2 l) (hs : l.length ≤ 1073741824) :
    Calls Tryz.prog 74 #[v1, v2] w fun e w' => e = .returned (.bool true) ∧ Below w.heap.size w w' := by
  obtain ⟨A1, c1, hv1, _⟩ := id h1
  obtain ⟨A2, c2, hv2, _⟩ := id h2
  subst hv1 hv2
  go_enter Tryz.func74, Tryz.ntmps74
  go_wp2
  go_loopw [5] (fun i wr => ∃ k : Nat, k ≤ l.length ∧ i = .int .i64 k ∧ Below w.heap.size w wr) (fun i _ => l.length - (intOf i).toNat)
  case atStart => exact ⟨0, Nat.zero_le _, rfl, Below.refl _ _⟩
  case round =>
    obtain ⟨i, hk, rfl, hb⟩ := hrel
    by_cases hlt : i < l.length
    · obtain ⟨g1, o1, cap1, e1, b1, _, _, q1⟩ := (h1.below hb).range_ (List.getElem?_eq_getElem hlt)
      obtain ⟨g2, o2, cap2, e2, b2, _, _, q2⟩ := (h2.below hb).range_ (List.getElem?_eq_getElem hlt)
      injection e1 with e11 _ e13
      injection e2 with e21 _ e23
      subst e11 e13 e21 e23
      have z1 : g1 < wr.heap.size := Nat.lt_of_lt_of_le b1 hb.size
      have z0 : w.heap.size ≤ wr.heap.size := hb.size
      have z2 : g2 < wr.heap.size := Nat.lt_of_lt_of_le b2 hb.size
      have hq := eqJob_any l[i]
      have hlen := FJob.len l[i]
      have hone := FJob.one l[i]
      rw [show FJob.n = 21 from rfl] at hlen q1 q2
      generalize l[i] = xi at *
      generalize FJob.enc xi = cs at *
      clear xi
      replace q1 := row?_of q1 hlen
      replace q2 := row?_of q2 hlen
      clear hlen hone
      go_wp2
      go_region_held3 (fun w' => row? w' g1 (o1 + i * 21) 21 = some cs ∧ row? w' g2 (o2 + i * 21) 21 = some cs ∧ g1 < w'.heap.size ∧ g2 < w'.heap.size ∧ Below w.heap.size w w') (first | (go_keep; done) | ((try go_split_ands); refine ⟨?_, ?_, ?_, ?_, ?_⟩; all_goals first | assumption | exact Below.drew (by assumption) | (simp [go_sem, *]; done) | exact (row?_grow (by assumption) _ _).trans (by assumption) | exact below_grow_of (by assumption) (by omega) _ _ | (rw [size_grow]; omega))) ((go_at_call 150; refine (hq _).mono ?_; rintro e w1 ⟨rfl, hb1⟩; obtain ⟨os1, d1, rfl⟩ := below_grows hb1; clear hb1))
      go_wp2
      go_roundw
      case rel => exact ⟨i + 1, by omega, by go_num, by first | assumption | (try go_split_ands; assumption)⟩
      case measure => simp [intOf]; omega
    · go_wp2
      go_ret
      exact ⟨rfl, hb⟩
end Go.Proofs.YtkldapdpaldbgaaGreat
namespace Go.Proofs.YtkldapdpaldbgaaGreat
open Go.RowKit

set_option maxHeartbeats 400000 in
theorem szJobS_ct (w : World) (A : Option Addr) (n c : Nat) (k : Nat) (hn : n ≤ 9223372036854775807) (hk : k ≤ 1073741824) :
    Calls Tryz.prog 62 #[.slice A n c, .int .i64 k] w fun e w' => e = .returned (.int .i64 (leftOf k n)) ∧ Below w.heap.size w w' := by
  by_cases h : n ≤ k
  · go_enter Tryz.func62, Tryz.ntmps62
    go_wp2
    go_ret
    exact ⟨ret_i64 (leftOf_pos h).symm, by repeat (first | exact Below.refl _ _ | refine Below.alloc ?_ (by simp <;> omega) _ | refine below_grow_of ?_ (by simp <;> omega) _ _ | refine Below.drew ?_ | refine below_drewN ?_ _)⟩
  · go_enter Tryz.func62, Tryz.ntmps62
    go_wp2
    go_ret
    exact ⟨ret_i64 (leftOf_neg h).symm, by repeat (first | exact Below.refl _ _ | refine Below.alloc ?_ (by simp <;> omega) _ | refine below_grow_of ?_ (by simp <;> omega) _ _ | refine Below.drew ?_ | refine below_drewN ?_ _)⟩
end Go.Proofs.YtkldapdpaldbgaaGreat
namespace Go.Proofs.YtkldapdpaldbgaaGreat
open Go.RowKit
end Go.Proofs.YtkldapdpaldbgaaGreat
namespace Go.Proofs.YtkldapdpaldbgaaGreat
open Go.RowKit
theorem toJobS_w (w : World) (K : SV) (l : List Job) (h : RdL FJob w w.heap.size K.val l) (hs : l.length ≤ 1048576) :
    Calls Tryz.prog 67 #[.slice K.a K.len K.cap] w fun e w' => ∃ K' : SV, e = .returned (.slice K'.a K'.len K'.cap) ∧ OwL FJob 146 w' K'.val l ∧ (∀ g ∈ foot1 K'.val, w.heap.size ≤ g) ∧ Below w.heap.size w w' :=
  (toJobS_ct w _ l h hs).mono fun _ _ ⟨a, b, c⟩ => ⟨⟨_, _, _⟩, a, b, fun g hg => by have := mem_foot1.1 hg; simp [SV.val, Value.ownBlock] at this; omega, c⟩
theorem eqJobS_w (w : World) (K1 K2 : SV) (l : List Job) (h1 : RdL FJob w w.heap.size K1.val l) (h2 : RdL FJob w w.heap.size K2.val l) (hs : l.length ≤ 1073741824) :
    Calls Tryz.prog 74 #[.slice K1.a K1.len K1.cap, .slice K2.a K2.len K2.cap] w fun e w' => e = .returned (.bool true) ∧ Below w.heap.size w w' := eqJobS_ct w _ _ l h1 h2 hs
theorem szJobS_w (w : World) (K : SV) (l : List Job) (k : Nat) (h : RdL FJob w w.heap.size K.val l) (hk : k ≤ 1073741824) :
    Calls Tryz.prog 62 #[.slice K.a K.len K.cap, .int .i64 k] w fun e w' => e = .returned (.int .i64 (leftOf k l.length)) ∧ Below w.heap.size w w' := by
  have hl := RdL.len_ (show RdL FJob w w.heap.size (.slice K.a K.len K.cap) l from h)
  rw [← hl.1]
  exact szJobS_ct w K.a K.len K.cap k hl.2 hk
end Go.Proofs.YtkldapdpaldbgaaGreat
