/-
  Rows in limbo: compared, made, measured, marked.
-/
import Derived.Test.YtkldapdpaldbgaaGreatT
import Derived.Test.YtkldapdpaldbgaaGreatL
import Derived.Deep.QuietTactic
import Derived.BigQuiet
import Derived.Deep.LoopGhost
import Derived.Deep.RegionHeld3
import Derived.Test.YtkldapdpaldbgaaGreatN
import Derived.Test.YtkldapdpaldbgaaGreatA
import Derived.WalkSpells
import Derived.Laws.Cover3
import Derived.Test.YtkldapdpaldbgaaGreatEL
import Derived.Test.YtkldapdpaldbgaaGreatVB
namespace Go.Proofs.YtkldapdpaldbgaaGreat
open Go.RowKit

set_option maxHeartbeats 2000000 in
theorem toLRow_ct (a0 a1 : Int) (w : World) : Calls Tryz.prog 277 #[.agg #[.int .i64 a0, .int .i64 a1]] w fun e w' => e = .returned (.agg #[.int .i64 a0, .int .i64 a1]) ∧ Below w.heap.size w w' := by
  go_enter Tryz.func277, Tryz.ntmps277
  go_wp2
  refine bodyPost_ret (v := .agg #[.int .i64 a0, .int .i64 a1]) (by simp [results, Tryz.results277, go_sem]) rfl ⟨rfl, ?_⟩
  repeat (first | exact Below.refl _ _ | refine Below.alloc ?_ (by simp <;> omega) _ | refine below_grow_of ?_ (by simp <;> omega) _ _ | refine Below.drew ?_ | refine below_drewN ?_ _)

set_option maxHeartbeats 2000000 in
theorem eqLRow_ct (a0 a1 : Int) (w : World) : Calls Tryz.prog 283 #[.agg #[.int .i64 a0, .int .i64 a1], .agg #[.int .i64 a0, .int .i64 a1]] w fun e w' => e = .returned (.bool true) ∧ Below w.heap.size w w' := by
  go_enter Tryz.func283, Tryz.ntmps283
  go_wp2
  go_ret
  exact ⟨rfl, by repeat (first | exact Below.refl _ _ | refine Below.alloc ?_ (by simp <;> omega) _ | refine below_grow_of ?_ (by simp <;> omega) _ _ | refine Below.drew ?_ | refine below_drewN ?_ _)⟩

theorem Tryz.infoLRow : (Tryz.prog.info? 99).map (fun i => (i.zero, i.size, i.bytes)) = some (some (.agg #[.int .i64 0, .int .i64 0]), FLRow.n, 16) := by kernel_rfl
set_option maxHeartbeats 1000000 in
theorem toLRowS_ct (w : World) (v : Value) (l : List LRow) (h : RdL FLRow w w.heap.size v l) (hs : l.length ≤ 1048576) :
    Calls Tryz.prog 237 #[v] w fun e w' => e = .returned (.slice (some ⟨w.heap.size, 0, none⟩) l.length l.length) ∧ OwL FLRow 99 w' (.slice (some ⟨w.heap.size, 0, none⟩) l.length l.length) l ∧ Below w.heap.size w w' := by
  have hmk := run_make_flat (P := Tryz.prog) FLRow 95 99 (.agg #[.int .i64 0, .int .i64 0]) 16 Tryz.underlying95 Tryz.infoLRow l.length (by omega) (by omega)
  obtain ⟨A, cap, hv, _⟩ := id h
  subst hv
  go_enter Tryz.func237, Tryz.ntmps237
  go_wp2
  clear hmk
  go_loopw [4] (fun i wr => ∃ k : Nat, k ≤ l.length ∧ i = .int .i64 k ∧ OwL FLRow 99 wr (.slice (some ⟨w.heap.size, 0, none⟩) l.length l.length) (l.take k ++ List.replicate (l.length - k) ⟨0, 0⟩) ∧ Below w.heap.size w wr) (fun i _ => l.length - (intOf i).toNat)
  case atStart => exact ⟨0, Nat.zero_le _, rfl, OwL.made FLRow #[.int .i64 0, .int .i64 0] rfl l.length (by simp [maxLen]; omega) w 99, (Below.refl _ _).alloc (Nat.le_refl _) _⟩
  case round =>
    obtain ⟨i, hk, rfl, ho, hb⟩ := hrel
    by_cases hlt : i < l.length
    · obtain ⟨g, off, cap', he, hg, _, _, hc⟩ := (h.below hb).at_ (List.getElem?_eq_getElem hlt)
      injection he with he1 he2 he3
      subst he1 he3
      have p0 : wr.cell? ⟨g, off + i * 2, none⟩ = some (.int .i64 l[i].Handle) := hc 0 _ rfl
      have p1 : wr.cell? ⟨g, off + i * 2 + 1, none⟩ = some (.int .i64 l[i].Epoch) := hc 1 _ rfl
      have hx := upd_get l ⟨0, 0⟩ i hlt
      have hz : w.heap.size < wr.heap.size := (World.ownsRow.lt ho _ rfl).2
      have hf := ho.frozen_
      have c0 : wr.cell? ⟨w.heap.size, i * 2, none⟩ = some (.int .i64 0) := ho.cell_ (j := 0) hx (by decide)
      have c1 : wr.cell? ⟨w.heap.size, i * 2 + 1, none⟩ = some (.int .i64 0) := ho.cell_ (j := 1) hx (by decide)
      clear hc
      go_wp2_with (go_at_call 277; refine (toLRow_ct _ _ _).mono ?_; rintro e w1 ⟨rfl, hb1⟩; obtain ⟨os1, d1, rfl⟩ := below_grows hb1; clear hb1)
      clear hf c0 p0 c1 p1
      go_roundw
      case rel =>
        have s0 := ho.set_ (j := 0) (y := (⟨l[i].Handle, 0⟩ : LRow)) (u := .int .i64 l[i].Handle) hx (by decide) rfl
        have s1 := s0.set_ (j := 1) (y := (⟨l[i].Handle, l[i].Epoch⟩ : LRow)) (u := .int .i64 l[i].Epoch) (set_get (⟨l[i].Handle, 0⟩ : LRow) hx) (by decide) rfl
        simp only [List.set_set] at s1
        have e := upd_step l ⟨0, 0⟩ i hlt
        refine ⟨i + 1, by omega, by go_num, ?_, ?_⟩
        · rw [← e]
          first | exact OwL.grow_ s1 _ _ | exact s1
        · first | exact below_grow_of (Below.setCell (Below.setCell (hb) (by simp) _) (by simp) _) (by simp; omega) _ _ | exact (Below.setCell (Below.setCell (hb) (by simp) _) (by simp) _)
      case measure => simp [intOf]; omega
    · go_wp2
      go_ret
      obtain rfl : i = l.length := by omega
      exact ⟨rfl, by simpa using ho, hb⟩

set_option maxHeartbeats 1000000 in
theorem eqLRowS_ct (w : World) (v1 v2 : Value) (l : List LRow) (h1 : RdL FLRow w w.heap.size v1 l) (h2 : RdL FLRow w w.heap.size v2 l) (hs : l.length ≤ 1073741824) :
    Calls Tryz.prog 244 #[v1, v2] w fun e w' => e = .returned (.bool true) ∧ Below w.heap.size w w' := by
  obtain ⟨A1, c1, hv1, _⟩ := id h1
  obtain ⟨A2, c2, hv2, _⟩ := id h2
  subst hv1 hv2
  go_enter Tryz.func244, Tryz.ntmps244
  go_wp2
  go_loopw [5] (fun i wr => ∃ k : Nat, k ≤ l.length ∧ i = .int .i64 k ∧ Below w.heap.size w wr) (fun i _ => l.length - (intOf i).toNat)
  case atStart => exact ⟨0, Nat.zero_le _, rfl, Below.refl _ _⟩
  case round =>
    obtain ⟨i, hk, rfl, hb⟩ := hrel
    by_cases hlt : i < l.length
    · obtain ⟨g1, o1, cap1, e1, b1, _, _, q1⟩ := (h1.below hb).at_ (List.getElem?_eq_getElem hlt)
      obtain ⟨g2, o2, cap2, e2, b2, _, _, q2⟩ := (h2.below hb).at_ (List.getElem?_eq_getElem hlt)
      injection e1 with e11 _ e13
      injection e2 with e21 _ e23
      subst e11 e13 e21 e23
      have z1 : g1 < wr.heap.size := Nat.lt_of_lt_of_le b1 hb.size
      have z0 : w.heap.size ≤ wr.heap.size := hb.size
      have z2 : g2 < wr.heap.size := Nat.lt_of_lt_of_le b2 hb.size
      have p0 : wr.cell? ⟨g1, o1 + i * 2, none⟩ = some (.int .i64 l[i].Handle) := q1 0 _ rfl
      have p1 : wr.cell? ⟨g1, o1 + i * 2 + 1, none⟩ = some (.int .i64 l[i].Epoch) := q1 1 _ rfl
      have r0 : wr.cell? ⟨g2, o2 + i * 2, none⟩ = some (.int .i64 l[i].Handle) := q2 0 _ rfl
      have r1 : wr.cell? ⟨g2, o2 + i * 2 + 1, none⟩ = some (.int .i64 l[i].Epoch) := q2 1 _ rfl
      clear q1 q2
      go_wp2
      go_region_held3 (fun w' => w'.cell? ⟨g1, o1 + i * 2, none⟩ = some (.int .i64 l[i].Handle) ∧ w'.cell? ⟨g1, o1 + i * 2 + 1, none⟩ = some (.int .i64 l[i].Epoch) ∧ w'.cell? ⟨g2, o2 + i * 2, none⟩ = some (.int .i64 l[i].Handle) ∧ w'.cell? ⟨g2, o2 + i * 2 + 1, none⟩ = some (.int .i64 l[i].Epoch) ∧ g1 < w'.heap.size ∧ g2 < w'.heap.size ∧ Below w.heap.size w w') (first | (go_keep; done) | ((try go_split_ands); refine ⟨?_, ?_, ?_, ?_, ?_, ?_, ?_⟩; all_goals first | assumption | exact Below.drew (by assumption) | (simp [go_sem, *]; done) | exact below_grow_of (by assumption) (by omega) _ _ | (rw [size_grow]; omega))) ((go_at_call 283; refine (eqLRow_ct _ _ _).mono ?_; rintro e w1 ⟨rfl, hb1⟩; obtain ⟨os1, d1, rfl⟩ := below_grows hb1; clear hb1))
      go_wp2
      go_roundw
      case rel => exact ⟨i + 1, by omega, by go_num, by first | assumption | (try go_split_ands; assumption)⟩
      case measure => simp [intOf]; omega
    · go_wp2
      go_ret
      exact ⟨rfl, hb⟩

set_option maxHeartbeats 400000 in
theorem szLRowS_ct (w : World) (A : Option Addr) (n c : Nat) (k : Nat) (hn : n ≤ 9223372036854775807) (hk : k ≤ 1073741824) :
    Calls Tryz.prog 234 #[.slice A n c, .int .i64 k] w fun e w' => e = .returned (.int .i64 (leftOf k n)) ∧ Below w.heap.size w w' := by
  by_cases h : n ≤ k
  · go_enter Tryz.func234, Tryz.ntmps234
    go_wp2
    go_ret
    exact ⟨ret_i64 (leftOf_pos h).symm, by repeat (first | exact Below.refl _ _ | refine Below.alloc ?_ (by simp <;> omega) _ | refine below_grow_of ?_ (by simp <;> omega) _ _ | refine Below.drew ?_ | refine below_drewN ?_ _)⟩
  · go_enter Tryz.func234, Tryz.ntmps234
    go_wp2
    go_ret
    exact ⟨ret_i64 (leftOf_neg h).symm, by repeat (first | exact Below.refl _ _ | refine Below.alloc ?_ (by simp <;> omega) _ | refine below_grow_of ?_ (by simp <;> omega) _ _ | refine Below.drew ?_ | refine below_drewN ?_ _)⟩

set_option maxHeartbeats 1000000 in
theorem markLRowS_ct (w : World) (v : Value) (l : List LRow) (k : Int) (h : OwL FLRow 99 w v l) (hk0 : 0 ≤ k) (hk1 : (k + (l.length : Int) * 2) ≤ 4611686018427387904) :
    Calls Tryz.prog 179 #[v, .int .i64 k] w fun e w' => e = .returned (.int .i64 (k + (l.length : Int) * 2)) ∧ OwL FLRow 99 w' v (marks mkLRow 2 l l.length k) ∧ w.grownBy w' v.ownBlock ∧ w'.heap.size = w.heap.size := by
  rcases h.form with ⟨rfl, rfl⟩ | ⟨g, cap, hv, hg, hl, hc⟩
  · go_enter Tryz.func179, Tryz.ntmps179
    go_wp2
    go_loop [1, 5] (fun q i => q = .int .i64 k ∧ i = .int .i64 0) (fun _ _ => 0)
    case atStart => exact ⟨rfl, rfl⟩
    case round =>
      obtain ⟨rfl, rfl⟩ := hrel
      go_wp2
      go_ret
      exact ⟨by simp, h, World.grownBy.refl _ _, rfl⟩
  subst hv
  go_enter Tryz.func179, Tryz.ntmps179
  go_wp2
  go_loopw [1, 5] (fun q i wr => ∃ i' : Nat, i' ≤ l.length ∧ i = .int .i64 i' ∧ q = .int .i64 (k + (i' : Int) * 2) ∧ OwL FLRow 99 wr (.slice (some ⟨g, 0, none⟩) l.length cap) (marks mkLRow 2 l i' k) ∧ w.grownBy wr (some g) ∧ wr.heap.size = w.heap.size) (fun _ i _ => l.length - (intOf i).toNat)
  case atStart => exact ⟨0, Nat.zero_le _, rfl, by simp, h, World.grownBy.refl _ _, rfl⟩
  case round =>
    obtain ⟨i, hi, rfl, rfl, ho, hgr, hsz⟩ := hrel
    by_cases hlt : i < l.length
    · have hx := marks_get mkLRow 2 l i k hlt
      have hf := ho.frozen_
      have c0 : wr.cell? ⟨g, i * 2, none⟩ = some (.int .i64 l[i].Handle) := ho.cell_ (j := 0) hx (by decide)
      have c1 : wr.cell? ⟨g, i * 2 + 1, none⟩ = some (.int .i64 l[i].Epoch) := ho.cell_ (j := 1) hx (by decide)
      clear h
      go_wp2
      clear hf c0 c1
      go_roundw
      case rel =>
        have s0 := ho.set_ (j := 0) (y := (⟨(k + (i : Int) * 2), l[i].Epoch⟩ : LRow)) (u := .int .i64 (k + (i : Int) * 2)) hx (by decide) rfl
        have s1 := s0.set_ (j := 1) (y := (⟨(k + (i : Int) * 2), (k + (i : Int) * 2 + 1)⟩ : LRow)) (u := .int .i64 (k + (i : Int) * 2 + 1)) (set_get (⟨(k + (i : Int) * 2), l[i].Epoch⟩ : LRow) hx) (by decide) rfl
        refine ⟨i + 1, by omega, by go_num, by go_num, ?_, grown_set (grown_set (hgr) _ _) _ _, by simp [hsz]⟩
        simp only [List.set_set] at s1
        have e := marks_step mkLRow 2 l i k hlt
        rw [← e]
        exact s1
      case measure => simp [intOf]; omega
    · go_wp2
      go_ret
      obtain rfl : i = l.length := by omega
      exact ⟨rfl, ho, hgr, hsz⟩

set_option maxHeartbeats 400000 in
theorem eqLList_ct (w : World) (v1 v2 : Value) (l : List LRow) (h1 : RdL FLRow w w.heap.size v1 l) (h2 : RdL FLRow w w.heap.size v2 l) (hs : l.length ≤ 1073741824) :
    Calls Tryz.prog 175 #[.agg #[v1], .agg #[v2]] w fun e w' => e = .returned (.bool true) ∧ Below w.heap.size w w' := by
  obtain ⟨A1, c1, hv1, _⟩ := id h1
  obtain ⟨A2, c2, hv2, _⟩ := id h2
  subst hv1 hv2
  go_enter Tryz.func175, Tryz.ntmps175
  go_wp2_with (go_at_call 244; refine (eqLRowS_ct _ _ _ l (rd_up h1 (by repeat (first | exact Below.refl _ _ | refine Below.alloc ?_ (by simp <;> omega) _ | refine below_grow_of ?_ (by simp <;> omega) _ _ | refine Below.drew ?_ | refine below_drewN ?_ _))) (rd_up h2 (by repeat (first | exact Below.refl _ _ | refine Below.alloc ?_ (by simp <;> omega) _ | refine below_grow_of ?_ (by simp <;> omega) _ _ | refine Below.drew ?_ | refine below_drewN ?_ _))) hs).mono ?_; rintro e w1 ⟨rfl, hb1⟩; obtain ⟨os1, d1, rfl⟩ := below_grows hb1; clear hb1)
  go_ret
  exact ⟨rfl, by repeat (first | exact Below.refl _ _ | refine Below.alloc ?_ (by simp <;> omega) _ | refine below_grow_of ?_ (by simp <;> omega) _ _ | refine Below.drew ?_ | refine below_drewN ?_ _)⟩

set_option maxHeartbeats 1000000 in
theorem eqLListS_ct (w : World) (v1 v2 : Value) (t1 t2 : List SV) (ll : List (List LRow)) (h1 : RdLL FLRow w w.heap.size v1 t1 ll) (h2 : RdLL FLRow w w.heap.size v2 t2 ll) (hs : szLL ll ≤ 1073741824) :
    Calls Tryz.prog 98 #[v1, v2] w fun e w' => e = .returned (.bool true) ∧ Below w.heap.size w w' := by
  obtain ⟨A1, c1, hv1, _⟩ := id h1.outer
  obtain ⟨A2, c2, hv2, _⟩ := id h2.outer
  have n1 := h1.len
  have n2 := h2.len
  rw [n1] at hv1
  rw [n2] at hv2
  have hs0 : ll.length ≤ 1073741824 := Nat.le_trans (Nat.le_add_right _ _) hs
  subst hv1 hv2
  have N1 : Hid (t1.length = ll.length) := n1
  have N2 : Hid (t2.length = ll.length) := n2
  clear n1 n2
  go_enter Tryz.func98, Tryz.ntmps98
  go_wp2
  go_loopw [5] (fun i wr => ∃ k : Nat, k ≤ ll.length ∧ i = .int .i64 k ∧ Below w.heap.size w wr) (fun i _ => ll.length - (intOf i).toNat)
  case atStart => exact ⟨0, Nat.zero_le _, rfl, Below.refl _ _⟩
  case round =>
    obtain ⟨i, hk, rfl, hb⟩ := hrel
    by_cases hlt : i < ll.length
    · have m1 : t1[i]? = some (t1[i]'(by rw [N1.out]; exact hlt)) := List.getElem?_eq_getElem _
      have m2 : t2[i]? = some (t2[i]'(by rw [N2.out]; exact hlt)) := List.getElem?_eq_getElem _
      have r1 := h1.inner i _ _ m1 (List.getElem?_eq_getElem hlt)
      have r2 := h2.inner i _ _ m2 (List.getElem?_eq_getElem hlt)
      obtain ⟨g1, o1, cap1, e1, b1, _, _, q1⟩ := (h1.outer.below hb).at_ m1
      obtain ⟨g2, o2, cap2, e2, b2, _, _, q2⟩ := (h2.outer.below hb).at_ m2
      generalize t1[i]'(by rw [N1.out]; exact hlt) = s1 at m1 r1 q1
      generalize t2[i]'(by rw [N2.out]; exact hlt) = s2 at m2 r2 q2
      injection e1 with e11 e12 e13
      injection e2 with e21 e22 e23
      clear e12 e22
      subst e11 e13 e21 e23
      have z1 : g1 < wr.heap.size := Nat.lt_of_lt_of_le b1 hb.size
      have z0 : w.heap.size ≤ wr.heap.size := hb.size
      have z2 : g2 < wr.heap.size := Nat.lt_of_lt_of_le b2 hb.size
      have p0 : wr.cell? ⟨g1, o1 + i, none⟩ = some (.slice s1.a s1.len s1.cap) := by simpa [FS] using q1 0 _ rfl
      have r0 : wr.cell? ⟨g2, o2 + i, none⟩ = some (.slice s2.a s2.len s2.cap) := by simpa [FS] using q2 0 _ rfl
      have hs1 : ll[i].length ≤ 1073741824 := Nat.le_trans (le_szLL (List.getElem_mem hlt)) hs
      clear q1 q2 m1 m2
      go_wp2
      go_region_held3 (fun w' => w'.cell? ⟨g1, o1 + i, none⟩ = some (.slice s1.a s1.len s1.cap) ∧ w'.cell? ⟨g2, o2 + i, none⟩ = some (.slice s2.a s2.len s2.cap) ∧ g1 < w'.heap.size ∧ g2 < w'.heap.size ∧ Below w.heap.size w w') (first | (go_keep; done) | ((try go_split_ands); refine ⟨?_, ?_, ?_, ?_, ?_⟩; all_goals first | assumption | exact Below.drew (by assumption) | (simp [go_sem, *]; done) | exact below_grow_of (by assumption) (by omega) _ _ | (rw [size_grow]; omega))) ((go_at_call 175; refine (eqLList_ct _ _ _ _ (rd_up r1 (by go_split_ands; assumption)) (rd_up r2 (by go_split_ands; assumption)) hs1).mono ?_; rintro e w1 ⟨rfl, hb1⟩; obtain ⟨os1, d1, rfl⟩ := below_grows hb1; clear hb1))
      go_wp2
      go_roundw
      case rel => exact ⟨i + 1, by omega, by go_num, by first | assumption | (try go_split_ands; assumption)⟩
      case measure => simp [intOf]; omega
    · go_wp2
      go_ret
      exact ⟨rfl, hb⟩

set_option maxHeartbeats 1000000 in
theorem markLListS_ct (w : World) (v : Value) (t : List SV) (ll : List (List LRow)) (k : Int) (h : OwLL FLRow 99 129 w v t ll) (hk0 : 0 ≤ k) (hk1 : (k + (totLL ll : Int) * 2) ≤ 4611686018427387904) :
    Calls Tryz.prog 102 #[v, .int .i64 k] w fun e w' => e = .returned (.int .i64 (k + (totLL ll : Int) * 2)) ∧ OwLL FLRow 99 129 w' v t (markLL mkLRow 2 ll k) ∧ Chg (foot2 v t) w w' := by
  obtain ⟨A, c, hv, _⟩ := id h.rd'.outer
  rw [h.len] at hv
  have hlt0 : ll.length ≤ 9223372036854775807 := by
    have := h.rd'.outer
    obtain ⟨_, c', _, q1, q2, _⟩ := this
    rw [h.len] at q1
    unfold maxLen at q2
    omega
  subst hv
  go_enter Tryz.func102, Tryz.ntmps102
  go_wp2
  go_loopw [1, 5] (fun q i wr => ∃ i' : Nat, i' ≤ ll.length ∧ i = .int .i64 i' ∧ q = .int .i64 (k + (totLL (ll.take i') : Int) * 2) ∧ OwLL FLRow 99 129 wr (.slice A ll.length c) t (marksLL mkLRow 2 ll i' k) ∧ Chg (foot2 (.slice A ll.length c) t) w wr) (fun _ i _ => ll.length - (intOf i).toNat)
  case atStart => exact ⟨0, Nat.zero_le _, rfl, by simp [totLL], h, Chg.refl _ _⟩
  case round =>
    obtain ⟨i, hi, rfl, rfl, ho, hch⟩ := hrel
    by_cases hlt : i < ll.length
    · have hT : Hid (t.length = ll.length) := h.len
      have m1 : t[i]? = some (t[i]'(by rw [hT.out]; exact hlt)) := List.getElem?_eq_getElem _
      generalize t[i]'(by rw [hT.out]; exact hlt) = s at m1
      have ro := ho.inner i s _ m1 (marksLL_get mkLRow 2 ll i k hlt)
      obtain ⟨g, o1, cap1, e1, b1, _, _, q1⟩ := ho.rd'.outer.at_ m1
      injection e1 with e11 e12 e13
      clear e12
      subst e11 e13
      have p0 : wr.cell? ⟨g, o1 + i, none⟩ = some (.slice s.a s.len s.cap) := by simpa [FS] using q1 0 _ rfl
      have ht1 := totLL_take_succ ll i hlt
      have ht2 := totLL_take_le ll (i + 1)
      have HT : Hid (totLL (ll.take (i + 1)) = totLL (ll.take i) + ll[i].length) := ht1
      have kb : k + (totLL (ll.take i) : Int) * 2 + (ll[i].length : Int) * 2 ≤ 4611686018427387904 := by omega
      have k0 : 0 ≤ k + (totLL (ll.take i) : Int) * 2 := by omega
      clear q1 ht1 h
      go_wp2_with (go_at_call 179; refine (markLRowS_ct _ s.val ll[i] _ ro (by omega) (by omega)).mono ?_; rintro e w1 ⟨rfl, ho1, hg1, hs1⟩)
      go_roundw
      case rel =>
        refine ⟨i + 1, by omega, by go_num, by rw [HT.out]; go_num, ?_, hch.trans ((Chg.of_grown hg1).mono fun g hg => mem_foot2.2 (.inr ⟨s, List.mem_of_getElem? m1, mem_foot1.1 hg⟩))⟩
        have e := marksLL_step mkLRow 2 ll i k hlt
        rw [← e]
        refine ho.set_row m1 ?_ (Chg.of_grown hg1)
        exact ho1
      case measure => simp [intOf]; omega
    · go_wp2
      go_ret
      obtain rfl : i = ll.length := by omega
      exact ⟨by simp, by rw [← marksLL_all]; exact ho, hch⟩

set_option maxHeartbeats 400000 in
theorem toLList_ct (w : World) (v : Value) (l : List LRow) (h : RdL FLRow w w.heap.size v l) (hs : l.length ≤ 1048576) :
    Calls Tryz.prog 162 #[.agg #[v]] w fun e w' => ∃ s : SV, e = .returned (.agg #[.slice s.a s.len s.cap]) ∧ OwL FLRow 99 w' s.val l ∧ (∀ g ∈ foot1 s.val, w.heap.size ≤ g) ∧ Below w.heap.size w w' := by
  obtain ⟨A, c, hv, _⟩ := id h
  subst hv
  go_enter Tryz.func162, Tryz.ntmps162
  go_wp2_with fail
  refine (toLRowS_ct _ _ l (rd_up h (by repeat (first | exact Below.refl _ _ | refine Below.alloc ?_ (by simp <;> omega) _ | refine below_grow_of ?_ (by simp <;> omega) _ _ | refine Below.drew ?_ | refine below_drewN ?_ _))) hs).mono ?_
  rintro e w1 ⟨rfl, ho, hb1⟩
  obtain ⟨os1, d1, rfl⟩ := below_grows hb1
  clear hb1
  go_wp2
  refine bodyPost_ret (v := .agg #[.slice (some ⟨w.heap.size + 1 + 1 + 1, 0, none⟩) l.length l.length]) (by simp [results, Tryz.results162, go_sem]) rfl ⟨⟨_, _, _⟩, rfl, ?_, ?_, ?_⟩
  · simp only [World.size_alloc] at ho
    refine OwL.regrow ho ?_ ?_ _
    · simp
    · simp [foot1, Value.ownBlock]
  · simp [foot1, Value.ownBlock, SV.val]; omega
  · repeat (first | exact Below.refl _ _ | refine Below.alloc ?_ (by simp <;> omega) _ | refine below_grow_of ?_ (by simp <;> omega) _ _ | refine Below.drew ?_ | refine below_drewN ?_ _)

theorem Tryz.infoLList : (Tryz.prog.info? 129).map (fun i => (i.zero, i.size, i.bytes)) = some (some (.agg #[.slice none 0 0]), FS.n, 24) := by kernel_rfl
set_option maxHeartbeats 1000000 in
theorem toLListS_ct (w : World) (v : Value) (t : List SV) (ll : List (List LRow)) (h : RdLL FLRow w w.heap.size v t ll) (hs : szLL ll ≤ 1048576) :
    Calls Tryz.prog 87 #[v] w fun e w' => ∃ t' : List SV, e = .returned (.slice (some ⟨w.heap.size, 0, none⟩) ll.length ll.length) ∧ OwLL FLRow 99 129 w' (.slice (some ⟨w.heap.size, 0, none⟩) ll.length ll.length) t' ll ∧ (∀ g ∈ foot2 (.slice (some ⟨w.heap.size, 0, none⟩) ll.length ll.length) t', w.heap.size ≤ g) ∧ Below w.heap.size w w' := by
  have hs0 : ll.length ≤ 1048576 := Nat.le_trans (Nat.le_add_right _ _) hs
  have hmk := run_make_flat (P := Tryz.prog) FS 35 129 (.agg #[.slice none 0 0]) 24 Tryz.underlying35 Tryz.infoLList ll.length (by omega) (by omega)
  obtain ⟨A, cap, hv, _⟩ := id h.outer
  have N1 : Hid (t.length = ll.length) := h.len
  rw [h.len] at hv
  subst hv
  go_enter Tryz.func87, Tryz.ntmps87
  go_wp2
  clear hmk
  go_loopw [4] (fun i wr => ∃ k : Nat, k ≤ ll.length ∧ i = .int .i64 k ∧ (∃ t' : List SV, OwLL FLRow 99 129 wr (.slice (some ⟨w.heap.size, 0, none⟩) ll.length ll.length) t' (ll.take k ++ List.replicate (ll.length - k) []) ∧ (∀ g ∈ foot2 (.slice (some ⟨w.heap.size, 0, none⟩) ll.length ll.length) t', w.heap.size ≤ g)) ∧ Below w.heap.size w wr) (fun i _ => ll.length - (intOf i).toNat)
  case atStart => exact ⟨0, Nat.zero_le _, rfl, ⟨_, OwLL.made #[.slice none 0 0] rfl ll.length (by simp [maxLen]; omega) w FLRow 99 129, foot2_made _ _⟩, (Below.refl _ _).alloc (Nat.le_refl _) _⟩
  case round =>
    obtain ⟨i, hk, rfl, ⟨t', ho, hfo⟩, hb⟩ := hrel
    by_cases hlt : i < ll.length
    · have m1 : t[i]? = some (t[i]'(by rw [N1.out]; exact hlt)) := List.getElem?_eq_getElem _
      have r1 := h.inner i _ _ m1 (List.getElem?_eq_getElem hlt)
      obtain ⟨g1, o1, cap1, e1, b1, _, _, q1⟩ := (h.outer.below hb).at_ m1
      generalize t[i]'(by rw [N1.out]; exact hlt) = s1 at m1 r1 q1
      injection e1 with e11 e12 e13
      clear e12
      subst e11 e13
      have p0 : wr.cell? ⟨g1, o1 + i, none⟩ = some (.slice s1.a s1.len s1.cap) := by simpa [FS] using q1 0 _ rfl
      have hs1 : ll[i].length ≤ 1048576 := Nat.le_trans (le_szLL (List.getElem_mem hlt)) hs
      have hx := upd_get ll [] i hlt
      have hti : i < t'.length := by rw [ho.len]; exact (List.getElem?_eq_some_iff.1 hx).1
      have m2 : t'[i]? = some t'[i] := List.getElem?_eq_getElem hti
      have hz : w.heap.size < wr.heap.size := (World.ownsRow.lt ho.outer _ rfl).2
      have hf := ho.outer.frozen_
      have c0 : wr.cell? ⟨w.heap.size, i, none⟩ = some (.slice t'[i].a t'[i].len t'[i].cap) := by simpa [FS] using ho.outer.cell_ (j := 0) m2 (by decide)
      clear q1 m1 h
      go_wp2_with (go_at_call 162; refine (toLList_ct _ s1.val ll[i] (rd_up r1 hb) hs1).mono ?_; rintro e w1 ⟨s, rfl, hos, hfs, hb1⟩; obtain ⟨os1, d1, rfl⟩ := below_grows hb1; clear hb1)
      clear hf c0 p0
      go_roundw
      case rel =>
        have e := upd_step ll [] i hlt
        have hsv := (ho.grow_ os1 d1).set_sv m2 hos (fun b hb hm => by have a := hfs b hb; have c := ho.lt b hm; omega)
        rw [e] at hsv
        rw [← setCell_grow wr os1 d1 w.heap.size i (.slice s.a s.len s.cap) hz]
        refine ⟨i + 1, by omega, by go_num, ⟨_, hsv, fun b hb => ?_⟩, ?_⟩
        · rcases foot2_set hb with hb | hb
          · exact hfo b hb
          · have := hfs b hb
            omega
        · exact Below.setCell (below_grow_of hb hb.size _ _) (Nat.le_refl _) _
      case measure => simp [intOf]; omega
    · go_wp2
      go_ret
      obtain rfl : i = ll.length := by omega
      exact ⟨t', rfl, by simpa using ho, hfo, hb⟩

set_option maxHeartbeats 400000 in
theorem szLList_ct (w : World) (A : Option Addr) (n c : Nat) (k : Nat) (hn : n ≤ 9223372036854775807) (hk : k ≤ 1073741824) :
    Calls Tryz.prog 158 #[.agg #[.slice A n c], .int .i64 k] w fun e w' => e = .returned (.int .i64 (leftOf k n)) ∧ Below w.heap.size w w' := by
  by_cases h : n ≤ k
  · go_enter Tryz.func158, Tryz.ntmps158
    go_wp2
    go_ret
    exact ⟨ret_i64 ((leftOf_pos h).symm), by repeat (first | exact Below.refl _ _ | refine Below.alloc ?_ (by simp <;> omega) _ | refine below_grow_of ?_ (by simp <;> omega) _ _ | refine Below.drew ?_ | refine below_drewN ?_ _)⟩
  · go_enter Tryz.func158, Tryz.ntmps158
    go_wp2
    go_ret
    exact ⟨ret_i64 ((leftOf_neg h).symm), by repeat (first | exact Below.refl _ _ | refine Below.alloc ?_ (by simp <;> omega) _ | refine below_grow_of ?_ (by simp <;> omega) _ _ | refine Below.drew ?_ | refine below_drewN ?_ _)⟩

set_option maxHeartbeats 1000000 in
theorem szLListS_ct (w : World) (v : Value) (t : List SV) (ll : List (List LRow)) (left : Nat) (h : RdLL FLRow w w.heap.size v t ll) (hl : left ≤ 1073741824) :
    Calls Tryz.prog 84 #[v, .int .i64 left] w fun e w' => e = .returned (.int .i64 (leftOf left (szLL ll))) ∧ Below w.heap.size w w' := by
  obtain ⟨A, c, hv, q1, q2, _⟩ := id h.outer
  have N1 : Hid (t.length = ll.length) := h.len
  rw [h.len] at hv q1
  have hlt0 : ll.length ≤ 9223372036854775807 := by unfold maxLen at q2; omega
  subst hv
  clear q1 q2
  by_cases hbig : ll.length ≤ left
  case neg =>
    go_enter Tryz.func84, Tryz.ntmps84
    go_wp2
    go_ret
    exact ⟨ret_i64 (leftOf_neg (by unfold szLL; omega)).symm, Below.refl _ _⟩
  go_enter Tryz.func84, Tryz.ntmps84
  go_wp2
  go_loopw [1, 5] (fun q i wr => ∃ i' : Nat, i' ≤ ll.length ∧ i = .int .i64 i' ∧ (∃ q' : Nat, q = .int .i64 q' ∧ q' + ll.length + totLL (ll.take i') = left) ∧ Below w.heap.size w wr) (fun _ i _ => ll.length - (intOf i).toNat)
  case atStart => exact ⟨0, Nat.zero_le _, rfl, ⟨left - ll.length, by go_num, by simp [totLL]; omega⟩, Below.refl _ _⟩
  case round =>
    obtain ⟨i, hi, rfl, ⟨q, rfl, hq⟩, hb⟩ := hrel
    have HQ := Hid.mk_ hq
    clear hq
    by_cases hlt : i < ll.length
    · have m1 : t[i]? = some (t[i]'(by rw [N1.out]; exact hlt)) := List.getElem?_eq_getElem _
      obtain ⟨g1, o1, cap1, e1, b1, _, _, q1⟩ := (h.outer.below hb).at_ m1
      have r1 := h.inner i _ _ m1 (List.getElem?_eq_getElem hlt)
      generalize t[i]'(by rw [N1.out]; exact hlt) = s1 at m1 q1 r1
      injection e1 with e11 e12 e13
      clear e12
      subst e11 e13
      obtain ⟨A', c', hv', u1, u2, _⟩ := r1
      have p0 : wr.cell? ⟨g1, o1 + i, none⟩ = some (.slice A' ll[i].length c') := by
        have := q1 0 _ rfl
        rw [← hv']
        simpa [FS, SV.val] using this
      have hn1 : ll[i].length ≤ 9223372036854775807 := by unfold maxLen at u2; omega
      have ht1 := totLL_take_succ ll i hlt
      have HT : Hid (totLL (ll.take (i + 1)) = totLL (ll.take i) + ll[i].length) := ht1
      have ht2 := totLL_take_le ll (i + 1)
      have hq2 : q ≤ 1073741824 := by have := HQ.out; omega
      have hsz : szLL ll = ll.length + totLL ll := rfl
      have HS := Hid.mk_ hsz
      clear q1 m1 h ht1 hv' hsz
      by_cases hge : ll[i].length ≤ q
      · have e0 := Hid.mk_ (leftOf_pos hge)
        go_wp2_with (go_at_call 158; refine (szLList_ct _ A' ll[i].length c' q hn1 hq2).mono ?_; rw [e0.out]; rintro e w1 ⟨rfl, hb1⟩; obtain ⟨os1, d1, rfl⟩ := below_grows hb1; clear hb1)
        go_roundw
        case rel => exact ⟨i + 1, by omega, by go_num, ⟨q - ll[i].length, by go_num, by have := HQ.out; rw [HT.out]; omega⟩, below_grow_of hb hb.size _ _⟩
        case measure => simp [intOf]; omega
      · have e0 := Hid.mk_ (leftOf_neg hge)
        go_wp2_with (go_at_call 158; refine (szLList_ct _ A' ll[i].length c' q hn1 hq2).mono ?_; rw [e0.out]; rintro e w1 ⟨rfl, hb1⟩; obtain ⟨os1, d1, rfl⟩ := below_grows hb1; clear hb1)
        go_ret
        exact ⟨ret_i64 (leftOf_neg (by rw [HS.out]; have := HQ.out; have := HT.out; omega)).symm, below_grow_of hb hb.size _ _⟩
    · go_wp2
      go_ret
      obtain rfl : i = ll.length := by omega
      have hq := HQ.out
      rw [List.take_length] at hq
      exact ⟨ret_i64 (by rw [leftOf_pos (by unfold szLL; unfold totLL at hq; omega)]; unfold szLL; unfold totLL at hq; omega), hb⟩
theorem toLListS_w (w : World) (K : SV) (t : List SV) (ll : List (List LRow)) (h : RdLL FLRow w w.heap.size K.val t ll) (hs : szLL ll ≤ 1048576) :
    Calls Tryz.prog 87 #[.slice K.a K.len K.cap] w fun e w' => ∃ (K' : SV) (t' : List SV), e = .returned (.slice K'.a K'.len K'.cap) ∧ OwLL FLRow 99 129 w' K'.val t' ll ∧ (∀ g ∈ foot2 K'.val t', w.heap.size ≤ g) ∧ Below w.heap.size w w' :=
  (toLListS_ct w _ t ll h hs).mono fun _ _ ⟨t', a, b, c, d⟩ => ⟨⟨_, _, _⟩, t', a, b, c, d⟩
theorem eqLListS_w (w : World) (K1 : SV) (t1 : List SV) (K2 : SV) (t2 : List SV) (ll : List (List LRow)) (h1 : RdLL FLRow w w.heap.size K1.val t1 ll) (h2 : RdLL FLRow w w.heap.size K2.val t2 ll) (hs : szLL ll ≤ 1073741824) :
    Calls Tryz.prog 98 #[.slice K1.a K1.len K1.cap, .slice K2.a K2.len K2.cap] w fun e w' => e = .returned (.bool true) ∧ Below w.heap.size w w' := eqLListS_ct w _ _ t1 t2 ll h1 h2 hs
theorem szLListS_w (w : World) (K : SV) (t : List SV) (ll : List (List LRow)) (k : Nat) (h : RdLL FLRow w w.heap.size K.val t ll) (hk : k ≤ 1073741824) :
    Calls Tryz.prog 84 #[.slice K.a K.len K.cap, .int .i64 k] w fun e w' => e = .returned (.int .i64 (leftOf k (szLL ll))) ∧ Below w.heap.size w w' := szLListS_ct w _ t ll k h hk
theorem markLListS_w (w : World) (K : SV) (t : List SV) (ll : List (List LRow)) (k : Int) (h : OwLL FLRow 99 129 w K.val t ll) (hk0 : 0 ≤ k) (hk1 : k + ((totLL ll * 2 : Nat) : Int) ≤ 4611686018427387904) :
    Calls Tryz.prog 102 #[.slice K.a K.len K.cap, .int .i64 k] w fun e w' => e = .returned (.int .i64 (k + ((totLL ll * 2 : Nat) : Int))) ∧ OwLL FLRow 99 129 w' K.val t (markLL mkLRow 2 ll k) ∧ Chg (foot2 K.val t) w w' :=
  (markLListS_ct w _ t ll k h hk0 (by omega)).mono fun _ _ ⟨a, b, c⟩ => ⟨a.trans (ret_i64 (by omega)), b, c⟩