/-
  Limbo lists: new, compared, marked, held.
-/
import Derived.Test.YtcnnjcbcbpfcgaaT
import Derived.Test.YtcnnjcbcbpfcgaaL
import Derived.Deep.QuietTactic
import Derived.BigQuiet
import Derived.Deep.LoopGhost
import Derived.Deep.RegionHeld3
import Derived.Test.YtcnnjcbcbpfcgaaN
import Derived.Test.YtcnnjcbcbpfcgaaJ
namespace Go.Proofs.Ytcnnjcbcbpfcgaa
open Go.RowKit
theorem Try.infoLList : (Try.prog.info? 76).map (fun i => (i.zero, i.size, i.bytes)) = some (some (.agg #[.slice none 0 0]), FS.n, 24) := by kernel_rfl

set_option maxHeartbeats 400000 in
theorem LimboNew_spec (w : World) : Calls Try.prog 40 #[] w fun e w' => ∃ v t, e = .returned v ∧ OwLL FLRow 25 76 w' v t [[], [], []] ∧ (∀ g ∈ foot2 v t, w.heap.size ≤ g) ∧ Below w.heap.size w w' := by
  have hmk : ∀ w, (Instr.makeSlice 50 (.int .i64 3) (.int .i64 3)).run Try.prog w = .ok (.slice (some ⟨w.heap.size, 0, none⟩) 3 3) (w.alloc (.cells (madeCells #[.slice none 0 0] (3 * FS.n)) 76)) := run_make_flat (P := Try.prog) FS 50 76 (.agg #[.slice none 0 0]) 24 Try.underlying50 Try.infoLList 3 (by omega) (by omega)
  go_enter Try.func40, Try.ntmps40
  go_wp2
  go_ret
  exact ⟨_, _, rfl, OwLL.made #[.slice none 0 0] rfl 3 (by simp [maxLen]) w FLRow 25 76, foot2_made _ 3, (Below.refl _ _).alloc (Nat.le_refl _) _⟩

set_option maxHeartbeats 400000 in
theorem LimboNew_impl (w : World) : Calls Try.prog 41 #[] w fun e w' => ∃ v t, e = .returned v ∧ OwLL FLRow 25 76 w' v t [[], [], []] ∧ (∀ g ∈ foot2 v t, w.heap.size ≤ g) ∧ Below w.heap.size w w' := by
  have hmk : ∀ w, (Instr.makeSlice 50 (.int .i64 3) (.int .i64 3)).run Try.prog w = .ok (.slice (some ⟨w.heap.size, 0, none⟩) 3 3) (w.alloc (.cells (madeCells #[.slice none 0 0] (3 * FS.n)) 76)) := run_make_flat (P := Try.prog) FS 50 76 (.agg #[.slice none 0 0]) 24 Try.underlying50 Try.infoLList 3 (by omega) (by omega)
  go_enter Try.func41, Try.ntmps41
  go_wp2
  go_ret
  exact ⟨_, _, rfl, OwLL.made #[.slice none 0 0] rfl 3 (by simp [maxLen]) w FLRow 25 76, foot2_made _ 3, (Below.refl _ _).alloc (Nat.le_refl _) _⟩

set_option maxHeartbeats 2000000 in
theorem eqLRow_ct (a0 a1 : Int) (w : World) : Calls Try.prog 78 #[.agg #[.int .i64 a0, .int .i64 a1], .agg #[.int .i64 a0, .int .i64 a1]] w fun e w' => e = .returned (.bool true) ∧ Below w.heap.size w w' := by
  go_enter Try.func78, Try.ntmps78
  go_wp2
  go_ret
  exact ⟨rfl, by repeat (first | exact Below.refl _ _ | refine Below.alloc ?_ (by simp <;> omega) _ | refine below_grow_of ?_ (by simp <;> omega) _ _ | refine Below.drew ?_)⟩

set_option maxHeartbeats 1000000 in
theorem eqLRowS_ct (w : World) (v1 v2 : Value) (l : List LRow) (h1 : RdL FLRow w w.heap.size v1 l) (h2 : RdL FLRow w w.heap.size v2 l) (hs : l.length ≤ 1073741824) :
    Calls Try.prog 76 #[v1, v2] w fun e w' => e = .returned (.bool true) ∧ Below w.heap.size w w' := by
  obtain ⟨A1, c1, hv1, _⟩ := id h1
  obtain ⟨A2, c2, hv2, _⟩ := id h2
  subst hv1 hv2
  go_enter Try.func76, Try.ntmps76
  go_wp2
  go_loopw [5] (fun i wr => ∃ k : Nat, k ≤ l.length ∧ i = .int .i64 k ∧ Below w.heap.size w wr) (fun i _ => l.length - (intOf i).toNat)
  case atStart => exact ⟨0, Nat.zero_le _, rfl, Below.refl _ _⟩
  case round =>
    obtain ⟨i, hk, rfl, hb⟩ := hrel
    by_cases hlt : i < l.length
    · obtain ⟨g1, o1, cap1, e1, b1, _, _, q1⟩ := (h1.below hb).at_ (List.getElem?_eq_getElem hlt)
      obtain ⟨g2, o2, cap2, e2, b2, _, _, q2⟩ := (h2.below hb).at_ (List.getElem?_eq_getElem hlt)
      injection e1 with e11 _ e13
      injection e2 with e21 _ e23
      subst e11 e13 e21 e23
      have z1 : g1 < wr.heap.size := Nat.lt_of_lt_of_le b1 hb.size
      have z0 : w.heap.size ≤ wr.heap.size := hb.size
      have z2 : g2 < wr.heap.size := Nat.lt_of_lt_of_le b2 hb.size
      have p0 : wr.cell? ⟨g1, o1 + i * 2, none⟩ = some (.int .i64 l[i].Handle) := q1 0 _ rfl
      have p1 : wr.cell? ⟨g1, o1 + i * 2 + 1, none⟩ = some (.int .i64 l[i].Epoch) := q1 1 _ rfl
      have r0 : wr.cell? ⟨g2, o2 + i * 2, none⟩ = some (.int .i64 l[i].Handle) := q2 0 _ rfl
      have r1 : wr.cell? ⟨g2, o2 + i * 2 + 1, none⟩ = some (.int .i64 l[i].Epoch) := q2 1 _ rfl
      clear q1 q2
      go_wp2
      go_region_held3 (fun w' => w'.cell? ⟨g1, o1 + i * 2, none⟩ = some (.int .i64 l[i].Handle) ∧ w'.cell? ⟨g1, o1 + i * 2 + 1, none⟩ = some (.int .i64 l[i].Epoch) ∧ w'.cell? ⟨g2, o2 + i * 2, none⟩ = some (.int .i64 l[i].Handle) ∧ w'.cell? ⟨g2, o2 + i * 2 + 1, none⟩ = some (.int .i64 l[i].Epoch) ∧ g1 < w'.heap.size ∧ g2 < w'.heap.size ∧ Below w.heap.size w w') (first | (go_keep; done) | ((try go_split_ands); refine ⟨?_, ?_, ?_, ?_, ?_, ?_, ?_⟩; all_goals first | assumption | exact Below.drew (by assumption) | (simp [go_sem, *]; done) | exact below_grow_of (by assumption) (by omega) _ _ | (rw [size_grow]; omega))) ((go_at_call 78; refine (eqLRow_ct _ _ _).mono ?_; rintro e w1 ⟨rfl, hb1⟩; obtain ⟨os1, d1, rfl⟩ := below_grows hb1; clear hb1))
      go_wp2
      go_roundw
      case rel => exact ⟨i + 1, by omega, by go_num, by first | assumption | (try go_split_ands; assumption)⟩
      case measure => simp [intOf]; omega
    · go_wp2
      go_ret
      exact ⟨rfl, hb⟩

set_option maxHeartbeats 400000 in
theorem eqLList_ct (w : World) (v1 v2 : Value) (l : List LRow) (h1 : RdL FLRow w w.heap.size v1 l) (h2 : RdL FLRow w w.heap.size v2 l) (hs : l.length ≤ 1073741824) :
    Calls Try.prog 63 #[.agg #[v1], .agg #[v2]] w fun e w' => e = .returned (.bool true) ∧ Below w.heap.size w w' := by
  obtain ⟨A1, c1, hv1, _⟩ := id h1
  obtain ⟨A2, c2, hv2, _⟩ := id h2
  subst hv1 hv2
  go_enter Try.func63, Try.ntmps63
  go_wp2_with (go_at_call 76; refine (eqLRowS_ct _ _ _ l (rd_up h1 (by repeat (first | exact Below.refl _ _ | refine Below.alloc ?_ (by simp <;> omega) _ | refine below_grow_of ?_ (by simp <;> omega) _ _ | refine Below.drew ?_))) (rd_up h2 (by repeat (first | exact Below.refl _ _ | refine Below.alloc ?_ (by simp <;> omega) _ | refine below_grow_of ?_ (by simp <;> omega) _ _ | refine Below.drew ?_))) hs).mono ?_; rintro e w1 ⟨rfl, hb1⟩; obtain ⟨os1, d1, rfl⟩ := below_grows hb1; clear hb1)
  go_ret
  exact ⟨rfl, by repeat (first | exact Below.refl _ _ | refine Below.alloc ?_ (by simp <;> omega) _ | refine below_grow_of ?_ (by simp <;> omega) _ _ | refine Below.drew ?_)⟩

set_option maxHeartbeats 1000000 in
theorem eqLListS_ct (w : World) (v1 v2 : Value) (t1 t2 : List SV) (ll : List (List LRow)) (h1 : RdLL FLRow w w.heap.size v1 t1 ll) (h2 : RdLL FLRow w w.heap.size v2 t2 ll) (hs : szLL ll ≤ 1073741824) :
    Calls Try.prog 42 #[v1, v2] w fun e w' => e = .returned (.bool true) ∧ Below w.heap.size w w' := by
  obtain ⟨A1, c1, hv1, _⟩ := id h1.outer
  obtain ⟨A2, c2, hv2, _⟩ := id h2.outer
  have n1 := h1.len
  have n2 := h2.len
  rw [n1] at hv1
  rw [n2] at hv2
  have hs0 : ll.length ≤ 1073741824 := Nat.le_trans (Nat.le_add_right _ _) hs
  subst hv1 hv2
  have N1 : Hid (t1.length = ll.length) := n1
  have N2 : Hid (t2.length = ll.length) := n2
  clear n1 n2
  go_enter Try.func42, Try.ntmps42
  go_wp2
  go_loopw [5] (fun i wr => ∃ k : Nat, k ≤ ll.length ∧ i = .int .i64 k ∧ Below w.heap.size w wr) (fun i _ => ll.length - (intOf i).toNat)
  case atStart => exact ⟨0, Nat.zero_le _, rfl, Below.refl _ _⟩
  case round =>
    obtain ⟨i, hk, rfl, hb⟩ := hrel
    by_cases hlt : i < ll.length
    · have m1 : t1[i]? = some (t1[i]'(by rw [N1.out]; exact hlt)) := List.getElem?_eq_getElem _
      have m2 : t2[i]? = some (t2[i]'(by rw [N2.out]; exact hlt)) := List.getElem?_eq_getElem _
      have r1 := h1.inner i _ _ m1 (List.getElem?_eq_getElem hlt)
      have r2 := h2.inner i _ _ m2 (List.getElem?_eq_getElem hlt)
      obtain ⟨g1, o1, cap1, e1, b1, _, _, q1⟩ := (h1.outer.below hb).at_ m1
      obtain ⟨g2, o2, cap2, e2, b2, _, _, q2⟩ := (h2.outer.below hb).at_ m2
      generalize t1[i]'(by rw [N1.out]; exact hlt) = s1 at m1 r1 q1
      generalize t2[i]'(by rw [N2.out]; exact hlt) = s2 at m2 r2 q2
      injection e1 with e11 e12 e13
      injection e2 with e21 e22 e23
      clear e12 e22
      subst e11 e13 e21 e23
      have z1 : g1 < wr.heap.size := Nat.lt_of_lt_of_le b1 hb.size
      have z0 : w.heap.size ≤ wr.heap.size := hb.size
      have z2 : g2 < wr.heap.size := Nat.lt_of_lt_of_le b2 hb.size
      have p0 : wr.cell? ⟨g1, o1 + i, none⟩ = some (.slice s1.a s1.len s1.cap) := by simpa [FS] using q1 0 _ rfl
      have r0 : wr.cell? ⟨g2, o2 + i, none⟩ = some (.slice s2.a s2.len s2.cap) := by simpa [FS] using q2 0 _ rfl
      have hs1 : ll[i].length ≤ 1073741824 := Nat.le_trans (le_szLL (List.getElem_mem hlt)) hs
      clear q1 q2 m1 m2
      go_wp2
      go_region_held3 (fun w' => w'.cell? ⟨g1, o1 + i, none⟩ = some (.slice s1.a s1.len s1.cap) ∧ w'.cell? ⟨g2, o2 + i, none⟩ = some (.slice s2.a s2.len s2.cap) ∧ g1 < w'.heap.size ∧ g2 < w'.heap.size ∧ Below w.heap.size w w') (first | (go_keep; done) | ((try go_split_ands); refine ⟨?_, ?_, ?_, ?_, ?_⟩; all_goals first | assumption | exact Below.drew (by assumption) | (simp [go_sem, *]; done) | exact below_grow_of (by assumption) (by omega) _ _ | (rw [size_grow]; omega))) ((go_at_call 63; refine (eqLList_ct _ _ _ _ (rd_up r1 (by go_split_ands; assumption)) (rd_up r2 (by go_split_ands; assumption)) hs1).mono ?_; rintro e w1 ⟨rfl, hb1⟩; obtain ⟨os1, d1, rfl⟩ := below_grows hb1; clear hb1))
      go_wp2
      go_roundw
      case rel => exact ⟨i + 1, by omega, by go_num, by first | assumption | (try go_split_ands; assumption)⟩
      case measure => simp [intOf]; omega
    · go_wp2
      go_ret
      exact ⟨rfl, hb⟩
def mkLRow (k : Int) : LRow := ⟨k, k + 1⟩

set_option maxHeartbeats 1000000 in
theorem markLRowS_ct (w : World) (v : Value) (l : List LRow) (k : Int) (h : OwL FLRow 25 w v l) (hk0 : 0 ≤ k) (hk1 : (k + (l.length : Int) * 2) ≤ 4611686018427387904) :
    Calls Try.prog 64 #[v, .int .i64 k] w fun e w' => e = .returned (.int .i64 (k + (l.length : Int) * 2)) ∧ OwL FLRow 25 w' v (marks mkLRow 2 l l.length k) ∧ w.grownBy w' v.ownBlock ∧ w'.heap.size = w.heap.size := by
  rcases h.form with ⟨rfl, rfl⟩ | ⟨g, cap, hv, hg, hl, hc⟩
  · go_enter Try.func64, Try.ntmps64
    go_wp2
    go_loop [1, 5] (fun q i => q = .int .i64 k ∧ i = .int .i64 0) (fun _ _ => 0)
    case atStart => exact ⟨rfl, rfl⟩
    case round =>
      obtain ⟨rfl, rfl⟩ := hrel
      go_wp2
      go_ret
      exact ⟨by simp, h, World.grownBy.refl _ _, rfl⟩
  subst hv
  go_enter Try.func64, Try.ntmps64
  go_wp2
  go_loopw [1, 5] (fun q i wr => ∃ i' : Nat, i' ≤ l.length ∧ i = .int .i64 i' ∧ q = .int .i64 (k + (i' : Int) * 2) ∧ OwL FLRow 25 wr (.slice (some ⟨g, 0, none⟩) l.length cap) (marks mkLRow 2 l i' k) ∧ w.grownBy wr (some g) ∧ wr.heap.size = w.heap.size) (fun _ i _ => l.length - (intOf i).toNat)
  case atStart => exact ⟨0, Nat.zero_le _, rfl, by simp, h, World.grownBy.refl _ _, rfl⟩
  case round =>
    obtain ⟨i, hi, rfl, rfl, ho, hgr, hsz⟩ := hrel
    by_cases hlt : i < l.length
    · have hx := marks_get mkLRow 2 l i k hlt
      have hf := ho.frozen_
      have c0 : wr.cell? ⟨g, i * 2, none⟩ = some (.int .i64 l[i].Handle) := ho.cell_ (j := 0) hx (by decide)
      have c1 : wr.cell? ⟨g, i * 2 + 1, none⟩ = some (.int .i64 l[i].Epoch) := ho.cell_ (j := 1) hx (by decide)
      clear h
      go_wp2
      clear hf c0 c1
      go_roundw
      case rel =>
        have s0 := ho.set_ (j := 0) (y := (⟨(k + (i : Int) * 2), l[i].Epoch⟩ : LRow)) (u := .int .i64 (k + (i : Int) * 2)) hx (by decide) rfl
        have s1 := s0.set_ (j := 1) (y := (⟨(k + (i : Int) * 2), (k + (i : Int) * 2 + 1)⟩ : LRow)) (u := .int .i64 (k + (i : Int) * 2 + 1)) (set_get (⟨(k + (i : Int) * 2), l[i].Epoch⟩ : LRow) hx) (by decide) rfl
        refine ⟨i + 1, by omega, by go_num, by go_num, ?_, grown_set (grown_set (hgr) _ _) _ _, by simp [hsz]⟩
        simp only [List.set_set] at s1
        have e := marks_step mkLRow 2 l i k hlt
        rw [← e]
        exact s1
      case measure => simp [intOf]; omega
    · go_wp2
      go_ret
      obtain rfl : i = l.length := by omega
      exact ⟨rfl, ho, hgr, hsz⟩

set_option maxHeartbeats 1000000 in
theorem heldLRowS_ct (w : World) (v : Value) (l : List LRow) (k : Int) (h : RdL FLRow w w.heap.size v (marks mkLRow 2 l l.length k)) (hk0 : 0 ≤ k) (hk1 : (k + (l.length : Int) * 2) ≤ 4611686018427387904) :
    Calls Try.prog 65 #[v, .int .i64 k] w fun e w' => e = .returned (.int .i64 (k + (l.length : Int) * 2)) ∧ Below w.heap.size w w' := by
  obtain ⟨A, cap, hv, _⟩ := id h
  rw [marks_length] at hv
  subst hv
  go_enter Try.func65, Try.ntmps65
  go_wp2
  go_loopw [1, 5] (fun q i wr => ∃ i' : Nat, i' ≤ l.length ∧ i = .int .i64 i' ∧ q = .int .i64 (k + (i' : Int) * 2) ∧ Below w.heap.size w wr) (fun _ i _ => l.length - (intOf i).toNat)
  case atStart => exact ⟨0, Nat.zero_le _, rfl, by simp, Below.refl _ _⟩
  case round =>
    obtain ⟨i, hi, rfl, rfl, hb⟩ := hrel
    by_cases hlt : i < l.length
    · obtain ⟨g, off, cap', he, _, _, _, hq⟩ := (h.below hb).at_ (marks_at mkLRow 2 l k i hlt)
      injection he with he1 he2 he3
      clear he2
      subst he1 he3
      have c0 : wr.cell? ⟨g, off + i * 2, none⟩ = some (.int .i64 (k + (i : Int) * 2)) := hq 0 _ rfl
      have c1 : wr.cell? ⟨g, off + i * 2 + 1, none⟩ = some (.int .i64 (k + (i : Int) * 2 + 1)) := hq 1 _ rfl
      clear hq
      go_wp2
      all_goals
        go_roundw
        case rel => exact ⟨i + 1, by omega, by go_num, by go_num, by first | exact hb | exact below_drewN hb _⟩
        case measure => simp [intOf]; omega
    · go_wp2
      go_ret
      obtain rfl : i = l.length := by omega
      exact ⟨rfl, hb⟩

set_option maxHeartbeats 1000000 in
theorem markLListS_ct (w : World) (v : Value) (t : List SV) (ll : List (List LRow)) (k : Int) (h : OwLL FLRow 25 76 w v t ll) (hk0 : 0 ≤ k) (hk1 : (k + (totLL ll : Int) * 2) ≤ 4611686018427387904) :
    Calls Try.prog 43 #[v, .int .i64 k] w fun e w' => e = .returned (.int .i64 (k + (totLL ll : Int) * 2)) ∧ OwLL FLRow 25 76 w' v t (markLL mkLRow 2 ll k) ∧ Chg (foot2 v t) w w' := by
  obtain ⟨A, c, hv, _⟩ := id h.rd'.outer
  rw [h.len] at hv
  have hlt0 : ll.length ≤ 9223372036854775807 := by
    have := h.rd'.outer
    obtain ⟨_, c', _, q1, q2, _⟩ := this
    rw [h.len] at q1
    unfold maxLen at q2
    omega
  subst hv
  go_enter Try.func43, Try.ntmps43
  go_wp2
  go_loopw [1, 5] (fun q i wr => ∃ i' : Nat, i' ≤ ll.length ∧ i = .int .i64 i' ∧ q = .int .i64 (k + (totLL (ll.take i') : Int) * 2) ∧ OwLL FLRow 25 76 wr (.slice A ll.length c) t (marksLL mkLRow 2 ll i' k) ∧ Chg (foot2 (.slice A ll.length c) t) w wr) (fun _ i _ => ll.length - (intOf i).toNat)
  case atStart => exact ⟨0, Nat.zero_le _, rfl, by simp [totLL], h, Chg.refl _ _⟩
  case round =>
    obtain ⟨i, hi, rfl, rfl, ho, hch⟩ := hrel
    by_cases hlt : i < ll.length
    · have hT : Hid (t.length = ll.length) := h.len
      have m1 : t[i]? = some (t[i]'(by rw [hT.out]; exact hlt)) := List.getElem?_eq_getElem _
      generalize t[i]'(by rw [hT.out]; exact hlt) = s at m1
      have ro := ho.inner i s _ m1 (marksLL_get mkLRow 2 ll i k hlt)
      obtain ⟨g, o1, cap1, e1, b1, _, _, q1⟩ := ho.rd'.outer.at_ m1
      injection e1 with e11 e12 e13
      clear e12
      subst e11 e13
      have p0 : wr.cell? ⟨g, o1 + i, none⟩ = some (.slice s.a s.len s.cap) := by simpa [FS] using q1 0 _ rfl
      have ht1 := totLL_take_succ ll i hlt
      have ht2 := totLL_take_le ll (i + 1)
      have HT : Hid (totLL (ll.take (i + 1)) = totLL (ll.take i) + ll[i].length) := ht1
      have kb : k + (totLL (ll.take i) : Int) * 2 + (ll[i].length : Int) * 2 ≤ 4611686018427387904 := by omega
      have k0 : 0 ≤ k + (totLL (ll.take i) : Int) * 2 := by omega
      clear q1 ht1 h
      go_wp2_with (go_at_call 64; refine (markLRowS_ct _ s.val ll[i] _ ro (by omega) (by omega)).mono ?_; rintro e w1 ⟨rfl, ho1, hg1, hs1⟩)
      go_roundw
      case rel =>
        refine ⟨i + 1, by omega, by go_num, by rw [HT.out]; go_num, ?_, hch.trans ((Chg.of_grown hg1).mono fun g hg => mem_foot2.2 (.inr ⟨s, List.mem_of_getElem? m1, mem_foot1.1 hg⟩))⟩
        have e := marksLL_step mkLRow 2 ll i k hlt
        rw [← e]
        refine ho.set_row m1 ?_ (Chg.of_grown hg1)
        exact ho1
      case measure => simp [intOf]; omega
    · go_wp2
      go_ret
      obtain rfl : i = ll.length := by omega
      exact ⟨by simp, by rw [← marksLL_all]; exact ho, hch⟩

set_option maxHeartbeats 1000000 in
theorem heldLListS_ct (w : World) (v : Value) (t : List SV) (ll : List (List LRow)) (k : Int) (h : RdLL FLRow w w.heap.size v t (markLL mkLRow 2 ll k)) (hk0 : 0 ≤ k) (hk1 : (k + (totLL ll : Int) * 2) ≤ 4611686018427387904) :
    Calls Try.prog 44 #[v, .int .i64 k] w fun e w' => e = .returned (.int .i64 (k + (totLL ll : Int) * 2)) ∧ Below w.heap.size w w' := by
  obtain ⟨A, c, hv, q1, q2, _⟩ := id h.outer
  have hlen : t.length = ll.length := h.len.trans (length_markLL _ _ _ _)
  rw [hlen] at hv q1
  have hlt0 : ll.length ≤ 9223372036854775807 := by
    unfold maxLen at q2
    omega
  subst hv
  have hT : Hid (t.length = ll.length) := hlen
  clear hlen
  go_enter Try.func44, Try.ntmps44
  go_wp2
  go_loopw [1, 5] (fun q i wr => ∃ i' : Nat, i' ≤ ll.length ∧ i = .int .i64 i' ∧ q = .int .i64 (k + (totLL (ll.take i') : Int) * 2) ∧ Below w.heap.size w wr) (fun _ i _ => ll.length - (intOf i).toNat)
  case atStart => exact ⟨0, Nat.zero_le _, rfl, by simp [totLL], Below.refl _ _⟩
  case round =>
    obtain ⟨i, hi, rfl, rfl, hb⟩ := hrel
    by_cases hlt : i < ll.length
    · have m1 : t[i]? = some (t[i]'(by rw [hT.out]; exact hlt)) := List.getElem?_eq_getElem _
      generalize t[i]'(by rw [hT.out]; exact hlt) = s at m1
      have ro := rd_up (h.inner i s _ m1 (markLL_get mkLRow 2 ll i k hlt)) hb
      obtain ⟨g, o1, cap1, e1, b1, _, _, q1⟩ := (h.outer.below hb).at_ m1
      injection e1 with e11 e12 e13
      clear e12
      subst e11 e13
      have p0 : wr.cell? ⟨g, o1 + i, none⟩ = some (.slice s.a s.len s.cap) := by simpa [FS] using q1 0 _ rfl
      have ht1 := totLL_take_succ ll i hlt
      have ht2 := totLL_take_le ll (i + 1)
      have HT : Hid (totLL (ll.take (i + 1)) = totLL (ll.take i) + ll[i].length) := ht1
      have kb : k + (totLL (ll.take i) : Int) * 2 + (ll[i].length : Int) * 2 ≤ 4611686018427387904 := by omega
      have k0 : 0 ≤ k + (totLL (ll.take i) : Int) * 2 := by omega
      clear q1 ht1 h
      go_wp2_with (go_at_call 65; refine (heldLRowS_ct _ s.val ll[i] _ ro (by omega) (by omega)).mono ?_; rintro e w1 ⟨rfl, hb1⟩; obtain ⟨os1, d1, rfl⟩ := below_grows hb1; clear hb1)
      go_roundw
      case rel => exact ⟨i + 1, by omega, by go_num, by rw [HT.out]; go_num, below_grow_of hb hb.size _ _⟩
      case measure => simp [intOf]; omega
    · go_wp2
      go_ret
      obtain rfl : i = ll.length := by omega
      exact ⟨by simp, hb⟩
end Go.Proofs.Ytcnnjcbcbpfcgaa
