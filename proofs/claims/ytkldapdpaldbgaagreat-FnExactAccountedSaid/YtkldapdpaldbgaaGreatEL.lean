/-
  Lists of ints, lists of lists: compared, made, measured, marked.
-/
import Derived.Test.YtkldapdpaldbgaaGreatT
import Derived.Test.YtkldapdpaldbgaaGreatL
import Derived.Deep.QuietTactic
import Derived.BigQuiet
import Derived.Deep.LoopGhost
import Derived.Deep.RegionHeld3
import Derived.Test.YtkldapdpaldbgaaGreatN
import Derived.Test.YtkldapdpaldbgaaGreatA
import Derived.WalkSpells
import Derived.Laws.Cover3
import Derived.Test.YtkldapdpaldbgaaGreatVM
import Derived.Test.YtkldapdpaldbgaaGreatP
import Derived.Test.YtkldapdpaldbgaaGreatBX
namespace Go.Proofs.YtkldapdpaldbgaaGreat
open Go.RowKit

set_option maxHeartbeats 400000 in
theorem szIntS_ct (w : World) (A : Option Addr) (n c : Nat) (k : Nat) (hn : n ≤ 9223372036854775807) (hk : k ≤ 1073741824) :
    Calls Tryz.prog 61 #[.slice A n c, .int .i64 k] w fun e w' => e = .returned (.int .i64 (leftOf k n)) ∧ Below w.heap.size w w' := by
  by_cases h : n ≤ k
  · go_enter Tryz.func61, Tryz.ntmps61
    go_wp2
    go_ret
    exact ⟨ret_i64 (leftOf_pos h).symm, by repeat (first | exact Below.refl _ _ | refine Below.alloc ?_ (by simp <;> omega) _ | refine below_grow_of ?_ (by simp <;> omega) _ _ | refine Below.drew ?_ | refine below_drewN ?_ _)⟩
  · go_enter Tryz.func61, Tryz.ntmps61
    go_wp2
    go_ret
    exact ⟨ret_i64 (leftOf_neg h).symm, by repeat (first | exact Below.refl _ _ | refine Below.alloc ?_ (by simp <;> omega) _ | refine below_grow_of ?_ (by simp <;> omega) _ _ | refine Below.drew ?_ | refine below_drewN ?_ _)⟩

set_option maxHeartbeats 400000 in
theorem eqSList_ct (w : World) (v1 v2 : Value) (l : List Int) (h1 : RdL FI w w.heap.size v1 l) (h2 : RdL FI w w.heap.size v2 l) (hs : l.length ≤ 1073741824) :
    Calls Tryz.prog 282 #[.agg #[v1], .agg #[v2]] w fun e w' => e = .returned (.bool true) ∧ Below w.heap.size w w' := by
  obtain ⟨A1, c1, hv1, _⟩ := id h1
  obtain ⟨A2, c2, hv2, _⟩ := id h2
  subst hv1 hv2
  go_enter Tryz.func282, Tryz.ntmps282
  go_wp2_with (go_at_call 34; refine (eqIntS_ct _ _ _ l (rd_up h1 (by repeat (first | exact Below.refl _ _ | refine Below.alloc ?_ (by simp <;> omega) _ | refine below_grow_of ?_ (by simp <;> omega) _ _ | refine Below.drew ?_ | refine below_drewN ?_ _))) (rd_up h2 (by repeat (first | exact Below.refl _ _ | refine Below.alloc ?_ (by simp <;> omega) _ | refine below_grow_of ?_ (by simp <;> omega) _ _ | refine Below.drew ?_ | refine below_drewN ?_ _))) hs).mono ?_; rintro e w1 ⟨rfl, hb1⟩; obtain ⟨os1, d1, rfl⟩ := below_grows hb1; clear hb1)
  go_ret
  exact ⟨rfl, by repeat (first | exact Below.refl _ _ | refine Below.alloc ?_ (by simp <;> omega) _ | refine below_grow_of ?_ (by simp <;> omega) _ _ | refine Below.drew ?_ | refine below_drewN ?_ _)⟩

set_option maxHeartbeats 1000000 in
theorem eqSListS_ct (w : World) (v1 v2 : Value) (t1 t2 : List SV) (ll : List (List Int)) (h1 : RdLL FI w w.heap.size v1 t1 ll) (h2 : RdLL FI w w.heap.size v2 t2 ll) (hs : szLL ll ≤ 1073741824) :
    Calls Tryz.prog 242 #[v1, v2] w fun e w' => e = .returned (.bool true) ∧ Below w.heap.size w w' := by
  obtain ⟨A1, c1, hv1, _⟩ := id h1.outer
  obtain ⟨A2, c2, hv2, _⟩ := id h2.outer
  have n1 := h1.len
  have n2 := h2.len
  rw [n1] at hv1
  rw [n2] at hv2
  have hs0 : ll.length ≤ 1073741824 := Nat.le_trans (Nat.le_add_right _ _) hs
  subst hv1 hv2
  have N1 : Hid (t1.length = ll.length) := n1
  have N2 : Hid (t2.length = ll.length) := n2
  clear n1 n2
  go_enter Tryz.func242, Tryz.ntmps242
  go_wp2
  go_loopw [5] (fun i wr => ∃ k : Nat, k ≤ ll.length ∧ i = .int .i64 k ∧ Below w.heap.size w wr) (fun i _ => ll.length - (intOf i).toNat)
  case atStart => exact ⟨0, Nat.zero_le _, rfl, Below.refl _ _⟩
  case round =>
    obtain ⟨i, hk, rfl, hb⟩ := hrel
    by_cases hlt : i < ll.length
    · have m1 : t1[i]? = some (t1[i]'(by rw [N1.out]; exact hlt)) := List.getElem?_eq_getElem _
      have m2 : t2[i]? = some (t2[i]'(by rw [N2.out]; exact hlt)) := List.getElem?_eq_getElem _
      have r1 := h1.inner i _ _ m1 (List.getElem?_eq_getElem hlt)
      have r2 := h2.inner i _ _ m2 (List.getElem?_eq_getElem hlt)
      obtain ⟨g1, o1, cap1, e1, b1, _, _, q1⟩ := (h1.outer.below hb).at_ m1
      obtain ⟨g2, o2, cap2, e2, b2, _, _, q2⟩ := (h2.outer.below hb).at_ m2
      generalize t1[i]'(by rw [N1.out]; exact hlt) = s1 at m1 r1 q1
      generalize t2[i]'(by rw [N2.out]; exact hlt) = s2 at m2 r2 q2
      injection e1 with e11 e12 e13
      injection e2 with e21 e22 e23
      clear e12 e22
      subst e11 e13 e21 e23
      have z1 : g1 < wr.heap.size := Nat.lt_of_lt_of_le b1 hb.size
      have z0 : w.heap.size ≤ wr.heap.size := hb.size
      have z2 : g2 < wr.heap.size := Nat.lt_of_lt_of_le b2 hb.size
      have p0 : wr.cell? ⟨g1, o1 + i, none⟩ = some (.slice s1.a s1.len s1.cap) := by simpa [FS] using q1 0 _ rfl
      have r0 : wr.cell? ⟨g2, o2 + i, none⟩ = some (.slice s2.a s2.len s2.cap) := by simpa [FS] using q2 0 _ rfl
      have hs1 : ll[i].length ≤ 1073741824 := Nat.le_trans (le_szLL (List.getElem_mem hlt)) hs
      clear q1 q2 m1 m2
      go_wp2
      go_region_held3 (fun w' => w'.cell? ⟨g1, o1 + i, none⟩ = some (.slice s1.a s1.len s1.cap) ∧ w'.cell? ⟨g2, o2 + i, none⟩ = some (.slice s2.a s2.len s2.cap) ∧ g1 < w'.heap.size ∧ g2 < w'.heap.size ∧ Below w.heap.size w w') (first | (go_keep; done) | ((try go_split_ands); refine ⟨?_, ?_, ?_, ?_, ?_⟩; all_goals first | assumption | exact Below.drew (by assumption) | (simp [go_sem, *]; done) | exact below_grow_of (by assumption) (by omega) _ _ | (rw [size_grow]; omega))) ((go_at_call 282; refine (eqSList_ct _ _ _ _ (rd_up r1 (by go_split_ands; assumption)) (rd_up r2 (by go_split_ands; assumption)) hs1).mono ?_; rintro e w1 ⟨rfl, hb1⟩; obtain ⟨os1, d1, rfl⟩ := below_grows hb1; clear hb1))
      go_wp2
      go_roundw
      case rel => exact ⟨i + 1, by omega, by go_num, by first | assumption | (try go_split_ands; assumption)⟩
      case measure => simp [intOf]; omega
    · go_wp2
      go_ret
      exact ⟨rfl, hb⟩

set_option maxHeartbeats 1000000 in
theorem markSListS_ct (w : World) (v : Value) (t : List SV) (ll : List (List Int)) (k : Int) (h : OwLL FI 3 163 w v t ll) (hk0 : 0 ≤ k) (hk1 : (k + (totLL ll : Int)) ≤ 4611686018427387904) :
    Calls Tryz.prog 245 #[v, .int .i64 k] w fun e w' => e = .returned (.int .i64 (k + (totLL ll : Int))) ∧ OwLL FI 3 163 w' v t (markLL mkInt 1 ll k) ∧ Chg (foot2 v t) w w' := by
  obtain ⟨A, c, hv, _⟩ := id h.rd'.outer
  rw [h.len] at hv
  have hlt0 : ll.length ≤ 9223372036854775807 := by
    have := h.rd'.outer
    obtain ⟨_, c', _, q1, q2, _⟩ := this
    rw [h.len] at q1
    unfold maxLen at q2
    omega
  subst hv
  go_enter Tryz.func245, Tryz.ntmps245
  go_wp2
  go_loopw [1, 5] (fun q i wr => ∃ i' : Nat, i' ≤ ll.length ∧ i = .int .i64 i' ∧ q = .int .i64 (k + (totLL (ll.take i') : Int)) ∧ OwLL FI 3 163 wr (.slice A ll.length c) t (marksLL mkInt 1 ll i' k) ∧ Chg (foot2 (.slice A ll.length c) t) w wr) (fun _ i _ => ll.length - (intOf i).toNat)
  case atStart => exact ⟨0, Nat.zero_le _, rfl, by simp [totLL], h, Chg.refl _ _⟩
  case round =>
    obtain ⟨i, hi, rfl, rfl, ho, hch⟩ := hrel
    by_cases hlt : i < ll.length
    · have hT : Hid (t.length = ll.length) := h.len
      have m1 : t[i]? = some (t[i]'(by rw [hT.out]; exact hlt)) := List.getElem?_eq_getElem _
      generalize t[i]'(by rw [hT.out]; exact hlt) = s at m1
      have ro := ho.inner i s _ m1 (marksLL_get mkInt 1 ll i k hlt)
      obtain ⟨g, o1, cap1, e1, b1, _, _, q1⟩ := ho.rd'.outer.at_ m1
      injection e1 with e11 e12 e13
      clear e12
      subst e11 e13
      have p0 : wr.cell? ⟨g, o1 + i, none⟩ = some (.slice s.a s.len s.cap) := by simpa [FS] using q1 0 _ rfl
      have ht1 := totLL_take_succ ll i hlt
      have ht2 := totLL_take_le ll (i + 1)
      have HT : Hid (totLL (ll.take (i + 1)) = totLL (ll.take i) + ll[i].length) := ht1
      have kb : k + (totLL (ll.take i) : Int) * 1 + (ll[i].length : Int) * 1 ≤ 4611686018427387904 := by omega
      have k0 : 0 ≤ k + (totLL (ll.take i) : Int) * 1 := by omega
      clear q1 ht1 h
      go_wp2_with (go_at_call 36; refine (markIntS_ct _ s.val ll[i] _ ro (by omega) (by omega)).mono ?_; rintro e w1 ⟨rfl, ho1, hg1, hs1⟩)
      go_roundw
      case rel =>
        refine ⟨i + 1, by omega, by go_num, by rw [HT.out]; go_num, ?_, hch.trans ((Chg.of_grown hg1).mono fun g hg => mem_foot2.2 (.inr ⟨s, List.mem_of_getElem? m1, mem_foot1.1 hg⟩))⟩
        have e := marksLL_step mkInt 1 ll i k hlt
        rw [← e]
        refine ho.set_row m1 ?_ (Chg.of_grown hg1)
        simpa using ho1
      case measure => simp [intOf]; omega
    · go_wp2
      go_ret
      obtain rfl : i = ll.length := by omega
      exact ⟨by simp, by rw [← marksLL_all]; exact ho, hch⟩

set_option maxHeartbeats 400000 in
theorem toSList_ct (w : World) (v : Value) (l : List Int) (h : RdL FI w w.heap.size v l) (hs : l.length ≤ 1048576) :
    Calls Tryz.prog 276 #[.agg #[v]] w fun e w' => ∃ s : SV, e = .returned (.agg #[.slice s.a s.len s.cap]) ∧ OwL FI 3 w' s.val l ∧ (∀ g ∈ foot1 s.val, w.heap.size ≤ g) ∧ Below w.heap.size w w' := by
  obtain ⟨A, c, hv, _⟩ := id h
  subst hv
  go_enter Tryz.func276, Tryz.ntmps276
  go_wp2_with fail
  refine (toIntS_ct _ _ l (rd_up h (by repeat (first | exact Below.refl _ _ | refine Below.alloc ?_ (by simp <;> omega) _ | refine below_grow_of ?_ (by simp <;> omega) _ _ | refine Below.drew ?_ | refine below_drewN ?_ _))) hs).mono ?_
  rintro e w1 ⟨rfl, ho, hb1⟩
  obtain ⟨os1, d1, rfl⟩ := below_grows hb1
  clear hb1
  go_wp2
  refine bodyPost_ret (v := .agg #[.slice (some ⟨w.heap.size + 1 + 1 + 1, 0, none⟩) l.length l.length]) (by simp [results, Tryz.results276, go_sem]) rfl ⟨⟨_, _, _⟩, rfl, ?_, ?_, ?_⟩
  · simp only [World.size_alloc] at ho
    refine OwL.regrow ho ?_ ?_ _
    · simp
    · simp [foot1, Value.ownBlock]
  · simp [foot1, Value.ownBlock, SV.val]; omega
  · repeat (first | exact Below.refl _ _ | refine Below.alloc ?_ (by simp <;> omega) _ | refine below_grow_of ?_ (by simp <;> omega) _ _ | refine Below.drew ?_ | refine below_drewN ?_ _)

theorem Tryz.infoSList : (Tryz.prog.info? 163).map (fun i => (i.zero, i.size, i.bytes)) = some (some (.agg #[.slice none 0 0]), FS.n, 24) := by kernel_rfl
set_option maxHeartbeats 1000000 in
theorem toSListS_ct (w : World) (v : Value) (t : List SV) (ll : List (List Int)) (h : RdLL FI w w.heap.size v t ll) (hs : szLL ll ≤ 1048576) :
    Calls Tryz.prog 235 #[v] w fun e w' => ∃ t' : List SV, e = .returned (.slice (some ⟨w.heap.size, 0, none⟩) ll.length ll.length) ∧ OwLL FI 3 163 w' (.slice (some ⟨w.heap.size, 0, none⟩) ll.length ll.length) t' ll ∧ (∀ g ∈ foot2 (.slice (some ⟨w.heap.size, 0, none⟩) ll.length ll.length) t', w.heap.size ≤ g) ∧ Below w.heap.size w w' := by
  have hs0 : ll.length ≤ 1048576 := Nat.le_trans (Nat.le_add_right _ _) hs
  have hmk := run_make_flat (P := Tryz.prog) FS 27 163 (.agg #[.slice none 0 0]) 24 Tryz.underlying27 Tryz.infoSList ll.length (by omega) (by omega)
  obtain ⟨A, cap, hv, _⟩ := id h.outer
  have N1 : Hid (t.length = ll.length) := h.len
  rw [h.len] at hv
  subst hv
  go_enter Tryz.func235, Tryz.ntmps235
  go_wp2
  clear hmk
  go_loopw [4] (fun i wr => ∃ k : Nat, k ≤ ll.length ∧ i = .int .i64 k ∧ (∃ t' : List SV, OwLL FI 3 163 wr (.slice (some ⟨w.heap.size, 0, none⟩) ll.length ll.length) t' (ll.take k ++ List.replicate (ll.length - k) []) ∧ (∀ g ∈ foot2 (.slice (some ⟨w.heap.size, 0, none⟩) ll.length ll.length) t', w.heap.size ≤ g)) ∧ Below w.heap.size w wr) (fun i _ => ll.length - (intOf i).toNat)
  case atStart => exact ⟨0, Nat.zero_le _, rfl, ⟨_, OwLL.made #[.slice none 0 0] rfl ll.length (by simp [maxLen]; omega) w FI 3 163, foot2_made _ _⟩, (Below.refl _ _).alloc (Nat.le_refl _) _⟩
  case round =>
    obtain ⟨i, hk, rfl, ⟨t', ho, hfo⟩, hb⟩ := hrel
    by_cases hlt : i < ll.length
    · have m1 : t[i]? = some (t[i]'(by rw [N1.out]; exact hlt)) := List.getElem?_eq_getElem _
      have r1 := h.inner i _ _ m1 (List.getElem?_eq_getElem hlt)
      obtain ⟨g1, o1, cap1, e1, b1, _, _, q1⟩ := (h.outer.below hb).at_ m1
      generalize t[i]'(by rw [N1.out]; exact hlt) = s1 at m1 r1 q1
      injection e1 with e11 e12 e13
      clear e12
      subst e11 e13
      have p0 : wr.cell? ⟨g1, o1 + i, none⟩ = some (.slice s1.a s1.len s1.cap) := by simpa [FS] using q1 0 _ rfl
      have hs1 : ll[i].length ≤ 1048576 := Nat.le_trans (le_szLL (List.getElem_mem hlt)) hs
      have hx := upd_get ll [] i hlt
      have hti : i < t'.length := by rw [ho.len]; exact (List.getElem?_eq_some_iff.1 hx).1
      have m2 : t'[i]? = some t'[i] := List.getElem?_eq_getElem hti
      have hz : w.heap.size < wr.heap.size := (World.ownsRow.lt ho.outer _ rfl).2
      have hf := ho.outer.frozen_
      have c0 : wr.cell? ⟨w.heap.size, i, none⟩ = some (.slice t'[i].a t'[i].len t'[i].cap) := by simpa [FS] using ho.outer.cell_ (j := 0) m2 (by decide)
      clear q1 m1 h
      go_wp2_with (go_at_call 276; refine (toSList_ct _ s1.val ll[i] (rd_up r1 hb) hs1).mono ?_; rintro e w1 ⟨s, rfl, hos, hfs, hb1⟩; obtain ⟨os1, d1, rfl⟩ := below_grows hb1; clear hb1)
      clear hf c0 p0
      go_roundw
      case rel =>
        have e := upd_step ll [] i hlt
        have hsv := (ho.grow_ os1 d1).set_sv m2 hos (fun b hb hm => by have a := hfs b hb; have c := ho.lt b hm; omega)
        rw [e] at hsv
        rw [← setCell_grow wr os1 d1 w.heap.size i (.slice s.a s.len s.cap) hz]
        refine ⟨i + 1, by omega, by go_num, ⟨_, hsv, fun b hb => ?_⟩, ?_⟩
        · rcases foot2_set hb with hb | hb
          · exact hfo b hb
          · have := hfs b hb
            omega
        · exact Below.setCell (below_grow_of hb hb.size _ _) (Nat.le_refl _) _
      case measure => simp [intOf]; omega
    · go_wp2
      go_ret
      obtain rfl : i = ll.length := by omega
      exact ⟨t', rfl, by simpa using ho, hfo, hb⟩

set_option maxHeartbeats 400000 in
theorem szSList_ct (w : World) (A : Option Addr) (n c : Nat) (k : Nat) (hn : n ≤ 9223372036854775807) (hk : k ≤ 1073741824) :
    Calls Tryz.prog 275 #[.agg #[.slice A n c], .int .i64 k] w fun e w' => e = .returned (.int .i64 (leftOf k n)) ∧ Below w.heap.size w w' := by
  by_cases h : n ≤ k
  · go_enter Tryz.func275, Tryz.ntmps275
    go_wp2
    go_ret
    exact ⟨ret_i64 ((leftOf_pos h).symm), by repeat (first | exact Below.refl _ _ | refine Below.alloc ?_ (by simp <;> omega) _ | refine below_grow_of ?_ (by simp <;> omega) _ _ | refine Below.drew ?_ | refine below_drewN ?_ _)⟩
  · go_enter Tryz.func275, Tryz.ntmps275
    go_wp2
    go_ret
    exact ⟨ret_i64 ((leftOf_neg h).symm), by repeat (first | exact Below.refl _ _ | refine Below.alloc ?_ (by simp <;> omega) _ | refine below_grow_of ?_ (by simp <;> omega) _ _ | refine Below.drew ?_ | refine below_drewN ?_ _)⟩

set_option maxHeartbeats 1000000 in
theorem szSListS_ct (w : World) (v : Value) (t : List SV) (ll : List (List Int)) (left : Nat) (h : RdLL FI w w.heap.size v t ll) (hl : left ≤ 1073741824) :
    Calls Tryz.prog 233 #[v, .int .i64 left] w fun e w' => e = .returned (.int .i64 (leftOf left (szLL ll))) ∧ Below w.heap.size w w' := by
  obtain ⟨A, c, hv, q1, q2, _⟩ := id h.outer
  have N1 : Hid (t.length = ll.length) := h.len
  rw [h.len] at hv q1
  have hlt0 : ll.length ≤ 9223372036854775807 := by unfold maxLen at q2; omega
  subst hv
  clear q1 q2
  by_cases hbig : ll.length ≤ left
  case neg =>
    go_enter Tryz.func233, Tryz.ntmps233
    go_wp2
    go_ret
    exact ⟨ret_i64 (leftOf_neg (by unfold szLL; omega)).symm, Below.refl _ _⟩
  go_enter Tryz.func233, Tryz.ntmps233
  go_wp2
  go_loopw [1, 5] (fun q i wr => ∃ i' : Nat, i' ≤ ll.length ∧ i = .int .i64 i' ∧ (∃ q' : Nat, q = .int .i64 q' ∧ q' + ll.length + totLL (ll.take i') = left) ∧ Below w.heap.size w wr) (fun _ i _ => ll.length - (intOf i).toNat)
  case atStart => exact ⟨0, Nat.zero_le _, rfl, ⟨left - ll.length, by go_num, by simp [totLL]; omega⟩, Below.refl _ _⟩
  case round =>
    obtain ⟨i, hi, rfl, ⟨q, rfl, hq⟩, hb⟩ := hrel
    have HQ := Hid.mk_ hq
    clear hq
    by_cases hlt : i < ll.length
    · have m1 : t[i]? = some (t[i]'(by rw [N1.out]; exact hlt)) := List.getElem?_eq_getElem _
      obtain ⟨g1, o1, cap1, e1, b1, _, _, q1⟩ := (h.outer.below hb).at_ m1
      have r1 := h.inner i _ _ m1 (List.getElem?_eq_getElem hlt)
      generalize t[i]'(by rw [N1.out]; exact hlt) = s1 at m1 q1 r1
      injection e1 with e11 e12 e13
      clear e12
      subst e11 e13
      obtain ⟨A', c', hv', u1, u2, _⟩ := r1
      have p0 : wr.cell? ⟨g1, o1 + i, none⟩ = some (.slice A' ll[i].length c') := by
        have := q1 0 _ rfl
        rw [← hv']
        simpa [FS, SV.val] using this
      have hn1 : ll[i].length ≤ 9223372036854775807 := by unfold maxLen at u2; omega
      have ht1 := totLL_take_succ ll i hlt
      have HT : Hid (totLL (ll.take (i + 1)) = totLL (ll.take i) + ll[i].length) := ht1
      have ht2 := totLL_take_le ll (i + 1)
      have hq2 : q ≤ 1073741824 := by have := HQ.out; omega
      have hsz : szLL ll = ll.length + totLL ll := rfl
      have HS := Hid.mk_ hsz
      clear q1 m1 h ht1 hv' hsz
      by_cases hge : ll[i].length ≤ q
      · have e0 := Hid.mk_ (leftOf_pos hge)
        go_wp2_with (go_at_call 275; refine (szSList_ct _ A' ll[i].length c' q hn1 hq2).mono ?_; rw [e0.out]; rintro e w1 ⟨rfl, hb1⟩; obtain ⟨os1, d1, rfl⟩ := below_grows hb1; clear hb1)
        go_roundw
        case rel => exact ⟨i + 1, by omega, by go_num, ⟨q - ll[i].length, by go_num, by have := HQ.out; rw [HT.out]; omega⟩, below_grow_of hb hb.size _ _⟩
        case measure => simp [intOf]; omega
      · have e0 := Hid.mk_ (leftOf_neg hge)
        go_wp2_with (go_at_call 275; refine (szSList_ct _ A' ll[i].length c' q hn1 hq2).mono ?_; rw [e0.out]; rintro e w1 ⟨rfl, hb1⟩; obtain ⟨os1, d1, rfl⟩ := below_grows hb1; clear hb1)
        go_ret
        exact ⟨ret_i64 (leftOf_neg (by rw [HS.out]; have := HQ.out; have := HT.out; omega)).symm, below_grow_of hb hb.size _ _⟩
    · go_wp2
      go_ret
      obtain rfl : i = ll.length := by omega
      have hq := HQ.out
      rw [List.take_length] at hq
      exact ⟨ret_i64 (by rw [leftOf_pos (by unfold szLL; unfold totLL at hq; omega)]; unfold szLL; unfold totLL at hq; omega), hb⟩
theorem toIntS_w (w : World) (K : SV) (l : List Int) (h : RdL FI w w.heap.size K.val l) (hs : l.length ≤ 1048576) :
    Calls Tryz.prog 66 #[.slice K.a K.len K.cap] w fun e w' => ∃ K' : SV, e = .returned (.slice K'.a K'.len K'.cap) ∧ OwL FI 3 w' K'.val l ∧ (∀ g ∈ foot1 K'.val, w.heap.size ≤ g) ∧ Below w.heap.size w w' :=
  (toIntS_ct w _ l h hs).mono fun _ _ ⟨a, b, c⟩ => ⟨⟨_, _, _⟩, a, b, fun g hg => by have := mem_foot1.1 hg; simp [SV.val, Value.ownBlock] at this; omega, c⟩
theorem eqIntS_w (w : World) (K1 K2 : SV) (l : List Int) (h1 : RdL FI w w.heap.size K1.val l) (h2 : RdL FI w w.heap.size K2.val l) (hs : l.length ≤ 1073741824) :
    Calls Tryz.prog 34 #[.slice K1.a K1.len K1.cap, .slice K2.a K2.len K2.cap] w fun e w' => e = .returned (.bool true) ∧ Below w.heap.size w w' := eqIntS_ct w _ _ l h1 h2 hs
theorem szIntS_w (w : World) (K : SV) (l : List Int) (k : Nat) (h : RdL FI w w.heap.size K.val l) (hk : k ≤ 1073741824) :
    Calls Tryz.prog 61 #[.slice K.a K.len K.cap, .int .i64 k] w fun e w' => e = .returned (.int .i64 (leftOf k l.length)) ∧ Below w.heap.size w w' := by
  have hl := RdL.len_ (show RdL FI w w.heap.size (.slice K.a K.len K.cap) l from h)
  rw [← hl.1]
  exact szIntS_ct w K.a K.len K.cap k hl.2 hk
theorem markIntS_w (w : World) (K : SV) (l : List Int) (k : Int) (h : OwL FI 3 w K.val l) (hk0 : 0 ≤ k) (hk1 : k + ((l.length : Nat) : Int) ≤ 4611686018427387904) :
    Calls Tryz.prog 36 #[.slice K.a K.len K.cap, .int .i64 k] w fun e w' => e = .returned (.int .i64 (k + ((l.length : Nat) : Int))) ∧ OwL FI 3 w' K.val (marks mkInt 1 l l.length k) ∧ Chg (foot1 K.val) w w' :=
  (markIntS_ct w _ l k h hk0 (by omega)).mono fun _ _ ⟨a, b, c, _⟩ => ⟨a.trans (ret_i64 (by omega)), b, Chg.of_grown c⟩
theorem heldIntS_w (w : World) (K : SV) (l : List Int) (k : Int) (h : RdL FI w w.heap.size K.val (marks mkInt 1 l l.length k)) (hk0 : 0 ≤ k) (hk1 : k + ((l.length : Nat) : Int) ≤ 4611686018427387904) :
    Calls Tryz.prog 37 #[.slice K.a K.len K.cap, .int .i64 k] w fun e w' => e = .returned (.int .i64 (k + ((l.length : Nat) : Int))) ∧ Below w.heap.size w w' :=
  (heldIntS_ct w _ l k h hk0 (by omega)).mono fun _ _ ⟨a, b⟩ => ⟨a.trans (ret_i64 (by omega)), b⟩
theorem toSListS_w (w : World) (K : SV) (t : List SV) (ll : List (List Int)) (h : RdLL FI w w.heap.size K.val t ll) (hs : szLL ll ≤ 1048576) :
    Calls Tryz.prog 235 #[.slice K.a K.len K.cap] w fun e w' => ∃ (K' : SV) (t' : List SV), e = .returned (.slice K'.a K'.len K'.cap) ∧ OwLL FI 3 163 w' K'.val t' ll ∧ (∀ g ∈ foot2 K'.val t', w.heap.size ≤ g) ∧ Below w.heap.size w w' :=
  (toSListS_ct w _ t ll h hs).mono fun _ _ ⟨t', a, b, c, d⟩ => ⟨⟨_, _, _⟩, t', a, b, c, d⟩
theorem eqSListS_w (w : World) (K1 : SV) (t1 : List SV) (K2 : SV) (t2 : List SV) (ll : List (List Int)) (h1 : RdLL FI w w.heap.size K1.val t1 ll) (h2 : RdLL FI w w.heap.size K2.val t2 ll) (hs : szLL ll ≤ 1073741824) :
    Calls Tryz.prog 242 #[.slice K1.a K1.len K1.cap, .slice K2.a K2.len K2.cap] w fun e w' => e = .returned (.bool true) ∧ Below w.heap.size w w' := eqSListS_ct w _ _ t1 t2 ll h1 h2 hs
theorem szSListS_w (w : World) (K : SV) (t : List SV) (ll : List (List Int)) (k : Nat) (h : RdLL FI w w.heap.size K.val t ll) (hk : k ≤ 1073741824) :
    Calls Tryz.prog 233 #[.slice K.a K.len K.cap, .int .i64 k] w fun e w' => e = .returned (.int .i64 (leftOf k (szLL ll))) ∧ Below w.heap.size w w' := szSListS_ct w _ t ll k h hk
theorem markSListS_w (w : World) (K : SV) (t : List SV) (ll : List (List Int)) (k : Int) (h : OwLL FI 3 163 w K.val t ll) (hk0 : 0 ≤ k) (hk1 : k + ((totLL ll : Nat) : Int) ≤ 4611686018427387904) :
    Calls Tryz.prog 245 #[.slice K.a K.len K.cap, .int .i64 k] w fun e w' => e = .returned (.int .i64 (k + ((totLL ll : Nat) : Int))) ∧ OwLL FI 3 163 w' K.val t (markLL mkInt 1 ll k) ∧ Chg (foot2 K.val t) w w' :=
  (markSListS_ct w _ t ll k h hk0 (by omega)).mono fun _ _ ⟨a, b, c⟩ => ⟨a.trans (ret_i64 (by omega)), b, c⟩