/-
  Buckets of limbo lists: the contracts.
-/
import Derived.Test.YtobcdcfbhfoheaaT
import Derived.Test.YtobcdcfbhfoheaaL
import Derived.Deep.QuietTactic
import Derived.BigQuiet
import Derived.Deep.LoopGhost
import Derived.Deep.RegionHeld3
import Derived.Test.YtobcdcfbhfoheaaN
import Derived.Test.YtobcdcfbhfoheaaA
import Derived.WalkSpells
import Derived.Laws.Cover3
import Derived.Test.YtobcdcfbhfoheaaQ
import Derived.Test.YtobcdcfbhfoheaaP
namespace Go.Proofs.Ytobcdcfbhfoheaa
open Go.RowKit

def bkTo (l : List LRow) (k : Int) (i : Nat) : List Int := ((l.take i).filter fun r => r.Epoch.tmod 3 == k).map fun r => r.Handle
def bucketL (ll : List (List LRow)) (wk k : Int) : List Int := if limboOkB ll = true ∧ inB 0 2 wk = true then bkTo (ll.getD wk.toNat []) k (ll.getD wk.toNat []).length else []
theorem bkTo_len (l : List LRow) (k : Int) (i : Nat) : (bkTo l k i).length ≤ i := by
  unfold bkTo
  rw [List.length_map]
  exact Nat.le_trans (List.length_filter_le _ _) (by simp; omega)
theorem bkTo_yes (l : List LRow) (k : Int) (i : Nat) (hi : i < l.length) (h : (l[i].Epoch.tmod 3 == k) = true) : bkTo l k (i + 1) = bkTo l k i ++ [l[i].Handle] := by
  unfold bkTo
  rw [List.take_succ_eq_append_getElem hi, List.filter_append, List.map_append]
  simp [h]
theorem bkTo_no (l : List LRow) (k : Int) (i : Nat) (hi : i < l.length) (h : (l[i].Epoch.tmod 3 == k) = false) : bkTo l k (i + 1) = bkTo l k i := by
  unfold bkTo
  rw [List.take_succ_eq_append_getElem hi, List.filter_append, List.map_append]
  simp [h]
theorem limboOk_len {ll : List (List LRow)} (h : limboOkB ll = true) : ll.length = 3 := by
  simp [limboOkB] at h
  exact h.1.1
theorem limboOk_tot {ll : List (List LRow)} (h : limboOkB ll = true) : ll.flatten.length ≤ 24 := by
  simp only [limboOkB, Bool.and_eq_true, decide_eq_true_eq] at h
  exact h.1.2

set_option maxRecDepth 100000 in
set_option maxHeartbeats 1000000 in
theorem Bucket_impl (w : World) (v : Value) (t : List SV) (ll : List (List LRow)) (wk k : Int) (h : RdLL FLRow w w.heap.size v t ll) (hs : szLL ll ≤ 536870912) :
    Calls Try.prog 43 #[v, .int .i64 wk, .int .i64 k] w fun e w' => ∃ v', e = .returned v' ∧ OwL FI 3 w' v' (bucketL ll wk k) ∧ (∀ g ∈ foot1 v', w.heap.size ≤ g) ∧ Below w.heap.size w w' := by
  obtain ⟨A, c, hv, _⟩ := id h.outer
  subst hv
  obtain ⟨en, hcap, hmx⟩ := h.len'
  have hlt0 : ll.length ≤ 9223372036854775807 := by unfold maxLen at hmx; omega
  rw [en] at h ⊢
  clear en hcap hmx
  by_cases c1 : limboOkB ll = true
  case neg =>
    have HN := Hid.mk_ (show bucketL ll wk k = [] from if_neg (fun hh => c1 hh.1))
    have c1' : limboOkB ll = false := by simpa using c1
    clear c1
    go_enter Try.func43, Try.ntmps43
    go_wp2_with (first | (go_at_call 41; refine (LimboOk_impl _ _ t ll (rdLL_up h (by repeat (first | exact Below.refl _ _ | refine Below.alloc ?_ (by simp <;> omega) _ | refine below_grow_of ?_ (by simp <;> omega) _ _ | refine Below.drew ?_))) hs).mono ?_; rw [c1']; rintro e w2 ⟨rfl, hb2⟩) | go_in)
    go_ret
    exact ⟨_, rfl, by rw [HN.out]; exact (OwL.lit FI [] #[] rfl (by decide) w 3).keep (fun g hg => hb2.block g (by simp [Value.ownBlock] at hg; simp; omega)), by simp [foot1, Value.ownBlock], ((Below.refl _ _).alloc (Nat.le_refl _) _).trans (hb2.mono (by simp))⟩
  by_cases c2 : inB 0 2 wk = true
  case neg =>
    have HN := Hid.mk_ (show bucketL ll wk k = [] from if_neg (fun hh => c2 hh.2))
    have c2' : inB 0 2 wk = false := (Bool.not_eq_true _).mp c2
    clear c2
    go_enter Try.func43, Try.ntmps43
    go_wp2_with (first | (go_at_call 41; refine (LimboOk_impl _ _ t ll (rdLL_up h (by repeat (first | exact Below.refl _ _ | refine Below.alloc ?_ (by simp <;> omega) _ | refine below_grow_of ?_ (by simp <;> omega) _ _ | refine Below.drew ?_))) hs).mono ?_; rw [c1]; rintro e w2 ⟨rfl, hb2⟩) | (go_at_call 56; refine (isWorker_ct _ _).mono ?_; rintro e w3 ⟨rfl, rfl⟩) | go_in)
    go_ret
    exact ⟨_, rfl, by rw [HN.out]; exact (OwL.lit FI [] #[] rfl (by decide) w 3).keep (fun g hg => hb2.block g (by simp [Value.ownBlock] at hg; simp; omega)), by simp [foot1, Value.ownBlock], ((Below.refl _ _).alloc (Nat.le_refl _) _).trans (hb2.mono (by simp))⟩
  obtain ⟨c2a, c2b⟩ := inB_iff.1 c2
  obtain ⟨k0, rfl⟩ := Int.eq_ofNat_of_zero_le c2a
  have hk0 : k0 < ll.length := by rw [limboOk_len c1]; omega
  have HN := Hid.mk_ (show bucketL ll (k0 : Int) k = bkTo ll[k0] k ll[k0].length by
    unfold bucketL
    rw [if_pos ⟨c1, c2⟩, Int.toNat_natCast]
    simp [List.getD, hk0])
  have hl0 : ll[k0].length ≤ 536870912 := Nat.le_trans (le_szLL (List.getElem_mem hk0)) hs
  obtain ⟨g, o, A', c', rfl, hg, p0, r1⟩ := h.row (Below.refl _ _) hk0
  generalize ll[k0] = l at HN p0 r1 hl0
  have hbA : Below w.heap.size w (w.alloc (.cells #[] 3)) := (Below.refl _ _).alloc (Nat.le_refl _) _
  go_enter Try.func43, Try.ntmps43
  go_wp2_with (first | (go_at_call 41; refine (LimboOk_impl _ _ t ll (rdLL_up h (by repeat (first | exact Below.refl _ _ | refine Below.alloc ?_ (by simp <;> omega) _ | refine below_grow_of ?_ (by simp <;> omega) _ _ | refine Below.drew ?_))) hs).mono ?_; rw [c1]; rintro e w2 ⟨rfl, hb2⟩; have hb0 : Below w.heap.size w w2 := hbA.trans (hb2.mono (by simp)); have ho0 : OwL FI 3 w2 (.slice (some ⟨w.heap.size, 0, none⟩) 0 0) [] := (OwL.lit FI [] #[] rfl (by decide) w 3).keep (fun g hg => hb2.block g (by simp [Value.ownBlock] at hg; simp; omega)); have p02 := (hb0.cell (p := ⟨g, o + k0, none⟩) hg).trans p0) | (go_at_call 56; refine (isWorker_ct _ _).mono ?_; rintro e w3 ⟨rfl, rfl⟩) | go_in)
  clear h
  go_loopw [7, 9, 26] (fun o _ i wr => ∃ i' : Nat, i' ≤ l.length ∧ i = .int .i64 i' ∧ OwL FI 3 wr o (bkTo l k i') ∧ (∀ g ∈ foot1 o, w.heap.size ≤ g) ∧ Below w.heap.size w wr) (fun _ _ i _ => l.length - (intOf i).toNat)
  case atStart => exact ⟨0, Nat.zero_le _, rfl, ho0, by simp [foot1, Value.ownBlock], hb0⟩
  case round =>
    obtain ⟨i, hi, rfl, ho, hfo, hb⟩ := hrel
    clear hb0 ho0 p02
    by_cases hlt : i < l.length
    · obtain ⟨g1, o1, cap', he, hg1, _, _, hc⟩ := (r1.below hb).at_ (List.getElem?_eq_getElem hlt)
      injection he with he1 he2 he3
      clear he2
      subst he1 he3
      have q0 : wr.cell? ⟨g1, o1 + i * 2, none⟩ = some (.int .i64 l[i].Handle) := hc 0 _ rfl
      have q1 : wr.cell? ⟨g1, o1 + i * 2 + 1, none⟩ = some (.int .i64 l[i].Epoch) := hc 1 _ rfl
      clear hc r1
      by_cases hz : (l[i].Epoch.tmod 3 == k) = true
      · have HS := Hid.mk_ (bkTo_yes l k i hlt hz)
        go_wp2_with (at_builtin; refine wpList_append_flat Try.stInt rfl _ _ rfl (v := u7) (y := .slice (some ⟨wr.heap.size + 1, 0, none⟩) 1 1) (l := bkTo l k i) (m := [l[i].Handle]) rfl rfl ((ho.alloc_ _).alloc_ _) (by simpa using (OwL.lit FI [l[i].Handle] #[.int .i64 l[i].Handle] rfl (by simp [maxLen]) (wr.alloc (.cells #[.int .i64 l[i].Handle, .int .i64 l[i].Epoch] 75)) 3).rd') (by have := bkTo_len l k i; simp; omega) ?_; intro v' w3 ho' hg' hat')
        have hb3 : Below w.heap.size w w3 := ((hb.alloc hb.size _).alloc (hb.alloc hb.size _).size _).grown hg' (by simp; have := hb.size; omega) (fun k hk => hfo k (mem_foot1.2 hk))
        go_roundw
        case rel => exact ⟨i + 1, by omega, by go_num, by rw [HS.out]; exact ho', fun b hb' => by rcases foot_app hat' b hb' with h | h; (exact hfo b h); (have := hb.size; simp at h; omega), hb3⟩
        case measure => simp [intOf]; omega
      · have hz' : (l[i].Epoch.tmod 3 == k) = false := (Bool.not_eq_true _).mp hz
        have HS := Hid.mk_ (bkTo_no l k i hlt hz')
        clear hz
        go_wp2
        go_roundw
        case rel => exact ⟨i + 1, by omega, by go_num, by rw [HS.out]; exact ho.alloc_ _, hfo, (hb.alloc hb.size _)⟩
        case measure => simp [intOf]; omega
    · go_wp2
      go_ret
      obtain rfl : i = l.length := by omega
      exact ⟨u7, rfl, by rw [HN.out]; exact ho, hfo, hb⟩

set_option maxRecDepth 100000 in
set_option maxHeartbeats 1000000 in
theorem Bucket_spec (w : World) (v : Value) (t : List SV) (ll : List (List LRow)) (wk k : Int) (h : RdLL FLRow w w.heap.size v t ll) (hs : szLL ll ≤ 536870912) :
    Calls Try.prog 42 #[v, .int .i64 wk, .int .i64 k] w fun e w' => ∃ v', e = .returned v' ∧ OwL FI 3 w' v' (bucketL ll wk k) ∧ (∀ g ∈ foot1 v', w.heap.size ≤ g) ∧ Below w.heap.size w w' := by
  obtain ⟨A, c, hv, _⟩ := id h.outer
  subst hv
  obtain ⟨en, hcap, hmx⟩ := h.len'
  have hlt0 : ll.length ≤ 9223372036854775807 := by unfold maxLen at hmx; omega
  rw [en] at h ⊢
  clear en hcap hmx
  by_cases c1 : limboOkB ll = true
  case neg =>
    have HN := Hid.mk_ (show bucketL ll wk k = [] from if_neg (fun hh => c1 hh.1))
    have c1' : limboOkB ll = false := by simpa using c1
    clear c1
    go_enter Try.func42, Try.ntmps42
    go_wp2_with (first | (go_at_call 40; refine (LimboOk_spec _ _ t ll (rdLL_up h (by repeat (first | exact Below.refl _ _ | refine Below.alloc ?_ (by simp <;> omega) _ | refine below_grow_of ?_ (by simp <;> omega) _ _ | refine Below.drew ?_))) hs).mono ?_; rw [c1']; rintro e w2 ⟨rfl, hb2⟩) | go_in)
    go_ret
    exact ⟨_, rfl, by rw [HN.out]; exact (OwL.lit FI [] #[] rfl (by decide) w 3).keep (fun g hg => hb2.block g (by simp [Value.ownBlock] at hg; simp; omega)), by simp [foot1, Value.ownBlock], ((Below.refl _ _).alloc (Nat.le_refl _) _).trans (hb2.mono (by simp))⟩
  by_cases c2 : inB 0 2 wk = true
  case neg =>
    have HN := Hid.mk_ (show bucketL ll wk k = [] from if_neg (fun hh => c2 hh.2))
    have c2' : inB 0 2 wk = false := (Bool.not_eq_true _).mp c2
    clear c2
    go_enter Try.func42, Try.ntmps42
    go_wp2_with (first | (go_at_call 40; refine (LimboOk_spec _ _ t ll (rdLL_up h (by repeat (first | exact Below.refl _ _ | refine Below.alloc ?_ (by simp <;> omega) _ | refine below_grow_of ?_ (by simp <;> omega) _ _ | refine Below.drew ?_))) hs).mono ?_; rw [c1]; rintro e w2 ⟨rfl, hb2⟩) | (go_at_call 54; refine (l1In_ct _ _ _ _).mono ?_; rintro e w3 ⟨rfl, rfl⟩) | go_in)
    go_ret
    exact ⟨_, rfl, by rw [HN.out]; exact (OwL.lit FI [] #[] rfl (by decide) w 3).keep (fun g hg => hb2.block g (by simp [Value.ownBlock] at hg; simp; omega)), by simp [foot1, Value.ownBlock], ((Below.refl _ _).alloc (Nat.le_refl _) _).trans (hb2.mono (by simp))⟩
  obtain ⟨c2a, c2b⟩ := inB_iff.1 c2
  obtain ⟨k0, rfl⟩ := Int.eq_ofNat_of_zero_le c2a
  have hk0 : k0 < ll.length := by rw [limboOk_len c1]; omega
  have HN := Hid.mk_ (show bucketL ll (k0 : Int) k = bkTo ll[k0] k ll[k0].length by
    unfold bucketL
    rw [if_pos ⟨c1, c2⟩, Int.toNat_natCast]
    simp [List.getD, hk0])
  have hl0 : ll[k0].length ≤ 536870912 := Nat.le_trans (le_szLL (List.getElem_mem hk0)) hs
  obtain ⟨g, o, A', c', rfl, hg, p0, r1⟩ := h.row (Below.refl _ _) hk0
  generalize ll[k0] = l at HN p0 r1 hl0
  have hbA : Below w.heap.size w (w.alloc (.cells #[] 3)) := (Below.refl _ _).alloc (Nat.le_refl _) _
  go_enter Try.func42, Try.ntmps42
  go_wp2_with (first | (go_at_call 40; refine (LimboOk_spec _ _ t ll (rdLL_up h (by repeat (first | exact Below.refl _ _ | refine Below.alloc ?_ (by simp <;> omega) _ | refine below_grow_of ?_ (by simp <;> omega) _ _ | refine Below.drew ?_))) hs).mono ?_; rw [c1]; rintro e w2 ⟨rfl, hb2⟩; have hb0 : Below w.heap.size w w2 := hbA.trans (hb2.mono (by simp)); have ho0 : OwL FI 3 w2 (.slice (some ⟨w.heap.size, 0, none⟩) 0 0) [] := (OwL.lit FI [] #[] rfl (by decide) w 3).keep (fun g hg => hb2.block g (by simp [Value.ownBlock] at hg; simp; omega)); have p02 := (hb0.cell (p := ⟨g, o + k0, none⟩) hg).trans p0) | (go_at_call 54; refine (l1In_ct _ _ _ _).mono ?_; rintro e w3 ⟨rfl, rfl⟩) | go_in)
  clear h
  go_loopw [7, 8] (fun o i wr => ∃ i' : Nat, i' ≤ l.length ∧ i = .int .i64 i' ∧ OwL FI 3 wr o (bkTo l k i') ∧ (∀ g ∈ foot1 o, w.heap.size ≤ g) ∧ Below w.heap.size w wr) (fun _ i _ => l.length - (intOf i).toNat)
  case atStart => exact ⟨0, Nat.zero_le _, rfl, ho0, by simp [foot1, Value.ownBlock], hb0⟩
  case round =>
    obtain ⟨i, hi, rfl, ho, hfo, hb⟩ := hrel
    clear hb0 ho0 p02
    have p0r : wr.cell? ⟨g, o + k0, none⟩ = some (.slice A' l.length c') := (hb.cell (p := ⟨g, o + k0, none⟩) hg).trans p0
    by_cases hlt : i < l.length
    · obtain ⟨g1, o1, cap', he, hg1, _, _, hc⟩ := (r1.below hb).at_ (List.getElem?_eq_getElem hlt)
      injection he with he1 he2 he3
      clear he2
      subst he1 he3
      have q0 : wr.cell? ⟨g1, o1 + i * 2, none⟩ = some (.int .i64 l[i].Handle) := hc 0 _ rfl
      have q1 : wr.cell? ⟨g1, o1 + i * 2 + 1, none⟩ = some (.int .i64 l[i].Epoch) := hc 1 _ rfl
      clear hc r1
      by_cases hz : (l[i].Epoch.tmod 3 == k) = true
      · have HS := Hid.mk_ (bkTo_yes l k i hlt hz)
        go_wp2_with (at_builtin; refine wpList_append_flat Try.stInt rfl _ _ rfl (v := u7) (y := .slice (some ⟨wr.heap.size, 0, none⟩) 1 1) (l := bkTo l k i) (m := [l[i].Handle]) rfl rfl (ho.alloc_ _) (by simpa using (OwL.lit FI [l[i].Handle] #[.int .i64 l[i].Handle] rfl (by simp [maxLen]) wr 3).rd') (by have := bkTo_len l k i; simp; omega) ?_; intro v' w3 ho' hg' hat')
        have hb3 : Below w.heap.size w w3 := (hb.alloc hb.size _).grown hg' (by simp; have := hb.size; omega) (fun k hk => hfo k (mem_foot1.2 hk))
        go_roundw
        case rel => exact ⟨i + 1, by omega, by go_num, by rw [HS.out]; exact ho', fun b hb' => by rcases foot_app hat' b hb' with h | h; (exact hfo b h); (have := hb.size; simp at h; omega), hb3⟩
        case measure => simp [intOf]; omega
      · have hz' : (l[i].Epoch.tmod 3 == k) = false := (Bool.not_eq_true _).mp hz
        have HS := Hid.mk_ (bkTo_no l k i hlt hz')
        clear hz
        go_wp2
        go_roundw
        case rel => exact ⟨i + 1, by omega, by go_num, by rw [HS.out]; exact ho, hfo, hb⟩
        case measure => simp [intOf]; omega
    · go_wp2
      go_ret
      obtain rfl : i = l.length := by omega
      exact ⟨u7, rfl, by rw [HN.out]; exact ho, hfo, hb⟩
end Go.Proofs.Ytobcdcfbhfoheaa
