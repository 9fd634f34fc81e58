/-
  FnLimbo, walked: a retired handle is in limbo until it is dropped.
-/
import Derived.Test.YtobcdcfbhfoheaaT
import Derived.Test.YtobcdcfbhfoheaaL
import Derived.Deep.QuietTactic
import Derived.BigQuiet
import Derived.Deep.LoopGhost
import Derived.Deep.RegionHeld3
import Derived.Test.YtobcdcfbhfoheaaN
import Derived.Test.YtobcdcfbhfoheaaA
import Derived.WalkSpells
import Derived.Laws.Cover3
import Derived.Test.YtobcdcfbhfoheaaDP
import Derived.Test.YtobcdcfbhfoheaaDU
import Derived.Test.YtobcdcfbhfoheaaC
import Derived.Test.YtobcdcfbhfoheaaS
import Derived.Test.YtobcdcfbhfoheaaG
namespace Go.Proofs.Ytobcdcfbhfoheaa
open Go.RowKit
theorem getD_le (ll : List (List LRow)) (k : Nat) : (ll.getD k []).length ≤ szLL ll := by
  cases hx : ll[k]? with
  | none => simp [List.getD, hx]
  | some l => simp only [List.getD, hx, Option.getD_some]; exact le_szLL (List.mem_of_getElem? hx)
theorem buckets_le {ll : List (List LRow)} {a q : Int} (h : szLL ll ≤ 27) : (bucketL ll a q).length ≤ 27 := by
  unfold bucketL
  split
  · refine Nat.le_trans (bkTo_len _ _ _) ?_
    have := getD_le ll a.toNat
    omega
  · exact Nat.zero_le _
set_option maxRecDepth 100000 in
set_option maxHeartbeats 2000000 in
theorem FnLimbo_law (w : World) (v : Value) (code : List Int) (h : RdL FU8 w w.heap.size v code) (hcb : ∀ x ∈ code, 0 ≤ x ∧ x ≤ 255) :
    Calls Try.prog 14 #[v] w fun e w' => e = .returned (.bool true) ∧ Below w.heap.size w w' := by
  obtain ⟨A, c0, hv, q1, q2, _⟩ := id h
  have hlt0 : code.length ≤ 9223372036854775807 := by unfold maxLen at q2; omega
  subst hv
  clear q1 q2
  by_cases hs : code.length ≤ 1048576
  case neg =>
    go_enter Try.func14, Try.ntmps14
    go_wp2_with fail
    refine (big_yes _ _ _ _ hs hlt0).mono ?_
    rintro e w1 ⟨rfl, rfl⟩
    go_wp2_with fail
    go_ret
    exact ⟨rfl, Below.refl _ _⟩
  go_enter Try.func14, Try.ntmps14
  go_wp2_with fail
  refine (big_no _ _ _ _ hs).mono ?_
  rintro e w0 ⟨rfl, rfl⟩
  go_wp2_with fail
  refine (DrawRetireTo_ct _ _ code h hcb (by omega)).mono ?_
  rintro e w1 ⟨vz, tz, ll, a, b, c, rfl, oz, hz, _, ⟨_, _, _, _, _, hc1⟩, hB⟩
  have rz := oz.rd'
  clear oz h hcb
  go_wp2_with fail
  refine (RetireTo_impl _ _ tz ll a b c rz (by omega)).mono ?_
  rintro e w2 ⟨vx, tx, rfl, ox, _, hb⟩
  have rx := ox.rd'
  replace rz := rdLL_up rz hb
  replace hB := below_step0 hB hb hB.size
  clear ox hb
  go_wp2_with fail
  refine (RetireTo_spec _ _ tz ll a b c rz (by omega)).mono ?_
  rintro e w3 ⟨vt, tt, rfl, _, _, hb⟩
  replace rz := rdLL_up rz hb
  replace rx := rdLL_up rx hb
  replace hB := below_step0 hB hb hB.size
  clear hb
  by_cases k1 : (retireL ll a b c).2 = true
  case neg =>
    have k1' : (retireL ll a b c).2 = false := (Bool.not_eq_true _).mp k1
    have hx : (retireL ll a b c).1 = ll := by
      unfold retireL at k1 ⊢
      split at k1
      · exact absurd rfl k1
      · rename_i hn; rw [if_neg hn]
    rw [hx] at rx
    clear k1 hx
    rw [k1']
    go_wp2_with fail
    refine (SameLimbo_spec _ _ _ _ _ _ _ rx rz).mono ?_
    rintro e w4 ⟨rfl, hb4⟩
    go_wp2_with fail
    go_ret
    exact ⟨ret_bool (by simp), below_step0 hB hb4 hB.size⟩
  rw [k1]
  obtain ⟨k, l, rfl, hl, hk3, hx, e1, e2, e3, e4, e5, e6, e7, e8, e9, e10, hc0⟩ := limbo_law k1
  have E1 := Hid.mk_ e1
  have E2 := Hid.mk_ e2
  have E3 := Hid.mk_ e3
  have E4 := Hid.mk_ e4
  have E5 := Hid.mk_ e5
  have E6 := Hid.mk_ e6
  have E7 := Hid.mk_ e7
  have E8 := Hid.mk_ e8
  have HL := Hid.mk_ hl
  clear e1 e2 e3 e4 e5 e6 e7 e8 hx k1 hl
  generalize (retireL ll (k : Int) b c).1 = x at *
  have hkl : k < ll.length := (List.getElem?_eq_some_iff.1 HL.out).1
  have hge : ll[k] = l := (List.getElem?_eq_some_iff.1 HL.out).2
  obtain ⟨Az, cz, hvz, _⟩ := id rz.outer
  subst hvz
  obtain ⟨en, hcap, hmx⟩ := rz.len'
  rw [en] at rz ⊢
  clear en hcap hmx
  obtain ⟨gi, oi, Ai, ci, rfl, hgi, pi0, _⟩ := rz.row (Below.refl _ _) hkl
  rw [hge] at pi0
  have hll : l.length ≤ 100 := by rw [← hge]; exact Nat.le_trans (le_szLL (List.getElem_mem hkl)) hz
  clear hge
  go_wp2_with fail
  refine (HandleSlot_spec _ _).mono ?_
  rintro e w3x ⟨rfl, rfl⟩
  go_wp2_with fail
  refine (DropRow_impl _ _ tx x (k : Int) (l.length : Int) rx (by omega)).mono ?_
  rw [E1.out]
  rintro e w5 ⟨vy, ty, rfl, oy, _, hb⟩
  replace rz := rdLL_up rz hb
  replace rx := rdLL_up rx hb
  replace hB := below_step0 hB hb hB.size
  have ry := oy.rd'
  clear hb oy
  go_wp2_with fail
  refine (RetireTo_impl _ _ tx x (k : Int) b c rx (by omega)).mono ?_
  rw [E2.out]
  rintro e w6 ⟨vt2, tt2, rfl, _, _, hb⟩
  replace rz := rdLL_up rz hb
  replace rx := rdLL_up rx hb
  replace ry := rdLL_up ry hb
  replace hB := below_step0 hB hb hB.size
  clear hb
  go_wp2_with fail
  have b0 := buckets_le (a := (k : Int)) (q := 0) e9
  have b1 := buckets_le (a := (k : Int)) (q := 1) e9
  have b2 := buckets_le (a := (k : Int)) (q := 2) e9
  go_loopw [17, 18] (fun n i wr => ∃ j m : Nat, j ≤ 3 ∧ i = .int .i64 j ∧ n = .int .i64 m ∧ m = (if 0 < j then (bucketL x (k : Int) 0).length else 0) + (if 1 < j then (bucketL x (k : Int) 1).length else 0) + (if 2 < j then (bucketL x (k : Int) 2).length else 0) ∧ RdLL FLRow wr wr.heap.size (.slice (some ⟨gi, oi, none⟩) ll.length cz) tz ll ∧ RdLL FLRow wr wr.heap.size vx tx x ∧ RdLL FLRow wr wr.heap.size vy ty ll ∧ Below w.heap.size w wr) (fun _ i _ => 3 - (intOf i).toNat)
  case atStart => exact ⟨0, 0, by omega, rfl, rfl, rfl, rz, rx, ry, hB⟩
  case round =>
    clear rz rx ry hB
    obtain ⟨j, m, hj, rfl, rfl, hm, rz, rx, ry, hB⟩ := hrel
    have hm3 : m ≤ 81 := by rw [hm]; (repeat' split) <;> omega
    have HM := Hid.mk_ hm
    clear hm
    by_cases hlt : j < 3
    · have hbl := buckets_le (a := (k : Int)) (q := (j : Int)) e9
      have HS := Hid.mk_ (show m + (bucketL x (k : Int) (j : Int)).length = (if 0 < j + 1 then (bucketL x (k : Int) 0).length else 0) + (if 1 < j + 1 then (bucketL x (k : Int) 1).length else 0) + (if 2 < j + 1 then (bucketL x (k : Int) 2).length else 0) by
        have e := HM.out
        have hj3 : j = 0 ∨ j = 1 ∨ j = 2 := by omega
        rcases hj3 with rfl | rfl | rfl <;> simp at e ⊢ <;> omega)
      go_wp2_with fail
      refine (Bucket_impl _ _ tx x (k : Int) (j : Int) rx (by omega)).mono ?_
      rintro e w8 ⟨vb, rfl, ob, _, hb⟩
      obtain ⟨Ab, cb, hvb, _⟩ := ob.rd'
      subst hvb
      go_wp2_with fail
      go_roundw
      case rel => exact ⟨j + 1, m + (bucketL x (k : Int) (j : Int)).length, by omega, by go_num, by go_num, HS.out, rdLL_up rz hb, rdLL_up rx hb, rdLL_up ry hb, below_step0 hB hb hB.size⟩
      case measure => simp [intOf]; omega
    · obtain rfl : j = 3 := by omega
      have hmE : m = l.length + 1 := by have e := HM.out; simp at e; rw [e]; exact E3.out
      have hmb : ((m : Int) == (l.length : Int) + 1) = true := by rw [hmE]; simp
      go_wp2_with fail
      refine (InLimbo_impl _ _ tx x (slotOf b) rx (by omega)).mono ?_
      rw [E4.out]
      rintro e w9 ⟨rfl, hb⟩
      replace rz := rdLL_up rz hb
      replace rx := rdLL_up rx hb
      replace ry := rdLL_up ry hb
      replace hB := below_step0 hB hb hB.size
      clear hb
      go_wp2_with fail
      refine (InLimbo_spec _ _ tz ll (slotOf b) rz (by omega)).mono ?_
      rw [E5.out]
      rintro e w10 ⟨rfl, hb⟩
      replace rz := rdLL_up rz hb
      replace rx := rdLL_up rx hb
      replace ry := rdLL_up ry hb
      replace hB := below_step0 hB hb hB.size
      clear hb
      go_wp2_with fail
      refine (SameLimbo_spec _ _ _ _ _ _ _ ry rz).mono ?_
      rw [decide_eq_true (rfl : ll = ll)]
      rintro e w11 ⟨rfl, hb⟩
      replace rz := rdLL_up rz hb
      replace rx := rdLL_up rx hb
      replace ry := rdLL_up ry hb
      replace hB := below_step0 hB hb hB.size
      clear hb
      have E6' := Hid.mk_ (show ((bucketL x (k : Int) (c % 3)).any fun y => y == b) = true by have e := E6.out; rwa [Int.tmod_eq_emod_of_nonneg hc0] at e)
      have hbl := buckets_le (a := (k : Int)) (q := c % 3) e9
      go_wp2_with fail
      refine (Bucket_impl _ _ tx x (k : Int) (c % 3) rx (by omega)).mono ?_
      rintro e w12 ⟨vb, rfl, ob, _, hb⟩
      replace rz := rdLL_up rz hb
      replace rx := rdLL_up rx hb
      replace hB := below_step0 hB hb hB.size
      have rb := ob.rd'
      clear hb ob
      go_wp2_with fail
      refine (has_ct _ _ _ b rb).mono ?_
      rw [E6'.out]
      rintro e w13 ⟨rfl, hb⟩
      replace rz := rdLL_up rz hb
      replace rx := rdLL_up rx hb
      replace hB := below_step0 hB hb hB.size
      clear hb
      go_wp2_with fail
      refine (LimboSize_impl _ _ tx x rx (by omega)).mono ?_
      rw [E7.out]
      rintro e w14 ⟨rfl, hb⟩
      replace rz := rdLL_up rz hb
      replace rx := rdLL_up rx hb
      replace hB := below_step0 hB hb hB.size
      clear hb
      have htl : totLL ll ≤ 27 := Nat.le_trans (Nat.le_add_left _ _) e10
      go_wp2_with fail
      refine (LimboSize_spec _ _ tz ll rz (by omega)).mono ?_
      rintro e w15 ⟨rfl, hb⟩
      replace rz := rdLL_up rz hb
      replace rx := rdLL_up rx hb
      replace hB := below_step0 hB hb hB.size
      clear hb
      go_wp2_with fail
      refine (LimboOk_spec _ _ tx x rx (by omega)).mono ?_
      rw [E8.out]
      rintro e w16 ⟨rfl, hb⟩
      replace rz := rdLL_up rz hb
      replace hB := below_step0 hB hb hB.size
      clear hb
      go_wp2_with fail
      go_ret
      exact ⟨rfl, hB⟩
end Go.Proofs.Ytobcdcfbhfoheaa
