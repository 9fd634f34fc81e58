/-
  Heaps: pages, the reference.
-/
import Derived.Test.YtkldapdpaldbgaaGreatT
import Derived.Test.YtkldapdpaldbgaaGreatL
import Derived.Deep.QuietTactic
import Derived.BigQuiet
import Derived.Deep.LoopGhost
import Derived.Deep.RegionHeld3
import Derived.Test.YtkldapdpaldbgaaGreatN
import Derived.Test.YtkldapdpaldbgaaGreatA
import Derived.WalkSpells
import Derived.Laws.Cover3
import Derived.Test.YtkldapdpaldbgaaGreatB4
namespace Go.Proofs.YtkldapdpaldbgaaGreat
open Go.RowKit

set_option maxHeartbeats 1000000 in
theorem SlotAt_spec (p i : Int) (w : World) : Calls Tryz.prog 269 #[.int .i64 p, .int .i64 i] w fun e w' => e = .returned (.int .i64 (slotAtP p i)) ∧ w = w' := by
  by_cases h1 : inB 0 5 p = true
  case neg =>
    have h1' : inB 0 5 p = false := (Bool.not_eq_true _).mp h1
    have HS := Hid.mk_ (show slotAtP p i = -1 from if_neg (fun hh => h1 hh.1))
    clear h1
    go_enter Tryz.func269, Tryz.ntmps269
    go_wp2_with (go_at_call 107; refine (l1In_ct _ _ _ _).mono ?_; rintro e w1 ⟨rfl, rfl⟩)
    go_ret
    exact ⟨ret_i64 HS.out.symm, rfl⟩
  by_cases h2 : inB 0 3 i = true
  case neg =>
    have h2' : inB 0 3 i = false := (Bool.not_eq_true _).mp h2
    have HS := Hid.mk_ (show slotAtP p i = -1 from if_neg (fun hh => h2 hh.2))
    clear h2
    go_enter Tryz.func269, Tryz.ntmps269
    go_wp2_with (go_at_call 107; refine (l1In_ct _ _ _ _).mono ?_; rintro e w1 ⟨rfl, rfl⟩)
    go_ret
    exact ⟨ret_i64 HS.out.symm, rfl⟩
  have HS := Hid.mk_ (show slotAtP p i = p * 4 + i from if_pos ⟨h1, h2⟩)
  obtain ⟨a1, a2⟩ := inB_iff.1 h1
  obtain ⟨b1, b2⟩ := inB_iff.1 h2
  go_enter Tryz.func269, Tryz.ntmps269
  go_wp2_with (go_at_call 107; refine (l1In_ct _ _ _ _).mono ?_; rintro e w1 ⟨rfl, rfl⟩)
  go_ret
  exact ⟨ret_i64 HS.out.symm, rfl⟩
theorem zeros_step {b : List Int} {lo m : Nat} (h1 : lo ≤ m) (h2 : m < b.length) (hz : zerosB ((b.drop lo).take (m - lo)) = true) (h0 : b.getD m 0 = 0) : zerosB ((b.drop lo).take (m + 1 - lo)) = true := by
  unfold zerosB at *
  rw [show m + 1 - lo = (m - lo) + 1 by omega, List.take_succ_eq_append_getElem (by rw [List.length_drop]; omega), List.all_append, hz]
  rw [getD_at h2] at h0
  simp only [List.getElem_drop, List.all_cons, List.all_nil, Bool.and_true, Bool.true_and]
  rw [show b[lo + (m - lo)] = b[m] by congr 1; omega, h0]
  rfl
theorem zeros_no {b : List Int} {lo n m : Nat} (h1 : lo ≤ m) (h2 : m < b.length) (h3 : m < lo + n) (h0 : b.getD m 0 ≠ 0) : zerosB ((b.drop lo).take n) = false := by
  unfold zerosB
  rw [List.all_eq_false]
  refine ⟨b[m], ?_, ?_⟩
  · rw [List.mem_take_iff_getElem]
    refine ⟨m - lo, by rw [List.length_drop]; omega, ?_⟩
    rw [List.getElem_drop]
    congr 1
    omega
  · rw [getD_at h2] at h0
    simpa using h0
theorem genAt_page {p i : Nat} {c : Int} (hp : p < 6) (hc : inB 0 2 c = true) (hi : i < (perPage c).toNat) : genAt (slotAtP p i) c = ((p * 64 + 8 + i * (strideOf c).toNat : Nat) : Int) := by
  have a := perPage_bd c
  have e : slotAtP p i = (p : Int) * 4 + i := if_pos ⟨inB_iff.2 ⟨by omega, by omega⟩, inB_iff.2 ⟨by omega, by omega⟩⟩
  have e1 : ((p : Int) * 4 + i) / 4 = p := by omega
  have e2 : ((p : Int) * 4 + i) % 4 = i := by omega
  rw [e, genAt_yes (inB_iff.2 ⟨by omega, by omega⟩) hc (by rw [e2]; omega), e1, e2]
  rcases cls hc with rfl | rfl | rfl
  · show (p : Int) * 64 + 8 + i * 12 = ((p * 64 + 8 + i * 12 : Nat) : Int)
    omega
  · show (p : Int) * 64 + 8 + i * 20 = ((p * 64 + 8 + i * 20 : Nat) : Int)
    omega
  · show (p : Int) * 64 + 8 + i * 44 = ((p * 64 + 8 + i * 44 : Nat) : Int)
    omega

theorem quiet_left {P : Program} {f : FuncId} {args : Array Value} {w : World} {n : Nat} {v : Value}
    (h : Calls P f args (w.drewN n) fun e w' => e = .returned v ∧ w.drewN n = w') : Calls P f args (w.drewN n) fun e w'' => e = .returned v ∧ ∃ m, w'' = w.drewN m :=
  h.mono fun _ _ ⟨he, hm⟩ => ⟨he, n, hm.symm⟩
set_option maxRecDepth 100000 in
set_option maxHeartbeats 4000000 in
theorem l7Page_spec (w : World) (H : HHeap) (x : Heap) (p : Nat) (hp : p < 6) (h : RdHeap w w.heap.size H x) (hs : shapeB x = true) :
    Calls Tryz.prog 212 #[.agg #[.slice H.Bytes.a H.Bytes.len H.Bytes.cap, .slice H.Class.a H.Class.len H.Class.cap], .int .i64 p] w fun e w' => e = .returned (.bool (pageOkB x p)) ∧ Below w.heap.size w w' := by
  obtain ⟨⟨A1, n1, c1⟩, ⟨A2, n2, c2⟩⟩ := H
  obtain ⟨bs, cs⟩ := x
  have hr1 : RdL FI w w.heap.size (.slice A1 n1 c1) bs := h.Bytes
  have hr2 : RdL FI w w.heap.size (.slice A2 n2 c2) cs := h.Class
  obtain ⟨_, _, hv, q1, q2, qx⟩ := id hr1
  simp only [Value.slice.injEq] at hv
  obtain ⟨rfl, rfl, rfl⟩ := hv
  have hlt1 : bs.length ≤ 9223372036854775807 := by unfold maxLen at q2; omega
  clear q1 q2 qx
  obtain ⟨_, _, hv, q1, q2, qx⟩ := id hr2
  simp only [Value.slice.injEq] at hv
  obtain ⟨rfl, rfl, rfl⟩ := hv
  have hlt2 : cs.length ≤ 9223372036854775807 := by unfold maxLen at q2; omega
  clear q1 q2 qx h
  have sh := shape_of hs
  have hl6 := sh.cl
  have hl384 := sh.bl
  have hby := sh.by_
  have hcb := sh.cs p
  simp only at hl6 hl384 hby hcb
  have hpl : p < cs.length := by omega
  have HE := Hid.mk_ (show pageOkB ⟨bs, cs⟩ p = (if cs.getD p (-1) < 0 then zerosB ((bs.drop (p * 64)).take 64) else (bs.getD (p * 64) 0 == 171) && (bs.getD (p * 64 + 1) 0 == cs.getD p (-1)) && (bs.getD (p * 64 + 2) 0 == perPage (cs.getD p (-1))) && zerosB ((bs.drop (p * 64 + 3)).take 5) && gensB ⟨bs, cs⟩ p (cs.getD p (-1)) (perPage (cs.getD p (-1))).toNat) from rfl)
  show Calls Tryz.prog 212 #[.agg #[.slice A1 bs.length c1, .slice A2 cs.length c2], .int .i64 p] _ _
  obtain ⟨g2, off2, cap2, he, hg2, _, _, hc2⟩ := hr2.at_ (show cs[p]? = some (cs.getD p (-1)) by rw [getD_at hpl]; exact List.getElem?_eq_getElem hpl)
  injection he with he1 he2 he3
  clear he2
  subst he1 he3
  have p0 : w.cell? ⟨g2, off2 + p, none⟩ = some (.int .i64 (cs.getD p (-1))) := by simpa [FI] using hc2 0 _ rfl
  clear hc2
  have HG := Hid.mk_ (fun c k => gensB_succ ⟨bs, cs⟩ p c k)
  have HG2 := Hid.mk_ (fun c k n => gensB_no (h := ⟨bs, cs⟩) (p := p) (c := c) (k := k) (n := n))
  have HR := Hid.mk_ (fun c hc i => gens_room (c := c) hc (i := i))
  generalize cs.getD p (-1) = c at p0 hcb HE
  obtain ⟨g1, off1, cap1, he, hg1, hcc1, hcc2, hc1⟩ := hr1.at_ (show bs[p * 64]? = some (bs.getD (p * 64) 0) by rw [getD_at (by omega)]; exact List.getElem?_eq_getElem (by omega))
  injection he with he1 he2 he3
  clear he2
  subst he1 he3
  have x0 : w.cell? ⟨g1, off1 + p * 64, none⟩ = some (.int .i64 (bs.getD (p * 64) 0)) := by simpa [FI] using hc1 0 _ rfl
  obtain ⟨g1', off1', cap1', he, _, _, _, hc1⟩ := hr1.at_ (show bs[p * 64 + 1]? = some (bs.getD (p * 64 + 1) 0) by rw [getD_at (by omega)]; exact List.getElem?_eq_getElem (by omega))
  injection he with he1 he2 he3
  injection he1 with he1
  injection he1 with he1 he4
  subst he1 he3 he4
  have x1 : w.cell? ⟨g1, off1 + (p * 64 + 1), none⟩ = some (.int .i64 (bs.getD (p * 64 + 1) 0)) := by simpa [FI] using hc1 0 _ rfl
  obtain ⟨g1', off1', cap1', he, _, _, _, hc1⟩ := hr1.at_ (show bs[p * 64 + 2]? = some (bs.getD (p * 64 + 2) 0) by rw [getD_at (by omega)]; exact List.getElem?_eq_getElem (by omega))
  injection he with he1 he2 he3
  injection he1 with he1
  injection he1 with he1 he4
  subst he1 he3 he4
  have x2 : w.cell? ⟨g1, off1 + (p * 64 + 2), none⟩ = some (.int .i64 (bs.getD (p * 64 + 2) 0)) := by simpa [FI] using hc1 0 _ rfl
  clear hc1 he2 sh hs
  have hrz := hr1.subI (p * 64) 64 (by omega)
  have hrf := hr1.subI (p * 64 + 3) 5 (by omega)
  rw [← Nat.add_assoc, Nat.sub_add_eq] at hrf
  have hb384 : 384 ≤ bs.length := by omega
  have hb6 : 6 ≤ cs.length := by omega
  clear hl384 hl6
  have x1' : w.cell? ⟨g1, off1 + p * 64 + 1, none⟩ = some (.int .i64 (bs.getD (p * 64 + 1) 0)) := by rw [Nat.add_assoc]; exact x1
  have x2' : w.cell? ⟨g1, off1 + p * 64 + 2, none⟩ = some (.int .i64 (bs.getD (p * 64 + 2) 0)) := by rw [Nat.add_assoc]; exact x2
  generalize bs.getD (p * 64) 0 = y0 at x0 HE
  generalize bs.getD (p * 64 + 1) 0 = y1 at x1 x1' HE
  generalize bs.getD (p * 64 + 2) 0 = y2 at x2 x2' HE

  have HGP := Hid.mk_ (fun c hc i => genAt_page (p := p) (i := i) (c := c) hp hc)
  have e1 : (p : Int) * 64 = ((p * 64 : Nat) : Int) := by omega
  have ha : p * 64 + 64 ≤ bs.length := by omega
  generalize p * 64 = a at *
  by_cases k0 : c < 0
  · have hd0 : decide (c < 0) = true := by simpa using k0
    rw [if_pos k0] at HE
    clear HG HG2 HR HGP
    go_enter Tryz.func212, Tryz.ntmps212
    go_wp2
    generalize hW : (w.alloc (.cells #[.slice (some ⟨g1, off1, none⟩) bs.length c1, .slice (some ⟨g2, off2, none⟩) cs.length c2] 26)) = w0
    have hB0 : Below w.heap.size w w0 := by rw [← hW]; repeat (first | exact Below.refl _ _ | refine Below.alloc ?_ (by simp <;> omega) _ | refine below_grow_of ?_ (by simp <;> omega) _ _ | refine Below.drew ?_ | refine below_drewN ?_ _)
    have q0 : w0.cell? ⟨w.heap.size, 0, none⟩ = some (.slice (some ⟨g1, off1, none⟩) bs.length c1) := by rw [← hW]; simp [go_sem]
    clear hW
    go_loop [7] (fun i => ∃ m : Nat, a ≤ m ∧ m ≤ a + 64 ∧ i = .int .i64 m ∧ Hid (zerosB ((bs.drop (a)).take (m - (a))) = true)) (fun i => a + 64 - (intOf i).toNat)
    case atStart => exact ⟨a, Nat.le_refl _, by omega, by go_num, Hid.mk_ (by rw [Nat.sub_self]; rfl)⟩
    case round =>
      obtain ⟨m, hm1, hm2, rfl, HT⟩ := hrel
      by_cases hlt : m < a + 64
      · have ht : decide ((m : Int) < (a : Int) + 64) = true := decide_eq_true (by omega)
        have ht' : (m : Int) < (a : Int) + 64 := by omega
        have hmb : m < bs.length := by omega
        obtain ⟨g1', off1', cap1', he, _, _, _, hc1⟩ := (hr1.below hB0).at_ (show bs[m]? = some (bs.getD m 0) by rw [getD_at hmb]; exact List.getElem?_eq_getElem hmb)
        injection he with he1 he2 he3
        injection he1 with he1
        injection he1 with he1 he4
        subst he1 he3 he4
        have x0 : w0.cell? ⟨g1, off1 + m, none⟩ = some (.int .i64 (bs.getD m 0)) := by simpa [FI] using hc1 0 _ rfl
        clear hc1 he2
        have HS := Hid.mk_ (fun h0 => zeros_step (b := bs) hm1 hmb HT.out h0)
        have HNo := Hid.mk_ (fun h0 => zeros_no (b := bs) (n := 64) hm1 hmb hlt h0)
        generalize bs.getD m 0 = y at x0 HS HNo
        by_cases hy : y = 0
        · have HN := Hid.mk_ (HS.out hy)
          have hy' : (y != 0) = false := by simpa using hy
          clear hy
          go_wp2
          go_round
          case rel => exact ⟨m + 1, by omega, by omega, by go_num, HN⟩
          case measure => simp [intOf]; omega
        · have HN := Hid.mk_ (HNo.out hy)
          have hy' : (y != 0) = true := by simpa using hy
          clear hy
          go_wp2
          go_ret
          exact ⟨ret_bool (by rw [HE.out, HN.out]), (by first | exact hB0 | exact hB0.drew | exact below_drewN hB0 _)⟩
      · obtain rfl : m = a + 64 := by omega
        have HN := Hid.mk_ (show zerosB ((bs.drop (a)).take 64) = true by have u := HT.out; rwa [show a + 64 - (a) = 64 by omega] at u)
        have ht : decide (((a + 64 : Nat) : Int) < (a : Int) + 64) = false := decide_eq_false (by omega)
        clear HT
        go_wp2
        go_ret
        exact ⟨ret_bool (by rw [HE.out, HN.out]), (by first | exact hB0 | exact hB0.drew | exact below_drewN hB0 _)⟩
  rw [if_neg k0] at HE
  have hd0 : decide (c < 0) = false := by simpa using k0
  have hc : inB 0 2 c = true := inB_iff.2 ⟨by omega, hcb.2⟩
  by_cases k1 : y0 = 171
  case neg =>
    have k1' : (y0 != 171) = true := by simpa using k1
    have K1 := Hid.mk_ (show (y0 == 171) = false by simpa using k1)
    clear k1 HG HG2 HR HGP
    go_enter Tryz.func212, Tryz.ntmps212
    go_wp2
    go_quiet ((go_at_call 184; exact quiet_left (PerPage_spec _ _)))
    go_wp2
    go_ret
    exact ⟨ret_bool (by rw [HE.out]; rw [K1.out]; simp), by repeat (first | exact Below.refl _ _ | refine Below.alloc ?_ (by simp <;> omega) _ | refine below_grow_of ?_ (by simp <;> omega) _ _ | refine Below.drew ?_ | refine below_drewN ?_ _)⟩
  subst k1
  by_cases k2 : y1 = c
  case neg =>
    have k2' : (y1 != c) = true := by simpa using k2
    have K2 := Hid.mk_ (show (y1 == c) = false by simpa using k2)
    clear k2 HG HG2 HR HGP
    go_enter Tryz.func212, Tryz.ntmps212
    go_wp2
    go_quiet ((go_at_call 184; exact quiet_left (PerPage_spec _ _)))
    go_wp2
    go_ret
    exact ⟨ret_bool (by rw [HE.out]; rw [K2.out]; simp), by repeat (first | exact Below.refl _ _ | refine Below.alloc ?_ (by simp <;> omega) _ | refine below_grow_of ?_ (by simp <;> omega) _ _ | refine Below.drew ?_ | refine below_drewN ?_ _)⟩
  subst k2
  by_cases k3 : y2 = perPage y1
  case neg =>
    have k3' : (y2 != perPage y1) = true := by simpa using k3
    have K3 := Hid.mk_ (show (y2 == perPage y1) = false by simpa using k3)
    clear k3 HG HG2 HR HGP
    go_enter Tryz.func212, Tryz.ntmps212
    go_wp2
    go_quiet ((go_at_call 184; exact quiet_left (PerPage_spec _ _)))
    go_wp2
    go_ret
    exact ⟨ret_bool (by rw [HE.out]; rw [K3.out]; simp), by repeat (first | exact Below.refl _ _ | refine Below.alloc ?_ (by simp <;> omega) _ | refine below_grow_of ?_ (by simp <;> omega) _ _ | refine Below.drew ?_ | refine below_drewN ?_ _)⟩
  subst k3
  have HF := Hid.mk_ (show pageOkB ⟨bs, cs⟩ p = (zerosB ((bs.drop (a + 3)).take 5) && gensB ⟨bs, cs⟩ p y1 (perPage y1).toNat) by rw [HE.out]; simp)
  clear HE
  rcases cls hc with rfl | rfl | rfl
  · have hper : perPage 0 = 4 := rfl
    have hst2 : (strideOf 0).toNat = 12 := rfl
    rw [hper] at x2 x2'
    have HF' := Hid.mk_ (show pageOkB ⟨bs, cs⟩ p = (zerosB ((bs.drop (a + 3)).take 5) && gensB ⟨bs, cs⟩ p 0 4) from HF.out)
    clear HF hcb k0
    go_enter Tryz.func212, Tryz.ntmps212
    go_wp2
    go_quiet ((go_at_call 184; exact quiet_left ((PerPage_spec 0 _).mono fun e w' ⟨u, v⟩ => ⟨by rw [u, hper], v⟩)))
    generalize hW : World.drewN _ _ = w0
    have hB0 : Below w.heap.size w w0 := by rw [← hW]; repeat (first | exact Below.refl _ _ | refine Below.alloc ?_ (by simp <;> omega) _ | refine below_grow_of ?_ (by simp <;> omega) _ _ | refine Below.drew ?_ | refine below_drewN ?_ _)
    have q0 : w0.cell? ⟨w.heap.size, 0, none⟩ = some (.slice (some ⟨g1, off1, none⟩) bs.length c1) := by rw [← hW]; simp [go_sem]
    have q1 : w0.cell? ⟨w.heap.size, 1, none⟩ = some (.slice (some ⟨g2, off2, none⟩) cs.length c2) := by rw [← hW]; simp [go_sem]
    clear hW
    clear x0 x1 x2 x1' x2' p0
    go_wp2
    go_loop [8] (fun i => ∃ m : Nat, a + 3 ≤ m ∧ m ≤ a + 3 + 5 ∧ i = .int .i64 m ∧ Hid (zerosB ((bs.drop (a + 3)).take (m - (a + 3))) = true)) (fun i => a + 3 + 5 - (intOf i).toNat)
    case atStart => exact ⟨a + 3, Nat.le_refl _, by omega, by go_num, Hid.mk_ (by rw [Nat.sub_self]; rfl)⟩
    case round =>
      obtain ⟨m, hm1, hm2, rfl, HT⟩ := hrel
      by_cases hlt : m < a + 3 + 5
      · have ht : decide ((m : Int) < (a : Int) + 8) = true := decide_eq_true (by omega)
        have ht' : (m : Int) < (a : Int) + 8 := by omega
        have hmb : m < bs.length := by omega
        obtain ⟨g1', off1', cap1', he, _, _, _, hc1⟩ := (hr1.below hB0).at_ (show bs[m]? = some (bs.getD m 0) by rw [getD_at hmb]; exact List.getElem?_eq_getElem hmb)
        injection he with he1 he2 he3
        injection he1 with he1
        injection he1 with he1 he4
        subst he1 he3 he4
        have x0 : w0.cell? ⟨g1, off1 + m, none⟩ = some (.int .i64 (bs.getD m 0)) := by simpa [FI] using hc1 0 _ rfl
        clear hc1 he2
        have HS := Hid.mk_ (fun h0 => zeros_step (b := bs) hm1 hmb HT.out h0)
        have HNo := Hid.mk_ (fun h0 => zeros_no (b := bs) (n := 5) hm1 hmb hlt h0)
        generalize bs.getD m 0 = y at x0 HS HNo
        by_cases hy : y = 0
        · have HN := Hid.mk_ (HS.out hy)
          have hy' : (y != 0) = false := by simpa using hy
          clear hy
          go_wp2
          go_round
          case rel => exact ⟨m + 1, by omega, by omega, by go_num, HN⟩
          case measure => simp [intOf]; omega
        · have HN := Hid.mk_ (HNo.out hy)
          have hy' : (y != 0) = true := by simpa using hy
          clear hy
          go_wp2
          go_ret
          exact ⟨ret_bool (by rw [HF'.out, HN.out]; rfl), (by first | exact hB0 | exact hB0.drew | exact below_drewN hB0 _)⟩
      · obtain rfl : m = a + 3 + 5 := by omega
        have HN := Hid.mk_ (show zerosB ((bs.drop (a + 3)).take 5) = true by have u := HT.out; rwa [show a + 3 + 5 - (a + 3) = 5 by omega] at u)
        have ht : decide (((a + 3 + 5 : Nat) : Int) < (a : Int) + 8) = false := decide_eq_false (by omega)
        clear HT
        go_wp2_with (go_at_call 184; refine (PerPage_spec _ _).mono ?_; rw [hper]; rintro e w2 ⟨rfl, rfl⟩)
        go_loopw [9] (fun i wr => ∃ k : Nat, k ≤ 4 ∧ i = .int .i64 k ∧ Hid (gensB ⟨bs, cs⟩ p 0 k = true) ∧ Below w.heap.size w wr ∧ wr.cell? ⟨w.heap.size, 0, none⟩ = some (.slice (some ⟨g1, off1, none⟩) bs.length c1)) (fun i _ => 4 - (intOf i).toNat)
        case atStart => exact ⟨0, Nat.zero_le _, rfl, rfl, hB0, q0⟩
        case round =>
          obtain ⟨i, hi, rfl, HT, hB1, r0⟩ := hrel
          clear hB0 q0 q1 hr2
          by_cases hlt : i < 4
          · have HGi := Hid.mk_ (HGP.out 0 hc i hlt)
            have hroom := HR.out 0 hc i hlt
            rw [hst2] at HGi hroom
            have HS := Hid.mk_ (show gensB ⟨bs, cs⟩ p 0 (i + 1) = (gensB ⟨bs, cs⟩ p 0 i && inB 1 7 (loadN bs ((a + 8 + i * 12 : Nat) : Int) 4)) from HG.out 0 i)
            have HNo := Hid.mk_ (show inB 1 7 (loadN bs ((a + 8 + i * 12 : Nat) : Int) 4) = false → gensB ⟨bs, cs⟩ p 0 4 = false from HG2.out 0 i 4 hlt)
            have hcq1 : ∀ W : World, Calls Tryz.prog 269 #[.int .i64 p, .int .i64 i] W fun e w' => e = .returned (.int .i64 (slotAtP p i)) ∧ W = w' := fun W => SlotAt_spec p i W
            have hcq2 : ∀ W : World, Calls Tryz.prog 216 #[.int .i64 (slotAtP p i), .int .i64 0] W fun e w' => e = .returned (.int .i64 ((a + 8 + i * 12 : Nat) : Int)) ∧ W = w' := fun W => (GenAt_spec _ 0 W).mono fun e w' ⟨u, v⟩ => ⟨by rw [u, HGi.out], v⟩
            have hge : a + 8 + i * 12 + 4 ≤ bs.length := by omega
            have hcq3 : ∀ W : World, Below w.heap.size w W → Calls Tryz.prog 215 #[.slice (some ⟨g1, off1, none⟩) bs.length c1, .int .i64 ((a + 8 + i * 12 : Nat) : Int), .int .i64 4] W fun e w' => e = .returned (.int .i64 (loadN bs ((a + 8 + i * 12 : Nat) : Int) 4)) ∧ W = w' := fun W hW => l3Load_spec W _ bs _ 4 (rd_up hr1 hW) (by omega) (by decide) (by decide) (by omega) hby
            generalize loadN bs ((a + 8 + i * 12 : Nat) : Int) 4 = z at hcq3 HS HNo
            generalize a + 8 + i * 12 = ga at hcq2 hcq3 hge
            generalize slotAtP p i = sl at hcq1 hcq2
            by_cases k5 : inB 1 7 z = true
            · have HN := Hid.mk_ (show gensB ⟨bs, cs⟩ p 0 (i + 1) = true by rw [HS.out, HT.out, k5]; rfl)
              clear HS HNo HGi hroom
              go_wp2_with (go_at_call 184; refine (PerPage_spec _ _).mono ?_; rw [hper]; rintro e w2 ⟨rfl, rfl⟩)
              go_quiet ((first | (go_at_call 269; exact quiet_left (hcq1 _)) | (go_at_call 216; exact quiet_left (hcq2 _)) | (go_at_call 215; exact quiet_left (hcq3 _ (by first | exact hB1 | exact hB1.drew | exact below_drewN hB1 _))) | (go_at_call 107; exact quiet_left (l1In_ct _ _ _ _))))
              go_wp2
              go_roundw
              case rel => exact ⟨i + 1, by omega, by go_num, HN, by first | exact hB1 | exact hB1.drew | exact below_drewN hB1 _, by first | exact r0 | simpa [go_sem] using r0⟩
              case measure => simp [intOf]; omega
            · have k5' : inB 1 7 z = false := (Bool.not_eq_true _).mp k5
              have HN' := Hid.mk_ (HNo.out k5')
              clear k5 HS HNo HGi hroom
              go_wp2_with (go_at_call 184; refine (PerPage_spec _ _).mono ?_; rw [hper]; rintro e w2 ⟨rfl, rfl⟩)
              go_quiet ((first | (go_at_call 269; exact quiet_left (hcq1 _)) | (go_at_call 216; exact quiet_left (hcq2 _)) | (go_at_call 215; exact quiet_left (hcq3 _ (by first | exact hB1 | exact hB1.drew | exact below_drewN hB1 _))) | (go_at_call 107; exact quiet_left (l1In_ct _ _ _ _))))
              go_wp2
              go_ret
              exact ⟨ret_bool (by rw [HF'.out, HN'.out]; simp), by first | exact hB1 | exact hB1.drew | exact below_drewN hB1 _⟩
          · obtain rfl : i = 4 := by omega
            go_wp2_with (go_at_call 184; refine (PerPage_spec _ _).mono ?_; rw [hper]; rintro e w2 ⟨rfl, rfl⟩)
            go_ret
            exact ⟨ret_bool (by rw [HF'.out, HN.out, HT.out]; rfl), by first | exact hB1 | exact hB1.drew | exact below_drewN hB1 _⟩
  · have hper : perPage 1 = 2 := rfl
    have hst2 : (strideOf 1).toNat = 20 := rfl
    rw [hper] at x2 x2'
    have HF' := Hid.mk_ (show pageOkB ⟨bs, cs⟩ p = (zerosB ((bs.drop (a + 3)).take 5) && gensB ⟨bs, cs⟩ p 1 2) from HF.out)
    clear HF hcb k0
    go_enter Tryz.func212, Tryz.ntmps212
    go_wp2
    go_quiet ((go_at_call 184; exact quiet_left ((PerPage_spec 1 _).mono fun e w' ⟨u, v⟩ => ⟨by rw [u, hper], v⟩)))
    generalize hW : World.drewN _ _ = w0
    have hB0 : Below w.heap.size w w0 := by rw [← hW]; repeat (first | exact Below.refl _ _ | refine Below.alloc ?_ (by simp <;> omega) _ | refine below_grow_of ?_ (by simp <;> omega) _ _ | refine Below.drew ?_ | refine below_drewN ?_ _)
    have q0 : w0.cell? ⟨w.heap.size, 0, none⟩ = some (.slice (some ⟨g1, off1, none⟩) bs.length c1) := by rw [← hW]; simp [go_sem]
    have q1 : w0.cell? ⟨w.heap.size, 1, none⟩ = some (.slice (some ⟨g2, off2, none⟩) cs.length c2) := by rw [← hW]; simp [go_sem]
    clear hW
    clear x0 x1 x2 x1' x2' p0
    go_wp2
    go_loop [8] (fun i => ∃ m : Nat, a + 3 ≤ m ∧ m ≤ a + 3 + 5 ∧ i = .int .i64 m ∧ Hid (zerosB ((bs.drop (a + 3)).take (m - (a + 3))) = true)) (fun i => a + 3 + 5 - (intOf i).toNat)
    case atStart => exact ⟨a + 3, Nat.le_refl _, by omega, by go_num, Hid.mk_ (by rw [Nat.sub_self]; rfl)⟩
    case round =>
      obtain ⟨m, hm1, hm2, rfl, HT⟩ := hrel
      by_cases hlt : m < a + 3 + 5
      · have ht : decide ((m : Int) < (a : Int) + 8) = true := decide_eq_true (by omega)
        have ht' : (m : Int) < (a : Int) + 8 := by omega
        have hmb : m < bs.length := by omega
        obtain ⟨g1', off1', cap1', he, _, _, _, hc1⟩ := (hr1.below hB0).at_ (show bs[m]? = some (bs.getD m 0) by rw [getD_at hmb]; exact List.getElem?_eq_getElem hmb)
        injection he with he1 he2 he3
        injection he1 with he1
        injection he1 with he1 he4
        subst he1 he3 he4
        have x0 : w0.cell? ⟨g1, off1 + m, none⟩ = some (.int .i64 (bs.getD m 0)) := by simpa [FI] using hc1 0 _ rfl
        clear hc1 he2
        have HS := Hid.mk_ (fun h0 => zeros_step (b := bs) hm1 hmb HT.out h0)
        have HNo := Hid.mk_ (fun h0 => zeros_no (b := bs) (n := 5) hm1 hmb hlt h0)
        generalize bs.getD m 0 = y at x0 HS HNo
        by_cases hy : y = 0
        · have HN := Hid.mk_ (HS.out hy)
          have hy' : (y != 0) = false := by simpa using hy
          clear hy
          go_wp2
          go_round
          case rel => exact ⟨m + 1, by omega, by omega, by go_num, HN⟩
          case measure => simp [intOf]; omega
        · have HN := Hid.mk_ (HNo.out hy)
          have hy' : (y != 0) = true := by simpa using hy
          clear hy
          go_wp2
          go_ret
          exact ⟨ret_bool (by rw [HF'.out, HN.out]; rfl), (by first | exact hB0 | exact hB0.drew | exact below_drewN hB0 _)⟩
      · obtain rfl : m = a + 3 + 5 := by omega
        have HN := Hid.mk_ (show zerosB ((bs.drop (a + 3)).take 5) = true by have u := HT.out; rwa [show a + 3 + 5 - (a + 3) = 5 by omega] at u)
        have ht : decide (((a + 3 + 5 : Nat) : Int) < (a : Int) + 8) = false := decide_eq_false (by omega)
        clear HT
        go_wp2_with (go_at_call 184; refine (PerPage_spec _ _).mono ?_; rw [hper]; rintro e w2 ⟨rfl, rfl⟩)
        go_loopw [9] (fun i wr => ∃ k : Nat, k ≤ 2 ∧ i = .int .i64 k ∧ Hid (gensB ⟨bs, cs⟩ p 1 k = true) ∧ Below w.heap.size w wr ∧ wr.cell? ⟨w.heap.size, 0, none⟩ = some (.slice (some ⟨g1, off1, none⟩) bs.length c1)) (fun i _ => 2 - (intOf i).toNat)
        case atStart => exact ⟨0, Nat.zero_le _, rfl, rfl, hB0, q0⟩
        case round =>
          obtain ⟨i, hi, rfl, HT, hB1, r0⟩ := hrel
          clear hB0 q0 q1 hr2
          by_cases hlt : i < 2
          · have HGi := Hid.mk_ (HGP.out 1 hc i hlt)
            have hroom := HR.out 1 hc i hlt
            rw [hst2] at HGi hroom
            have HS := Hid.mk_ (show gensB ⟨bs, cs⟩ p 1 (i + 1) = (gensB ⟨bs, cs⟩ p 1 i && inB 1 7 (loadN bs ((a + 8 + i * 20 : Nat) : Int) 4)) from HG.out 1 i)
            have HNo := Hid.mk_ (show inB 1 7 (loadN bs ((a + 8 + i * 20 : Nat) : Int) 4) = false → gensB ⟨bs, cs⟩ p 1 2 = false from HG2.out 1 i 2 hlt)
            have hcq1 : ∀ W : World, Calls Tryz.prog 269 #[.int .i64 p, .int .i64 i] W fun e w' => e = .returned (.int .i64 (slotAtP p i)) ∧ W = w' := fun W => SlotAt_spec p i W
            have hcq2 : ∀ W : World, Calls Tryz.prog 216 #[.int .i64 (slotAtP p i), .int .i64 1] W fun e w' => e = .returned (.int .i64 ((a + 8 + i * 20 : Nat) : Int)) ∧ W = w' := fun W => (GenAt_spec _ 1 W).mono fun e w' ⟨u, v⟩ => ⟨by rw [u, HGi.out], v⟩
            have hge : a + 8 + i * 20 + 4 ≤ bs.length := by omega
            have hcq3 : ∀ W : World, Below w.heap.size w W → Calls Tryz.prog 215 #[.slice (some ⟨g1, off1, none⟩) bs.length c1, .int .i64 ((a + 8 + i * 20 : Nat) : Int), .int .i64 4] W fun e w' => e = .returned (.int .i64 (loadN bs ((a + 8 + i * 20 : Nat) : Int) 4)) ∧ W = w' := fun W hW => l3Load_spec W _ bs _ 4 (rd_up hr1 hW) (by omega) (by decide) (by decide) (by omega) hby
            generalize loadN bs ((a + 8 + i * 20 : Nat) : Int) 4 = z at hcq3 HS HNo
            generalize a + 8 + i * 20 = ga at hcq2 hcq3 hge
            generalize slotAtP p i = sl at hcq1 hcq2
            by_cases k5 : inB 1 7 z = true
            · have HN := Hid.mk_ (show gensB ⟨bs, cs⟩ p 1 (i + 1) = true by rw [HS.out, HT.out, k5]; rfl)
              clear HS HNo HGi hroom
              go_wp2_with (go_at_call 184; refine (PerPage_spec _ _).mono ?_; rw [hper]; rintro e w2 ⟨rfl, rfl⟩)
              go_quiet ((first | (go_at_call 269; exact quiet_left (hcq1 _)) | (go_at_call 216; exact quiet_left (hcq2 _)) | (go_at_call 215; exact quiet_left (hcq3 _ (by first | exact hB1 | exact hB1.drew | exact below_drewN hB1 _))) | (go_at_call 107; exact quiet_left (l1In_ct _ _ _ _))))
              go_wp2
              go_roundw
              case rel => exact ⟨i + 1, by omega, by go_num, HN, by first | exact hB1 | exact hB1.drew | exact below_drewN hB1 _, by first | exact r0 | simpa [go_sem] using r0⟩
              case measure => simp [intOf]; omega
            · have k5' : inB 1 7 z = false := (Bool.not_eq_true _).mp k5
              have HN' := Hid.mk_ (HNo.out k5')
              clear k5 HS HNo HGi hroom
              go_wp2_with (go_at_call 184; refine (PerPage_spec _ _).mono ?_; rw [hper]; rintro e w2 ⟨rfl, rfl⟩)
              go_quiet ((first | (go_at_call 269; exact quiet_left (hcq1 _)) | (go_at_call 216; exact quiet_left (hcq2 _)) | (go_at_call 215; exact quiet_left (hcq3 _ (by first | exact hB1 | exact hB1.drew | exact below_drewN hB1 _))) | (go_at_call 107; exact quiet_left (l1In_ct _ _ _ _))))
              go_wp2
              go_ret
              exact ⟨ret_bool (by rw [HF'.out, HN'.out]; simp), by first | exact hB1 | exact hB1.drew | exact below_drewN hB1 _⟩
          · obtain rfl : i = 2 := by omega
            go_wp2_with (go_at_call 184; refine (PerPage_spec _ _).mono ?_; rw [hper]; rintro e w2 ⟨rfl, rfl⟩)
            go_ret
            exact ⟨ret_bool (by rw [HF'.out, HN.out, HT.out]; rfl), by first | exact hB1 | exact hB1.drew | exact below_drewN hB1 _⟩
  · have hper : perPage 2 = 1 := rfl
    have hst2 : (strideOf 2).toNat = 44 := rfl
    rw [hper] at x2 x2'
    have HF' := Hid.mk_ (show pageOkB ⟨bs, cs⟩ p = (zerosB ((bs.drop (a + 3)).take 5) && gensB ⟨bs, cs⟩ p 2 1) from HF.out)
    clear HF hcb k0
    go_enter Tryz.func212, Tryz.ntmps212
    go_wp2
    go_quiet ((go_at_call 184; exact quiet_left ((PerPage_spec 2 _).mono fun e w' ⟨u, v⟩ => ⟨by rw [u, hper], v⟩)))
    generalize hW : World.drewN _ _ = w0
    have hB0 : Below w.heap.size w w0 := by rw [← hW]; repeat (first | exact Below.refl _ _ | refine Below.alloc ?_ (by simp <;> omega) _ | refine below_grow_of ?_ (by simp <;> omega) _ _ | refine Below.drew ?_ | refine below_drewN ?_ _)
    have q0 : w0.cell? ⟨w.heap.size, 0, none⟩ = some (.slice (some ⟨g1, off1, none⟩) bs.length c1) := by rw [← hW]; simp [go_sem]
    have q1 : w0.cell? ⟨w.heap.size, 1, none⟩ = some (.slice (some ⟨g2, off2, none⟩) cs.length c2) := by rw [← hW]; simp [go_sem]
    clear hW
    clear x0 x1 x2 x1' x2' p0
    go_wp2
    go_loop [8] (fun i => ∃ m : Nat, a + 3 ≤ m ∧ m ≤ a + 3 + 5 ∧ i = .int .i64 m ∧ Hid (zerosB ((bs.drop (a + 3)).take (m - (a + 3))) = true)) (fun i => a + 3 + 5 - (intOf i).toNat)
    case atStart => exact ⟨a + 3, Nat.le_refl _, by omega, by go_num, Hid.mk_ (by rw [Nat.sub_self]; rfl)⟩
    case round =>
      obtain ⟨m, hm1, hm2, rfl, HT⟩ := hrel
      by_cases hlt : m < a + 3 + 5
      · have ht : decide ((m : Int) < (a : Int) + 8) = true := decide_eq_true (by omega)
        have ht' : (m : Int) < (a : Int) + 8 := by omega
        have hmb : m < bs.length := by omega
        obtain ⟨g1', off1', cap1', he, _, _, _, hc1⟩ := (hr1.below hB0).at_ (show bs[m]? = some (bs.getD m 0) by rw [getD_at hmb]; exact List.getElem?_eq_getElem hmb)
        injection he with he1 he2 he3
        injection he1 with he1
        injection he1 with he1 he4
        subst he1 he3 he4
        have x0 : w0.cell? ⟨g1, off1 + m, none⟩ = some (.int .i64 (bs.getD m 0)) := by simpa [FI] using hc1 0 _ rfl
        clear hc1 he2
        have HS := Hid.mk_ (fun h0 => zeros_step (b := bs) hm1 hmb HT.out h0)
        have HNo := Hid.mk_ (fun h0 => zeros_no (b := bs) (n := 5) hm1 hmb hlt h0)
        generalize bs.getD m 0 = y at x0 HS HNo
        by_cases hy : y = 0
        · have HN := Hid.mk_ (HS.out hy)
          have hy' : (y != 0) = false := by simpa using hy
          clear hy
          go_wp2
          go_round
          case rel => exact ⟨m + 1, by omega, by omega, by go_num, HN⟩
          case measure => simp [intOf]; omega
        · have HN := Hid.mk_ (HNo.out hy)
          have hy' : (y != 0) = true := by simpa using hy
          clear hy
          go_wp2
          go_ret
          exact ⟨ret_bool (by rw [HF'.out, HN.out]; rfl), (by first | exact hB0 | exact hB0.drew | exact below_drewN hB0 _)⟩
      · obtain rfl : m = a + 3 + 5 := by omega
        have HN := Hid.mk_ (show zerosB ((bs.drop (a + 3)).take 5) = true by have u := HT.out; rwa [show a + 3 + 5 - (a + 3) = 5 by omega] at u)
        have ht : decide (((a + 3 + 5 : Nat) : Int) < (a : Int) + 8) = false := decide_eq_false (by omega)
        clear HT
        go_wp2_with (go_at_call 184; refine (PerPage_spec _ _).mono ?_; rw [hper]; rintro e w2 ⟨rfl, rfl⟩)
        go_loopw [9] (fun i wr => ∃ k : Nat, k ≤ 1 ∧ i = .int .i64 k ∧ Hid (gensB ⟨bs, cs⟩ p 2 k = true) ∧ Below w.heap.size w wr ∧ wr.cell? ⟨w.heap.size, 0, none⟩ = some (.slice (some ⟨g1, off1, none⟩) bs.length c1)) (fun i _ => 1 - (intOf i).toNat)
        case atStart => exact ⟨0, Nat.zero_le _, rfl, rfl, hB0, q0⟩
        case round =>
          obtain ⟨i, hi, rfl, HT, hB1, r0⟩ := hrel
          clear hB0 q0 q1 hr2
          by_cases hlt : i < 1
          · have HGi := Hid.mk_ (HGP.out 2 hc i hlt)
            have hroom := HR.out 2 hc i hlt
            rw [hst2] at HGi hroom
            have HS := Hid.mk_ (show gensB ⟨bs, cs⟩ p 2 (i + 1) = (gensB ⟨bs, cs⟩ p 2 i && inB 1 7 (loadN bs ((a + 8 + i * 44 : Nat) : Int) 4)) from HG.out 2 i)
            have HNo := Hid.mk_ (show inB 1 7 (loadN bs ((a + 8 + i * 44 : Nat) : Int) 4) = false → gensB ⟨bs, cs⟩ p 2 1 = false from HG2.out 2 i 1 hlt)
            have hcq1 : ∀ W : World, Calls Tryz.prog 269 #[.int .i64 p, .int .i64 i] W fun e w' => e = .returned (.int .i64 (slotAtP p i)) ∧ W = w' := fun W => SlotAt_spec p i W
            have hcq2 : ∀ W : World, Calls Tryz.prog 216 #[.int .i64 (slotAtP p i), .int .i64 2] W fun e w' => e = .returned (.int .i64 ((a + 8 + i * 44 : Nat) : Int)) ∧ W = w' := fun W => (GenAt_spec _ 2 W).mono fun e w' ⟨u, v⟩ => ⟨by rw [u, HGi.out], v⟩
            have hge : a + 8 + i * 44 + 4 ≤ bs.length := by omega
            have hcq3 : ∀ W : World, Below w.heap.size w W → Calls Tryz.prog 215 #[.slice (some ⟨g1, off1, none⟩) bs.length c1, .int .i64 ((a + 8 + i * 44 : Nat) : Int), .int .i64 4] W fun e w' => e = .returned (.int .i64 (loadN bs ((a + 8 + i * 44 : Nat) : Int) 4)) ∧ W = w' := fun W hW => l3Load_spec W _ bs _ 4 (rd_up hr1 hW) (by omega) (by decide) (by decide) (by omega) hby
            generalize loadN bs ((a + 8 + i * 44 : Nat) : Int) 4 = z at hcq3 HS HNo
            generalize a + 8 + i * 44 = ga at hcq2 hcq3 hge
            generalize slotAtP p i = sl at hcq1 hcq2
            by_cases k5 : inB 1 7 z = true
            · have HN := Hid.mk_ (show gensB ⟨bs, cs⟩ p 2 (i + 1) = true by rw [HS.out, HT.out, k5]; rfl)
              clear HS HNo HGi hroom
              go_wp2_with (go_at_call 184; refine (PerPage_spec _ _).mono ?_; rw [hper]; rintro e w2 ⟨rfl, rfl⟩)
              go_quiet ((first | (go_at_call 269; exact quiet_left (hcq1 _)) | (go_at_call 216; exact quiet_left (hcq2 _)) | (go_at_call 215; exact quiet_left (hcq3 _ (by first | exact hB1 | exact hB1.drew | exact below_drewN hB1 _))) | (go_at_call 107; exact quiet_left (l1In_ct _ _ _ _))))
              go_wp2
              go_roundw
              case rel => exact ⟨i + 1, by omega, by go_num, HN, by first | exact hB1 | exact hB1.drew | exact below_drewN hB1 _, by first | exact r0 | simpa [go_sem] using r0⟩
              case measure => simp [intOf]; omega
            · have k5' : inB 1 7 z = false := (Bool.not_eq_true _).mp k5
              have HN' := Hid.mk_ (HNo.out k5')
              clear k5 HS HNo HGi hroom
              go_wp2_with (go_at_call 184; refine (PerPage_spec _ _).mono ?_; rw [hper]; rintro e w2 ⟨rfl, rfl⟩)
              go_quiet ((first | (go_at_call 269; exact quiet_left (hcq1 _)) | (go_at_call 216; exact quiet_left (hcq2 _)) | (go_at_call 215; exact quiet_left (hcq3 _ (by first | exact hB1 | exact hB1.drew | exact below_drewN hB1 _))) | (go_at_call 107; exact quiet_left (l1In_ct _ _ _ _))))
              go_wp2
              go_ret
              exact ⟨ret_bool (by rw [HF'.out, HN'.out]; simp), by first | exact hB1 | exact hB1.drew | exact below_drewN hB1 _⟩
          · obtain rfl : i = 1 := by omega
            go_wp2_with (go_at_call 184; refine (PerPage_spec _ _).mono ?_; rw [hper]; rintro e w2 ⟨rfl, rfl⟩)
            go_ret
            exact ⟨ret_bool (by rw [HF'.out, HN.out, HT.out]; rfl), by first | exact hB1 | exact hB1.drew | exact below_drewN hB1 _⟩
end Go.Proofs.YtkldapdpaldbgaaGreat
