/-
  Several texts in one: lemmas and contracts that the claim rests on.
-/
import Derived.Test.YtpjijbonpjoamaaGreatUHAllocNow1
import Derived.Deep.QuietTactic
import Derived.BigQuiet
import Derived.Deep.LoopGhost
import Derived.Deep.RegionHeld3
import Derived.WalkSpells
import Derived.Laws.Cover3
import Derived.Test.YtpjijbonpjoamaaGreatUHAllocNow3
/-
  Heaps: pages.
-/
namespace Go.Proofs.YtpjijbonpjoamaaGreat
open Go.RowKit

theorem quiet_add_left {P : Program} {f : FuncId} {args : Array Value} {w : World} {a n : Nat} {v : Value}
    (h : Calls P f args (w.drewN (a + n)) fun e w' => e = .returned v ∧ w.drewN (a + n) = w') :
    Calls P f args (w.drewN (a + n)) fun e w'' => e = .returned v ∧ ∃ m, w'' = w.drewN (a + m) :=
  h.mono fun _ _ ⟨he, hm⟩ => ⟨he, n, hm.symm⟩

theorem RdL.subI {g off n c B : Nat} {w : World} {l : List Int} (h : RdL FI w B (.slice (some ⟨g, off, none⟩) n c) l) (lo m : Nat) (h1 : lo + m ≤ l.length) : RdL FI w B (.slice (some ⟨g, off + lo, none⟩) m (c - lo)) ((l.drop lo).take m) := by
  obtain ⟨A, cap, hv, a1, a2, a3⟩ := h
  simp only [Value.slice.injEq] at hv
  obtain ⟨rfl, rfl, rfl⟩ := hv
  have hlen : ((l.drop lo).take m).length = m := by rw [List.length_take, List.length_drop]; omega
  refine ⟨_, c - lo, by rw [hlen], by rw [hlen]; omega, by omega, fun hne => ?_⟩
  have hl : l ≠ [] := by
    rintro rfl
    simp at hne
  obtain ⟨g', off', hA, hg, hc⟩ := a3 hl
  injection hA with hA
  injection hA with hA1 hA2
  subst hA1 hA2
  refine ⟨_, _, rfl, hg, fun j u hu => ?_⟩
  have hu' : (flat FI l)[lo + j]? = some u := by
    have e : ∀ q : List Int, flat FI q = q.map fun x => Value.int .i64 x := fun q => by
      induction q with
      | nil => rfl
      | cons z q ih => show FI.enc z ++ flat FI q = _; rw [ih]; rfl
    rw [e] at hu ⊢
    rw [List.getElem?_map, List.getElem?_take] at hu
    split at hu
    · rw [List.getElem?_drop] at hu
      rw [List.getElem?_map]
      exact hu
    · simp at hu
  have := hc _ u hu'
  rwa [← Nat.add_assoc] at this
def gensB (h : Heap) (p : Nat) (c : Int) (k : Nat) : Bool := (List.range k).all fun i => inB 1 7 (loadN h.Bytes ((p * 64 + 8 + i * (strideOf c).toNat : Nat) : Int) 4)
def pageOkB (h : Heap) (p : Nat) : Bool :=
  if h.Class.getD p (-1) < 0 then zerosB ((h.Bytes.drop (p * 64)).take 64)
  else (h.Bytes.getD (p * 64) 0 == 171) && (h.Bytes.getD (p * 64 + 1) 0 == h.Class.getD p (-1)) && (h.Bytes.getD (p * 64 + 2) 0 == perPage (h.Class.getD p (-1))) && zerosB ((h.Bytes.drop (p * 64 + 3)).take 5) && gensB h p (h.Class.getD p (-1)) (perPage (h.Class.getD p (-1))).toNat
def heapOkB (h : Heap) : Bool := shapeB h && (List.range 6).all (pageOkB h)
theorem loadTo_sub (b : List Int) (lo m a k : Nat) (h : a + k ≤ m) (_ : lo + m ≤ b.length) : loadTo ((b.drop lo).take m) a k = loadTo b (lo + a) k := by
  induction k with
  | zero => rfl
  | succ k ih =>
    show loadTo _ a k * 256 + _ = loadTo _ (lo + a) k * 256 + _
    rw [ih (by omega)]
    congr 1
    simp only [List.getD, List.getElem?_take, List.getElem?_drop]
    rw [if_pos (by omega), Nat.add_assoc]
theorem gens_room {c : Int} (hc : inB 0 2 c = true) {i : Nat} (hi : i < (perPage c).toNat) : 8 + i * (strideOf c).toNat + 4 ≤ 64 := by
  rcases cls hc with rfl | rfl | rfl <;> simp [perPage, strideOf] at * <;> omega
theorem gensB_succ (h : Heap) (p : Nat) (c : Int) (k : Nat) : gensB h p c (k + 1) = (gensB h p c k && inB 1 7 (loadN h.Bytes ((p * 64 + 8 + k * (strideOf c).toNat : Nat) : Int) 4)) := by
  unfold gensB
  rw [List.range_succ, List.all_append]
  simp
theorem gensB_no {h : Heap} {p : Nat} {c : Int} {k n : Nat} (hk : k < n) (hn : inB 1 7 (loadN h.Bytes ((p * 64 + 8 + k * (strideOf c).toNat : Nat) : Int) 4) = false) : gensB h p c n = false := by
  unfold gensB
  rw [List.all_eq_false]
  exact ⟨k, List.mem_range.2 hk, by rw [hn]; decide⟩
theorem sub_bytes {b : List Int} (hb : b.all (inB 0 255) = true) (lo m : Nat) : ((b.drop lo).take m).all (inB 0 255) = true := by
  rw [List.all_eq_true] at hb ⊢
  exact fun x hx => hb x (List.mem_of_mem_drop (List.mem_of_mem_take hx))

set_option maxRecDepth 100000 in
set_option maxHeartbeats 4000000 in
theorem pageOk_impl (w : World) (H : HHeap) (x : Heap) (p : Nat) (hp : p < 6) (h : RdHeap w w.heap.size H x) (hs : shapeB x = true) :
    Calls Tryz.prog 119 #[.agg #[.slice H.Bytes.a H.Bytes.len H.Bytes.cap, .slice H.Class.a H.Class.len H.Class.cap], .int .i64 p] w fun e w' => e = .returned (.bool (pageOkB x p)) ∧ Below w.heap.size w w' := by
  obtain ⟨⟨A1, n1, c1⟩, ⟨A2, n2, c2⟩⟩ := H
  obtain ⟨bs, cs⟩ := x
  have hr1 : RdL FI w w.heap.size (.slice A1 n1 c1) bs := h.Bytes
  have hr2 : RdL FI w w.heap.size (.slice A2 n2 c2) cs := h.Class
  obtain ⟨_, _, hv, q1, q2, qx⟩ := id hr1
  simp only [Value.slice.injEq] at hv
  obtain ⟨rfl, rfl, rfl⟩ := hv
  have hlt1 : bs.length ≤ 9223372036854775807 := by unfold maxLen at q2; omega
  clear q1 q2 qx
  obtain ⟨_, _, hv, q1, q2, qx⟩ := id hr2
  simp only [Value.slice.injEq] at hv
  obtain ⟨rfl, rfl, rfl⟩ := hv
  have hlt2 : cs.length ≤ 9223372036854775807 := by unfold maxLen at q2; omega
  clear q1 q2 qx h
  have sh := shape_of hs
  have hl6 := sh.cl
  have hl384 := sh.bl
  have hby := sh.by_
  have hcb := sh.cs p
  simp only at hl6 hl384 hby hcb
  have hpl : p < cs.length := by omega
  have HE := Hid.mk_ (show pageOkB ⟨bs, cs⟩ p = (if cs.getD p (-1) < 0 then zerosB ((bs.drop (p * 64)).take 64) else (bs.getD (p * 64) 0 == 171) && (bs.getD (p * 64 + 1) 0 == cs.getD p (-1)) && (bs.getD (p * 64 + 2) 0 == perPage (cs.getD p (-1))) && zerosB ((bs.drop (p * 64 + 3)).take 5) && gensB ⟨bs, cs⟩ p (cs.getD p (-1)) (perPage (cs.getD p (-1))).toNat) from rfl)
  show Calls Tryz.prog 119 #[.agg #[.slice A1 bs.length c1, .slice A2 cs.length c2], .int .i64 p] _ _
  obtain ⟨g2, off2, cap2, he, hg2, _, _, hc2⟩ := hr2.at_ (show cs[p]? = some (cs.getD p (-1)) by rw [getD_at hpl]; exact List.getElem?_eq_getElem hpl)
  injection he with he1 he2 he3
  clear he2
  subst he1 he3
  have p0 : w.cell? ⟨g2, off2 + p, none⟩ = some (.int .i64 (cs.getD p (-1))) := by simpa [FI] using hc2 0 _ rfl
  clear hc2
  have HG := Hid.mk_ (fun c k => gensB_succ ⟨bs, cs⟩ p c k)
  have HG2 := Hid.mk_ (fun c k n => gensB_no (h := ⟨bs, cs⟩) (p := p) (c := c) (k := k) (n := n))
  have HR := Hid.mk_ (fun c hc i => gens_room (c := c) hc (i := i))
  generalize cs.getD p (-1) = c at p0 hcb HE
  obtain ⟨g1, off1, cap1, he, hg1, hcc1, hcc2, hc1⟩ := hr1.at_ (show bs[p * 64]? = some (bs.getD (p * 64) 0) by rw [getD_at (by omega)]; exact List.getElem?_eq_getElem (by omega))
  injection he with he1 he2 he3
  clear he2
  subst he1 he3
  have x0 : w.cell? ⟨g1, off1 + p * 64, none⟩ = some (.int .i64 (bs.getD (p * 64) 0)) := by simpa [FI] using hc1 0 _ rfl
  obtain ⟨g1', off1', cap1', he, _, _, _, hc1⟩ := hr1.at_ (show bs[p * 64 + 1]? = some (bs.getD (p * 64 + 1) 0) by rw [getD_at (by omega)]; exact List.getElem?_eq_getElem (by omega))
  injection he with he1 he2 he3
  injection he1 with he1
  injection he1 with he1 he4
  subst he1 he3 he4
  have x1 : w.cell? ⟨g1, off1 + (p * 64 + 1), none⟩ = some (.int .i64 (bs.getD (p * 64 + 1) 0)) := by simpa [FI] using hc1 0 _ rfl
  obtain ⟨g1', off1', cap1', he, _, _, _, hc1⟩ := hr1.at_ (show bs[p * 64 + 2]? = some (bs.getD (p * 64 + 2) 0) by rw [getD_at (by omega)]; exact List.getElem?_eq_getElem (by omega))
  injection he with he1 he2 he3
  injection he1 with he1
  injection he1 with he1 he4
  subst he1 he3 he4
  have x2 : w.cell? ⟨g1, off1 + (p * 64 + 2), none⟩ = some (.int .i64 (bs.getD (p * 64 + 2) 0)) := by simpa [FI] using hc1 0 _ rfl
  clear hc1 he2 sh hs
  have hrz := hr1.subI (p * 64) 64 (by omega)
  have hrf := hr1.subI (p * 64 + 3) 5 (by omega)
  rw [← Nat.add_assoc, Nat.sub_add_eq] at hrf
  have hb384 : 384 ≤ bs.length := by omega
  have hb6 : 6 ≤ cs.length := by omega
  clear hl384 hl6
  have x1' : w.cell? ⟨g1, off1 + p * 64 + 1, none⟩ = some (.int .i64 (bs.getD (p * 64 + 1) 0)) := by rw [Nat.add_assoc]; exact x1
  have x2' : w.cell? ⟨g1, off1 + p * 64 + 2, none⟩ = some (.int .i64 (bs.getD (p * 64 + 2) 0)) := by rw [Nat.add_assoc]; exact x2
  generalize bs.getD (p * 64) 0 = y0 at x0 HE
  generalize bs.getD (p * 64 + 1) 0 = y1 at x1 x1' HE
  generalize bs.getD (p * 64 + 2) 0 = y2 at x2 x2' HE

  have HLS := Hid.mk_ (fun q (hq : q + 4 ≤ 64) => loadTo_sub bs (p * 64) 64 q 4 hq (by omega))
  have hby2 := sub_bytes hby (p * 64) 64
  have e1 : (p : Int) * 64 = ((p * 64 : Nat) : Int) := by omega
  have e2 : ((p : Int) + 1) * 64 = ((p * 64 + 64 : Nat) : Int) := by omega
  have ha : p * 64 + 64 ≤ bs.length := by omega
  have hl64 : ((bs.drop (p * 64)).take 64).length = 64 := by rw [List.length_take, List.length_drop]; omega
  have HL64 := Hid.mk_ hl64
  clear hl64
  generalize p * 64 = a at *
  by_cases k0 : c < 0
  · have hd0 : decide (c < 0) = true := by simpa using k0
    rw [if_pos k0] at HE
    clear HG HG2 HR HLS
    go_enter Tryz.func119, Tryz.ntmps119
    go_wp2
    go_quiet (fail)
    go_wp2_with fail
    refine (isZero_impl _ _ _ (rd_up hrz (by repeat (first | exact Below.refl _ _ | refine Below.alloc ?_ (by simp <;> omega) _ | refine below_grow_of ?_ (by simp <;> omega) _ _ | refine Below.drew ?_ | refine below_drewN ?_ _)))).mono ?_
    rintro e w1 ⟨rfl, rfl⟩
    go_wp2
    go_ret
    exact ⟨ret_bool HE.out.symm, by repeat (first | exact Below.refl _ _ | refine Below.alloc ?_ (by simp <;> omega) _ | refine below_grow_of ?_ (by simp <;> omega) _ _ | refine Below.drew ?_ | refine below_drewN ?_ _)⟩
  rw [if_neg k0] at HE
  have hd0 : decide (c < 0) = false := by simpa using k0
  have hc : inB 0 2 c = true := inB_iff.2 ⟨by omega, hcb.2⟩
  by_cases k1 : y0 = 171
  case neg =>
    have k1' : (y0 != 171) = true := by simpa using k1
    have K1 := Hid.mk_ (show (y0 == 171) = false by simpa using k1)
    clear k1 HG HG2 HR HLS
    have h64 : a + 64 - a = 64 := by omega
    go_enter Tryz.func119, Tryz.ntmps119
    go_wp2
    go_quiet (fail)
    go_wp2
    go_quiet ((first | (go_at_call 130; exact quiet_add_left (PerPage_impl _ _)) | (go_at_call 136; exact quiet_add_left (isZero_impl _ _ _ (rd_up hrf (by repeat (first | exact Below.refl _ _ | refine Below.alloc ?_ (by simp <;> omega) _ | refine below_grow_of ?_ (by simp <;> omega) _ _ | refine Below.drew ?_ | refine below_drewN ?_ _)))))))
    go_wp2
    go_ret
    exact ⟨ret_bool (by rw [HE.out]; rw [K1.out]; simp), by repeat (first | exact Below.refl _ _ | refine Below.alloc ?_ (by simp <;> omega) _ | refine below_grow_of ?_ (by simp <;> omega) _ _ | refine Below.drew ?_ | refine below_drewN ?_ _)⟩
  subst k1
  by_cases k2 : y1 = c
  case neg =>
    have k2' : (y1 != c) = true := by simpa using k2
    have K2 := Hid.mk_ (show (y1 == c) = false by simpa using k2)
    clear k2 HG HG2 HR HLS
    have h64 : a + 64 - a = 64 := by omega
    go_enter Tryz.func119, Tryz.ntmps119
    go_wp2
    go_quiet (fail)
    go_wp2
    go_quiet ((first | (go_at_call 130; exact quiet_add_left (PerPage_impl _ _)) | (go_at_call 136; exact quiet_add_left (isZero_impl _ _ _ (rd_up hrf (by repeat (first | exact Below.refl _ _ | refine Below.alloc ?_ (by simp <;> omega) _ | refine below_grow_of ?_ (by simp <;> omega) _ _ | refine Below.drew ?_ | refine below_drewN ?_ _)))))))
    go_wp2
    go_ret
    exact ⟨ret_bool (by rw [HE.out]; rw [K2.out]; simp), by repeat (first | exact Below.refl _ _ | refine Below.alloc ?_ (by simp <;> omega) _ | refine below_grow_of ?_ (by simp <;> omega) _ _ | refine Below.drew ?_ | refine below_drewN ?_ _)⟩
  subst k2
  by_cases k3 : y2 = perPage y1
  case neg =>
    have k3' : (y2 != perPage y1) = true := by simpa using k3
    have K3 := Hid.mk_ (show (y2 == perPage y1) = false by simpa using k3)
    clear k3 HG HG2 HR HLS
    have h64 : a + 64 - a = 64 := by omega
    go_enter Tryz.func119, Tryz.ntmps119
    go_wp2
    go_quiet (fail)
    go_wp2
    go_quiet ((first | (go_at_call 130; exact quiet_add_left (PerPage_impl _ _)) | (go_at_call 136; exact quiet_add_left (isZero_impl _ _ _ (rd_up hrf (by repeat (first | exact Below.refl _ _ | refine Below.alloc ?_ (by simp <;> omega) _ | refine below_grow_of ?_ (by simp <;> omega) _ _ | refine Below.drew ?_ | refine below_drewN ?_ _)))))))
    go_wp2
    go_ret
    exact ⟨ret_bool (by rw [HE.out]; rw [K3.out]; simp), by repeat (first | exact Below.refl _ _ | refine Below.alloc ?_ (by simp <;> omega) _ | refine below_grow_of ?_ (by simp <;> omega) _ _ | refine Below.drew ?_ | refine below_drewN ?_ _)⟩
  subst k3
  by_cases k4 : zerosB ((bs.drop (a + 3)).take 5) = true
  case neg =>
    have k4' : zerosB ((bs.drop (a + 3)).take 5) = false := (Bool.not_eq_true _).mp k4
    have K4 := Hid.mk_ k4'
    clear k4 HG HG2 HR HLS
    have h64 : a + 64 - a = 64 := by omega
    go_enter Tryz.func119, Tryz.ntmps119
    go_wp2
    go_quiet (fail)
    go_wp2
    go_quiet ((first | (go_at_call 130; exact quiet_add_left (PerPage_impl _ _)) | (go_at_call 136; exact quiet_add_left (isZero_impl _ _ _ (rd_up hrf (by repeat (first | exact Below.refl _ _ | refine Below.alloc ?_ (by simp <;> omega) _ | refine below_grow_of ?_ (by simp <;> omega) _ _ | refine Below.drew ?_ | refine below_drewN ?_ _)))))))
    go_wp2
    go_ret
    exact ⟨ret_bool (by rw [HE.out]; rw [K4.out]; simp), by repeat (first | exact Below.refl _ _ | refine Below.alloc ?_ (by simp <;> omega) _ | refine below_grow_of ?_ (by simp <;> omega) _ _ | refine Below.drew ?_ | refine below_drewN ?_ _)⟩
  have HF := Hid.mk_ (show pageOkB ⟨bs, cs⟩ p = gensB ⟨bs, cs⟩ p y1 (perPage y1).toNat by rw [HE.out, k4]; simp)
  clear HE
  rcases cls hc with rfl | rfl | rfl
  · have hper : perPage 0 = 4 := rfl
    have hst : strideOf 0 = 12 := rfl
    rw [hper] at x2 x2'
    have HF' := Hid.mk_ (show pageOkB ⟨bs, cs⟩ p = gensB ⟨bs, cs⟩ p 0 4 from HF.out)
    clear HF hc hcb k0
    have h64 : a + 64 - a = 64 := by omega
    go_enter Tryz.func119, Tryz.ntmps119
    go_wp2
    go_quiet (fail)
    go_wp2
    go_quiet ((first | (go_at_call 130; exact quiet_add_left ((PerPage_impl 0 _).mono fun e w' ⟨u, v⟩ => ⟨by rw [u, hper], v⟩)) | (go_at_call 136; exact quiet_add_left (isZero_impl _ _ _ (rd_up hrf (by repeat (first | exact Below.refl _ _ | refine Below.alloc ?_ (by simp <;> omega) _ | refine below_grow_of ?_ (by simp <;> omega) _ _ | refine Below.drew ?_ | refine below_drewN ?_ _)))))))
    go_wp2_with (go_at_call 130; refine (PerPage_impl _ _).mono ?_; rw [hper]; rintro e w2 ⟨rfl, rfl⟩)
    go_loop [7, 52] (fun _ i => ∃ k : Nat, k ≤ 4 ∧ i = .int .i64 k ∧ Hid (gensB ⟨bs, cs⟩ p 0 k = true)) (fun _ i => 4 - (intOf i).toNat)
    case atStart => exact ⟨0, Nat.zero_le _, rfl, rfl⟩
    case round =>
      obtain ⟨i, hi, rfl, HT⟩ := hrel
      by_cases hlt : i < 4
      · have HV := Hid.mk_ (show loadN ((bs.drop a).take 64) (8 + (i : Int) * 12) 4 = loadN bs ((a + 8 + i * 12 : Nat) : Int) 4 by
          have u := HLS.out (8 + i * 12) (by omega)
          unfold loadN
          rw [show (8 + (i : Int) * 12).toNat = 8 + i * 12 by omega, show (((a + 8 + i * 12 : Nat) : Int)).toNat = a + (8 + i * 12) by omega]
          exact u)
        have HS := Hid.mk_ (show gensB ⟨bs, cs⟩ p 0 (i + 1) = (gensB ⟨bs, cs⟩ p 0 i && inB 1 7 (loadN bs ((a + 8 + i * 12 : Nat) : Int) 4)) from HG.out 0 i)
        have HNo := Hid.mk_ (show inB 1 7 (loadN bs ((a + 8 + i * 12 : Nat) : Int) 4) = false → gensB ⟨bs, cs⟩ p 0 4 = false from HG2.out 0 i 4 hlt)
        generalize loadN bs ((a + 8 + i * 12 : Nat) : Int) 4 = z at HV HS HNo
        by_cases k5 : inB 1 7 z = true
        · have HN := Hid.mk_ (show gensB ⟨bs, cs⟩ p 0 (i + 1) = true by rw [HS.out, HT.out, k5]; rfl)
          go_wp2_with (first | (go_at_call 137; refine (StrideOf_impl _ _).mono ?_; rw [hst]; rintro e w2 ⟨rfl, rfl⟩) | (go_at_call 93; refine (loadNum_impl _ _ ((bs.drop a).take 64) (8 + (i : Int) * 12) 4 (rd_up hrz (by repeat (first | exact Below.refl _ _ | refine Below.alloc ?_ (by simp <;> omega) _ | refine below_grow_of ?_ (by simp <;> omega) _ _ | refine Below.drew ?_ | refine below_drewN ?_ _))) (by omega) (by decide) (by decide) (by rw [HL64.out]; omega) hby2).mono ?_; rw [HV.out]; rintro e w2 ⟨rfl, rfl⟩) | (go_at_call 75; refine (within_ct _ _ _ _).mono ?_; rintro e w1 ⟨rfl, rfl⟩))
          go_round
          case rel => exact ⟨i + 1, by omega, by go_num, HN⟩
          case measure => simp [intOf]; omega
        · have k5' : inB 1 7 z = false := (Bool.not_eq_true _).mp k5
          have HN := Hid.mk_ (HNo.out k5')
          clear k5
          go_wp2_with (first | (go_at_call 137; refine (StrideOf_impl _ _).mono ?_; rw [hst]; rintro e w2 ⟨rfl, rfl⟩) | (go_at_call 93; refine (loadNum_impl _ _ ((bs.drop a).take 64) (8 + (i : Int) * 12) 4 (rd_up hrz (by repeat (first | exact Below.refl _ _ | refine Below.alloc ?_ (by simp <;> omega) _ | refine below_grow_of ?_ (by simp <;> omega) _ _ | refine Below.drew ?_ | refine below_drewN ?_ _))) (by omega) (by decide) (by decide) (by rw [HL64.out]; omega) hby2).mono ?_; rw [HV.out]; rintro e w2 ⟨rfl, rfl⟩) | (go_at_call 75; refine (within_ct _ _ _ _).mono ?_; rintro e w1 ⟨rfl, rfl⟩))
          go_ret
          exact ⟨ret_bool (by rw [HF'.out, HN.out]), by repeat (first | exact Below.refl _ _ | refine Below.alloc ?_ (by simp <;> omega) _ | refine below_grow_of ?_ (by simp <;> omega) _ _ | refine Below.drew ?_ | refine below_drewN ?_ _)⟩
      · obtain rfl : i = 4 := by omega
        go_wp2
        go_ret
        exact ⟨ret_bool (by rw [HF'.out, HT.out]), by repeat (first | exact Below.refl _ _ | refine Below.alloc ?_ (by simp <;> omega) _ | refine below_grow_of ?_ (by simp <;> omega) _ _ | refine Below.drew ?_ | refine below_drewN ?_ _)⟩
  · have hper : perPage 1 = 2 := rfl
    have hst : strideOf 1 = 20 := rfl
    rw [hper] at x2 x2'
    have HF' := Hid.mk_ (show pageOkB ⟨bs, cs⟩ p = gensB ⟨bs, cs⟩ p 1 2 from HF.out)
    clear HF hc hcb k0
    have h64 : a + 64 - a = 64 := by omega
    go_enter Tryz.func119, Tryz.ntmps119
    go_wp2
    go_quiet (fail)
    go_wp2
    go_quiet ((first | (go_at_call 130; exact quiet_add_left ((PerPage_impl 1 _).mono fun e w' ⟨u, v⟩ => ⟨by rw [u, hper], v⟩)) | (go_at_call 136; exact quiet_add_left (isZero_impl _ _ _ (rd_up hrf (by repeat (first | exact Below.refl _ _ | refine Below.alloc ?_ (by simp <;> omega) _ | refine below_grow_of ?_ (by simp <;> omega) _ _ | refine Below.drew ?_ | refine below_drewN ?_ _)))))))
    go_wp2_with (go_at_call 130; refine (PerPage_impl _ _).mono ?_; rw [hper]; rintro e w2 ⟨rfl, rfl⟩)
    go_loop [7, 52] (fun _ i => ∃ k : Nat, k ≤ 2 ∧ i = .int .i64 k ∧ Hid (gensB ⟨bs, cs⟩ p 1 k = true)) (fun _ i => 2 - (intOf i).toNat)
    case atStart => exact ⟨0, Nat.zero_le _, rfl, rfl⟩
    case round =>
      obtain ⟨i, hi, rfl, HT⟩ := hrel
      by_cases hlt : i < 2
      · have HV := Hid.mk_ (show loadN ((bs.drop a).take 64) (8 + (i : Int) * 20) 4 = loadN bs ((a + 8 + i * 20 : Nat) : Int) 4 by
          have u := HLS.out (8 + i * 20) (by omega)
          unfold loadN
          rw [show (8 + (i : Int) * 20).toNat = 8 + i * 20 by omega, show (((a + 8 + i * 20 : Nat) : Int)).toNat = a + (8 + i * 20) by omega]
          exact u)
        have HS := Hid.mk_ (show gensB ⟨bs, cs⟩ p 1 (i + 1) = (gensB ⟨bs, cs⟩ p 1 i && inB 1 7 (loadN bs ((a + 8 + i * 20 : Nat) : Int) 4)) from HG.out 1 i)
        have HNo := Hid.mk_ (show inB 1 7 (loadN bs ((a + 8 + i * 20 : Nat) : Int) 4) = false → gensB ⟨bs, cs⟩ p 1 2 = false from HG2.out 1 i 2 hlt)
        generalize loadN bs ((a + 8 + i * 20 : Nat) : Int) 4 = z at HV HS HNo
        by_cases k5 : inB 1 7 z = true
        · have HN := Hid.mk_ (show gensB ⟨bs, cs⟩ p 1 (i + 1) = true by rw [HS.out, HT.out, k5]; rfl)
          go_wp2_with (first | (go_at_call 137; refine (StrideOf_impl _ _).mono ?_; rw [hst]; rintro e w2 ⟨rfl, rfl⟩) | (go_at_call 93; refine (loadNum_impl _ _ ((bs.drop a).take 64) (8 + (i : Int) * 20) 4 (rd_up hrz (by repeat (first | exact Below.refl _ _ | refine Below.alloc ?_ (by simp <;> omega) _ | refine below_grow_of ?_ (by simp <;> omega) _ _ | refine Below.drew ?_ | refine below_drewN ?_ _))) (by omega) (by decide) (by decide) (by rw [HL64.out]; omega) hby2).mono ?_; rw [HV.out]; rintro e w2 ⟨rfl, rfl⟩) | (go_at_call 75; refine (within_ct _ _ _ _).mono ?_; rintro e w1 ⟨rfl, rfl⟩))
          go_round
          case rel => exact ⟨i + 1, by omega, by go_num, HN⟩
          case measure => simp [intOf]; omega
        · have k5' : inB 1 7 z = false := (Bool.not_eq_true _).mp k5
          have HN := Hid.mk_ (HNo.out k5')
          clear k5
          go_wp2_with (first | (go_at_call 137; refine (StrideOf_impl _ _).mono ?_; rw [hst]; rintro e w2 ⟨rfl, rfl⟩) | (go_at_call 93; refine (loadNum_impl _ _ ((bs.drop a).take 64) (8 + (i : Int) * 20) 4 (rd_up hrz (by repeat (first | exact Below.refl _ _ | refine Below.alloc ?_ (by simp <;> omega) _ | refine below_grow_of ?_ (by simp <;> omega) _ _ | refine Below.drew ?_ | refine below_drewN ?_ _))) (by omega) (by decide) (by decide) (by rw [HL64.out]; omega) hby2).mono ?_; rw [HV.out]; rintro e w2 ⟨rfl, rfl⟩) | (go_at_call 75; refine (within_ct _ _ _ _).mono ?_; rintro e w1 ⟨rfl, rfl⟩))
          go_ret
          exact ⟨ret_bool (by rw [HF'.out, HN.out]), by repeat (first | exact Below.refl _ _ | refine Below.alloc ?_ (by simp <;> omega) _ | refine below_grow_of ?_ (by simp <;> omega) _ _ | refine Below.drew ?_ | refine below_drewN ?_ _)⟩
      · obtain rfl : i = 2 := by omega
        go_wp2
        go_ret
        exact ⟨ret_bool (by rw [HF'.out, HT.out]), by repeat (first | exact Below.refl _ _ | refine Below.alloc ?_ (by simp <;> omega) _ | refine below_grow_of ?_ (by simp <;> omega) _ _ | refine Below.drew ?_ | refine below_drewN ?_ _)⟩
  · have hper : perPage 2 = 1 := rfl
    have hst : strideOf 2 = 44 := rfl
    rw [hper] at x2 x2'
    have HF' := Hid.mk_ (show pageOkB ⟨bs, cs⟩ p = gensB ⟨bs, cs⟩ p 2 1 from HF.out)
    clear HF hc hcb k0
    have h64 : a + 64 - a = 64 := by omega
    go_enter Tryz.func119, Tryz.ntmps119
    go_wp2
    go_quiet (fail)
    go_wp2
    go_quiet ((first | (go_at_call 130; exact quiet_add_left ((PerPage_impl 2 _).mono fun e w' ⟨u, v⟩ => ⟨by rw [u, hper], v⟩)) | (go_at_call 136; exact quiet_add_left (isZero_impl _ _ _ (rd_up hrf (by repeat (first | exact Below.refl _ _ | refine Below.alloc ?_ (by simp <;> omega) _ | refine below_grow_of ?_ (by simp <;> omega) _ _ | refine Below.drew ?_ | refine below_drewN ?_ _)))))))
    go_wp2_with (go_at_call 130; refine (PerPage_impl _ _).mono ?_; rw [hper]; rintro e w2 ⟨rfl, rfl⟩)
    go_loop [7, 52] (fun _ i => ∃ k : Nat, k ≤ 1 ∧ i = .int .i64 k ∧ Hid (gensB ⟨bs, cs⟩ p 2 k = true)) (fun _ i => 1 - (intOf i).toNat)
    case atStart => exact ⟨0, Nat.zero_le _, rfl, rfl⟩
    case round =>
      obtain ⟨i, hi, rfl, HT⟩ := hrel
      by_cases hlt : i < 1
      · have HV := Hid.mk_ (show loadN ((bs.drop a).take 64) (8 + (i : Int) * 44) 4 = loadN bs ((a + 8 + i * 44 : Nat) : Int) 4 by
          have u := HLS.out (8 + i * 44) (by omega)
          unfold loadN
          rw [show (8 + (i : Int) * 44).toNat = 8 + i * 44 by omega, show (((a + 8 + i * 44 : Nat) : Int)).toNat = a + (8 + i * 44) by omega]
          exact u)
        have HS := Hid.mk_ (show gensB ⟨bs, cs⟩ p 2 (i + 1) = (gensB ⟨bs, cs⟩ p 2 i && inB 1 7 (loadN bs ((a + 8 + i * 44 : Nat) : Int) 4)) from HG.out 2 i)
        have HNo := Hid.mk_ (show inB 1 7 (loadN bs ((a + 8 + i * 44 : Nat) : Int) 4) = false → gensB ⟨bs, cs⟩ p 2 1 = false from HG2.out 2 i 1 hlt)
        generalize loadN bs ((a + 8 + i * 44 : Nat) : Int) 4 = z at HV HS HNo
        by_cases k5 : inB 1 7 z = true
        · have HN := Hid.mk_ (show gensB ⟨bs, cs⟩ p 2 (i + 1) = true by rw [HS.out, HT.out, k5]; rfl)
          go_wp2_with (first | (go_at_call 137; refine (StrideOf_impl _ _).mono ?_; rw [hst]; rintro e w2 ⟨rfl, rfl⟩) | (go_at_call 93; refine (loadNum_impl _ _ ((bs.drop a).take 64) (8 + (i : Int) * 44) 4 (rd_up hrz (by repeat (first | exact Below.refl _ _ | refine Below.alloc ?_ (by simp <;> omega) _ | refine below_grow_of ?_ (by simp <;> omega) _ _ | refine Below.drew ?_ | refine below_drewN ?_ _))) (by omega) (by decide) (by decide) (by rw [HL64.out]; omega) hby2).mono ?_; rw [HV.out]; rintro e w2 ⟨rfl, rfl⟩) | (go_at_call 75; refine (within_ct _ _ _ _).mono ?_; rintro e w1 ⟨rfl, rfl⟩))
          go_round
          case rel => exact ⟨i + 1, by omega, by go_num, HN⟩
          case measure => simp [intOf]; omega
        · have k5' : inB 1 7 z = false := (Bool.not_eq_true _).mp k5
          have HN := Hid.mk_ (HNo.out k5')
          clear k5
          go_wp2_with (first | (go_at_call 137; refine (StrideOf_impl _ _).mono ?_; rw [hst]; rintro e w2 ⟨rfl, rfl⟩) | (go_at_call 93; refine (loadNum_impl _ _ ((bs.drop a).take 64) (8 + (i : Int) * 44) 4 (rd_up hrz (by repeat (first | exact Below.refl _ _ | refine Below.alloc ?_ (by simp <;> omega) _ | refine below_grow_of ?_ (by simp <;> omega) _ _ | refine Below.drew ?_ | refine below_drewN ?_ _))) (by omega) (by decide) (by decide) (by rw [HL64.out]; omega) hby2).mono ?_; rw [HV.out]; rintro e w2 ⟨rfl, rfl⟩) | (go_at_call 75; refine (within_ct _ _ _ _).mono ?_; rintro e w1 ⟨rfl, rfl⟩))
          go_ret
          exact ⟨ret_bool (by rw [HF'.out, HN.out]), by repeat (first | exact Below.refl _ _ | refine Below.alloc ?_ (by simp <;> omega) _ | refine below_grow_of ?_ (by simp <;> omega) _ _ | refine Below.drew ?_ | refine below_drewN ?_ _)⟩
      · obtain rfl : i = 1 := by omega
        go_wp2
        go_ret
        exact ⟨ret_bool (by rw [HF'.out, HT.out]), by repeat (first | exact Below.refl _ _ | refine Below.alloc ?_ (by simp <;> omega) _ | refine below_grow_of ?_ (by simp <;> omega) _ _ | refine Below.drew ?_ | refine below_drewN ?_ _)⟩
end Go.Proofs.YtpjijbonpjoamaaGreat

/-
  Heaps: pages, the reference.
-/
namespace Go.Proofs.YtpjijbonpjoamaaGreat
open Go.RowKit

set_option maxHeartbeats 1000000 in
theorem SlotAt_spec (p i : Int) (w : World) : Calls Tryz.prog 128 #[.int .i64 p, .int .i64 i] w fun e w' => e = .returned (.int .i64 (slotAtP p i)) ∧ w = w' := by
  by_cases h1 : inB 0 5 p = true
  case neg =>
    have h1' : inB 0 5 p = false := (Bool.not_eq_true _).mp h1
    have HS := Hid.mk_ (show slotAtP p i = -1 from if_neg (fun hh => h1 hh.1))
    clear h1
    go_enter Tryz.func128, Tryz.ntmps128
    go_wp2_with (go_at_call 21; refine (l1In_ct _ _ _ _).mono ?_; rintro e w1 ⟨rfl, rfl⟩)
    go_ret
    exact ⟨ret_i64 HS.out.symm, rfl⟩
  by_cases h2 : inB 0 3 i = true
  case neg =>
    have h2' : inB 0 3 i = false := (Bool.not_eq_true _).mp h2
    have HS := Hid.mk_ (show slotAtP p i = -1 from if_neg (fun hh => h2 hh.2))
    clear h2
    go_enter Tryz.func128, Tryz.ntmps128
    go_wp2_with (go_at_call 21; refine (l1In_ct _ _ _ _).mono ?_; rintro e w1 ⟨rfl, rfl⟩)
    go_ret
    exact ⟨ret_i64 HS.out.symm, rfl⟩
  have HS := Hid.mk_ (show slotAtP p i = p * 4 + i from if_pos ⟨h1, h2⟩)
  obtain ⟨a1, a2⟩ := inB_iff.1 h1
  obtain ⟨b1, b2⟩ := inB_iff.1 h2
  go_enter Tryz.func128, Tryz.ntmps128
  go_wp2_with (go_at_call 21; refine (l1In_ct _ _ _ _).mono ?_; rintro e w1 ⟨rfl, rfl⟩)
  go_ret
  exact ⟨ret_i64 HS.out.symm, rfl⟩
theorem zeros_step {b : List Int} {lo m : Nat} (h1 : lo ≤ m) (h2 : m < b.length) (hz : zerosB ((b.drop lo).take (m - lo)) = true) (h0 : b.getD m 0 = 0) : zerosB ((b.drop lo).take (m + 1 - lo)) = true := by
  unfold zerosB at *
  rw [show m + 1 - lo = (m - lo) + 1 by omega, List.take_succ_eq_append_getElem (by rw [List.length_drop]; omega), List.all_append, hz]
  rw [getD_at h2] at h0
  simp only [List.getElem_drop, List.all_cons, List.all_nil, Bool.and_true, Bool.true_and]
  rw [show b[lo + (m - lo)] = b[m] by congr 1; omega, h0]
  rfl
theorem zeros_no {b : List Int} {lo n m : Nat} (h1 : lo ≤ m) (h2 : m < b.length) (h3 : m < lo + n) (h0 : b.getD m 0 ≠ 0) : zerosB ((b.drop lo).take n) = false := by
  unfold zerosB
  rw [List.all_eq_false]
  refine ⟨b[m], ?_, ?_⟩
  · rw [List.mem_take_iff_getElem]
    refine ⟨m - lo, by rw [List.length_drop]; omega, ?_⟩
    rw [List.getElem_drop]
    congr 1
    omega
  · rw [getD_at h2] at h0
    simpa using h0
theorem genAt_page {p i : Nat} {c : Int} (hp : p < 6) (hc : inB 0 2 c = true) (hi : i < (perPage c).toNat) : genAt (slotAtP p i) c = ((p * 64 + 8 + i * (strideOf c).toNat : Nat) : Int) := by
  have a := perPage_bd c
  have e : slotAtP p i = (p : Int) * 4 + i := if_pos ⟨inB_iff.2 ⟨by omega, by omega⟩, inB_iff.2 ⟨by omega, by omega⟩⟩
  have e1 : ((p : Int) * 4 + i) / 4 = p := by omega
  have e2 : ((p : Int) * 4 + i) % 4 = i := by omega
  rw [e, genAt_yes (inB_iff.2 ⟨by omega, by omega⟩) hc (by rw [e2]; omega), e1, e2]
  rcases cls hc with rfl | rfl | rfl
  · show (p : Int) * 64 + 8 + i * 12 = ((p * 64 + 8 + i * 12 : Nat) : Int)
    omega
  · show (p : Int) * 64 + 8 + i * 20 = ((p * 64 + 8 + i * 20 : Nat) : Int)
    omega
  · show (p : Int) * 64 + 8 + i * 44 = ((p * 64 + 8 + i * 44 : Nat) : Int)
    omega

theorem quiet_left {P : Program} {f : FuncId} {args : Array Value} {w : World} {n : Nat} {v : Value}
    (h : Calls P f args (w.drewN n) fun e w' => e = .returned v ∧ w.drewN n = w') : Calls P f args (w.drewN n) fun e w'' => e = .returned v ∧ ∃ m, w'' = w.drewN m :=
  h.mono fun _ _ ⟨he, hm⟩ => ⟨he, n, hm.symm⟩
set_option maxRecDepth 100000 in
set_option maxHeartbeats 4000000 in
theorem l7Page_spec (w : World) (H : HHeap) (x : Heap) (p : Nat) (hp : p < 6) (h : RdHeap w w.heap.size H x) (hs : shapeB x = true) :
    Calls Tryz.prog 108 #[.agg #[.slice H.Bytes.a H.Bytes.len H.Bytes.cap, .slice H.Class.a H.Class.len H.Class.cap], .int .i64 p] w fun e w' => e = .returned (.bool (pageOkB x p)) ∧ Below w.heap.size w w' := by
  obtain ⟨⟨A1, n1, c1⟩, ⟨A2, n2, c2⟩⟩ := H
  obtain ⟨bs, cs⟩ := x
  have hr1 : RdL FI w w.heap.size (.slice A1 n1 c1) bs := h.Bytes
  have hr2 : RdL FI w w.heap.size (.slice A2 n2 c2) cs := h.Class
  obtain ⟨_, _, hv, q1, q2, qx⟩ := id hr1
  simp only [Value.slice.injEq] at hv
  obtain ⟨rfl, rfl, rfl⟩ := hv
  have hlt1 : bs.length ≤ 9223372036854775807 := by unfold maxLen at q2; omega
  clear q1 q2 qx
  obtain ⟨_, _, hv, q1, q2, qx⟩ := id hr2
  simp only [Value.slice.injEq] at hv
  obtain ⟨rfl, rfl, rfl⟩ := hv
  have hlt2 : cs.length ≤ 9223372036854775807 := by unfold maxLen at q2; omega
  clear q1 q2 qx h
  have sh := shape_of hs
  have hl6 := sh.cl
  have hl384 := sh.bl
  have hby := sh.by_
  have hcb := sh.cs p
  simp only at hl6 hl384 hby hcb
  have hpl : p < cs.length := by omega
  have HE := Hid.mk_ (show pageOkB ⟨bs, cs⟩ p = (if cs.getD p (-1) < 0 then zerosB ((bs.drop (p * 64)).take 64) else (bs.getD (p * 64) 0 == 171) && (bs.getD (p * 64 + 1) 0 == cs.getD p (-1)) && (bs.getD (p * 64 + 2) 0 == perPage (cs.getD p (-1))) && zerosB ((bs.drop (p * 64 + 3)).take 5) && gensB ⟨bs, cs⟩ p (cs.getD p (-1)) (perPage (cs.getD p (-1))).toNat) from rfl)
  show Calls Tryz.prog 108 #[.agg #[.slice A1 bs.length c1, .slice A2 cs.length c2], .int .i64 p] _ _
  obtain ⟨g2, off2, cap2, he, hg2, _, _, hc2⟩ := hr2.at_ (show cs[p]? = some (cs.getD p (-1)) by rw [getD_at hpl]; exact List.getElem?_eq_getElem hpl)
  injection he with he1 he2 he3
  clear he2
  subst he1 he3
  have p0 : w.cell? ⟨g2, off2 + p, none⟩ = some (.int .i64 (cs.getD p (-1))) := by simpa [FI] using hc2 0 _ rfl
  clear hc2
  have HG := Hid.mk_ (fun c k => gensB_succ ⟨bs, cs⟩ p c k)
  have HG2 := Hid.mk_ (fun c k n => gensB_no (h := ⟨bs, cs⟩) (p := p) (c := c) (k := k) (n := n))
  have HR := Hid.mk_ (fun c hc i => gens_room (c := c) hc (i := i))
  generalize cs.getD p (-1) = c at p0 hcb HE
  obtain ⟨g1, off1, cap1, he, hg1, hcc1, hcc2, hc1⟩ := hr1.at_ (show bs[p * 64]? = some (bs.getD (p * 64) 0) by rw [getD_at (by omega)]; exact List.getElem?_eq_getElem (by omega))
  injection he with he1 he2 he3
  clear he2
  subst he1 he3
  have x0 : w.cell? ⟨g1, off1 + p * 64, none⟩ = some (.int .i64 (bs.getD (p * 64) 0)) := by simpa [FI] using hc1 0 _ rfl
  obtain ⟨g1', off1', cap1', he, _, _, _, hc1⟩ := hr1.at_ (show bs[p * 64 + 1]? = some (bs.getD (p * 64 + 1) 0) by rw [getD_at (by omega)]; exact List.getElem?_eq_getElem (by omega))
  injection he with he1 he2 he3
  injection he1 with he1
  injection he1 with he1 he4
  subst he1 he3 he4
  have x1 : w.cell? ⟨g1, off1 + (p * 64 + 1), none⟩ = some (.int .i64 (bs.getD (p * 64 + 1) 0)) := by simpa [FI] using hc1 0 _ rfl
  obtain ⟨g1', off1', cap1', he, _, _, _, hc1⟩ := hr1.at_ (show bs[p * 64 + 2]? = some (bs.getD (p * 64 + 2) 0) by rw [getD_at (by omega)]; exact List.getElem?_eq_getElem (by omega))
  injection he with he1 he2 he3
  injection he1 with he1
  injection he1 with he1 he4
  subst he1 he3 he4
  have x2 : w.cell? ⟨g1, off1 + (p * 64 + 2), none⟩ = some (.int .i64 (bs.getD (p * 64 + 2) 0)) := by simpa [FI] using hc1 0 _ rfl
  clear hc1 he2 sh hs
  have hrz := hr1.subI (p * 64) 64 (by omega)
  have hrf := hr1.subI (p * 64 + 3) 5 (by omega)
  rw [← Nat.add_assoc, Nat.sub_add_eq] at hrf
  have hb384 : 384 ≤ bs.length := by omega
  have hb6 : 6 ≤ cs.length := by omega
  clear hl384 hl6
  have x1' : w.cell? ⟨g1, off1 + p * 64 + 1, none⟩ = some (.int .i64 (bs.getD (p * 64 + 1) 0)) := by rw [Nat.add_assoc]; exact x1
  have x2' : w.cell? ⟨g1, off1 + p * 64 + 2, none⟩ = some (.int .i64 (bs.getD (p * 64 + 2) 0)) := by rw [Nat.add_assoc]; exact x2
  generalize bs.getD (p * 64) 0 = y0 at x0 HE
  generalize bs.getD (p * 64 + 1) 0 = y1 at x1 x1' HE
  generalize bs.getD (p * 64 + 2) 0 = y2 at x2 x2' HE

  have HGP := Hid.mk_ (fun c hc i => genAt_page (p := p) (i := i) (c := c) hp hc)
  have e1 : (p : Int) * 64 = ((p * 64 : Nat) : Int) := by omega
  have ha : p * 64 + 64 ≤ bs.length := by omega
  generalize p * 64 = a at *
  by_cases k0 : c < 0
  · have hd0 : decide (c < 0) = true := by simpa using k0
    rw [if_pos k0] at HE
    clear HG HG2 HR HGP
    go_enter Tryz.func108, Tryz.ntmps108
    go_wp2
    generalize hW : (w.alloc (.cells #[.slice (some ⟨g1, off1, none⟩) bs.length c1, .slice (some ⟨g2, off2, none⟩) cs.length c2] 31)) = w0
    have hB0 : Below w.heap.size w w0 := by rw [← hW]; repeat (first | exact Below.refl _ _ | refine Below.alloc ?_ (by simp <;> omega) _ | refine below_grow_of ?_ (by simp <;> omega) _ _ | refine Below.drew ?_ | refine below_drewN ?_ _)
    have q0 : w0.cell? ⟨w.heap.size, 0, none⟩ = some (.slice (some ⟨g1, off1, none⟩) bs.length c1) := by rw [← hW]; simp [go_sem]
    clear hW
    go_loop [7] (fun i => ∃ m : Nat, a ≤ m ∧ m ≤ a + 64 ∧ i = .int .i64 m ∧ Hid (zerosB ((bs.drop (a)).take (m - (a))) = true)) (fun i => a + 64 - (intOf i).toNat)
    case atStart => exact ⟨a, Nat.le_refl _, by omega, by go_num, Hid.mk_ (by rw [Nat.sub_self]; rfl)⟩
    case round =>
      obtain ⟨m, hm1, hm2, rfl, HT⟩ := hrel
      by_cases hlt : m < a + 64
      · have ht : decide ((m : Int) < (a : Int) + 64) = true := decide_eq_true (by omega)
        have ht' : (m : Int) < (a : Int) + 64 := by omega
        have hmb : m < bs.length := by omega
        obtain ⟨g1', off1', cap1', he, _, _, _, hc1⟩ := (hr1.below hB0).at_ (show bs[m]? = some (bs.getD m 0) by rw [getD_at hmb]; exact List.getElem?_eq_getElem hmb)
        injection he with he1 he2 he3
        injection he1 with he1
        injection he1 with he1 he4
        subst he1 he3 he4
        have x0 : w0.cell? ⟨g1, off1 + m, none⟩ = some (.int .i64 (bs.getD m 0)) := by simpa [FI] using hc1 0 _ rfl
        clear hc1 he2
        have HS := Hid.mk_ (fun h0 => zeros_step (b := bs) hm1 hmb HT.out h0)
        have HNo := Hid.mk_ (fun h0 => zeros_no (b := bs) (n := 64) hm1 hmb hlt h0)
        generalize bs.getD m 0 = y at x0 HS HNo
        by_cases hy : y = 0
        · have HN := Hid.mk_ (HS.out hy)
          have hy' : (y != 0) = false := by simpa using hy
          clear hy
          go_wp2
          go_round
          case rel => exact ⟨m + 1, by omega, by omega, by go_num, HN⟩
          case measure => simp [intOf]; omega
        · have HN := Hid.mk_ (HNo.out hy)
          have hy' : (y != 0) = true := by simpa using hy
          clear hy
          go_wp2
          go_ret
          exact ⟨ret_bool (by rw [HE.out, HN.out]), (by first | exact hB0 | exact hB0.drew | exact below_drewN hB0 _)⟩
      · obtain rfl : m = a + 64 := by omega
        have HN := Hid.mk_ (show zerosB ((bs.drop (a)).take 64) = true by have u := HT.out; rwa [show a + 64 - (a) = 64 by omega] at u)
        have ht : decide (((a + 64 : Nat) : Int) < (a : Int) + 64) = false := decide_eq_false (by omega)
        clear HT
        go_wp2
        go_ret
        exact ⟨ret_bool (by rw [HE.out, HN.out]), (by first | exact hB0 | exact hB0.drew | exact below_drewN hB0 _)⟩
  rw [if_neg k0] at HE
  have hd0 : decide (c < 0) = false := by simpa using k0
  have hc : inB 0 2 c = true := inB_iff.2 ⟨by omega, hcb.2⟩
  by_cases k1 : y0 = 171
  case neg =>
    have k1' : (y0 != 171) = true := by simpa using k1
    have K1 := Hid.mk_ (show (y0 == 171) = false by simpa using k1)
    clear k1 HG HG2 HR HGP
    go_enter Tryz.func108, Tryz.ntmps108
    go_wp2
    go_quiet ((go_at_call 115; exact quiet_left (PerPage_spec _ _)))
    go_wp2
    go_ret
    exact ⟨ret_bool (by rw [HE.out]; rw [K1.out]; simp), by repeat (first | exact Below.refl _ _ | refine Below.alloc ?_ (by simp <;> omega) _ | refine below_grow_of ?_ (by simp <;> omega) _ _ | refine Below.drew ?_ | refine below_drewN ?_ _)⟩
  subst k1
  by_cases k2 : y1 = c
  case neg =>
    have k2' : (y1 != c) = true := by simpa using k2
    have K2 := Hid.mk_ (show (y1 == c) = false by simpa using k2)
    clear k2 HG HG2 HR HGP
    go_enter Tryz.func108, Tryz.ntmps108
    go_wp2
    go_quiet ((go_at_call 115; exact quiet_left (PerPage_spec _ _)))
    go_wp2
    go_ret
    exact ⟨ret_bool (by rw [HE.out]; rw [K2.out]; simp), by repeat (first | exact Below.refl _ _ | refine Below.alloc ?_ (by simp <;> omega) _ | refine below_grow_of ?_ (by simp <;> omega) _ _ | refine Below.drew ?_ | refine below_drewN ?_ _)⟩
  subst k2
  by_cases k3 : y2 = perPage y1
  case neg =>
    have k3' : (y2 != perPage y1) = true := by simpa using k3
    have K3 := Hid.mk_ (show (y2 == perPage y1) = false by simpa using k3)
    clear k3 HG HG2 HR HGP
    go_enter Tryz.func108, Tryz.ntmps108
    go_wp2
    go_quiet ((go_at_call 115; exact quiet_left (PerPage_spec _ _)))
    go_wp2
    go_ret
    exact ⟨ret_bool (by rw [HE.out]; rw [K3.out]; simp), by repeat (first | exact Below.refl _ _ | refine Below.alloc ?_ (by simp <;> omega) _ | refine below_grow_of ?_ (by simp <;> omega) _ _ | refine Below.drew ?_ | refine below_drewN ?_ _)⟩
  subst k3
  have HF := Hid.mk_ (show pageOkB ⟨bs, cs⟩ p = (zerosB ((bs.drop (a + 3)).take 5) && gensB ⟨bs, cs⟩ p y1 (perPage y1).toNat) by rw [HE.out]; simp)
  clear HE
  rcases cls hc with rfl | rfl | rfl
  · have hper : perPage 0 = 4 := rfl
    have hst2 : (strideOf 0).toNat = 12 := rfl
    rw [hper] at x2 x2'
    have HF' := Hid.mk_ (show pageOkB ⟨bs, cs⟩ p = (zerosB ((bs.drop (a + 3)).take 5) && gensB ⟨bs, cs⟩ p 0 4) from HF.out)
    clear HF hcb k0
    go_enter Tryz.func108, Tryz.ntmps108
    go_wp2
    go_quiet ((go_at_call 115; exact quiet_left ((PerPage_spec 0 _).mono fun e w' ⟨u, v⟩ => ⟨by rw [u, hper], v⟩)))
    generalize hW : World.drewN _ _ = w0
    have hB0 : Below w.heap.size w w0 := by rw [← hW]; repeat (first | exact Below.refl _ _ | refine Below.alloc ?_ (by simp <;> omega) _ | refine below_grow_of ?_ (by simp <;> omega) _ _ | refine Below.drew ?_ | refine below_drewN ?_ _)
    have q0 : w0.cell? ⟨w.heap.size, 0, none⟩ = some (.slice (some ⟨g1, off1, none⟩) bs.length c1) := by rw [← hW]; simp [go_sem]
    have q1 : w0.cell? ⟨w.heap.size, 1, none⟩ = some (.slice (some ⟨g2, off2, none⟩) cs.length c2) := by rw [← hW]; simp [go_sem]
    clear hW
    clear x0 x1 x2 x1' x2' p0
    go_wp2
    go_loop [8] (fun i => ∃ m : Nat, a + 3 ≤ m ∧ m ≤ a + 3 + 5 ∧ i = .int .i64 m ∧ Hid (zerosB ((bs.drop (a + 3)).take (m - (a + 3))) = true)) (fun i => a + 3 + 5 - (intOf i).toNat)
    case atStart => exact ⟨a + 3, Nat.le_refl _, by omega, by go_num, Hid.mk_ (by rw [Nat.sub_self]; rfl)⟩
    case round =>
      obtain ⟨m, hm1, hm2, rfl, HT⟩ := hrel
      by_cases hlt : m < a + 3 + 5
      · have ht : decide ((m : Int) < (a : Int) + 8) = true := decide_eq_true (by omega)
        have ht' : (m : Int) < (a : Int) + 8 := by omega
        have hmb : m < bs.length := by omega
        obtain ⟨g1', off1', cap1', he, _, _, _, hc1⟩ := (hr1.below hB0).at_ (show bs[m]? = some (bs.getD m 0) by rw [getD_at hmb]; exact List.getElem?_eq_getElem hmb)
        injection he with he1 he2 he3
        injection he1 with he1
        injection he1 with he1 he4
        subst he1 he3 he4
        have x0 : w0.cell? ⟨g1, off1 + m, none⟩ = some (.int .i64 (bs.getD m 0)) := by simpa [FI] using hc1 0 _ rfl
        clear hc1 he2
        have HS := Hid.mk_ (fun h0 => zeros_step (b := bs) hm1 hmb HT.out h0)
        have HNo := Hid.mk_ (fun h0 => zeros_no (b := bs) (n := 5) hm1 hmb hlt h0)
        generalize bs.getD m 0 = y at x0 HS HNo
        by_cases hy : y = 0
        · have HN := Hid.mk_ (HS.out hy)
          have hy' : (y != 0) = false := by simpa using hy
          clear hy
          go_wp2
          go_round
          case rel => exact ⟨m + 1, by omega, by omega, by go_num, HN⟩
          case measure => simp [intOf]; omega
        · have HN := Hid.mk_ (HNo.out hy)
          have hy' : (y != 0) = true := by simpa using hy
          clear hy
          go_wp2
          go_ret
          exact ⟨ret_bool (by rw [HF'.out, HN.out]; rfl), (by first | exact hB0 | exact hB0.drew | exact below_drewN hB0 _)⟩
      · obtain rfl : m = a + 3 + 5 := by omega
        have HN := Hid.mk_ (show zerosB ((bs.drop (a + 3)).take 5) = true by have u := HT.out; rwa [show a + 3 + 5 - (a + 3) = 5 by omega] at u)
        have ht : decide (((a + 3 + 5 : Nat) : Int) < (a : Int) + 8) = false := decide_eq_false (by omega)
        clear HT
        go_wp2_with (go_at_call 115; refine (PerPage_spec _ _).mono ?_; rw [hper]; rintro e w2 ⟨rfl, rfl⟩)
        go_loopw [9] (fun i wr => ∃ k : Nat, k ≤ 4 ∧ i = .int .i64 k ∧ Hid (gensB ⟨bs, cs⟩ p 0 k = true) ∧ Below w.heap.size w wr ∧ wr.cell? ⟨w.heap.size, 0, none⟩ = some (.slice (some ⟨g1, off1, none⟩) bs.length c1)) (fun i _ => 4 - (intOf i).toNat)
        case atStart => exact ⟨0, Nat.zero_le _, rfl, rfl, hB0, q0⟩
        case round =>
          obtain ⟨i, hi, rfl, HT, hB1, r0⟩ := hrel
          clear hB0 q0 q1 hr2
          by_cases hlt : i < 4
          · have HGi := Hid.mk_ (HGP.out 0 hc i hlt)
            have hroom := HR.out 0 hc i hlt
            rw [hst2] at HGi hroom
            have HS := Hid.mk_ (show gensB ⟨bs, cs⟩ p 0 (i + 1) = (gensB ⟨bs, cs⟩ p 0 i && inB 1 7 (loadN bs ((a + 8 + i * 12 : Nat) : Int) 4)) from HG.out 0 i)
            have HNo := Hid.mk_ (show inB 1 7 (loadN bs ((a + 8 + i * 12 : Nat) : Int) 4) = false → gensB ⟨bs, cs⟩ p 0 4 = false from HG2.out 0 i 4 hlt)
            have hcq1 : ∀ W : World, Calls Tryz.prog 128 #[.int .i64 p, .int .i64 i] W fun e w' => e = .returned (.int .i64 (slotAtP p i)) ∧ W = w' := fun W => SlotAt_spec p i W
            have hcq2 : ∀ W : World, Calls Tryz.prog 68 #[.int .i64 (slotAtP p i), .int .i64 0] W fun e w' => e = .returned (.int .i64 ((a + 8 + i * 12 : Nat) : Int)) ∧ W = w' := fun W => (GenAt_spec _ 0 W).mono fun e w' ⟨u, v⟩ => ⟨by rw [u, HGi.out], v⟩
            have hge : a + 8 + i * 12 + 4 ≤ bs.length := by omega
            have hcq3 : ∀ W : World, Below w.heap.size w W → Calls Tryz.prog 112 #[.slice (some ⟨g1, off1, none⟩) bs.length c1, .int .i64 ((a + 8 + i * 12 : Nat) : Int), .int .i64 4] W fun e w' => e = .returned (.int .i64 (loadN bs ((a + 8 + i * 12 : Nat) : Int) 4)) ∧ W = w' := fun W hW => l3Load_spec W _ bs _ 4 (rd_up hr1 hW) (by omega) (by decide) (by decide) (by omega) hby
            generalize loadN bs ((a + 8 + i * 12 : Nat) : Int) 4 = z at hcq3 HS HNo
            generalize a + 8 + i * 12 = ga at hcq2 hcq3 hge
            generalize slotAtP p i = sl at hcq1 hcq2
            by_cases k5 : inB 1 7 z = true
            · have HN := Hid.mk_ (show gensB ⟨bs, cs⟩ p 0 (i + 1) = true by rw [HS.out, HT.out, k5]; rfl)
              clear HS HNo HGi hroom
              go_wp2_with (go_at_call 115; refine (PerPage_spec _ _).mono ?_; rw [hper]; rintro e w2 ⟨rfl, rfl⟩)
              go_quiet ((first | (go_at_call 128; exact quiet_left (hcq1 _)) | (go_at_call 68; exact quiet_left (hcq2 _)) | (go_at_call 112; exact quiet_left (hcq3 _ (by first | exact hB1 | exact hB1.drew | exact below_drewN hB1 _))) | (go_at_call 21; exact quiet_left (l1In_ct _ _ _ _))))
              go_wp2
              go_roundw
              case rel => exact ⟨i + 1, by omega, by go_num, HN, by first | exact hB1 | exact hB1.drew | exact below_drewN hB1 _, by first | exact r0 | simpa [go_sem] using r0⟩
              case measure => simp [intOf]; omega
            · have k5' : inB 1 7 z = false := (Bool.not_eq_true _).mp k5
              have HN' := Hid.mk_ (HNo.out k5')
              clear k5 HS HNo HGi hroom
              go_wp2_with (go_at_call 115; refine (PerPage_spec _ _).mono ?_; rw [hper]; rintro e w2 ⟨rfl, rfl⟩)
              go_quiet ((first | (go_at_call 128; exact quiet_left (hcq1 _)) | (go_at_call 68; exact quiet_left (hcq2 _)) | (go_at_call 112; exact quiet_left (hcq3 _ (by first | exact hB1 | exact hB1.drew | exact below_drewN hB1 _))) | (go_at_call 21; exact quiet_left (l1In_ct _ _ _ _))))
              go_wp2
              go_ret
              exact ⟨ret_bool (by rw [HF'.out, HN'.out]; simp), by first | exact hB1 | exact hB1.drew | exact below_drewN hB1 _⟩
          · obtain rfl : i = 4 := by omega
            go_wp2_with (go_at_call 115; refine (PerPage_spec _ _).mono ?_; rw [hper]; rintro e w2 ⟨rfl, rfl⟩)
            go_ret
            exact ⟨ret_bool (by rw [HF'.out, HN.out, HT.out]; rfl), by first | exact hB1 | exact hB1.drew | exact below_drewN hB1 _⟩
  · have hper : perPage 1 = 2 := rfl
    have hst2 : (strideOf 1).toNat = 20 := rfl
    rw [hper] at x2 x2'
    have HF' := Hid.mk_ (show pageOkB ⟨bs, cs⟩ p = (zerosB ((bs.drop (a + 3)).take 5) && gensB ⟨bs, cs⟩ p 1 2) from HF.out)
    clear HF hcb k0
    go_enter Tryz.func108, Tryz.ntmps108
    go_wp2
    go_quiet ((go_at_call 115; exact quiet_left ((PerPage_spec 1 _).mono fun e w' ⟨u, v⟩ => ⟨by rw [u, hper], v⟩)))
    generalize hW : World.drewN _ _ = w0
    have hB0 : Below w.heap.size w w0 := by rw [← hW]; repeat (first | exact Below.refl _ _ | refine Below.alloc ?_ (by simp <;> omega) _ | refine below_grow_of ?_ (by simp <;> omega) _ _ | refine Below.drew ?_ | refine below_drewN ?_ _)
    have q0 : w0.cell? ⟨w.heap.size, 0, none⟩ = some (.slice (some ⟨g1, off1, none⟩) bs.length c1) := by rw [← hW]; simp [go_sem]
    have q1 : w0.cell? ⟨w.heap.size, 1, none⟩ = some (.slice (some ⟨g2, off2, none⟩) cs.length c2) := by rw [← hW]; simp [go_sem]
    clear hW
    clear x0 x1 x2 x1' x2' p0
    go_wp2
    go_loop [8] (fun i => ∃ m : Nat, a + 3 ≤ m ∧ m ≤ a + 3 + 5 ∧ i = .int .i64 m ∧ Hid (zerosB ((bs.drop (a + 3)).take (m - (a + 3))) = true)) (fun i => a + 3 + 5 - (intOf i).toNat)
    case atStart => exact ⟨a + 3, Nat.le_refl _, by omega, by go_num, Hid.mk_ (by rw [Nat.sub_self]; rfl)⟩
    case round =>
      obtain ⟨m, hm1, hm2, rfl, HT⟩ := hrel
      by_cases hlt : m < a + 3 + 5
      · have ht : decide ((m : Int) < (a : Int) + 8) = true := decide_eq_true (by omega)
        have ht' : (m : Int) < (a : Int) + 8 := by omega
        have hmb : m < bs.length := by omega
        obtain ⟨g1', off1', cap1', he, _, _, _, hc1⟩ := (hr1.below hB0).at_ (show bs[m]? = some (bs.getD m 0) by rw [getD_at hmb]; exact List.getElem?_eq_getElem hmb)
        injection he with he1 he2 he3
        injection he1 with he1
        injection he1 with he1 he4
        subst he1 he3 he4
        have x0 : w0.cell? ⟨g1, off1 + m, none⟩ = some (.int .i64 (bs.getD m 0)) := by simpa [FI] using hc1 0 _ rfl
        clear hc1 he2
        have HS := Hid.mk_ (fun h0 => zeros_step (b := bs) hm1 hmb HT.out h0)
        have HNo := Hid.mk_ (fun h0 => zeros_no (b := bs) (n := 5) hm1 hmb hlt h0)
        generalize bs.getD m 0 = y at x0 HS HNo
        by_cases hy : y = 0
        · have HN := Hid.mk_ (HS.out hy)
          have hy' : (y != 0) = false := by simpa using hy
          clear hy
          go_wp2
          go_round
          case rel => exact ⟨m + 1, by omega, by omega, by go_num, HN⟩
          case measure => simp [intOf]; omega
        · have HN := Hid.mk_ (HNo.out hy)
          have hy' : (y != 0) = true := by simpa using hy
          clear hy
          go_wp2
          go_ret
          exact ⟨ret_bool (by rw [HF'.out, HN.out]; rfl), (by first | exact hB0 | exact hB0.drew | exact below_drewN hB0 _)⟩
      · obtain rfl : m = a + 3 + 5 := by omega
        have HN := Hid.mk_ (show zerosB ((bs.drop (a + 3)).take 5) = true by have u := HT.out; rwa [show a + 3 + 5 - (a + 3) = 5 by omega] at u)
        have ht : decide (((a + 3 + 5 : Nat) : Int) < (a : Int) + 8) = false := decide_eq_false (by omega)
        clear HT
        go_wp2_with (go_at_call 115; refine (PerPage_spec _ _).mono ?_; rw [hper]; rintro e w2 ⟨rfl, rfl⟩)
        go_loopw [9] (fun i wr => ∃ k : Nat, k ≤ 2 ∧ i = .int .i64 k ∧ Hid (gensB ⟨bs, cs⟩ p 1 k = true) ∧ Below w.heap.size w wr ∧ wr.cell? ⟨w.heap.size, 0, none⟩ = some (.slice (some ⟨g1, off1, none⟩) bs.length c1)) (fun i _ => 2 - (intOf i).toNat)
        case atStart => exact ⟨0, Nat.zero_le _, rfl, rfl, hB0, q0⟩
        case round =>
          obtain ⟨i, hi, rfl, HT, hB1, r0⟩ := hrel
          clear hB0 q0 q1 hr2
          by_cases hlt : i < 2
          · have HGi := Hid.mk_ (HGP.out 1 hc i hlt)
            have hroom := HR.out 1 hc i hlt
            rw [hst2] at HGi hroom
            have HS := Hid.mk_ (show gensB ⟨bs, cs⟩ p 1 (i + 1) = (gensB ⟨bs, cs⟩ p 1 i && inB 1 7 (loadN bs ((a + 8 + i * 20 : Nat) : Int) 4)) from HG.out 1 i)
            have HNo := Hid.mk_ (show inB 1 7 (loadN bs ((a + 8 + i * 20 : Nat) : Int) 4) = false → gensB ⟨bs, cs⟩ p 1 2 = false from HG2.out 1 i 2 hlt)
            have hcq1 : ∀ W : World, Calls Tryz.prog 128 #[.int .i64 p, .int .i64 i] W fun e w' => e = .returned (.int .i64 (slotAtP p i)) ∧ W = w' := fun W => SlotAt_spec p i W
            have hcq2 : ∀ W : World, Calls Tryz.prog 68 #[.int .i64 (slotAtP p i), .int .i64 1] W fun e w' => e = .returned (.int .i64 ((a + 8 + i * 20 : Nat) : Int)) ∧ W = w' := fun W => (GenAt_spec _ 1 W).mono fun e w' ⟨u, v⟩ => ⟨by rw [u, HGi.out], v⟩
            have hge : a + 8 + i * 20 + 4 ≤ bs.length := by omega
            have hcq3 : ∀ W : World, Below w.heap.size w W → Calls Tryz.prog 112 #[.slice (some ⟨g1, off1, none⟩) bs.length c1, .int .i64 ((a + 8 + i * 20 : Nat) : Int), .int .i64 4] W fun e w' => e = .returned (.int .i64 (loadN bs ((a + 8 + i * 20 : Nat) : Int) 4)) ∧ W = w' := fun W hW => l3Load_spec W _ bs _ 4 (rd_up hr1 hW) (by omega) (by decide) (by decide) (by omega) hby
            generalize loadN bs ((a + 8 + i * 20 : Nat) : Int) 4 = z at hcq3 HS HNo
            generalize a + 8 + i * 20 = ga at hcq2 hcq3 hge
            generalize slotAtP p i = sl at hcq1 hcq2
            by_cases k5 : inB 1 7 z = true
            · have HN := Hid.mk_ (show gensB ⟨bs, cs⟩ p 1 (i + 1) = true by rw [HS.out, HT.out, k5]; rfl)
              clear HS HNo HGi hroom
              go_wp2_with (go_at_call 115; refine (PerPage_spec _ _).mono ?_; rw [hper]; rintro e w2 ⟨rfl, rfl⟩)
              go_quiet ((first | (go_at_call 128; exact quiet_left (hcq1 _)) | (go_at_call 68; exact quiet_left (hcq2 _)) | (go_at_call 112; exact quiet_left (hcq3 _ (by first | exact hB1 | exact hB1.drew | exact below_drewN hB1 _))) | (go_at_call 21; exact quiet_left (l1In_ct _ _ _ _))))
              go_wp2
              go_roundw
              case rel => exact ⟨i + 1, by omega, by go_num, HN, by first | exact hB1 | exact hB1.drew | exact below_drewN hB1 _, by first | exact r0 | simpa [go_sem] using r0⟩
              case measure => simp [intOf]; omega
            · have k5' : inB 1 7 z = false := (Bool.not_eq_true _).mp k5
              have HN' := Hid.mk_ (HNo.out k5')
              clear k5 HS HNo HGi hroom
              go_wp2_with (go_at_call 115; refine (PerPage_spec _ _).mono ?_; rw [hper]; rintro e w2 ⟨rfl, rfl⟩)
              go_quiet ((first | (go_at_call 128; exact quiet_left (hcq1 _)) | (go_at_call 68; exact quiet_left (hcq2 _)) | (go_at_call 112; exact quiet_left (hcq3 _ (by first | exact hB1 | exact hB1.drew | exact below_drewN hB1 _))) | (go_at_call 21; exact quiet_left (l1In_ct _ _ _ _))))
              go_wp2
              go_ret
              exact ⟨ret_bool (by rw [HF'.out, HN'.out]; simp), by first | exact hB1 | exact hB1.drew | exact below_drewN hB1 _⟩
          · obtain rfl : i = 2 := by omega
            go_wp2_with (go_at_call 115; refine (PerPage_spec _ _).mono ?_; rw [hper]; rintro e w2 ⟨rfl, rfl⟩)
            go_ret
            exact ⟨ret_bool (by rw [HF'.out, HN.out, HT.out]; rfl), by first | exact hB1 | exact hB1.drew | exact below_drewN hB1 _⟩
  · have hper : perPage 2 = 1 := rfl
    have hst2 : (strideOf 2).toNat = 44 := rfl
    rw [hper] at x2 x2'
    have HF' := Hid.mk_ (show pageOkB ⟨bs, cs⟩ p = (zerosB ((bs.drop (a + 3)).take 5) && gensB ⟨bs, cs⟩ p 2 1) from HF.out)
    clear HF hcb k0
    go_enter Tryz.func108, Tryz.ntmps108
    go_wp2
    go_quiet ((go_at_call 115; exact quiet_left ((PerPage_spec 2 _).mono fun e w' ⟨u, v⟩ => ⟨by rw [u, hper], v⟩)))
    generalize hW : World.drewN _ _ = w0
    have hB0 : Below w.heap.size w w0 := by rw [← hW]; repeat (first | exact Below.refl _ _ | refine Below.alloc ?_ (by simp <;> omega) _ | refine below_grow_of ?_ (by simp <;> omega) _ _ | refine Below.drew ?_ | refine below_drewN ?_ _)
    have q0 : w0.cell? ⟨w.heap.size, 0, none⟩ = some (.slice (some ⟨g1, off1, none⟩) bs.length c1) := by rw [← hW]; simp [go_sem]
    have q1 : w0.cell? ⟨w.heap.size, 1, none⟩ = some (.slice (some ⟨g2, off2, none⟩) cs.length c2) := by rw [← hW]; simp [go_sem]
    clear hW
    clear x0 x1 x2 x1' x2' p0
    go_wp2
    go_loop [8] (fun i => ∃ m : Nat, a + 3 ≤ m ∧ m ≤ a + 3 + 5 ∧ i = .int .i64 m ∧ Hid (zerosB ((bs.drop (a + 3)).take (m - (a + 3))) = true)) (fun i => a + 3 + 5 - (intOf i).toNat)
    case atStart => exact ⟨a + 3, Nat.le_refl _, by omega, by go_num, Hid.mk_ (by rw [Nat.sub_self]; rfl)⟩
    case round =>
      obtain ⟨m, hm1, hm2, rfl, HT⟩ := hrel
      by_cases hlt : m < a + 3 + 5
      · have ht : decide ((m : Int) < (a : Int) + 8) = true := decide_eq_true (by omega)
        have ht' : (m : Int) < (a : Int) + 8 := by omega
        have hmb : m < bs.length := by omega
        obtain ⟨g1', off1', cap1', he, _, _, _, hc1⟩ := (hr1.below hB0).at_ (show bs[m]? = some (bs.getD m 0) by rw [getD_at hmb]; exact List.getElem?_eq_getElem hmb)
        injection he with he1 he2 he3
        injection he1 with he1
        injection he1 with he1 he4
        subst he1 he3 he4
        have x0 : w0.cell? ⟨g1, off1 + m, none⟩ = some (.int .i64 (bs.getD m 0)) := by simpa [FI] using hc1 0 _ rfl
        clear hc1 he2
        have HS := Hid.mk_ (fun h0 => zeros_step (b := bs) hm1 hmb HT.out h0)
        have HNo := Hid.mk_ (fun h0 => zeros_no (b := bs) (n := 5) hm1 hmb hlt h0)
        generalize bs.getD m 0 = y at x0 HS HNo
        by_cases hy : y = 0
        · have HN := Hid.mk_ (HS.out hy)
          have hy' : (y != 0) = false := by simpa using hy
          clear hy
          go_wp2
          go_round
          case rel => exact ⟨m + 1, by omega, by omega, by go_num, HN⟩
          case measure => simp [intOf]; omega
        · have HN := Hid.mk_ (HNo.out hy)
          have hy' : (y != 0) = true := by simpa using hy
          clear hy
          go_wp2
          go_ret
          exact ⟨ret_bool (by rw [HF'.out, HN.out]; rfl), (by first | exact hB0 | exact hB0.drew | exact below_drewN hB0 _)⟩
      · obtain rfl : m = a + 3 + 5 := by omega
        have HN := Hid.mk_ (show zerosB ((bs.drop (a + 3)).take 5) = true by have u := HT.out; rwa [show a + 3 + 5 - (a + 3) = 5 by omega] at u)
        have ht : decide (((a + 3 + 5 : Nat) : Int) < (a : Int) + 8) = false := decide_eq_false (by omega)
        clear HT
        go_wp2_with (go_at_call 115; refine (PerPage_spec _ _).mono ?_; rw [hper]; rintro e w2 ⟨rfl, rfl⟩)
        go_loopw [9] (fun i wr => ∃ k : Nat, k ≤ 1 ∧ i = .int .i64 k ∧ Hid (gensB ⟨bs, cs⟩ p 2 k = true) ∧ Below w.heap.size w wr ∧ wr.cell? ⟨w.heap.size, 0, none⟩ = some (.slice (some ⟨g1, off1, none⟩) bs.length c1)) (fun i _ => 1 - (intOf i).toNat)
        case atStart => exact ⟨0, Nat.zero_le _, rfl, rfl, hB0, q0⟩
        case round =>
          obtain ⟨i, hi, rfl, HT, hB1, r0⟩ := hrel
          clear hB0 q0 q1 hr2
          by_cases hlt : i < 1
          · have HGi := Hid.mk_ (HGP.out 2 hc i hlt)
            have hroom := HR.out 2 hc i hlt
            rw [hst2] at HGi hroom
            have HS := Hid.mk_ (show gensB ⟨bs, cs⟩ p 2 (i + 1) = (gensB ⟨bs, cs⟩ p 2 i && inB 1 7 (loadN bs ((a + 8 + i * 44 : Nat) : Int) 4)) from HG.out 2 i)
            have HNo := Hid.mk_ (show inB 1 7 (loadN bs ((a + 8 + i * 44 : Nat) : Int) 4) = false → gensB ⟨bs, cs⟩ p 2 1 = false from HG2.out 2 i 1 hlt)
            have hcq1 : ∀ W : World, Calls Tryz.prog 128 #[.int .i64 p, .int .i64 i] W fun e w' => e = .returned (.int .i64 (slotAtP p i)) ∧ W = w' := fun W => SlotAt_spec p i W
            have hcq2 : ∀ W : World, Calls Tryz.prog 68 #[.int .i64 (slotAtP p i), .int .i64 2] W fun e w' => e = .returned (.int .i64 ((a + 8 + i * 44 : Nat) : Int)) ∧ W = w' := fun W => (GenAt_spec _ 2 W).mono fun e w' ⟨u, v⟩ => ⟨by rw [u, HGi.out], v⟩
            have hge : a + 8 + i * 44 + 4 ≤ bs.length := by omega
            have hcq3 : ∀ W : World, Below w.heap.size w W → Calls Tryz.prog 112 #[.slice (some ⟨g1, off1, none⟩) bs.length c1, .int .i64 ((a + 8 + i * 44 : Nat) : Int), .int .i64 4] W fun e w' => e = .returned (.int .i64 (loadN bs ((a + 8 + i * 44 : Nat) : Int) 4)) ∧ W = w' := fun W hW => l3Load_spec W _ bs _ 4 (rd_up hr1 hW) (by omega) (by decide) (by decide) (by omega) hby
            generalize loadN bs ((a + 8 + i * 44 : Nat) : Int) 4 = z at hcq3 HS HNo
            generalize a + 8 + i * 44 = ga at hcq2 hcq3 hge
            generalize slotAtP p i = sl at hcq1 hcq2
            by_cases k5 : inB 1 7 z = true
            · have HN := Hid.mk_ (show gensB ⟨bs, cs⟩ p 2 (i + 1) = true by rw [HS.out, HT.out, k5]; rfl)
              clear HS HNo HGi hroom
              go_wp2_with (go_at_call 115; refine (PerPage_spec _ _).mono ?_; rw [hper]; rintro e w2 ⟨rfl, rfl⟩)
              go_quiet ((first | (go_at_call 128; exact quiet_left (hcq1 _)) | (go_at_call 68; exact quiet_left (hcq2 _)) | (go_at_call 112; exact quiet_left (hcq3 _ (by first | exact hB1 | exact hB1.drew | exact below_drewN hB1 _))) | (go_at_call 21; exact quiet_left (l1In_ct _ _ _ _))))
              go_wp2
              go_roundw
              case rel => exact ⟨i + 1, by omega, by go_num, HN, by first | exact hB1 | exact hB1.drew | exact below_drewN hB1 _, by first | exact r0 | simpa [go_sem] using r0⟩
              case measure => simp [intOf]; omega
            · have k5' : inB 1 7 z = false := (Bool.not_eq_true _).mp k5
              have HN' := Hid.mk_ (HNo.out k5')
              clear k5 HS HNo HGi hroom
              go_wp2_with (go_at_call 115; refine (PerPage_spec _ _).mono ?_; rw [hper]; rintro e w2 ⟨rfl, rfl⟩)
              go_quiet ((first | (go_at_call 128; exact quiet_left (hcq1 _)) | (go_at_call 68; exact quiet_left (hcq2 _)) | (go_at_call 112; exact quiet_left (hcq3 _ (by first | exact hB1 | exact hB1.drew | exact below_drewN hB1 _))) | (go_at_call 21; exact quiet_left (l1In_ct _ _ _ _))))
              go_wp2
              go_ret
              exact ⟨ret_bool (by rw [HF'.out, HN'.out]; simp), by first | exact hB1 | exact hB1.drew | exact below_drewN hB1 _⟩
          · obtain rfl : i = 1 := by omega
            go_wp2_with (go_at_call 115; refine (PerPage_spec _ _).mono ?_; rw [hper]; rintro e w2 ⟨rfl, rfl⟩)
            go_ret
            exact ⟨ret_bool (by rw [HF'.out, HN.out, HT.out]; rfl), by first | exact hB1 | exact hB1.drew | exact below_drewN hB1 _⟩
end Go.Proofs.YtpjijbonpjoamaaGreat

/-
  Heaps valid: the contracts.
-/
namespace Go.Proofs.YtpjijbonpjoamaaGreat
open Go.RowKit

set_option maxRecDepth 100000 in
set_option maxHeartbeats 1000000 in
theorem HeapOk_impl (w : World) (H : HHeap) (x : Heap) (h : RdHeap w w.heap.size H x) :
    Calls Tryz.prog 72 #[.agg #[.slice H.Bytes.a H.Bytes.len H.Bytes.cap, .slice H.Class.a H.Class.len H.Class.cap]] w fun e w' => e = .returned (.bool (heapOkB x)) ∧ Below w.heap.size w w' := by
  obtain ⟨⟨A1, n1, c1⟩, ⟨A2, n2, c2⟩⟩ := H
  obtain ⟨bs, cs⟩ := x
  have hr1 : RdL FI w w.heap.size (.slice A1 n1 c1) bs := h.Bytes
  have hr2 : RdL FI w w.heap.size (.slice A2 n2 c2) cs := h.Class
  obtain ⟨_, _, hv, q1, q2, qx⟩ := id hr1
  simp only [Value.slice.injEq] at hv
  obtain ⟨rfl, rfl, rfl⟩ := hv
  have hlt1 : bs.length ≤ 9223372036854775807 := by unfold maxLen at q2; omega
  clear q1 q2 qx
  obtain ⟨_, _, hv, q1, q2, qx⟩ := id hr2
  simp only [Value.slice.injEq] at hv
  obtain ⟨rfl, rfl, rfl⟩ := hv
  have hlt2 : cs.length ≤ 9223372036854775807 := by unfold maxLen at q2; omega
  clear q1 q2 qx h
  have HE := Hid.mk_ (show heapOkB ⟨bs, cs⟩ = (shapeB ⟨bs, cs⟩ && (List.range 6).all (pageOkB ⟨bs, cs⟩)) from rfl)
  show Calls Tryz.prog 72 #[.agg #[.slice A1 bs.length c1, .slice A2 cs.length c2]] _ _
  by_cases hs : shapeB ⟨bs, cs⟩ = true
  case neg =>
    have HT := Hid.mk_ ((Bool.not_eq_true _).mp hs)
    clear hs
    go_enter Tryz.func72, Tryz.ntmps72
    go_wp2_with (go_at_call 118; refine (shaped_impl _ ⟨⟨A1, bs.length, c1⟩, ⟨A2, cs.length, c2⟩⟩ ⟨bs, cs⟩ ⟨rd_up hr1 (by repeat (first | exact Below.refl _ _ | refine Below.alloc ?_ (by simp <;> omega) _ | refine below_grow_of ?_ (by simp <;> omega) _ _ | refine Below.drew ?_ | refine below_drewN ?_ _)), rd_up hr2 (by repeat (first | exact Below.refl _ _ | refine Below.alloc ?_ (by simp <;> omega) _ | refine below_grow_of ?_ (by simp <;> omega) _ _ | refine Below.drew ?_ | refine below_drewN ?_ _))⟩).mono ?_; rw [HT.out]; rintro e w1 ⟨rfl, hb1⟩; obtain ⟨os1, d1, rfl⟩ := below_grows hb1; clear hb1)
    go_ret
    exact ⟨ret_bool (by rw [HE.out, HT.out]; rfl), by repeat (first | exact Below.refl _ _ | refine Below.alloc ?_ (by simp <;> omega) _ | refine below_grow_of ?_ (by simp <;> omega) _ _ | refine Below.drew ?_ | refine below_drewN ?_ _)⟩
  have HS := Hid.mk_ hs
  clear hs
  go_enter Tryz.func72, Tryz.ntmps72
  go_wp2_with fail
  refine (shaped_impl _ ⟨⟨A1, bs.length, c1⟩, ⟨A2, cs.length, c2⟩⟩ ⟨bs, cs⟩ ⟨rd_up hr1 (by repeat (first | exact Below.refl _ _ | refine Below.alloc ?_ (by simp <;> omega) _ | refine below_grow_of ?_ (by simp <;> omega) _ _ | refine Below.drew ?_ | refine below_drewN ?_ _)), rd_up hr2 (by repeat (first | exact Below.refl _ _ | refine Below.alloc ?_ (by simp <;> omega) _ | refine below_grow_of ?_ (by simp <;> omega) _ _ | refine Below.drew ?_ | refine below_drewN ?_ _))⟩).mono ?_
  rw [HS.out]
  rintro e w1 ⟨rfl, hb1⟩
  have q0 : w1.cell? ⟨w.heap.size, 0, none⟩ = some (.slice A1 bs.length c1) := cell_up hb1 (by simp <;> omega) (by simp [go_sem])
  have q1 : w1.cell? ⟨w.heap.size, 1, none⟩ = some (.slice A2 cs.length c2) := cell_up hb1 (by simp <;> omega) (by simp [go_sem])
  have hB1 : Below w.heap.size w w1 := Below.trans (by repeat (first | exact Below.refl _ _ | refine Below.alloc ?_ (by simp <;> omega) _ | refine below_grow_of ?_ (by simp <;> omega) _ _ | refine Below.drew ?_ | refine below_drewN ?_ _)) (hb1.mono (by simp))
  have z1 : w.heap.size < w1.heap.size := by have := hb1.size; simp at this; omega
  clear hb1
  go_wp2
  go_loopw [3, 7] (fun _ i wr => ∃ k : Nat, k ≤ 6 ∧ i = .int .i64 k ∧ Hid ((List.range k).all (pageOkB ⟨bs, cs⟩) = true) ∧ Below w.heap.size w wr ∧ wr.cell? ⟨w.heap.size, 0, none⟩ = some (.slice A1 bs.length c1) ∧ wr.cell? ⟨w.heap.size, 1, none⟩ = some (.slice A2 cs.length c2) ∧ w.heap.size < wr.heap.size) (fun _ i _ => 6 - (intOf i).toNat)
  case atStart => exact ⟨0, Nat.zero_le _, rfl, rfl, hB1, q0, q1, z1⟩
  case round =>
    obtain ⟨i, hi, rfl, HT, hb, r0, r1, hz⟩ := hrel
    clear q0 q1 hB1 z1
    by_cases hlt : i < 6
    · have HX := Hid.mk_ (show (List.range (i + 1)).all (pageOkB ⟨bs, cs⟩) = pageOkB ⟨bs, cs⟩ i by rw [List.range_succ, List.all_append, HT.out]; simp)
      by_cases k1 : pageOkB ⟨bs, cs⟩ i = true
      · have HK := Hid.mk_ k1
        clear k1
        go_wp2_with (go_at_call 119; refine (pageOk_impl _ ⟨⟨A1, bs.length, c1⟩, ⟨A2, cs.length, c2⟩⟩ ⟨bs, cs⟩ i hlt ⟨rd_up hr1 hb, rd_up hr2 hb⟩ HS.out).mono ?_; rw [HK.out]; rintro e w2 ⟨rfl, hb2⟩)
        go_roundw
        case rel => exact ⟨i + 1, by omega, by go_num, Hid.mk_ (by rw [HX.out, HK.out]), hb.trans (hb2.mono hb.size), cell_up hb2 hz r0, cell_up hb2 hz r1, Nat.lt_of_lt_of_le hz hb2.size⟩
        case measure => simp [intOf]; omega
      · have HK := Hid.mk_ ((Bool.not_eq_true _).mp k1)
        have HN := Hid.mk_ (show (List.range 6).all (pageOkB ⟨bs, cs⟩) = false from List.all_eq_false.2 ⟨i, List.mem_range.2 hlt, by rw [HK.out]; decide⟩)
        clear k1
        go_wp2_with (go_at_call 119; refine (pageOk_impl _ ⟨⟨A1, bs.length, c1⟩, ⟨A2, cs.length, c2⟩⟩ ⟨bs, cs⟩ i hlt ⟨rd_up hr1 hb, rd_up hr2 hb⟩ HS.out).mono ?_; rw [HK.out]; rintro e w2 ⟨rfl, hb2⟩)
        go_ret
        exact ⟨ret_bool (by rw [HE.out, HN.out]; simp), hb.trans (hb2.mono hb.size)⟩
    · obtain rfl : i = 6 := by omega
      go_wp2
      go_ret
      exact ⟨ret_bool (by rw [HE.out, HT.out, HS.out]; rfl), hb⟩

set_option maxRecDepth 100000 in
set_option maxHeartbeats 1000000 in
theorem HeapOk_spec (w : World) (H : HHeap) (x : Heap) (h : RdHeap w w.heap.size H x) :
    Calls Tryz.prog 59 #[.agg #[.slice H.Bytes.a H.Bytes.len H.Bytes.cap, .slice H.Class.a H.Class.len H.Class.cap]] w fun e w' => e = .returned (.bool (heapOkB x)) ∧ Below w.heap.size w w' := by
  obtain ⟨⟨A1, n1, c1⟩, ⟨A2, n2, c2⟩⟩ := H
  obtain ⟨bs, cs⟩ := x
  have hr1 : RdL FI w w.heap.size (.slice A1 n1 c1) bs := h.Bytes
  have hr2 : RdL FI w w.heap.size (.slice A2 n2 c2) cs := h.Class
  obtain ⟨_, _, hv, q1, q2, qx⟩ := id hr1
  simp only [Value.slice.injEq] at hv
  obtain ⟨rfl, rfl, rfl⟩ := hv
  have hlt1 : bs.length ≤ 9223372036854775807 := by unfold maxLen at q2; omega
  clear q1 q2 qx
  obtain ⟨_, _, hv, q1, q2, qx⟩ := id hr2
  simp only [Value.slice.injEq] at hv
  obtain ⟨rfl, rfl, rfl⟩ := hv
  have hlt2 : cs.length ≤ 9223372036854775807 := by unfold maxLen at q2; omega
  clear q1 q2 qx h
  have HE := Hid.mk_ (show heapOkB ⟨bs, cs⟩ = (shapeB ⟨bs, cs⟩ && (List.range 6).all (pageOkB ⟨bs, cs⟩)) from rfl)
  show Calls Tryz.prog 59 #[.agg #[.slice A1 bs.length c1, .slice A2 cs.length c2]] _ _
  by_cases hs : shapeB ⟨bs, cs⟩ = true
  case neg =>
    have HT := Hid.mk_ ((Bool.not_eq_true _).mp hs)
    clear hs
    go_enter Tryz.func59, Tryz.ntmps59
    go_wp2_with (go_at_call 107; refine (l7Shape_spec _ ⟨⟨A1, bs.length, c1⟩, ⟨A2, cs.length, c2⟩⟩ ⟨bs, cs⟩ ⟨rd_up hr1 (by repeat (first | exact Below.refl _ _ | refine Below.alloc ?_ (by simp <;> omega) _ | refine below_grow_of ?_ (by simp <;> omega) _ _ | refine Below.drew ?_ | refine below_drewN ?_ _)), rd_up hr2 (by repeat (first | exact Below.refl _ _ | refine Below.alloc ?_ (by simp <;> omega) _ | refine below_grow_of ?_ (by simp <;> omega) _ _ | refine Below.drew ?_ | refine below_drewN ?_ _))⟩).mono ?_; rw [HT.out]; rintro e w1 ⟨rfl, hb1⟩; obtain ⟨os1, d1, rfl⟩ := below_grows hb1; clear hb1)
    go_ret
    exact ⟨ret_bool (by rw [HE.out, HT.out]; rfl), by repeat (first | exact Below.refl _ _ | refine Below.alloc ?_ (by simp <;> omega) _ | refine below_grow_of ?_ (by simp <;> omega) _ _ | refine Below.drew ?_ | refine below_drewN ?_ _)⟩
  have HS := Hid.mk_ hs
  clear hs
  go_enter Tryz.func59, Tryz.ntmps59
  go_wp2_with fail
  refine (l7Shape_spec _ ⟨⟨A1, bs.length, c1⟩, ⟨A2, cs.length, c2⟩⟩ ⟨bs, cs⟩ ⟨rd_up hr1 (by repeat (first | exact Below.refl _ _ | refine Below.alloc ?_ (by simp <;> omega) _ | refine below_grow_of ?_ (by simp <;> omega) _ _ | refine Below.drew ?_ | refine below_drewN ?_ _)), rd_up hr2 (by repeat (first | exact Below.refl _ _ | refine Below.alloc ?_ (by simp <;> omega) _ | refine below_grow_of ?_ (by simp <;> omega) _ _ | refine Below.drew ?_ | refine below_drewN ?_ _))⟩).mono ?_
  rw [HS.out]
  rintro e w1 ⟨rfl, hb1⟩
  have q0 : w1.cell? ⟨w.heap.size, 0, none⟩ = some (.slice A1 bs.length c1) := cell_up hb1 (by simp <;> omega) (by simp [go_sem])
  have q1 : w1.cell? ⟨w.heap.size, 1, none⟩ = some (.slice A2 cs.length c2) := cell_up hb1 (by simp <;> omega) (by simp [go_sem])
  have hB1 : Below w.heap.size w w1 := Below.trans (by repeat (first | exact Below.refl _ _ | refine Below.alloc ?_ (by simp <;> omega) _ | refine below_grow_of ?_ (by simp <;> omega) _ _ | refine Below.drew ?_ | refine below_drewN ?_ _)) (hb1.mono (by simp))
  have z1 : w.heap.size < w1.heap.size := by have := hb1.size; simp at this; omega
  clear hb1
  go_wp2
  go_loopw [3] (fun i wr => ∃ k : Nat, k ≤ 6 ∧ i = .int .i64 k ∧ Hid ((List.range k).all (pageOkB ⟨bs, cs⟩) = true) ∧ Below w.heap.size w wr ∧ wr.cell? ⟨w.heap.size, 0, none⟩ = some (.slice A1 bs.length c1) ∧ wr.cell? ⟨w.heap.size, 1, none⟩ = some (.slice A2 cs.length c2) ∧ w.heap.size < wr.heap.size) (fun i _ => 6 - (intOf i).toNat)
  case atStart => exact ⟨0, Nat.zero_le _, rfl, rfl, hB1, q0, q1, z1⟩
  case round =>
    obtain ⟨i, hi, rfl, HT, hb, r0, r1, hz⟩ := hrel
    clear q0 q1 hB1 z1
    by_cases hlt : i < 6
    · have HX := Hid.mk_ (show (List.range (i + 1)).all (pageOkB ⟨bs, cs⟩) = pageOkB ⟨bs, cs⟩ i by rw [List.range_succ, List.all_append, HT.out]; simp)
      by_cases k1 : pageOkB ⟨bs, cs⟩ i = true
      · have HK := Hid.mk_ k1
        clear k1
        go_wp2_with (go_at_call 108; refine (l7Page_spec _ ⟨⟨A1, bs.length, c1⟩, ⟨A2, cs.length, c2⟩⟩ ⟨bs, cs⟩ i hlt ⟨rd_up hr1 hb, rd_up hr2 hb⟩ HS.out).mono ?_; rw [HK.out]; rintro e w2 ⟨rfl, hb2⟩)
        go_roundw
        case rel => exact ⟨i + 1, by omega, by go_num, Hid.mk_ (by rw [HX.out, HK.out]), hb.trans (hb2.mono hb.size), cell_up hb2 hz r0, cell_up hb2 hz r1, Nat.lt_of_lt_of_le hz hb2.size⟩
        case measure => simp [intOf]; omega
      · have HK := Hid.mk_ ((Bool.not_eq_true _).mp k1)
        have HN := Hid.mk_ (show (List.range 6).all (pageOkB ⟨bs, cs⟩) = false from List.all_eq_false.2 ⟨i, List.mem_range.2 hlt, by rw [HK.out]; decide⟩)
        clear k1
        go_wp2_with (go_at_call 108; refine (l7Page_spec _ ⟨⟨A1, bs.length, c1⟩, ⟨A2, cs.length, c2⟩⟩ ⟨bs, cs⟩ i hlt ⟨rd_up hr1 hb, rd_up hr2 hb⟩ HS.out).mono ?_; rw [HK.out]; rintro e w2 ⟨rfl, hb2⟩)
        go_ret
        exact ⟨ret_bool (by rw [HE.out, HN.out]; simp), hb.trans (hb2.mono hb.size)⟩
    · obtain rfl : i = 6 := by omega
      go_wp2
      go_ret
      exact ⟨ret_bool (by rw [HE.out, HT.out, HS.out]; rfl), hb⟩
end Go.Proofs.YtpjijbonpjoamaaGreat

/-
  Lists of slots: searched.
-/
namespace Go.Proofs.YtpjijbonpjoamaaGreat
open Go.RowKit

theorem Tryz.stInt : ST Tryz.prog FI 22 3 := ⟨Tryz.underlying22, .int .i64 0, 8, by kernel_rfl, rfl, by decide⟩

set_option maxHeartbeats 1000000 in
theorem IndexInt_ct (w : World) (v : Value) (l : List Int) (x : Int) (h : RdL FI w w.heap.size v l) :
    Calls Tryz.prog 129 #[v, .int .i64 x] w fun e w' => e = .returned (.int .i64 (idxOf (fun y => y == x) l)) ∧ w = w' := by
  obtain ⟨A, c, hv, q1, q2, _⟩ := id h
  have hlt0 : l.length ≤ 9223372036854775807 := by unfold maxLen at q2; omega
  subst hv
  clear q1 q2
  go_enter Tryz.func129, Tryz.ntmps129
  go_wp2
  go_loop [5, 8] (fun _ i => ∃ i' : Nat, i' ≤ l.length ∧ i = .int .i64 i' ∧ Hid ((l.take i').any (fun y => y == x) = false)) (fun _ i => l.length - (intOf i).toNat)
  case atStart => exact ⟨0, Nat.zero_le _, rfl, rfl⟩
  case round =>
    obtain ⟨i, hi, rfl, HN⟩ := hrel
    by_cases hlt : i < l.length
    · obtain ⟨g, off, cap', he, hg, _, _, hc⟩ := h.at_ (List.getElem?_eq_getElem hlt)
      injection he with he1 he2 he3
      clear he2
      subst he1 he3
      have p0 : w.cell? ⟨g, off + i, none⟩ = some (.int .i64 l[i]) := by simpa [FI] using hc 0 _ rfl
      clear hc h
      by_cases hp : x = l[i]
      · have HP := Hid.mk_ (idxOf_hit (fun y => y == x) l i hlt HN.out (by simp [hp]))
        have hp' : (x == l[i]) = true := by simpa using hp
        clear hp
        go_wp2
        go_ret
        exact ⟨ret_i64 HP.out.symm, rfl⟩
      · have HP := Hid.mk_ (any_take_succ (fun y => y == x) l i hlt HN.out (by simpa using fun e => hp e.symm))
        have hp' : (x == l[i]) = false := by simpa using hp
        clear hp
        go_wp2
        go_round
        case rel => exact ⟨i + 1, by omega, by go_num, HP⟩
        case measure => simp [intOf]; omega
    · go_wp2
      go_ret
      obtain rfl : i = l.length := by omega
      exact ⟨ret_i64 (idxOf_none _ l (by simpa using HN.out)).symm, rfl⟩
def allL (l : Lists) : List Int := l.Global.flatten ++ l.Own.flatten
theorem gcell {w w' : World} {r : Option Nat} (h : w.grownBy w' r) (g i : Nat) (hg : g < w.heap.size) (hn : r ≠ some g) : w'.cell? ⟨g, i, none⟩ = w.cell? ⟨g, i, none⟩ := by
  simp [World.cell?, h.block g hg (fun e => hn e.symm)]
set_option maxRecDepth 100000 in
set_option maxHeartbeats 1000000 in
theorem l8All_ct (w : World) (H : HLists) (x : Lists) (h : RdLists w w.heap.size H x) (hs1 : szLL x.Global ≤ 536870912) (hs2 : szLL x.Own ≤ 536870912) :
    Calls Tryz.prog 109 #[.agg #[.slice H.Global.a H.Global.len H.Global.cap, .slice H.Own.a H.Own.len H.Own.cap]] w fun e w' => ∃ v', e = .returned v' ∧ OwL FI 3 w' v' (allL x) ∧ (∀ g ∈ foot1 v', w.heap.size ≤ g) ∧ Below w.heap.size w w' := by
  obtain ⟨⟨A1, n1, c1⟩, T1, ⟨A2, n2, c2⟩, T2⟩ := H
  obtain ⟨gl, ow⟩ := x
  have hr1 : RdLL FI w w.heap.size (.slice A1 n1 c1) T1 gl := h.Global
  have hr2 : RdLL FI w w.heap.size (.slice A2 n2 c2) T2 ow := h.Own
  obtain ⟨en1, _, hmx⟩ := hr1.len'
  have hlt1 : gl.length ≤ 9223372036854775807 := by unfold maxLen at hmx; omega
  clear hmx
  obtain ⟨en2, _, hmx⟩ := hr2.len'
  have hlt2 : ow.length ≤ 9223372036854775807 := by unfold maxLen at hmx; omega
  clear hmx h
  subst en1 en2
  simp only at hs1 hs2
  have HAL := Hid.mk_ (show allL ⟨gl, ow⟩ = gl.flatten ++ ow.flatten from rfl)
  show Calls Tryz.prog 109 #[.agg #[.slice A1 gl.length c1, .slice A2 ow.length c2]] _ _
  go_enter Tryz.func109, Tryz.ntmps109
  go_wp2
  go_loopw [3, 4] (fun o i wr => ∃ k : Nat, k ≤ gl.length ∧ i = .int .i64 k ∧ OwL FI 3 wr o ((gl.take k).flatten) ∧ (∀ g ∈ foot1 o, w.heap.size < g) ∧ Below w.heap.size w wr ∧ wr.cell? ⟨w.heap.size, 0, none⟩ = some (.slice A1 gl.length c1) ∧ wr.cell? ⟨w.heap.size, 1, none⟩ = some (.slice A2 ow.length c2) ∧ w.heap.size < wr.heap.size) (fun _ i _ => gl.length - (intOf i).toNat)
  case atStart => exact ⟨0, Nat.zero_le _, rfl, (by have hq := OwL.lit FI [] #[] rfl (by decide) (w.alloc (.cells #[.slice A1 gl.length c1, .slice A2 ow.length c2] 34)) 3; simpa using hq), by simp [foot1, Value.ownBlock], by repeat (first | exact Below.refl _ _ | refine Below.alloc ?_ (by simp <;> omega) _ | refine below_grow_of ?_ (by simp <;> omega) _ _ | refine Below.drew ?_ | refine below_drewN ?_ _), by simp [go_sem], by simp [go_sem], by simp; omega⟩
  case round =>
    obtain ⟨i, hi, rfl, ho, hfo, hb, r0, r1, hz⟩ := hrel
    by_cases hlt : i < gl.length
    · obtain ⟨g, o, A', c', hAe, hg, p0, rr1⟩ := hr1.row hb hlt
      subst hAe
      have hfl : ((gl.take i).flatten).length + gl[i].length ≤ 1073741824 := by
        have a := totLL_take_succ gl i hlt
        have b := totLL_take_le gl (i + 1)
        have c : totLL gl ≤ szLL gl := Nat.le_add_left _ _
        rw [← totLL_eq]
        omega
      have HF := Hid.mk_ (show (gl.take (i + 1)).flatten = ((gl.take i).flatten) ++ gl[i] from by rw [List.take_succ_eq_append_getElem hlt, List.flatten_append, List.flatten_singleton])
      clear hr1 hr2
      go_wp2_with (at_builtin; refine wpList_append_flat Tryz.stInt rfl _ _ rfl (v := u3) (y := .slice A' gl[i].length c') (l := (gl.take i).flatten) (m := gl[i]) rfl rfl ho (rd_up rr1 hb) hfl ?_; intro v' w3 ho' hg' hat')
      have hb3 : Below w.heap.size w w3 := hb.grown hg' hb.size (fun k hk => Nat.le_of_lt (hfo k (mem_foot1.2 hk)))
      have s0 := (gcell hg' w.heap.size 0 hz (fun hm => by have := hfo _ (mem_foot1.2 hm); omega)).trans r0
      have s1 := (gcell hg' w.heap.size 1 hz (fun hm => by have := hfo _ (mem_foot1.2 hm); omega)).trans r1
      go_roundw
      case rel => exact ⟨i + 1, by omega, by go_num, by rw [HF.out]; exact ho', fun b hb' => by rcases foot_app hat' b hb' with h | h; (exact hfo b h); (have := hb.size; omega), hb3, s0, s1, Nat.lt_of_lt_of_le hz hg'.size⟩
      case measure => simp [intOf]; omega
    · obtain rfl : i = gl.length := by omega
      rw [List.take_length] at ho
      go_wp2
      go_loopw [3, 5] (fun o i wr => ∃ k : Nat, k ≤ ow.length ∧ i = .int .i64 k ∧ OwL FI 3 wr o (gl.flatten ++ (ow.take k).flatten) ∧ (∀ g ∈ foot1 o, w.heap.size < g) ∧ Below w.heap.size w wr ∧ wr.cell? ⟨w.heap.size, 0, none⟩ = some (.slice A1 gl.length c1) ∧ wr.cell? ⟨w.heap.size, 1, none⟩ = some (.slice A2 ow.length c2) ∧ w.heap.size < wr.heap.size) (fun _ i _ => ow.length - (intOf i).toNat)
      case atStart => exact ⟨0, Nat.zero_le _, rfl, by simpa using ho, hfo, hb, r0, r1, hz⟩
      case round =>
        obtain ⟨i, hi, rfl, ho, hfo, hb, r0, r1, hz⟩ := hrel
        by_cases hlt : i < ow.length
        · obtain ⟨g, o, A', c', hAe, hg, p0, rr1⟩ := hr2.row hb hlt
          subst hAe
          have hfl : (gl.flatten ++ (ow.take i).flatten).length + ow[i].length ≤ 1073741824 := by
            have a := totLL_take_succ ow i hlt
            have b := totLL_take_le ow (i + 1)
            have c : totLL ow ≤ szLL ow := Nat.le_add_left _ _
            simp only [List.length_append]; rw [← totLL_eq, ← totLL_eq]; have d : totLL gl ≤ szLL gl := Nat.le_add_left _ _
            omega
          have HF := Hid.mk_ (show gl.flatten ++ (ow.take (i + 1)).flatten = (gl.flatten ++ (ow.take i).flatten) ++ ow[i] from by rw [List.take_succ_eq_append_getElem hlt, List.flatten_append, List.flatten_singleton]; rw [List.append_assoc])
          clear hr1 hr2
          go_wp2_with (at_builtin; refine wpList_append_flat Tryz.stInt rfl _ _ rfl (v := u3) (y := .slice A' ow[i].length c') (l := gl.flatten ++ (ow.take i).flatten) (m := ow[i]) rfl rfl ho (rd_up rr1 hb) hfl ?_; intro v' w3 ho' hg' hat')
          have hb3 : Below w.heap.size w w3 := hb.grown hg' hb.size (fun k hk => Nat.le_of_lt (hfo k (mem_foot1.2 hk)))
          have s0 := (gcell hg' w.heap.size 0 hz (fun hm => by have := hfo _ (mem_foot1.2 hm); omega)).trans r0
          have s1 := (gcell hg' w.heap.size 1 hz (fun hm => by have := hfo _ (mem_foot1.2 hm); omega)).trans r1
          go_roundw
          case rel => exact ⟨i + 1, by omega, by go_num, by rw [HF.out]; exact ho', fun b hb' => by rcases foot_app hat' b hb' with h | h; (exact hfo b h); (have := hb.size; omega), hb3, s0, s1, Nat.lt_of_lt_of_le hz hg'.size⟩
          case measure => simp [intOf]; omega
        · obtain rfl : i = ow.length := by omega
          go_wp2
          go_ret
          refine ⟨_, rfl, ?_, fun g hg => Nat.le_of_lt (hfo g hg), hb⟩
          rw [HAL.out]
          simpa using ho

end Go.Proofs.YtpjijbonpjoamaaGreat

