/-
  Heaps: pages.
-/
import Derived.Test.YtkldapdpaldbgaaGreatT
import Derived.Test.YtkldapdpaldbgaaGreatL
import Derived.Deep.QuietTactic
import Derived.BigQuiet
import Derived.Deep.LoopGhost
import Derived.Deep.RegionHeld3
import Derived.Test.YtkldapdpaldbgaaGreatN
import Derived.Test.YtkldapdpaldbgaaGreatA
import Derived.WalkSpells
import Derived.Laws.Cover3
import Derived.Test.YtkldapdpaldbgaaGreatB3
namespace Go.Proofs.YtkldapdpaldbgaaGreat
open Go.RowKit

theorem quiet_add_left {P : Program} {f : FuncId} {args : Array Value} {w : World} {a n : Nat} {v : Value}
    (h : Calls P f args (w.drewN (a + n)) fun e w' => e = .returned v ∧ w.drewN (a + n) = w') :
    Calls P f args (w.drewN (a + n)) fun e w'' => e = .returned v ∧ ∃ m, w'' = w.drewN (a + m) :=
  h.mono fun _ _ ⟨he, hm⟩ => ⟨he, n, hm.symm⟩

theorem RdL.subI {g off n c B : Nat} {w : World} {l : List Int} (h : RdL FI w B (.slice (some ⟨g, off, none⟩) n c) l) (lo m : Nat) (h1 : lo + m ≤ l.length) : RdL FI w B (.slice (some ⟨g, off + lo, none⟩) m (c - lo)) ((l.drop lo).take m) := by
  obtain ⟨A, cap, hv, a1, a2, a3⟩ := h
  simp only [Value.slice.injEq] at hv
  obtain ⟨rfl, rfl, rfl⟩ := hv
  have hlen : ((l.drop lo).take m).length = m := by rw [List.length_take, List.length_drop]; omega
  refine ⟨_, c - lo, by rw [hlen], by rw [hlen]; omega, by omega, fun hne => ?_⟩
  have hl : l ≠ [] := by
    rintro rfl
    simp at hne
  obtain ⟨g', off', hA, hg, hc⟩ := a3 hl
  injection hA with hA
  injection hA with hA1 hA2
  subst hA1 hA2
  refine ⟨_, _, rfl, hg, fun j u hu => ?_⟩
  have hu' : (flat FI l)[lo + j]? = some u := by
    have e : ∀ q : List Int, flat FI q = q.map fun x => Value.int .i64 x := fun q => by
      induction q with
      | nil => rfl
      | cons z q ih => show FI.enc z ++ flat FI q = _; rw [ih]; rfl
    rw [e] at hu ⊢
    rw [List.getElem?_map, List.getElem?_take] at hu
    split at hu
    · rw [List.getElem?_drop] at hu
      rw [List.getElem?_map]
      exact hu
    · simp at hu
  have := hc _ u hu'
  rwa [← Nat.add_assoc] at this
def gensB (h : Heap) (p : Nat) (c : Int) (k : Nat) : Bool := (List.range k).all fun i => inB 1 7 (loadN h.Bytes ((p * 64 + 8 + i * (strideOf c).toNat : Nat) : Int) 4)
def pageOkB (h : Heap) (p : Nat) : Bool :=
  if h.Class.getD p (-1) < 0 then zerosB ((h.Bytes.drop (p * 64)).take 64)
  else (h.Bytes.getD (p * 64) 0 == 171) && (h.Bytes.getD (p * 64 + 1) 0 == h.Class.getD p (-1)) && (h.Bytes.getD (p * 64 + 2) 0 == perPage (h.Class.getD p (-1))) && zerosB ((h.Bytes.drop (p * 64 + 3)).take 5) && gensB h p (h.Class.getD p (-1)) (perPage (h.Class.getD p (-1))).toNat
def heapOkB (h : Heap) : Bool := shapeB h && (List.range 6).all (pageOkB h)
theorem loadTo_sub (b : List Int) (lo m a k : Nat) (h : a + k ≤ m) (_ : lo + m ≤ b.length) : loadTo ((b.drop lo).take m) a k = loadTo b (lo + a) k := by
  induction k with
  | zero => rfl
  | succ k ih =>
    show loadTo _ a k * 256 + _ = loadTo _ (lo + a) k * 256 + _
    rw [ih (by omega)]
    congr 1
    simp only [List.getD, List.getElem?_take, List.getElem?_drop]
    rw [if_pos (by omega), Nat.add_assoc]
theorem gens_room {c : Int} (hc : inB 0 2 c = true) {i : Nat} (hi : i < (perPage c).toNat) : 8 + i * (strideOf c).toNat + 4 ≤ 64 := by
  rcases cls hc with rfl | rfl | rfl <;> simp [perPage, strideOf] at * <;> omega
theorem gensB_succ (h : Heap) (p : Nat) (c : Int) (k : Nat) : gensB h p c (k + 1) = (gensB h p c k && inB 1 7 (loadN h.Bytes ((p * 64 + 8 + k * (strideOf c).toNat : Nat) : Int) 4)) := by
  unfold gensB
  rw [List.range_succ, List.all_append]
  simp
theorem gensB_no {h : Heap} {p : Nat} {c : Int} {k n : Nat} (hk : k < n) (hn : inB 1 7 (loadN h.Bytes ((p * 64 + 8 + k * (strideOf c).toNat : Nat) : Int) 4) = false) : gensB h p c n = false := by
  unfold gensB
  rw [List.all_eq_false]
  exact ⟨k, List.mem_range.2 hk, by rw [hn]; decide⟩
theorem sub_bytes {b : List Int} (hb : b.all (inB 0 255) = true) (lo m : Nat) : ((b.drop lo).take m).all (inB 0 255) = true := by
  rw [List.all_eq_true] at hb ⊢
  exact fun x hx => hb x (List.mem_of_mem_drop (List.mem_of_mem_take hx))

set_option maxRecDepth 100000 in
set_option maxHeartbeats 4000000 in
theorem pageOk_impl (w : World) (H : HHeap) (x : Heap) (p : Nat) (hp : p < 6) (h : RdHeap w w.heap.size H x) (hs : shapeB x = true) :
    Calls Tryz.prog 239 #[.agg #[.slice H.Bytes.a H.Bytes.len H.Bytes.cap, .slice H.Class.a H.Class.len H.Class.cap], .int .i64 p] w fun e w' => e = .returned (.bool (pageOkB x p)) ∧ Below w.heap.size w w' := by
  obtain ⟨⟨A1, n1, c1⟩, ⟨A2, n2, c2⟩⟩ := H
  obtain ⟨bs, cs⟩ := x
  have hr1 : RdL FI w w.heap.size (.slice A1 n1 c1) bs := h.Bytes
  have hr2 : RdL FI w w.heap.size (.slice A2 n2 c2) cs := h.Class
  obtain ⟨_, _, hv, q1, q2, qx⟩ := id hr1
  simp only [Value.slice.injEq] at hv
  obtain ⟨rfl, rfl, rfl⟩ := hv
  have hlt1 : bs.length ≤ 9223372036854775807 := by unfold maxLen at q2; omega
  clear q1 q2 qx
  obtain ⟨_, _, hv, q1, q2, qx⟩ := id hr2
  simp only [Value.slice.injEq] at hv
  obtain ⟨rfl, rfl, rfl⟩ := hv
  have hlt2 : cs.length ≤ 9223372036854775807 := by unfold maxLen at q2; omega
  clear q1 q2 qx h
  have sh := shape_of hs
  have hl6 := sh.cl
  have hl384 := sh.bl
  have hby := sh.by_
  have hcb := sh.cs p
  simp only at hl6 hl384 hby hcb
  have hpl : p < cs.length := by omega
  have HE := Hid.mk_ (show pageOkB ⟨bs, cs⟩ p = (if cs.getD p (-1) < 0 then zerosB ((bs.drop (p * 64)).take 64) else (bs.getD (p * 64) 0 == 171) && (bs.getD (p * 64 + 1) 0 == cs.getD p (-1)) && (bs.getD (p * 64 + 2) 0 == perPage (cs.getD p (-1))) && zerosB ((bs.drop (p * 64 + 3)).take 5) && gensB ⟨bs, cs⟩ p (cs.getD p (-1)) (perPage (cs.getD p (-1))).toNat) from rfl)
  show Calls Tryz.prog 239 #[.agg #[.slice A1 bs.length c1, .slice A2 cs.length c2], .int .i64 p] _ _
  obtain ⟨g2, off2, cap2, he, hg2, _, _, hc2⟩ := hr2.at_ (show cs[p]? = some (cs.getD p (-1)) by rw [getD_at hpl]; exact List.getElem?_eq_getElem hpl)
  injection he with he1 he2 he3
  clear he2
  subst he1 he3
  have p0 : w.cell? ⟨g2, off2 + p, none⟩ = some (.int .i64 (cs.getD p (-1))) := by simpa [FI] using hc2 0 _ rfl
  clear hc2
  have HG := Hid.mk_ (fun c k => gensB_succ ⟨bs, cs⟩ p c k)
  have HG2 := Hid.mk_ (fun c k n => gensB_no (h := ⟨bs, cs⟩) (p := p) (c := c) (k := k) (n := n))
  have HR := Hid.mk_ (fun c hc i => gens_room (c := c) hc (i := i))
  generalize cs.getD p (-1) = c at p0 hcb HE
  obtain ⟨g1, off1, cap1, he, hg1, hcc1, hcc2, hc1⟩ := hr1.at_ (show bs[p * 64]? = some (bs.getD (p * 64) 0) by rw [getD_at (by omega)]; exact List.getElem?_eq_getElem (by omega))
  injection he with he1 he2 he3
  clear he2
  subst he1 he3
  have x0 : w.cell? ⟨g1, off1 + p * 64, none⟩ = some (.int .i64 (bs.getD (p * 64) 0)) := by simpa [FI] using hc1 0 _ rfl
  obtain ⟨g1', off1', cap1', he, _, _, _, hc1⟩ := hr1.at_ (show bs[p * 64 + 1]? = some (bs.getD (p * 64 + 1) 0) by rw [getD_at (by omega)]; exact List.getElem?_eq_getElem (by omega))
  injection he with he1 he2 he3
  injection he1 with he1
  injection he1 with he1 he4
  subst he1 he3 he4
  have x1 : w.cell? ⟨g1, off1 + (p * 64 + 1), none⟩ = some (.int .i64 (bs.getD (p * 64 + 1) 0)) := by simpa [FI] using hc1 0 _ rfl
  obtain ⟨g1', off1', cap1', he, _, _, _, hc1⟩ := hr1.at_ (show bs[p * 64 + 2]? = some (bs.getD (p * 64 + 2) 0) by rw [getD_at (by omega)]; exact List.getElem?_eq_getElem (by omega))
  injection he with he1 he2 he3
  injection he1 with he1
  injection he1 with he1 he4
  subst he1 he3 he4
  have x2 : w.cell? ⟨g1, off1 + (p * 64 + 2), none⟩ = some (.int .i64 (bs.getD (p * 64 + 2) 0)) := by simpa [FI] using hc1 0 _ rfl
  clear hc1 he2 sh hs
  have hrz := hr1.subI (p * 64) 64 (by omega)
  have hrf := hr1.subI (p * 64 + 3) 5 (by omega)
  rw [← Nat.add_assoc, Nat.sub_add_eq] at hrf
  have hb384 : 384 ≤ bs.length := by omega
  have hb6 : 6 ≤ cs.length := by omega
  clear hl384 hl6
  have x1' : w.cell? ⟨g1, off1 + p * 64 + 1, none⟩ = some (.int .i64 (bs.getD (p * 64 + 1) 0)) := by rw [Nat.add_assoc]; exact x1
  have x2' : w.cell? ⟨g1, off1 + p * 64 + 2, none⟩ = some (.int .i64 (bs.getD (p * 64 + 2) 0)) := by rw [Nat.add_assoc]; exact x2
  generalize bs.getD (p * 64) 0 = y0 at x0 HE
  generalize bs.getD (p * 64 + 1) 0 = y1 at x1 x1' HE
  generalize bs.getD (p * 64 + 2) 0 = y2 at x2 x2' HE

  have HLS := Hid.mk_ (fun q (hq : q + 4 ≤ 64) => loadTo_sub bs (p * 64) 64 q 4 hq (by omega))
  have hby2 := sub_bytes hby (p * 64) 64
  have e1 : (p : Int) * 64 = ((p * 64 : Nat) : Int) := by omega
  have e2 : ((p : Int) + 1) * 64 = ((p * 64 + 64 : Nat) : Int) := by omega
  have ha : p * 64 + 64 ≤ bs.length := by omega
  have hl64 : ((bs.drop (p * 64)).take 64).length = 64 := by rw [List.length_take, List.length_drop]; omega
  have HL64 := Hid.mk_ hl64
  clear hl64
  generalize p * 64 = a at *
  by_cases k0 : c < 0
  · have hd0 : decide (c < 0) = true := by simpa using k0
    rw [if_pos k0] at HE
    clear HG HG2 HR HLS
    go_enter Tryz.func239, Tryz.ntmps239
    go_wp2
    go_quiet (fail)
    go_wp2_with fail
    refine (isZero_impl _ _ _ (rd_up hrz (by repeat (first | exact Below.refl _ _ | refine Below.alloc ?_ (by simp <;> omega) _ | refine below_grow_of ?_ (by simp <;> omega) _ _ | refine Below.drew ?_ | refine below_drewN ?_ _)))).mono ?_
    rintro e w1 ⟨rfl, rfl⟩
    go_wp2
    go_ret
    exact ⟨ret_bool HE.out.symm, by repeat (first | exact Below.refl _ _ | refine Below.alloc ?_ (by simp <;> omega) _ | refine below_grow_of ?_ (by simp <;> omega) _ _ | refine Below.drew ?_ | refine below_drewN ?_ _)⟩
  rw [if_neg k0] at HE
  have hd0 : decide (c < 0) = false := by simpa using k0
  have hc : inB 0 2 c = true := inB_iff.2 ⟨by omega, hcb.2⟩
  by_cases k1 : y0 = 171
  case neg =>
    have k1' : (y0 != 171) = true := by simpa using k1
    have K1 := Hid.mk_ (show (y0 == 171) = false by simpa using k1)
    clear k1 HG HG2 HR HLS
    have h64 : a + 64 - a = 64 := by omega
    go_enter Tryz.func239, Tryz.ntmps239
    go_wp2
    go_quiet (fail)
    go_wp2
    go_quiet ((first | (go_at_call 209; exact quiet_add_left (PerPage_impl _ _)) | (go_at_call 280; exact quiet_add_left (isZero_impl _ _ _ (rd_up hrf (by repeat (first | exact Below.refl _ _ | refine Below.alloc ?_ (by simp <;> omega) _ | refine below_grow_of ?_ (by simp <;> omega) _ _ | refine Below.drew ?_ | refine below_drewN ?_ _)))))))
    go_wp2
    go_ret
    exact ⟨ret_bool (by rw [HE.out]; rw [K1.out]; simp), by repeat (first | exact Below.refl _ _ | refine Below.alloc ?_ (by simp <;> omega) _ | refine below_grow_of ?_ (by simp <;> omega) _ _ | refine Below.drew ?_ | refine below_drewN ?_ _)⟩
  subst k1
  by_cases k2 : y1 = c
  case neg =>
    have k2' : (y1 != c) = true := by simpa using k2
    have K2 := Hid.mk_ (show (y1 == c) = false by simpa using k2)
    clear k2 HG HG2 HR HLS
    have h64 : a + 64 - a = 64 := by omega
    go_enter Tryz.func239, Tryz.ntmps239
    go_wp2
    go_quiet (fail)
    go_wp2
    go_quiet ((first | (go_at_call 209; exact quiet_add_left (PerPage_impl _ _)) | (go_at_call 280; exact quiet_add_left (isZero_impl _ _ _ (rd_up hrf (by repeat (first | exact Below.refl _ _ | refine Below.alloc ?_ (by simp <;> omega) _ | refine below_grow_of ?_ (by simp <;> omega) _ _ | refine Below.drew ?_ | refine below_drewN ?_ _)))))))
    go_wp2
    go_ret
    exact ⟨ret_bool (by rw [HE.out]; rw [K2.out]; simp), by repeat (first | exact Below.refl _ _ | refine Below.alloc ?_ (by simp <;> omega) _ | refine below_grow_of ?_ (by simp <;> omega) _ _ | refine Below.drew ?_ | refine below_drewN ?_ _)⟩
  subst k2
  by_cases k3 : y2 = perPage y1
  case neg =>
    have k3' : (y2 != perPage y1) = true := by simpa using k3
    have K3 := Hid.mk_ (show (y2 == perPage y1) = false by simpa using k3)
    clear k3 HG HG2 HR HLS
    have h64 : a + 64 - a = 64 := by omega
    go_enter Tryz.func239, Tryz.ntmps239
    go_wp2
    go_quiet (fail)
    go_wp2
    go_quiet ((first | (go_at_call 209; exact quiet_add_left (PerPage_impl _ _)) | (go_at_call 280; exact quiet_add_left (isZero_impl _ _ _ (rd_up hrf (by repeat (first | exact Below.refl _ _ | refine Below.alloc ?_ (by simp <;> omega) _ | refine below_grow_of ?_ (by simp <;> omega) _ _ | refine Below.drew ?_ | refine below_drewN ?_ _)))))))
    go_wp2
    go_ret
    exact ⟨ret_bool (by rw [HE.out]; rw [K3.out]; simp), by repeat (first | exact Below.refl _ _ | refine Below.alloc ?_ (by simp <;> omega) _ | refine below_grow_of ?_ (by simp <;> omega) _ _ | refine Below.drew ?_ | refine below_drewN ?_ _)⟩
  subst k3
  by_cases k4 : zerosB ((bs.drop (a + 3)).take 5) = true
  case neg =>
    have k4' : zerosB ((bs.drop (a + 3)).take 5) = false := (Bool.not_eq_true _).mp k4
    have K4 := Hid.mk_ k4'
    clear k4 HG HG2 HR HLS
    have h64 : a + 64 - a = 64 := by omega
    go_enter Tryz.func239, Tryz.ntmps239
    go_wp2
    go_quiet (fail)
    go_wp2
    go_quiet ((first | (go_at_call 209; exact quiet_add_left (PerPage_impl _ _)) | (go_at_call 280; exact quiet_add_left (isZero_impl _ _ _ (rd_up hrf (by repeat (first | exact Below.refl _ _ | refine Below.alloc ?_ (by simp <;> omega) _ | refine below_grow_of ?_ (by simp <;> omega) _ _ | refine Below.drew ?_ | refine below_drewN ?_ _)))))))
    go_wp2
    go_ret
    exact ⟨ret_bool (by rw [HE.out]; rw [K4.out]; simp), by repeat (first | exact Below.refl _ _ | refine Below.alloc ?_ (by simp <;> omega) _ | refine below_grow_of ?_ (by simp <;> omega) _ _ | refine Below.drew ?_ | refine below_drewN ?_ _)⟩
  have HF := Hid.mk_ (show pageOkB ⟨bs, cs⟩ p = gensB ⟨bs, cs⟩ p y1 (perPage y1).toNat by rw [HE.out, k4]; simp)
  clear HE
  rcases cls hc with rfl | rfl | rfl
  · have hper : perPage 0 = 4 := rfl
    have hst : strideOf 0 = 12 := rfl
    rw [hper] at x2 x2'
    have HF' := Hid.mk_ (show pageOkB ⟨bs, cs⟩ p = gensB ⟨bs, cs⟩ p 0 4 from HF.out)
    clear HF hc hcb k0
    have h64 : a + 64 - a = 64 := by omega
    go_enter Tryz.func239, Tryz.ntmps239
    go_wp2
    go_quiet (fail)
    go_wp2
    go_quiet ((first | (go_at_call 209; exact quiet_add_left ((PerPage_impl 0 _).mono fun e w' ⟨u, v⟩ => ⟨by rw [u, hper], v⟩)) | (go_at_call 280; exact quiet_add_left (isZero_impl _ _ _ (rd_up hrf (by repeat (first | exact Below.refl _ _ | refine Below.alloc ?_ (by simp <;> omega) _ | refine below_grow_of ?_ (by simp <;> omega) _ _ | refine Below.drew ?_ | refine below_drewN ?_ _)))))))
    go_wp2_with (go_at_call 209; refine (PerPage_impl _ _).mono ?_; rw [hper]; rintro e w2 ⟨rfl, rfl⟩)
    go_loop [7, 52] (fun _ i => ∃ k : Nat, k ≤ 4 ∧ i = .int .i64 k ∧ Hid (gensB ⟨bs, cs⟩ p 0 k = true)) (fun _ i => 4 - (intOf i).toNat)
    case atStart => exact ⟨0, Nat.zero_le _, rfl, rfl⟩
    case round =>
      obtain ⟨i, hi, rfl, HT⟩ := hrel
      by_cases hlt : i < 4
      · have HV := Hid.mk_ (show loadN ((bs.drop a).take 64) (8 + (i : Int) * 12) 4 = loadN bs ((a + 8 + i * 12 : Nat) : Int) 4 by
          have u := HLS.out (8 + i * 12) (by omega)
          unfold loadN
          rw [show (8 + (i : Int) * 12).toNat = 8 + i * 12 by omega, show (((a + 8 + i * 12 : Nat) : Int)).toNat = a + (8 + i * 12) by omega]
          exact u)
        have HS := Hid.mk_ (show gensB ⟨bs, cs⟩ p 0 (i + 1) = (gensB ⟨bs, cs⟩ p 0 i && inB 1 7 (loadN bs ((a + 8 + i * 12 : Nat) : Int) 4)) from HG.out 0 i)
        have HNo := Hid.mk_ (show inB 1 7 (loadN bs ((a + 8 + i * 12 : Nat) : Int) 4) = false → gensB ⟨bs, cs⟩ p 0 4 = false from HG2.out 0 i 4 hlt)
        generalize loadN bs ((a + 8 + i * 12 : Nat) : Int) 4 = z at HV HS HNo
        by_cases k5 : inB 1 7 z = true
        · have HN := Hid.mk_ (show gensB ⟨bs, cs⟩ p 0 (i + 1) = true by rw [HS.out, HT.out, k5]; rfl)
          go_wp2_with (first | (go_at_call 210; refine (StrideOf_impl _ _).mono ?_; rw [hst]; rintro e w2 ⟨rfl, rfl⟩) | (go_at_call 229; refine (loadNum_impl _ _ ((bs.drop a).take 64) (8 + (i : Int) * 12) 4 (rd_up hrz (by repeat (first | exact Below.refl _ _ | refine Below.alloc ?_ (by simp <;> omega) _ | refine below_grow_of ?_ (by simp <;> omega) _ _ | refine Below.drew ?_ | refine below_drewN ?_ _))) (by omega) (by decide) (by decide) (by rw [HL64.out]; omega) hby2).mono ?_; rw [HV.out]; rintro e w2 ⟨rfl, rfl⟩) | (go_at_call 111; refine (within_ct _ _ _ _).mono ?_; rintro e w1 ⟨rfl, rfl⟩))
          go_round
          case rel => exact ⟨i + 1, by omega, by go_num, HN⟩
          case measure => simp [intOf]; omega
        · have k5' : inB 1 7 z = false := (Bool.not_eq_true _).mp k5
          have HN := Hid.mk_ (HNo.out k5')
          clear k5
          go_wp2_with (first | (go_at_call 210; refine (StrideOf_impl _ _).mono ?_; rw [hst]; rintro e w2 ⟨rfl, rfl⟩) | (go_at_call 229; refine (loadNum_impl _ _ ((bs.drop a).take 64) (8 + (i : Int) * 12) 4 (rd_up hrz (by repeat (first | exact Below.refl _ _ | refine Below.alloc ?_ (by simp <;> omega) _ | refine below_grow_of ?_ (by simp <;> omega) _ _ | refine Below.drew ?_ | refine below_drewN ?_ _))) (by omega) (by decide) (by decide) (by rw [HL64.out]; omega) hby2).mono ?_; rw [HV.out]; rintro e w2 ⟨rfl, rfl⟩) | (go_at_call 111; refine (within_ct _ _ _ _).mono ?_; rintro e w1 ⟨rfl, rfl⟩))
          go_ret
          exact ⟨ret_bool (by rw [HF'.out, HN.out]), by repeat (first | exact Below.refl _ _ | refine Below.alloc ?_ (by simp <;> omega) _ | refine below_grow_of ?_ (by simp <;> omega) _ _ | refine Below.drew ?_ | refine below_drewN ?_ _)⟩
      · obtain rfl : i = 4 := by omega
        go_wp2
        go_ret
        exact ⟨ret_bool (by rw [HF'.out, HT.out]), by repeat (first | exact Below.refl _ _ | refine Below.alloc ?_ (by simp <;> omega) _ | refine below_grow_of ?_ (by simp <;> omega) _ _ | refine Below.drew ?_ | refine below_drewN ?_ _)⟩
  · have hper : perPage 1 = 2 := rfl
    have hst : strideOf 1 = 20 := rfl
    rw [hper] at x2 x2'
    have HF' := Hid.mk_ (show pageOkB ⟨bs, cs⟩ p = gensB ⟨bs, cs⟩ p 1 2 from HF.out)
    clear HF hc hcb k0
    have h64 : a + 64 - a = 64 := by omega
    go_enter Tryz.func239, Tryz.ntmps239
    go_wp2
    go_quiet (fail)
    go_wp2
    go_quiet ((first | (go_at_call 209; exact quiet_add_left ((PerPage_impl 1 _).mono fun e w' ⟨u, v⟩ => ⟨by rw [u, hper], v⟩)) | (go_at_call 280; exact quiet_add_left (isZero_impl _ _ _ (rd_up hrf (by repeat (first | exact Below.refl _ _ | refine Below.alloc ?_ (by simp <;> omega) _ | refine below_grow_of ?_ (by simp <;> omega) _ _ | refine Below.drew ?_ | refine below_drewN ?_ _)))))))
    go_wp2_with (go_at_call 209; refine (PerPage_impl _ _).mono ?_; rw [hper]; rintro e w2 ⟨rfl, rfl⟩)
    go_loop [7, 52] (fun _ i => ∃ k : Nat, k ≤ 2 ∧ i = .int .i64 k ∧ Hid (gensB ⟨bs, cs⟩ p 1 k = true)) (fun _ i => 2 - (intOf i).toNat)
    case atStart => exact ⟨0, Nat.zero_le _, rfl, rfl⟩
    case round =>
      obtain ⟨i, hi, rfl, HT⟩ := hrel
      by_cases hlt : i < 2
      · have HV := Hid.mk_ (show loadN ((bs.drop a).take 64) (8 + (i : Int) * 20) 4 = loadN bs ((a + 8 + i * 20 : Nat) : Int) 4 by
          have u := HLS.out (8 + i * 20) (by omega)
          unfold loadN
          rw [show (8 + (i : Int) * 20).toNat = 8 + i * 20 by omega, show (((a + 8 + i * 20 : Nat) : Int)).toNat = a + (8 + i * 20) by omega]
          exact u)
        have HS := Hid.mk_ (show gensB ⟨bs, cs⟩ p 1 (i + 1) = (gensB ⟨bs, cs⟩ p 1 i && inB 1 7 (loadN bs ((a + 8 + i * 20 : Nat) : Int) 4)) from HG.out 1 i)
        have HNo := Hid.mk_ (show inB 1 7 (loadN bs ((a + 8 + i * 20 : Nat) : Int) 4) = false → gensB ⟨bs, cs⟩ p 1 2 = false from HG2.out 1 i 2 hlt)
        generalize loadN bs ((a + 8 + i * 20 : Nat) : Int) 4 = z at HV HS HNo
        by_cases k5 : inB 1 7 z = true
        · have HN := Hid.mk_ (show gensB ⟨bs, cs⟩ p 1 (i + 1) = true by rw [HS.out, HT.out, k5]; rfl)
          go_wp2_with (first | (go_at_call 210; refine (StrideOf_impl _ _).mono ?_; rw [hst]; rintro e w2 ⟨rfl, rfl⟩) | (go_at_call 229; refine (loadNum_impl _ _ ((bs.drop a).take 64) (8 + (i : Int) * 20) 4 (rd_up hrz (by repeat (first | exact Below.refl _ _ | refine Below.alloc ?_ (by simp <;> omega) _ | refine below_grow_of ?_ (by simp <;> omega) _ _ | refine Below.drew ?_ | refine below_drewN ?_ _))) (by omega) (by decide) (by decide) (by rw [HL64.out]; omega) hby2).mono ?_; rw [HV.out]; rintro e w2 ⟨rfl, rfl⟩) | (go_at_call 111; refine (within_ct _ _ _ _).mono ?_; rintro e w1 ⟨rfl, rfl⟩))
          go_round
          case rel => exact ⟨i + 1, by omega, by go_num, HN⟩
          case measure => simp [intOf]; omega
        · have k5' : inB 1 7 z = false := (Bool.not_eq_true _).mp k5
          have HN := Hid.mk_ (HNo.out k5')
          clear k5
          go_wp2_with (first | (go_at_call 210; refine (StrideOf_impl _ _).mono ?_; rw [hst]; rintro e w2 ⟨rfl, rfl⟩) | (go_at_call 229; refine (loadNum_impl _ _ ((bs.drop a).take 64) (8 + (i : Int) * 20) 4 (rd_up hrz (by repeat (first | exact Below.refl _ _ | refine Below.alloc ?_ (by simp <;> omega) _ | refine below_grow_of ?_ (by simp <;> omega) _ _ | refine Below.drew ?_ | refine below_drewN ?_ _))) (by omega) (by decide) (by decide) (by rw [HL64.out]; omega) hby2).mono ?_; rw [HV.out]; rintro e w2 ⟨rfl, rfl⟩) | (go_at_call 111; refine (within_ct _ _ _ _).mono ?_; rintro e w1 ⟨rfl, rfl⟩))
          go_ret
          exact ⟨ret_bool (by rw [HF'.out, HN.out]), by repeat (first | exact Below.refl _ _ | refine Below.alloc ?_ (by simp <;> omega) _ | refine below_grow_of ?_ (by simp <;> omega) _ _ | refine Below.drew ?_ | refine below_drewN ?_ _)⟩
      · obtain rfl : i = 2 := by omega
        go_wp2
        go_ret
        exact ⟨ret_bool (by rw [HF'.out, HT.out]), by repeat (first | exact Below.refl _ _ | refine Below.alloc ?_ (by simp <;> omega) _ | refine below_grow_of ?_ (by simp <;> omega) _ _ | refine Below.drew ?_ | refine below_drewN ?_ _)⟩
  · have hper : perPage 2 = 1 := rfl
    have hst : strideOf 2 = 44 := rfl
    rw [hper] at x2 x2'
    have HF' := Hid.mk_ (show pageOkB ⟨bs, cs⟩ p = gensB ⟨bs, cs⟩ p 2 1 from HF.out)
    clear HF hc hcb k0
    have h64 : a + 64 - a = 64 := by omega
    go_enter Tryz.func239, Tryz.ntmps239
    go_wp2
    go_quiet (fail)
    go_wp2
    go_quiet ((first | (go_at_call 209; exact quiet_add_left ((PerPage_impl 2 _).mono fun e w' ⟨u, v⟩ => ⟨by rw [u, hper], v⟩)) | (go_at_call 280; exact quiet_add_left (isZero_impl _ _ _ (rd_up hrf (by repeat (first | exact Below.refl _ _ | refine Below.alloc ?_ (by simp <;> omega) _ | refine below_grow_of ?_ (by simp <;> omega) _ _ | refine Below.drew ?_ | refine below_drewN ?_ _)))))))
    go_wp2_with (go_at_call 209; refine (PerPage_impl _ _).mono ?_; rw [hper]; rintro e w2 ⟨rfl, rfl⟩)
    go_loop [7, 52] (fun _ i => ∃ k : Nat, k ≤ 1 ∧ i = .int .i64 k ∧ Hid (gensB ⟨bs, cs⟩ p 2 k = true)) (fun _ i => 1 - (intOf i).toNat)
    case atStart => exact ⟨0, Nat.zero_le _, rfl, rfl⟩
    case round =>
      obtain ⟨i, hi, rfl, HT⟩ := hrel
      by_cases hlt : i < 1
      · have HV := Hid.mk_ (show loadN ((bs.drop a).take 64) (8 + (i : Int) * 44) 4 = loadN bs ((a + 8 + i * 44 : Nat) : Int) 4 by
          have u := HLS.out (8 + i * 44) (by omega)
          unfold loadN
          rw [show (8 + (i : Int) * 44).toNat = 8 + i * 44 by omega, show (((a + 8 + i * 44 : Nat) : Int)).toNat = a + (8 + i * 44) by omega]
          exact u)
        have HS := Hid.mk_ (show gensB ⟨bs, cs⟩ p 2 (i + 1) = (gensB ⟨bs, cs⟩ p 2 i && inB 1 7 (loadN bs ((a + 8 + i * 44 : Nat) : Int) 4)) from HG.out 2 i)
        have HNo := Hid.mk_ (show inB 1 7 (loadN bs ((a + 8 + i * 44 : Nat) : Int) 4) = false → gensB ⟨bs, cs⟩ p 2 1 = false from HG2.out 2 i 1 hlt)
        generalize loadN bs ((a + 8 + i * 44 : Nat) : Int) 4 = z at HV HS HNo
        by_cases k5 : inB 1 7 z = true
        · have HN := Hid.mk_ (show gensB ⟨bs, cs⟩ p 2 (i + 1) = true by rw [HS.out, HT.out, k5]; rfl)
          go_wp2_with (first | (go_at_call 210; refine (StrideOf_impl _ _).mono ?_; rw [hst]; rintro e w2 ⟨rfl, rfl⟩) | (go_at_call 229; refine (loadNum_impl _ _ ((bs.drop a).take 64) (8 + (i : Int) * 44) 4 (rd_up hrz (by repeat (first | exact Below.refl _ _ | refine Below.alloc ?_ (by simp <;> omega) _ | refine below_grow_of ?_ (by simp <;> omega) _ _ | refine Below.drew ?_ | refine below_drewN ?_ _))) (by omega) (by decide) (by decide) (by rw [HL64.out]; omega) hby2).mono ?_; rw [HV.out]; rintro e w2 ⟨rfl, rfl⟩) | (go_at_call 111; refine (within_ct _ _ _ _).mono ?_; rintro e w1 ⟨rfl, rfl⟩))
          go_round
          case rel => exact ⟨i + 1, by omega, by go_num, HN⟩
          case measure => simp [intOf]; omega
        · have k5' : inB 1 7 z = false := (Bool.not_eq_true _).mp k5
          have HN := Hid.mk_ (HNo.out k5')
          clear k5
          go_wp2_with (first | (go_at_call 210; refine (StrideOf_impl _ _).mono ?_; rw [hst]; rintro e w2 ⟨rfl, rfl⟩) | (go_at_call 229; refine (loadNum_impl _ _ ((bs.drop a).take 64) (8 + (i : Int) * 44) 4 (rd_up hrz (by repeat (first | exact Below.refl _ _ | refine Below.alloc ?_ (by simp <;> omega) _ | refine below_grow_of ?_ (by simp <;> omega) _ _ | refine Below.drew ?_ | refine below_drewN ?_ _))) (by omega) (by decide) (by decide) (by rw [HL64.out]; omega) hby2).mono ?_; rw [HV.out]; rintro e w2 ⟨rfl, rfl⟩) | (go_at_call 111; refine (within_ct _ _ _ _).mono ?_; rintro e w1 ⟨rfl, rfl⟩))
          go_ret
          exact ⟨ret_bool (by rw [HF'.out, HN.out]), by repeat (first | exact Below.refl _ _ | refine Below.alloc ?_ (by simp <;> omega) _ | refine below_grow_of ?_ (by simp <;> omega) _ _ | refine Below.drew ?_ | refine below_drewN ?_ _)⟩
      · obtain rfl : i = 1 := by omega
        go_wp2
        go_ret
        exact ⟨ret_bool (by rw [HF'.out, HT.out]), by repeat (first | exact Below.refl _ _ | refine Below.alloc ?_ (by simp <;> omega) _ | refine below_grow_of ?_ (by simp <;> omega) _ _ | refine Below.drew ?_ | refine below_drewN ?_ _)⟩
end Go.Proofs.YtkldapdpaldbgaaGreat
