/-
  Several texts in one: lemmas and contracts that the claim rests on.
-/
import Derived.Test.YtkmggglljkmjoaaGreatUHCounts1
import Derived.Deep.QuietTactic
import Derived.BigQuiet
import Derived.Deep.LoopGhost
import Derived.Deep.RegionHeld3
import Derived.WalkSpells
import Derived.Laws.Cover3
import Derived.Deep.WholeRow
import Derived.Lib.AppendZerosOnto
import Derived.Lib.SliceRun
import Derived.Lib.Walk
/-
  Heaps: pages.
-/
namespace Go.Proofs.YtkmggglljkmjoaaGreat
open Go.RowKit

theorem quiet_add_left {P : Program} {f : FuncId} {args : Array Value} {w : World} {a n : Nat} {v : Value}
    (h : Calls P f args (w.drewN (a + n)) fun e w' => e = .returned v ∧ w.drewN (a + n) = w') :
    Calls P f args (w.drewN (a + n)) fun e w'' => e = .returned v ∧ ∃ m, w'' = w.drewN (a + m) :=
  h.mono fun _ _ ⟨he, hm⟩ => ⟨he, n, hm.symm⟩

theorem RdL.subI {g off n c B : Nat} {w : World} {l : List Int} (h : RdL FI w B (.slice (some ⟨g, off, none⟩) n c) l) (lo m : Nat) (h1 : lo + m ≤ l.length) : RdL FI w B (.slice (some ⟨g, off + lo, none⟩) m (c - lo)) ((l.drop lo).take m) := by
  obtain ⟨A, cap, hv, a1, a2, a3⟩ := h
  simp only [Value.slice.injEq] at hv
  obtain ⟨rfl, rfl, rfl⟩ := hv
  have hlen : ((l.drop lo).take m).length = m := by rw [List.length_take, List.length_drop]; omega
  refine ⟨_, c - lo, by rw [hlen], by rw [hlen]; omega, by omega, fun hne => ?_⟩
  have hl : l ≠ [] := by
    rintro rfl
    simp at hne
  obtain ⟨g', off', hA, hg, hc⟩ := a3 hl
  injection hA with hA
  injection hA with hA1 hA2
  subst hA1 hA2
  refine ⟨_, _, rfl, hg, fun j u hu => ?_⟩
  have hu' : (flat FI l)[lo + j]? = some u := by
    have e : ∀ q : List Int, flat FI q = q.map fun x => Value.int .i64 x := fun q => by
      induction q with
      | nil => rfl
      | cons z q ih => show FI.enc z ++ flat FI q = _; rw [ih]; rfl
    rw [e] at hu ⊢
    rw [List.getElem?_map, List.getElem?_take] at hu
    split at hu
    · rw [List.getElem?_drop] at hu
      rw [List.getElem?_map]
      exact hu
    · simp at hu
  have := hc _ u hu'
  rwa [← Nat.add_assoc] at this
def gensB (h : Heap) (p : Nat) (c : Int) (k : Nat) : Bool := (List.range k).all fun i => inB 1 7 (loadN h.Bytes ((p * 64 + 8 + i * (strideOf c).toNat : Nat) : Int) 4)
def pageOkB (h : Heap) (p : Nat) : Bool :=
  if h.Class.getD p (-1) < 0 then zerosB ((h.Bytes.drop (p * 64)).take 64)
  else (h.Bytes.getD (p * 64) 0 == 171) && (h.Bytes.getD (p * 64 + 1) 0 == h.Class.getD p (-1)) && (h.Bytes.getD (p * 64 + 2) 0 == perPage (h.Class.getD p (-1))) && zerosB ((h.Bytes.drop (p * 64 + 3)).take 5) && gensB h p (h.Class.getD p (-1)) (perPage (h.Class.getD p (-1))).toNat
def heapOkB (h : Heap) : Bool := shapeB h && (List.range 6).all (pageOkB h)
theorem loadTo_sub (b : List Int) (lo m a k : Nat) (h : a + k ≤ m) (_ : lo + m ≤ b.length) : loadTo ((b.drop lo).take m) a k = loadTo b (lo + a) k := by
  induction k with
  | zero => rfl
  | succ k ih =>
    show loadTo _ a k * 256 + _ = loadTo _ (lo + a) k * 256 + _
    rw [ih (by omega)]
    congr 1
    simp only [List.getD, List.getElem?_take, List.getElem?_drop]
    rw [if_pos (by omega), Nat.add_assoc]
theorem gens_room {c : Int} (hc : inB 0 2 c = true) {i : Nat} (hi : i < (perPage c).toNat) : 8 + i * (strideOf c).toNat + 4 ≤ 64 := by
  rcases cls hc with rfl | rfl | rfl <;> simp [perPage, strideOf] at * <;> omega
theorem gensB_succ (h : Heap) (p : Nat) (c : Int) (k : Nat) : gensB h p c (k + 1) = (gensB h p c k && inB 1 7 (loadN h.Bytes ((p * 64 + 8 + k * (strideOf c).toNat : Nat) : Int) 4)) := by
  unfold gensB
  rw [List.range_succ, List.all_append]
  simp
theorem gensB_no {h : Heap} {p : Nat} {c : Int} {k n : Nat} (hk : k < n) (hn : inB 1 7 (loadN h.Bytes ((p * 64 + 8 + k * (strideOf c).toNat : Nat) : Int) 4) = false) : gensB h p c n = false := by
  unfold gensB
  rw [List.all_eq_false]
  exact ⟨k, List.mem_range.2 hk, by rw [hn]; decide⟩
theorem sub_bytes {b : List Int} (hb : b.all (inB 0 255) = true) (lo m : Nat) : ((b.drop lo).take m).all (inB 0 255) = true := by
  rw [List.all_eq_true] at hb ⊢
  exact fun x hx => hb x (List.mem_of_mem_drop (List.mem_of_mem_take hx))

set_option maxRecDepth 100000 in
set_option maxHeartbeats 4000000 in
theorem pageOk_impl (w : World) (H : HHeap) (x : Heap) (p : Nat) (hp : p < 6) (h : RdHeap w w.heap.size H x) (hs : shapeB x = true) :
    Calls Tryz.prog 196 #[.agg #[.slice H.Bytes.a H.Bytes.len H.Bytes.cap, .slice H.Class.a H.Class.len H.Class.cap], .int .i64 p] w fun e w' => e = .returned (.bool (pageOkB x p)) ∧ Below w.heap.size w w' := by
  obtain ⟨⟨A1, n1, c1⟩, ⟨A2, n2, c2⟩⟩ := H
  obtain ⟨bs, cs⟩ := x
  have hr1 : RdL FI w w.heap.size (.slice A1 n1 c1) bs := h.Bytes
  have hr2 : RdL FI w w.heap.size (.slice A2 n2 c2) cs := h.Class
  obtain ⟨_, _, hv, q1, q2, qx⟩ := id hr1
  simp only [Value.slice.injEq] at hv
  obtain ⟨rfl, rfl, rfl⟩ := hv
  have hlt1 : bs.length ≤ 9223372036854775807 := by unfold maxLen at q2; omega
  clear q1 q2 qx
  obtain ⟨_, _, hv, q1, q2, qx⟩ := id hr2
  simp only [Value.slice.injEq] at hv
  obtain ⟨rfl, rfl, rfl⟩ := hv
  have hlt2 : cs.length ≤ 9223372036854775807 := by unfold maxLen at q2; omega
  clear q1 q2 qx h
  have sh := shape_of hs
  have hl6 := sh.cl
  have hl384 := sh.bl
  have hby := sh.by_
  have hcb := sh.cs p
  simp only at hl6 hl384 hby hcb
  have hpl : p < cs.length := by omega
  have HE := Hid.mk_ (show pageOkB ⟨bs, cs⟩ p = (if cs.getD p (-1) < 0 then zerosB ((bs.drop (p * 64)).take 64) else (bs.getD (p * 64) 0 == 171) && (bs.getD (p * 64 + 1) 0 == cs.getD p (-1)) && (bs.getD (p * 64 + 2) 0 == perPage (cs.getD p (-1))) && zerosB ((bs.drop (p * 64 + 3)).take 5) && gensB ⟨bs, cs⟩ p (cs.getD p (-1)) (perPage (cs.getD p (-1))).toNat) from rfl)
  show Calls Tryz.prog 196 #[.agg #[.slice A1 bs.length c1, .slice A2 cs.length c2], .int .i64 p] _ _
  obtain ⟨g2, off2, cap2, he, hg2, _, _, hc2⟩ := hr2.at_ (show cs[p]? = some (cs.getD p (-1)) by rw [getD_at hpl]; exact List.getElem?_eq_getElem hpl)
  injection he with he1 he2 he3
  clear he2
  subst he1 he3
  have p0 : w.cell? ⟨g2, off2 + p, none⟩ = some (.int .i64 (cs.getD p (-1))) := by simpa [FI] using hc2 0 _ rfl
  clear hc2
  have HG := Hid.mk_ (fun c k => gensB_succ ⟨bs, cs⟩ p c k)
  have HG2 := Hid.mk_ (fun c k n => gensB_no (h := ⟨bs, cs⟩) (p := p) (c := c) (k := k) (n := n))
  have HR := Hid.mk_ (fun c hc i => gens_room (c := c) hc (i := i))
  generalize cs.getD p (-1) = c at p0 hcb HE
  obtain ⟨g1, off1, cap1, he, hg1, hcc1, hcc2, hc1⟩ := hr1.at_ (show bs[p * 64]? = some (bs.getD (p * 64) 0) by rw [getD_at (by omega)]; exact List.getElem?_eq_getElem (by omega))
  injection he with he1 he2 he3
  clear he2
  subst he1 he3
  have x0 : w.cell? ⟨g1, off1 + p * 64, none⟩ = some (.int .i64 (bs.getD (p * 64) 0)) := by simpa [FI] using hc1 0 _ rfl
  obtain ⟨g1', off1', cap1', he, _, _, _, hc1⟩ := hr1.at_ (show bs[p * 64 + 1]? = some (bs.getD (p * 64 + 1) 0) by rw [getD_at (by omega)]; exact List.getElem?_eq_getElem (by omega))
  injection he with he1 he2 he3
  injection he1 with he1
  injection he1 with he1 he4
  subst he1 he3 he4
  have x1 : w.cell? ⟨g1, off1 + (p * 64 + 1), none⟩ = some (.int .i64 (bs.getD (p * 64 + 1) 0)) := by simpa [FI] using hc1 0 _ rfl
  obtain ⟨g1', off1', cap1', he, _, _, _, hc1⟩ := hr1.at_ (show bs[p * 64 + 2]? = some (bs.getD (p * 64 + 2) 0) by rw [getD_at (by omega)]; exact List.getElem?_eq_getElem (by omega))
  injection he with he1 he2 he3
  injection he1 with he1
  injection he1 with he1 he4
  subst he1 he3 he4
  have x2 : w.cell? ⟨g1, off1 + (p * 64 + 2), none⟩ = some (.int .i64 (bs.getD (p * 64 + 2) 0)) := by simpa [FI] using hc1 0 _ rfl
  clear hc1 he2 sh hs
  have hrz := hr1.subI (p * 64) 64 (by omega)
  have hrf := hr1.subI (p * 64 + 3) 5 (by omega)
  rw [← Nat.add_assoc, Nat.sub_add_eq] at hrf
  have hb384 : 384 ≤ bs.length := by omega
  have hb6 : 6 ≤ cs.length := by omega
  clear hl384 hl6
  have x1' : w.cell? ⟨g1, off1 + p * 64 + 1, none⟩ = some (.int .i64 (bs.getD (p * 64 + 1) 0)) := by rw [Nat.add_assoc]; exact x1
  have x2' : w.cell? ⟨g1, off1 + p * 64 + 2, none⟩ = some (.int .i64 (bs.getD (p * 64 + 2) 0)) := by rw [Nat.add_assoc]; exact x2
  generalize bs.getD (p * 64) 0 = y0 at x0 HE
  generalize bs.getD (p * 64 + 1) 0 = y1 at x1 x1' HE
  generalize bs.getD (p * 64 + 2) 0 = y2 at x2 x2' HE

  have HLS := Hid.mk_ (fun q (hq : q + 4 ≤ 64) => loadTo_sub bs (p * 64) 64 q 4 hq (by omega))
  have hby2 := sub_bytes hby (p * 64) 64
  have e1 : (p : Int) * 64 = ((p * 64 : Nat) : Int) := by omega
  have e2 : ((p : Int) + 1) * 64 = ((p * 64 + 64 : Nat) : Int) := by omega
  have ha : p * 64 + 64 ≤ bs.length := by omega
  have hl64 : ((bs.drop (p * 64)).take 64).length = 64 := by rw [List.length_take, List.length_drop]; omega
  have HL64 := Hid.mk_ hl64
  clear hl64
  generalize p * 64 = a at *
  by_cases k0 : c < 0
  · have hd0 : decide (c < 0) = true := by simpa using k0
    rw [if_pos k0] at HE
    clear HG HG2 HR HLS
    go_enter Tryz.func196, Tryz.ntmps196
    go_wp2
    go_quiet (fail)
    go_wp2_with fail
    refine (isZero_impl _ _ _ (rd_up hrz (by repeat (first | exact Below.refl _ _ | refine Below.alloc ?_ (by simp <;> omega) _ | refine below_grow_of ?_ (by simp <;> omega) _ _ | refine Below.drew ?_ | refine below_drewN ?_ _)))).mono ?_
    rintro e w1 ⟨rfl, rfl⟩
    go_wp2
    go_ret
    exact ⟨ret_bool HE.out.symm, by repeat (first | exact Below.refl _ _ | refine Below.alloc ?_ (by simp <;> omega) _ | refine below_grow_of ?_ (by simp <;> omega) _ _ | refine Below.drew ?_ | refine below_drewN ?_ _)⟩
  rw [if_neg k0] at HE
  have hd0 : decide (c < 0) = false := by simpa using k0
  have hc : inB 0 2 c = true := inB_iff.2 ⟨by omega, hcb.2⟩
  by_cases k1 : y0 = 171
  case neg =>
    have k1' : (y0 != 171) = true := by simpa using k1
    have K1 := Hid.mk_ (show (y0 == 171) = false by simpa using k1)
    clear k1 HG HG2 HR HLS
    have h64 : a + 64 - a = 64 := by omega
    go_enter Tryz.func196, Tryz.ntmps196
    go_wp2
    go_quiet (fail)
    go_wp2
    go_quiet ((first | (go_at_call 179; exact quiet_add_left (PerPage_impl _ _)) | (go_at_call 228; exact quiet_add_left (isZero_impl _ _ _ (rd_up hrf (by repeat (first | exact Below.refl _ _ | refine Below.alloc ?_ (by simp <;> omega) _ | refine below_grow_of ?_ (by simp <;> omega) _ _ | refine Below.drew ?_ | refine below_drewN ?_ _)))))))
    go_wp2
    go_ret
    exact ⟨ret_bool (by rw [HE.out]; rw [K1.out]; simp), by repeat (first | exact Below.refl _ _ | refine Below.alloc ?_ (by simp <;> omega) _ | refine below_grow_of ?_ (by simp <;> omega) _ _ | refine Below.drew ?_ | refine below_drewN ?_ _)⟩
  subst k1
  by_cases k2 : y1 = c
  case neg =>
    have k2' : (y1 != c) = true := by simpa using k2
    have K2 := Hid.mk_ (show (y1 == c) = false by simpa using k2)
    clear k2 HG HG2 HR HLS
    have h64 : a + 64 - a = 64 := by omega
    go_enter Tryz.func196, Tryz.ntmps196
    go_wp2
    go_quiet (fail)
    go_wp2
    go_quiet ((first | (go_at_call 179; exact quiet_add_left (PerPage_impl _ _)) | (go_at_call 228; exact quiet_add_left (isZero_impl _ _ _ (rd_up hrf (by repeat (first | exact Below.refl _ _ | refine Below.alloc ?_ (by simp <;> omega) _ | refine below_grow_of ?_ (by simp <;> omega) _ _ | refine Below.drew ?_ | refine below_drewN ?_ _)))))))
    go_wp2
    go_ret
    exact ⟨ret_bool (by rw [HE.out]; rw [K2.out]; simp), by repeat (first | exact Below.refl _ _ | refine Below.alloc ?_ (by simp <;> omega) _ | refine below_grow_of ?_ (by simp <;> omega) _ _ | refine Below.drew ?_ | refine below_drewN ?_ _)⟩
  subst k2
  by_cases k3 : y2 = perPage y1
  case neg =>
    have k3' : (y2 != perPage y1) = true := by simpa using k3
    have K3 := Hid.mk_ (show (y2 == perPage y1) = false by simpa using k3)
    clear k3 HG HG2 HR HLS
    have h64 : a + 64 - a = 64 := by omega
    go_enter Tryz.func196, Tryz.ntmps196
    go_wp2
    go_quiet (fail)
    go_wp2
    go_quiet ((first | (go_at_call 179; exact quiet_add_left (PerPage_impl _ _)) | (go_at_call 228; exact quiet_add_left (isZero_impl _ _ _ (rd_up hrf (by repeat (first | exact Below.refl _ _ | refine Below.alloc ?_ (by simp <;> omega) _ | refine below_grow_of ?_ (by simp <;> omega) _ _ | refine Below.drew ?_ | refine below_drewN ?_ _)))))))
    go_wp2
    go_ret
    exact ⟨ret_bool (by rw [HE.out]; rw [K3.out]; simp), by repeat (first | exact Below.refl _ _ | refine Below.alloc ?_ (by simp <;> omega) _ | refine below_grow_of ?_ (by simp <;> omega) _ _ | refine Below.drew ?_ | refine below_drewN ?_ _)⟩
  subst k3
  by_cases k4 : zerosB ((bs.drop (a + 3)).take 5) = true
  case neg =>
    have k4' : zerosB ((bs.drop (a + 3)).take 5) = false := (Bool.not_eq_true _).mp k4
    have K4 := Hid.mk_ k4'
    clear k4 HG HG2 HR HLS
    have h64 : a + 64 - a = 64 := by omega
    go_enter Tryz.func196, Tryz.ntmps196
    go_wp2
    go_quiet (fail)
    go_wp2
    go_quiet ((first | (go_at_call 179; exact quiet_add_left (PerPage_impl _ _)) | (go_at_call 228; exact quiet_add_left (isZero_impl _ _ _ (rd_up hrf (by repeat (first | exact Below.refl _ _ | refine Below.alloc ?_ (by simp <;> omega) _ | refine below_grow_of ?_ (by simp <;> omega) _ _ | refine Below.drew ?_ | refine below_drewN ?_ _)))))))
    go_wp2
    go_ret
    exact ⟨ret_bool (by rw [HE.out]; rw [K4.out]; simp), by repeat (first | exact Below.refl _ _ | refine Below.alloc ?_ (by simp <;> omega) _ | refine below_grow_of ?_ (by simp <;> omega) _ _ | refine Below.drew ?_ | refine below_drewN ?_ _)⟩
  have HF := Hid.mk_ (show pageOkB ⟨bs, cs⟩ p = gensB ⟨bs, cs⟩ p y1 (perPage y1).toNat by rw [HE.out, k4]; simp)
  clear HE
  rcases cls hc with rfl | rfl | rfl
  · have hper : perPage 0 = 4 := rfl
    have hst : strideOf 0 = 12 := rfl
    rw [hper] at x2 x2'
    have HF' := Hid.mk_ (show pageOkB ⟨bs, cs⟩ p = gensB ⟨bs, cs⟩ p 0 4 from HF.out)
    clear HF hc hcb k0
    have h64 : a + 64 - a = 64 := by omega
    go_enter Tryz.func196, Tryz.ntmps196
    go_wp2
    go_quiet (fail)
    go_wp2
    go_quiet ((first | (go_at_call 179; exact quiet_add_left ((PerPage_impl 0 _).mono fun e w' ⟨u, v⟩ => ⟨by rw [u, hper], v⟩)) | (go_at_call 228; exact quiet_add_left (isZero_impl _ _ _ (rd_up hrf (by repeat (first | exact Below.refl _ _ | refine Below.alloc ?_ (by simp <;> omega) _ | refine below_grow_of ?_ (by simp <;> omega) _ _ | refine Below.drew ?_ | refine below_drewN ?_ _)))))))
    go_wp2_with (go_at_call 179; refine (PerPage_impl _ _).mono ?_; rw [hper]; rintro e w2 ⟨rfl, rfl⟩)
    go_loop [7, 52] (fun _ i => ∃ k : Nat, k ≤ 4 ∧ i = .int .i64 k ∧ Hid (gensB ⟨bs, cs⟩ p 0 k = true)) (fun _ i => 4 - (intOf i).toNat)
    case atStart => exact ⟨0, Nat.zero_le _, rfl, rfl⟩
    case round =>
      obtain ⟨i, hi, rfl, HT⟩ := hrel
      by_cases hlt : i < 4
      · have HV := Hid.mk_ (show loadN ((bs.drop a).take 64) (8 + (i : Int) * 12) 4 = loadN bs ((a + 8 + i * 12 : Nat) : Int) 4 by
          have u := HLS.out (8 + i * 12) (by omega)
          unfold loadN
          rw [show (8 + (i : Int) * 12).toNat = 8 + i * 12 by omega, show (((a + 8 + i * 12 : Nat) : Int)).toNat = a + (8 + i * 12) by omega]
          exact u)
        have HS := Hid.mk_ (show gensB ⟨bs, cs⟩ p 0 (i + 1) = (gensB ⟨bs, cs⟩ p 0 i && inB 1 7 (loadN bs ((a + 8 + i * 12 : Nat) : Int) 4)) from HG.out 0 i)
        have HNo := Hid.mk_ (show inB 1 7 (loadN bs ((a + 8 + i * 12 : Nat) : Int) 4) = false → gensB ⟨bs, cs⟩ p 0 4 = false from HG2.out 0 i 4 hlt)
        generalize loadN bs ((a + 8 + i * 12 : Nat) : Int) 4 = z at HV HS HNo
        by_cases k5 : inB 1 7 z = true
        · have HN := Hid.mk_ (show gensB ⟨bs, cs⟩ p 0 (i + 1) = true by rw [HS.out, HT.out, k5]; rfl)
          go_wp2_with (first | (go_at_call 180; refine (StrideOf_impl _ _).mono ?_; rw [hst]; rintro e w2 ⟨rfl, rfl⟩) | (go_at_call 90; refine (loadNum_impl _ _ ((bs.drop a).take 64) (8 + (i : Int) * 12) 4 (rd_up hrz (by repeat (first | exact Below.refl _ _ | refine Below.alloc ?_ (by simp <;> omega) _ | refine below_grow_of ?_ (by simp <;> omega) _ _ | refine Below.drew ?_ | refine below_drewN ?_ _))) (by omega) (by decide) (by decide) (by rw [HL64.out]; omega) hby2).mono ?_; rw [HV.out]; rintro e w2 ⟨rfl, rfl⟩) | (go_at_call 154; refine (within_ct _ _ _ _).mono ?_; rintro e w1 ⟨rfl, rfl⟩))
          go_round
          case rel => exact ⟨i + 1, by omega, by go_num, HN⟩
          case measure => simp [intOf]; omega
        · have k5' : inB 1 7 z = false := (Bool.not_eq_true _).mp k5
          have HN := Hid.mk_ (HNo.out k5')
          clear k5
          go_wp2_with (first | (go_at_call 180; refine (StrideOf_impl _ _).mono ?_; rw [hst]; rintro e w2 ⟨rfl, rfl⟩) | (go_at_call 90; refine (loadNum_impl _ _ ((bs.drop a).take 64) (8 + (i : Int) * 12) 4 (rd_up hrz (by repeat (first | exact Below.refl _ _ | refine Below.alloc ?_ (by simp <;> omega) _ | refine below_grow_of ?_ (by simp <;> omega) _ _ | refine Below.drew ?_ | refine below_drewN ?_ _))) (by omega) (by decide) (by decide) (by rw [HL64.out]; omega) hby2).mono ?_; rw [HV.out]; rintro e w2 ⟨rfl, rfl⟩) | (go_at_call 154; refine (within_ct _ _ _ _).mono ?_; rintro e w1 ⟨rfl, rfl⟩))
          go_ret
          exact ⟨ret_bool (by rw [HF'.out, HN.out]), by repeat (first | exact Below.refl _ _ | refine Below.alloc ?_ (by simp <;> omega) _ | refine below_grow_of ?_ (by simp <;> omega) _ _ | refine Below.drew ?_ | refine below_drewN ?_ _)⟩
      · obtain rfl : i = 4 := by omega
        go_wp2
        go_ret
        exact ⟨ret_bool (by rw [HF'.out, HT.out]), by repeat (first | exact Below.refl _ _ | refine Below.alloc ?_ (by simp <;> omega) _ | refine below_grow_of ?_ (by simp <;> omega) _ _ | refine Below.drew ?_ | refine below_drewN ?_ _)⟩
  · have hper : perPage 1 = 2 := rfl
    have hst : strideOf 1 = 20 := rfl
    rw [hper] at x2 x2'
    have HF' := Hid.mk_ (show pageOkB ⟨bs, cs⟩ p = gensB ⟨bs, cs⟩ p 1 2 from HF.out)
    clear HF hc hcb k0
    have h64 : a + 64 - a = 64 := by omega
    go_enter Tryz.func196, Tryz.ntmps196
    go_wp2
    go_quiet (fail)
    go_wp2
    go_quiet ((first | (go_at_call 179; exact quiet_add_left ((PerPage_impl 1 _).mono fun e w' ⟨u, v⟩ => ⟨by rw [u, hper], v⟩)) | (go_at_call 228; exact quiet_add_left (isZero_impl _ _ _ (rd_up hrf (by repeat (first | exact Below.refl _ _ | refine Below.alloc ?_ (by simp <;> omega) _ | refine below_grow_of ?_ (by simp <;> omega) _ _ | refine Below.drew ?_ | refine below_drewN ?_ _)))))))
    go_wp2_with (go_at_call 179; refine (PerPage_impl _ _).mono ?_; rw [hper]; rintro e w2 ⟨rfl, rfl⟩)
    go_loop [7, 52] (fun _ i => ∃ k : Nat, k ≤ 2 ∧ i = .int .i64 k ∧ Hid (gensB ⟨bs, cs⟩ p 1 k = true)) (fun _ i => 2 - (intOf i).toNat)
    case atStart => exact ⟨0, Nat.zero_le _, rfl, rfl⟩
    case round =>
      obtain ⟨i, hi, rfl, HT⟩ := hrel
      by_cases hlt : i < 2
      · have HV := Hid.mk_ (show loadN ((bs.drop a).take 64) (8 + (i : Int) * 20) 4 = loadN bs ((a + 8 + i * 20 : Nat) : Int) 4 by
          have u := HLS.out (8 + i * 20) (by omega)
          unfold loadN
          rw [show (8 + (i : Int) * 20).toNat = 8 + i * 20 by omega, show (((a + 8 + i * 20 : Nat) : Int)).toNat = a + (8 + i * 20) by omega]
          exact u)
        have HS := Hid.mk_ (show gensB ⟨bs, cs⟩ p 1 (i + 1) = (gensB ⟨bs, cs⟩ p 1 i && inB 1 7 (loadN bs ((a + 8 + i * 20 : Nat) : Int) 4)) from HG.out 1 i)
        have HNo := Hid.mk_ (show inB 1 7 (loadN bs ((a + 8 + i * 20 : Nat) : Int) 4) = false → gensB ⟨bs, cs⟩ p 1 2 = false from HG2.out 1 i 2 hlt)
        generalize loadN bs ((a + 8 + i * 20 : Nat) : Int) 4 = z at HV HS HNo
        by_cases k5 : inB 1 7 z = true
        · have HN := Hid.mk_ (show gensB ⟨bs, cs⟩ p 1 (i + 1) = true by rw [HS.out, HT.out, k5]; rfl)
          go_wp2_with (first | (go_at_call 180; refine (StrideOf_impl _ _).mono ?_; rw [hst]; rintro e w2 ⟨rfl, rfl⟩) | (go_at_call 90; refine (loadNum_impl _ _ ((bs.drop a).take 64) (8 + (i : Int) * 20) 4 (rd_up hrz (by repeat (first | exact Below.refl _ _ | refine Below.alloc ?_ (by simp <;> omega) _ | refine below_grow_of ?_ (by simp <;> omega) _ _ | refine Below.drew ?_ | refine below_drewN ?_ _))) (by omega) (by decide) (by decide) (by rw [HL64.out]; omega) hby2).mono ?_; rw [HV.out]; rintro e w2 ⟨rfl, rfl⟩) | (go_at_call 154; refine (within_ct _ _ _ _).mono ?_; rintro e w1 ⟨rfl, rfl⟩))
          go_round
          case rel => exact ⟨i + 1, by omega, by go_num, HN⟩
          case measure => simp [intOf]; omega
        · have k5' : inB 1 7 z = false := (Bool.not_eq_true _).mp k5
          have HN := Hid.mk_ (HNo.out k5')
          clear k5
          go_wp2_with (first | (go_at_call 180; refine (StrideOf_impl _ _).mono ?_; rw [hst]; rintro e w2 ⟨rfl, rfl⟩) | (go_at_call 90; refine (loadNum_impl _ _ ((bs.drop a).take 64) (8 + (i : Int) * 20) 4 (rd_up hrz (by repeat (first | exact Below.refl _ _ | refine Below.alloc ?_ (by simp <;> omega) _ | refine below_grow_of ?_ (by simp <;> omega) _ _ | refine Below.drew ?_ | refine below_drewN ?_ _))) (by omega) (by decide) (by decide) (by rw [HL64.out]; omega) hby2).mono ?_; rw [HV.out]; rintro e w2 ⟨rfl, rfl⟩) | (go_at_call 154; refine (within_ct _ _ _ _).mono ?_; rintro e w1 ⟨rfl, rfl⟩))
          go_ret
          exact ⟨ret_bool (by rw [HF'.out, HN.out]), by repeat (first | exact Below.refl _ _ | refine Below.alloc ?_ (by simp <;> omega) _ | refine below_grow_of ?_ (by simp <;> omega) _ _ | refine Below.drew ?_ | refine below_drewN ?_ _)⟩
      · obtain rfl : i = 2 := by omega
        go_wp2
        go_ret
        exact ⟨ret_bool (by rw [HF'.out, HT.out]), by repeat (first | exact Below.refl _ _ | refine Below.alloc ?_ (by simp <;> omega) _ | refine below_grow_of ?_ (by simp <;> omega) _ _ | refine Below.drew ?_ | refine below_drewN ?_ _)⟩
  · have hper : perPage 2 = 1 := rfl
    have hst : strideOf 2 = 44 := rfl
    rw [hper] at x2 x2'
    have HF' := Hid.mk_ (show pageOkB ⟨bs, cs⟩ p = gensB ⟨bs, cs⟩ p 2 1 from HF.out)
    clear HF hc hcb k0
    have h64 : a + 64 - a = 64 := by omega
    go_enter Tryz.func196, Tryz.ntmps196
    go_wp2
    go_quiet (fail)
    go_wp2
    go_quiet ((first | (go_at_call 179; exact quiet_add_left ((PerPage_impl 2 _).mono fun e w' ⟨u, v⟩ => ⟨by rw [u, hper], v⟩)) | (go_at_call 228; exact quiet_add_left (isZero_impl _ _ _ (rd_up hrf (by repeat (first | exact Below.refl _ _ | refine Below.alloc ?_ (by simp <;> omega) _ | refine below_grow_of ?_ (by simp <;> omega) _ _ | refine Below.drew ?_ | refine below_drewN ?_ _)))))))
    go_wp2_with (go_at_call 179; refine (PerPage_impl _ _).mono ?_; rw [hper]; rintro e w2 ⟨rfl, rfl⟩)
    go_loop [7, 52] (fun _ i => ∃ k : Nat, k ≤ 1 ∧ i = .int .i64 k ∧ Hid (gensB ⟨bs, cs⟩ p 2 k = true)) (fun _ i => 1 - (intOf i).toNat)
    case atStart => exact ⟨0, Nat.zero_le _, rfl, rfl⟩
    case round =>
      obtain ⟨i, hi, rfl, HT⟩ := hrel
      by_cases hlt : i < 1
      · have HV := Hid.mk_ (show loadN ((bs.drop a).take 64) (8 + (i : Int) * 44) 4 = loadN bs ((a + 8 + i * 44 : Nat) : Int) 4 by
          have u := HLS.out (8 + i * 44) (by omega)
          unfold loadN
          rw [show (8 + (i : Int) * 44).toNat = 8 + i * 44 by omega, show (((a + 8 + i * 44 : Nat) : Int)).toNat = a + (8 + i * 44) by omega]
          exact u)
        have HS := Hid.mk_ (show gensB ⟨bs, cs⟩ p 2 (i + 1) = (gensB ⟨bs, cs⟩ p 2 i && inB 1 7 (loadN bs ((a + 8 + i * 44 : Nat) : Int) 4)) from HG.out 2 i)
        have HNo := Hid.mk_ (show inB 1 7 (loadN bs ((a + 8 + i * 44 : Nat) : Int) 4) = false → gensB ⟨bs, cs⟩ p 2 1 = false from HG2.out 2 i 1 hlt)
        generalize loadN bs ((a + 8 + i * 44 : Nat) : Int) 4 = z at HV HS HNo
        by_cases k5 : inB 1 7 z = true
        · have HN := Hid.mk_ (show gensB ⟨bs, cs⟩ p 2 (i + 1) = true by rw [HS.out, HT.out, k5]; rfl)
          go_wp2_with (first | (go_at_call 180; refine (StrideOf_impl _ _).mono ?_; rw [hst]; rintro e w2 ⟨rfl, rfl⟩) | (go_at_call 90; refine (loadNum_impl _ _ ((bs.drop a).take 64) (8 + (i : Int) * 44) 4 (rd_up hrz (by repeat (first | exact Below.refl _ _ | refine Below.alloc ?_ (by simp <;> omega) _ | refine below_grow_of ?_ (by simp <;> omega) _ _ | refine Below.drew ?_ | refine below_drewN ?_ _))) (by omega) (by decide) (by decide) (by rw [HL64.out]; omega) hby2).mono ?_; rw [HV.out]; rintro e w2 ⟨rfl, rfl⟩) | (go_at_call 154; refine (within_ct _ _ _ _).mono ?_; rintro e w1 ⟨rfl, rfl⟩))
          go_round
          case rel => exact ⟨i + 1, by omega, by go_num, HN⟩
          case measure => simp [intOf]; omega
        · have k5' : inB 1 7 z = false := (Bool.not_eq_true _).mp k5
          have HN := Hid.mk_ (HNo.out k5')
          clear k5
          go_wp2_with (first | (go_at_call 180; refine (StrideOf_impl _ _).mono ?_; rw [hst]; rintro e w2 ⟨rfl, rfl⟩) | (go_at_call 90; refine (loadNum_impl _ _ ((bs.drop a).take 64) (8 + (i : Int) * 44) 4 (rd_up hrz (by repeat (first | exact Below.refl _ _ | refine Below.alloc ?_ (by simp <;> omega) _ | refine below_grow_of ?_ (by simp <;> omega) _ _ | refine Below.drew ?_ | refine below_drewN ?_ _))) (by omega) (by decide) (by decide) (by rw [HL64.out]; omega) hby2).mono ?_; rw [HV.out]; rintro e w2 ⟨rfl, rfl⟩) | (go_at_call 154; refine (within_ct _ _ _ _).mono ?_; rintro e w1 ⟨rfl, rfl⟩))
          go_ret
          exact ⟨ret_bool (by rw [HF'.out, HN.out]), by repeat (first | exact Below.refl _ _ | refine Below.alloc ?_ (by simp <;> omega) _ | refine below_grow_of ?_ (by simp <;> omega) _ _ | refine Below.drew ?_ | refine below_drewN ?_ _)⟩
      · obtain rfl : i = 1 := by omega
        go_wp2
        go_ret
        exact ⟨ret_bool (by rw [HF'.out, HT.out]), by repeat (first | exact Below.refl _ _ | refine Below.alloc ?_ (by simp <;> omega) _ | refine below_grow_of ?_ (by simp <;> omega) _ _ | refine Below.drew ?_ | refine below_drewN ?_ _)⟩
end Go.Proofs.YtkmggglljkmjoaaGreat

/-
  Heaps: pages, the reference.
-/
namespace Go.Proofs.YtkmggglljkmjoaaGreat
open Go.RowKit

set_option maxHeartbeats 1000000 in
theorem SlotAt_spec (p i : Int) (w : World) : Calls Tryz.prog 202 #[.int .i64 p, .int .i64 i] w fun e w' => e = .returned (.int .i64 (slotAtP p i)) ∧ w = w' := by
  by_cases h1 : inB 0 5 p = true
  case neg =>
    have h1' : inB 0 5 p = false := (Bool.not_eq_true _).mp h1
    have HS := Hid.mk_ (show slotAtP p i = -1 from if_neg (fun hh => h1 hh.1))
    clear h1
    go_enter Tryz.func202, Tryz.ntmps202
    go_wp2_with (go_at_call 102; refine (l1In_ct _ _ _ _).mono ?_; rintro e w1 ⟨rfl, rfl⟩)
    go_ret
    exact ⟨ret_i64 HS.out.symm, rfl⟩
  by_cases h2 : inB 0 3 i = true
  case neg =>
    have h2' : inB 0 3 i = false := (Bool.not_eq_true _).mp h2
    have HS := Hid.mk_ (show slotAtP p i = -1 from if_neg (fun hh => h2 hh.2))
    clear h2
    go_enter Tryz.func202, Tryz.ntmps202
    go_wp2_with (go_at_call 102; refine (l1In_ct _ _ _ _).mono ?_; rintro e w1 ⟨rfl, rfl⟩)
    go_ret
    exact ⟨ret_i64 HS.out.symm, rfl⟩
  have HS := Hid.mk_ (show slotAtP p i = p * 4 + i from if_pos ⟨h1, h2⟩)
  obtain ⟨a1, a2⟩ := inB_iff.1 h1
  obtain ⟨b1, b2⟩ := inB_iff.1 h2
  go_enter Tryz.func202, Tryz.ntmps202
  go_wp2_with (go_at_call 102; refine (l1In_ct _ _ _ _).mono ?_; rintro e w1 ⟨rfl, rfl⟩)
  go_ret
  exact ⟨ret_i64 HS.out.symm, rfl⟩
theorem zeros_step {b : List Int} {lo m : Nat} (h1 : lo ≤ m) (h2 : m < b.length) (hz : zerosB ((b.drop lo).take (m - lo)) = true) (h0 : b.getD m 0 = 0) : zerosB ((b.drop lo).take (m + 1 - lo)) = true := by
  unfold zerosB at *
  rw [show m + 1 - lo = (m - lo) + 1 by omega, List.take_succ_eq_append_getElem (by rw [List.length_drop]; omega), List.all_append, hz]
  rw [getD_at h2] at h0
  simp only [List.getElem_drop, List.all_cons, List.all_nil, Bool.and_true, Bool.true_and]
  rw [show b[lo + (m - lo)] = b[m] by congr 1; omega, h0]
  rfl
theorem zeros_no {b : List Int} {lo n m : Nat} (h1 : lo ≤ m) (h2 : m < b.length) (h3 : m < lo + n) (h0 : b.getD m 0 ≠ 0) : zerosB ((b.drop lo).take n) = false := by
  unfold zerosB
  rw [List.all_eq_false]
  refine ⟨b[m], ?_, ?_⟩
  · rw [List.mem_take_iff_getElem]
    refine ⟨m - lo, by rw [List.length_drop]; omega, ?_⟩
    rw [List.getElem_drop]
    congr 1
    omega
  · rw [getD_at h2] at h0
    simpa using h0
theorem genAt_page {p i : Nat} {c : Int} (hp : p < 6) (hc : inB 0 2 c = true) (hi : i < (perPage c).toNat) : genAt (slotAtP p i) c = ((p * 64 + 8 + i * (strideOf c).toNat : Nat) : Int) := by
  have a := perPage_bd c
  have e : slotAtP p i = (p : Int) * 4 + i := if_pos ⟨inB_iff.2 ⟨by omega, by omega⟩, inB_iff.2 ⟨by omega, by omega⟩⟩
  have e1 : ((p : Int) * 4 + i) / 4 = p := by omega
  have e2 : ((p : Int) * 4 + i) % 4 = i := by omega
  rw [e, genAt_yes (inB_iff.2 ⟨by omega, by omega⟩) hc (by rw [e2]; omega), e1, e2]
  rcases cls hc with rfl | rfl | rfl
  · show (p : Int) * 64 + 8 + i * 12 = ((p * 64 + 8 + i * 12 : Nat) : Int)
    omega
  · show (p : Int) * 64 + 8 + i * 20 = ((p * 64 + 8 + i * 20 : Nat) : Int)
    omega
  · show (p : Int) * 64 + 8 + i * 44 = ((p * 64 + 8 + i * 44 : Nat) : Int)
    omega

theorem quiet_left {P : Program} {f : FuncId} {args : Array Value} {w : World} {n : Nat} {v : Value}
    (h : Calls P f args (w.drewN n) fun e w' => e = .returned v ∧ w.drewN n = w') : Calls P f args (w.drewN n) fun e w'' => e = .returned v ∧ ∃ m, w'' = w.drewN m :=
  h.mono fun _ _ ⟨he, hm⟩ => ⟨he, n, hm.symm⟩
set_option maxRecDepth 100000 in
set_option maxHeartbeats 4000000 in
theorem l7Page_spec (w : World) (H : HHeap) (x : Heap) (p : Nat) (hp : p < 6) (h : RdHeap w w.heap.size H x) (hs : shapeB x = true) :
    Calls Tryz.prog 145 #[.agg #[.slice H.Bytes.a H.Bytes.len H.Bytes.cap, .slice H.Class.a H.Class.len H.Class.cap], .int .i64 p] w fun e w' => e = .returned (.bool (pageOkB x p)) ∧ Below w.heap.size w w' := by
  obtain ⟨⟨A1, n1, c1⟩, ⟨A2, n2, c2⟩⟩ := H
  obtain ⟨bs, cs⟩ := x
  have hr1 : RdL FI w w.heap.size (.slice A1 n1 c1) bs := h.Bytes
  have hr2 : RdL FI w w.heap.size (.slice A2 n2 c2) cs := h.Class
  obtain ⟨_, _, hv, q1, q2, qx⟩ := id hr1
  simp only [Value.slice.injEq] at hv
  obtain ⟨rfl, rfl, rfl⟩ := hv
  have hlt1 : bs.length ≤ 9223372036854775807 := by unfold maxLen at q2; omega
  clear q1 q2 qx
  obtain ⟨_, _, hv, q1, q2, qx⟩ := id hr2
  simp only [Value.slice.injEq] at hv
  obtain ⟨rfl, rfl, rfl⟩ := hv
  have hlt2 : cs.length ≤ 9223372036854775807 := by unfold maxLen at q2; omega
  clear q1 q2 qx h
  have sh := shape_of hs
  have hl6 := sh.cl
  have hl384 := sh.bl
  have hby := sh.by_
  have hcb := sh.cs p
  simp only at hl6 hl384 hby hcb
  have hpl : p < cs.length := by omega
  have HE := Hid.mk_ (show pageOkB ⟨bs, cs⟩ p = (if cs.getD p (-1) < 0 then zerosB ((bs.drop (p * 64)).take 64) else (bs.getD (p * 64) 0 == 171) && (bs.getD (p * 64 + 1) 0 == cs.getD p (-1)) && (bs.getD (p * 64 + 2) 0 == perPage (cs.getD p (-1))) && zerosB ((bs.drop (p * 64 + 3)).take 5) && gensB ⟨bs, cs⟩ p (cs.getD p (-1)) (perPage (cs.getD p (-1))).toNat) from rfl)
  show Calls Tryz.prog 145 #[.agg #[.slice A1 bs.length c1, .slice A2 cs.length c2], .int .i64 p] _ _
  obtain ⟨g2, off2, cap2, he, hg2, _, _, hc2⟩ := hr2.at_ (show cs[p]? = some (cs.getD p (-1)) by rw [getD_at hpl]; exact List.getElem?_eq_getElem hpl)
  injection he with he1 he2 he3
  clear he2
  subst he1 he3
  have p0 : w.cell? ⟨g2, off2 + p, none⟩ = some (.int .i64 (cs.getD p (-1))) := by simpa [FI] using hc2 0 _ rfl
  clear hc2
  have HG := Hid.mk_ (fun c k => gensB_succ ⟨bs, cs⟩ p c k)
  have HG2 := Hid.mk_ (fun c k n => gensB_no (h := ⟨bs, cs⟩) (p := p) (c := c) (k := k) (n := n))
  have HR := Hid.mk_ (fun c hc i => gens_room (c := c) hc (i := i))
  generalize cs.getD p (-1) = c at p0 hcb HE
  obtain ⟨g1, off1, cap1, he, hg1, hcc1, hcc2, hc1⟩ := hr1.at_ (show bs[p * 64]? = some (bs.getD (p * 64) 0) by rw [getD_at (by omega)]; exact List.getElem?_eq_getElem (by omega))
  injection he with he1 he2 he3
  clear he2
  subst he1 he3
  have x0 : w.cell? ⟨g1, off1 + p * 64, none⟩ = some (.int .i64 (bs.getD (p * 64) 0)) := by simpa [FI] using hc1 0 _ rfl
  obtain ⟨g1', off1', cap1', he, _, _, _, hc1⟩ := hr1.at_ (show bs[p * 64 + 1]? = some (bs.getD (p * 64 + 1) 0) by rw [getD_at (by omega)]; exact List.getElem?_eq_getElem (by omega))
  injection he with he1 he2 he3
  injection he1 with he1
  injection he1 with he1 he4
  subst he1 he3 he4
  have x1 : w.cell? ⟨g1, off1 + (p * 64 + 1), none⟩ = some (.int .i64 (bs.getD (p * 64 + 1) 0)) := by simpa [FI] using hc1 0 _ rfl
  obtain ⟨g1', off1', cap1', he, _, _, _, hc1⟩ := hr1.at_ (show bs[p * 64 + 2]? = some (bs.getD (p * 64 + 2) 0) by rw [getD_at (by omega)]; exact List.getElem?_eq_getElem (by omega))
  injection he with he1 he2 he3
  injection he1 with he1
  injection he1 with he1 he4
  subst he1 he3 he4
  have x2 : w.cell? ⟨g1, off1 + (p * 64 + 2), none⟩ = some (.int .i64 (bs.getD (p * 64 + 2) 0)) := by simpa [FI] using hc1 0 _ rfl
  clear hc1 he2 sh hs
  have hrz := hr1.subI (p * 64) 64 (by omega)
  have hrf := hr1.subI (p * 64 + 3) 5 (by omega)
  rw [← Nat.add_assoc, Nat.sub_add_eq] at hrf
  have hb384 : 384 ≤ bs.length := by omega
  have hb6 : 6 ≤ cs.length := by omega
  clear hl384 hl6
  have x1' : w.cell? ⟨g1, off1 + p * 64 + 1, none⟩ = some (.int .i64 (bs.getD (p * 64 + 1) 0)) := by rw [Nat.add_assoc]; exact x1
  have x2' : w.cell? ⟨g1, off1 + p * 64 + 2, none⟩ = some (.int .i64 (bs.getD (p * 64 + 2) 0)) := by rw [Nat.add_assoc]; exact x2
  generalize bs.getD (p * 64) 0 = y0 at x0 HE
  generalize bs.getD (p * 64 + 1) 0 = y1 at x1 x1' HE
  generalize bs.getD (p * 64 + 2) 0 = y2 at x2 x2' HE

  have HGP := Hid.mk_ (fun c hc i => genAt_page (p := p) (i := i) (c := c) hp hc)
  have e1 : (p : Int) * 64 = ((p * 64 : Nat) : Int) := by omega
  have ha : p * 64 + 64 ≤ bs.length := by omega
  generalize p * 64 = a at *
  by_cases k0 : c < 0
  · have hd0 : decide (c < 0) = true := by simpa using k0
    rw [if_pos k0] at HE
    clear HG HG2 HR HGP
    go_enter Tryz.func145, Tryz.ntmps145
    go_wp2
    generalize hW : (w.alloc (.cells #[.slice (some ⟨g1, off1, none⟩) bs.length c1, .slice (some ⟨g2, off2, none⟩) cs.length c2] 26)) = w0
    have hB0 : Below w.heap.size w w0 := by rw [← hW]; repeat (first | exact Below.refl _ _ | refine Below.alloc ?_ (by simp <;> omega) _ | refine below_grow_of ?_ (by simp <;> omega) _ _ | refine Below.drew ?_ | refine below_drewN ?_ _)
    have q0 : w0.cell? ⟨w.heap.size, 0, none⟩ = some (.slice (some ⟨g1, off1, none⟩) bs.length c1) := by rw [← hW]; simp [go_sem]
    clear hW
    go_loop [7] (fun i => ∃ m : Nat, a ≤ m ∧ m ≤ a + 64 ∧ i = .int .i64 m ∧ Hid (zerosB ((bs.drop (a)).take (m - (a))) = true)) (fun i => a + 64 - (intOf i).toNat)
    case atStart => exact ⟨a, Nat.le_refl _, by omega, by go_num, Hid.mk_ (by rw [Nat.sub_self]; rfl)⟩
    case round =>
      obtain ⟨m, hm1, hm2, rfl, HT⟩ := hrel
      by_cases hlt : m < a + 64
      · have ht : decide ((m : Int) < (a : Int) + 64) = true := decide_eq_true (by omega)
        have ht' : (m : Int) < (a : Int) + 64 := by omega
        have hmb : m < bs.length := by omega
        obtain ⟨g1', off1', cap1', he, _, _, _, hc1⟩ := (hr1.below hB0).at_ (show bs[m]? = some (bs.getD m 0) by rw [getD_at hmb]; exact List.getElem?_eq_getElem hmb)
        injection he with he1 he2 he3
        injection he1 with he1
        injection he1 with he1 he4
        subst he1 he3 he4
        have x0 : w0.cell? ⟨g1, off1 + m, none⟩ = some (.int .i64 (bs.getD m 0)) := by simpa [FI] using hc1 0 _ rfl
        clear hc1 he2
        have HS := Hid.mk_ (fun h0 => zeros_step (b := bs) hm1 hmb HT.out h0)
        have HNo := Hid.mk_ (fun h0 => zeros_no (b := bs) (n := 64) hm1 hmb hlt h0)
        generalize bs.getD m 0 = y at x0 HS HNo
        by_cases hy : y = 0
        · have HN := Hid.mk_ (HS.out hy)
          have hy' : (y != 0) = false := by simpa using hy
          clear hy
          go_wp2
          go_round
          case rel => exact ⟨m + 1, by omega, by omega, by go_num, HN⟩
          case measure => simp [intOf]; omega
        · have HN := Hid.mk_ (HNo.out hy)
          have hy' : (y != 0) = true := by simpa using hy
          clear hy
          go_wp2
          go_ret
          exact ⟨ret_bool (by rw [HE.out, HN.out]), (by first | exact hB0 | exact hB0.drew | exact below_drewN hB0 _)⟩
      · obtain rfl : m = a + 64 := by omega
        have HN := Hid.mk_ (show zerosB ((bs.drop (a)).take 64) = true by have u := HT.out; rwa [show a + 64 - (a) = 64 by omega] at u)
        have ht : decide (((a + 64 : Nat) : Int) < (a : Int) + 64) = false := decide_eq_false (by omega)
        clear HT
        go_wp2
        go_ret
        exact ⟨ret_bool (by rw [HE.out, HN.out]), (by first | exact hB0 | exact hB0.drew | exact below_drewN hB0 _)⟩
  rw [if_neg k0] at HE
  have hd0 : decide (c < 0) = false := by simpa using k0
  have hc : inB 0 2 c = true := inB_iff.2 ⟨by omega, hcb.2⟩
  by_cases k1 : y0 = 171
  case neg =>
    have k1' : (y0 != 171) = true := by simpa using k1
    have K1 := Hid.mk_ (show (y0 == 171) = false by simpa using k1)
    clear k1 HG HG2 HR HGP
    go_enter Tryz.func145, Tryz.ntmps145
    go_wp2
    go_quiet ((go_at_call 150; exact quiet_left (PerPage_spec _ _)))
    go_wp2
    go_ret
    exact ⟨ret_bool (by rw [HE.out]; rw [K1.out]; simp), by repeat (first | exact Below.refl _ _ | refine Below.alloc ?_ (by simp <;> omega) _ | refine below_grow_of ?_ (by simp <;> omega) _ _ | refine Below.drew ?_ | refine below_drewN ?_ _)⟩
  subst k1
  by_cases k2 : y1 = c
  case neg =>
    have k2' : (y1 != c) = true := by simpa using k2
    have K2 := Hid.mk_ (show (y1 == c) = false by simpa using k2)
    clear k2 HG HG2 HR HGP
    go_enter Tryz.func145, Tryz.ntmps145
    go_wp2
    go_quiet ((go_at_call 150; exact quiet_left (PerPage_spec _ _)))
    go_wp2
    go_ret
    exact ⟨ret_bool (by rw [HE.out]; rw [K2.out]; simp), by repeat (first | exact Below.refl _ _ | refine Below.alloc ?_ (by simp <;> omega) _ | refine below_grow_of ?_ (by simp <;> omega) _ _ | refine Below.drew ?_ | refine below_drewN ?_ _)⟩
  subst k2
  by_cases k3 : y2 = perPage y1
  case neg =>
    have k3' : (y2 != perPage y1) = true := by simpa using k3
    have K3 := Hid.mk_ (show (y2 == perPage y1) = false by simpa using k3)
    clear k3 HG HG2 HR HGP
    go_enter Tryz.func145, Tryz.ntmps145
    go_wp2
    go_quiet ((go_at_call 150; exact quiet_left (PerPage_spec _ _)))
    go_wp2
    go_ret
    exact ⟨ret_bool (by rw [HE.out]; rw [K3.out]; simp), by repeat (first | exact Below.refl _ _ | refine Below.alloc ?_ (by simp <;> omega) _ | refine below_grow_of ?_ (by simp <;> omega) _ _ | refine Below.drew ?_ | refine below_drewN ?_ _)⟩
  subst k3
  have HF := Hid.mk_ (show pageOkB ⟨bs, cs⟩ p = (zerosB ((bs.drop (a + 3)).take 5) && gensB ⟨bs, cs⟩ p y1 (perPage y1).toNat) by rw [HE.out]; simp)
  clear HE
  rcases cls hc with rfl | rfl | rfl
  · have hper : perPage 0 = 4 := rfl
    have hst2 : (strideOf 0).toNat = 12 := rfl
    rw [hper] at x2 x2'
    have HF' := Hid.mk_ (show pageOkB ⟨bs, cs⟩ p = (zerosB ((bs.drop (a + 3)).take 5) && gensB ⟨bs, cs⟩ p 0 4) from HF.out)
    clear HF hcb k0
    go_enter Tryz.func145, Tryz.ntmps145
    go_wp2
    go_quiet ((go_at_call 150; exact quiet_left ((PerPage_spec 0 _).mono fun e w' ⟨u, v⟩ => ⟨by rw [u, hper], v⟩)))
    generalize hW : World.drewN _ _ = w0
    have hB0 : Below w.heap.size w w0 := by rw [← hW]; repeat (first | exact Below.refl _ _ | refine Below.alloc ?_ (by simp <;> omega) _ | refine below_grow_of ?_ (by simp <;> omega) _ _ | refine Below.drew ?_ | refine below_drewN ?_ _)
    have q0 : w0.cell? ⟨w.heap.size, 0, none⟩ = some (.slice (some ⟨g1, off1, none⟩) bs.length c1) := by rw [← hW]; simp [go_sem]
    have q1 : w0.cell? ⟨w.heap.size, 1, none⟩ = some (.slice (some ⟨g2, off2, none⟩) cs.length c2) := by rw [← hW]; simp [go_sem]
    clear hW
    clear x0 x1 x2 x1' x2' p0
    go_wp2
    go_loop [8] (fun i => ∃ m : Nat, a + 3 ≤ m ∧ m ≤ a + 3 + 5 ∧ i = .int .i64 m ∧ Hid (zerosB ((bs.drop (a + 3)).take (m - (a + 3))) = true)) (fun i => a + 3 + 5 - (intOf i).toNat)
    case atStart => exact ⟨a + 3, Nat.le_refl _, by omega, by go_num, Hid.mk_ (by rw [Nat.sub_self]; rfl)⟩
    case round =>
      obtain ⟨m, hm1, hm2, rfl, HT⟩ := hrel
      by_cases hlt : m < a + 3 + 5
      · have ht : decide ((m : Int) < (a : Int) + 8) = true := decide_eq_true (by omega)
        have ht' : (m : Int) < (a : Int) + 8 := by omega
        have hmb : m < bs.length := by omega
        obtain ⟨g1', off1', cap1', he, _, _, _, hc1⟩ := (hr1.below hB0).at_ (show bs[m]? = some (bs.getD m 0) by rw [getD_at hmb]; exact List.getElem?_eq_getElem hmb)
        injection he with he1 he2 he3
        injection he1 with he1
        injection he1 with he1 he4
        subst he1 he3 he4
        have x0 : w0.cell? ⟨g1, off1 + m, none⟩ = some (.int .i64 (bs.getD m 0)) := by simpa [FI] using hc1 0 _ rfl
        clear hc1 he2
        have HS := Hid.mk_ (fun h0 => zeros_step (b := bs) hm1 hmb HT.out h0)
        have HNo := Hid.mk_ (fun h0 => zeros_no (b := bs) (n := 5) hm1 hmb hlt h0)
        generalize bs.getD m 0 = y at x0 HS HNo
        by_cases hy : y = 0
        · have HN := Hid.mk_ (HS.out hy)
          have hy' : (y != 0) = false := by simpa using hy
          clear hy
          go_wp2
          go_round
          case rel => exact ⟨m + 1, by omega, by omega, by go_num, HN⟩
          case measure => simp [intOf]; omega
        · have HN := Hid.mk_ (HNo.out hy)
          have hy' : (y != 0) = true := by simpa using hy
          clear hy
          go_wp2
          go_ret
          exact ⟨ret_bool (by rw [HF'.out, HN.out]; rfl), (by first | exact hB0 | exact hB0.drew | exact below_drewN hB0 _)⟩
      · obtain rfl : m = a + 3 + 5 := by omega
        have HN := Hid.mk_ (show zerosB ((bs.drop (a + 3)).take 5) = true by have u := HT.out; rwa [show a + 3 + 5 - (a + 3) = 5 by omega] at u)
        have ht : decide (((a + 3 + 5 : Nat) : Int) < (a : Int) + 8) = false := decide_eq_false (by omega)
        clear HT
        go_wp2_with (go_at_call 150; refine (PerPage_spec _ _).mono ?_; rw [hper]; rintro e w2 ⟨rfl, rfl⟩)
        go_loopw [9] (fun i wr => ∃ k : Nat, k ≤ 4 ∧ i = .int .i64 k ∧ Hid (gensB ⟨bs, cs⟩ p 0 k = true) ∧ Below w.heap.size w wr ∧ wr.cell? ⟨w.heap.size, 0, none⟩ = some (.slice (some ⟨g1, off1, none⟩) bs.length c1)) (fun i _ => 4 - (intOf i).toNat)
        case atStart => exact ⟨0, Nat.zero_le _, rfl, rfl, hB0, q0⟩
        case round =>
          obtain ⟨i, hi, rfl, HT, hB1, r0⟩ := hrel
          clear hB0 q0 q1 hr2
          by_cases hlt : i < 4
          · have HGi := Hid.mk_ (HGP.out 0 hc i hlt)
            have hroom := HR.out 0 hc i hlt
            rw [hst2] at HGi hroom
            have HS := Hid.mk_ (show gensB ⟨bs, cs⟩ p 0 (i + 1) = (gensB ⟨bs, cs⟩ p 0 i && inB 1 7 (loadN bs ((a + 8 + i * 12 : Nat) : Int) 4)) from HG.out 0 i)
            have HNo := Hid.mk_ (show inB 1 7 (loadN bs ((a + 8 + i * 12 : Nat) : Int) 4) = false → gensB ⟨bs, cs⟩ p 0 4 = false from HG2.out 0 i 4 hlt)
            have hcq1 : ∀ W : World, Calls Tryz.prog 202 #[.int .i64 p, .int .i64 i] W fun e w' => e = .returned (.int .i64 (slotAtP p i)) ∧ W = w' := fun W => SlotAt_spec p i W
            have hcq2 : ∀ W : World, Calls Tryz.prog 158 #[.int .i64 (slotAtP p i), .int .i64 0] W fun e w' => e = .returned (.int .i64 ((a + 8 + i * 12 : Nat) : Int)) ∧ W = w' := fun W => (GenAt_spec _ 0 W).mono fun e w' ⟨u, v⟩ => ⟨by rw [u, HGi.out], v⟩
            have hge : a + 8 + i * 12 + 4 ≤ bs.length := by omega
            have hcq3 : ∀ W : World, Below w.heap.size w W → Calls Tryz.prog 109 #[.slice (some ⟨g1, off1, none⟩) bs.length c1, .int .i64 ((a + 8 + i * 12 : Nat) : Int), .int .i64 4] W fun e w' => e = .returned (.int .i64 (loadN bs ((a + 8 + i * 12 : Nat) : Int) 4)) ∧ W = w' := fun W hW => l3Load_spec W _ bs _ 4 (rd_up hr1 hW) (by omega) (by decide) (by decide) (by omega) hby
            generalize loadN bs ((a + 8 + i * 12 : Nat) : Int) 4 = z at hcq3 HS HNo
            generalize a + 8 + i * 12 = ga at hcq2 hcq3 hge
            generalize slotAtP p i = sl at hcq1 hcq2
            by_cases k5 : inB 1 7 z = true
            · have HN := Hid.mk_ (show gensB ⟨bs, cs⟩ p 0 (i + 1) = true by rw [HS.out, HT.out, k5]; rfl)
              clear HS HNo HGi hroom
              go_wp2_with (go_at_call 150; refine (PerPage_spec _ _).mono ?_; rw [hper]; rintro e w2 ⟨rfl, rfl⟩)
              go_quiet ((first | (go_at_call 202; exact quiet_left (hcq1 _)) | (go_at_call 158; exact quiet_left (hcq2 _)) | (go_at_call 109; exact quiet_left (hcq3 _ (by first | exact hB1 | exact hB1.drew | exact below_drewN hB1 _))) | (go_at_call 102; exact quiet_left (l1In_ct _ _ _ _))))
              go_wp2
              go_roundw
              case rel => exact ⟨i + 1, by omega, by go_num, HN, by first | exact hB1 | exact hB1.drew | exact below_drewN hB1 _, by first | exact r0 | simpa [go_sem] using r0⟩
              case measure => simp [intOf]; omega
            · have k5' : inB 1 7 z = false := (Bool.not_eq_true _).mp k5
              have HN' := Hid.mk_ (HNo.out k5')
              clear k5 HS HNo HGi hroom
              go_wp2_with (go_at_call 150; refine (PerPage_spec _ _).mono ?_; rw [hper]; rintro e w2 ⟨rfl, rfl⟩)
              go_quiet ((first | (go_at_call 202; exact quiet_left (hcq1 _)) | (go_at_call 158; exact quiet_left (hcq2 _)) | (go_at_call 109; exact quiet_left (hcq3 _ (by first | exact hB1 | exact hB1.drew | exact below_drewN hB1 _))) | (go_at_call 102; exact quiet_left (l1In_ct _ _ _ _))))
              go_wp2
              go_ret
              exact ⟨ret_bool (by rw [HF'.out, HN'.out]; simp), by first | exact hB1 | exact hB1.drew | exact below_drewN hB1 _⟩
          · obtain rfl : i = 4 := by omega
            go_wp2_with (go_at_call 150; refine (PerPage_spec _ _).mono ?_; rw [hper]; rintro e w2 ⟨rfl, rfl⟩)
            go_ret
            exact ⟨ret_bool (by rw [HF'.out, HN.out, HT.out]; rfl), by first | exact hB1 | exact hB1.drew | exact below_drewN hB1 _⟩
  · have hper : perPage 1 = 2 := rfl
    have hst2 : (strideOf 1).toNat = 20 := rfl
    rw [hper] at x2 x2'
    have HF' := Hid.mk_ (show pageOkB ⟨bs, cs⟩ p = (zerosB ((bs.drop (a + 3)).take 5) && gensB ⟨bs, cs⟩ p 1 2) from HF.out)
    clear HF hcb k0
    go_enter Tryz.func145, Tryz.ntmps145
    go_wp2
    go_quiet ((go_at_call 150; exact quiet_left ((PerPage_spec 1 _).mono fun e w' ⟨u, v⟩ => ⟨by rw [u, hper], v⟩)))
    generalize hW : World.drewN _ _ = w0
    have hB0 : Below w.heap.size w w0 := by rw [← hW]; repeat (first | exact Below.refl _ _ | refine Below.alloc ?_ (by simp <;> omega) _ | refine below_grow_of ?_ (by simp <;> omega) _ _ | refine Below.drew ?_ | refine below_drewN ?_ _)
    have q0 : w0.cell? ⟨w.heap.size, 0, none⟩ = some (.slice (some ⟨g1, off1, none⟩) bs.length c1) := by rw [← hW]; simp [go_sem]
    have q1 : w0.cell? ⟨w.heap.size, 1, none⟩ = some (.slice (some ⟨g2, off2, none⟩) cs.length c2) := by rw [← hW]; simp [go_sem]
    clear hW
    clear x0 x1 x2 x1' x2' p0
    go_wp2
    go_loop [8] (fun i => ∃ m : Nat, a + 3 ≤ m ∧ m ≤ a + 3 + 5 ∧ i = .int .i64 m ∧ Hid (zerosB ((bs.drop (a + 3)).take (m - (a + 3))) = true)) (fun i => a + 3 + 5 - (intOf i).toNat)
    case atStart => exact ⟨a + 3, Nat.le_refl _, by omega, by go_num, Hid.mk_ (by rw [Nat.sub_self]; rfl)⟩
    case round =>
      obtain ⟨m, hm1, hm2, rfl, HT⟩ := hrel
      by_cases hlt : m < a + 3 + 5
      · have ht : decide ((m : Int) < (a : Int) + 8) = true := decide_eq_true (by omega)
        have ht' : (m : Int) < (a : Int) + 8 := by omega
        have hmb : m < bs.length := by omega
        obtain ⟨g1', off1', cap1', he, _, _, _, hc1⟩ := (hr1.below hB0).at_ (show bs[m]? = some (bs.getD m 0) by rw [getD_at hmb]; exact List.getElem?_eq_getElem hmb)
        injection he with he1 he2 he3
        injection he1 with he1
        injection he1 with he1 he4
        subst he1 he3 he4
        have x0 : w0.cell? ⟨g1, off1 + m, none⟩ = some (.int .i64 (bs.getD m 0)) := by simpa [FI] using hc1 0 _ rfl
        clear hc1 he2
        have HS := Hid.mk_ (fun h0 => zeros_step (b := bs) hm1 hmb HT.out h0)
        have HNo := Hid.mk_ (fun h0 => zeros_no (b := bs) (n := 5) hm1 hmb hlt h0)
        generalize bs.getD m 0 = y at x0 HS HNo
        by_cases hy : y = 0
        · have HN := Hid.mk_ (HS.out hy)
          have hy' : (y != 0) = false := by simpa using hy
          clear hy
          go_wp2
          go_round
          case rel => exact ⟨m + 1, by omega, by omega, by go_num, HN⟩
          case measure => simp [intOf]; omega
        · have HN := Hid.mk_ (HNo.out hy)
          have hy' : (y != 0) = true := by simpa using hy
          clear hy
          go_wp2
          go_ret
          exact ⟨ret_bool (by rw [HF'.out, HN.out]; rfl), (by first | exact hB0 | exact hB0.drew | exact below_drewN hB0 _)⟩
      · obtain rfl : m = a + 3 + 5 := by omega
        have HN := Hid.mk_ (show zerosB ((bs.drop (a + 3)).take 5) = true by have u := HT.out; rwa [show a + 3 + 5 - (a + 3) = 5 by omega] at u)
        have ht : decide (((a + 3 + 5 : Nat) : Int) < (a : Int) + 8) = false := decide_eq_false (by omega)
        clear HT
        go_wp2_with (go_at_call 150; refine (PerPage_spec _ _).mono ?_; rw [hper]; rintro e w2 ⟨rfl, rfl⟩)
        go_loopw [9] (fun i wr => ∃ k : Nat, k ≤ 2 ∧ i = .int .i64 k ∧ Hid (gensB ⟨bs, cs⟩ p 1 k = true) ∧ Below w.heap.size w wr ∧ wr.cell? ⟨w.heap.size, 0, none⟩ = some (.slice (some ⟨g1, off1, none⟩) bs.length c1)) (fun i _ => 2 - (intOf i).toNat)
        case atStart => exact ⟨0, Nat.zero_le _, rfl, rfl, hB0, q0⟩
        case round =>
          obtain ⟨i, hi, rfl, HT, hB1, r0⟩ := hrel
          clear hB0 q0 q1 hr2
          by_cases hlt : i < 2
          · have HGi := Hid.mk_ (HGP.out 1 hc i hlt)
            have hroom := HR.out 1 hc i hlt
            rw [hst2] at HGi hroom
            have HS := Hid.mk_ (show gensB ⟨bs, cs⟩ p 1 (i + 1) = (gensB ⟨bs, cs⟩ p 1 i && inB 1 7 (loadN bs ((a + 8 + i * 20 : Nat) : Int) 4)) from HG.out 1 i)
            have HNo := Hid.mk_ (show inB 1 7 (loadN bs ((a + 8 + i * 20 : Nat) : Int) 4) = false → gensB ⟨bs, cs⟩ p 1 2 = false from HG2.out 1 i 2 hlt)
            have hcq1 : ∀ W : World, Calls Tryz.prog 202 #[.int .i64 p, .int .i64 i] W fun e w' => e = .returned (.int .i64 (slotAtP p i)) ∧ W = w' := fun W => SlotAt_spec p i W
            have hcq2 : ∀ W : World, Calls Tryz.prog 158 #[.int .i64 (slotAtP p i), .int .i64 1] W fun e w' => e = .returned (.int .i64 ((a + 8 + i * 20 : Nat) : Int)) ∧ W = w' := fun W => (GenAt_spec _ 1 W).mono fun e w' ⟨u, v⟩ => ⟨by rw [u, HGi.out], v⟩
            have hge : a + 8 + i * 20 + 4 ≤ bs.length := by omega
            have hcq3 : ∀ W : World, Below w.heap.size w W → Calls Tryz.prog 109 #[.slice (some ⟨g1, off1, none⟩) bs.length c1, .int .i64 ((a + 8 + i * 20 : Nat) : Int), .int .i64 4] W fun e w' => e = .returned (.int .i64 (loadN bs ((a + 8 + i * 20 : Nat) : Int) 4)) ∧ W = w' := fun W hW => l3Load_spec W _ bs _ 4 (rd_up hr1 hW) (by omega) (by decide) (by decide) (by omega) hby
            generalize loadN bs ((a + 8 + i * 20 : Nat) : Int) 4 = z at hcq3 HS HNo
            generalize a + 8 + i * 20 = ga at hcq2 hcq3 hge
            generalize slotAtP p i = sl at hcq1 hcq2
            by_cases k5 : inB 1 7 z = true
            · have HN := Hid.mk_ (show gensB ⟨bs, cs⟩ p 1 (i + 1) = true by rw [HS.out, HT.out, k5]; rfl)
              clear HS HNo HGi hroom
              go_wp2_with (go_at_call 150; refine (PerPage_spec _ _).mono ?_; rw [hper]; rintro e w2 ⟨rfl, rfl⟩)
              go_quiet ((first | (go_at_call 202; exact quiet_left (hcq1 _)) | (go_at_call 158; exact quiet_left (hcq2 _)) | (go_at_call 109; exact quiet_left (hcq3 _ (by first | exact hB1 | exact hB1.drew | exact below_drewN hB1 _))) | (go_at_call 102; exact quiet_left (l1In_ct _ _ _ _))))
              go_wp2
              go_roundw
              case rel => exact ⟨i + 1, by omega, by go_num, HN, by first | exact hB1 | exact hB1.drew | exact below_drewN hB1 _, by first | exact r0 | simpa [go_sem] using r0⟩
              case measure => simp [intOf]; omega
            · have k5' : inB 1 7 z = false := (Bool.not_eq_true _).mp k5
              have HN' := Hid.mk_ (HNo.out k5')
              clear k5 HS HNo HGi hroom
              go_wp2_with (go_at_call 150; refine (PerPage_spec _ _).mono ?_; rw [hper]; rintro e w2 ⟨rfl, rfl⟩)
              go_quiet ((first | (go_at_call 202; exact quiet_left (hcq1 _)) | (go_at_call 158; exact quiet_left (hcq2 _)) | (go_at_call 109; exact quiet_left (hcq3 _ (by first | exact hB1 | exact hB1.drew | exact below_drewN hB1 _))) | (go_at_call 102; exact quiet_left (l1In_ct _ _ _ _))))
              go_wp2
              go_ret
              exact ⟨ret_bool (by rw [HF'.out, HN'.out]; simp), by first | exact hB1 | exact hB1.drew | exact below_drewN hB1 _⟩
          · obtain rfl : i = 2 := by omega
            go_wp2_with (go_at_call 150; refine (PerPage_spec _ _).mono ?_; rw [hper]; rintro e w2 ⟨rfl, rfl⟩)
            go_ret
            exact ⟨ret_bool (by rw [HF'.out, HN.out, HT.out]; rfl), by first | exact hB1 | exact hB1.drew | exact below_drewN hB1 _⟩
  · have hper : perPage 2 = 1 := rfl
    have hst2 : (strideOf 2).toNat = 44 := rfl
    rw [hper] at x2 x2'
    have HF' := Hid.mk_ (show pageOkB ⟨bs, cs⟩ p = (zerosB ((bs.drop (a + 3)).take 5) && gensB ⟨bs, cs⟩ p 2 1) from HF.out)
    clear HF hcb k0
    go_enter Tryz.func145, Tryz.ntmps145
    go_wp2
    go_quiet ((go_at_call 150; exact quiet_left ((PerPage_spec 2 _).mono fun e w' ⟨u, v⟩ => ⟨by rw [u, hper], v⟩)))
    generalize hW : World.drewN _ _ = w0
    have hB0 : Below w.heap.size w w0 := by rw [← hW]; repeat (first | exact Below.refl _ _ | refine Below.alloc ?_ (by simp <;> omega) _ | refine below_grow_of ?_ (by simp <;> omega) _ _ | refine Below.drew ?_ | refine below_drewN ?_ _)
    have q0 : w0.cell? ⟨w.heap.size, 0, none⟩ = some (.slice (some ⟨g1, off1, none⟩) bs.length c1) := by rw [← hW]; simp [go_sem]
    have q1 : w0.cell? ⟨w.heap.size, 1, none⟩ = some (.slice (some ⟨g2, off2, none⟩) cs.length c2) := by rw [← hW]; simp [go_sem]
    clear hW
    clear x0 x1 x2 x1' x2' p0
    go_wp2
    go_loop [8] (fun i => ∃ m : Nat, a + 3 ≤ m ∧ m ≤ a + 3 + 5 ∧ i = .int .i64 m ∧ Hid (zerosB ((bs.drop (a + 3)).take (m - (a + 3))) = true)) (fun i => a + 3 + 5 - (intOf i).toNat)
    case atStart => exact ⟨a + 3, Nat.le_refl _, by omega, by go_num, Hid.mk_ (by rw [Nat.sub_self]; rfl)⟩
    case round =>
      obtain ⟨m, hm1, hm2, rfl, HT⟩ := hrel
      by_cases hlt : m < a + 3 + 5
      · have ht : decide ((m : Int) < (a : Int) + 8) = true := decide_eq_true (by omega)
        have ht' : (m : Int) < (a : Int) + 8 := by omega
        have hmb : m < bs.length := by omega
        obtain ⟨g1', off1', cap1', he, _, _, _, hc1⟩ := (hr1.below hB0).at_ (show bs[m]? = some (bs.getD m 0) by rw [getD_at hmb]; exact List.getElem?_eq_getElem hmb)
        injection he with he1 he2 he3
        injection he1 with he1
        injection he1 with he1 he4
        subst he1 he3 he4
        have x0 : w0.cell? ⟨g1, off1 + m, none⟩ = some (.int .i64 (bs.getD m 0)) := by simpa [FI] using hc1 0 _ rfl
        clear hc1 he2
        have HS := Hid.mk_ (fun h0 => zeros_step (b := bs) hm1 hmb HT.out h0)
        have HNo := Hid.mk_ (fun h0 => zeros_no (b := bs) (n := 5) hm1 hmb hlt h0)
        generalize bs.getD m 0 = y at x0 HS HNo
        by_cases hy : y = 0
        · have HN := Hid.mk_ (HS.out hy)
          have hy' : (y != 0) = false := by simpa using hy
          clear hy
          go_wp2
          go_round
          case rel => exact ⟨m + 1, by omega, by omega, by go_num, HN⟩
          case measure => simp [intOf]; omega
        · have HN := Hid.mk_ (HNo.out hy)
          have hy' : (y != 0) = true := by simpa using hy
          clear hy
          go_wp2
          go_ret
          exact ⟨ret_bool (by rw [HF'.out, HN.out]; rfl), (by first | exact hB0 | exact hB0.drew | exact below_drewN hB0 _)⟩
      · obtain rfl : m = a + 3 + 5 := by omega
        have HN := Hid.mk_ (show zerosB ((bs.drop (a + 3)).take 5) = true by have u := HT.out; rwa [show a + 3 + 5 - (a + 3) = 5 by omega] at u)
        have ht : decide (((a + 3 + 5 : Nat) : Int) < (a : Int) + 8) = false := decide_eq_false (by omega)
        clear HT
        go_wp2_with (go_at_call 150; refine (PerPage_spec _ _).mono ?_; rw [hper]; rintro e w2 ⟨rfl, rfl⟩)
        go_loopw [9] (fun i wr => ∃ k : Nat, k ≤ 1 ∧ i = .int .i64 k ∧ Hid (gensB ⟨bs, cs⟩ p 2 k = true) ∧ Below w.heap.size w wr ∧ wr.cell? ⟨w.heap.size, 0, none⟩ = some (.slice (some ⟨g1, off1, none⟩) bs.length c1)) (fun i _ => 1 - (intOf i).toNat)
        case atStart => exact ⟨0, Nat.zero_le _, rfl, rfl, hB0, q0⟩
        case round =>
          obtain ⟨i, hi, rfl, HT, hB1, r0⟩ := hrel
          clear hB0 q0 q1 hr2
          by_cases hlt : i < 1
          · have HGi := Hid.mk_ (HGP.out 2 hc i hlt)
            have hroom := HR.out 2 hc i hlt
            rw [hst2] at HGi hroom
            have HS := Hid.mk_ (show gensB ⟨bs, cs⟩ p 2 (i + 1) = (gensB ⟨bs, cs⟩ p 2 i && inB 1 7 (loadN bs ((a + 8 + i * 44 : Nat) : Int) 4)) from HG.out 2 i)
            have HNo := Hid.mk_ (show inB 1 7 (loadN bs ((a + 8 + i * 44 : Nat) : Int) 4) = false → gensB ⟨bs, cs⟩ p 2 1 = false from HG2.out 2 i 1 hlt)
            have hcq1 : ∀ W : World, Calls Tryz.prog 202 #[.int .i64 p, .int .i64 i] W fun e w' => e = .returned (.int .i64 (slotAtP p i)) ∧ W = w' := fun W => SlotAt_spec p i W
            have hcq2 : ∀ W : World, Calls Tryz.prog 158 #[.int .i64 (slotAtP p i), .int .i64 2] W fun e w' => e = .returned (.int .i64 ((a + 8 + i * 44 : Nat) : Int)) ∧ W = w' := fun W => (GenAt_spec _ 2 W).mono fun e w' ⟨u, v⟩ => ⟨by rw [u, HGi.out], v⟩
            have hge : a + 8 + i * 44 + 4 ≤ bs.length := by omega
            have hcq3 : ∀ W : World, Below w.heap.size w W → Calls Tryz.prog 109 #[.slice (some ⟨g1, off1, none⟩) bs.length c1, .int .i64 ((a + 8 + i * 44 : Nat) : Int), .int .i64 4] W fun e w' => e = .returned (.int .i64 (loadN bs ((a + 8 + i * 44 : Nat) : Int) 4)) ∧ W = w' := fun W hW => l3Load_spec W _ bs _ 4 (rd_up hr1 hW) (by omega) (by decide) (by decide) (by omega) hby
            generalize loadN bs ((a + 8 + i * 44 : Nat) : Int) 4 = z at hcq3 HS HNo
            generalize a + 8 + i * 44 = ga at hcq2 hcq3 hge
            generalize slotAtP p i = sl at hcq1 hcq2
            by_cases k5 : inB 1 7 z = true
            · have HN := Hid.mk_ (show gensB ⟨bs, cs⟩ p 2 (i + 1) = true by rw [HS.out, HT.out, k5]; rfl)
              clear HS HNo HGi hroom
              go_wp2_with (go_at_call 150; refine (PerPage_spec _ _).mono ?_; rw [hper]; rintro e w2 ⟨rfl, rfl⟩)
              go_quiet ((first | (go_at_call 202; exact quiet_left (hcq1 _)) | (go_at_call 158; exact quiet_left (hcq2 _)) | (go_at_call 109; exact quiet_left (hcq3 _ (by first | exact hB1 | exact hB1.drew | exact below_drewN hB1 _))) | (go_at_call 102; exact quiet_left (l1In_ct _ _ _ _))))
              go_wp2
              go_roundw
              case rel => exact ⟨i + 1, by omega, by go_num, HN, by first | exact hB1 | exact hB1.drew | exact below_drewN hB1 _, by first | exact r0 | simpa [go_sem] using r0⟩
              case measure => simp [intOf]; omega
            · have k5' : inB 1 7 z = false := (Bool.not_eq_true _).mp k5
              have HN' := Hid.mk_ (HNo.out k5')
              clear k5 HS HNo HGi hroom
              go_wp2_with (go_at_call 150; refine (PerPage_spec _ _).mono ?_; rw [hper]; rintro e w2 ⟨rfl, rfl⟩)
              go_quiet ((first | (go_at_call 202; exact quiet_left (hcq1 _)) | (go_at_call 158; exact quiet_left (hcq2 _)) | (go_at_call 109; exact quiet_left (hcq3 _ (by first | exact hB1 | exact hB1.drew | exact below_drewN hB1 _))) | (go_at_call 102; exact quiet_left (l1In_ct _ _ _ _))))
              go_wp2
              go_ret
              exact ⟨ret_bool (by rw [HF'.out, HN'.out]; simp), by first | exact hB1 | exact hB1.drew | exact below_drewN hB1 _⟩
          · obtain rfl : i = 1 := by omega
            go_wp2_with (go_at_call 150; refine (PerPage_spec _ _).mono ?_; rw [hper]; rintro e w2 ⟨rfl, rfl⟩)
            go_ret
            exact ⟨ret_bool (by rw [HF'.out, HN.out, HT.out]; rfl), by first | exact hB1 | exact hB1.drew | exact below_drewN hB1 _⟩
end Go.Proofs.YtkmggglljkmjoaaGreat

/-
  Heaps valid: the contracts.
-/
namespace Go.Proofs.YtkmggglljkmjoaaGreat
open Go.RowKit

set_option maxRecDepth 100000 in
set_option maxHeartbeats 1000000 in
theorem HeapOk_impl (w : World) (H : HHeap) (x : Heap) (h : RdHeap w w.heap.size H x) :
    Calls Tryz.prog 140 #[.agg #[.slice H.Bytes.a H.Bytes.len H.Bytes.cap, .slice H.Class.a H.Class.len H.Class.cap]] w fun e w' => e = .returned (.bool (heapOkB x)) ∧ Below w.heap.size w w' := by
  obtain ⟨⟨A1, n1, c1⟩, ⟨A2, n2, c2⟩⟩ := H
  obtain ⟨bs, cs⟩ := x
  have hr1 : RdL FI w w.heap.size (.slice A1 n1 c1) bs := h.Bytes
  have hr2 : RdL FI w w.heap.size (.slice A2 n2 c2) cs := h.Class
  obtain ⟨_, _, hv, q1, q2, qx⟩ := id hr1
  simp only [Value.slice.injEq] at hv
  obtain ⟨rfl, rfl, rfl⟩ := hv
  have hlt1 : bs.length ≤ 9223372036854775807 := by unfold maxLen at q2; omega
  clear q1 q2 qx
  obtain ⟨_, _, hv, q1, q2, qx⟩ := id hr2
  simp only [Value.slice.injEq] at hv
  obtain ⟨rfl, rfl, rfl⟩ := hv
  have hlt2 : cs.length ≤ 9223372036854775807 := by unfold maxLen at q2; omega
  clear q1 q2 qx h
  have HE := Hid.mk_ (show heapOkB ⟨bs, cs⟩ = (shapeB ⟨bs, cs⟩ && (List.range 6).all (pageOkB ⟨bs, cs⟩)) from rfl)
  show Calls Tryz.prog 140 #[.agg #[.slice A1 bs.length c1, .slice A2 cs.length c2]] _ _
  by_cases hs : shapeB ⟨bs, cs⟩ = true
  case neg =>
    have HT := Hid.mk_ ((Bool.not_eq_true _).mp hs)
    clear hs
    go_enter Tryz.func140, Tryz.ntmps140
    go_wp2_with (go_at_call 195; refine (shaped_impl _ ⟨⟨A1, bs.length, c1⟩, ⟨A2, cs.length, c2⟩⟩ ⟨bs, cs⟩ ⟨rd_up hr1 (by repeat (first | exact Below.refl _ _ | refine Below.alloc ?_ (by simp <;> omega) _ | refine below_grow_of ?_ (by simp <;> omega) _ _ | refine Below.drew ?_ | refine below_drewN ?_ _)), rd_up hr2 (by repeat (first | exact Below.refl _ _ | refine Below.alloc ?_ (by simp <;> omega) _ | refine below_grow_of ?_ (by simp <;> omega) _ _ | refine Below.drew ?_ | refine below_drewN ?_ _))⟩).mono ?_; rw [HT.out]; rintro e w1 ⟨rfl, hb1⟩; obtain ⟨os1, d1, rfl⟩ := below_grows hb1; clear hb1)
    go_ret
    exact ⟨ret_bool (by rw [HE.out, HT.out]; rfl), by repeat (first | exact Below.refl _ _ | refine Below.alloc ?_ (by simp <;> omega) _ | refine below_grow_of ?_ (by simp <;> omega) _ _ | refine Below.drew ?_ | refine below_drewN ?_ _)⟩
  have HS := Hid.mk_ hs
  clear hs
  go_enter Tryz.func140, Tryz.ntmps140
  go_wp2_with fail
  refine (shaped_impl _ ⟨⟨A1, bs.length, c1⟩, ⟨A2, cs.length, c2⟩⟩ ⟨bs, cs⟩ ⟨rd_up hr1 (by repeat (first | exact Below.refl _ _ | refine Below.alloc ?_ (by simp <;> omega) _ | refine below_grow_of ?_ (by simp <;> omega) _ _ | refine Below.drew ?_ | refine below_drewN ?_ _)), rd_up hr2 (by repeat (first | exact Below.refl _ _ | refine Below.alloc ?_ (by simp <;> omega) _ | refine below_grow_of ?_ (by simp <;> omega) _ _ | refine Below.drew ?_ | refine below_drewN ?_ _))⟩).mono ?_
  rw [HS.out]
  rintro e w1 ⟨rfl, hb1⟩
  have q0 : w1.cell? ⟨w.heap.size, 0, none⟩ = some (.slice A1 bs.length c1) := cell_up hb1 (by simp <;> omega) (by simp [go_sem])
  have q1 : w1.cell? ⟨w.heap.size, 1, none⟩ = some (.slice A2 cs.length c2) := cell_up hb1 (by simp <;> omega) (by simp [go_sem])
  have hB1 : Below w.heap.size w w1 := Below.trans (by repeat (first | exact Below.refl _ _ | refine Below.alloc ?_ (by simp <;> omega) _ | refine below_grow_of ?_ (by simp <;> omega) _ _ | refine Below.drew ?_ | refine below_drewN ?_ _)) (hb1.mono (by simp))
  have z1 : w.heap.size < w1.heap.size := by have := hb1.size; simp at this; omega
  clear hb1
  go_wp2
  go_loopw [3, 7] (fun _ i wr => ∃ k : Nat, k ≤ 6 ∧ i = .int .i64 k ∧ Hid ((List.range k).all (pageOkB ⟨bs, cs⟩) = true) ∧ Below w.heap.size w wr ∧ wr.cell? ⟨w.heap.size, 0, none⟩ = some (.slice A1 bs.length c1) ∧ wr.cell? ⟨w.heap.size, 1, none⟩ = some (.slice A2 cs.length c2) ∧ w.heap.size < wr.heap.size) (fun _ i _ => 6 - (intOf i).toNat)
  case atStart => exact ⟨0, Nat.zero_le _, rfl, rfl, hB1, q0, q1, z1⟩
  case round =>
    obtain ⟨i, hi, rfl, HT, hb, r0, r1, hz⟩ := hrel
    clear q0 q1 hB1 z1
    by_cases hlt : i < 6
    · have HX := Hid.mk_ (show (List.range (i + 1)).all (pageOkB ⟨bs, cs⟩) = pageOkB ⟨bs, cs⟩ i by rw [List.range_succ, List.all_append, HT.out]; simp)
      by_cases k1 : pageOkB ⟨bs, cs⟩ i = true
      · have HK := Hid.mk_ k1
        clear k1
        go_wp2_with (go_at_call 196; refine (pageOk_impl _ ⟨⟨A1, bs.length, c1⟩, ⟨A2, cs.length, c2⟩⟩ ⟨bs, cs⟩ i hlt ⟨rd_up hr1 hb, rd_up hr2 hb⟩ HS.out).mono ?_; rw [HK.out]; rintro e w2 ⟨rfl, hb2⟩)
        go_roundw
        case rel => exact ⟨i + 1, by omega, by go_num, Hid.mk_ (by rw [HX.out, HK.out]), hb.trans (hb2.mono hb.size), cell_up hb2 hz r0, cell_up hb2 hz r1, Nat.lt_of_lt_of_le hz hb2.size⟩
        case measure => simp [intOf]; omega
      · have HK := Hid.mk_ ((Bool.not_eq_true _).mp k1)
        have HN := Hid.mk_ (show (List.range 6).all (pageOkB ⟨bs, cs⟩) = false from List.all_eq_false.2 ⟨i, List.mem_range.2 hlt, by rw [HK.out]; decide⟩)
        clear k1
        go_wp2_with (go_at_call 196; refine (pageOk_impl _ ⟨⟨A1, bs.length, c1⟩, ⟨A2, cs.length, c2⟩⟩ ⟨bs, cs⟩ i hlt ⟨rd_up hr1 hb, rd_up hr2 hb⟩ HS.out).mono ?_; rw [HK.out]; rintro e w2 ⟨rfl, hb2⟩)
        go_ret
        exact ⟨ret_bool (by rw [HE.out, HN.out]; simp), hb.trans (hb2.mono hb.size)⟩
    · obtain rfl : i = 6 := by omega
      go_wp2
      go_ret
      exact ⟨ret_bool (by rw [HE.out, HT.out, HS.out]; rfl), hb⟩

set_option maxRecDepth 100000 in
set_option maxHeartbeats 1000000 in
theorem HeapOk_spec (w : World) (H : HHeap) (x : Heap) (h : RdHeap w w.heap.size H x) :
    Calls Tryz.prog 72 #[.agg #[.slice H.Bytes.a H.Bytes.len H.Bytes.cap, .slice H.Class.a H.Class.len H.Class.cap]] w fun e w' => e = .returned (.bool (heapOkB x)) ∧ Below w.heap.size w w' := by
  obtain ⟨⟨A1, n1, c1⟩, ⟨A2, n2, c2⟩⟩ := H
  obtain ⟨bs, cs⟩ := x
  have hr1 : RdL FI w w.heap.size (.slice A1 n1 c1) bs := h.Bytes
  have hr2 : RdL FI w w.heap.size (.slice A2 n2 c2) cs := h.Class
  obtain ⟨_, _, hv, q1, q2, qx⟩ := id hr1
  simp only [Value.slice.injEq] at hv
  obtain ⟨rfl, rfl, rfl⟩ := hv
  have hlt1 : bs.length ≤ 9223372036854775807 := by unfold maxLen at q2; omega
  clear q1 q2 qx
  obtain ⟨_, _, hv, q1, q2, qx⟩ := id hr2
  simp only [Value.slice.injEq] at hv
  obtain ⟨rfl, rfl, rfl⟩ := hv
  have hlt2 : cs.length ≤ 9223372036854775807 := by unfold maxLen at q2; omega
  clear q1 q2 qx h
  have HE := Hid.mk_ (show heapOkB ⟨bs, cs⟩ = (shapeB ⟨bs, cs⟩ && (List.range 6).all (pageOkB ⟨bs, cs⟩)) from rfl)
  show Calls Tryz.prog 72 #[.agg #[.slice A1 bs.length c1, .slice A2 cs.length c2]] _ _
  by_cases hs : shapeB ⟨bs, cs⟩ = true
  case neg =>
    have HT := Hid.mk_ ((Bool.not_eq_true _).mp hs)
    clear hs
    go_enter Tryz.func72, Tryz.ntmps72
    go_wp2_with (go_at_call 76; refine (l7Shape_spec _ ⟨⟨A1, bs.length, c1⟩, ⟨A2, cs.length, c2⟩⟩ ⟨bs, cs⟩ ⟨rd_up hr1 (by repeat (first | exact Below.refl _ _ | refine Below.alloc ?_ (by simp <;> omega) _ | refine below_grow_of ?_ (by simp <;> omega) _ _ | refine Below.drew ?_ | refine below_drewN ?_ _)), rd_up hr2 (by repeat (first | exact Below.refl _ _ | refine Below.alloc ?_ (by simp <;> omega) _ | refine below_grow_of ?_ (by simp <;> omega) _ _ | refine Below.drew ?_ | refine below_drewN ?_ _))⟩).mono ?_; rw [HT.out]; rintro e w1 ⟨rfl, hb1⟩; obtain ⟨os1, d1, rfl⟩ := below_grows hb1; clear hb1)
    go_ret
    exact ⟨ret_bool (by rw [HE.out, HT.out]; rfl), by repeat (first | exact Below.refl _ _ | refine Below.alloc ?_ (by simp <;> omega) _ | refine below_grow_of ?_ (by simp <;> omega) _ _ | refine Below.drew ?_ | refine below_drewN ?_ _)⟩
  have HS := Hid.mk_ hs
  clear hs
  go_enter Tryz.func72, Tryz.ntmps72
  go_wp2_with fail
  refine (l7Shape_spec _ ⟨⟨A1, bs.length, c1⟩, ⟨A2, cs.length, c2⟩⟩ ⟨bs, cs⟩ ⟨rd_up hr1 (by repeat (first | exact Below.refl _ _ | refine Below.alloc ?_ (by simp <;> omega) _ | refine below_grow_of ?_ (by simp <;> omega) _ _ | refine Below.drew ?_ | refine below_drewN ?_ _)), rd_up hr2 (by repeat (first | exact Below.refl _ _ | refine Below.alloc ?_ (by simp <;> omega) _ | refine below_grow_of ?_ (by simp <;> omega) _ _ | refine Below.drew ?_ | refine below_drewN ?_ _))⟩).mono ?_
  rw [HS.out]
  rintro e w1 ⟨rfl, hb1⟩
  have q0 : w1.cell? ⟨w.heap.size, 0, none⟩ = some (.slice A1 bs.length c1) := cell_up hb1 (by simp <;> omega) (by simp [go_sem])
  have q1 : w1.cell? ⟨w.heap.size, 1, none⟩ = some (.slice A2 cs.length c2) := cell_up hb1 (by simp <;> omega) (by simp [go_sem])
  have hB1 : Below w.heap.size w w1 := Below.trans (by repeat (first | exact Below.refl _ _ | refine Below.alloc ?_ (by simp <;> omega) _ | refine below_grow_of ?_ (by simp <;> omega) _ _ | refine Below.drew ?_ | refine below_drewN ?_ _)) (hb1.mono (by simp))
  have z1 : w.heap.size < w1.heap.size := by have := hb1.size; simp at this; omega
  clear hb1
  go_wp2
  go_loopw [3] (fun i wr => ∃ k : Nat, k ≤ 6 ∧ i = .int .i64 k ∧ Hid ((List.range k).all (pageOkB ⟨bs, cs⟩) = true) ∧ Below w.heap.size w wr ∧ wr.cell? ⟨w.heap.size, 0, none⟩ = some (.slice A1 bs.length c1) ∧ wr.cell? ⟨w.heap.size, 1, none⟩ = some (.slice A2 cs.length c2) ∧ w.heap.size < wr.heap.size) (fun i _ => 6 - (intOf i).toNat)
  case atStart => exact ⟨0, Nat.zero_le _, rfl, rfl, hB1, q0, q1, z1⟩
  case round =>
    obtain ⟨i, hi, rfl, HT, hb, r0, r1, hz⟩ := hrel
    clear q0 q1 hB1 z1
    by_cases hlt : i < 6
    · have HX := Hid.mk_ (show (List.range (i + 1)).all (pageOkB ⟨bs, cs⟩) = pageOkB ⟨bs, cs⟩ i by rw [List.range_succ, List.all_append, HT.out]; simp)
      by_cases k1 : pageOkB ⟨bs, cs⟩ i = true
      · have HK := Hid.mk_ k1
        clear k1
        go_wp2_with (go_at_call 145; refine (l7Page_spec _ ⟨⟨A1, bs.length, c1⟩, ⟨A2, cs.length, c2⟩⟩ ⟨bs, cs⟩ i hlt ⟨rd_up hr1 hb, rd_up hr2 hb⟩ HS.out).mono ?_; rw [HK.out]; rintro e w2 ⟨rfl, hb2⟩)
        go_roundw
        case rel => exact ⟨i + 1, by omega, by go_num, Hid.mk_ (by rw [HX.out, HK.out]), hb.trans (hb2.mono hb.size), cell_up hb2 hz r0, cell_up hb2 hz r1, Nat.lt_of_lt_of_le hz hb2.size⟩
        case measure => simp [intOf]; omega
      · have HK := Hid.mk_ ((Bool.not_eq_true _).mp k1)
        have HN := Hid.mk_ (show (List.range 6).all (pageOkB ⟨bs, cs⟩) = false from List.all_eq_false.2 ⟨i, List.mem_range.2 hlt, by rw [HK.out]; decide⟩)
        clear k1
        go_wp2_with (go_at_call 145; refine (l7Page_spec _ ⟨⟨A1, bs.length, c1⟩, ⟨A2, cs.length, c2⟩⟩ ⟨bs, cs⟩ i hlt ⟨rd_up hr1 hb, rd_up hr2 hb⟩ HS.out).mono ?_; rw [HK.out]; rintro e w2 ⟨rfl, hb2⟩)
        go_ret
        exact ⟨ret_bool (by rw [HE.out, HN.out]; simp), hb.trans (hb2.mono hb.size)⟩
    · obtain rfl : i = 6 := by omega
      go_wp2
      go_ret
      exact ⟨ret_bool (by rw [HE.out, HT.out, HS.out]; rfl), hb⟩
end Go.Proofs.YtkmggglljkmjoaaGreat

/-
  Lists of slots: searched.
-/
namespace Go.Proofs.YtkmggglljkmjoaaGreat
open Go.RowKit

theorem Tryz.stInt : ST Tryz.prog FI 24 3 := ⟨Tryz.underlying24, .int .i64 0, 8, by kernel_rfl, rfl, by decide⟩

set_option maxHeartbeats 1000000 in
theorem IndexInt_ct (w : World) (v : Value) (l : List Int) (x : Int) (h : RdL FI w w.heap.size v l) :
    Calls Tryz.prog 207 #[v, .int .i64 x] w fun e w' => e = .returned (.int .i64 (idxOf (fun y => y == x) l)) ∧ w = w' := by
  obtain ⟨A, c, hv, q1, q2, _⟩ := id h
  have hlt0 : l.length ≤ 9223372036854775807 := by unfold maxLen at q2; omega
  subst hv
  clear q1 q2
  go_enter Tryz.func207, Tryz.ntmps207
  go_wp2
  go_loop [5, 8] (fun _ i => ∃ i' : Nat, i' ≤ l.length ∧ i = .int .i64 i' ∧ Hid ((l.take i').any (fun y => y == x) = false)) (fun _ i => l.length - (intOf i).toNat)
  case atStart => exact ⟨0, Nat.zero_le _, rfl, rfl⟩
  case round =>
    obtain ⟨i, hi, rfl, HN⟩ := hrel
    by_cases hlt : i < l.length
    · obtain ⟨g, off, cap', he, hg, _, _, hc⟩ := h.at_ (List.getElem?_eq_getElem hlt)
      injection he with he1 he2 he3
      clear he2
      subst he1 he3
      have p0 : w.cell? ⟨g, off + i, none⟩ = some (.int .i64 l[i]) := by simpa [FI] using hc 0 _ rfl
      clear hc h
      by_cases hp : x = l[i]
      · have HP := Hid.mk_ (idxOf_hit (fun y => y == x) l i hlt HN.out (by simp [hp]))
        have hp' : (x == l[i]) = true := by simpa using hp
        clear hp
        go_wp2
        go_ret
        exact ⟨ret_i64 HP.out.symm, rfl⟩
      · have HP := Hid.mk_ (any_take_succ (fun y => y == x) l i hlt HN.out (by simpa using fun e => hp e.symm))
        have hp' : (x == l[i]) = false := by simpa using hp
        clear hp
        go_wp2
        go_round
        case rel => exact ⟨i + 1, by omega, by go_num, HP⟩
        case measure => simp [intOf]; omega
    · go_wp2
      go_ret
      obtain rfl : i = l.length := by omega
      exact ⟨ret_i64 (idxOf_none _ l (by simpa using HN.out)).symm, rfl⟩
set_option maxHeartbeats 1000000 in
theorem ContainsInt_ct (w : World) (v : Value) (l : List Int) (x : Int) (h : RdL FI w w.heap.size v l) :
    Calls Tryz.prog 199 #[v, .int .i64 x] w fun e w' => e = .returned (.bool (l.any fun y => y == x)) ∧ w = w' := by
  go_enter Tryz.func199, Tryz.ntmps199
  go_wp2_with fail
  refine (IndexInt_ct w v l x h).mono ?_
  rintro e w1 ⟨rfl, rfl⟩
  have HP := Hid.mk_ (idxOf_ge (fun y => y == x) l)
  go_wp2
  go_ret
  exact ⟨ret_bool HP.out, rfl⟩

set_option maxHeartbeats 1000000 in
theorem IndexFuncSL_ct (w : World) (v : Value) (t : List SV) (ll : List (List Int)) (h : RdLL FI w w.heap.size v t ll) (fid : FuncId) (cap : Array Value) (p : List Int → Bool) (hent : ∀ (A : Option Addr) (n c : Nat) (W : World), (callFunc fid (#[.agg #[.slice A n c]] ++ cap)).run Tryz.prog W = .ok (.enter fid (#[.agg #[.slice A n c]] ++ cap)) W) (hf : ∀ (A : Option Addr) (c : Nat) (l : List Int) (W : World), Below w.heap.size w W → RdL FI W W.heap.size (.slice A l.length c) l → Calls Tryz.prog fid (#[.agg #[.slice A l.length c]] ++ cap) W fun e W' => e = .returned (.bool (p l)) ∧ Below W.heap.size W W') :
    Calls Tryz.prog 230 #[v, .func (.func fid) #[] cap] w fun e w' => e = .returned (.int .i64 (idxOf p ll)) ∧ Below w.heap.size w w' := by
  obtain ⟨A, c, hv, _⟩ := id h.outer
  subst hv
  obtain ⟨en, hcap, hmx⟩ := h.len'
  have hlt0 : ll.length ≤ 9223372036854775807 := by unfold maxLen at hmx; omega
  rw [en] at h ⊢
  clear en hcap hmx
  have HF := Hid.mk_ hf
  clear hf
  go_enter Tryz.func230, Tryz.ntmps230
  go_wp2
  go_loopw [5, 8] (fun _ i wr => ∃ i' : Nat, i' ≤ ll.length ∧ i = .int .i64 i' ∧ Below w.heap.size w wr ∧ (ll.take i').any p = false) (fun _ i _ => ll.length - (intOf i).toNat)
  case atStart => exact ⟨0, Nat.zero_le _, rfl, Below.refl _ _, rfl⟩
  case round =>
    obtain ⟨i, hi, rfl, hb, hno⟩ := hrel
    have HN := Hid.mk_ hno
    clear hno
    by_cases hlt : i < ll.length
    · obtain ⟨g, o, A', c', rfl, hg, p0, r1⟩ := h.row hb hlt
      clear h
      go_wp2_with fail
      refine (HF.out A' c' ll[i] wr hb (rd_up r1 hb)).mono ?_
      rintro e w1 ⟨rfl, hb1⟩
      have hb2 := hb.trans (hb1.mono hb.size)
      by_cases hp : p ll[i] = true
      · have HP := Hid.mk_ (idxOf_hit p ll i hlt HN.out hp)
        rw [hp]
        clear hp
        go_wp2
        go_ret
        exact ⟨ret_i64 HP.out.symm, hb2⟩
      · have hp' : p ll[i] = false := by simpa using hp
        have HP := Hid.mk_ (any_take_succ p ll i hlt HN.out hp')
        rw [hp']
        clear hp hp'
        go_wp2
        go_roundw
        case rel => exact ⟨i + 1, by omega, by go_num, hb2, HP.out⟩
        case measure => simp [intOf]; omega
    · go_wp2
      go_ret
      obtain rfl : i = ll.length := by omega
      exact ⟨ret_i64 (idxOf_none p ll (by simpa using HN.out)).symm, hb⟩
set_option maxHeartbeats 1000000 in
theorem ContainsFuncSL_ct (w : World) (v : Value) (t : List SV) (ll : List (List Int)) (h : RdLL FI w w.heap.size v t ll) (fid : FuncId) (cap : Array Value) (p : List Int → Bool) (hent : ∀ (A : Option Addr) (n c : Nat) (W : World), (callFunc fid (#[.agg #[.slice A n c]] ++ cap)).run Tryz.prog W = .ok (.enter fid (#[.agg #[.slice A n c]] ++ cap)) W) (hf : ∀ (A : Option Addr) (c : Nat) (l : List Int) (W : World), Below w.heap.size w W → RdL FI W W.heap.size (.slice A l.length c) l → Calls Tryz.prog fid (#[.agg #[.slice A l.length c]] ++ cap) W fun e W' => e = .returned (.bool (p l)) ∧ Below W.heap.size W W') :
    Calls Tryz.prog 200 #[v, .func (.func fid) #[] cap] w fun e w' => e = .returned (.bool (ll.any p)) ∧ Below w.heap.size w w' := by
  have HF := Hid.mk_ hf
  clear hf
  go_enter Tryz.func200, Tryz.ntmps200
  go_wp2_with fail
  refine (IndexFuncSL_ct w v t ll h fid cap p hent HF.out).mono ?_
  rintro e w1 ⟨rfl, hb1⟩
  have HP := Hid.mk_ (idxOf_ge p ll)
  go_wp2
  go_ret
  exact ⟨ret_bool HP.out, hb1⟩

set_option maxHeartbeats 1000000 in
theorem l8Has_ct (w : World) (v : Value) (z : List Int) (x : Int) (h : RdL FI w w.heap.size v z) :
    Calls Tryz.prog 122 #[v, .int .i64 x] w fun e w' => e = .returned (.bool (z.any fun y => y == x)) ∧ Below w.heap.size w w' := by
  obtain ⟨A, c, hv, q1, q2, _⟩ := id h
  have hlt0 : z.length ≤ 9223372036854775807 := by unfold maxLen at q2; omega
  subst hv
  clear q1 q2
  go_enter Tryz.func122, Tryz.ntmps122
  go_wp2
  go_loopw [5] (fun i wr => ∃ k : Nat, k ≤ z.length ∧ i = .int .i64 k ∧ Below w.heap.size w wr ∧ (z.take k).any (fun y => y == x) = false) (fun i _ => z.length - (intOf i).toNat)
  case atStart => exact ⟨0, Nat.zero_le _, rfl, Below.refl _ _, rfl⟩
  case round =>
    obtain ⟨i, hi, rfl, hb, hno⟩ := hrel
    have HN := Hid.mk_ hno
    clear hno
    by_cases hlt : i < z.length
    · obtain ⟨g, off, cap', he, hg, _, _, hc⟩ := (h.below hb).at_ (List.getElem?_eq_getElem hlt)
      injection he with he1 he2 he3
      clear he2
      subst he1 he3
      have p0 : wr.cell? ⟨g, off + i, none⟩ = some (.int .i64 z[i]) := by simpa [FI] using hc 0 _ rfl
      clear hc h
      by_cases hz : z[i] = x
      · have hz1 : (z[i] == x) = true := by simpa using hz
        have HP := Hid.mk_ (show (z.any fun y => y == x) = true from List.any_eq_true.2 ⟨z[i], List.getElem_mem hlt, hz1⟩)
        clear hz
        go_wp2
        go_ret
        exact ⟨ret_bool HP.out.symm, hb⟩
      · have hz1 : (z[i] == x) = false := by simpa using hz
        have HP := Hid.mk_ (any_take_succ (fun y => y == x) z i hlt HN.out hz1)
        clear hz
        go_wp2
        go_roundw
        case rel => exact ⟨i + 1, by omega, by go_num, hb, HP.out⟩
        case measure => simp [intOf]; omega
    · go_wp2
      go_ret
      obtain rfl : i = z.length := by omega
      exact ⟨ret_bool (by simpa using HN.out.symm), hb⟩

def onListB (l : Lists) (s : Int) : Bool := (l.Global.any fun r => r.any fun y => y == s) || (l.Own.any fun r => r.any fun y => y == s)
theorem any_flatten_ {α : Type} (p : α → Bool) (ll : List (List α)) : ll.flatten.any p = ll.any fun l => l.any p := by
  induction ll with
  | nil => rfl
  | cons a l ih => simp [ih]
def allL (l : Lists) : List Int := l.Global.flatten ++ l.Own.flatten
theorem onListB_all (l : Lists) (s : Int) : onListB l s = (allL l).any fun y => y == s := by
  unfold onListB allL
  rw [List.any_append, any_flatten_, any_flatten_]

set_option maxHeartbeats 1000000 in
theorem OnList1_impl (A : Option Addr) (c : Nat) (l : List Int) (slot : Int) (b : Nat) (w : World) (h : RdL FI w w.heap.size (.slice A l.length c) l) (h0 : w.cell? ⟨b, 0, none⟩ = some (.int .i64 slot)) (hb : b < w.heap.size) :
    Calls Tryz.prog 198 #[.agg #[.slice A l.length c], .pointer (some ⟨b, 0, none⟩)] w fun e w' => e = .returned (.bool (l.any fun y => y == slot)) ∧ Below w.heap.size w w' := by
  go_enter Tryz.func198, Tryz.ntmps198
  go_wp2_with fail
  refine (ContainsInt_ct _ _ l slot (rd_up h (by repeat (first | exact Below.refl _ _ | refine Below.alloc ?_ (by simp <;> omega) _ | refine below_grow_of ?_ (by simp <;> omega) _ _ | refine Below.drew ?_ | refine below_drewN ?_ _)))).mono ?_
  rintro e w1 ⟨rfl, rfl⟩
  go_wp2
  go_ret
  exact ⟨rfl, by repeat (first | exact Below.refl _ _ | refine Below.alloc ?_ (by simp <;> omega) _ | refine below_grow_of ?_ (by simp <;> omega) _ _ | refine Below.drew ?_ | refine below_drewN ?_ _)⟩
set_option maxRecDepth 100000 in
set_option maxHeartbeats 1000000 in
theorem OnList_impl (w : World) (H : HLists) (x : Lists) (s : Int) (h : RdLists w w.heap.size H x) :
    Calls Tryz.prog 143 #[.agg #[.slice H.Global.a H.Global.len H.Global.cap, .slice H.Own.a H.Own.len H.Own.cap], .int .i64 s] w fun e w' => e = .returned (.bool (onListB x s)) ∧ Below w.heap.size w w' := by
  obtain ⟨⟨A1, n1, c1⟩, T1, ⟨A2, n2, c2⟩, T2⟩ := H
  obtain ⟨gl, ow⟩ := x
  have hr1 : RdLL FI w w.heap.size (.slice A1 n1 c1) T1 gl := h.Global
  have hr2 : RdLL FI w w.heap.size (.slice A2 n2 c2) T2 ow := h.Own
  obtain ⟨en1, _, hmx⟩ := hr1.len'
  have hlt1 : gl.length ≤ 9223372036854775807 := by unfold maxLen at hmx; omega
  clear hmx
  obtain ⟨en2, _, hmx⟩ := hr2.len'
  have hlt2 : ow.length ≤ 9223372036854775807 := by unfold maxLen at hmx; omega
  clear hmx h
  subst en1 en2
  have HE := Hid.mk_ (show onListB ⟨gl, ow⟩ s = ((gl.any fun r => r.any fun y => y == s) || (ow.any fun r => r.any fun y => y == s)) from rfl)
  show Calls Tryz.prog 143 #[.agg #[.slice A1 gl.length c1, .slice A2 ow.length c2], .int .i64 s] _ _
  go_enter Tryz.func143, Tryz.ntmps143
  go_wp2_with fail
  refine (ContainsFuncSL_ct _ _ T1 gl (rdLL_up hr1 (by repeat (first | exact Below.refl _ _ | refine Below.alloc ?_ (by simp <;> omega) _ | refine below_grow_of ?_ (by simp <;> omega) _ _ | refine Below.drew ?_ | refine below_drewN ?_ _))) 198 #[.pointer (some ⟨w.heap.size + 1, 0, none⟩)] (fun l => l.any fun y => y == s) (fun _ _ _ _ => by kernel_rfl) (fun A c l W hW hr => OnList1_impl A c l s (w.heap.size + 1) W hr ((hW.cell (p := ⟨w.heap.size + 1, 0, none⟩) (by simp)).trans (by simp [go_sem])) (by have := hW.size; simp at this; omega))).mono ?_
  rintro e w1 ⟨rfl, hb1⟩
  have q0 : w1.cell? ⟨w.heap.size, 0, none⟩ = some (.slice A1 gl.length c1) := cell_up hb1 (by simp <;> omega) (by simp [go_sem])
  have q1 : w1.cell? ⟨w.heap.size, 1, none⟩ = some (.slice A2 ow.length c2) := cell_up hb1 (by simp <;> omega) (by simp [go_sem])
  have q2 : w1.cell? ⟨w.heap.size + 1, 0, none⟩ = some (.int .i64 s) := cell_up hb1 (by simp <;> omega) (by simp [go_sem])
  have hB1 : Below w.heap.size w w1 := Below.trans (by repeat (first | exact Below.refl _ _ | refine Below.alloc ?_ (by simp <;> omega) _ | refine below_grow_of ?_ (by simp <;> omega) _ _ | refine Below.drew ?_ | refine below_drewN ?_ _)) (hb1.mono (by simp <;> omega))
  have z1 : w.heap.size + 1 < w1.heap.size := by have := hb1.size; simp at this; omega
  clear hb1
  by_cases k1 : (gl.any fun r => r.any fun y => y == s) = true
  · have K1 := Hid.mk_ k1
    rw [k1]
    clear k1
    go_wp2
    go_ret
    exact ⟨ret_bool (by rw [HE.out, K1.out]; rfl), hB1⟩
  · have k1' : (gl.any fun r => r.any fun y => y == s) = false := (Bool.not_eq_true _).mp k1
    have K1 := Hid.mk_ k1'
    rw [k1']
    clear k1 k1'
    go_wp2_with fail
    refine (ContainsFuncSL_ct _ _ T2 ow (rdLL_up hr2 hB1) 198 #[.pointer (some ⟨w.heap.size + 1, 0, none⟩)] (fun l => l.any fun y => y == s) (fun _ _ _ _ => by kernel_rfl) (fun A c l W hW hr => OnList1_impl A c l s (w.heap.size + 1) W hr ((hW.cell (p := ⟨w.heap.size + 1, 0, none⟩) z1).trans q2) (Nat.lt_of_lt_of_le z1 hW.size))).mono ?_
    rintro e w2 ⟨rfl, hb2⟩
    go_wp2
    go_ret
    exact ⟨ret_bool (by rw [HE.out, K1.out]; rfl), hB1.trans (hb2.mono hB1.size)⟩

theorem gcell {w w' : World} {r : Option Nat} (h : w.grownBy w' r) (g i : Nat) (hg : g < w.heap.size) (hn : r ≠ some g) : w'.cell? ⟨g, i, none⟩ = w.cell? ⟨g, i, none⟩ := by
  simp [World.cell?, h.block g hg (fun e => hn e.symm)]
set_option maxRecDepth 100000 in
set_option maxHeartbeats 1000000 in
theorem l8All_ct (w : World) (H : HLists) (x : Lists) (h : RdLists w w.heap.size H x) (hs1 : szLL x.Global ≤ 536870912) (hs2 : szLL x.Own ≤ 536870912) :
    Calls Tryz.prog 146 #[.agg #[.slice H.Global.a H.Global.len H.Global.cap, .slice H.Own.a H.Own.len H.Own.cap]] w fun e w' => ∃ v', e = .returned v' ∧ OwL FI 3 w' v' (allL x) ∧ (∀ g ∈ foot1 v', w.heap.size ≤ g) ∧ Below w.heap.size w w' := by
  obtain ⟨⟨A1, n1, c1⟩, T1, ⟨A2, n2, c2⟩, T2⟩ := H
  obtain ⟨gl, ow⟩ := x
  have hr1 : RdLL FI w w.heap.size (.slice A1 n1 c1) T1 gl := h.Global
  have hr2 : RdLL FI w w.heap.size (.slice A2 n2 c2) T2 ow := h.Own
  obtain ⟨en1, _, hmx⟩ := hr1.len'
  have hlt1 : gl.length ≤ 9223372036854775807 := by unfold maxLen at hmx; omega
  clear hmx
  obtain ⟨en2, _, hmx⟩ := hr2.len'
  have hlt2 : ow.length ≤ 9223372036854775807 := by unfold maxLen at hmx; omega
  clear hmx h
  subst en1 en2
  simp only at hs1 hs2
  have HAL := Hid.mk_ (show allL ⟨gl, ow⟩ = gl.flatten ++ ow.flatten from rfl)
  show Calls Tryz.prog 146 #[.agg #[.slice A1 gl.length c1, .slice A2 ow.length c2]] _ _
  go_enter Tryz.func146, Tryz.ntmps146
  go_wp2
  go_loopw [3, 4] (fun o i wr => ∃ k : Nat, k ≤ gl.length ∧ i = .int .i64 k ∧ OwL FI 3 wr o ((gl.take k).flatten) ∧ (∀ g ∈ foot1 o, w.heap.size < g) ∧ Below w.heap.size w wr ∧ wr.cell? ⟨w.heap.size, 0, none⟩ = some (.slice A1 gl.length c1) ∧ wr.cell? ⟨w.heap.size, 1, none⟩ = some (.slice A2 ow.length c2) ∧ w.heap.size < wr.heap.size) (fun _ i _ => gl.length - (intOf i).toNat)
  case atStart => exact ⟨0, Nat.zero_le _, rfl, (by have hq := OwL.lit FI [] #[] rfl (by decide) (w.alloc (.cells #[.slice A1 gl.length c1, .slice A2 ow.length c2] 29)) 3; simpa using hq), by simp [foot1, Value.ownBlock], by repeat (first | exact Below.refl _ _ | refine Below.alloc ?_ (by simp <;> omega) _ | refine below_grow_of ?_ (by simp <;> omega) _ _ | refine Below.drew ?_ | refine below_drewN ?_ _), by simp [go_sem], by simp [go_sem], by simp; omega⟩
  case round =>
    obtain ⟨i, hi, rfl, ho, hfo, hb, r0, r1, hz⟩ := hrel
    by_cases hlt : i < gl.length
    · obtain ⟨g, o, A', c', hAe, hg, p0, rr1⟩ := hr1.row hb hlt
      subst hAe
      have hfl : ((gl.take i).flatten).length + gl[i].length ≤ 1073741824 := by
        have a := totLL_take_succ gl i hlt
        have b := totLL_take_le gl (i + 1)
        have c : totLL gl ≤ szLL gl := Nat.le_add_left _ _
        rw [← totLL_eq]
        omega
      have HF := Hid.mk_ (show (gl.take (i + 1)).flatten = ((gl.take i).flatten) ++ gl[i] from by rw [List.take_succ_eq_append_getElem hlt, List.flatten_append, List.flatten_singleton])
      clear hr1 hr2
      go_wp2_with (at_builtin; refine wpList_append_flat Tryz.stInt rfl _ _ rfl (v := u3) (y := .slice A' gl[i].length c') (l := (gl.take i).flatten) (m := gl[i]) rfl rfl ho (rd_up rr1 hb) hfl ?_; intro v' w3 ho' hg' hat')
      have hb3 : Below w.heap.size w w3 := hb.grown hg' hb.size (fun k hk => Nat.le_of_lt (hfo k (mem_foot1.2 hk)))
      have s0 := (gcell hg' w.heap.size 0 hz (fun hm => by have := hfo _ (mem_foot1.2 hm); omega)).trans r0
      have s1 := (gcell hg' w.heap.size 1 hz (fun hm => by have := hfo _ (mem_foot1.2 hm); omega)).trans r1
      go_roundw
      case rel => exact ⟨i + 1, by omega, by go_num, by rw [HF.out]; exact ho', fun b hb' => by rcases foot_app hat' b hb' with h | h; (exact hfo b h); (have := hb.size; omega), hb3, s0, s1, Nat.lt_of_lt_of_le hz hg'.size⟩
      case measure => simp [intOf]; omega
    · obtain rfl : i = gl.length := by omega
      rw [List.take_length] at ho
      go_wp2
      go_loopw [3, 5] (fun o i wr => ∃ k : Nat, k ≤ ow.length ∧ i = .int .i64 k ∧ OwL FI 3 wr o (gl.flatten ++ (ow.take k).flatten) ∧ (∀ g ∈ foot1 o, w.heap.size < g) ∧ Below w.heap.size w wr ∧ wr.cell? ⟨w.heap.size, 0, none⟩ = some (.slice A1 gl.length c1) ∧ wr.cell? ⟨w.heap.size, 1, none⟩ = some (.slice A2 ow.length c2) ∧ w.heap.size < wr.heap.size) (fun _ i _ => ow.length - (intOf i).toNat)
      case atStart => exact ⟨0, Nat.zero_le _, rfl, by simpa using ho, hfo, hb, r0, r1, hz⟩
      case round =>
        obtain ⟨i, hi, rfl, ho, hfo, hb, r0, r1, hz⟩ := hrel
        by_cases hlt : i < ow.length
        · obtain ⟨g, o, A', c', hAe, hg, p0, rr1⟩ := hr2.row hb hlt
          subst hAe
          have hfl : (gl.flatten ++ (ow.take i).flatten).length + ow[i].length ≤ 1073741824 := by
            have a := totLL_take_succ ow i hlt
            have b := totLL_take_le ow (i + 1)
            have c : totLL ow ≤ szLL ow := Nat.le_add_left _ _
            simp only [List.length_append]; rw [← totLL_eq, ← totLL_eq]; have d : totLL gl ≤ szLL gl := Nat.le_add_left _ _
            omega
          have HF := Hid.mk_ (show gl.flatten ++ (ow.take (i + 1)).flatten = (gl.flatten ++ (ow.take i).flatten) ++ ow[i] from by rw [List.take_succ_eq_append_getElem hlt, List.flatten_append, List.flatten_singleton]; rw [List.append_assoc])
          clear hr1 hr2
          go_wp2_with (at_builtin; refine wpList_append_flat Tryz.stInt rfl _ _ rfl (v := u3) (y := .slice A' ow[i].length c') (l := gl.flatten ++ (ow.take i).flatten) (m := ow[i]) rfl rfl ho (rd_up rr1 hb) hfl ?_; intro v' w3 ho' hg' hat')
          have hb3 : Below w.heap.size w w3 := hb.grown hg' hb.size (fun k hk => Nat.le_of_lt (hfo k (mem_foot1.2 hk)))
          have s0 := (gcell hg' w.heap.size 0 hz (fun hm => by have := hfo _ (mem_foot1.2 hm); omega)).trans r0
          have s1 := (gcell hg' w.heap.size 1 hz (fun hm => by have := hfo _ (mem_foot1.2 hm); omega)).trans r1
          go_roundw
          case rel => exact ⟨i + 1, by omega, by go_num, by rw [HF.out]; exact ho', fun b hb' => by rcases foot_app hat' b hb' with h | h; (exact hfo b h); (have := hb.size; omega), hb3, s0, s1, Nat.lt_of_lt_of_le hz hg'.size⟩
          case measure => simp [intOf]; omega
        · obtain rfl : i = ow.length := by omega
          go_wp2
          go_ret
          refine ⟨_, rfl, ?_, fun g hg => Nat.le_of_lt (hfo g hg), hb⟩
          rw [HAL.out]
          simpa using ho

set_option maxHeartbeats 1000000 in
theorem OnList_spec (w : World) (H : HLists) (x : Lists) (s : Int) (h : RdLists w w.heap.size H x) (hs1 : szLL x.Global ≤ 536870912) (hs2 : szLL x.Own ≤ 536870912) :
    Calls Tryz.prog 151 #[.agg #[.slice H.Global.a H.Global.len H.Global.cap, .slice H.Own.a H.Own.len H.Own.cap], .int .i64 s] w fun e w' => e = .returned (.bool (onListB x s)) ∧ Below w.heap.size w w' := by
  obtain ⟨⟨A1, n1, c1⟩, T1, ⟨A2, n2, c2⟩, T2⟩ := H
  obtain ⟨gl, ow⟩ := x
  have hr1 : RdLL FI w w.heap.size (.slice A1 n1 c1) T1 gl := h.Global
  have hr2 : RdLL FI w w.heap.size (.slice A2 n2 c2) T2 ow := h.Own
  obtain ⟨en1, _, hmx⟩ := hr1.len'
  have hlt1 : gl.length ≤ 9223372036854775807 := by unfold maxLen at hmx; omega
  clear hmx
  obtain ⟨en2, _, hmx⟩ := hr2.len'
  have hlt2 : ow.length ≤ 9223372036854775807 := by unfold maxLen at hmx; omega
  clear hmx h
  subst en1 en2
  simp only at hs1 hs2
  have HE := Hid.mk_ (onListB_all ⟨gl, ow⟩ s)
  show Calls Tryz.prog 151 #[.agg #[.slice A1 gl.length c1, .slice A2 ow.length c2], .int .i64 s] _ _
  go_enter Tryz.func151, Tryz.ntmps151
  go_wp2_with fail
  refine (l8All_ct _ ⟨⟨A1, gl.length, c1⟩, T1, ⟨A2, ow.length, c2⟩, T2⟩ ⟨gl, ow⟩ ⟨rdLL_up hr1 (by repeat (first | exact Below.refl _ _ | refine Below.alloc ?_ (by simp <;> omega) _ | refine below_grow_of ?_ (by simp <;> omega) _ _ | refine Below.drew ?_ | refine below_drewN ?_ _)), rdLL_up hr2 (by repeat (first | exact Below.refl _ _ | refine Below.alloc ?_ (by simp <;> omega) _ | refine below_grow_of ?_ (by simp <;> omega) _ _ | refine Below.drew ?_ | refine below_drewN ?_ _))⟩ hs1 hs2).mono ?_
  rintro e w1 ⟨v', rfl, ho, hf, hb0⟩
  have hB1 : Below w.heap.size w w1 := Below.trans (by repeat (first | exact Below.refl _ _ | refine Below.alloc ?_ (by simp <;> omega) _ | refine below_grow_of ?_ (by simp <;> omega) _ _ | refine Below.drew ?_ | refine below_drewN ?_ _)) (hb0.mono (by simp <;> omega))
  clear hf hb0
  generalize allL ⟨gl, ow⟩ = L at ho HE
  go_wp2_with fail
  refine (l8Has_ct _ _ L s ho.rd').mono ?_
  rintro e w2 ⟨rfl, hb2⟩
  go_wp2
  go_ret
  exact ⟨ret_bool HE.out.symm, hB1.trans (hb2.mono hB1.size)⟩
end Go.Proofs.YtkmggglljkmjoaaGreat

/-
  Lists of slots, memories: plain definitions and facts.
-/
namespace Go.Proofs.YtkmggglljkmjoaaGreat
open Go.RowKit
def seenOk (L : List Int) : Bool := L.all (inB 0 23) && decide L.Nodup
theorem any_eq_mem (L : List Int) (x : Int) : (L.any fun y => y == x) = decide (x ∈ L) := by
  rw [Bool.eq_iff_iff]
  simp
theorem nodup_snoc {L : List Int} {x : Int} : (L ++ [x]).Nodup ↔ L.Nodup ∧ x ∉ L := by
  rw [List.nodup_append]
  constructor
  · rintro ⟨a, _, b⟩
    exact ⟨a, fun h => b x h x (List.mem_singleton_self x) rfl⟩
  · rintro ⟨a, b⟩
    refine ⟨a, by simp, fun u hu v hv e => ?_⟩
    rw [List.mem_singleton.1 hv] at e
    exact b (e ▸ hu)
theorem seen_step {L : List Int} {p : Nat} (hp : p < L.length) (h : seenOk (L.take p) = true) (h1 : inB 0 23 L[p] = true) (h2 : ((L.take p).any fun y => y == L[p]) = false) : seenOk (L.take (p + 1)) = true := by
  rw [any_eq_mem, decide_eq_false_iff_not] at h2
  unfold seenOk at *
  rw [List.take_succ_eq_append_getElem hp, List.all_append]
  simp only [Bool.and_eq_true, decide_eq_true_eq] at *
  exact ⟨⟨h.1, by simp [h1]⟩, nodup_snoc.2 ⟨h.2, h2⟩⟩
theorem seen_no1 {L : List Int} {p : Nat} (hp : p < L.length) (h1 : inB 0 23 L[p] = false) : seenOk L = false := by
  unfold seenOk
  have : L.all (inB 0 23) = false := List.all_eq_false.2 ⟨L[p], List.getElem_mem hp, by rw [h1]; decide⟩
  rw [this]
  rfl
theorem seen_no2 {L : List Int} {p : Nat} (hp : p < L.length) (h2 : ((L.take p).any fun y => y == L[p]) = true) : seenOk L = false := by
  rw [any_eq_mem, decide_eq_true_eq] at h2
  unfold seenOk
  have : ¬ L.Nodup := fun hn => by
    have e : L = L.take p ++ L.drop p := (List.take_append_drop p L).symm
    rw [e, List.nodup_append] at hn
    exact hn.2.2 L[p] h2 L[p] (by rw [List.drop_eq_getElem_cons hp]; exact List.mem_cons_self) rfl
  rw [decide_eq_false this, Bool.and_false]
theorem seen_perm {L M : List Int} (h : L.Perm M) : seenOk L = seenOk M := by
  unfold seenOk
  rw [Bool.eq_iff_iff]
  simp only [Bool.and_eq_true, decide_eq_true_eq, List.all_eq_true]
  exact ⟨fun ⟨a, b⟩ => ⟨fun x hx => a x (h.mem_iff.2 hx), h.nodup_iff.1 b⟩, fun ⟨a, b⟩ => ⟨fun x hx => a x (h.mem_iff.1 hx), h.nodup_iff.2 b⟩⟩
theorem flat_at {α : Type} (ll : List (List α)) (i j : Nat) (hi : i < ll.length) (hj : j < ll[i].length) : ll.flatten[totLL (ll.take i) + j]? = some ll[i][j] := by
  have e : ll.flatten = (ll.take i).flatten ++ (ll[i] ++ (ll.drop (i + 1)).flatten) := by
    rw [← List.flatten_cons, ← List.flatten_append, ← List.drop_eq_getElem_cons hi, List.take_append_drop]
  rw [e, totLL_eq, List.getElem?_append_right (by omega), Nat.add_sub_cancel_left, List.getElem?_append_left hj, List.getElem?_eq_getElem hj]
def metI (M : List Int) : List Bool := (List.range 24).map fun (s : Nat) => M.any fun z => z == (s : Int)
theorem metI_len (M : List Int) : (metI M).length = 24 := by simp [metI]
theorem metI_zero : metI [] = List.replicate 24 false := rfl
theorem metI_get (M : List Int) (s : Nat) (hs : s < 24) : (metI M)[s]? = some (M.any fun z => z == (s : Int)) := by simp [metI, hs]
theorem metI_set (L : List Int) (p s : Nat) (hp : p < L.length) (hm : L[p] = (s : Int)) : (metI (L.take p)).set s true = metI (L.take (p + 1)) := by
  apply List.ext_getElem?
  intro k
  by_cases hk : k < 24
  · rw [List.getElem?_set, metI_get _ _ hk, metI_get _ _ hk, List.take_succ_eq_append_getElem hp, List.any_append, metI_len]
    by_cases hks : s = k
    · subst hks
      simp [hm, hk]
    · have : ((s : Int) == (k : Int)) = false := by simp; omega
      simp only [if_neg hks, List.any_cons, List.any_nil, hm, this, Bool.or_false]
  · rw [List.getElem?_eq_none (by simp [metI_len]; omega), List.getElem?_eq_none (by simp [metI_len]; omega)]
def shortB (l : List Int) : Bool := decide (l.length ≤ 2)
def listsOkB (x : Lists) : Bool := (x.Global.length == 3) && (x.Own.length == 9) && x.Own.all shortB && seenOk (allL x)
theorem lists_rows (x : Lists) : seenOk (x.Own ++ x.Global).flatten = seenOk (allL x) := by
  refine seen_perm ?_
  unfold allL
  rw [List.flatten_append]
  exact List.perm_append_comm
theorem all_step {α : Type} {p : α → Bool} {l : List α} {i : Nat} (hi : i < l.length) (h : (l.take i).all p = true) (hp : p l[i] = true) : (l.take (i + 1)).all p = true := by
  rw [List.take_succ_eq_append_getElem hi, List.all_append, h]
  simp [hp]
theorem all_no {α : Type} {p : α → Bool} {l : List α} {i : Nat} (hi : i < l.length) (hp : p l[i] = false) : l.all p = false :=
  List.all_eq_false.2 ⟨l[i], List.getElem_mem hi, by rw [hp]; decide⟩
def fitsB (h : Heap) (c s : Int) : Bool := (classInB h s == c) && decide (genInB h s ≤ 6)
def memOkB (m : Mem) : Bool := heapOkB m.Heap && listsOkB m.Lists && ((List.range 3).all fun c => (m.Lists.Global.getD c []).all (fitsB m.Heap c)) && ((List.range 9).all fun k => (m.Lists.Own.getD k []).all (fitsB m.Heap ((k % 3 : Nat) : Int)))
def stateB (m : Mem) (s : Int) : Int := if classInB m.Heap s < 0 then 0 else if onListB m.Lists s = true then 1 else if 6 < genInB m.Heap s then 2 else 3
def handleOkB (h : Int) : Bool := decide (32 ≤ h) && decide (h ≤ 223) && decide (h % 32 < 24)
def liveB (m : Mem) (h : Int) : Bool := handleOkB h && (stateB m (h % 32) == 3) && (genInB m.Heap (h % 32) == h / 32)
theorem heap_shape {h : Heap} (k : heapOkB h = true) : shapeB h = true := by
  unfold heapOkB at k
  simp only [Bool.and_eq_true] at k
  exact k.1
theorem mem_heap {m : Mem} (k : memOkB m = true) : heapOkB m.Heap = true := by
  unfold memOkB at k
  simp only [Bool.and_eq_true] at k
  exact k.1.1.1
theorem mem_lists {m : Mem} (k : memOkB m = true) : listsOkB m.Lists = true := by
  unfold memOkB at k
  simp only [Bool.and_eq_true] at k
  exact k.1.1.2
end Go.Proofs.YtkmggglljkmjoaaGreat

/-
  Boxes: the cells of a block that the call made itself, in a world that is known only so far.
-/
namespace Go.Proofs.YtkmggglljkmjoaaGreat
open Go.RowKit
variable {α : Type} {T : FT α}
structure Box (w : World) (g : Nat) (vs : List Value) : Prop where
  lt : g < w.heap.size
  cell : ∀ j v, vs[j]? = some v → w.cell? ⟨g, j, none⟩ = some v
  fro : ∀ j, w.frozen? ⟨g, j, none⟩ = false
theorem Box.of_block {w w' : World} {g : Nat} {vs : List Value} (h : Box w g vs) (hs : w.heap.size ≤ w'.heap.size) (hb : w'.heap[g]? = w.heap[g]?) : Box w' g vs :=
  ⟨Nat.lt_of_lt_of_le h.lt hs, fun j v hv => by simpa [World.cell?, hb] using h.cell j v hv, fun j => by simpa [World.frozen?, hb] using h.fro j⟩
theorem Box.below {w w' : World} {g : Nat} {vs : List Value} (h : Box w g vs) (hb : Below w.heap.size w w') : Box w' g vs := h.of_block hb.size (hb.block g h.lt)
theorem Box.chg {w w' : World} {g : Nat} {vs : List Value} {F : List Nat} (h : Box w g vs) (hc : Chg F w w') (hn : g ∉ F) : Box w' g vs := h.of_block hc.size (hc.block g h.lt hn)
theorem heap_set_other (w : World) {g g' i : Nat} (v : Value) (hn : g ≠ g') : (w.setCell ⟨g, i, none⟩ v).heap[g']? = w.heap[g']? := Below.heap_setCell _ _ _ _ (fun e => hn e.symm)
theorem Box.other {w : World} {g : Nat} {vs : List Value} (h : Box w g vs) {g' i : Nat} (hn : g' ≠ g) (v : Value) : Box (w.setCell ⟨g', i, none⟩ v) g vs := h.of_block (by simp) (heap_set_other w v hn)
theorem Box.set {w : World} {g : Nat} {vs : List Value} (h : Box w g vs) (i : Nat) (v : Value) : Box (w.setCell ⟨g, i, none⟩ v) g (vs.set i v) := by
  refine ⟨by simpa using h.lt, fun j u hu => ?_, fun j => ?_⟩
  · by_cases hij : i = j
    · subst hij
      rw [List.getElem?_set] at hu
      by_cases hl : i < vs.length
      · simp [hl] at hu
        subst hu
        have := h.cell i _ (List.getElem?_eq_getElem hl)
        simp [go_sem, this]
      · simp [hl] at hu
    · rw [List.getElem?_set, if_neg hij] at hu
      rw [World.cell?_setCell_other _ _ _ _ (by intro e; simp only [Addr.mk.injEq] at e; omega)]
      exact h.cell j u hu
  · have := h.fro j
    simp [go_sem, this]
theorem Box.alloc {w : World} {g : Nat} {vs : List Value} (h : Box w g vs) (o : Obj) : Box (w.alloc o) g vs := h.of_block (by simp) (Below.heap_alloc w o g h.lt)
theorem Box.drew {w : World} {g : Nat} {vs : List Value} (h : Box w g vs) : Box w.drew g vs := h.of_block (Nat.le_refl _) rfl
theorem Box.drewN {w : World} {g : Nat} {vs : List Value} (h : Box w g vs) (n : Nat) : Box (w.drewN n) g vs := h.of_block (Nat.le_refl _) rfl
theorem Box.new (w : World) (vs : Array Value) (ty : TypeId) : Box (w.alloc (.cells vs ty)) w.heap.size vs.toList := by
  refine ⟨by simp, fun j v hv => ?_, fun j => by simp [go_sem]⟩
  have : vs[j]? = some v := by simpa using hv
  simp only [World.cell?, heap_alloc_last]
  exact this
theorem Chg.set_ {F : List Nat} {w w' : World} (h : Chg F w w') {g i : Nat} (hg : g ∈ F) (v : Value) : Chg F w (w'.setCell ⟨g, i, none⟩ v) :=
  ⟨h.os, h.tape, h.output, by simpa using h.size, fun k hk hn => (Below.heap_setCell _ _ _ _ (fun e => by have e' : k = g := e; exact hn (e' ▸ hg))).trans (h.block k hk hn)⟩
theorem Chg.alloc_ {F : List Nat} {w w' : World} (h : Chg F w w') (o : Obj) : Chg F w (w'.alloc o) :=
  ⟨h.os, h.tape, h.output, Nat.le_trans h.size (by simp), fun k hk hn => (Below.heap_alloc w' o k (Nat.lt_of_lt_of_le hk h.size)).trans (h.block k hk hn)⟩
theorem RdL.len_ {w : World} {B : Nat} {a : Option Addr} {n c : Nat} {l : List α} (h : RdL T w B (.slice a n c) l) : n = l.length ∧ n ≤ 9223372036854775807 := by
  obtain ⟨A, c', hv, q1, q2, _⟩ := id h
  injection hv with h1 h2 h3
  refine ⟨h2, ?_⟩
  unfold maxLen at q2
  omega
end Go.Proofs.YtkmggglljkmjoaaGreat

/-
  Lists of lists put one behind the other: slices.Grow, slices.Concat.
-/
namespace Go.Proofs.YtkmggglljkmjoaaGreat
open Go.RowKit
theorem Tryz.infoSL : (Tryz.prog.info? 94).map (fun i => (i.zero, i.size, i.bytes)) = some (some (.agg #[.slice none 0 0]), FS.n, 24) := by kernel_rfl
theorem Tryz.stSL : ST Tryz.prog FS 27 94 := ⟨Tryz.underlying27, .agg #[.slice none 0 0], 24, by kernel_rfl, rfl, by decide⟩
set_option maxRecDepth 100000 in
set_option maxHeartbeats 1000000 in
theorem GrowSL_ct (w : World) (n : Nat) (hn : 0 < n) (hn2 : n ≤ 1000) :
    Calls Tryz.prog 229 #[.slice none 0 0, .int .i64 n] w fun e w' => ∃ v, e = .returned v ∧ OwL FS 94 w' v [] ∧ (∀ g ∈ foot1 v, w.heap.size ≤ g) ∧ Below w.heap.size w w' := by
  obtain ⟨i, hi, hzz⟩ := Option.map_eq_some_iff.1 Tryz.infoSL
  simp only [Prod.mk.injEq] at hzz
  obtain ⟨q1, q2, q3⟩ := hzz
  have hrz : ∀ ty, (Builtin.append_ #[27, 3] ty #[.slice none 0 0, .int .i64 (n : Int)]).run Tryz.prog w =
      .ok (.slice (some ⟨w.heap.size, 0, none⟩) n (grownCap w n 0 94)) (w.drew.alloc (.cells (Builtin.zeroCells #[.slice none 0 0] n ++ Builtin.zeroCells #[.slice none 0 0] (grownCap w n 0 94 - n)) 94)) := fun ty => by
    have h := Lib.run_append_grow_zeros w 27 3 ty 94 i _ .i64 .i64 Tryz.underlying27 Tryz.underlying3 hi q1 none 0 0 [] (run_firstCells_none w.drew i.size 0 0 0) n hn (by rw [q2]; decide) (by omega) (by omega) (by rw [q3]; omega) (by rw [q3]; exact growslice_fits (by omega) (by omega))
    simpa [Value.cells] using h
  have hG0 := grownCap_ge w n 0 94
  have hGm := grownCap_le_maxLen w n 0 94 (by unfold maxLen; omega)
  generalize grownCap w n 0 94 = G at hrz hG0 hGm
  have hG1 : G ≤ 9223372036854775807 := by unfold maxLen at hGm; omega
  have how := World.ownsRow_made (base := 0) (e := 94) (size := 1) w.drew (Builtin.zeroCells #[.slice none 0 0] n ++ Builtin.zeroCells #[.slice none 0 0] (G - n)) G (Nat.zero_le _) hGm (by simp [Builtin.zeroCells]; omega)
  have hGn : ¬ (n : Int) ≤ 0 := by omega
  clear hi q1 q2 q3 hGm
  go_enter Tryz.func229, Tryz.ntmps229
  go_wp2_with (at_builtin; refine Lib.wpList_append_run _ rfl _ _ _ _ rfl _ _ rfl rfl _ _ (hrz _) ?_)
  go_ret
  refine ⟨_, rfl, ?_, ?_, ?_⟩
  · unfold OwL
    exact how
  · simp [foot1, Value.ownBlock]
  · exact Below.alloc (Below.drew (Below.refl _ _)) (by simp) _
theorem below_app {w w' : World} {B : Nat} (h : Below B w w') (hB : B ≤ w.heap.size) (v : Value) (w2 : World) (hg : w'.grownBy w2 v.ownBlock) (hf : ∀ g ∈ foot1 v, B ≤ g) : Below B w w2   := h.grown hg (Nat.le_trans hB h.size) (fun k hk => hf k (mem_foot1.2 hk))
set_option maxRecDepth 100000 in
set_option maxHeartbeats 1000000 in
theorem ConcatSL_ct (w : World) (gb : Nat) (A1 A2 : Option Addr) (c1 c2 : Nat) (T1 T2 : List SV) (bb : Box w gb [.slice A1 9 c1, .slice A2 3 c2]) (h1 : RdL FS w w.heap.size (.slice A1 9 c1) T1) (h2 : RdL FS w w.heap.size (.slice A2 3 c2) T2) :
    Calls Tryz.prog 197 #[.slice (some ⟨gb, 0, none⟩) 2 2] w fun e w' => ∃ v, e = .returned v ∧ OwL FS 94 w' v (T1 ++ T2) ∧ (∀ g ∈ foot1 v, w.heap.size ≤ g) ∧ Below w.heap.size w w' := by
  have l1 := (RdL.len_ h1).1
  have l2 := (RdL.len_ h2).1
  have p0 := bb.cell 0 _ rfl
  have p1 := bb.cell 1 _ rfl
  have plt := bb.lt
  have HL1 := Hid.mk_ l1
  have HL2 := Hid.mk_ l2
  clear l1 l2
  go_enter Tryz.func197, Tryz.ntmps197
  go_wp2
  go_loop [3, 5, 11] (fun s _ i => ∃ k : Nat, k ≤ 2 ∧ i = .int .i64 k ∧ s = .int .i64 (if k = 0 then 0 else if k = 1 then 9 else 12)) (fun _ _ i => 2 - (intOf i).toNat)
  case atStart => exact ⟨0, by omega, rfl, rfl⟩
  case round =>
    obtain ⟨k, hk, rfl, rfl⟩ := hrel
    rcases (show k = 0 ∨ k = 1 ∨ k = 2 by omega) with rfl | rfl | rfl
    · go_wp2
      go_round
      case rel => exact ⟨1, by omega, rfl, rfl⟩
      case measure => simp [intOf]
    · go_wp2
      go_round
      case rel => exact ⟨2, by omega, rfl, rfl⟩
      case measure => simp [intOf]
    · go_wp2_with fail
      refine (GrowSL_ct _ 12 (by decide) (by decide)).mono ?_
      rintro e w1 ⟨v1, rfl, ho, hf, hb⟩
      clear p0 p1
      go_wp2
      go_loopw [6, 8, 27] (fun o _ i wr => ∃ k : Nat, k ≤ 2 ∧ i = .int .i64 k ∧ OwL FS 94 wr o (if k = 0 then [] else if k = 1 then T1 else T1 ++ T2) ∧ (∀ g ∈ foot1 o, w.heap.size ≤ g) ∧ Below w.heap.size w wr) (fun _ _ i _ => 2 - (intOf i).toNat)
      case atStart => exact ⟨0, by omega, rfl, ho, hf, hb⟩
      case round =>
        obtain ⟨k, hk, rfl, ho, hf, hb⟩ := hrel
        have bw := bb.below hb
        have p0 := bw.cell 0 _ rfl
        have p1 := bw.cell 1 _ rfl
        have zl := bw.lt
        rcases (show k = 0 ∨ k = 1 ∨ k = 2 by omega) with rfl | rfl | rfl
        · go_wp2_with (at_builtin; refine wpList_append_flat Tryz.stSL rfl _ _ rfl (v := u6) (y := .slice A1 9 c1) (l := []) (m := T1) rfl rfl ho (rd_up h1 hb) (by simp; rw [← HL1.out]; omega) ?_; intro v' w3 ho' hg' hat')
          go_roundw
          case rel => exact ⟨1, by omega, rfl, by simpa using ho', fun g hg => by rcases foot_app hat' g hg with h | h; (exact hf g h); (have := hb.size; omega), below_app hb (Nat.le_refl _) _ _ hg' hf⟩
          case measure => simp [intOf]
        · go_wp2_with (at_builtin; refine wpList_append_flat Tryz.stSL rfl _ _ rfl (v := u6) (y := .slice A2 3 c2) (l := T1) (m := T2) rfl rfl ho (rd_up h2 hb) (by rw [← HL1.out, ← HL2.out]; omega) ?_; intro v' w3 ho' hg' hat')
          go_roundw
          case rel => exact ⟨2, by omega, rfl, ho', fun g hg => by rcases foot_app hat' g hg with h | h; (exact hf g h); (have := hb.size; omega), below_app hb (Nat.le_refl _) _ _ hg' hf⟩
          case measure => simp [intOf]
        · go_wp2
          go_ret
          exact ⟨_, rfl, ho, hf, hb⟩
end Go.Proofs.YtkmggglljkmjoaaGreat

/-
  Lists valid: the reference.
-/
namespace Go.Proofs.YtkmggglljkmjoaaGreat
open Go.RowKit
theorem RdL.pre {g off n c B : Nat} {w : World} {l : List Int} (h : RdL FI w B (.slice (some ⟨g, off, none⟩) n c) l) (m : Nat) (h1 : m ≤ l.length) : RdL FI w B (.slice (some ⟨g, off, none⟩) m c) (l.take m) := by
  have a := h.subI 0 m (by omega)
  simpa using a
set_option maxHeartbeats 1000000 in
theorem l8HasQ_ct (w : World) (v : Value) (z : List Int) (x : Int) (B : Nat) (h : RdL FI w B v z) :
    Calls Tryz.prog 122 #[v, .int .i64 x] w fun e w' => e = .returned (.bool (z.any fun y => y == x)) ∧ w = w' := by
  obtain ⟨A, c, hv, q1, q2, _⟩ := id h
  have hlt0 : z.length ≤ 9223372036854775807 := by unfold maxLen at q2; omega
  subst hv
  clear q1 q2
  go_enter Tryz.func122, Tryz.ntmps122
  go_wp2
  go_loop [5] (fun i => ∃ k : Nat, k ≤ z.length ∧ i = .int .i64 k ∧ Hid ((z.take k).any (fun y => y == x) = false)) (fun i => z.length - (intOf i).toNat)
  case atStart => exact ⟨0, Nat.zero_le _, rfl, rfl⟩
  case round =>
    obtain ⟨i, hi, rfl, HN⟩ := hrel
    by_cases hlt : i < z.length
    · obtain ⟨g, off, cap', he, hg, _, _, hc⟩ := h.at_ (List.getElem?_eq_getElem hlt)
      injection he with he1 he2 he3
      clear he2
      subst he1 he3
      have p0 : w.cell? ⟨g, off + i, none⟩ = some (.int .i64 z[i]) := by simpa [FI] using hc 0 _ rfl
      clear hc h
      by_cases hz : z[i] = x
      · have hz1 : (z[i] == x) = true := by simpa using hz
        have HP := Hid.mk_ (show (z.any fun y => y == x) = true from List.any_eq_true.2 ⟨z[i], List.getElem_mem hlt, hz1⟩)
        clear hz
        go_wp2
        go_ret
        exact ⟨ret_bool HP.out.symm, rfl⟩
      · have hz1 : (z[i] == x) = false := by simpa using hz
        have HP := Hid.mk_ (any_take_succ (fun y => y == x) z i hlt HN.out hz1)
        clear hz
        go_wp2
        go_round
        case rel => exact ⟨i + 1, by omega, by go_num, HP⟩
        case measure => simp [intOf]; omega
    · go_wp2
      go_ret
      obtain rfl : i = z.length := by omega
      exact ⟨ret_bool (by simpa using HN.out.symm), rfl⟩
set_option maxRecDepth 100000 in
set_option maxHeartbeats 2000000 in
theorem ListsOk_spec (w : World) (H : HLists) (x : Lists) (h : RdLists w w.heap.size H x) (hs1 : szLL x.Global ≤ 536870912) (hs2 : szLL x.Own ≤ 536870912) :
    Calls Tryz.prog 73 #[.agg #[.slice H.Global.a H.Global.len H.Global.cap, .slice H.Own.a H.Own.len H.Own.cap]] w fun e w' => e = .returned (.bool (listsOkB x)) ∧ Below w.heap.size w w' := by
  obtain ⟨⟨A1, n1, c1⟩, T1, ⟨A2, n2, c2⟩, T2⟩ := H
  obtain ⟨gl, ow⟩ := x
  have hr1 : RdLL FI w w.heap.size (.slice A1 n1 c1) T1 gl := h.Global
  have hr2 : RdLL FI w w.heap.size (.slice A2 n2 c2) T2 ow := h.Own
  obtain ⟨en1, _, hmx⟩ := hr1.len'
  have hlt1 : gl.length ≤ 9223372036854775807 := by unfold maxLen at hmx; omega
  clear hmx
  obtain ⟨en2, _, hmx⟩ := hr2.len'
  have hlt2 : ow.length ≤ 9223372036854775807 := by unfold maxLen at hmx; omega
  clear hmx h
  subst en1 en2
  simp only at hs1 hs2
  have HE := Hid.mk_ (show listsOkB ⟨gl, ow⟩ = ((gl.length == 3) && (ow.length == 9) && ow.all shortB && seenOk (allL ⟨gl, ow⟩)) from rfl)
  have ba0 : Box (w.alloc (.cells #[.slice A1 gl.length c1, .slice A2 ow.length c2] 29)) w.heap.size [.slice A1 gl.length c1, .slice A2 ow.length c2] := Box.new w #[.slice A1 gl.length c1, .slice A2 ow.length c2] _
  have hB0 : Below w.heap.size w (w.alloc (.cells #[.slice A1 gl.length c1, .slice A2 ow.length c2] 29)) := by repeat (first | exact Below.refl _ _ | refine Below.alloc ?_ (by simp <;> omega) _ | refine below_grow_of ?_ (by simp <;> omega) _ _ | refine Below.drew ?_ | refine below_drewN ?_ _)
  show Calls Tryz.prog 73 #[.agg #[.slice A1 gl.length c1, .slice A2 ow.length c2]] _ _
  by_cases k1 : gl.length = 3
  case neg =>
    have k1' : ((gl.length : Int) != 3) = true := by simp; omega
    have HF := Hid.mk_ (show listsOkB ⟨gl, ow⟩ = false by rw [HE.out]; simp [k1])
    clear k1
    go_enter Tryz.func73, Tryz.ntmps73
    go_wp2
    go_ret
    exact ⟨ret_bool HF.out.symm, hB0⟩
  have k1' : ((gl.length : Int) != 3) = false := by simp; omega
  have K1 := Hid.mk_ k1
  clear k1
  by_cases k2 : ow.length = 9
  case neg =>
    have k2' : ((ow.length : Int) != 9) = true := by simp; omega
    have HF := Hid.mk_ (show listsOkB ⟨gl, ow⟩ = false by rw [HE.out]; simp [k2])
    clear k2
    go_enter Tryz.func73, Tryz.ntmps73
    go_wp2
    go_ret
    exact ⟨ret_bool HF.out.symm, hB0⟩
  have k2' : ((ow.length : Int) != 9) = false := by simp; omega
  have HF := Hid.mk_ (show listsOkB ⟨gl, ow⟩ = (ow.all shortB && seenOk (allL ⟨gl, ow⟩)) by rw [HE.out, K1.out, k2]; simp)
  clear k2 HE
  go_enter Tryz.func73, Tryz.ntmps73
  go_wp2
  generalize (w.alloc (.cells #[.slice A1 gl.length c1, .slice A2 ow.length c2] 29)) = w0 at ba0 hB0
  have qa0 := ba0.cell 0 _ rfl
  have qa1 := ba0.cell 1 _ rfl
  go_loop [3] (fun i => ∃ k : Nat, k ≤ ow.length ∧ i = .int .i64 k ∧ Hid ((ow.take k).all shortB = true)) (fun i => ow.length - (intOf i).toNat)
  case atStart => exact ⟨0, Nat.zero_le _, rfl, rfl⟩
  case round =>
    obtain ⟨i, hi, rfl, HT⟩ := hrel
    by_cases hlt : i < ow.length
    · obtain ⟨g, o, A', c', hAe, hg, p0, rr1⟩ := hr2.row hB0 hlt
      subst hAe
      by_cases hz : ow[i].length ≤ 2
      · have HN := Hid.mk_ (all_step (p := shortB) hlt HT.out (by simp [shortB, hz]))
        go_wp2
        go_round
        case rel => exact ⟨i + 1, by omega, by go_num, HN⟩
        case measure => simp [intOf]; omega
      · have HN := Hid.mk_ (show listsOkB ⟨gl, ow⟩ = false by rw [HF.out, all_no (p := shortB) hlt (by simp [shortB]; omega)]; rfl)
        go_wp2
        go_ret
        exact ⟨ret_bool HN.out.symm, hB0⟩
    · obtain rfl : i = ow.length := by omega
      have HG := Hid.mk_ (show listsOkB ⟨gl, ow⟩ = seenOk (allL ⟨gl, ow⟩) by have a := HT.out; rw [List.take_length] at a; rw [HF.out, a]; rfl)
      clear HT HF
      go_wp2_with fail
      refine (l8All_ct _ ⟨⟨A1, gl.length, c1⟩, T1, ⟨A2, ow.length, c2⟩, T2⟩ ⟨gl, ow⟩ ⟨rdLL_up hr1 hB0, rdLL_up hr2 hB0⟩ hs1 hs2).mono ?_
      rintro e w1 ⟨v', rfl, ho, hf, hb0⟩
      have hB1 := hB0.trans (hb0.mono hB0.size)
      clear hf hb0 qa0 qa1 ba0 hB0
      generalize allL ⟨gl, ow⟩ = L at ho HG
      obtain ⟨A, c, hv, _, q2, _⟩ := ho.rd'
      subst hv
      have hL0 : L.length ≤ 9223372036854775807 := by unfold maxLen at q2; omega
      clear q2
      have hor := ho.rd'
      clear ho
      go_wp2
      go_loopw [5] (fun i wr => ∃ k : Nat, k ≤ L.length ∧ i = .int .i64 k ∧ Below w1.heap.size w1 wr ∧ Hid (seenOk (L.take k) = true)) (fun i _ => L.length - (intOf i).toNat)
      case atStart => exact ⟨0, Nat.zero_le _, rfl, Below.refl _ _, rfl⟩
      case round =>
        obtain ⟨i, hi, rfl, hb, HR⟩ := hrel
        by_cases hlt : i < L.length
        · obtain ⟨g, off, cap', he, hg, _, _, hc⟩ := (hor.below hb).at_ (List.getElem?_eq_getElem hlt)
          injection he with he1 he2 he3
          clear he2
          subst he1 he3
          have p0 : wr.cell? ⟨g, off + i, none⟩ = some (.int .i64 L[i]) := by simpa [FI] using hc 0 _ rfl
          clear hc
          have hpre := (hor.below hb).pre i (by omega)
          have hgw : g < wr.heap.size := Nat.lt_of_lt_of_le hg hb.size
          have Hn1 := Hid.mk_ (seen_no1 (L := L) hlt)
          have Hn2 := Hid.mk_ (seen_no2 (L := L) hlt)
          have Hst := Hid.mk_ (seen_step (L := L) hlt HR.out)
          generalize L[i] = x at p0 Hn1 Hn2 Hst
          have hBW := hB1.trans (hb.mono hB1.size)
          have hql : ∀ (W : World) (b : Bool), inB 0 23 x = b → Calls Tryz.prog 102 #[.int .i64 x, .int .i64 0, .int .i64 23] W fun e w' => e = .returned (.bool b) ∧ W = w' := fun W b hb => (l1In_ct _ _ _ _).mono fun e w' ⟨u, v⟩ => ⟨by rw [u, hb], v⟩
          have hqh : ∀ (n : Nat) (b : Bool), ((L.take i).any fun y => y == x) = b → Calls Tryz.prog 122 #[.slice (some ⟨g, off, none⟩) i c, .int .i64 x] (wr.drewN n) fun e w' => e = .returned (.bool b) ∧ wr.drewN n = w' := fun n b hb => (l8HasQ_ct _ _ (L.take i) x _ (hpre.keep (w' := wr.drewN n) (fun _ _ => rfl) (Nat.le_refl _))).mono fun e w' ⟨u, v⟩ => ⟨by rw [u, hb], v⟩
          by_cases d1 : inB 0 23 x = true
          case neg =>
            have d1' : inB 0 23 x = false := (Bool.not_eq_true _).mp d1
            have HN := Hid.mk_ (show listsOkB ⟨gl, ow⟩ = false by rw [HG.out]; exact Hn1.out d1')
            have hq1 := fun W => hql W _ d1'
            clear d1 d1' Hn1 Hn2 Hst hql hqh
            go_wp2
            go_quiet ((go_at_call 102; exact quiet_left (hq1 _)))
            go_wp2
            go_ret
            exact ⟨ret_bool HN.out.symm, by first | exact hBW | exact hBW.drew | exact below_drewN hBW _⟩
          by_cases d2 : ((L.take i).any fun y => y == x) = true
          · have HN := Hid.mk_ (show listsOkB ⟨gl, ow⟩ = false by rw [HG.out]; exact Hn2.out d2)
            have hq1 := fun W => hql W _ d1
            have hq2 := fun n => hqh n _ d2
            clear d1 d2 Hn1 Hn2 Hst hql hqh
            go_wp2
            go_quiet (first | (go_at_call 102; exact quiet_left (hq1 _)) | (go_at_call 122; exact quiet_left (hq2 _)))
            go_wp2
            go_ret
            exact ⟨ret_bool HN.out.symm, by first | exact hBW | exact hBW.drew | exact below_drewN hBW _⟩
          · have d2' : ((L.take i).any fun y => y == x) = false := (Bool.not_eq_true _).mp d2
            have HN := Hid.mk_ (Hst.out d1 d2')
            have hq1 := fun W => hql W _ d1
            have hq2 := fun n => hqh n _ d2'
            clear d1 d2 d2' Hn1 Hn2 Hst hql hqh
            go_wp2
            go_quiet (first | (go_at_call 102; exact quiet_left (hq1 _)) | (go_at_call 122; exact quiet_left (hq2 _)))
            go_wp2
            go_roundw
            case rel => exact ⟨i + 1, by omega, by go_num, below_drewN hb _, HN⟩
            case measure => simp [intOf]; omega
        · obtain rfl : i = L.length := by omega
          have HN := Hid.mk_ (show listsOkB ⟨gl, ow⟩ = true by have a := HR.out; rw [List.take_length] at a; rw [HG.out, a])
          go_wp2
          go_ret
          exact ⟨ret_bool HN.out.symm, hB1.trans (hb.mono hB1.size)⟩
end Go.Proofs.YtkmggglljkmjoaaGreat

/-
  Lists valid: the program.
-/
namespace Go.Proofs.YtkmggglljkmjoaaGreat
open Go.RowKit
def FB : FT Bool := { n := 1, enc := fun b => [.bool b], dflt := false, len := fun _ => rfl, one := by intro x u hu; simp at hu; subst hu; rfl, pos := by decide, small := by decide }
theorem wpList_store_new_at {P : Program} {ops : Array Oper} {rest : List Oper} {o : Oper} {a : Act} {w : World} {Q : Exit → Act → World → Prop} (hgd : o.guard = none) (ty : TypeId) (x y : Operand) (ho : o.op = .store ty x y) (c : Array Value) (n : Nat) (hn : n = w.heap.size)
    (hx : a.eval x = .pointer (some ⟨n, 0, none⟩)) (hy : a.eval y = .agg c) (hi : (P.info? ty).map (·.size) = some c.size) (h1 : c.all (·.oneCell') = true)
    (h : wpList P ops Q rest (a.put o.dst undef) (w.alloc (.cells c ty))) : wpList P ops Q (o :: rest) a (w.alloc (.cells c ty)) := by
  subst hn
  refine wpList_store_row hgd ty x y ho w.heap.size c hx hy ty c (heap_alloc_last w _) hi rfl h1 ?_
  rw [World.setRow_alloc_new]
  exact h
theorem z24_built : Tryz.prog.built 167 [] = some #[.bool false, .bool false, .bool false, .bool false, .bool false, .bool false, .bool false, .bool false, .bool false, .bool false, .bool false, .bool false, .bool false, .bool false, .bool false, .bool false, .bool false, .bool false, .bool false, .bool false, .bool false, .bool false, .bool false, .bool false] := by kernel_rfl
set_option maxRecDepth 100000 in
theorem wpList_build24 {ops : Array Oper} {rest : List Oper} {o : Oper} {a : Act} {w : World} {Q : Exit → Act → World → Prop} (hg : o.guard = none) (ho : o.op = .build 167 #[])
    (h : wpList Tryz.prog ops Q rest (a.put o.dst (.agg #[.bool false, .bool false, .bool false, .bool false, .bool false, .bool false, .bool false, .bool false, .bool false, .bool false, .bool false, .bool false, .bool false, .bool false, .bool false, .bool false, .bool false, .bool false, .bool false, .bool false, .bool false, .bool false, .bool false, .bool false])) w) : wpList Tryz.prog ops Q (o :: rest) a w := by
  exact wpList_build hg 167 #[] ho (by simp [z24_built]) (by simpa [z24_built] using h)
theorem met_start (w : World) : OwL FB 167 (w.alloc (.cells #[.bool false, .bool false, .bool false, .bool false, .bool false, .bool false, .bool false, .bool false, .bool false, .bool false, .bool false, .bool false, .bool false, .bool false, .bool false, .bool false, .bool false, .bool false, .bool false, .bool false, .bool false, .bool false, .bool false, .bool false] 167)) (.slice (some ⟨w.heap.size, 0, none⟩) 24 24) (metI []) := by
  rw [metI_zero]
  exact OwL.lit FB (List.replicate 24 false) #[.bool false, .bool false, .bool false, .bool false, .bool false, .bool false, .bool false, .bool false, .bool false, .bool false, .bool false, .bool false, .bool false, .bool false, .bool false, .bool false, .bool false, .bool false, .bool false, .bool false, .bool false, .bool false, .bool false, .bool false] rfl (by simp [maxLen]) w 167
theorem ConcatSL2_ct (w : World) (gb : Nat) (A1 A2 : Option Addr) (n1 n2 c1 c2 : Nat) (T1 T2 : List SV) (bb : Box w gb [.slice A1 n1 c1, .slice A2 n2 c2]) (h1 : RdL FS w w.heap.size (.slice A1 n1 c1) T1) (h2 : RdL FS w w.heap.size (.slice A2 n2 c2) T2) (e1 : n1 = 9) (e2 : n2 = 3) :
    Calls Tryz.prog 197 #[.slice (some ⟨gb, 0, none⟩) 2 2] w fun e w' => ∃ v, e = .returned v ∧ OwL FS 94 w' v (T1 ++ T2) ∧ (∀ g ∈ foot1 v, w.heap.size ≤ g) ∧ Below w.heap.size w w' := by
  subst e1 e2
  exact ConcatSL_ct w gb A1 A2 c1 c2 T1 T2 bb h1 h2
theorem rows_cat {w : World} {B1 : Nat} {v1 v2 : Value} {T1 T2 : List SV} {gl ow : List (List Int)} (h1 : RdLL FI w B1 v1 T1 gl) (h2 : RdLL FI w B1 v2 T2 ow) (i : Nat) (hi : i < (ow ++ gl).length) :
    ∃ s : SV, (T2 ++ T1)[i]? = some s ∧ RdL FI w B1 (.slice s.a s.len s.cap) (ow ++ gl)[i] := by
  have e1 := h1.len
  have e2 := h2.len
  rw [List.length_append] at hi
  by_cases hlt : i < ow.length
  · have ht : i < T2.length := by omega
    refine ⟨T2[i], by rw [List.getElem?_append_left ht, List.getElem?_eq_getElem ht], ?_⟩
    rw [List.getElem_append_left hlt]
    exact h2.inner i _ _ (List.getElem?_eq_getElem ht) (List.getElem?_eq_getElem hlt)
  · have ht : i - T2.length < T1.length := by omega
    refine ⟨T1[i - T2.length], by rw [List.getElem?_append_right (by omega), List.getElem?_eq_getElem ht], ?_⟩
    rw [List.getElem_append_right (by omega)]
    refine h1.inner (i - T2.length) _ _ (List.getElem?_eq_getElem ht) ?_
    rw [List.getElem?_eq_getElem (by omega)]
    congr 2
    omega
set_option maxRecDepth 100000 in
set_option maxHeartbeats 4000000 in
theorem ListsOk_impl (w : World) (H : HLists) (x : Lists) (h : RdLists w w.heap.size H x) :
    Calls Tryz.prog 141 #[.agg #[.slice H.Global.a H.Global.len H.Global.cap, .slice H.Own.a H.Own.len H.Own.cap]] w fun e w' => e = .returned (.bool (listsOkB x)) ∧ Below w.heap.size w w' := by
  obtain ⟨⟨A1, n1, c1⟩, T1, ⟨A2, n2, c2⟩, T2⟩ := H
  obtain ⟨gl, ow⟩ := x
  have hr1 : RdLL FI w w.heap.size (.slice A1 n1 c1) T1 gl := h.Global
  have hr2 : RdLL FI w w.heap.size (.slice A2 n2 c2) T2 ow := h.Own
  obtain ⟨en1, _, hmx⟩ := hr1.len'
  have hlt1 : gl.length ≤ 9223372036854775807 := by unfold maxLen at hmx; omega
  clear hmx
  obtain ⟨en2, _, hmx⟩ := hr2.len'
  have hlt2 : ow.length ≤ 9223372036854775807 := by unfold maxLen at hmx; omega
  clear hmx h
  subst en1 en2
  have HE := Hid.mk_ (show listsOkB ⟨gl, ow⟩ = ((gl.length == 3) && (ow.length == 9) && ow.all shortB && seenOk (allL ⟨gl, ow⟩)) from rfl)
  have hB0 : Below w.heap.size w (w.alloc (.cells #[.slice A1 gl.length c1, .slice A2 ow.length c2] 29)) := by repeat (first | exact Below.refl _ _ | refine Below.alloc ?_ (by simp <;> omega) _ | refine below_grow_of ?_ (by simp <;> omega) _ _ | refine Below.drew ?_ | refine below_drewN ?_ _)
  show Calls Tryz.prog 141 #[.agg #[.slice A1 gl.length c1, .slice A2 ow.length c2]] _ _
  by_cases k1 : gl.length = 3
  case neg =>
    have k1' : ((gl.length : Int) != 3) = true := by simp; omega
    have HF := Hid.mk_ (show listsOkB ⟨gl, ow⟩ = false by rw [HE.out]; simp [k1])
    clear k1
    go_enter Tryz.func141, Tryz.ntmps141
    go_wp2
    go_ret
    exact ⟨ret_bool HF.out.symm, hB0⟩
  have k1' : ((gl.length : Int) != 3) = false := by simp; omega
  have K1 := Hid.mk_ k1
  clear k1
  by_cases k2 : ow.length = 9
  case neg =>
    have k2' : ((ow.length : Int) != 9) = true := by simp; omega
    have HF := Hid.mk_ (show listsOkB ⟨gl, ow⟩ = false by rw [HE.out]; simp [k2])
    clear k2
    go_enter Tryz.func141, Tryz.ntmps141
    go_wp2
    go_ret
    exact ⟨ret_bool HF.out.symm, hB0⟩
  have k2' : ((ow.length : Int) != 9) = false := by simp; omega
  have K2 := Hid.mk_ k2
  have HF := Hid.mk_ (show listsOkB ⟨gl, ow⟩ = (ow.all shortB && seenOk (ow ++ gl).flatten) by rw [HE.out, K1.out, k2, ← lists_rows ⟨gl, ow⟩]; simp)
  clear k2 HE
  have HIN := Hid.mk_ (rows_cat hr1 hr2)
  have KL := Hid.mk_ (show (ow ++ gl).length = 12 by rw [List.length_append, K1.out, K2.out])
  have HOW := Hid.mk_ (fun i (hi : i < ow.length) (hj : i < (ow ++ gl).length) => (List.getElem_append_left (bs := gl) hi : (ow ++ gl)[i] = ow[i]))
  have HT0 := Hid.mk_ (totLL_eq (ow ++ gl))
  have HFA := Hid.mk_ (flat_at (ow ++ gl))
  generalize hR : ow ++ gl = R at HF HIN KL HOW HT0 HFA
  generalize hL : R.flatten = L at HF HT0 HFA
  clear hR hL
  go_enter Tryz.func141, Tryz.ntmps141
  go_wp2_with (first | (refine wpList_build24 rfl rfl ?_) | (refine wpList_store_new_at rfl 167 (.tmp 3) (.tmp 18) rfl _ _ (by simp) rfl rfl (by kernel_rfl) (by simp [Value.oneCell']) ?_))
  have om0 := met_start (w.alloc (.cells #[.slice A1 gl.length c1, .slice A2 ow.length c2] 29))
  have bg0 : Box (((w.alloc (.cells #[.slice A1 gl.length c1, .slice A2 ow.length c2] 29)).alloc (.cells #[.bool false, .bool false, .bool false, .bool false, .bool false, .bool false, .bool false, .bool false, .bool false, .bool false, .bool false, .bool false, .bool false, .bool false, .bool false, .bool false, .bool false, .bool false, .bool false, .bool false, .bool false, .bool false, .bool false, .bool false] 167)).alloc (.cells #[.slice A2 ow.length c2, .slice A1 gl.length c1] 27)) (w.heap.size + 1 + 1) [.slice A2 ow.length c2, .slice A1 gl.length c1] := by have a := Box.new ((w.alloc (.cells #[.slice A1 gl.length c1, .slice A2 ow.length c2] 29)).alloc (.cells #[.bool false, .bool false, .bool false, .bool false, .bool false, .bool false, .bool false, .bool false, .bool false, .bool false, .bool false, .bool false, .bool false, .bool false, .bool false, .bool false, .bool false, .bool false, .bool false, .bool false, .bool false, .bool false, .bool false, .bool false] 167)) #[.slice A2 ow.length c2, .slice A1 gl.length c1] 27; simpa using a
  have om1 := om0.alloc_ (.cells #[.slice A2 ow.length c2, .slice A1 gl.length c1] 27)
  have ba1 : Box (((w.alloc (.cells #[.slice A1 gl.length c1, .slice A2 ow.length c2] 29)).alloc (.cells #[.bool false, .bool false, .bool false, .bool false, .bool false, .bool false, .bool false, .bool false, .bool false, .bool false, .bool false, .bool false, .bool false, .bool false, .bool false, .bool false, .bool false, .bool false, .bool false, .bool false, .bool false, .bool false, .bool false, .bool false] 167)).alloc (.cells #[.slice A2 ow.length c2, .slice A1 gl.length c1] 27)) w.heap.size [.slice A1 gl.length c1, .slice A2 ow.length c2] := ((Box.new w #[.slice A1 gl.length c1, .slice A2 ow.length c2] _).alloc _).alloc _
  have hB1 : Below w.heap.size w (((w.alloc (.cells #[.slice A1 gl.length c1, .slice A2 ow.length c2] 29)).alloc (.cells #[.bool false, .bool false, .bool false, .bool false, .bool false, .bool false, .bool false, .bool false, .bool false, .bool false, .bool false, .bool false, .bool false, .bool false, .bool false, .bool false, .bool false, .bool false, .bool false, .bool false, .bool false, .bool false, .bool false, .bool false] 167)).alloc (.cells #[.slice A2 ow.length c2, .slice A1 gl.length c1] 27)) := by repeat (first | exact Below.refl _ _ | refine Below.alloc ?_ (by simp <;> omega) _ | refine below_grow_of ?_ (by simp <;> omega) _ _ | refine Below.drew ?_ | refine below_drewN ?_ _)
  have hz1 : ((((w.alloc (.cells #[.slice A1 gl.length c1, .slice A2 ow.length c2] 29)).alloc (.cells #[.bool false, .bool false, .bool false, .bool false, .bool false, .bool false, .bool false, .bool false, .bool false, .bool false, .bool false, .bool false, .bool false, .bool false, .bool false, .bool false, .bool false, .bool false, .bool false, .bool false, .bool false, .bool false, .bool false, .bool false] 167)).alloc (.cells #[.slice A2 ow.length c2, .slice A1 gl.length c1] 27))).heap.size = w.heap.size + 1 + 1 + 1 := by simp
  simp only [World.size_alloc] at om1
  generalize (((w.alloc (.cells #[.slice A1 gl.length c1, .slice A2 ow.length c2] 29)).alloc (.cells #[.bool false, .bool false, .bool false, .bool false, .bool false, .bool false, .bool false, .bool false, .bool false, .bool false, .bool false, .bool false, .bool false, .bool false, .bool false, .bool false, .bool false, .bool false, .bool false, .bool false, .bool false, .bool false, .bool false, .bool false] 167)).alloc (.cells #[.slice A2 ow.length c2, .slice A1 gl.length c1] 27)) = w3 at bg0 om1 ba1 hB1 hz1 ⊢
  clear om0 hB0
  refine (ConcatSL2_ct w3 _ A2 A1 _ _ c2 c1 T2 T1 bg0 (rd_up hr2.outer hB1) (rd_up hr1.outer hB1) K2.out K1.out).mono ?_
  rintro e w4 ⟨vC, rfl, hoC, hfC, hb4⟩
  have om4 := om1.chg (Chg.of_below (F := []) hb4) (by simp)
  have ba4 := ba1.below hb4
  have hB4 := hB1.trans (hb4.mono hB1.size)
  have hz4 : w.heap.size + 1 < w4.heap.size := by have := hb4.size; omega
  have hfC' : ∀ g ∈ foot1 vC, w.heap.size + 1 < g := fun g hg => by have := hfC g hg; omega
  clear hfC hb4 om1 ba1 bg0 hB1 hz1
  have hlC : (T2 ++ T1).length = 12 := by rw [List.length_append, hr2.len, hr1.len, K2.out, K1.out]
  rcases hoC.form with ⟨_, hnil⟩ | ⟨gC, cC, rfl, hgC, _, _⟩
  · rw [hnil] at hlC
    simp at hlC
  rw [hlC] at hoC hfC' ⊢
  go_wp2
  go_loopw [4, 5, 7, 26, 45] (fun _ _ _ i _ wr => ∃ k : Nat, k ≤ 12 ∧ i = .int .i64 k ∧ Hid ((ow.take k).all shortB = true) ∧ Hid (seenOk (L.take (totLL (R.take k))) = true) ∧ Chg [w.heap.size + 1] w4 wr ∧ OwL FB 167 wr (.slice (some ⟨w.heap.size + 1, 0, none⟩) 24 24) (metI (L.take (totLL (R.take k))))) (fun _ _ _ i _ _ => 12 - (intOf i).toNat)
  case atStart => exact ⟨0, Nat.zero_le _, rfl, rfl, rfl, Chg.refl _ _, om4⟩
  case round =>
    obtain ⟨i, hi, rfl, HO, HS, hc, om⟩ := hrel
    clear om4
    have ba := ba4.chg hc (by simp)
    have hb : Below w.heap.size w wr := hB4.trans (hc.below hB4.size (by intro g hg; have := List.mem_singleton.1 hg; omega))
    have qa1 := ba.cell 1 _ rfl
    have hzw : w.heap.size + 1 < wr.heap.size := Nat.lt_of_lt_of_le hz4 hc.size
    have hzw0 : w.heap.size < wr.heap.size := Nat.lt_of_succ_lt hzw
    by_cases hlt : i < 12
    · have hiR : i < R.length := by rw [KL.out]; exact hlt
      obtain ⟨⟨sa, sl, sc⟩, hsv, hrow0⟩ := HIN.out i hiR
      have hrow : RdL FI w w.heap.size (.slice sa sl sc) R[i] := hrow0
      clear hrow0
      have hltI : (i : Int) < 12 := by omega
      have hoR := hoC.chg hc (by intro g hg hm; have a := hfC' g hg; have b := List.mem_singleton.1 hm; omega)
      have p0 : wr.cell? ⟨gC, i, none⟩ = some (.slice sa sl sc) := by simpa [FS] using hoR.cell_ (k := i) (j := 0) hsv (by decide)
      have hgw : gC < wr.heap.size := Nat.lt_of_lt_of_le hgC hc.size
      have hln := (RdL.len_ hrow).1
      have hr0 := (RdL.len_ hrow).2
      rw [hln] at p0 hrow hr0
      have HP := Hid.mk_ (totLL_take_succ R i hiR)
      have HFi := Hid.mk_ (fun j hj => HFA.out i j hiR hj)
      have htot : totLL (R.take i) + R[i].length ≤ L.length := by
        have a := totLL_take_le R (i + 1)
        have b := HT0.out
        have d := HP.out
        omega
      have HOi := Hid.mk_ (fun hi9 => HOW.out i hi9 hiR)
      clear hoR hsv
      generalize R[i] = row at p0 hrow hr0 HP HFi htot HOi
      clear hln
      generalize totLL (R.take i) = p at HS om HP HFi htot
      by_cases hs2 : i < ow.length ∧ 2 < row.length
      · obtain ⟨hs2, hs3⟩ := hs2
        have HN := Hid.mk_ (show listsOkB ⟨gl, ow⟩ = false by rw [HF.out, all_no (p := shortB) hs2 (by rw [← HOi.out hs2]; simp [shortB]; omega)]; rfl)
        clear HOi
        go_wp2
        go_ret
        exact ⟨ret_bool HN.out.symm, hb.alloc hb.size _⟩
      have HO' := Hid.mk_ (show (ow.take (i + 1)).all shortB = true by
        by_cases h9 : i < ow.length
        · exact all_step h9 HO.out (by rw [← HOi.out h9]; simp [shortB]; omega)
        · have a := HO.out
          rw [List.take_of_length_le (by omega)] at a ⊢
          exact a)
      have hbI : Chg [w.heap.size + 1] w4 (wr.alloc (.cells #[.slice sa row.length sc] 94)) := hc.alloc_ _
      have omI := om.alloc_ (.cells #[.slice sa row.length sc] 94)
      have hnS : ¬ (i < ow.length ∧ 2 < row.length) := hs2
      have HNX := Hid.mk_ hs2
      have hcase : ∀ b : Bool, b = decide (i < ow.length) → (b = true → ¬ 2 < row.length) := fun b e hb h2 => hs2 ⟨by rw [e] at hb; simpa using hb, h2⟩
      clear hs2 hnS HOi hc om
      by_cases h9 : i < ow.length
      · have h2n := hcase true (by simp [h9]) rfl
        have h2I : ¬ (2 < (row.length : Int)) := by omega
        clear hcase
        go_wp2
        obtain ⟨wo, hwo⟩ : ∃ wo : World, wo = wr.alloc (.cells #[.slice sa row.length sc] 94) := ⟨_, rfl⟩
        rw [← hwo] at hbI omI ⊢
        have hzo : wo.heap.size = wr.heap.size + 1 := by rw [hwo]; simp
        clear hwo
        go_loopw [7, 45] (fun _ j wr => ∃ k : Nat, k ≤ row.length ∧ j = .int .i64 k ∧ Hid (seenOk (L.take (p + k)) = true) ∧ Chg [w.heap.size + 1] w4 wr ∧ OwL FB 167 wr (.slice (some ⟨w.heap.size + 1, 0, none⟩) 24 24) (metI (L.take (p + k)))) (fun _ j _ => row.length - (intOf j).toNat)
        case atStart => exact ⟨0, Nat.zero_le _, rfl, HS, hbI, omI⟩
        case round =>
          obtain ⟨j, hj, rfl, HRj, hcq, omq⟩ := hrel
          clear hbI omI p0 qa1
          have hbq : Below w.heap.size w wr := hB4.trans (hcq.below hB4.size (by intro g hg; have := List.mem_singleton.1 hg; omega))
          by_cases hlj : j < row.length
          · obtain ⟨g1, o1, cap1, he1, hg1, _, _, hc1⟩ := (hrow.below hbq).at_ (List.getElem?_eq_getElem hlj)
            injection he1 with e11 e12 e13
            clear e12
            subst e11 e13
            have p1 : wr.cell? ⟨g1, o1 + j, none⟩ = some (.int .i64 row[j]) := by simpa [FI] using hc1 0 _ rfl
            clear hc1
            have hLp : p + j < L.length := by omega
            have hLe : L[p + j] = row[j] := by
              have a := HFi.out j hlj
              rw [List.getElem?_eq_getElem hLp] at a
              exact Option.some.inj a
            have Hn1 := Hid.mk_ (seen_no1 (L := L) hLp)
            have Hn2 := Hid.mk_ (seen_no2 (L := L) hLp)
            have Hst := Hid.mk_ (seen_step (L := L) hLp HRj.out)
            have HMs := Hid.mk_ (fun s hm => metI_set L (p + j) s hLp hm)
            rw [hLe] at Hn1 Hn2 Hst HMs
            generalize row[j] = y at p1 Hn1 Hn2 Hst HMs
            clear hLe hLp
            by_cases d1 : inB 0 23 y = true
            case neg =>
              have d1' : inB 0 23 y = false := (Bool.not_eq_true _).mp d1
              have HN := Hid.mk_ (show listsOkB ⟨gl, ow⟩ = false by rw [HF.out, Hn1.out d1']; simp)
              clear d1
              go_wp2_with (go_at_call 120; refine (isSlot_ct _ _).mono ?_; rw [d1']; rintro e w2 ⟨rfl, rfl⟩)
              go_ret
              exact ⟨ret_bool HN.out.symm, hbq⟩
            obtain ⟨y0, y1⟩ := inB_iff.1 d1
            obtain ⟨s, rfl⟩ := Int.eq_ofNat_of_zero_le y0
            have hs3 : s < 24 := by omega
            have hgm := metI_get (L.take (p + j)) s hs3
            have cm : wr.cell? ⟨w.heap.size + 1, s, none⟩ = some (.bool ((L.take (p + j)).any fun z => z == (s : Int))) := by simpa [FB] using omq.cell_ (k := s) (j := 0) hgm (by decide)
            have hfz := omq.frozen_ s
            have hzz : w.heap.size + 1 < wr.heap.size := Nat.lt_of_lt_of_le hz4 hcq.size
            by_cases d2 : ((L.take (p + j)).any fun z => z == (s : Int)) = true
            · have HN := Hid.mk_ (show listsOkB ⟨gl, ow⟩ = false by rw [HF.out, Hn2.out d2]; simp)
              rw [d2] at cm
              clear d2 hgm omq
              go_wp2_with (go_at_call 120; refine (isSlot_ct _ _).mono ?_; rw [d1]; rintro e w2 ⟨rfl, rfl⟩)
              go_ret
              exact ⟨ret_bool HN.out.symm, hbq⟩
            have d2' : ((L.take (p + j)).any fun z => z == (s : Int)) = false := (Bool.not_eq_true _).mp d2
            have HN := Hid.mk_ (Hst.out d1 d2')
            have HM := Hid.mk_ (HMs.out s rfl)
            rw [d2'] at cm
            clear d2 d2' Hn1 Hn2 Hst HMs
            go_wp2_with (go_at_call 120; refine (isSlot_ct _ _).mono ?_; rw [d1]; rintro e w2 ⟨rfl, rfl⟩)
            go_roundw
            case rel =>
              have hset := omq.set_ (k := s) (j := 0) (y := true) (u := .bool true) hgm (by decide) rfl
              rw [HM.out] at hset
              have hset2 : OwL FB 167 (wr.setCell ⟨w.heap.size + 1, s, none⟩ (.bool true)) (.slice (some ⟨w.heap.size + 1, 0, none⟩) 24 24) (metI (L.take (p + j + 1))) := by simpa [FB] using hset
              exact ⟨j + 1, by omega, by go_num, HN, hcq.set_ (List.mem_singleton_self _) _, hset2⟩
            case measure => simp [intOf]; omega
          · obtain rfl : j = row.length := by omega
            go_wp2
            go_roundw
            case rel => exact ⟨i + 1, by omega, by go_num, HO', by rw [HP.out]; exact HRj, hcq, by rw [HP.out]; exact omq⟩
            case measure => simp [intOf]; omega
      · clear hcase
        have h9I : ¬ ((i : Int) < (ow.length : Int)) := by omega
        go_wp2
        obtain ⟨wo, hwo⟩ : ∃ wo : World, wo = wr.alloc (.cells #[.slice sa row.length sc] 94) := ⟨_, rfl⟩
        rw [← hwo] at hbI omI ⊢
        have hzo : wo.heap.size = wr.heap.size + 1 := by rw [hwo]; simp
        clear hwo
        go_loopw [7, 45] (fun _ j wr => ∃ k : Nat, k ≤ row.length ∧ j = .int .i64 k ∧ Hid (seenOk (L.take (p + k)) = true) ∧ Chg [w.heap.size + 1] w4 wr ∧ OwL FB 167 wr (.slice (some ⟨w.heap.size + 1, 0, none⟩) 24 24) (metI (L.take (p + k)))) (fun _ j _ => row.length - (intOf j).toNat)
        case atStart => exact ⟨0, Nat.zero_le _, rfl, HS, hbI, omI⟩
        case round =>
          obtain ⟨j, hj, rfl, HRj, hcq, omq⟩ := hrel
          clear hbI omI p0 qa1
          have hbq : Below w.heap.size w wr := hB4.trans (hcq.below hB4.size (by intro g hg; have := List.mem_singleton.1 hg; omega))
          by_cases hlj : j < row.length
          · obtain ⟨g1, o1, cap1, he1, hg1, _, _, hc1⟩ := (hrow.below hbq).at_ (List.getElem?_eq_getElem hlj)
            injection he1 with e11 e12 e13
            clear e12
            subst e11 e13
            have p1 : wr.cell? ⟨g1, o1 + j, none⟩ = some (.int .i64 row[j]) := by simpa [FI] using hc1 0 _ rfl
            clear hc1
            have hLp : p + j < L.length := by omega
            have hLe : L[p + j] = row[j] := by
              have a := HFi.out j hlj
              rw [List.getElem?_eq_getElem hLp] at a
              exact Option.some.inj a
            have Hn1 := Hid.mk_ (seen_no1 (L := L) hLp)
            have Hn2 := Hid.mk_ (seen_no2 (L := L) hLp)
            have Hst := Hid.mk_ (seen_step (L := L) hLp HRj.out)
            have HMs := Hid.mk_ (fun s hm => metI_set L (p + j) s hLp hm)
            rw [hLe] at Hn1 Hn2 Hst HMs
            generalize row[j] = y at p1 Hn1 Hn2 Hst HMs
            clear hLe hLp
            by_cases d1 : inB 0 23 y = true
            case neg =>
              have d1' : inB 0 23 y = false := (Bool.not_eq_true _).mp d1
              have HN := Hid.mk_ (show listsOkB ⟨gl, ow⟩ = false by rw [HF.out, Hn1.out d1']; simp)
              clear d1
              go_wp2_with (go_at_call 120; refine (isSlot_ct _ _).mono ?_; rw [d1']; rintro e w2 ⟨rfl, rfl⟩)
              go_ret
              exact ⟨ret_bool HN.out.symm, hbq⟩
            obtain ⟨y0, y1⟩ := inB_iff.1 d1
            obtain ⟨s, rfl⟩ := Int.eq_ofNat_of_zero_le y0
            have hs3 : s < 24 := by omega
            have hgm := metI_get (L.take (p + j)) s hs3
            have cm : wr.cell? ⟨w.heap.size + 1, s, none⟩ = some (.bool ((L.take (p + j)).any fun z => z == (s : Int))) := by simpa [FB] using omq.cell_ (k := s) (j := 0) hgm (by decide)
            have hfz := omq.frozen_ s
            have hzz : w.heap.size + 1 < wr.heap.size := Nat.lt_of_lt_of_le hz4 hcq.size
            by_cases d2 : ((L.take (p + j)).any fun z => z == (s : Int)) = true
            · have HN := Hid.mk_ (show listsOkB ⟨gl, ow⟩ = false by rw [HF.out, Hn2.out d2]; simp)
              rw [d2] at cm
              clear d2 hgm omq
              go_wp2_with (go_at_call 120; refine (isSlot_ct _ _).mono ?_; rw [d1]; rintro e w2 ⟨rfl, rfl⟩)
              go_ret
              exact ⟨ret_bool HN.out.symm, hbq⟩
            have d2' : ((L.take (p + j)).any fun z => z == (s : Int)) = false := (Bool.not_eq_true _).mp d2
            have HN := Hid.mk_ (Hst.out d1 d2')
            have HM := Hid.mk_ (HMs.out s rfl)
            rw [d2'] at cm
            clear d2 d2' Hn1 Hn2 Hst HMs
            go_wp2_with (go_at_call 120; refine (isSlot_ct _ _).mono ?_; rw [d1]; rintro e w2 ⟨rfl, rfl⟩)
            go_roundw
            case rel =>
              have hset := omq.set_ (k := s) (j := 0) (y := true) (u := .bool true) hgm (by decide) rfl
              rw [HM.out] at hset
              have hset2 : OwL FB 167 (wr.setCell ⟨w.heap.size + 1, s, none⟩ (.bool true)) (.slice (some ⟨w.heap.size + 1, 0, none⟩) 24 24) (metI (L.take (p + j + 1))) := by simpa [FB] using hset
              exact ⟨j + 1, by omega, by go_num, HN, hcq.set_ (List.mem_singleton_self _) _, hset2⟩
            case measure => simp [intOf]; omega
          · obtain rfl : j = row.length := by omega
            go_wp2
            go_roundw
            case rel => exact ⟨i + 1, by omega, by go_num, HO', by rw [HP.out]; exact HRj, hcq, by rw [HP.out]; exact omq⟩
            case measure => simp [intOf]; omega
    · obtain rfl : i = 12 := by omega
      have HN := Hid.mk_ (show listsOkB ⟨gl, ow⟩ = true by
        have a := HO.out
        have b := HS.out
        have e1 : R.take 12 = R := List.take_of_length_le (by rw [KL.out]; omega)
        have e2 : ow.take 12 = ow := List.take_of_length_le (by rw [K2.out]; omega)
        rw [e1, HT0.out, List.take_length] at b
        rw [e2] at a
        rw [HF.out, a, b]
        rfl)
      go_wp2
      go_ret
      exact ⟨ret_bool HN.out.symm, hb⟩
end Go.Proofs.YtkmggglljkmjoaaGreat

