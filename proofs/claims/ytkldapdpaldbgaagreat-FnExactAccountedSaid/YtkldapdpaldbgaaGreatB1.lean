/-
  Heaps: the shape: the contracts.
-/
import Derived.Test.YtkldapdpaldbgaaGreatT
import Derived.Test.YtkldapdpaldbgaaGreatL
import Derived.Deep.QuietTactic
import Derived.BigQuiet
import Derived.Deep.LoopGhost
import Derived.Deep.RegionHeld3
import Derived.Test.YtkldapdpaldbgaaGreatN
import Derived.Test.YtkldapdpaldbgaaGreatA
import Derived.WalkSpells
import Derived.Laws.Cover3
import Derived.Test.YtkldapdpaldbgaaGreatB0
import Derived.Test.YtkldapdpaldbgaaGreatVM
namespace Go.Proofs.YtkldapdpaldbgaaGreat
open Go.RowKit

set_option maxHeartbeats 1000000 in
theorem IndexFuncIntQ_ct (w : World) (v : Value) (l : List Int) (h : RdL FI w w.heap.size v l) (fid : FuncId) (cap : Array Value) (p : Int → Bool) (hent : ∀ (x : Int) (W : World), (callFunc fid (#[.int .i64 x] ++ cap)).run Tryz.prog W = .ok (.enter fid (#[.int .i64 x] ++ cap)) W) (hf : ∀ (x : Int), x ∈ l → Calls Tryz.prog fid (#[.int .i64 x] ++ cap) w fun e W' => e = .returned (.bool (p x)) ∧ w = W') :
    Calls Tryz.prog 145 #[v, .func (.func fid) #[] cap] w fun e w' => e = .returned (.int .i64 (idxOf p l)) ∧ w = w' := by
  obtain ⟨A, c, hv, q1, q2, _⟩ := id h
  have hlt0 : l.length ≤ 9223372036854775807 := by unfold maxLen at q2; omega
  subst hv
  have HF := Hid.mk_ hf
  clear hf q1 q2
  go_enter Tryz.func145, Tryz.ntmps145
  go_wp2
  go_loop [5, 8] (fun _ i => ∃ i' : Nat, i' ≤ l.length ∧ i = .int .i64 i' ∧ Hid ((l.take i').any p = false)) (fun _ i => l.length - (intOf i).toNat)
  case atStart => exact ⟨0, Nat.zero_le _, rfl, rfl⟩
  case round =>
    obtain ⟨i, hi, rfl, HN⟩ := hrel
    by_cases hlt : i < l.length
    · obtain ⟨g, off, cap', he, hg, _, _, hc⟩ := h.at_ (List.getElem?_eq_getElem hlt)
      injection he with he1 he2 he3
      clear he2
      subst he1 he3
      have p0 : w.cell? ⟨g, off + i, none⟩ = some (.int .i64 l[i]) := by simpa [FI] using hc 0 _ rfl
      clear hc h
      go_wp2_with fail
      refine (HF.out l[i] (List.getElem_mem hlt)).mono ?_
      rintro e w1 ⟨rfl, rfl⟩
      by_cases hp : p l[i] = true
      · have HP := Hid.mk_ (idxOf_hit p l i hlt HN.out hp)
        rw [hp]
        clear hp
        go_wp2
        go_ret
        exact ⟨ret_i64 HP.out.symm, rfl⟩
      · have hp' : p l[i] = false := by simpa using hp
        have HP := Hid.mk_ (any_take_succ p l i hlt HN.out hp')
        rw [hp']
        clear hp hp'
        go_wp2
        go_round
        case rel => exact ⟨i + 1, by omega, by go_num, HP⟩
        case measure => simp [intOf]; omega
    · go_wp2
      go_ret
      obtain rfl : i = l.length := by omega
      exact ⟨ret_i64 (idxOf_none p l (by simpa using HN.out)).symm, rfl⟩
set_option maxHeartbeats 1000000 in
theorem ContainsFuncIntQ_ct (w : World) (v : Value) (l : List Int) (h : RdL FI w w.heap.size v l) (fid : FuncId) (cap : Array Value) (p : Int → Bool) (hent : ∀ (x : Int) (W : World), (callFunc fid (#[.int .i64 x] ++ cap)).run Tryz.prog W = .ok (.enter fid (#[.int .i64 x] ++ cap)) W) (hf : ∀ (x : Int), x ∈ l → Calls Tryz.prog fid (#[.int .i64 x] ++ cap) w fun e W' => e = .returned (.bool (p x)) ∧ w = W') :
    Calls Tryz.prog 70 #[v, .func (.func fid) #[] cap] w fun e w' => e = .returned (.bool (l.any p)) ∧ w = w' := by
  have HF := Hid.mk_ hf
  clear hf
  go_enter Tryz.func70, Tryz.ntmps70
  go_wp2_with fail
  refine (IndexFuncIntQ_ct w v l h fid cap p hent HF.out).mono ?_
  rintro e w1 ⟨rfl, rfl⟩
  have HP := Hid.mk_ (idxOf_ge p l)
  go_wp2
  go_ret
  exact ⟨ret_bool HP.out, rfl⟩
theorem isZero1_impl (x : Int) (w : World) : Calls Tryz.prog 319 #[.int .i64 x] w fun e w' => e = .returned (.bool (x != 0)) ∧ w = w' := by
  go_enter Tryz.func319, Tryz.ntmps319
  go_wp2
  go_ret
  exact ⟨rfl, rfl⟩
def zerosB (b : List Int) : Bool := b.all fun x => x == 0
theorem isZero_impl (w : World) (v : Value) (b : List Int) (h : RdL FI w w.heap.size v b) :
    Calls Tryz.prog 280 #[v] w fun e w' => e = .returned (.bool (zerosB b)) ∧ w = w' := by
  have HA := Hid.mk_ (show zerosB b = !(b.any fun x => x != 0) by unfold zerosB; rw [all_not_any]; rfl)
  go_enter Tryz.func280, Tryz.ntmps280
  go_wp2_with fail
  refine (ContainsFuncIntQ_ct w _ b h 319 #[] (fun x => x != 0) (fun _ _ => by kernel_rfl) (fun x _ => isZero1_impl x w)).mono ?_
  rintro e w1 ⟨rfl, rfl⟩
  go_wp2
  go_ret
  exact ⟨ret_bool HA.out.symm, rfl⟩
theorem BytesOk1_implQ (x : Int) (w : World) : Calls Tryz.prog 317 #[.int .i64 x] w fun e w' => e = .returned (.bool (!inB 0 255 x)) ∧ w = w' := by
  go_enter Tryz.func317, Tryz.ntmps317
  go_wp2_with (go_at_call 318; refine (isByte_ct _ _).mono ?_; rintro e w1 ⟨rfl, rfl⟩)
  go_ret
  exact ⟨rfl, rfl⟩
set_option maxHeartbeats 400000 in
theorem BytesOk_implQ (w : World) (v : Value) (b : List Int) (h : RdL FI w w.heap.size v b) :
    Calls Tryz.prog 278 #[v] w fun e w' => e = .returned (.bool (bytesOkB b)) ∧ w = w' := by
  obtain ⟨A, c, hv, q1, q2, _⟩ := id h
  have hlt0 : b.length ≤ 9223372036854775807 := by unfold maxLen at q2; omega
  subst hv
  clear q1 q2
  have HA := Hid.mk_ (all_not_any (inB 0 255) b)
  by_cases hl : b.length ≤ 1000
  · have HE := Hid.mk_ (show bytesOkB b = b.all (inB 0 255) by simp [bytesOkB, hl])
    go_enter Tryz.func278, Tryz.ntmps278
    go_wp2_with fail
    refine (ContainsFuncIntQ_ct w _ b h 317 #[] (fun x => !inB 0 255 x) (fun _ _ => by kernel_rfl) (fun x _ => BytesOk1_implQ x w)).mono ?_
    rintro e w1 ⟨rfl, rfl⟩
    go_wp2
    go_ret
    exact ⟨ret_bool (by rw [HE.out, HA.out]), rfl⟩
  · have HE := Hid.mk_ (show bytesOkB b = false by simp [bytesOkB, hl])
    go_enter Tryz.func278, Tryz.ntmps278
    go_wp2
    go_ret
    exact ⟨ret_bool HE.out.symm, rfl⟩
theorem shaped1_impl (x : Int) (w : World) : Calls Tryz.prog 279 #[.int .i64 x] w fun e w' => e = .returned (.bool (!inB (-1) 2 x)) ∧ w = w' := by
  go_enter Tryz.func279, Tryz.ntmps279
  go_wp2_with (go_at_call 111; refine (within_ct _ _ _ _).mono ?_; rintro e w1 ⟨rfl, rfl⟩)
  go_ret
  exact ⟨rfl, rfl⟩

def shapeB (h : Heap) : Bool := (h.Bytes.length == 384) && (h.Class.length == 6) && bytesOkB h.Bytes && h.Class.all (inB (-1) 2)
structure Shape (h : Heap) : Prop where
  bl : h.Bytes.length = 384
  cl : h.Class.length = 6
  by_ : h.Bytes.all (inB 0 255) = true
  cs : ∀ i, -1 ≤ h.Class.getD i (-1) ∧ h.Class.getD i (-1) ≤ 2
theorem shape_of {h : Heap} (k : shapeB h = true) : Shape h := by
  simp only [shapeB, bytesOkB, Bool.and_eq_true, beq_iff_eq] at k
  obtain ⟨⟨⟨k1, k2⟩, k3, k4⟩, k5⟩ := k
  refine ⟨k1, k2, k4, fun i => ?_⟩
  by_cases hi : i < h.Class.length
  · rw [getD_at hi]
    exact inB_iff.1 (List.all_eq_true.1 k5 _ (List.getElem_mem hi))
  · rw [getD_off (by omega)]
    omega
def clAt (h : Heap) (s : Int) : Int := h.Class.getD (s / 4).toNat (-1)
def classInB (h : Heap) (s : Int) : Int := if genAt s (clAt h s) < 0 then -1 else clAt h s
def genInB (h : Heap) (s : Int) : Int := if classInB h s < 0 then 0 else loadN h.Bytes (genAt s (classInB h s)) 4

set_option maxRecDepth 100000 in
set_option maxHeartbeats 1000000 in
theorem shaped_impl (w : World) (H : HHeap) (x : Heap) (h : RdHeap w w.heap.size H x) :
    Calls Tryz.prog 238 #[.agg #[.slice H.Bytes.a H.Bytes.len H.Bytes.cap, .slice H.Class.a H.Class.len H.Class.cap]] w fun e w' => e = .returned (.bool (shapeB x)) ∧ Below w.heap.size w w' := by
  obtain ⟨⟨A1, n1, c1⟩, ⟨A2, n2, c2⟩⟩ := H
  obtain ⟨bs, cs⟩ := x
  have hr1 : RdL FI w w.heap.size (.slice A1 n1 c1) bs := h.Bytes
  have hr2 : RdL FI w w.heap.size (.slice A2 n2 c2) cs := h.Class
  obtain ⟨_, _, hv, q1, q2, qx⟩ := id hr1
  simp only [Value.slice.injEq] at hv
  obtain ⟨rfl, rfl, rfl⟩ := hv
  have hlt1 : bs.length ≤ 9223372036854775807 := by unfold maxLen at q2; omega
  clear q1 q2 qx
  obtain ⟨_, _, hv, q1, q2, qx⟩ := id hr2
  simp only [Value.slice.injEq] at hv
  obtain ⟨rfl, rfl, rfl⟩ := hv
  have hlt2 : cs.length ≤ 9223372036854775807 := by unfold maxLen at q2; omega
  clear q1 q2 qx h
  have HE := Hid.mk_ (show shapeB ⟨bs, cs⟩ = ((bs.length == 384) && (cs.length == 6) && bytesOkB bs && cs.all (inB (-1) 2)) from rfl)
  show Calls Tryz.prog 238 #[.agg #[.slice A1 bs.length c1, .slice A2 cs.length c2]] _ _
  by_cases k1 : (bs.length == 384) = true
  case neg =>
    have k1' : (bs.length == 384) = false := (Bool.not_eq_true _).mp k1
    clear k1
    have k1x : (((bs.length : Nat) : Int) == 384) = false := by simp at k1' ⊢; omega
    have HF := Hid.mk_ k1'
    clear k1'
    go_enter Tryz.func238, Tryz.ntmps238
    go_wp2_with (go_at_call 278; refine (BytesOk_implQ _ _ bs (rd_up hr1 (by repeat (first | exact Below.refl _ _ | refine Below.alloc ?_ (by simp <;> omega) _ | refine below_grow_of ?_ (by simp <;> omega) _ _ | refine Below.drew ?_)))).mono ?_; rintro e w1 ⟨rfl, rfl⟩)
    go_ret
    exact ⟨ret_bool (by rw [HE.out, HF.out]; simp), by repeat (first | exact Below.refl _ _ | refine Below.alloc ?_ (by simp <;> omega) _ | refine below_grow_of ?_ (by simp <;> omega) _ _ | refine Below.drew ?_)⟩
  have k1x : (((bs.length : Nat) : Int) == 384) = true := by simp at k1 ⊢; omega
  have k1h := Hid.mk_ k1
  clear k1
  by_cases k3 : bytesOkB bs = true
  case neg =>
    have k3' : bytesOkB bs = false := (Bool.not_eq_true _).mp k3
    clear k3
    go_enter Tryz.func238, Tryz.ntmps238
    go_wp2_with (go_at_call 278; refine (BytesOk_implQ _ _ bs (rd_up hr1 (by repeat (first | exact Below.refl _ _ | refine Below.alloc ?_ (by simp <;> omega) _ | refine below_grow_of ?_ (by simp <;> omega) _ _ | refine Below.drew ?_)))).mono ?_; rintro e w1 ⟨rfl, rfl⟩)
    go_ret
    exact ⟨ret_bool (by rw [HE.out, k3']; simp), by repeat (first | exact Below.refl _ _ | refine Below.alloc ?_ (by simp <;> omega) _ | refine below_grow_of ?_ (by simp <;> omega) _ _ | refine Below.drew ?_)⟩
  by_cases k2 : (cs.length == 6) = true
  case neg =>
    have k2' : (cs.length == 6) = false := (Bool.not_eq_true _).mp k2
    clear k2
    have k2x : (((cs.length : Nat) : Int) == 6) = false := by simp at k2' ⊢; omega
    have HF := Hid.mk_ k2'
    clear k2'
    go_enter Tryz.func238, Tryz.ntmps238
    go_wp2_with (go_at_call 278; refine (BytesOk_implQ _ _ bs (rd_up hr1 (by repeat (first | exact Below.refl _ _ | refine Below.alloc ?_ (by simp <;> omega) _ | refine below_grow_of ?_ (by simp <;> omega) _ _ | refine Below.drew ?_)))).mono ?_; rintro e w1 ⟨rfl, rfl⟩)
    go_ret
    exact ⟨ret_bool (by rw [HE.out, HF.out]; simp), by repeat (first | exact Below.refl _ _ | refine Below.alloc ?_ (by simp <;> omega) _ | refine below_grow_of ?_ (by simp <;> omega) _ _ | refine Below.drew ?_)⟩
  have k2x : (((cs.length : Nat) : Int) == 6) = true := by simp at k2 ⊢; omega
  have k2h := Hid.mk_ k2
  clear k2
  have HA := Hid.mk_ (all_not_any (inB (-1) 2) cs)
  go_enter Tryz.func238, Tryz.ntmps238
  go_wp2_with (go_at_call 278; refine (BytesOk_implQ _ _ bs (rd_up hr1 (by repeat (first | exact Below.refl _ _ | refine Below.alloc ?_ (by simp <;> omega) _ | refine below_grow_of ?_ (by simp <;> omega) _ _ | refine Below.drew ?_)))).mono ?_; rintro e w1 ⟨rfl, rfl⟩)
  refine (ContainsFuncIntQ_ct _ _ cs (rd_up hr2 (by repeat (first | exact Below.refl _ _ | refine Below.alloc ?_ (by simp <;> omega) _ | refine below_grow_of ?_ (by simp <;> omega) _ _ | refine Below.drew ?_))) 279 #[] (fun x => !inB (-1) 2 x) (fun _ _ => by kernel_rfl) (fun x _ => shaped1_impl x _)).mono ?_
  rintro e w2 ⟨rfl, rfl⟩
  go_wp2
  go_ret
  exact ⟨ret_bool (by rw [HE.out, k1h.out, k2h.out, k3, HA.out]; rfl), by repeat (first | exact Below.refl _ _ | refine Below.alloc ?_ (by simp <;> omega) _ | refine below_grow_of ?_ (by simp <;> omega) _ _ | refine Below.drew ?_)⟩

set_option maxRecDepth 100000 in
set_option maxHeartbeats 1000000 in
theorem l7Shape_spec (w : World) (H : HHeap) (x : Heap) (h : RdHeap w w.heap.size H x) :
    Calls Tryz.prog 211 #[.agg #[.slice H.Bytes.a H.Bytes.len H.Bytes.cap, .slice H.Class.a H.Class.len H.Class.cap]] w fun e w' => e = .returned (.bool (shapeB x)) ∧ Below w.heap.size w w' := by
  obtain ⟨⟨A1, n1, c1⟩, ⟨A2, n2, c2⟩⟩ := H
  obtain ⟨bs, cs⟩ := x
  have hr1 : RdL FI w w.heap.size (.slice A1 n1 c1) bs := h.Bytes
  have hr2 : RdL FI w w.heap.size (.slice A2 n2 c2) cs := h.Class
  obtain ⟨_, _, hv, q1, q2, qx⟩ := id hr1
  simp only [Value.slice.injEq] at hv
  obtain ⟨rfl, rfl, rfl⟩ := hv
  have hlt1 : bs.length ≤ 9223372036854775807 := by unfold maxLen at q2; omega
  clear q1 q2 qx
  obtain ⟨_, _, hv, q1, q2, qx⟩ := id hr2
  simp only [Value.slice.injEq] at hv
  obtain ⟨rfl, rfl, rfl⟩ := hv
  have hlt2 : cs.length ≤ 9223372036854775807 := by unfold maxLen at q2; omega
  clear q1 q2 qx h
  have HE := Hid.mk_ (show shapeB ⟨bs, cs⟩ = ((bs.length == 384) && (cs.length == 6) && bytesOkB bs && cs.all (inB (-1) 2)) from rfl)
  show Calls Tryz.prog 211 #[.agg #[.slice A1 bs.length c1, .slice A2 cs.length c2]] _ _
  by_cases k1 : (bs.length == 384) = true
  case neg =>
    have k1' : (bs.length == 384) = false := (Bool.not_eq_true _).mp k1
    clear k1
    have k1x : (((bs.length : Nat) : Int) != 384) = true := by simp at k1' ⊢; omega
    have HF := Hid.mk_ k1'
    clear k1'
    go_enter Tryz.func211, Tryz.ntmps211
    go_wp2_with (go_at_call 268; refine (BytesOk_spec _ _ bs (rd_up hr1 (by repeat (first | exact Below.refl _ _ | refine Below.alloc ?_ (by simp <;> omega) _ | refine below_grow_of ?_ (by simp <;> omega) _ _ | refine Below.drew ?_)))).mono ?_; rintro e w1 ⟨rfl, rfl⟩)
    go_ret
    exact ⟨ret_bool (by rw [HE.out, HF.out]; simp), by repeat (first | exact Below.refl _ _ | refine Below.alloc ?_ (by simp <;> omega) _ | refine below_grow_of ?_ (by simp <;> omega) _ _ | refine Below.drew ?_)⟩
  have k1x : (((bs.length : Nat) : Int) != 384) = false := by simp at k1 ⊢; omega
  have k1h := Hid.mk_ k1
  clear k1
  by_cases k2 : (cs.length == 6) = true
  case neg =>
    have k2' : (cs.length == 6) = false := (Bool.not_eq_true _).mp k2
    clear k2
    have k2x : (((cs.length : Nat) : Int) != 6) = true := by simp at k2' ⊢; omega
    have HF := Hid.mk_ k2'
    clear k2'
    go_enter Tryz.func211, Tryz.ntmps211
    go_wp2_with (go_at_call 268; refine (BytesOk_spec _ _ bs (rd_up hr1 (by repeat (first | exact Below.refl _ _ | refine Below.alloc ?_ (by simp <;> omega) _ | refine below_grow_of ?_ (by simp <;> omega) _ _ | refine Below.drew ?_)))).mono ?_; rintro e w1 ⟨rfl, rfl⟩)
    go_ret
    exact ⟨ret_bool (by rw [HE.out, HF.out]; simp), by repeat (first | exact Below.refl _ _ | refine Below.alloc ?_ (by simp <;> omega) _ | refine below_grow_of ?_ (by simp <;> omega) _ _ | refine Below.drew ?_)⟩
  have k2x : (((cs.length : Nat) : Int) != 6) = false := by simp at k2 ⊢; omega
  have k2h := Hid.mk_ k2
  clear k2
  by_cases k3 : bytesOkB bs = true
  case neg =>
    have k3' : bytesOkB bs = false := (Bool.not_eq_true _).mp k3
    clear k3
    go_enter Tryz.func211, Tryz.ntmps211
    go_wp2_with (go_at_call 268; refine (BytesOk_spec _ _ bs (rd_up hr1 (by repeat (first | exact Below.refl _ _ | refine Below.alloc ?_ (by simp <;> omega) _ | refine below_grow_of ?_ (by simp <;> omega) _ _ | refine Below.drew ?_)))).mono ?_; rintro e w1 ⟨rfl, rfl⟩)
    go_ret
    exact ⟨ret_bool (by rw [HE.out, k3']; simp), by repeat (first | exact Below.refl _ _ | refine Below.alloc ?_ (by simp <;> omega) _ | refine below_grow_of ?_ (by simp <;> omega) _ _ | refine Below.drew ?_)⟩
  have hl6 : cs.length = 6 := by simpa using k2h.out
  have HB0 : Below w.heap.size w (w.alloc (.cells #[.slice A1 bs.length c1, .slice A2 cs.length c2] 26)) := by repeat (first | exact Below.refl _ _ | refine Below.alloc ?_ (by simp <;> omega) _ | refine below_grow_of ?_ (by simp <;> omega) _ _ | refine Below.drew ?_)
  have L6 := Hid.mk_ hl6
  clear hl6
  go_enter Tryz.func211, Tryz.ntmps211
  go_wp2_with (go_at_call 268; refine (BytesOk_spec _ _ bs (rd_up hr1 (by repeat (first | exact Below.refl _ _ | refine Below.alloc ?_ (by simp <;> omega) _ | refine below_grow_of ?_ (by simp <;> omega) _ _ | refine Below.drew ?_)))).mono ?_; rintro e w1 ⟨rfl, rfl⟩)
  have q1 : (w.alloc (.cells #[.slice A1 bs.length c1, .slice A2 cs.length c2] 26)).cell? ⟨w.heap.size, 1, none⟩ = some (.slice A2 cs.length c2) := by simp [go_sem]
  generalize (w.alloc (.cells #[.slice A1 bs.length c1, .slice A2 cs.length c2] 26)) = w0 at HB0 q1
  go_loop [3] (fun i => ∃ k : Nat, k ≤ 6 ∧ i = .int .i64 k ∧ Hid ((cs.take k).all (inB (-1) 2) = true)) (fun i => 6 - (intOf i).toNat)
  case atStart => exact ⟨0, Nat.zero_le _, rfl, rfl⟩
  case round =>
    obtain ⟨i, hi, rfl, HT⟩ := hrel
    by_cases hl6 : i < 6
    · have hlt : i < cs.length := by rw [L6.out]; exact hl6
      obtain ⟨g, off, cap', he, hg, _, _, hc⟩ := (hr2.below HB0).at_ (List.getElem?_eq_getElem hlt)
      injection he with he1 he2 he3
      clear he2
      subst he1 he3
      have p0 : w0.cell? ⟨g, off + i, none⟩ = some (.int .i64 cs[i]) := by simpa [FI] using hc 0 _ rfl
      clear hc hr1 hr2
      by_cases c1 : inB (-1) 2 cs[i] = true
      · have HN := Hid.mk_ (show (cs.take (i + 1)).all (inB (-1) 2) = true by rw [List.take_succ_eq_append_getElem hlt, List.all_append, HT.out]; simp [c1])
        go_wp2_with (go_at_call 107; refine (l1In_ct _ _ _ _).mono ?_; rintro e w1 ⟨rfl, rfl⟩)
        go_round
        case rel => exact ⟨i + 1, by omega, by go_num, HN⟩
        case measure => simp [intOf]; omega
      · have c1' : inB (-1) 2 cs[i] = false := (Bool.not_eq_true _).mp c1
        have HN := Hid.mk_ (show cs.all (inB (-1) 2) = false from List.all_eq_false.2 ⟨cs[i], List.getElem_mem hlt, by rw [c1']; decide⟩)
        clear c1
        go_wp2_with (go_at_call 107; refine (l1In_ct _ _ _ _).mono ?_; rintro e w1 ⟨rfl, rfl⟩)
        go_ret
        exact ⟨ret_bool (by rw [HE.out, HN.out]; simp), HB0⟩
    · obtain rfl : i = 6 := by omega
      have HN := Hid.mk_ (show cs.all (inB (-1) 2) = true by have a := HT.out; rwa [← L6.out, List.take_length] at a)
      go_wp2
      go_ret
      exact ⟨ret_bool (by rw [HE.out, HN.out, k1h.out, k2h.out, k3]; rfl), HB0⟩
end Go.Proofs.YtkldapdpaldbgaaGreat
