/-
  Lists of ints searched; bytes: the contracts.
-/
import Derived.Test.YtkldapdpaldbgaaGreatT
import Derived.Test.YtkldapdpaldbgaaGreatL
import Derived.Deep.QuietTactic
import Derived.BigQuiet
import Derived.Deep.LoopGhost
import Derived.Deep.RegionHeld3
import Derived.Test.YtkldapdpaldbgaaGreatN
import Derived.Test.YtkldapdpaldbgaaGreatA
import Derived.WalkSpells
import Derived.Laws.Cover3
import Derived.Test.YtkldapdpaldbgaaGreatPA
namespace Go.Proofs.YtkldapdpaldbgaaGreat
open Go.RowKit

def idxOf {α : Type} (p : α → Bool) (l : List α) : Int := match l.findIdx? p with | some i => i | none => -1
theorem idxOf_hit {α : Type} (p : α → Bool) (l : List α) (i : Nat) (hi : i < l.length) (h : (l.take i).any p = false) (hp : p l[i] = true) : idxOf p l = i := by
  have hf : l.findIdx? p = some i := by
    rw [List.findIdx?_eq_some_iff_getElem]
    refine ⟨hi, hp, fun j hj => ?_⟩
    rw [List.any_eq_false] at h
    exact h l[j] (List.mem_take_iff_getElem.2 ⟨j, by omega, rfl⟩)
  unfold idxOf
  rw [hf]
theorem idxOf_none {α : Type} (p : α → Bool) (l : List α) (h : l.any p = false) : idxOf p l = -1 := by
  have hf : l.findIdx? p = none := by
    rw [List.findIdx?_eq_none_iff]
    intro x hx
    rw [List.any_eq_false] at h
    simpa using h x hx
  unfold idxOf
  rw [hf]
theorem any_take_succ {α : Type} (p : α → Bool) (l : List α) (i : Nat) (hi : i < l.length) (h : (l.take i).any p = false) (hp : p l[i] = false) : (l.take (i + 1)).any p = false := by
  rw [List.take_succ_eq_append_getElem hi, List.any_append, h]
  simp [hp]
theorem idxOf_ge {α : Type} (p : α → Bool) (l : List α) : decide (0 ≤ idxOf p l) = l.any p := by
  unfold idxOf
  cases h : l.findIdx? p with
  | none =>
    rw [List.findIdx?_eq_none_iff] at h
    have : l.any p = false := by
      rw [List.any_eq_false]
      intro x hx
      simp [h x hx]
    rw [this]
    rfl
  | some i =>
    rw [List.findIdx?_eq_some_iff_getElem] at h
    obtain ⟨hi, hp, _⟩ := h
    have : l.any p = true := List.any_eq_true.2 ⟨l[i], List.getElem_mem hi, hp⟩
    rw [this]
    simp

set_option maxHeartbeats 1000000 in
theorem IndexFuncInt_ct (w : World) (v : Value) (l : List Int) (h : RdL FI w w.heap.size v l) (fid : FuncId) (cap : Array Value) (p : Int → Bool) (hent : ∀ (x : Int) (W : World), (callFunc fid (#[.int .i64 x] ++ cap)).run Tryz.prog W = .ok (.enter fid (#[.int .i64 x] ++ cap)) W)
    (hf : ∀ (x : Int) (W : World), x ∈ l → Below w.heap.size w W → Calls Tryz.prog fid (#[.int .i64 x] ++ cap) W fun e W' => e = .returned (.bool (p x)) ∧ Below W.heap.size W W') :
    Calls Tryz.prog 145 #[v, .func (.func fid) #[] cap] w fun e w' => e = .returned (.int .i64 (idxOf p l)) ∧ Below w.heap.size w w' := by
  obtain ⟨A, c, hv, q1, q2, _⟩ := id h
  have hlt0 : l.length ≤ 9223372036854775807 := by unfold maxLen at q2; omega
  subst hv
  have HF := Hid.mk_ hf
  clear hf q1 q2
  go_enter Tryz.func145, Tryz.ntmps145
  go_wp2
  go_loopw [5, 8] (fun _ i wr => ∃ i' : Nat, i' ≤ l.length ∧ i = .int .i64 i' ∧ Below w.heap.size w wr ∧ (l.take i').any p = false) (fun _ i _ => l.length - (intOf i).toNat)
  case atStart => exact ⟨0, Nat.zero_le _, rfl, Below.refl _ _, rfl⟩
  case round =>
    obtain ⟨i, hi, rfl, hb, hno⟩ := hrel
    have HN := Hid.mk_ hno
    clear hno
    by_cases hlt : i < l.length
    · obtain ⟨g, off, cap', he, hg, _, _, hc⟩ := (h.below hb).at_ (List.getElem?_eq_getElem hlt)
      injection he with he1 he2 he3
      clear he2
      subst he1 he3
      have p0 : wr.cell? ⟨g, off + i, none⟩ = some (.int .i64 l[i]) := by simpa [FI] using hc 0 _ rfl
      clear hc h
      go_wp2_with fail
      refine (HF.out l[i] wr (List.getElem_mem hlt) hb).mono ?_
      rintro e w1 ⟨rfl, hb1⟩
      have hb2 := hb.trans (hb1.mono hb.size)
      by_cases hp : p l[i] = true
      · have HP := Hid.mk_ (idxOf_hit p l i hlt HN.out hp)
        rw [hp]
        clear hp
        go_wp2
        go_ret
        exact ⟨ret_i64 HP.out.symm, hb2⟩
      · have hp' : p l[i] = false := by simpa using hp
        have HP := Hid.mk_ (any_take_succ p l i hlt HN.out hp')
        rw [hp']
        clear hp hp'
        go_wp2
        go_roundw
        case rel => exact ⟨i + 1, by omega, by go_num, hb2, HP.out⟩
        case measure => simp [intOf]; omega
    · go_wp2
      go_ret
      obtain rfl : i = l.length := by omega
      exact ⟨ret_i64 (idxOf_none p l (by simpa using HN.out)).symm, hb⟩
set_option maxHeartbeats 1000000 in
theorem ContainsFuncInt_ct (w : World) (v : Value) (l : List Int) (h : RdL FI w w.heap.size v l) (fid : FuncId) (cap : Array Value) (p : Int → Bool) (hent : ∀ (x : Int) (W : World), (callFunc fid (#[.int .i64 x] ++ cap)).run Tryz.prog W = .ok (.enter fid (#[.int .i64 x] ++ cap)) W)
    (hf : ∀ (x : Int) (W : World), x ∈ l → Below w.heap.size w W → Calls Tryz.prog fid (#[.int .i64 x] ++ cap) W fun e W' => e = .returned (.bool (p x)) ∧ Below W.heap.size W W') :
    Calls Tryz.prog 70 #[v, .func (.func fid) #[] cap] w fun e w' => e = .returned (.bool (l.any p)) ∧ Below w.heap.size w w' := by
  have HF := Hid.mk_ hf
  clear hf
  go_enter Tryz.func70, Tryz.ntmps70
  go_wp2_with fail
  refine (IndexFuncInt_ct w v l h fid cap p hent HF.out).mono ?_
  rintro e w1 ⟨rfl, hb1⟩
  have HP := Hid.mk_ (idxOf_ge p l)
  go_wp2
  go_ret
  exact ⟨ret_bool HP.out, hb1⟩

theorem all_not_any {α : Type} (p : α → Bool) (l : List α) : l.all p = !(l.any fun x => !p x) := by
  induction l with
  | nil => rfl
  | cons x l ih => simp [ih]
def bytesOkB (b : List Int) : Bool := decide (b.length ≤ 1000) && b.all (inB 0 255)
def loadTo (b : List Int) (a : Nat) : Nat → Int
  | 0 => 0
  | k + 1 => loadTo b a k * 256 + b.getD (a + k) 0
def loadN (b : List Int) (a k : Int) : Int := loadTo b a.toNat k.toNat
theorem getD_at {α : Type} {b : List α} {d : α} {i : Nat} (h : i < b.length) : b.getD i d = b[i] := by simp [List.getD, h]
theorem getD_off {α : Type} {b : List α} {d : α} {i : Nat} (h : b.length ≤ i) : b.getD i d = d := by simp [List.getD, h]
theorem byte_at {b : List Int} (hb : b.all (inB 0 255) = true) (i : Nat) : 0 ≤ b.getD i 0 ∧ b.getD i 0 ≤ 255 := by
  by_cases h : i < b.length
  · rw [getD_at h]
    exact inB_iff.1 (List.all_eq_true.1 hb _ (List.getElem_mem h))
  · rw [getD_off (by omega)]
    omega
theorem loadTo_bd {b : List Int} (hb : b.all (inB 0 255) = true) (a k : Nat) : 0 ≤ loadTo b a k ∧ loadTo b a k < 256 ^ k := by
  induction k with
  | zero => exact ⟨Int.le_refl _, by show (0 : Int) < 1; omega⟩
  | succ k ih =>
    have h1 := byte_at hb (a + k)
    show 0 ≤ loadTo b a k * 256 + b.getD (a + k) 0 ∧ loadTo b a k * 256 + b.getD (a + k) 0 < 256 ^ (k + 1)
    rw [Int.pow_succ]
    omega
theorem loadTo_small {b : List Int} (hb : b.all (inB 0 255) = true) (a k : Nat) (hk : k ≤ 6) : 0 ≤ loadTo b a k ∧ loadTo b a k ≤ 281474976710656 := by
  have h1 := loadTo_bd hb a k
  have h2 : (256 : Int) ^ k ≤ 281474976710656 := by
    rcases (show k = 0 ∨ k = 1 ∨ k = 2 ∨ k = 3 ∨ k = 4 ∨ k = 5 ∨ k = 6 by omega) with rfl | rfl | rfl | rfl | rfl | rfl | rfl <;> decide
  omega

theorem BytesOk1_impl (x : Int) (w : World) : Calls Tryz.prog 317 #[.int .i64 x] w fun e w' => e = .returned (.bool (!inB 0 255 x)) ∧ Below w.heap.size w w' := by
  go_enter Tryz.func317, Tryz.ntmps317
  go_wp2_with (go_at_call 318; refine (isByte_ct _ _).mono ?_; rintro e w1 ⟨rfl, rfl⟩)
  go_ret
  exact ⟨rfl, Below.refl _ _⟩
set_option maxHeartbeats 400000 in
theorem BytesOk_impl (w : World) (v : Value) (b : List Int) (h : RdL FI w w.heap.size v b) :
    Calls Tryz.prog 278 #[v] w fun e w' => e = .returned (.bool (bytesOkB b)) ∧ Below w.heap.size w w' := by
  obtain ⟨A, c, hv, q1, q2, _⟩ := id h
  have hlt0 : b.length ≤ 9223372036854775807 := by unfold maxLen at q2; omega
  subst hv
  clear q1 q2
  have HA := Hid.mk_ (all_not_any (inB 0 255) b)
  by_cases hl : b.length ≤ 1000
  · have HE := Hid.mk_ (show bytesOkB b = b.all (inB 0 255) by simp [bytesOkB, hl])
    go_enter Tryz.func278, Tryz.ntmps278
    go_wp2_with fail
    refine (ContainsFuncInt_ct w _ b h 317 #[] (fun x => !inB 0 255 x) (fun _ _ => by kernel_rfl) (fun x W _ _ => BytesOk1_impl x W)).mono ?_
    rintro e w1 ⟨rfl, hb1⟩
    go_wp2
    go_ret
    exact ⟨ret_bool (by rw [HE.out, HA.out]), hb1⟩
  · have HE := Hid.mk_ (show bytesOkB b = false by simp [bytesOkB, hl])
    go_enter Tryz.func278, Tryz.ntmps278
    go_wp2
    go_ret
    exact ⟨ret_bool HE.out.symm, Below.refl _ _⟩

set_option maxHeartbeats 400000 in
theorem BytesOk_spec (w : World) (v : Value) (b : List Int) (h : RdL FI w w.heap.size v b) :
    Calls Tryz.prog 268 #[v] w fun e w' => e = .returned (.bool (bytesOkB b)) ∧ w = w' := by
  obtain ⟨A, c, hv, q1, q2, _⟩ := id h
  have hlt0 : b.length ≤ 9223372036854775807 := by unfold maxLen at q2; omega
  subst hv
  clear q1 q2
  have HE := Hid.mk_ (show bytesOkB b = (decide (b.length ≤ 1000) && b.all (inB 0 255)) from rfl)
  go_enter Tryz.func268, Tryz.ntmps268
  go_wp2
  go_loop [3] (fun i => ∃ k : Nat, k ≤ b.length ∧ i = .int .i64 k ∧ Hid ((b.take k).all (inB 0 255) = true)) (fun i => b.length - (intOf i).toNat)
  case atStart => exact ⟨0, Nat.zero_le _, rfl, rfl⟩
  case round =>
    obtain ⟨i, hi, rfl, HT⟩ := hrel
    by_cases hlt : i < b.length
    · obtain ⟨g, off, cap', he, hg, _, _, hc⟩ := h.at_ (List.getElem?_eq_getElem hlt)
      injection he with he1 he2 he3
      clear he2
      subst he1 he3
      have p0 : w.cell? ⟨g, off + i, none⟩ = some (.int .i64 b[i]) := by simpa [FI] using hc 0 _ rfl
      clear hc h
      by_cases c1 : inB 0 255 b[i] = true
      · have HN := Hid.mk_ (show (b.take (i + 1)).all (inB 0 255) = true by rw [List.take_succ_eq_append_getElem hlt, List.all_append, HT.out]; simp [c1])
        go_wp2_with (go_at_call 107; refine (l1In_ct _ _ _ _).mono ?_; rintro e w1 ⟨rfl, rfl⟩)
        go_round
        case rel => exact ⟨i + 1, by omega, by go_num, HN⟩
        case measure => simp [intOf]; omega
      · have c1' : inB 0 255 b[i] = false := (Bool.not_eq_true _).mp c1
        have HN := Hid.mk_ (show b.all (inB 0 255) = false from List.all_eq_false.2 ⟨b[i], List.getElem_mem hlt, by rw [c1']; decide⟩)
        clear c1
        go_wp2_with (go_at_call 107; refine (l1In_ct _ _ _ _).mono ?_; rintro e w1 ⟨rfl, rfl⟩)
        go_ret
        exact ⟨ret_bool (by rw [HE.out, HN.out]; simp), rfl⟩
    · obtain rfl : i = b.length := by omega
      have HN := Hid.mk_ (show b.all (inB 0 255) = true by have a := HT.out; rwa [List.take_length] at a)
      by_cases hl : b.length ≤ 1000
      · go_wp2
        go_ret
        exact ⟨ret_bool (by rw [HE.out, HN.out]; simp; omega), rfl⟩
      · go_wp2
        go_ret
        exact ⟨ret_bool (by rw [HE.out]; simp [hl]; omega), rfl⟩

set_option maxHeartbeats 1000000 in
theorem loadNum_impl (w : World) (v : Value) (b : List Int) (a k : Int) (h : RdL FI w w.heap.size v b) (ha : 0 ≤ a) (hk1 : 1 ≤ k) (hk7 : k ≤ 7) (hl : a + k ≤ b.length) (hb : b.all (inB 0 255) = true) :
    Calls Tryz.prog 229 #[v, .int .i64 a, .int .i64 k] w fun e w' => e = .returned (.int .i64 (loadN b a k)) ∧ w = w' := by
  obtain ⟨A, c, hv, q1, q2, _⟩ := id h
  have hlt0 : b.length ≤ 9223372036854775807 := by unfold maxLen at q2; omega
  subst hv
  obtain ⟨a, rfl⟩ := Int.eq_ofNat_of_zero_le ha
  obtain ⟨k, rfl⟩ := Int.eq_ofNat_of_zero_le (Int.le_trans (by decide) hk1)
  have HB := Hid.mk_ (loadTo_small hb a)
  have HY := Hid.mk_ (fun i => byte_at hb i)
  have hl' : a + k ≤ b.length := by omega
  have hk7' : k ≤ 7 := by omega
  have hk1' : 1 ≤ k := by omega
  clear q2 ha hb hl hk7 hk1
  have HE := Hid.mk_ (show loadN b (a : Int) (k : Int) = loadTo b a k from rfl)
  have HS := Hid.mk_ (fun i => (show loadTo b a (i + 1) = loadTo b a i * 256 + b.getD (a + i) 0 from rfl))
  have H0 := Hid.mk_ (show loadTo b a 0 = 0 from rfl)
  obtain ⟨g, off, cap', he, hg, _, _, _⟩ := h.at_ (List.getElem?_eq_getElem (show a < b.length by omega))
  injection he with he1 he2 he3
  clear he2
  subst he1 he3
  have hac : ¬ c = a := by omega
  go_enter Tryz.func229, Tryz.ntmps229
  go_wp2
  go_loop [7, 17] (fun n i => ∃ j : Nat, j ≤ k ∧ i = .int .i64 j ∧ n = .int .i64 (loadTo b a j)) (fun _ i => k - (intOf i).toNat)
  case atStart => exact ⟨0, Nat.zero_le _, rfl, by rw [H0.out]⟩
  case round =>
    obtain ⟨i, hi, rfl, rfl⟩ := hrel
    by_cases hlt : i < k
    · have hai : a + i < b.length := by omega
      obtain ⟨g1, off1, cap1, he, hg1, _, _, hc⟩ := h.at_ (List.getElem?_eq_getElem hai)
      injection he with he1 he2 he3
      injection he1 with he1
      injection he1 with he1 he4
      clear he2
      subst he1 he3 he4
      obtain ⟨y1, y2⟩ := HY.out (a + i)
      obtain ⟨x1, x2⟩ := HB.out i (by omega)
      have HX := Hid.mk_ (HS.out i)
      have e1 : b.getD (a + i) 0 = b[a + i] := getD_at hai
      rw [e1] at y1 y2 HX
      have p0 : w.cell? ⟨g, off + (a + i), none⟩ = some (.int .i64 b[a + i]) := by simpa [FI] using hc 0 _ rfl
      have p1 : w.cell? ⟨g, off + a + i, none⟩ = some (.int .i64 b[a + i]) := by rw [Nat.add_assoc]; exact p0
      generalize b[a + i] = y at p0 p1 y1 y2 HX
      generalize loadTo b a i = x at x1 x2 HX
      clear hc e1 h
      go_wp2
      go_round
      case rel => exact ⟨i + 1, by omega, by go_num, by rw [HX.out]; first | done | go_num⟩
      case measure => simp [intOf]; omega
    · obtain rfl : i = k := by omega
      go_wp2
      go_ret
      exact ⟨ret_i64 HE.out.symm, rfl⟩

set_option maxHeartbeats 1000000 in
theorem l3Load_spec (w : World) (v : Value) (b : List Int) (a k : Int) (h : RdL FI w w.heap.size v b) (ha : 0 ≤ a) (hk1 : 1 ≤ k) (hk7 : k ≤ 7) (hl : a + k ≤ b.length) (hb : b.all (inB 0 255) = true) :
    Calls Tryz.prog 215 #[v, .int .i64 a, .int .i64 k] w fun e w' => e = .returned (.int .i64 (loadN b a k)) ∧ w = w' := by
  obtain ⟨A, c, hv, q1, q2, _⟩ := id h
  have hlt0 : b.length ≤ 9223372036854775807 := by unfold maxLen at q2; omega
  subst hv
  obtain ⟨a, rfl⟩ := Int.eq_ofNat_of_zero_le ha
  obtain ⟨k, rfl⟩ := Int.eq_ofNat_of_zero_le (Int.le_trans (by decide) hk1)
  have HB := Hid.mk_ (loadTo_small hb a)
  have HY := Hid.mk_ (fun i => byte_at hb i)
  have hl' : a + k ≤ b.length := by omega
  have hk7' : k ≤ 7 := by omega
  have hk1' : 1 ≤ k := by omega
  clear q2 ha hb hl hk7 hk1
  have HE := Hid.mk_ (show loadN b (a : Int) (k : Int) = loadTo b a k from rfl)
  have HS := Hid.mk_ (fun i => (show loadTo b a (i + 1) = loadTo b a i * 256 + b.getD (a + i) 0 from rfl))
  have H0 := Hid.mk_ (show loadTo b a 0 = 0 from rfl)
  obtain ⟨g, off, cap', he, hg, _, _, _⟩ := h.at_ (List.getElem?_eq_getElem (show a < b.length by omega))
  injection he with he1 he2 he3
  clear he2
  subst he1 he3
  have hac : ¬ c = a := by omega
  go_enter Tryz.func215, Tryz.ntmps215
  go_wp2
  go_loop [7, 8] (fun n i => ∃ j : Nat, j ≤ k ∧ i = .int .i64 j ∧ n = .int .i64 (loadTo b a j)) (fun _ i => k - (intOf i).toNat)
  case atStart => exact ⟨0, Nat.zero_le _, rfl, by rw [H0.out]⟩
  case round =>
    obtain ⟨i, hi, rfl, rfl⟩ := hrel
    by_cases hlt : i < k
    · have hai : a + i < b.length := by omega
      obtain ⟨g1, off1, cap1, he, hg1, _, _, hc⟩ := h.at_ (List.getElem?_eq_getElem hai)
      injection he with he1 he2 he3
      injection he1 with he1
      injection he1 with he1 he4
      clear he2
      subst he1 he3 he4
      obtain ⟨y1, y2⟩ := HY.out (a + i)
      obtain ⟨x1, x2⟩ := HB.out i (by omega)
      have HX := Hid.mk_ (HS.out i)
      have e1 : b.getD (a + i) 0 = b[a + i] := getD_at hai
      rw [e1] at y1 y2 HX
      have p0 : w.cell? ⟨g, off + (a + i), none⟩ = some (.int .i64 b[a + i]) := by simpa [FI] using hc 0 _ rfl
      have p1 : w.cell? ⟨g, off + a + i, none⟩ = some (.int .i64 b[a + i]) := by rw [Nat.add_assoc]; exact p0
      generalize b[a + i] = y at p0 p1 y1 y2 HX
      generalize loadTo b a i = x at x1 x2 HX
      clear hc e1 h
      go_wp2
      go_round
      case rel => exact ⟨i + 1, by omega, by go_num, by rw [HX.out]; first | done | go_num⟩
      case measure => simp [intOf]; omega
    · obtain rfl : i = k := by omega
      go_wp2
      go_ret
      exact ⟨ret_i64 HE.out.symm, rfl⟩
end Go.Proofs.YtkldapdpaldbgaaGreat
