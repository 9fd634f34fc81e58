/-
  Numbers as bytes: the contracts.
-/
import Derived.Test.YtcligoicoeklfaaGreatT
import Derived.Test.YtcligoicoeklfaaGreatL
import Derived.Deep.QuietTactic
import Derived.BigQuiet
import Derived.Deep.LoopGhost
import Derived.Deep.RegionHeld3
import Derived.Test.YtcligoicoeklfaaGreatN
import Derived.Test.YtcligoicoeklfaaGreatA
import Derived.WalkSpells
import Derived.Laws.Cover3
import Derived.Test.YtcligoicoeklfaaGreatQP
import Derived.Test.YtcligoicoeklfaaGreatPA
import Derived.Test.YtcligoicoeklfaaGreatBX
import Derived.Laws.BytesArg
import Derived.Lib.Bytes
namespace Go.Proofs.YtcligoicoeklfaaGreat
open Go.RowKit
def FU8 : FT Int := { n := 1, enc := fun x => [.int .u8 x], dflt := 0, len := fun _ => rfl, one := by intro x u hu; simp at hu; subst hu; rfl, pos := by decide, small := by decide }
theorem Tryz.infoU8 : (Tryz.prog.info? 5).map (fun i => (i.zero, i.size, i.bytes)) = some (some (.int .u8 0), FU8.n, 1) := by kernel_rfl
theorem OwL.form_pos {α : Type} {T : FT α} {e : TypeId} {w : World} {v : Value} {l : List α} (h : OwL T e w v l) (hl : 0 < l.length) : ∃ g cap, v = .slice (some ⟨g, 0, none⟩) l.length cap ∧ g < w.heap.size := by
  rcases h.form with ⟨_, rfl⟩ | ⟨g, cap, hv, hg, _, _⟩
  · simp at hl
  · exact ⟨g, cap, hv, hg⟩
theorem seven {k : Int} (h1 : 1 ≤ k) (h7 : k ≤ 7) : k = 1 ∨ k = 2 ∨ k = 3 ∨ k = 4 ∨ k = 5 ∨ k = 6 ∨ k = 7 := by omega
theorem pow_p {k : Int} (h1 : 1 ≤ k) (h7 : k ≤ 7) : wrap64 (2 ^ (8 * k).toNat) = 256 ^ k.toNat := by
  rcases seven h1 h7 with rfl | rfl | rfl | rfl | rfl | rfl | rfl <;> decide +kernel
theorem pow_pN {K : Nat} (h1 : 1 ≤ K) (h7 : K ≤ 7) : wrap64 (2 ^ (8 * K)) = 256 ^ K := by
  have h := pow_p (k := (K : Int)) (by omega) (by omega)
  rw [Int.toNat_natCast, show (8 * (K : Int)).toNat = 8 * K by omega] at h
  exact h
set_option maxRecDepth 100000 in
set_option maxHeartbeats 400000 in
theorem Fixed_no (n k : Int) (w : World) (h : ¬ (1 ≤ k ∧ k ≤ 7 ∧ 0 ≤ n ∧ n < 256 ^ k.toNat)) : Calls Tryz.prog 41 #[.int .i64 n, .int .i64 k] w fun e w' => e = .returned (.string ⟨#[]⟩) ∧ w = w' := by
  by_cases hk : inB 1 7 k = true
  case neg =>
    have hk' : inB 1 7 k = false := (Bool.not_eq_true _).mp hk
    clear h hk
    go_enter Tryz.func41, Tryz.ntmps41
    go_wp2_with (go_at_call 92; refine (isWidth_ct _ _).mono ?_; rw [hk']; rintro e w2 ⟨rfl, rfl⟩)
    go_ret
    exact ⟨rfl, rfl⟩
  obtain ⟨h1, h7⟩ := inB_iff.1 hk
  by_cases h0 : 0 ≤ n
  case neg =>
    have h0' : n < 0 := by omega
    clear h h0
    go_enter Tryz.func41, Tryz.ntmps41
    go_wp2_with (go_at_call 92; refine (isWidth_ct _ _).mono ?_; rw [hk]; rintro e w2 ⟨rfl, rfl⟩)
    go_ret
    exact ⟨rfl, rfl⟩
  have hp := pow_p h1 h7
  have hn : 256 ^ k.toNat ≤ n := by
    apply Int.not_lt.1
    intro hh
    exact h ⟨h1, h7, h0, hh⟩
  clear h
  generalize (256 : Int) ^ k.toNat = p at *
  go_enter Tryz.func41, Tryz.ntmps41
  go_wp2_with (go_at_call 92; refine (isWidth_ct _ _).mono ?_; rw [hk]; rintro e w2 ⟨rfl, rfl⟩)
  go_ret
  exact ⟨rfl, rfl⟩
theorem shr_step {n : Int} (_h0 : 0 ≤ n) (j : Nat) : n / 256 ^ j / 256 = n / 256 ^ (j + 1) := by
  rw [Int.ediv_ediv_of_nonneg (Int.pow_nonneg (by decide)), ← Int.pow_succ]
set_option maxRecDepth 100000 in
set_option maxHeartbeats 1000000 in
theorem Fixed_yes (n : Int) (K : Nat) (w : World) (h1 : 1 ≤ K) (h7 : K ≤ 7) (h0 : 0 ≤ n) (hn : n < 256 ^ K) : Calls Tryz.prog 41 #[.int .i64 n, .int .i64 (K : Int)] w fun e w' => e = .returned (.string (strOfNums (digs K n))) ∧ Below w.heap.size w w' := by
  have hk : inB 1 7 (K : Int) = true := inB_iff.2 ⟨by omega, by omega⟩
  have hp := pow_pN h1 h7
  have hmk := run_make_flat (P := Tryz.prog) FU8 93 5 (.int .u8 0) 1 Tryz.underlying93 Tryz.infoU8 K (by omega) (by omega)
  have HN := Hid.mk_ h0
  have hdl := digs_len K n
  have HD := Hid.mk_ (fun j (hj : j < K) => digs_at K n j hj)
  have hO := OwL.made FU8 #[.int .u8 0] rfl K (by simp [maxLen]; omega) w 5
  have hO0 : OwL FU8 5 (w.alloc (.cells (madeCells (Value.int .u8 0).cells (K * FU8.n)) 5)) (.slice (some ⟨w.heap.size, 0, none⟩) K K) (backTo (List.replicate K 0) 0 (digs K n) K) := by
    have e : backTo (List.replicate K 0) 0 (digs K n) K = List.replicate K FU8.dflt := by
      have := backTo_end (b := List.replicate K 0) (a := 0) (ds := digs K n)
      rw [hdl] at this
      exact this
    rw [e]
    exact hO
  have HL := Hid.mk_ (fun (i : Nat) (hi : i ≤ K) => backTo_len (b := List.replicate K 0) (a := 0) (ds := digs K n) (i := i) (by simp [hdl]) (by rw [hdl]; exact hi))
  clear hO
  generalize (256 : Int) ^ K = p at hn hp
  go_enter Tryz.func41, Tryz.ntmps41
  go_wp2_with (go_at_call 92; refine (isWidth_ct _ _).mono ?_; rw [hk]; rintro e w2 ⟨rfl, rfl⟩)
  clear hmk hp
  go_loopw [0, 6] (fun v i wr => ∃ m : Nat, m ≤ K ∧ i = .int .i64 ((m : Int) - 1) ∧ v = .int .i64 (n / 256 ^ (K - m)) ∧ OwL FU8 5 wr (.slice (some ⟨w.heap.size, 0, none⟩) K K) (backTo (List.replicate K 0) 0 (digs K n) m) ∧ Below w.heap.size w wr) (fun _ i _ => (intOf i + 1).toNat)
  case atStart => exact ⟨K, Nat.le_refl _, rfl, by simp, hO0, (Below.refl _ _).alloc (Nat.le_refl _) _⟩
  case round =>
    obtain ⟨m, hm, rfl, rfl, ho, hb⟩ := hrel
    clear hO0
    have hbt := HL.out m hm
    cases m with
    | zero =>
      have hcell : ∀ i, i < K → wr.cell? ⟨w.heap.size, 0 + i, none⟩ = some (.int .u8 ((digs K n).getD i 0)) := by
        intro i hi
        rw [backTo_zero] at ho
        have e : putAt (List.replicate K 0) 0 (digs K n) = digs K n := by simp [putAt, hdl]
        rw [e] at ho
        have hx : (digs K n)[i]? = some ((digs K n).getD i 0) := by simp [List.getD, hdl, hi]
        simpa [FU8] using ho.cell_ hx FU8.pos
      have hcv := run_convert_bytes_arg (P := Tryz.prog) (w := wr) 93 5 Tryz.underlying93 Tryz.underlying5 w.heap.size 0 K K (digs K n) hdl hcell 9 Tryz.underlying9
      clear hcell
      go_wp2
      go_ret
      exact ⟨rfl, hb⟩
    | succ q =>
      have hi0 : (((q + 1 : Nat) : Int) - 1) = (q : Int) := by omega
      rw [hi0]
      have hv0 : 0 ≤ n / 256 ^ (K - (q + 1)) := Int.ediv_nonneg HN.out (Int.pow_nonneg (by decide))
      have HV := Hid.mk_ (shr_step HN.out (K - (q + 1)))
      have HG := Hid.mk_ (HD.out (K - (q + 1)) (by omega))
      rw [show K - 1 - (K - (q + 1)) = q by omega] at HG
      have HT := Hid.mk_ (backTo_step (b := List.replicate K 0) (a := 0) (ds := digs K n) (i := q) (by simp [hdl]) (by rw [hdl]; omega))
      generalize n / 256 ^ (K - (q + 1)) = v at *
      have hf := ho.frozen_ q
      have hz1 : q < (backTo (List.replicate K 0) 0 (digs K n) (q + 1)).length := by rw [hbt]; simp; omega
      have hx := ho.cell_ (List.getElem?_eq_getElem hz1) FU8.pos
      have hset := fun (y : Int) => ho.set_ (y := y) (u := .int .u8 y) (List.getElem?_eq_getElem hz1) FU8.pos rfl
      simp only [FU8, Nat.mul_one, Nat.add_zero] at hx
      have HSET := Hid.mk_ hset
      clear hset
      go_wp2
      have HE : OwL FU8 5 (wr.setCell ⟨w.heap.size, q, none⟩ (.int .u8 (v % 256))) (.slice (some ⟨w.heap.size, 0, none⟩) K K) (backTo (List.replicate K 0) 0 (digs K n) q) := by
        have a := HSET.out (v % 256)
        have b := HT.out
        have c := HG.out
        obtain ⟨_, d⟩ := List.getElem?_eq_some_iff.1 c
        rw [d, Nat.zero_add] at b
        rw [b, show q * FU8.n + 0 = q by simp [FU8]] at a
        exact a
      have HV2 : Value.int .i64 (v / 256) = Value.int .i64 (n / 256 ^ (K - q)) := by
        rw [HV.out, show K - (q + 1) + 1 = K - q by omega]
      go_roundw
      case rel => exact ⟨q, by omega, rfl, HV2, HE, hb.setCell (by simp) _⟩
      case measure => simp [intOf]
theorem strOf_nums {xs : List Int} (h : xs.all (inB 0 255) = true) : ((strOfNums xs).data.toList.map fun c => (c.toNat : Int)) = xs := by
  rw [strOfNums_data, List.map_map]
  conv => rhs; rw [← List.map_id xs]
  apply List.map_congr_left
  intro x hx
  obtain ⟨a, b⟩ := inB_iff.1 (List.all_eq_true.1 h x hx)
  simp
  omega
def nums (t : ByteArray) : List Int := t.data.toList.map fun c => (c.toNat : Int)
theorem nums_len (t : ByteArray) : (nums t).length = t.size := by simp [nums]
theorem nums_strOf (k : Nat) (n : Int) : nums (strOfNums (digs k n)) = digs k n := strOf_nums (digs_bd k n)
theorem nums_at (t : ByteArray) {i : Nat} (h : i < t.size) : (nums t)[i]? = some (t[i].toNat : Int) := by
  have : t.data.toList[i]? = some t[i] := by
    rw [List.getElem?_eq_getElem (by simpa using h)]
    rfl
  simp [nums, this]
set_option maxRecDepth 100000 in
set_option maxHeartbeats 1000000 in
theorem putNum_impl (w : World) (v : Value) (b : List Int) (a : Nat) (t : ByteArray) (h : OwL FI 3 w v b) (ht : t.size ≤ 1000) (ha : a + t.size ≤ b.length) :
    Calls Tryz.prog 43 #[v, .int .i64 (a : Int), .string t] w fun e w' => e = .returned (.tuple #[]) ∧ OwL FI 3 w' v (putAt b a (nums t)) ∧ Chg (foot1 v) w w' := by
  obtain ⟨A, c, hv, q1, q2, _⟩ := id h.rd'
  have hlt0 : b.length ≤ 9223372036854775807 := by unfold maxLen at q2; omega
  subst hv
  have hnl := nums_len t
  have h0 : OwL FI 3 w (.slice A b.length c) (putAt b a ((nums t).take 0)) := by
    rw [List.take_zero, putAt_nil]
    exact h
  go_enter Tryz.func43, Tryz.ntmps43
  go_wp2
  go_loopw [9] (fun i wr => ∃ k : Nat, k ≤ t.size ∧ i = .int .i64 k ∧ OwL FI 3 wr (.slice A b.length c) (putAt b a ((nums t).take k)) ∧ Chg (foot1 (.slice A b.length c)) w wr) (fun i _ => t.size - (intOf i).toNat)
  case atStart => exact ⟨0, Nat.zero_le _, rfl, h0, Chg.refl _ _⟩
  case round =>
    obtain ⟨k, hk, rfl, ho, hc⟩ := hrel
    clear h h0
    by_cases hlt : k < t.size
    · have hgl : a + k < (putAt b a ((nums t).take k)).length := by rw [putAt_len (by simp [hnl]; omega)]; omega
      obtain ⟨g, cap, hv, hg⟩ := ho.form_pos (by omega)
      injection hv with e1 e2 e3
      clear e2
      subst e1 e3
      have hf := ho.frozen_ (a + k)
      have hx := ho.cell_ (List.getElem?_eq_getElem hgl) FI.pos
      have HSET := Hid.mk_ (fun (y : Int) => ho.set_ (y := y) (u := .int .i64 y) (List.getElem?_eq_getElem hgl) FI.pos rfl)
      simp only [FI, Nat.mul_one, Nat.add_zero] at hx
      have HS := Hid.mk_ (putAt_step (b := b) (a := a) (ds := nums t) (i := k) (by omega) (by omega))
      have HA := Hid.mk_ (nums_at t hlt)
      have hu : t[k].toNat < 256 := t[k].toNat_lt
      have hw : wrap64 (t[k].toNat : Int) = (t[k].toNat : Int) := (by unfold wrap64; omega)
      have HU := Hid.mk_ hw
      clear hu hw
      go_wp2
      have HE : OwL FI 3 (wr.setCell ⟨g, a + k, none⟩ (.int .i64 (t[k].toNat : Int))) (.slice (some ⟨g, 0, none⟩) b.length c) (putAt b a ((nums t).take (k + 1))) := by
        have p := HSET.out (t[k].toNat : Int)
        have q := HS.out
        obtain ⟨_, d⟩ := List.getElem?_eq_some_iff.1 HA.out
        rw [d] at q
        rw [q, show (a + k) * FI.n + 0 = a + k by simp [FI]] at p
        exact p
      rw [HU.out]
      go_roundw
      case rel => exact ⟨k + 1, by omega, by go_num, HE, hc.set_ (by simp [foot1, Value.ownBlock]) _⟩
      case measure => simp [intOf]; omega
    · go_wp2
      go_end0
      obtain rfl : k = t.size := by omega
      exact ⟨rfl, by rw [← hnl, List.take_length] at ho; exact ho, hc⟩
theorem RdL.ofI {w : World} {B : Nat} {v : Value} {l : List Int} (h : RdL FI w B v l) : ∃ A c, v = .slice A l.length c ∧ l.length ≤ 9223372036854775807 := by
  obtain ⟨A, c, hv, q1, q2, _⟩ := h
  exact ⟨A, c, hv, by unfold maxLen at q2; omega⟩
set_option maxRecDepth 100000 in
set_option maxHeartbeats 1000000 in
theorem l3Store_spec (w : World) (v : Value) (b : List Int) (a K : Nat) (n : Int) (h : OwL FI 3 w v b) (h1 : 1 ≤ K) (h7 : K ≤ 7) (h0 : 0 ≤ n) (hm0 : n ≤ 72057594037927936) (ha : a + K ≤ b.length) :
    Calls Tryz.prog 40 #[v, .int .i64 (a : Int), .int .i64 (K : Int), .int .i64 n] w fun e w' => e = .returned v ∧ OwL FI 3 w' v (putAt b a (digs K n)) ∧ Chg (foot1 v) w w' := by
  obtain ⟨A, c, hv, hlt0⟩ := h.rd'.ofI
  subst hv
  have hdl := digs_len K n
  have HN := Hid.mk_ h0
  have HD := Hid.mk_ (fun j (hj : j < K) => digs_at K n j hj)
  have hO : OwL FI 3 w (.slice A b.length c) (backTo b a (digs K n) K) := by
    have e := backTo_end (b := b) (a := a) (ds := digs K n)
    rw [hdl] at e
    rw [e]
    exact h
  have HL := Hid.mk_ (fun (i : Nat) (hi : i ≤ K) => backTo_len (b := b) (a := a) (ds := digs K n) (i := i) (by omega) (by omega))
  go_enter Tryz.func40, Tryz.ntmps40
  go_wp2
  go_loopw [3, 9] (fun u i wr => ∃ m : Nat, m ≤ K ∧ i = .int .i64 ((m : Int) - 1) ∧ u = .int .i64 (n / 256 ^ (K - m)) ∧ OwL FI 3 wr (.slice A b.length c) (backTo b a (digs K n) m) ∧ Chg (foot1 (.slice A b.length c)) w wr) (fun _ i _ => (intOf i + 1).toNat)
  case atStart => exact ⟨K, Nat.le_refl _, rfl, by simp, hO, Chg.refl _ _⟩
  case round =>
    obtain ⟨m, hm, rfl, rfl, ho, hc⟩ := hrel
    clear hO h
    have hbt := HL.out m hm
    cases m with
    | zero =>
      rw [backTo_zero] at ho
      go_wp2
      go_ret
      exact ⟨rfl, ho, hc⟩
    | succ q =>
      have hi0 : (((q + 1 : Nat) : Int) - 1) = (q : Int) := by omega
      rw [hi0]
      have hv0 : 0 ≤ n / 256 ^ (K - (q + 1)) := Int.ediv_nonneg HN.out (Int.pow_nonneg (by decide))
      have HV := Hid.mk_ (shr_step HN.out (K - (q + 1)))
      have HG := Hid.mk_ (HD.out (K - (q + 1)) (by omega))
      rw [show K - 1 - (K - (q + 1)) = q by omega] at HG
      have HT := Hid.mk_ (backTo_step (b := b) (a := a) (ds := digs K n) (i := q) (by omega) (by omega))
      have hv1 : n / 256 ^ (K - (q + 1)) ≤ 72057594037927936 := Int.le_trans (Int.ediv_le_self _ HN.out) hm0
      generalize n / 256 ^ (K - (q + 1)) = v at *
      obtain ⟨g, cap, hv, hg⟩ := ho.form_pos (by omega)
      injection hv with e1 e2 e3
      clear e2
      subst e1 e3
      have hz1 : a + q < (backTo b a (digs K n) (q + 1)).length := by rw [hbt]; omega
      have hf := ho.frozen_ (a + q)
      have hx := ho.cell_ (List.getElem?_eq_getElem hz1) FI.pos
      have HSET := Hid.mk_ (fun (y : Int) => ho.set_ (y := y) (u := .int .i64 y) (List.getElem?_eq_getElem hz1) FI.pos rfl)
      simp only [FI, Nat.mul_one, Nat.add_zero] at hx
      go_wp2
      have HE : OwL FI 3 (wr.setCell ⟨g, a + q, none⟩ (.int .i64 (v % 256))) (.slice (some ⟨g, 0, none⟩) b.length c) (backTo b a (digs K n) q) := by
        have p := HSET.out (v % 256)
        have r := HT.out
        obtain ⟨_, d⟩ := List.getElem?_eq_some_iff.1 HG.out
        rw [d] at r
        rw [r, show (a + q) * FI.n + 0 = a + q by simp [FI]] at p
        exact p
      have HV2 : Value.int .i64 (v / 256) = Value.int .i64 (n / 256 ^ (K - q)) := by
        rw [HV.out, show K - (q + 1) + 1 = K - q by omega]
      go_roundw
      case rel => exact ⟨q, by omega, rfl, HV2, HE, hc.set_ (by simp [foot1, Value.ownBlock]) _⟩
      case measure => simp [intOf]
theorem strOf_size {k : Nat} {n : Int} : (strOfNums (digs k n)).size = k := by rw [strOfNums_size, digs_len]
theorem strOf_isEmpty {k : Nat} {n : Int} (hk : 1 ≤ k) : (strOfNums (digs k n)).toList.isEmpty = false := by
  rw [Lib.strOfNums_toList]
  cases hx : digs k n with
  | nil => have := digs_len k n; rw [hx] at this; simp at this; omega
  | cons _ _ => rfl
def fixOk (n k : Int) : Bool := inB 1 7 k && decide (0 ≤ n) && decide (n < 256 ^ k.toNat)
theorem fixOk_no {n k : Int} (h : fixOk n k = false) : ¬ (1 ≤ k ∧ k ≤ 7 ∧ 0 ≤ n ∧ n < 256 ^ k.toNat) := by
  rintro ⟨a, b, c, d⟩
  have e : fixOk n k = true := by
    unfold fixOk
    rw [inB_iff.2 ⟨a, b⟩, decide_eq_true c, decide_eq_true d]
    rfl
  rw [e] at h
  exact absurd h (by decide)
theorem fixOk_yes {n k : Int} (h : fixOk n k = true) : 1 ≤ k ∧ k ≤ 7 ∧ 0 ≤ n ∧ n < 256 ^ k.toNat := by
  unfold fixOk at h
  simp only [Bool.and_eq_true, decide_eq_true_eq] at h
  obtain ⟨⟨a, b⟩, c⟩ := h
  exact ⟨(inB_iff.1 a).1, (inB_iff.1 a).2, b, c⟩
theorem pow_small {K : Nat} (h7 : K ≤ 7) : (256 : Int) ^ K ≤ 72057594037927936 := by
  have : K = 0 ∨ K = 1 ∨ K = 2 ∨ K = 3 ∨ K = 4 ∨ K = 5 ∨ K = 6 ∨ K = 7 := by omega
  rcases this with rfl | rfl | rfl | rfl | rfl | rfl | rfl | rfl <;> decide
theorem isEmpty_size {s : ByteArray} : s.toList.isEmpty = decide (s.size = 0) := by
  have h : s.toList.length = s.size := by rw [Lib.toList_data]; simp
  cases hx : s.toList with
  | nil => rw [hx] at h; simp at h; rw [← h]; rfl
  | cons a l => rw [hx] at h; simp at h; rw [← h]; simp
set_option maxRecDepth 100000 in
set_option maxHeartbeats 1000000 in
theorem FixedSpec_no (n k : Int) (w : World) (h : inB 1 7 k = false ∨ n < 0) : Calls Tryz.prog 39 #[.int .i64 n, .int .i64 k] w fun e w' => e = .returned (.string ⟨#[]⟩) ∧ w = w' := by
  by_cases hk : inB 1 7 k = true
  case neg =>
    have hk' : inB 1 7 k = false := (Bool.not_eq_true _).mp hk
    clear h hk
    go_enter Tryz.func39, Tryz.ntmps39
    go_wp2_with (go_at_call 21; refine (l1In_ct _ _ _ _).mono ?_; rw [hk']; rintro e w2 ⟨rfl, rfl⟩)
    go_ret
    exact ⟨rfl, rfl⟩
  have h0 : n < 0 := by
    rcases h with h | h
    · rw [hk] at h
      exact absurd h (by decide)
    · exact h
  clear h
  go_enter Tryz.func39, Tryz.ntmps39
  go_wp2_with (go_at_call 21; refine (l1In_ct _ _ _ _).mono ?_; rw [hk]; rintro e w2 ⟨rfl, rfl⟩)
  go_ret
  exact ⟨rfl, rfl⟩
theorem div_zero_iff {n : Int} (h0 : 0 ≤ n) (K : Nat) : (0 < n / 256 ^ K) ↔ 256 ^ K ≤ n := by
  have hp : (0 : Int) < 256 ^ K := Int.pow_pos (by decide)
  constructor
  · intro h
    apply Int.not_lt.1
    intro hh
    rw [Int.ediv_eq_zero_of_lt h0 hh] at h
    omega
  · intro h
    have : 1 * (256 : Int) ^ K ≤ n := by omega
    have := (Int.le_ediv_iff_mul_le hp).2 this
    omega
def FixedEnd (n : Int) (K : Nat) (w : World) (e : Ending) (w' : World) : Prop := (∃ s : ByteArray, e = .returned (.string s) ∧ s.toList.isEmpty = !(decide (n < 256 ^ K))) ∧ Below w.heap.size w w'
def FixedRel (n : Int) (K : Nat) (w : World) (v o i : Value) (wr : World) : Prop := ∃ (j : Nat) (s : ByteArray), j ≤ K ∧ i = .int .i64 j ∧ v = .int .i64 (n / 256 ^ j) ∧ o = .string s ∧ s.size = j ∧ Below w.heap.size w wr
set_option maxRecDepth 100000 in
set_option maxHeartbeats 1000000 in
theorem FixedSpec_go (n : Int) (K : Nat) (w : World) (h1 : 1 ≤ K) (h7 : K ≤ 7) (h0 : 0 ≤ n) (hm : n ≤ 9223372036854775807) : Calls Tryz.prog 39 #[.int .i64 n, .int .i64 (K : Int)] w (FixedEnd n K w) := by
  have hk : inB 1 7 (K : Int) = true := inB_iff.2 ⟨by omega, by omega⟩
  have HN := Hid.mk_ h0
  have HM := Hid.mk_ hm
  have HD := Hid.mk_ (div_zero_iff h0 K)
  clear hm
  go_enter Tryz.func39, Tryz.ntmps39
  go_wp2_with (go_at_call 21; refine (l1In_ct _ _ _ _).mono ?_; rw [hk]; rintro e w2 ⟨rfl, rfl⟩)
  go_loopw [0, 5, 6] (fun v o i wr => FixedRel n K w v o i wr) (fun _ _ i _ => K - (intOf i).toNat)
  case atStart => exact ⟨0, _, Nat.zero_le _, rfl, by simp, rfl, rfl, Below.refl _ _⟩
  case round =>
    obtain ⟨j, s, hj, rfl, rfl, rfl, hs0, hb⟩ := hrel
    have hs := Hid.mk_ hs0
    clear hs0
    have hv0 : 0 ≤ n / 256 ^ j := Int.ediv_nonneg HN.out (Int.pow_nonneg (by decide))
    have hv1 : n / 256 ^ j ≤ 9223372036854775807 := Int.le_trans (Int.ediv_le_self _ HN.out) HM.out
    have HV := Hid.mk_ (shr_step HN.out j)
    by_cases hlt : j < K
    · generalize n / 256 ^ j = v at *
      have hcv := fun (u : Int) => run_convert_bytes_arg (P := Tryz.prog) (w := wr.alloc (.cells #[.int .u8 u] 5)) 93 5 Tryz.underlying93 Tryz.underlying5 wr.heap.size 0 1 1 [u] rfl (fun i hi => by
        obtain rfl : i = 0 := by omega
        simp [go_sem]) 9 Tryz.underlying9
      have hs1 : (strOfNums [v % 256]).size ≤ 1 := by rw [strOfNums_size]; exact Nat.le_refl _
      have hs2 : s.size ≤ 7 := by rw [hs.out]; omega
      go_wp2
      go_roundw
      case rel => exact ⟨j + 1, _, by omega, by go_num, by rw [HV.out], rfl, by rw [ByteArray.size_append, strOfNums_size, hs.out]; simp; omega, hb.alloc hb.size _⟩
      case measure => simp [intOf]; omega
    · obtain rfl : j = K := by omega
      have HD2 := Hid.mk_ (HD.out)
      by_cases hp : 0 < n / 256 ^ j
      · have HX : Hid (decide (n < 256 ^ j) = false) := decide_eq_false (Int.not_lt.2 (HD2.out.1 hp))
        generalize n / 256 ^ j = v at *
        go_wp2
        go_ret
        exact ⟨⟨_, rfl, by rw [HX.out, isEmpty_size]; rfl⟩, hb⟩
      · have HX : Hid (decide (n < 256 ^ j) = true) := decide_eq_true (Classical.byContradiction (fun hh => hp (HD2.out.2 (Int.not_lt.1 hh))))
        generalize n / 256 ^ j = v at *
        go_wp2
        go_ret
        exact ⟨⟨_, rfl, by rw [HX.out, isEmpty_size, hs.out]; simp; omega⟩, hb⟩
end Go.Proofs.YtcligoicoeklfaaGreat
