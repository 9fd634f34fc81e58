/-
  Several texts in one: lemmas and contracts that the claim rests on.
-/
import Derived.Test.YtpjijbonpjoamaaGreatUHAllocNow3
import Derived.Test.YtpjijbonpjoamaaGreatUHAllocNow1
import Derived.Deep.QuietTactic
import Derived.BigQuiet
import Derived.Deep.LoopGhost
import Derived.Deep.RegionHeld3
import Derived.WalkSpells
import Derived.Laws.Cover3
import Derived.Test.YtpjijbonpjoamaaGreatUHAllocNow2
import Derived.Laws.BytesArg
import Derived.Lib.Bytes
import Derived.Test.YtpjijbonpjoamaaGreatUHAllocNow6
import Derived.Deep.RegionLaw
import Derived.Deep.CutRange
import Derived.Test.YtpjijbonpjoamaaGreatUHAllocNow4
import Derived.Laws.CopyOwn
import Derived.IntWalk
/-
  Numbers as bytes, and where they are put: plain facts.
-/
namespace Go.Proofs.YtpjijbonpjoamaaGreat
open Go.RowKit
def digs : Nat → Int → List Int
  | 0, _ => []
  | k + 1, n => digs k (n / 256) ++ [n % 256]
theorem digs_len : ∀ (k : Nat) (n : Int), (digs k n).length = k
  | 0, _ => rfl
  | k + 1, n => by simp [digs, digs_len k]
theorem digs_at : ∀ (k : Nat) (n : Int) (j : Nat), j < k → (digs k n)[k - 1 - j]? = some (n / 256 ^ j % 256)
  | 0, _, j, h => absurd h (by omega)
  | k + 1, n, 0, _ => by
    have := digs_len k (n / 256)
    simp [digs, this]
  | k + 1, n, j + 1, h => by
    have hl := digs_len k (n / 256)
    have ih := digs_at k (n / 256) j (by omega)
    have e : k + 1 - 1 - (j + 1) = k - 1 - j := by omega
    rw [e]
    unfold digs
    rw [List.getElem?_append_left (by omega), ih, Int.ediv_ediv_of_nonneg (by omega), Int.pow_succ', Int.mul_comm]
theorem digs_bd : ∀ (k : Nat) (n : Int), (digs k n).all (inB 0 255) = true
  | 0, _ => rfl
  | k + 1, n => by
    have h1 : 0 ≤ n % 256 := Int.emod_nonneg _ (by omega)
    have h2 : n % 256 < 256 := Int.emod_lt_of_pos _ (by omega)
    unfold digs
    rw [List.all_append, digs_bd k]
    simp [inB]
    omega
def putAt (b : List Int) (a : Nat) (ds : List Int) : List Int := b.take a ++ ds ++ b.drop (a + ds.length)
def backTo (b : List Int) (a : Nat) (ds : List Int) (i : Nat) : List Int := b.take (a + i) ++ ds.drop i ++ b.drop (a + ds.length)
theorem putAt_len {b : List Int} {a : Nat} {ds : List Int} (h : a + ds.length ≤ b.length) : (putAt b a ds).length = b.length := by
  simp [putAt]
  omega
theorem putAt_nil (b : List Int) (a : Nat) : putAt b a [] = b := by simp [putAt]
theorem backTo_end {b : List Int} {a : Nat} {ds : List Int} : backTo b a ds ds.length = b := by simp [backTo]
theorem backTo_zero {b : List Int} {a : Nat} {ds : List Int} : backTo b a ds 0 = putAt b a ds := by simp [backTo, putAt]
theorem backTo_len {b : List Int} {a : Nat} {ds : List Int} {i : Nat} (h : a + ds.length ≤ b.length) (hi : i ≤ ds.length) : (backTo b a ds i).length = b.length := by
  simp [backTo]
  omega
theorem putAt_step {b : List Int} {a : Nat} {ds : List Int} {i : Nat} (h : a + ds.length ≤ b.length) (hi : i < ds.length) : (putAt b a (ds.take i)).set (a + i) ds[i] = putAt b a (ds.take (i + 1)) := by
  have hl : (ds.take i).length = i := by simp; omega
  have hl2 : (ds.take (i + 1)).length = i + 1 := by simp; omega
  have hd : b.drop (a + i) = b[a + i]'(by omega) :: b.drop (a + (i + 1)) := (List.drop_eq_getElem_cons (by omega))
  unfold putAt
  rw [hl, hl2, hd, List.set_append_right _ _ (by simp; omega)]
  have e : a + i - (b.take a ++ ds.take i).length = 0 := by simp; omega
  rw [e, List.set_cons_zero]
  have ht := List.take_succ_eq_append_getElem hi
  rw [ht]
  simp only [List.append_assoc, List.cons_append, List.nil_append]
theorem backTo_step {b : List Int} {a : Nat} {ds : List Int} {i : Nat} (h : a + ds.length ≤ b.length) (hi : i < ds.length) : (backTo b a ds (i + 1)).set (a + i) ds[i] = backTo b a ds i := by
  have hd : ds.drop i = ds[i] :: ds.drop (i + 1) := List.drop_eq_getElem_cons hi
  have ht : b.take (a + (i + 1)) = b.take (a + i) ++ [b[a + i]'(by omega)] := by rw [← Nat.add_assoc, List.take_succ_eq_append_getElem (by omega)]
  unfold backTo
  rw [hd, ht, List.append_assoc, List.append_assoc, List.set_append_right _ _ (by simp; omega)]
  have e : a + i - (b.take (a + i)).length = 0 := by simp; omega
  rw [e]
  simp only [List.append_assoc, List.cons_append, List.nil_append, List.set_cons_zero]
theorem putAt_all {p : Int → Bool} {b : List Int} {a : Nat} {ds : List Int} (hb : b.all p = true) (hd : ds.all p = true) : (putAt b a ds).all p = true := by
  unfold putAt
  rw [List.all_append, List.all_append, hd, Bool.and_true, Bool.and_eq_true]
  exact ⟨List.all_eq_true.2 fun x hx => List.all_eq_true.1 hb x (List.mem_of_mem_take hx), List.all_eq_true.2 fun x hx => List.all_eq_true.1 hb x (List.mem_of_mem_drop hx)⟩
theorem putAt_get_out {b : List Int} {a : Nat} {ds : List Int} {i : Nat} (h : a + ds.length ≤ b.length) (hi : i < a ∨ a + ds.length ≤ i) : (putAt b a ds)[i]? = b[i]? := by
  unfold putAt
  rcases hi with hi | hi
  · rw [List.append_assoc, List.getElem?_append_left (by simp; omega), List.getElem?_take_of_lt hi]
  · rw [List.getElem?_append_right (by simp; omega), List.getElem?_drop]
    congr 1
    simp
    omega
theorem putAt_get_in {b : List Int} {a : Nat} {ds : List Int} {j : Nat} (h : a + ds.length ≤ b.length) (hj : j < ds.length) : (putAt b a ds)[a + j]? = ds[j]? := by
  unfold putAt
  rw [List.append_assoc, List.getElem?_append_right (by simp; omega), List.getElem?_append_left (by simp; omega)]
  congr 1
  simp
  omega
end Go.Proofs.YtpjijbonpjoamaaGreat

/-
  Numbers as bytes: the contracts.
-/
namespace Go.Proofs.YtpjijbonpjoamaaGreat
open Go.RowKit
def FU8 : FT Int := { n := 1, enc := fun x => [.int .u8 x], dflt := 0, len := fun _ => rfl, one := by intro x u hu; simp at hu; subst hu; rfl, pos := by decide, small := by decide }
theorem Tryz.infoU8 : (Tryz.prog.info? 5).map (fun i => (i.zero, i.size, i.bytes)) = some (some (.int .u8 0), FU8.n, 1) := by kernel_rfl
theorem OwL.form_pos {α : Type} {T : FT α} {e : TypeId} {w : World} {v : Value} {l : List α} (h : OwL T e w v l) (hl : 0 < l.length) : ∃ g cap, v = .slice (some ⟨g, 0, none⟩) l.length cap ∧ g < w.heap.size := by
  rcases h.form with ⟨_, rfl⟩ | ⟨g, cap, hv, hg, _, _⟩
  · simp at hl
  · exact ⟨g, cap, hv, hg⟩
theorem seven {k : Int} (h1 : 1 ≤ k) (h7 : k ≤ 7) : k = 1 ∨ k = 2 ∨ k = 3 ∨ k = 4 ∨ k = 5 ∨ k = 6 ∨ k = 7 := by omega
theorem pow_p {k : Int} (h1 : 1 ≤ k) (h7 : k ≤ 7) : wrap64 (2 ^ (8 * k).toNat) = 256 ^ k.toNat := by
  rcases seven h1 h7 with rfl | rfl | rfl | rfl | rfl | rfl | rfl <;> decide +kernel
theorem pow_pN {K : Nat} (h1 : 1 ≤ K) (h7 : K ≤ 7) : wrap64 (2 ^ (8 * K)) = 256 ^ K := by
  have h := pow_p (k := (K : Int)) (by omega) (by omega)
  rw [Int.toNat_natCast, show (8 * (K : Int)).toNat = 8 * K by omega] at h
  exact h
theorem shr_step {n : Int} (_h0 : 0 ≤ n) (j : Nat) : n / 256 ^ j / 256 = n / 256 ^ (j + 1) := by
  rw [Int.ediv_ediv_of_nonneg (Int.pow_nonneg (by decide)), ← Int.pow_succ]
set_option maxRecDepth 100000 in
set_option maxHeartbeats 1000000 in
theorem Fixed_yes (n : Int) (K : Nat) (w : World) (h1 : 1 ≤ K) (h7 : K ≤ 7) (h0 : 0 ≤ n) (hn : n < 256 ^ K) : Calls Tryz.prog 41 #[.int .i64 n, .int .i64 (K : Int)] w fun e w' => e = .returned (.string (strOfNums (digs K n))) ∧ Below w.heap.size w w' := by
  have hk : inB 1 7 (K : Int) = true := inB_iff.2 ⟨by omega, by omega⟩
  have hp := pow_pN h1 h7
  have hmk := run_make_flat (P := Tryz.prog) FU8 93 5 (.int .u8 0) 1 Tryz.underlying93 Tryz.infoU8 K (by omega) (by omega)
  have HN := Hid.mk_ h0
  have hdl := digs_len K n
  have HD := Hid.mk_ (fun j (hj : j < K) => digs_at K n j hj)
  have hO := OwL.made FU8 #[.int .u8 0] rfl K (by simp [maxLen]; omega) w 5
  have hO0 : OwL FU8 5 (w.alloc (.cells (madeCells (Value.int .u8 0).cells (K * FU8.n)) 5)) (.slice (some ⟨w.heap.size, 0, none⟩) K K) (backTo (List.replicate K 0) 0 (digs K n) K) := by
    have e : backTo (List.replicate K 0) 0 (digs K n) K = List.replicate K FU8.dflt := by
      have := backTo_end (b := List.replicate K 0) (a := 0) (ds := digs K n)
      rw [hdl] at this
      exact this
    rw [e]
    exact hO
  have HL := Hid.mk_ (fun (i : Nat) (hi : i ≤ K) => backTo_len (b := List.replicate K 0) (a := 0) (ds := digs K n) (i := i) (by simp [hdl]) (by rw [hdl]; exact hi))
  clear hO
  generalize (256 : Int) ^ K = p at hn hp
  go_enter Tryz.func41, Tryz.ntmps41
  go_wp2_with (go_at_call 92; refine (isWidth_ct _ _).mono ?_; rw [hk]; rintro e w2 ⟨rfl, rfl⟩)
  clear hmk hp
  go_loopw [0, 6] (fun v i wr => ∃ m : Nat, m ≤ K ∧ i = .int .i64 ((m : Int) - 1) ∧ v = .int .i64 (n / 256 ^ (K - m)) ∧ OwL FU8 5 wr (.slice (some ⟨w.heap.size, 0, none⟩) K K) (backTo (List.replicate K 0) 0 (digs K n) m) ∧ Below w.heap.size w wr) (fun _ i _ => (intOf i + 1).toNat)
  case atStart => exact ⟨K, Nat.le_refl _, rfl, by simp, hO0, (Below.refl _ _).alloc (Nat.le_refl _) _⟩
  case round =>
    obtain ⟨m, hm, rfl, rfl, ho, hb⟩ := hrel
    clear hO0
    have hbt := HL.out m hm
    cases m with
    | zero =>
      have hcell : ∀ i, i < K → wr.cell? ⟨w.heap.size, 0 + i, none⟩ = some (.int .u8 ((digs K n).getD i 0)) := by
        intro i hi
        rw [backTo_zero] at ho
        have e : putAt (List.replicate K 0) 0 (digs K n) = digs K n := by simp [putAt, hdl]
        rw [e] at ho
        have hx : (digs K n)[i]? = some ((digs K n).getD i 0) := by simp [List.getD, hdl, hi]
        simpa [FU8] using ho.cell_ hx FU8.pos
      have hcv := run_convert_bytes_arg (P := Tryz.prog) (w := wr) 93 5 Tryz.underlying93 Tryz.underlying5 w.heap.size 0 K K (digs K n) hdl hcell 9 Tryz.underlying9
      clear hcell
      go_wp2
      go_ret
      exact ⟨rfl, hb⟩
    | succ q =>
      have hi0 : (((q + 1 : Nat) : Int) - 1) = (q : Int) := by omega
      rw [hi0]
      have hv0 : 0 ≤ n / 256 ^ (K - (q + 1)) := Int.ediv_nonneg HN.out (Int.pow_nonneg (by decide))
      have HV := Hid.mk_ (shr_step HN.out (K - (q + 1)))
      have HG := Hid.mk_ (HD.out (K - (q + 1)) (by omega))
      rw [show K - 1 - (K - (q + 1)) = q by omega] at HG
      have HT := Hid.mk_ (backTo_step (b := List.replicate K 0) (a := 0) (ds := digs K n) (i := q) (by simp [hdl]) (by rw [hdl]; omega))
      generalize n / 256 ^ (K - (q + 1)) = v at *
      have hf := ho.frozen_ q
      have hz1 : q < (backTo (List.replicate K 0) 0 (digs K n) (q + 1)).length := by rw [hbt]; simp; omega
      have hx := ho.cell_ (List.getElem?_eq_getElem hz1) FU8.pos
      have hset := fun (y : Int) => ho.set_ (y := y) (u := .int .u8 y) (List.getElem?_eq_getElem hz1) FU8.pos rfl
      simp only [FU8, Nat.mul_one, Nat.add_zero] at hx
      have HSET := Hid.mk_ hset
      clear hset
      go_wp2
      have HE : OwL FU8 5 (wr.setCell ⟨w.heap.size, q, none⟩ (.int .u8 (v % 256))) (.slice (some ⟨w.heap.size, 0, none⟩) K K) (backTo (List.replicate K 0) 0 (digs K n) q) := by
        have a := HSET.out (v % 256)
        have b := HT.out
        have c := HG.out
        obtain ⟨_, d⟩ := List.getElem?_eq_some_iff.1 c
        rw [d, Nat.zero_add] at b
        rw [b, show q * FU8.n + 0 = q by simp [FU8]] at a
        exact a
      have HV2 : Value.int .i64 (v / 256) = Value.int .i64 (n / 256 ^ (K - q)) := by
        rw [HV.out, show K - (q + 1) + 1 = K - q by omega]
      go_roundw
      case rel => exact ⟨q, by omega, rfl, HV2, HE, hb.setCell (by simp) _⟩
      case measure => simp [intOf]
theorem strOf_nums {xs : List Int} (h : xs.all (inB 0 255) = true) : ((strOfNums xs).data.toList.map fun c => (c.toNat : Int)) = xs := by
  rw [strOfNums_data, List.map_map]
  conv => rhs; rw [← List.map_id xs]
  apply List.map_congr_left
  intro x hx
  obtain ⟨a, b⟩ := inB_iff.1 (List.all_eq_true.1 h x hx)
  simp
  omega
def nums (t : ByteArray) : List Int := t.data.toList.map fun c => (c.toNat : Int)
theorem nums_len (t : ByteArray) : (nums t).length = t.size := by simp [nums]
theorem nums_strOf (k : Nat) (n : Int) : nums (strOfNums (digs k n)) = digs k n := strOf_nums (digs_bd k n)
theorem nums_at (t : ByteArray) {i : Nat} (h : i < t.size) : (nums t)[i]? = some (t[i].toNat : Int) := by
  have : t.data.toList[i]? = some t[i] := by
    rw [List.getElem?_eq_getElem (by simpa using h)]
    rfl
  simp [nums, this]
set_option maxRecDepth 100000 in
set_option maxHeartbeats 1000000 in
theorem putNum_impl (w : World) (v : Value) (b : List Int) (a : Nat) (t : ByteArray) (h : OwL FI 3 w v b) (ht : t.size ≤ 1000) (ha : a + t.size ≤ b.length) :
    Calls Tryz.prog 43 #[v, .int .i64 (a : Int), .string t] w fun e w' => e = .returned (.tuple #[]) ∧ OwL FI 3 w' v (putAt b a (nums t)) ∧ Chg (foot1 v) w w' := by
  obtain ⟨A, c, hv, q1, q2, _⟩ := id h.rd'
  have hlt0 : b.length ≤ 9223372036854775807 := by unfold maxLen at q2; omega
  subst hv
  have hnl := nums_len t
  have h0 : OwL FI 3 w (.slice A b.length c) (putAt b a ((nums t).take 0)) := by
    rw [List.take_zero, putAt_nil]
    exact h
  go_enter Tryz.func43, Tryz.ntmps43
  go_wp2
  go_loopw [9] (fun i wr => ∃ k : Nat, k ≤ t.size ∧ i = .int .i64 k ∧ OwL FI 3 wr (.slice A b.length c) (putAt b a ((nums t).take k)) ∧ Chg (foot1 (.slice A b.length c)) w wr) (fun i _ => t.size - (intOf i).toNat)
  case atStart => exact ⟨0, Nat.zero_le _, rfl, h0, Chg.refl _ _⟩
  case round =>
    obtain ⟨k, hk, rfl, ho, hc⟩ := hrel
    clear h h0
    by_cases hlt : k < t.size
    · have hgl : a + k < (putAt b a ((nums t).take k)).length := by rw [putAt_len (by simp [hnl]; omega)]; omega
      obtain ⟨g, cap, hv, hg⟩ := ho.form_pos (by omega)
      injection hv with e1 e2 e3
      clear e2
      subst e1 e3
      have hf := ho.frozen_ (a + k)
      have hx := ho.cell_ (List.getElem?_eq_getElem hgl) FI.pos
      have HSET := Hid.mk_ (fun (y : Int) => ho.set_ (y := y) (u := .int .i64 y) (List.getElem?_eq_getElem hgl) FI.pos rfl)
      simp only [FI, Nat.mul_one, Nat.add_zero] at hx
      have HS := Hid.mk_ (putAt_step (b := b) (a := a) (ds := nums t) (i := k) (by omega) (by omega))
      have HA := Hid.mk_ (nums_at t hlt)
      have hu : t[k].toNat < 256 := t[k].toNat_lt
      have hw : wrap64 (t[k].toNat : Int) = (t[k].toNat : Int) := (by unfold wrap64; omega)
      have HU := Hid.mk_ hw
      clear hu hw
      go_wp2
      have HE : OwL FI 3 (wr.setCell ⟨g, a + k, none⟩ (.int .i64 (t[k].toNat : Int))) (.slice (some ⟨g, 0, none⟩) b.length c) (putAt b a ((nums t).take (k + 1))) := by
        have p := HSET.out (t[k].toNat : Int)
        have q := HS.out
        obtain ⟨_, d⟩ := List.getElem?_eq_some_iff.1 HA.out
        rw [d] at q
        rw [q, show (a + k) * FI.n + 0 = a + k by simp [FI]] at p
        exact p
      rw [HU.out]
      go_roundw
      case rel => exact ⟨k + 1, by omega, by go_num, HE, hc.set_ (by simp [foot1, Value.ownBlock]) _⟩
      case measure => simp [intOf]; omega
    · go_wp2
      go_end0
      obtain rfl : k = t.size := by omega
      exact ⟨rfl, by rw [← hnl, List.take_length] at ho; exact ho, hc⟩
theorem RdL.ofI {w : World} {B : Nat} {v : Value} {l : List Int} (h : RdL FI w B v l) : ∃ A c, v = .slice A l.length c ∧ l.length ≤ 9223372036854775807 := by
  obtain ⟨A, c, hv, q1, q2, _⟩ := h
  exact ⟨A, c, hv, by unfold maxLen at q2; omega⟩
set_option maxRecDepth 100000 in
set_option maxHeartbeats 1000000 in
theorem l3Store_spec (w : World) (v : Value) (b : List Int) (a K : Nat) (n : Int) (h : OwL FI 3 w v b) (h1 : 1 ≤ K) (h7 : K ≤ 7) (h0 : 0 ≤ n) (hm0 : n ≤ 72057594037927936) (ha : a + K ≤ b.length) :
    Calls Tryz.prog 40 #[v, .int .i64 (a : Int), .int .i64 (K : Int), .int .i64 n] w fun e w' => e = .returned v ∧ OwL FI 3 w' v (putAt b a (digs K n)) ∧ Chg (foot1 v) w w' := by
  obtain ⟨A, c, hv, hlt0⟩ := h.rd'.ofI
  subst hv
  have hdl := digs_len K n
  have HN := Hid.mk_ h0
  have HD := Hid.mk_ (fun j (hj : j < K) => digs_at K n j hj)
  have hO : OwL FI 3 w (.slice A b.length c) (backTo b a (digs K n) K) := by
    have e := backTo_end (b := b) (a := a) (ds := digs K n)
    rw [hdl] at e
    rw [e]
    exact h
  have HL := Hid.mk_ (fun (i : Nat) (hi : i ≤ K) => backTo_len (b := b) (a := a) (ds := digs K n) (i := i) (by omega) (by omega))
  go_enter Tryz.func40, Tryz.ntmps40
  go_wp2
  go_loopw [3, 9] (fun u i wr => ∃ m : Nat, m ≤ K ∧ i = .int .i64 ((m : Int) - 1) ∧ u = .int .i64 (n / 256 ^ (K - m)) ∧ OwL FI 3 wr (.slice A b.length c) (backTo b a (digs K n) m) ∧ Chg (foot1 (.slice A b.length c)) w wr) (fun _ i _ => (intOf i + 1).toNat)
  case atStart => exact ⟨K, Nat.le_refl _, rfl, by simp, hO, Chg.refl _ _⟩
  case round =>
    obtain ⟨m, hm, rfl, rfl, ho, hc⟩ := hrel
    clear hO h
    have hbt := HL.out m hm
    cases m with
    | zero =>
      rw [backTo_zero] at ho
      go_wp2
      go_ret
      exact ⟨rfl, ho, hc⟩
    | succ q =>
      have hi0 : (((q + 1 : Nat) : Int) - 1) = (q : Int) := by omega
      rw [hi0]
      have hv0 : 0 ≤ n / 256 ^ (K - (q + 1)) := Int.ediv_nonneg HN.out (Int.pow_nonneg (by decide))
      have HV := Hid.mk_ (shr_step HN.out (K - (q + 1)))
      have HG := Hid.mk_ (HD.out (K - (q + 1)) (by omega))
      rw [show K - 1 - (K - (q + 1)) = q by omega] at HG
      have HT := Hid.mk_ (backTo_step (b := b) (a := a) (ds := digs K n) (i := q) (by omega) (by omega))
      have hv1 : n / 256 ^ (K - (q + 1)) ≤ 72057594037927936 := Int.le_trans (Int.ediv_le_self _ HN.out) hm0
      generalize n / 256 ^ (K - (q + 1)) = v at *
      obtain ⟨g, cap, hv, hg⟩ := ho.form_pos (by omega)
      injection hv with e1 e2 e3
      clear e2
      subst e1 e3
      have hz1 : a + q < (backTo b a (digs K n) (q + 1)).length := by rw [hbt]; omega
      have hf := ho.frozen_ (a + q)
      have hx := ho.cell_ (List.getElem?_eq_getElem hz1) FI.pos
      have HSET := Hid.mk_ (fun (y : Int) => ho.set_ (y := y) (u := .int .i64 y) (List.getElem?_eq_getElem hz1) FI.pos rfl)
      simp only [FI, Nat.mul_one, Nat.add_zero] at hx
      go_wp2
      have HE : OwL FI 3 (wr.setCell ⟨g, a + q, none⟩ (.int .i64 (v % 256))) (.slice (some ⟨g, 0, none⟩) b.length c) (backTo b a (digs K n) q) := by
        have p := HSET.out (v % 256)
        have r := HT.out
        obtain ⟨_, d⟩ := List.getElem?_eq_some_iff.1 HG.out
        rw [d] at r
        rw [r, show (a + q) * FI.n + 0 = a + q by simp [FI]] at p
        exact p
      have HV2 : Value.int .i64 (v / 256) = Value.int .i64 (n / 256 ^ (K - q)) := by
        rw [HV.out, show K - (q + 1) + 1 = K - q by omega]
      go_roundw
      case rel => exact ⟨q, by omega, rfl, HV2, HE, hc.set_ (by simp [foot1, Value.ownBlock]) _⟩
      case measure => simp [intOf]
theorem strOf_size {k : Nat} {n : Int} : (strOfNums (digs k n)).size = k := by rw [strOfNums_size, digs_len]
end Go.Proofs.YtpjijbonpjoamaaGreat

/-
  What is stored through a handle: the contracts.
-/
namespace Go.Proofs.YtpjijbonpjoamaaGreat
open Go.RowKit

end Go.Proofs.YtpjijbonpjoamaaGreat

/-
  Generations set: the contract.
-/
namespace Go.Proofs.YtpjijbonpjoamaaGreat
open Go.RowKit
theorem flatMap_set_same {svs : List SV} {i : Nat} {s s' : SV} (hi : svs[i]? = some s) (hf : foot1 s'.val = foot1 s.val) : ((svs.set i s').flatMap fun s => foot1 s.val) = svs.flatMap fun s => foot1 s.val := by
  induction svs generalizing i with
  | nil => simp at hi
  | cons x xs ih =>
    cases i with
    | zero =>
      simp only [List.getElem?_cons_zero, Option.some.injEq] at hi
      subst hi
      simp [hf]
    | succ i =>
      simp only [List.getElem?_cons_succ] at hi
      simp only [List.set_cons_succ, List.flatMap_cons, ih hi]

/-- A row has been appended to, or changed in place, and its head is stored anew. -/
theorem OwLL.app_row {α : Type} {T : FT α} {e E : TypeId} {w w' : World} {g n c : Nat} {svs : List SV} {ll : List (List α)} (h : OwLL T e E w (.slice (some ⟨g, 0, none⟩) n c) svs ll) {i : Nat} {s s' : SV} {l' : List α} (hi : svs[i]? = some s)
    (hl : OwL T e w' s'.val l') (hg : w.grownBy w' s.val.ownBlock) (hat : s'.val.ownBlock = s.val.ownBlock ∨ s'.val.ownBlock = some w.heap.size) :
    OwLL T e E (w'.setCell ⟨g, i, none⟩ s'.val) (.slice (some ⟨g, 0, none⟩) n c) (svs.set i s') (ll.set i l') := by
  have hs : s ∈ svs := List.mem_of_getElem? hi
  have hc := Chg.of_grown hg
  have hn := h.nodup
  have hlt := h.lt
  have hgz : g < w.heap.size := hlt g (mem_foot2.2 (.inl rfl))
  unfold foot2 at hn
  rw [List.nodup_append] at hn
  obtain ⟨hn1, hn2, hn3⟩ := hn
  have hgs : ∀ s' ∈ svs, s'.val.ownBlock ≠ some g := fun s' hs' he => hn3 g (mem_foot1.2 rfl) g (List.mem_flatMap.2 ⟨s', hs', mem_foot1.2 he⟩) rfl
  have hg' : s'.val.ownBlock ≠ some g := by
    rcases hat with h1 | h1
    · rw [h1]; exact hgs s hs
    · rw [h1]; intro he; injection he with he; omega
  have hkeep : ∀ b, b ≠ g → (w'.setCell ⟨g, i, none⟩ s'.val).heap[b]? = w'.heap[b]? := fun b hb => Below.heap_setCell _ _ _ _ hb
  have hik := (List.getElem?_eq_some_iff.1 hi).1
  refine ⟨by rw [List.length_set, List.length_set]; exact h.len, ?_, fun k s1 l1 hk hl1 => ?_, ?_⟩
  · have ho := h.outer.chg hc (fun b hb hm => hn3 b hb b (List.mem_flatMap.2 ⟨s, hs, hm⟩) rfl)
    have := ho.set_ (j := 0) (y := s') (u := .slice s'.a s'.len s'.cap) hi (by decide) rfl
    rw [show i * FS.n + 0 = i by simp [FS]] at this
    exact this
  · by_cases hki : i = k
    · subst hki
      rw [List.getElem?_set_self hik] at hk
      rw [List.getElem?_set_self (by rw [← h.len]; exact hik)] at hl1
      cases hk
      cases hl1
      exact hl.keep fun b hb => hkeep b fun e => hg' (by rw [hb, e])
    · rw [List.getElem?_set_ne hki] at hk hl1
      have ho := h.inner k s1 l1 hk hl1
      refine (ho.chg hc (fun b hb hm => nodup_rows hn2 hi hk hki (mem_foot1.1 hm) (mem_foot1.1 hb))).keep fun b hb => hkeep b fun e => hgs s1 (List.mem_of_getElem? hk) (by rw [hb, e])
  · have hfr : s'.val.ownBlock = some w.heap.size → ∀ b ∈ foot1 s'.val, b ∉ foot2 (.slice (some ⟨g, 0, none⟩) n c) svs := by
      intro h1 b hb hm
      rw [mem_foot1, h1] at hb
      injection hb with hb
      have := hlt b hm
      omega
    unfold foot2
    rw [List.nodup_append]
    rcases hat with h1 | h1
    · have hff : foot1 s'.val = foot1 s.val := by unfold foot1; rw [h1]
      rw [flatMap_set_same hi hff]
      exact ⟨hn1, hn2, hn3⟩
    · refine ⟨hn1, nodup_set hn2 (fun b hb hm => hfr h1 b hb (List.mem_append.2 (.inr hm))), fun a ha b hb e => ?_⟩
      subst e
      obtain ⟨y, hy, hm⟩ := List.mem_flatMap.1 hb
      rcases List.mem_or_eq_of_mem_set hy with hy | rfl
      · exact hn3 a ha a (List.mem_flatMap.2 ⟨y, hy, hm⟩) rfl
      · exact hfr h1 a hm (List.mem_append.2 (.inl ha))

theorem szLL_set_le {α : Type} (ll : List (List α)) (i : Nat) (l : List α) : szLL (ll.set i l) ≤ szLL ll + l.length := by
  have : ∀ (ll : List (List α)) i, ((ll.set i l).map List.length).sum ≤ (ll.map List.length).sum + l.length := by
    intro ll
    induction ll with
    | nil => intro i; simp
    | cons x xs ih =>
      intro i
      cases i with
      | zero => simp; omega
      | succ i => have := ih i; simp at this ⊢; omega
  have := this ll i
  unfold szLL
  simp only [List.length_set]
  omega

theorem OwLL.at_form {α : Type} {T : FT α} {e E : TypeId} {w : World} {v : Value} {svs : List SV} {ll : List (List α)} (h : OwLL T e E w v svs ll) (hl : 0 < ll.length) : ∃ g cap, v = .slice (some ⟨g, 0, none⟩) ll.length cap ∧ g < w.heap.size := by
  have := h.outer.form_pos (by rw [h.len]; exact hl)
  rwa [h.len] at this

theorem OwLL.head_ne {α : Type} {T : FT α} {e E : TypeId} {w : World} {g n c : Nat} {svs : List SV} {ll : List (List α)} (h : OwLL T e E w (.slice (some ⟨g, 0, none⟩) n c) svs ll) {i : Nat} {s : SV} (hi : svs[i]? = some s) : g ∉ foot1 s.val := by
  have hn := h.nodup
  unfold foot2 at hn
  rw [List.nodup_append] at hn
  exact fun hm => hn.2.2 g (mem_foot1.2 rfl) g (List.mem_flatMap.2 ⟨s, List.mem_of_getElem? hi, hm⟩) rfl

theorem Box.ad {w : World} {g : Nat} {vs : List Value} (b : Box w g vs) : ∃ a, a = g ∧ Box w a vs := ⟨g, rfl, b⟩
set_option maxHeartbeats 400000 in
theorem OwnAt_impl (a c : Nat) (ha : a < 3) (hc : c < 3) (w : World) : Calls Tryz.prog 99 #[.int .i64 a, .int .i64 c] w fun e w' => e = .returned (.int .i64 ((a * 3 + c : Nat) : Int)) ∧ w = w' := by
  have k1 : inB 0 2 (a : Int) = true := inB_iff.2 ⟨by omega, by omega⟩
  have k2 : inB 0 2 (c : Int) = true := inB_iff.2 ⟨by omega, by omega⟩
  go_enter Tryz.func99, Tryz.ntmps99
  go_wp2_with (first | (go_at_call 28; refine (isWorker_ct _ _).mono ?_; rw [k1]; rintro e w1 ⟨rfl, rfl⟩) | (go_at_call 101; refine (isClass_ct _ _).mono ?_; rw [k2]; rintro e w1 ⟨rfl, rfl⟩))
  go_ret
  exact ⟨ret_i64 (by omega), rfl⟩

end Go.Proofs.YtpjijbonpjoamaaGreat

/-
  A slot given back: the contract.
-/
namespace Go.Proofs.YtpjijbonpjoamaaGreat
open Go.RowKit

end Go.Proofs.YtpjijbonpjoamaaGreat

/-
  A slot given back: the reference.
-/
namespace Go.Proofs.YtpjijbonpjoamaaGreat
open Go.RowKit

end Go.Proofs.YtpjijbonpjoamaaGreat

/-
  A slot freed: the contract.
-/
namespace Go.Proofs.YtpjijbonpjoamaaGreat
open Go.RowKit

end Go.Proofs.YtpjijbonpjoamaaGreat

/-
  A slot freed: the reference, in place.
-/
namespace Go.Proofs.YtpjijbonpjoamaaGreat
open Go.RowKit

theorem Chg.set_new {F : List Nat} {w w' : World} (h : Chg F w w') {g i : Nat} (hg : w.heap.size ≤ g) (v : Value) : Chg F w (w'.setCell ⟨g, i, none⟩ v) :=
  ⟨h.os, h.tape, h.output, by simpa using h.size, fun k hk hn => (Below.heap_setCell _ _ _ _ (fun e => by have e' : k = g := e; omega)).trans (h.block k hk hn)⟩
end Go.Proofs.YtpjijbonpjoamaaGreat

/-
  FreeNow: the reference.
-/
namespace Go.Proofs.YtpjijbonpjoamaaGreat
open Go.RowKit

end Go.Proofs.YtpjijbonpjoamaaGreat

/-
  FreeNow: the contract.
-/
namespace Go.Proofs.YtpjijbonpjoamaaGreat
open Go.RowKit

end Go.Proofs.YtpjijbonpjoamaaGreat

/-
  FnExactFreeNow, walked.
-/
namespace Go.Proofs.YtpjijbonpjoamaaGreat
open Go.RowKit

theorem getD_le {α : Type} (ll : List (List α)) (k : Nat) : (ll.getD k []).length ≤ szLL ll := by
  rw [List.getD]
  cases h : ll[k]? with
  | none => exact Nat.zero_le _
  | some l => exact le_szLL (List.mem_of_getElem? h)
end Go.Proofs.YtpjijbonpjoamaaGreat

/-
  A copy into a row of ints that the call owns; pages granted: plain facts.
-/
namespace Go.Proofs.YtpjijbonpjoamaaGreat
open Go.RowKit
theorem flatI (l : List Int) : flat FI l = l.map (Value.int .i64) := by
  unfold flat
  induction l with
  | nil => rfl
  | cons x l ih => simp [FI] at ih ⊢; rw [ih]
theorem OwL.row_put {e : TypeId} {w : World} {g n c : Nat} {b : List Int} (h : OwL FI e w (.slice (some ⟨g, 0, none⟩) n c) b) : ∃ cur : Array Value, w.heap[g]? = some (.cells cur e (0, 0)) ∧ b.length ≤ cur.size ∧
    ∀ (off : Nat) (m : List Int), off + m.length ≤ b.length → OwL FI e (w.setRow g (cur.toList.take off ++ (m.map (Value.int .i64) ++ cur.toList.drop (off + m.length))).toArray) (.slice (some ⟨g, 0, none⟩) n c) (putAt b off m) := by
  have hnl := h.len_eq
  obtain ⟨h1, h2⟩ := id h
  rcases h2 with ⟨h2, _⟩ | ⟨g', cap, cur, hv, hb, hc, hl, hm, hz, ht⟩
  · cases h2
  injection hv with e1 e2 e3
  injection e1 with e1
  injection e1 with e1
  subst e1 e3
  have hz' : cur.size = c := by simpa [FI] using hz
  have ht' : cur.toList.take b.length = b.map (Value.int .i64) := by
    have := ht
    rw [flatI] at this
    simpa [FI] using this
  refine ⟨cur, hc, by omega, fun off m hf => ⟨?_, .inr ⟨g, c, _, by rw [hnl, putAt_len hf], hb, setRow_heap w g cur _ e _ hc, by rw [putAt_len hf]; omega, hm, ?_, ?_⟩⟩⟩
  · rw [length_flat]
  · simp [FI]
    omega
  · rw [flatI, putAt_len hf]
    show List.take (b.length * 1) (cur.toList.take off ++ (m.map (Value.int .i64) ++ cur.toList.drop (off + m.length))) = _
    rw [Nat.mul_one]
    have hcl : cur.toList.length = c := by simpa using hz'
    have e1 : cur.toList.take off = (b.take off).map (Value.int .i64) := by
      have := congrArg (List.take off) ht'
      rw [List.take_take, Nat.min_eq_left (by omega), ← List.map_take] at this
      exact this
    have e2 : List.take (b.length - (off + m.length)) (cur.toList.drop (off + m.length)) = (b.drop (off + m.length)).map (Value.int .i64) := by
      have := congrArg (List.drop (off + m.length)) ht'
      rw [List.drop_take, ← List.map_drop] at this
      exact this
    have l1 : (List.take off cur.toList).length = off := by simp; omega
    have l2 : (m.map (Value.int .i64)).length = m.length := by simp
    have k1 : List.take b.length (List.take off cur.toList) = List.take off cur.toList := List.take_of_length_le (by rw [l1]; omega)
    have k2 : List.take (b.length - off) (m.map (Value.int .i64)) = m.map (Value.int .i64) := List.take_of_length_le (by rw [l2]; omega)
    rw [List.take_append, l1, List.take_append, l2, k1, k2, show b.length - off - m.length = b.length - (off + m.length) by omega, e2, e1]
    simp [putAt]
theorem Chg.setRow_ {F : List Nat} {w w' : World} (h : Chg F w w') {g : Nat} (hg : g ∈ F) (cs : Array Value) : Chg F w (w'.setRow g cs) :=
  ⟨h.os, h.tape, h.output, by simpa using h.size, fun k hk hn => (setRow_other w' g k cs (fun e => hn (e ▸ hg))).trans (h.block k hk hn)⟩
theorem step_copy_int {P : Program} {ops : Array Oper} {o : Oper} {a : Act} {w : World} {K : Act → World → Prop} {Q : Exit → Act → World → Prop} {E : Prop} (hgd : o.guard = none) (d s : Operand) (dT sT : TypeId)
    (ho : o.op = .call { callee := .builtin .copy, args := #[d, s], argTypes := #[dT, sT] }) (elem : TypeId) (hu : P.underlying dT = some (.slice elem)) (hsz : (P.info? elem).map (·.size) = some 1)
    {e : TypeId} {g n c off dLen dCap sCap : Nat} {ad : Addr} {b m : List Int} (hd : a.eval d = .slice (some ⟨g, off, none⟩) dLen dCap) (hs : a.eval s = .slice (some ad) m.length sCap)
    (hown : OwL FI e w (.slice (some ⟨g, 0, none⟩) n c) b) (hsrc : ∀ j v, (m.map (Value.int .i64))[j]? = some v → w.cell? (ad.add j) = some v) (hle : m.length ≤ dLen) (hfit : off + m.length ≤ b.length)
    (h : ∀ w', OwL FI e w' (.slice (some ⟨g, 0, none⟩) n c) (putAt b off m) → Chg [g] w w' → K (a.put o.dst (goInt m.length)) w') :
    if Region.wanted o (yielded ops a.tmps) = true then Oper.wp P o a w K Q else E := by
  have hw : Region.wanted o (yielded ops a.tmps) = true := by simp [Region.wanted, hgd]
  rw [if_pos hw]
  obtain ⟨cur, hc, hcb, hput⟩ := hown.row_put
  have hrun := run_copy_row (P := P) w dT sT o.type elem g off dLen dCap ad m.length sCap cur e (m.map (Value.int .i64)) hu hsz hc (by simp [Nat.min_eq_left hle]) hsrc (by simp; omega) (by intro v hv; obtain ⟨x, _, rfl⟩ := List.mem_map.1 hv; rfl)
  unfold Oper.wp
  rw [List.length_map] at hrun
  simp [execOp, ho, resolve, invoke, builtin, hd, hs, hrun, Result.andThen]
  refine h _ ?_ ((Chg.refl _ _).setRow_ (by simp) _)
  have := hput off m hfit
  simpa using this
def grTo (b : List Int) (p : Nat) (c : Int) : Nat → List Int
  | 0 => putAt b (p * 64) [171, c, perPage c]
  | i + 1 => putAt (grTo b p c i) (p * 64 + 8 + i * (strideOf c).toNat) (digs 4 1)
def grantH (h : Heap) (p : Nat) (c : Int) : Heap := ⟨grTo h.Bytes p c (perPage c).toNat, h.Class.set p c⟩
def slotsTo (p k : Nat) : List Int := (List.range k).map fun i => ((p * 4 + i : Nat) : Int)
theorem slotsTo_succ (p k : Nat) : slotsTo p (k + 1) = slotsTo p k ++ [((p * 4 + k : Nat) : Int)] := by simp [slotsTo, List.range_succ]
theorem slotsTo_len (p k : Nat) : (slotsTo p k).length = k := by simp [slotsTo]
theorem grTo_len {b : List Int} {p : Nat} {c : Int} (hb : b.length = 384) (hp : p < 6) (hc : inB 0 2 c = true) : ∀ i, i ≤ (perPage c).toNat → (grTo b p c i).length = 384
  | 0, _ => by
    unfold grTo
    rw [putAt_len (by simp; omega), hb]
  | i + 1, hi => by
    have hr := gens_room hc (i := i) (by omega)
    have ih := grTo_len hb hp hc i (by omega)
    unfold grTo
    rw [putAt_len (by rw [digs_len, ih]; omega), ih]
end Go.Proofs.YtpjijbonpjoamaaGreat

/-
  A page granted: the contract.
-/
namespace Go.Proofs.YtpjijbonpjoamaaGreat
open Go.RowKit

theorem foot1_some {g n c b : Nat} : b ∈ foot1 (.slice (some ⟨g, 0, none⟩) n c) ↔ b = g := by simp [foot1, Value.ownBlock, eq_comm]
theorem idx_lt {l : List Int} {x : Int} {p : Nat} (h : idxOf (fun y => y == x) l = (p : Int)) : p < l.length := by
  unfold idxOf at h
  cases hx : l.findIdx? (fun y => y == x) with
  | none => rw [hx] at h; simp at h
  | some i =>
    rw [hx] at h
    simp at h
    obtain rfl : i = p := by omega
    exact (List.findIdx?_eq_some_iff_getElem.1 hx).1
set_option maxHeartbeats 400000 in
theorem SlotAt_impl (p i : Nat) (hp : p < 6) (hi : i < 4) (w : World) : Calls Tryz.prog 131 #[.int .i64 p, .int .i64 i] w fun e w' => e = .returned (.int .i64 ((p * 4 + i : Nat) : Int)) ∧ w = w' := by
  have k1 : inB 0 5 (p : Int) = true := inB_iff.2 ⟨by omega, by omega⟩
  have k2 : inB 0 3 (i : Int) = true := inB_iff.2 ⟨by omega, by omega⟩
  go_enter Tryz.func131, Tryz.ntmps131
  go_wp2_with (go_at_call 75; refine (within_ct _ _ _ _).mono ?_; (first | rw [k1] | rw [k2]); rintro e w1 ⟨rfl, rfl⟩)
  go_ret
  exact ⟨ret_i64 (by omega), rfl⟩
theorem perPage_nat {c : Nat} (_hc : c < 3) : ∃ n : Nat, perPage (c : Int) = (n : Int) ∧ n ≤ 4 ∧ (perPage (c : Int)).toNat = n := by
  have := perPage_bd (c : Int)
  exact ⟨(perPage (c : Int)).toNat, by omega, by omega, rfl⟩

set_option maxRecDepth 100000 in
set_option maxHeartbeats 8000000 in
theorem Grant_yes (w : World) (H : HHeap) (x : Heap) (p c : Nat) (h : RdHeap w w.heap.size H x) (hs : sizeHeap x ≤ 536870912) (hok : heapOkB x = true) (hc : c < 3) (hp : idxOf (fun y => y == -1) x.Class = (p : Int)) :
    Calls Tryz.prog 102 #[.agg #[.slice H.Bytes.a H.Bytes.len H.Bytes.cap, .slice H.Class.a H.Class.len H.Class.cap], .int .i64 c] w fun e w' => ∃ (H' : HHeap) (v : SV), e = .returned (.tuple #[.agg #[.slice H'.Bytes.a H'.Bytes.len H'.Bytes.cap, .slice H'.Class.a H'.Class.len H'.Class.cap], .slice v.a v.len v.cap]) ∧ OwHeap w' H' (grantH x p c) ∧ OwL FI 3 w' v.val (slotsTo p (perPage (c : Int)).toNat) ∧ (∀ g ∈ H'.foot, w.heap.size ≤ g) ∧ (∀ g ∈ foot1 v.val, w.heap.size ≤ g ∧ g ∉ H'.foot) ∧ Below w.heap.size w w' := by
  have sh := shape_of (heap_shape hok)
  have hpl := idx_lt hp
  have HBL := Hid.mk_ sh.bl
  have HCL := Hid.mk_ sh.cl
  have hp6 : p < 6 := by rw [sh.cl] at hpl; exact hpl
  have hcl : inB 0 2 (c : Int) = true := inB_iff.2 ⟨by omega, by omega⟩
  obtain ⟨n, hn, hn4, hnn⟩ := perPage_nat hc
  have HGL := Hid.mk_ (fun i (hi : i ≤ n) => grTo_len (b := x.Bytes) (p := p) (c := (c : Int)) sh.bl hp6 hcl i (by omega))
  have HRM := Hid.mk_ (fun i (hi : i < n) => gens_room hcl (i := i) (by omega))
  have hix := fun W hW => IndexInt_ct W _ x.Class (-1) (show RdL FI W W.heap.size (.slice H.Class.a H.Class.len H.Class.cap) x.Class from hW)
  rw [hp] at hix
  have hho := fun (W : World) (hW : Below w.heap.size w W) => HeapOk_impl W H x (rdHeap_up h hW)
  rw [hok] at hho
  have hpp := fun W => PerPage_impl (c : Int) W
  rw [hn] at hpp
  have hsa := fun i (hi : i < n) W => SlotAt_impl p i hp6 (by omega) W
  have hga : ∀ i, i < n → ∀ W : World, Calls Tryz.prog 125 #[.int .i64 ((p * 4 + i : Nat) : Int), .int .i64 c] W fun e w' => e = .returned (.int .i64 ((p * 64 + 8 + i * (strideOf c).toNat : Nat) : Int)) ∧ W = w' := fun i hi W => by
    have := GenAt_impl (slotAtP p i) (c : Int) W
    rw [genAt_page hp6 hcl (by omega)] at this
    rw [show slotAtP (p : Int) (i : Int) = ((p * 4 + i : Nat) : Int) by unfold slotAtP; rw [if_pos ⟨inB_iff.2 ⟨by omega, by omega⟩, inB_iff.2 ⟨by omega, by omega⟩⟩]; omega] at this
    exact this
  have hfx : ∀ W : World, Calls Tryz.prog 41 #[.int .i64 1, .int .i64 4] W fun e w' => e = .returned (.string (strOfNums (digs 4 1))) ∧ Below W.heap.size W w' := fun W => Fixed_yes 1 4 W (by decide) (by decide) (by decide) (by decide)
  have HTE := Hid.mk_ (nums_strOf 4 1)
  have HTS : Hid ((strOfNums (digs 4 1)).size = 4) := strOf_size
  have HGR : Hid (grantH x p c = ⟨grTo x.Bytes p c n, x.Class.set p c⟩) := by
    show _ = _
    unfold grantH
    rw [hnn]
  have HPC : Hid (perPage (c : Int) = (n : Int)) := hn
  have HGS := Hid.mk_ (fun i => show grTo x.Bytes p c (i + 1) = putAt (grTo x.Bytes p c i) (p * 64 + 8 + i * (strideOf c).toNat) (digs 4 1) from rfl)
  have HG0 : Hid (putAt x.Bytes (p * 64) [171, (c : Int), (n : Int)] = grTo x.Bytes p c 0) := by
    show _ = _
    unfold grTo
    rw [hn]
  rw [hnn]
  clear sh hok hp hn hnn
  generalize strOfNums (digs 4 1) = t at *
  have B_a : Box ((w.alloc (.cells #[.slice H.Bytes.a H.Bytes.len H.Bytes.cap, .slice H.Class.a H.Class.len H.Class.cap] 31)).alloc (.cells #[.slice none 0 0, .slice none 0 0] 31)) (w.heap.size) [.slice H.Bytes.a H.Bytes.len H.Bytes.cap, .slice H.Class.a H.Class.len H.Class.cap] := by
    have hbx := Box.new w #[.slice H.Bytes.a H.Bytes.len H.Bytes.cap, .slice H.Class.a H.Class.len H.Class.cap] 31
    exact (hbx).alloc _
  have B_r : Box ((w.alloc (.cells #[.slice H.Bytes.a H.Bytes.len H.Bytes.cap, .slice H.Class.a H.Class.len H.Class.cap] 31)).alloc (.cells #[.slice none 0 0, .slice none 0 0] 31)) (w.heap.size + 1) [.slice none 0 0, .slice none 0 0] := by
    have hbx := Box.new (w.alloc (.cells #[.slice H.Bytes.a H.Bytes.len H.Bytes.cap, .slice H.Class.a H.Class.len H.Class.cap] 31)) #[.slice none 0 0, .slice none 0 0] 31
    simp only [World.size_alloc] at hbx
    exact hbx
  have hB : Below w.heap.size w ((w.alloc (.cells #[.slice H.Bytes.a H.Bytes.len H.Bytes.cap, .slice H.Class.a H.Class.len H.Class.cap] 31)).alloc (.cells #[.slice none 0 0, .slice none 0 0] 31)) := by repeat (first | exact Below.refl _ _ | refine Below.alloc ?_ (by simp <;> omega) _ | refine below_grow_of ?_ (by simp <;> omega) _ _ | refine Below.drew ?_ | refine below_drewN ?_ _)
  go_enter Tryz.func102, Tryz.ntmps102
  go_wp2_with fail
  generalize hW0 : ((w.alloc (.cells #[.slice H.Bytes.a H.Bytes.len H.Bytes.cap, .slice H.Class.a H.Class.len H.Class.cap] 31)).alloc (.cells #[.slice none 0 0, .slice none 0 0] 31)) = w0 at B_a B_r hB ⊢
  clear hW0
  have zz_a := B_a.lt
  have zz_r := B_r.lt
  have q_a_0 := B_a.cell 0 _ rfl
  have q_a_1 := B_a.cell 1 _ rfl
  have fr_a := B_a.fro
  have z_a := B_a.lt
  have q_r_0 := B_r.cell 0 _ rfl
  have q_r_1 := B_r.cell 1 _ rfl
  have fr_r := B_r.fro
  have z_r := B_r.lt
  refine (copyHeap_impl _ H x (rdHeap_up h hB) (by omega)).mono ?_
  rintro e w1 ⟨K_c, rfl, o_c, l_c, hb⟩
  have u_c := o_c.lt
  replace B_a := B_a.below hb
  replace B_r := B_r.below hb
  replace hB := hB.trans (hb.mono hB.size)
  have sz := hb.size
  clear hb
  replace q_a_0 := B_a.cell 0 _ rfl
  replace q_a_1 := B_a.cell 1 _ rfl
  replace fr_a := B_a.fro
  replace z_a := B_a.lt
  replace q_r_0 := B_r.cell 0 _ rfl
  replace q_r_1 := B_r.cell 1 _ rfl
  replace fr_r := B_r.fro
  replace z_r := B_r.lt
  obtain ⟨⟨A1, n1, pB⟩, ⟨A2, n2, pC⟩⟩ := K_c
  obtain ⟨gB, c1, hv1, hg1⟩ := OwL.form_pos (v := .slice A1 n1 pB) o_c.Bytes (by rw [HBL.out]; decide)
  obtain ⟨gC, c2, hv2, hg2⟩ := OwL.form_pos (v := .slice A2 n2 pC) o_c.Class (by rw [HCL.out]; decide)
  injection hv1 with i1 i2 i3
  injection hv2 with j1 j2 j3
  subst i1 i2 i3 j1 j2 j3
  have hBC : gB ≠ gC := fun e => o_c.d01 gB (foot1_some.2 rfl) (foot1_some.2 e)
  have lB := l_c gB (HHeap.mem_foot.2 (.inl (foot1_some.2 rfl)))
  have lC := l_c gC (HHeap.mem_foot.2 (.inr (foot1_some.2 rfl)))
  have oB : OwL FI 3 w1 (.slice (some ⟨gB, 0, none⟩) x.Bytes.length pB) x.Bytes := o_c.Bytes
  have oC : OwL FI 3 w1 (.slice (some ⟨gC, 0, none⟩) x.Class.length pC) x.Class := o_c.Class
  clear o_c l_c u_c
  have oS : OwL FI 3 (w1.alloc (.cells #[] 3)) (.slice (some ⟨w1.heap.size, 0, none⟩) 0 0) [] := OwL.lit FI [] #[] rfl (by simp [maxLen]) w1 3
  have B_o : Box ((w1.alloc (.cells #[] 3)).alloc (.cells #[.slice (some ⟨gB, 0, none⟩) x.Bytes.length pB, .slice (some ⟨gC, 0, none⟩) x.Class.length pC] 31)) (w1.heap.size + 1) [.slice (some ⟨gB, 0, none⟩) x.Bytes.length pB, .slice (some ⟨gC, 0, none⟩) x.Class.length pC] := by
    have hb := Box.new (w1.alloc (.cells #[] 3)) #[.slice (some ⟨gB, 0, none⟩) x.Bytes.length pB, .slice (some ⟨gC, 0, none⟩) x.Class.length pC] 31
    rw [World.size_alloc] at hb
    exact hb
  replace oS := oS.alloc_ (.cells #[.slice (some ⟨gB, 0, none⟩) x.Bytes.length pB, .slice (some ⟨gC, 0, none⟩) x.Class.length pC] 31)
  replace oB := (oB.alloc_ (.cells #[] 3)).alloc_ (.cells #[.slice (some ⟨gB, 0, none⟩) x.Bytes.length pB, .slice (some ⟨gC, 0, none⟩) x.Class.length pC] 31)
  replace oC := (oC.alloc_ (.cells #[] 3)).alloc_ (.cells #[.slice (some ⟨gB, 0, none⟩) x.Bytes.length pB, .slice (some ⟨gC, 0, none⟩) x.Class.length pC] 31)
  replace B_a := (B_a.alloc (.cells #[] 3)).alloc (.cells #[.slice (some ⟨gB, 0, none⟩) x.Bytes.length pB, .slice (some ⟨gC, 0, none⟩) x.Class.length pC] 31)
  replace B_r := (B_r.alloc (.cells #[] 3)).alloc (.cells #[.slice (some ⟨gB, 0, none⟩) x.Bytes.length pB, .slice (some ⟨gC, 0, none⟩) x.Class.length pC] 31)
  replace hB := (hB.alloc hB.size (.cells #[] 3)).alloc (by simp; exact Nat.le_succ_of_le hB.size) (.cells #[.slice (some ⟨gB, 0, none⟩) x.Bytes.length pB, .slice (some ⟨gC, 0, none⟩) x.Class.length pC] 31)
  go_wp2_with fail
  clear q_a_0 q_a_1 q_r_0 q_r_1 fr_a fr_r z_a z_r
  generalize hW2 : (w1.alloc (.cells #[] 3)).alloc (.cells #[.slice (some ⟨gB, 0, none⟩) x.Bytes.length pB, .slice (some ⟨gC, 0, none⟩) x.Class.length pC] 31) = w2 at oS oB oC B_a B_r B_o hB ⊢
  clear hW2
  have q_a_0 := B_a.cell 0 _ rfl
  have q_a_1 := B_a.cell 1 _ rfl
  have q_r_0 := B_r.cell 0 _ rfl
  have q_r_1 := B_r.cell 1 _ rfl
  have q_o_0 := B_o.cell 0 _ rfl
  have q_o_1 := B_o.cell 1 _ rfl
  have fr_a := B_a.fro
  have z_a := B_a.lt
  have fr_r := B_r.fro
  have z_r := B_r.lt
  have fr_o := B_o.fro
  have z_o := B_o.lt
  refine (hix _ (rd_up h.Class hB)).mono ?_
  clear hix
  rintro e wv ⟨rfl, rfl⟩
  go_wp2_with fail
  refine (hho _ hB).mono ?_
  clear hho
  rintro e w3 ⟨rfl, hb⟩
  have sz2 := hb.size
  have zo2 := z_o
  replace B_a := B_a.below hb
  replace B_r := B_r.below hb
  replace B_o := B_o.below hb
  replace oS := oS.step0 hb
  replace oB := oB.step0 hb
  replace oC := oC.step0 hb
  replace hB := hB.trans (hb.mono hB.size)
  clear hb
  replace q_a_0 := B_a.cell 0 _ rfl
  replace q_a_1 := B_a.cell 1 _ rfl
  replace q_r_0 := B_r.cell 0 _ rfl
  replace q_r_1 := B_r.cell 1 _ rfl
  replace q_o_0 := B_o.cell 0 _ rfl
  replace q_o_1 := B_o.cell 1 _ rfl
  replace fr_a := B_a.fro
  replace z_a := B_a.lt
  replace fr_r := B_r.fro
  replace z_r := B_r.lt
  replace fr_o := B_o.fro
  replace z_o := B_o.lt
  have fC := oC.frozen_ p
  have cC := oC.cell_ (List.getElem?_eq_getElem hpl) FI.pos
  simp only [FI, Nat.mul_one, Nat.add_zero] at cC
  have HSC := Hid.mk_ (fun (y : Int) => oC.set_ (y := y) (u := .int .i64 y) (List.getElem?_eq_getElem hpl) FI.pos rfl)
  have hpl' : (p : Int) < (x.Class.length : Int) := by omega
  have n1 : gC ≠ w1.heap.size + 1 := by omega
  have n2 : w1.heap.size + 1 ≠ gC := by omega
  go_wp2_with (go_at_call 101; refine (isClass_ct _ _).mono ?_; rw [hcl]; rintro e wv ⟨rfl, rfl⟩)
  replace B_a := B_a.other (g' := gC) (i := p) (by omega) (.int .i64 c)
  replace B_r := B_r.other (g' := gC) (i := p) (by omega) (.int .i64 c)
  replace B_o := B_o.other (g' := gC) (i := p) (by omega) (.int .i64 c)
  replace oS := oS.keep (w' := w3.setCell ⟨gC, p, none⟩ (.int .i64 c)) (fun b hb => heap_set_other w3 _ (by simp [Value.ownBlock] at hb; omega))
  replace oB := oB.keep (w' := w3.setCell ⟨gC, p, none⟩ (.int .i64 c)) (fun b hb => heap_set_other w3 _ (by simp [Value.ownBlock] at hb; omega))
  replace oC : OwL FI 3 (w3.setCell ⟨gC, p, none⟩ (.int .i64 c)) (.slice (some ⟨gC, 0, none⟩) x.Class.length pC) (x.Class.set p c) := by
    have := HSC.out (c : Int)
    rw [show p * FI.n + 0 = p by simp [FI]] at this
    exact this
  replace hB := hB.setCell (p := ⟨gC, p, none⟩) (by simp; omega) (.int .i64 c)
  have sz3 : w3.heap.size ≤ (w3.setCell ⟨gC, p, none⟩ (.int .i64 c)).heap.size := by simp
  clear HSC fC cC
  generalize hW4 : w3.setCell ⟨gC, p, none⟩ (.int .i64 c) = w4 at oS oB oC B_a B_r B_o hB sz3 ⊢
  clear hW4
  replace q_a_0 := B_a.cell 0 _ rfl
  replace q_a_1 := B_a.cell 1 _ rfl
  replace q_r_0 := B_r.cell 0 _ rfl
  replace q_r_1 := B_r.cell 1 _ rfl
  replace q_o_0 := B_o.cell 0 _ rfl
  replace q_o_1 := B_o.cell 1 _ rfl
  replace fr_a := B_a.fro
  replace z_a := B_a.lt
  replace fr_r := B_r.fro
  replace z_r := B_r.lt
  replace fr_o := B_o.fro
  replace z_o := B_o.lt
  have hbl := HBL.out
  have hpb : x.Bytes.length ≤ pB := by
    obtain ⟨_, _, hv, q1, _⟩ := oB.rd'
    injection hv with _ _ e3
    rw [e3]
    exact q1
  have s1 : p * 64 ≤ x.Bytes.length := by omega
  have s2 : p * 64 < pB := by omega
  have s3 : 3 ≤ x.Bytes.length - p * 64 := by omega
  have s4 : p * 64 + 3 ≤ x.Bytes.length := by omega
  clear hbl
  have oBd : OwL FI 3 ((w4.alloc (.cells #[.int .i64 171, .int .i64 c, .int .i64 n] 3)).drew) (.slice (some ⟨gB, 0, none⟩) x.Bytes.length pB) x.Bytes := (oB.alloc_ (.cells #[.int .i64 171, .int .i64 c, .int .i64 n] 3)).keep (fun _ _ => rfl)
  have hsrc : ∀ j v, (([171, (c : Int), (n : Int)] : List Int).map (Value.int .i64))[j]? = some v → ((w4.alloc (.cells #[.int .i64 171, .int .i64 c, .int .i64 n] 3)).drew).cell? ((⟨w4.heap.size, 0, none⟩ : Addr).add j) = some v := by
    intro j v hj
    have e : (⟨w4.heap.size, 0, none⟩ : Addr).add j = ⟨w4.heap.size, j, none⟩ := by simp [Addr.add] <;> omega
    rw [e]
    rcases j with _ | _ | _ | j <;> simp at hj <;> subst hj <;> simp [go_sem]
  have HS := Hid.mk_ hsrc
  obtain ⟨q, hq⟩ : ∃ q : Nat, q = p * 64 := ⟨_, rfl⟩
  rw [← hq] at s1 s2 s3 s4 HG0
  have HQ := Hid.mk_ hq
  have hwr : IntKind.i64.wrap ((p : Int) * 64) = (q : Int) := by rw [IntWalk.i64_in _ ⟨by omega, by omega⟩]; omega
  have s5 : (0 : Int) ≤ (q : Int) := by omega
  have s7 : ¬ pB = q := by omega
  have s6 : (q : Int) ≤ (x.Bytes.length : Int) := by omega
  clear hq
  clear hsrc
  go_upto_region 6 with (fail)
  go_cut [45] from 36 to 45 (fun r wx => r = .int .i64 3 ∧ OwL FI 3 wx (.slice (some ⟨gB, 0, none⟩) x.Bytes.length pB) (grTo x.Bytes p c 0) ∧ OwL FI 3 wx (.slice (some ⟨gC, 0, none⟩) x.Class.length pC) (x.Class.set p c) ∧ OwL FI 3 wx (.slice (some ⟨w1.heap.size, 0, none⟩) 0 0) [] ∧ Box wx w.heap.size [.slice H.Bytes.a H.Bytes.len H.Bytes.cap, .slice H.Class.a H.Class.len H.Class.cap] ∧ Box wx (w.heap.size + 1) [.slice none 0 0, .slice none 0 0] ∧ Box wx (w1.heap.size + 1) [.slice (some ⟨gB, 0, none⟩) x.Bytes.length pB, .slice (some ⟨gC, 0, none⟩) x.Class.length pC] ∧ Below w.heap.size w wx ∧ w4.heap.size ≤ wx.heap.size)
  case first =>
    go_region_law (first | (refine step_copy_int rfl (.tmp 40) (.tmp 44) 22 22 rfl 3 Tryz.underlying22 (by kernel_rfl) (g := gB) (off := q) (ad := ⟨w4.heap.size, 0, none⟩) (m := [171, (c : Int), (n : Int)]) (b := x.Bytes) (by simp [Act.eval]; rfl) (by simp [Act.eval]; rfl) oBd HS.out s3 s4 ?_; intro w5 oB5 hx) | (go_simp; go_at_call 130; refine (hpp _).mono ?_; rintro e wv ⟨rfl, rfl⟩))
    all_goals
      rw [HG0.out] at oB5
      have B_a5 := (B_a.alloc (.cells #[.int .i64 171, .int .i64 c, .int .i64 n] 3)).drew.chg hx (by simp <;> omega)
      have B_r5 := (B_r.alloc (.cells #[.int .i64 171, .int .i64 c, .int .i64 n] 3)).drew.chg hx (by simp <;> omega)
      have B_o5 := (B_o.alloc (.cells #[.int .i64 171, .int .i64 c, .int .i64 n] 3)).drew.chg hx (by simp <;> omega)
      have oS5 := ((oS.alloc_ (.cells #[.int .i64 171, .int .i64 c, .int .i64 n] 3)).keep (w' := (w4.alloc (.cells #[.int .i64 171, .int .i64 c, .int .i64 n] 3)).drew) (fun _ _ => rfl)).chg hx (fun b hb hm => by simp only [List.mem_cons, List.not_mem_nil, or_false] at hm; have := foot1_some.1 hb; omega)
      have oC5 := ((oC.alloc_ (.cells #[.int .i64 171, .int .i64 c, .int .i64 n] 3)).keep (w' := (w4.alloc (.cells #[.int .i64 171, .int .i64 c, .int .i64 n] 3)).drew) (fun _ _ => rfl)).chg hx (fun b hb hm => by simp only [List.mem_cons, List.not_mem_nil, or_false] at hm; have := foot1_some.1 hb; omega)
      have hB5 := (hB.alloc hB.size (.cells #[.int .i64 171, .int .i64 c, .int .i64 n] 3)).drew.trans (hx.below (by simp; exact Nat.le_succ_of_le hB.size) (by simp; omega))
      have sz5 := hx.size
      go_wp2_with fail
      go_meet
      exact ⟨rfl, oB5, oC5, oS5, B_a5, B_r5, B_o5, hB5, by simp at sz5; omega⟩
  case rest =>
    clear oBd HS HQ hwr s1 s2 s3 s4 s5 s6 s7 oB oC oS B_a B_r B_o hB q_a_0 q_a_1 q_r_0 q_r_1 q_o_0 q_o_1 fr_a fr_r fr_o z_a z_r z_o HG0
    obtain ⟨rfl, oB, oC, oS, B_a, B_r, B_o, hB, sz4⟩ := hcut
    have HWL := Hid.mk_ (show w1.heap.size + 1 < w4.heap.size by omega)
    go_wp2_with (go_at_call 130; refine (hpp _).mono ?_; rintro e wv ⟨rfl, rfl⟩)
    go_loopw [7, 48] (fun s i wr => ∃ k : Nat, k ≤ n ∧ i = .int .i64 k ∧ OwL FI 3 wr (.slice (some ⟨gB, 0, none⟩) x.Bytes.length pB) (grTo x.Bytes p c k) ∧ OwL FI 3 wr (.slice (some ⟨gC, 0, none⟩) x.Class.length pC) (x.Class.set p c) ∧ OwL FI 3 wr s (slotsTo p k) ∧ (∀ b ∈ foot1 s, b = w1.heap.size ∨ w4.heap.size ≤ b) ∧ Box wr w.heap.size [.slice H.Bytes.a H.Bytes.len H.Bytes.cap, .slice H.Class.a H.Class.len H.Class.cap] ∧ Box wr (w.heap.size + 1) [.slice none 0 0, .slice none 0 0] ∧ Box wr (w1.heap.size + 1) [.slice (some ⟨gB, 0, none⟩) x.Bytes.length pB, .slice (some ⟨gC, 0, none⟩) x.Class.length pC] ∧ Below w.heap.size w wr ∧ w4.heap.size ≤ wr.heap.size) (fun _ i _ => n - (intOf i).toNat)
    case atStart => exact ⟨0, Nat.zero_le _, rfl, oB, oC, oS, fun b hb => .inl (foot1_some.1 hb), B_a, B_r, B_o, hB, sz4⟩
    case round =>
      obtain ⟨k, hk, rfl, o_B, o_C, o_S, fS, B_a, B_r, B_o, hB, szc⟩ := hrel
      have hsl : (slotsTo p k).length = k := slotsTo_len p k
      have HSL := Hid.mk_ hsl
      clear hsl
      have q_a_0 := B_a.cell 0 _ rfl
      have q_a_1 := B_a.cell 1 _ rfl
      have q_r_0 := B_r.cell 0 _ rfl
      have q_r_1 := B_r.cell 1 _ rfl
      have q_o_0 := B_o.cell 0 _ rfl
      have q_o_1 := B_o.cell 1 _ rfl
      have fr_a := B_a.fro
      have z_a := B_a.lt
      have fr_r := B_r.fro
      have z_r := B_r.lt
      have fr_o := B_o.fro
      have z_o := B_o.lt
      by_cases hlt : k < n
      · have hrm := HRM.out k hlt
        have hgl := HGL.out k hk
        have HL1 : Hid (t.size ≤ 1000) := by
          show _ ≤ _
          rw [HTS.out]
          decide
        have HL2 : Hid (p * 64 + 8 + k * (strideOf (c : Int)).toNat + t.size ≤ (grTo x.Bytes p c k).length) := by
          show _ ≤ _
          rw [HTS.out, hgl]
          omega
        have hsk := fun W => hsa k hlt W
        have hgk := fun W => hga k hlt W
        have HGK := Hid.mk_ (HGS.out k)
        have HST := Hid.mk_ (slotsTo_succ p k)
        have oBx : OwL FI 3 _ (.slice (some ⟨gB, 0, none⟩) x.Bytes.length pB) (grTo x.Bytes p c k) := o_B
        clear hrm hgl oB oC oS hsa hga
        obtain ⟨P, hP⟩ : ∃ P, P = p * 64 + 8 + k * (strideOf (c : Int)).toNat := ⟨_, rfl⟩
        rw [← hP] at hgk HGK HL2
        clear hP oBx
        obtain ⟨sl, hsl⟩ : ∃ q, q = p * 4 + k := ⟨_, rfl⟩
        rw [← hsl] at hsk hgk HST
        clear hsl
        go_wp2_with (go_at_call 131; refine (hsk _).mono ?_; rintro e wv ⟨rfl, rfl⟩)
        clear hsk
        go_region_with (first | (go_at_call 125; (first | ((with_reducible refine (hgk _).mono ?_); rintro e wq ⟨rfl, rfl⟩) | ((with_reducible refine (hgk _).mono ?_); rintro e wq ⟨rfl, rfl⟩))) | (go_at_call 41; (first | ((with_reducible refine (hfx _).mono ?_); rintro e wq ⟨rfl, hb⟩; replace B_a := B_a.below hb; replace B_r := B_r.below hb; replace B_o := B_o.below hb; replace o_B := o_B.step0 hb; replace o_C := o_C.step0 hb; replace o_S := o_S.step0 hb; replace hB := hB.trans (hb.mono hB.size); have sz := hb.size; clear hb; replace q_a_0 := B_a.cell 0 _ rfl; replace q_a_1 := B_a.cell 1 _ rfl; replace fr_a := B_a.fro; replace z_a := B_a.lt; replace q_r_0 := B_r.cell 0 _ rfl; replace q_r_1 := B_r.cell 1 _ rfl; replace fr_r := B_r.fro; replace z_r := B_r.lt; replace q_o_0 := B_o.cell 0 _ rfl; replace q_o_1 := B_o.cell 1 _ rfl; replace fr_o := B_o.fro; replace z_o := B_o.lt) | ((with_reducible refine (hfx _).mono ?_); rintro e wq ⟨rfl, hb⟩; replace hb := undrew hb; replace B_a := B_a.below hb; replace B_r := B_r.below hb; replace B_o := B_o.below hb; replace o_B := o_B.step0 hb; replace o_C := o_C.step0 hb; replace o_S := o_S.step0 hb; replace hB := hB.trans (hb.mono hB.size); have sz := hb.size; clear hb; replace q_a_0 := B_a.cell 0 _ rfl; replace q_a_1 := B_a.cell 1 _ rfl; replace fr_a := B_a.fro; replace z_a := B_a.lt; replace q_r_0 := B_r.cell 0 _ rfl; replace q_r_1 := B_r.cell 1 _ rfl; replace fr_r := B_r.fro; replace z_r := B_r.lt; replace q_o_0 := B_o.cell 0 _ rfl; replace q_o_1 := B_o.cell 1 _ rfl; replace fr_o := B_o.fro; replace z_o := B_o.lt))) | (go_at_call 43; ((with_reducible refine (putNum_impl _ _ _ P t (show OwL FI 3 _ (.slice (some ⟨gB, 0, none⟩) x.Bytes.length pB) (grTo x.Bytes p c k) from o_B) HL1.out HL2.out).mono ?_); rintro e wq ⟨rfl, hbN, hx⟩; replace hB := hB.trans (hx.below hB.size (fun b hb => by have := foot1_some.1 hb; omega)); have szp := hx.size; replace B_a := B_a.chg hx (fun hm => by have := foot1_some.1 hm; omega); replace B_r := B_r.chg hx (fun hm => by have := foot1_some.1 hm; omega); replace B_o := B_o.chg hx (fun hm => by have := foot1_some.1 hm; omega); replace o_C := o_C.chg hx (fun b hb hm => by have e1 := foot1_some.1 hb; have e2 := foot1_some.1 hm; omega); replace o_S := o_S.chg hx (fun b hb hm => by have e2 := foot1_some.1 hm; rcases fS b hb with hh | hh <;> omega); replace o_B := hbN; clear hx hbN; replace q_a_0 := B_a.cell 0 _ rfl; replace q_a_1 := B_a.cell 1 _ rfl; replace q_r_0 := B_r.cell 0 _ rfl; replace q_r_1 := B_r.cell 1 _ rfl; replace q_o_0 := B_o.cell 0 _ rfl; replace q_o_1 := B_o.cell 1 _ rfl; replace fr_a := B_a.fro; replace z_a := B_a.lt; replace fr_r := B_r.fro; replace z_r := B_r.lt; replace fr_o := B_o.fro; replace z_o := B_o.lt)))
        all_goals
          clear hgk
          rw [HTE.out, ← HGK.out] at o_B
          go_wp2_with (at_builtin; refine wpList_append_flat Tryz.stInt rfl _ _ rfl (v := u7) (y := .slice (some ⟨wq.heap.size, 0, none⟩) 1 1) (l := slotsTo p k) (m := [(sl : Int)]) rfl rfl (o_S.alloc_ _) (OwL.lit FI [(sl : Int)] #[.int .i64 (sl : Int)] rfl (by simp [maxLen]) wq 3).rd' (by rw [HSL.out]; simp; omega) ?_; intro v' w7 ho' hg' hat')
          have hx7 := Chg.of_grown hg'
          have sz7 := hx7.size
          have hB7 := (hB.alloc hB.size (.cells #[.int .i64 (sl : Int)] 3)).trans (hx7.below (by simp; exact Nat.le_succ_of_le hB.size) (fun b hb => by rcases fS b hb with hh | hh <;> omega))
          go_roundw
          case rel =>
            refine ⟨k + 1, by omega, by go_num, (o_B.alloc_ (.cells #[.int .i64 (sl : Int)] 3)).chg hx7 (fun b hb hm => by have e1 := foot1_some.1 hb; rcases fS b hm with hh | hh <;> omega), (o_C.alloc_ (.cells #[.int .i64 (sl : Int)] 3)).chg hx7 (fun b hb hm => by have e1 := foot1_some.1 hb; rcases fS b hm with hh | hh <;> omega), by rw [HST.out]; exact ho', fun b hb => ?_, (B_a.alloc (.cells #[.int .i64 (sl : Int)] 3)).chg hx7 (fun hm => by rcases fS _ hm with hh | hh <;> omega), (B_r.alloc (.cells #[.int .i64 (sl : Int)] 3)).chg hx7 (fun hm => by rcases fS _ hm with hh | hh <;> omega), (B_o.alloc (.cells #[.int .i64 (sl : Int)] 3)).chg hx7 (fun hm => by rcases fS _ hm with hh | hh <;> omega), hB7, by simp at sz7; omega⟩
            rcases foot_app hat' b hb with hh | hh
            · exact fS b hh
            · simp at hh
              omega
          case measure => simp [intOf]; omega
      · obtain rfl : k = n := by omega
        obtain ⟨A, c', hv, _⟩ := o_S.rd'
        subst hv
        go_wp2_with fail
        refine bodyPost_ret (v := .tuple #[.agg #[.slice (some ⟨gB, 0, none⟩) x.Bytes.length pB, .slice (some ⟨gC, 0, none⟩) x.Class.length pC], .slice A (slotsTo p k).length c']) (by simp [results, Tryz.results102, go_sem, q_r_0, q_r_1]) rfl ⟨⟨⟨some ⟨gB, 0, none⟩, x.Bytes.length, pB⟩, ⟨some ⟨gC, 0, none⟩, x.Class.length, pC⟩⟩, ⟨A, (slotsTo p k).length, c'⟩, rfl, by rw [HGR.out]; exact ⟨o_B.chg (F := [w.heap.size + 1]) (by repeat (first | with_reducible exact Chg.refl _ _ | with_reducible refine Chg.set_ ?_ (by simp) _ | with_reducible refine Chg.alloc_ ?_ _ | with_reducible refine Chg.drew_ ?_)) (fun b hb hm => by simp only [List.mem_cons, List.not_mem_nil, or_false] at hm; have := foot1_some.1 hb; omega), o_C.chg (F := [w.heap.size + 1]) (by repeat (first | with_reducible exact Chg.refl _ _ | with_reducible refine Chg.set_ ?_ (by simp) _ | with_reducible refine Chg.alloc_ ?_ _ | with_reducible refine Chg.drew_ ?_)) (fun b hb hm => by simp only [List.mem_cons, List.not_mem_nil, or_false] at hm; have := foot1_some.1 hb; omega), fun b hb hm => by have e1 := foot1_some.1 hb; have e2 := foot1_some.1 hm; omega⟩, o_S.chg (F := [w.heap.size + 1]) (by repeat (first | with_reducible exact Chg.refl _ _ | with_reducible refine Chg.set_ ?_ (by simp) _ | with_reducible refine Chg.alloc_ ?_ _ | with_reducible refine Chg.drew_ ?_)) (fun b hb hm => by simp only [List.mem_cons, List.not_mem_nil, or_false] at hm; rcases fS b hb with hh | hh <;> omega), fun b hb => ?_, fun b hb => ⟨by rcases fS b hb with hh | hh <;> omega, fun hm => ?_⟩, Below.trans hB (by repeat (first | with_reducible exact Below.refl _ _ | with_reducible refine Below.setCell ?_ (by simp <;> omega) _ | with_reducible refine Below.alloc ?_ (by simp <;> omega) _ | with_reducible refine Below.drew ?_))⟩
        · rcases HHeap.mem_foot.1 hb with hh | hh <;> (have := foot1_some.1 hh; omega)
        · rcases HHeap.mem_foot.1 hm with hm | hm <;> (have e := foot1_some.1 hm; rcases fS b hb with hh | hh <;> omega)
end Go.Proofs.YtpjijbonpjoamaaGreat

/-
  A page that is not there; handles made; classes of sizes.
-/
namespace Go.Proofs.YtpjijbonpjoamaaGreat
open Go.RowKit

set_option maxRecDepth 100000 in
set_option maxHeartbeats 4000000 in
theorem Grant_no (w : World) (H : HHeap) (x : Heap) (c : Nat) (h : RdHeap w w.heap.size H x) (hs : sizeHeap x ≤ 536870912) (hok : heapOkB x = true) (hc : c < 3) (hp : idxOf (fun y => y == -1) x.Class = -1) :
    Calls Tryz.prog 102 #[.agg #[.slice H.Bytes.a H.Bytes.len H.Bytes.cap, .slice H.Class.a H.Class.len H.Class.cap], .int .i64 c] w fun e w' => ∃ (H' : HHeap) (A : Option Addr) (cp : Nat), e = .returned (.tuple #[.agg #[.slice H'.Bytes.a H'.Bytes.len H'.Bytes.cap, .slice H'.Class.a H'.Class.len H'.Class.cap], .slice A 0 cp]) ∧ OwHeap w' H' x ∧ (∀ g ∈ H'.foot, w.heap.size ≤ g) ∧ Below w.heap.size w w' := by
  have hcl : inB 0 2 (c : Int) = true := inB_iff.2 ⟨by omega, by omega⟩
  have hix := fun W hW => IndexInt_ct W _ x.Class (-1) (show RdL FI W W.heap.size (.slice H.Class.a H.Class.len H.Class.cap) x.Class from hW)
  rw [hp] at hix
  have hho := fun (W : World) (hW : Below w.heap.size w W) => HeapOk_impl W H x (rdHeap_up h hW)
  rw [hok] at hho
  clear hok hp
  have B_a : Box ((w.alloc (.cells #[.slice H.Bytes.a H.Bytes.len H.Bytes.cap, .slice H.Class.a H.Class.len H.Class.cap] 31)).alloc (.cells #[.slice none 0 0, .slice none 0 0] 31)) (w.heap.size) [.slice H.Bytes.a H.Bytes.len H.Bytes.cap, .slice H.Class.a H.Class.len H.Class.cap] := by
    have hbx := Box.new w #[.slice H.Bytes.a H.Bytes.len H.Bytes.cap, .slice H.Class.a H.Class.len H.Class.cap] 31
    exact (hbx).alloc _
  have B_r : Box ((w.alloc (.cells #[.slice H.Bytes.a H.Bytes.len H.Bytes.cap, .slice H.Class.a H.Class.len H.Class.cap] 31)).alloc (.cells #[.slice none 0 0, .slice none 0 0] 31)) (w.heap.size + 1) [.slice none 0 0, .slice none 0 0] := by
    have hbx := Box.new (w.alloc (.cells #[.slice H.Bytes.a H.Bytes.len H.Bytes.cap, .slice H.Class.a H.Class.len H.Class.cap] 31)) #[.slice none 0 0, .slice none 0 0] 31
    simp only [World.size_alloc] at hbx
    exact hbx
  have hB : Below w.heap.size w ((w.alloc (.cells #[.slice H.Bytes.a H.Bytes.len H.Bytes.cap, .slice H.Class.a H.Class.len H.Class.cap] 31)).alloc (.cells #[.slice none 0 0, .slice none 0 0] 31)) := by repeat (first | exact Below.refl _ _ | refine Below.alloc ?_ (by simp <;> omega) _ | refine below_grow_of ?_ (by simp <;> omega) _ _ | refine Below.drew ?_ | refine below_drewN ?_ _)
  go_enter Tryz.func102, Tryz.ntmps102
  go_wp2_with fail
  generalize hW0 : ((w.alloc (.cells #[.slice H.Bytes.a H.Bytes.len H.Bytes.cap, .slice H.Class.a H.Class.len H.Class.cap] 31)).alloc (.cells #[.slice none 0 0, .slice none 0 0] 31)) = w0 at B_a B_r hB ⊢
  clear hW0
  have zz_a := B_a.lt
  have zz_r := B_r.lt
  have q_a_0 := B_a.cell 0 _ rfl
  have q_a_1 := B_a.cell 1 _ rfl
  have fr_a := B_a.fro
  have z_a := B_a.lt
  have q_r_0 := B_r.cell 0 _ rfl
  have q_r_1 := B_r.cell 1 _ rfl
  have fr_r := B_r.fro
  have z_r := B_r.lt
  refine (copyHeap_impl _ H x (rdHeap_up h hB) (by omega)).mono ?_
  rintro e w1 ⟨K_c, rfl, o_c, l_c, hb⟩
  have u_c := o_c.lt
  replace B_a := B_a.below hb
  replace B_r := B_r.below hb
  replace hB := hB.trans (hb.mono hB.size)
  have sz := hb.size
  clear hb
  replace q_a_0 := B_a.cell 0 _ rfl
  replace q_a_1 := B_a.cell 1 _ rfl
  replace fr_a := B_a.fro
  replace z_a := B_a.lt
  replace q_r_0 := B_r.cell 0 _ rfl
  replace q_r_1 := B_r.cell 1 _ rfl
  replace fr_r := B_r.fro
  replace z_r := B_r.lt
  have B_o : Box ((w1.alloc (.cells #[] 3)).alloc (.cells #[.slice K_c.Bytes.a K_c.Bytes.len K_c.Bytes.cap, .slice K_c.Class.a K_c.Class.len K_c.Class.cap] 31)) (w1.heap.size + 1) [.slice K_c.Bytes.a K_c.Bytes.len K_c.Bytes.cap, .slice K_c.Class.a K_c.Class.len K_c.Class.cap] := by
    have hb := Box.new (w1.alloc (.cells #[] 3)) #[.slice K_c.Bytes.a K_c.Bytes.len K_c.Bytes.cap, .slice K_c.Class.a K_c.Class.len K_c.Class.cap] 31
    rw [World.size_alloc] at hb
    exact hb
  replace o_c := (o_c.alloc_ (.cells #[] 3)).alloc_ (.cells #[.slice K_c.Bytes.a K_c.Bytes.len K_c.Bytes.cap, .slice K_c.Class.a K_c.Class.len K_c.Class.cap] 31)
  replace B_a := (B_a.alloc (.cells #[] 3)).alloc (.cells #[.slice K_c.Bytes.a K_c.Bytes.len K_c.Bytes.cap, .slice K_c.Class.a K_c.Class.len K_c.Class.cap] 31)
  replace B_r := (B_r.alloc (.cells #[] 3)).alloc (.cells #[.slice K_c.Bytes.a K_c.Bytes.len K_c.Bytes.cap, .slice K_c.Class.a K_c.Class.len K_c.Class.cap] 31)
  replace hB := (hB.alloc hB.size (.cells #[] 3)).alloc (by simp; exact Nat.le_succ_of_le hB.size) (.cells #[.slice K_c.Bytes.a K_c.Bytes.len K_c.Bytes.cap, .slice K_c.Class.a K_c.Class.len K_c.Class.cap] 31)
  go_wp2_with fail
  clear q_a_0 q_a_1 q_r_0 q_r_1 fr_a fr_r z_a z_r
  generalize hW2 : ((w1.alloc (.cells #[] 3)).alloc (.cells #[.slice K_c.Bytes.a K_c.Bytes.len K_c.Bytes.cap, .slice K_c.Class.a K_c.Class.len K_c.Class.cap] 31)) = w2 at o_c B_a B_r B_o hB ⊢
  clear hW2
  have q_a_0 := B_a.cell 0 _ rfl
  have q_a_1 := B_a.cell 1 _ rfl
  refine (hix _ (rd_up h.Class hB)).mono ?_
  clear hix
  rintro e wv ⟨rfl, rfl⟩
  go_wp2_with fail
  refine (hho _ hB).mono ?_
  clear hho
  rintro e w3 ⟨rfl, hb⟩
  have sz2 := hb.size
  replace B_r := B_r.below hb
  replace B_o := B_o.below hb
  replace o_c := o_c.step0 hb
  replace hB := hB.trans (hb.mono hB.size)
  clear hb q_a_0 q_a_1
  have q_r_0 := B_r.cell 0 _ rfl
  have q_r_1 := B_r.cell 1 _ rfl
  have q_o_0 := B_o.cell 0 _ rfl
  have q_o_1 := B_o.cell 1 _ rfl
  have fr_r := B_r.fro
  have z_r := B_r.lt
  have z_o := B_o.lt
  go_wp2_with (go_at_call 101; refine (isClass_ct _ _).mono ?_; rw [hcl]; rintro e wv ⟨rfl, rfl⟩)
  refine bodyPost_ret (v := .tuple #[.agg #[.slice K_c.Bytes.a K_c.Bytes.len K_c.Bytes.cap, .slice K_c.Class.a K_c.Class.len K_c.Class.cap], .slice (some ⟨w1.heap.size, 0, none⟩) 0 0]) (by simp [results, Tryz.results102, go_sem, q_r_0, q_r_1]) rfl ⟨K_c, some ⟨w1.heap.size, 0, none⟩, 0, rfl, o_c.chg (F := [w.heap.size + 1]) (by repeat (first | with_reducible exact Chg.refl _ _ | with_reducible refine Chg.set_ ?_ (by simp) _ | with_reducible refine Chg.alloc_ ?_ _ | with_reducible refine Chg.drew_ ?_)) (fun g hg hm => by simp only [List.mem_cons, List.not_mem_nil, or_false] at hm; have := l_c g hg; have := u_c g hg; omega), fun g hg => by have := l_c g hg; omega, Below.trans hB (by repeat (first | with_reducible exact Below.refl _ _ | with_reducible refine Below.setCell ?_ (by simp <;> omega) _ | with_reducible refine Below.alloc ?_ (by simp <;> omega) _ | with_reducible refine Below.drew ?_))⟩

set_option maxHeartbeats 400000 in
theorem HandleOf_impl (s g : Int) (w : World) (h1 : inB 0 23 s = true) (h2 : inB 1 6 g = true) : Calls Tryz.prog 103 #[.int .i64 s, .int .i64 g] w fun e w' => e = .returned (.int .i64 (g * 32 + s)) ∧ w = w' := by
  obtain ⟨a1, a2⟩ := inB_iff.1 h1
  obtain ⟨b1, b2⟩ := inB_iff.1 h2
  go_enter Tryz.func103, Tryz.ntmps103
  go_wp2_with (first | (go_at_call 75; refine (within_ct _ _ _ _).mono ?_; (first | rw [h1] | rw [h2]); rintro e w1 ⟨rfl, rfl⟩) | (go_at_call 121; refine (isSlot_ct _ _).mono ?_; rw [h1]; rintro e w1 ⟨rfl, rfl⟩))
  go_ret
  exact ⟨rfl, rfl⟩
set_option maxHeartbeats 400000 in
theorem HandleOf_spec (s g : Int) (w : World) (h1 : inB 0 23 s = true) (h2 : inB 1 6 g = true) : Calls Tryz.prog 97 #[.int .i64 s, .int .i64 g] w fun e w' => e = .returned (.int .i64 (g * 32 + s)) ∧ w = w' := by
  obtain ⟨a1, a2⟩ := inB_iff.1 h1
  obtain ⟨b1, b2⟩ := inB_iff.1 h2
  go_enter Tryz.func97, Tryz.ntmps97
  go_wp2_with (first | (go_at_call 21; refine (l1In_ct _ _ _ _).mono ?_; (first | rw [h1] | rw [h2]); rintro e w1 ⟨rfl, rfl⟩) | (go_at_call 121; refine (isSlot_ct _ _).mono ?_; rw [h1]; rintro e w1 ⟨rfl, rfl⟩))
  go_ret
  exact ⟨rfl, rfl⟩

theorem classOfS_cases (n : Int) : (classOfS n = -1 ∧ (n < 1 ∨ 40 < n)) ∨ (classOfS n = 0 ∧ 1 ≤ n ∧ n ≤ 8) ∨ (classOfS n = 1 ∧ 8 < n ∧ n ≤ 16) ∨ (classOfS n = 2 ∧ 16 < n ∧ n ≤ 40) := by
  unfold classOfS
  repeat' split
  all_goals omega
set_option maxHeartbeats 4000000 in
theorem ClassOf_impl (n : Int) (w : World) : Calls Tryz.prog 50 #[.int .i64 n] w fun e w' => e = .returned (.int .i64 (classOfS n)) ∧ w = w' := by
  have hz := fun (c : Int) W => SizeOf_impl c W
  have h0 : ∀ W, Calls Tryz.prog 98 #[.int .i64 0] W fun e w' => e = .returned (.int .i64 8) ∧ W = w' := fun W => hz 0 W
  have h1 : ∀ W, Calls Tryz.prog 98 #[.int .i64 1] W fun e w' => e = .returned (.int .i64 16) ∧ W = w' := fun W => hz 1 W
  have h2 : ∀ W, Calls Tryz.prog 98 #[.int .i64 2] W fun e w' => e = .returned (.int .i64 40) ∧ W = w' := fun W => hz 2 W
  have HC := Hid.mk_ (classOfS_cases n)
  clear hz
  go_enter Tryz.func50, Tryz.ntmps50
  go_wp2_with fail
  go_loop [4] (fun i => (i = .int .i64 0 ∧ Hid (1 ≤ n → 0 < n)) ∨ (i = .int .i64 1 ∧ Hid (1 ≤ n → 8 < n)) ∨ (i = .int .i64 2 ∧ Hid (1 ≤ n → 16 < n)) ∨ (i = .int .i64 3 ∧ Hid (1 ≤ n → 40 < n))) (fun i => 3 - (intOf i).toNat)
  case atStart => exact Or.inl ⟨rfl, Hid.mk_ (fun h => by omega)⟩
  case round =>
    rcases hrel with ⟨rfl, HN⟩ | ⟨rfl, HN⟩ | ⟨rfl, HN⟩ | ⟨rfl, HN⟩
    · by_cases c1 : 1 ≤ n
      · by_cases c2 : n ≤ 8
        · go_wp2_with (go_at_call 98; refine (h0 _).mono ?_; rintro e w1 ⟨rfl, rfl⟩)
          have hE : classOfS n = 0 := by rcases HC.out with h | h | h | h <;> omega
          go_ret
          exact ⟨by rw [hE]; rfl, rfl⟩
        · go_wp2_with (go_at_call 98; refine (h0 _).mono ?_; rintro e w1 ⟨rfl, rfl⟩)
          go_round
          · exact Or.inr (Or.inl ⟨rfl, Hid.mk_ (fun _ => by omega)⟩)
          · simp [intOf]
      · go_wp2_with fail
        go_round
        · exact Or.inr (Or.inl ⟨rfl, Hid.mk_ (fun _ => by omega)⟩)
        · simp [intOf]
    · by_cases c1 : 1 ≤ n
      · by_cases c2 : n ≤ 16
        · go_wp2_with (go_at_call 98; refine (h1 _).mono ?_; rintro e w1 ⟨rfl, rfl⟩)
          have hE : classOfS n = 1 := by have := HN.out; rcases HC.out with h | h | h | h <;> omega
          go_ret
          exact ⟨by rw [hE]; rfl, rfl⟩
        · go_wp2_with (go_at_call 98; refine (h1 _).mono ?_; rintro e w1 ⟨rfl, rfl⟩)
          go_round
          · exact Or.inr (Or.inr (Or.inl ⟨rfl, Hid.mk_ (fun _ => by omega)⟩))
          · simp [intOf]
      · go_wp2_with fail
        go_round
        · exact Or.inr (Or.inr (Or.inl ⟨rfl, Hid.mk_ (fun _ => by omega)⟩))
        · simp [intOf]
    · by_cases c1 : 1 ≤ n
      · by_cases c2 : n ≤ 40
        · go_wp2_with (go_at_call 98; refine (h2 _).mono ?_; rintro e w1 ⟨rfl, rfl⟩)
          have hE : classOfS n = 2 := by have := HN.out; rcases HC.out with h | h | h | h <;> omega
          go_ret
          exact ⟨by rw [hE]; rfl, rfl⟩
        · go_wp2_with (go_at_call 98; refine (h2 _).mono ?_; rintro e w1 ⟨rfl, rfl⟩)
          go_round
          · exact Or.inr (Or.inr (Or.inr ⟨rfl, Hid.mk_ (fun _ => by omega)⟩))
          · simp [intOf]
      · go_wp2_with fail
        go_round
        · exact Or.inr (Or.inr (Or.inr ⟨rfl, Hid.mk_ (fun _ => by omega)⟩))
        · simp [intOf]
    · go_wp2_with fail
      have hE : classOfS n = -1 := by have := HN.out; rcases HC.out with h | h | h | h <;> omega
      go_ret
      exact ⟨by rw [hE]; rfl, rfl⟩
set_option maxHeartbeats 4000000 in
theorem ClassOf_spec (n : Int) (w : World) : Calls Tryz.prog 45 #[.int .i64 n] w fun e w' => e = .returned (.int .i64 (classOfS n)) ∧ w = w' := by
  have hz := fun (c : Int) W => SizeOf_spec c W
  have h0 : ∀ W, Calls Tryz.prog 90 #[.int .i64 0] W fun e w' => e = .returned (.int .i64 8) ∧ W = w' := fun W => hz 0 W
  have h1 : ∀ W, Calls Tryz.prog 90 #[.int .i64 1] W fun e w' => e = .returned (.int .i64 16) ∧ W = w' := fun W => hz 1 W
  have h2 : ∀ W, Calls Tryz.prog 90 #[.int .i64 2] W fun e w' => e = .returned (.int .i64 40) ∧ W = w' := fun W => hz 2 W
  have HC := Hid.mk_ (classOfS_cases n)
  clear hz
  go_enter Tryz.func45, Tryz.ntmps45
  go_wp2_with fail
  go_loop [3] (fun i => (i = .int .i64 0 ∧ Hid (1 ≤ n → 0 < n)) ∨ (i = .int .i64 1 ∧ Hid (1 ≤ n → 8 < n)) ∨ (i = .int .i64 2 ∧ Hid (1 ≤ n → 16 < n)) ∨ (i = .int .i64 3 ∧ Hid (1 ≤ n → 40 < n))) (fun i => 3 - (intOf i).toNat)
  case atStart => exact Or.inl ⟨rfl, Hid.mk_ (fun h => by omega)⟩
  case round =>
    rcases hrel with ⟨rfl, HN⟩ | ⟨rfl, HN⟩ | ⟨rfl, HN⟩ | ⟨rfl, HN⟩
    · by_cases c1 : inB 1 8 n = true
      · go_wp2_with (first | (go_at_call 90; refine (h0 _).mono ?_; rintro e w1 ⟨rfl, rfl⟩) | (go_at_call 21; refine (l1In_ct _ _ _ _).mono ?_; rw [c1]; rintro e w1 ⟨rfl, rfl⟩))
        have hE : classOfS n = 0 := by have := HN.out; have := inB_iff.1 c1; rcases HC.out with h | h | h | h <;> omega
        go_ret
        exact ⟨by rw [hE]; rfl, rfl⟩
      · have hD : 1 ≤ n → 8 < n := by
          intro h
          by_cases c2 : n ≤ 8
          · exact absurd (inB_iff.2 ⟨h, c2⟩) c1
          · omega
        replace c1 := (Bool.not_eq_true _).mp c1
        replace hD := Hid.mk_ hD
        go_wp2_with (first | (go_at_call 90; refine (h0 _).mono ?_; rintro e w1 ⟨rfl, rfl⟩) | (go_at_call 21; refine (l1In_ct _ _ _ _).mono ?_; rw [c1]; rintro e w1 ⟨rfl, rfl⟩))
        go_round
        · exact Or.inr (Or.inl ⟨rfl, hD⟩)
        · simp [intOf]
    · by_cases c1 : inB 1 16 n = true
      · go_wp2_with (first | (go_at_call 90; refine (h1 _).mono ?_; rintro e w1 ⟨rfl, rfl⟩) | (go_at_call 21; refine (l1In_ct _ _ _ _).mono ?_; rw [c1]; rintro e w1 ⟨rfl, rfl⟩))
        have hE : classOfS n = 1 := by have := HN.out; have := inB_iff.1 c1; rcases HC.out with h | h | h | h <;> omega
        go_ret
        exact ⟨by rw [hE]; rfl, rfl⟩
      · have hD : 1 ≤ n → 16 < n := by
          intro h
          by_cases c2 : n ≤ 16
          · exact absurd (inB_iff.2 ⟨h, c2⟩) c1
          · omega
        replace c1 := (Bool.not_eq_true _).mp c1
        replace hD := Hid.mk_ hD
        go_wp2_with (first | (go_at_call 90; refine (h1 _).mono ?_; rintro e w1 ⟨rfl, rfl⟩) | (go_at_call 21; refine (l1In_ct _ _ _ _).mono ?_; rw [c1]; rintro e w1 ⟨rfl, rfl⟩))
        go_round
        · exact Or.inr (Or.inr (Or.inl ⟨rfl, hD⟩))
        · simp [intOf]
    · by_cases c1 : inB 1 40 n = true
      · go_wp2_with (first | (go_at_call 90; refine (h2 _).mono ?_; rintro e w1 ⟨rfl, rfl⟩) | (go_at_call 21; refine (l1In_ct _ _ _ _).mono ?_; rw [c1]; rintro e w1 ⟨rfl, rfl⟩))
        have hE : classOfS n = 2 := by have := HN.out; have := inB_iff.1 c1; rcases HC.out with h | h | h | h <;> omega
        go_ret
        exact ⟨by rw [hE]; rfl, rfl⟩
      · have hD : 1 ≤ n → 40 < n := by
          intro h
          by_cases c2 : n ≤ 40
          · exact absurd (inB_iff.2 ⟨h, c2⟩) c1
          · omega
        replace c1 := (Bool.not_eq_true _).mp c1
        replace hD := Hid.mk_ hD
        go_wp2_with (first | (go_at_call 90; refine (h2 _).mono ?_; rintro e w1 ⟨rfl, rfl⟩) | (go_at_call 21; refine (l1In_ct _ _ _ _).mono ?_; rw [c1]; rintro e w1 ⟨rfl, rfl⟩))
        go_round
        · exact Or.inr (Or.inr (Or.inr ⟨rfl, hD⟩))
        · simp [intOf]
    · go_wp2_with fail
      have hE : classOfS n = -1 := by have := HN.out; rcases HC.out with h | h | h | h <;> omega
      go_ret
      exact ⟨by rw [hE]; rfl, rfl⟩
end Go.Proofs.YtpjijbonpjoamaaGreat

