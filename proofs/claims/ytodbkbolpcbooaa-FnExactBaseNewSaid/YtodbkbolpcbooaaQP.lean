/-
  Numbers as bytes, and where they are put: plain facts.
-/
import Derived.Test.YtodbkbolpcbooaaB0
import Derived.Test.YtodbkbolpcbooaaPL
namespace Go.Proofs.Ytodbkbolpcbooaa
open Go.RowKit
def digs : Nat → Int → List Int
  | 0, _ => []
  | k + 1, n => digs k (n / 256) ++ [n % 256]
theorem digs_succ (k : Nat) (n : Int) : digs (k + 1) n = digs k (n / 256) ++ [n % 256] := rfl
theorem digs_len : ∀ (k : Nat) (n : Int), (digs k n).length = k
  | 0, _ => rfl
  | k + 1, n => by simp [digs, digs_len k]
theorem digs_at : ∀ (k : Nat) (n : Int) (j : Nat), j < k → (digs k n)[k - 1 - j]? = some (n / 256 ^ j % 256)
  | 0, _, j, h => absurd h (by omega)
  | k + 1, n, 0, _ => by
    have := digs_len k (n / 256)
    simp [digs, this]
  | k + 1, n, j + 1, h => by
    have hl := digs_len k (n / 256)
    have ih := digs_at k (n / 256) j (by omega)
    have e : k + 1 - 1 - (j + 1) = k - 1 - j := by omega
    rw [e]
    unfold digs
    rw [List.getElem?_append_left (by omega), ih, Int.ediv_ediv_of_nonneg (by omega), Int.pow_succ', Int.mul_comm]
theorem digs_bd : ∀ (k : Nat) (n : Int), (digs k n).all (inB 0 255) = true
  | 0, _ => rfl
  | k + 1, n => by
    have h1 : 0 ≤ n % 256 := Int.emod_nonneg _ (by omega)
    have h2 : n % 256 < 256 := Int.emod_lt_of_pos _ (by omega)
    unfold digs
    rw [List.all_append, digs_bd k]
    simp [inB]
    omega
def putAt (b : List Int) (a : Nat) (ds : List Int) : List Int := b.take a ++ ds ++ b.drop (a + ds.length)
def backTo (b : List Int) (a : Nat) (ds : List Int) (i : Nat) : List Int := b.take (a + i) ++ ds.drop i ++ b.drop (a + ds.length)
def putN (b : List Int) (a k n : Int) : List Int := putAt b a.toNat (digs k.toNat n)
theorem putAt_len {b : List Int} {a : Nat} {ds : List Int} (h : a + ds.length ≤ b.length) : (putAt b a ds).length = b.length := by
  simp [putAt]
  omega
theorem putAt_nil (b : List Int) (a : Nat) : putAt b a [] = b := by simp [putAt]
theorem backTo_end {b : List Int} {a : Nat} {ds : List Int} : backTo b a ds ds.length = b := by simp [backTo]
theorem backTo_zero {b : List Int} {a : Nat} {ds : List Int} : backTo b a ds 0 = putAt b a ds := by simp [backTo, putAt]
theorem backTo_len {b : List Int} {a : Nat} {ds : List Int} {i : Nat} (h : a + ds.length ≤ b.length) (hi : i ≤ ds.length) : (backTo b a ds i).length = b.length := by
  simp [backTo]
  omega
theorem putAt_step {b : List Int} {a : Nat} {ds : List Int} {i : Nat} (h : a + ds.length ≤ b.length) (hi : i < ds.length) : (putAt b a (ds.take i)).set (a + i) ds[i] = putAt b a (ds.take (i + 1)) := by
  have hl : (ds.take i).length = i := by simp; omega
  have hl2 : (ds.take (i + 1)).length = i + 1 := by simp; omega
  have hd : b.drop (a + i) = b[a + i]'(by omega) :: b.drop (a + (i + 1)) := (List.drop_eq_getElem_cons (by omega))
  unfold putAt
  rw [hl, hl2, hd, List.set_append_right _ _ (by simp; omega)]
  have e : a + i - (b.take a ++ ds.take i).length = 0 := by simp; omega
  rw [e, List.set_cons_zero]
  have ht := List.take_succ_eq_append_getElem hi
  rw [ht]
  simp only [List.append_assoc, List.cons_append, List.nil_append]
theorem backTo_step {b : List Int} {a : Nat} {ds : List Int} {i : Nat} (h : a + ds.length ≤ b.length) (hi : i < ds.length) : (backTo b a ds (i + 1)).set (a + i) ds[i] = backTo b a ds i := by
  have hd : ds.drop i = ds[i] :: ds.drop (i + 1) := List.drop_eq_getElem_cons hi
  have ht : b.take (a + (i + 1)) = b.take (a + i) ++ [b[a + i]'(by omega)] := by rw [← Nat.add_assoc, List.take_succ_eq_append_getElem (by omega)]
  unfold backTo
  rw [hd, ht, List.append_assoc, List.append_assoc, List.set_append_right _ _ (by simp; omega)]
  have e : a + i - (b.take (a + i)).length = 0 := by simp; omega
  rw [e]
  simp only [List.append_assoc, List.cons_append, List.nil_append, List.set_cons_zero]
theorem putAt_all {p : Int → Bool} {b : List Int} {a : Nat} {ds : List Int} (hb : b.all p = true) (hd : ds.all p = true) : (putAt b a ds).all p = true := by
  unfold putAt
  rw [List.all_append, List.all_append, hd, Bool.and_true, Bool.and_eq_true]
  exact ⟨List.all_eq_true.2 fun x hx => List.all_eq_true.1 hb x (List.mem_of_mem_take hx), List.all_eq_true.2 fun x hx => List.all_eq_true.1 hb x (List.mem_of_mem_drop hx)⟩
theorem putAt_get_out {b : List Int} {a : Nat} {ds : List Int} {i : Nat} (h : a + ds.length ≤ b.length) (hi : i < a ∨ a + ds.length ≤ i) : (putAt b a ds)[i]? = b[i]? := by
  unfold putAt
  rcases hi with hi | hi
  · rw [List.append_assoc, List.getElem?_append_left (by simp; omega), List.getElem?_take_of_lt hi]
  · rw [List.getElem?_append_right (by simp; omega), List.getElem?_drop]
    congr 1
    simp
    omega
theorem putAt_get_in {b : List Int} {a : Nat} {ds : List Int} {j : Nat} (h : a + ds.length ≤ b.length) (hj : j < ds.length) : (putAt b a ds)[a + j]? = ds[j]? := by
  unfold putAt
  rw [List.append_assoc, List.getElem?_append_right (by simp; omega), List.getElem?_append_left (by simp; omega)]
  congr 1
  simp
  omega
theorem loadTo_put : ∀ (k : Nat) (n : Int) (b : List Int) (a : Nat), (∀ j < k, b.getD (a + j) 0 = (digs k n).getD j 0) → 0 ≤ n → n < 256 ^ k → loadTo b a k = n
  | 0, n, _, _, _, h0, h1 => by simp at h1; simp [loadTo]; omega
  | k + 1, n, b, a, hb, h0, h1 => by
    have hl := digs_len k (n / 256)
    have h3 : n / 256 < 256 ^ k := by
      rw [Int.pow_succ] at h1
      exact Int.ediv_lt_of_lt_mul (by omega) h1
    have ih := loadTo_put k (n / 256) b a (fun j hj => by
      rw [hb j (by omega), digs_succ]
      simp [List.getD, List.getElem?_append_left, hl, hj]) (Int.ediv_nonneg h0 (by omega)) h3
    have hk := hb k (by omega)
    have e : (digs (k + 1) n).getD k 0 = n % 256 := by
      rw [digs_succ]
      simp [List.getD, hl]
    rw [e] at hk
    simp only [loadTo]
    rw [ih, hk]
    omega
end Go.Proofs.Ytodbkbolpcbooaa
