/-
  Heaps: pages.
-/
import Derived.Test.YtodbkbolpcbooaaT
import Derived.Test.YtodbkbolpcbooaaL
import Derived.Deep.QuietTactic
import Derived.BigQuiet
import Derived.Deep.LoopGhost
import Derived.Deep.RegionHeld3
import Derived.Test.YtodbkbolpcbooaaN
import Derived.Test.YtodbkbolpcbooaaA
import Derived.WalkSpells
import Derived.Laws.Cover3
import Derived.Test.YtodbkbolpcbooaaB3
namespace Go.Proofs.Ytodbkbolpcbooaa
open Go.RowKit

theorem quiet_add_left {P : Program} {f : FuncId} {args : Array Value} {w : World} {a n : Nat} {v : Value}
    (h : Calls P f args (w.drewN (a + n)) fun e w' => e = .returned v ∧ w.drewN (a + n) = w') :
    Calls P f args (w.drewN (a + n)) fun e w'' => e = .returned v ∧ ∃ m, w'' = w.drewN (a + m) :=
  h.mono fun _ _ ⟨he, hm⟩ => ⟨he, n, hm.symm⟩

theorem RdL.subI {g off n c B : Nat} {w : World} {l : List Int} (h : RdL FI w B (.slice (some ⟨g, off, none⟩) n c) l) (lo m : Nat) (h1 : lo + m ≤ l.length) : RdL FI w B (.slice (some ⟨g, off + lo, none⟩) m (c - lo)) ((l.drop lo).take m) := by
  obtain ⟨A, cap, hv, a1, a2, a3⟩ := h
  simp only [Value.slice.injEq] at hv
  obtain ⟨rfl, rfl, rfl⟩ := hv
  have hlen : ((l.drop lo).take m).length = m := by rw [List.length_take, List.length_drop]; omega
  refine ⟨_, c - lo, by rw [hlen], by rw [hlen]; omega, by omega, fun hne => ?_⟩
  have hl : l ≠ [] := by
    rintro rfl
    simp at hne
  obtain ⟨g', off', hA, hg, hc⟩ := a3 hl
  injection hA with hA
  injection hA with hA1 hA2
  subst hA1 hA2
  refine ⟨_, _, rfl, hg, fun j u hu => ?_⟩
  have hu' : (flat FI l)[lo + j]? = some u := by
    have e : ∀ q : List Int, flat FI q = q.map fun x => Value.int .i64 x := fun q => by
      induction q with
      | nil => rfl
      | cons z q ih => show FI.enc z ++ flat FI q = _; rw [ih]; rfl
    rw [e] at hu ⊢
    rw [List.getElem?_map, List.getElem?_take] at hu
    split at hu
    · rw [List.getElem?_drop] at hu
      rw [List.getElem?_map]
      exact hu
    · simp at hu
  have := hc _ u hu'
  rwa [← Nat.add_assoc] at this
def gensB (h : Heap) (p : Nat) (c : Int) (k : Nat) : Bool := (List.range k).all fun i => inB 1 7 (loadN h.Bytes ((p * 64 + 8 + i * (strideOf c).toNat : Nat) : Int) 4)
def pageOkB (h : Heap) (p : Nat) : Bool :=
  if h.Class.getD p (-1) < 0 then zerosB ((h.Bytes.drop (p * 64)).take 64)
  else (h.Bytes.getD (p * 64) 0 == 171) && (h.Bytes.getD (p * 64 + 1) 0 == h.Class.getD p (-1)) && (h.Bytes.getD (p * 64 + 2) 0 == perPage (h.Class.getD p (-1))) && zerosB ((h.Bytes.drop (p * 64 + 3)).take 5) && gensB h p (h.Class.getD p (-1)) (perPage (h.Class.getD p (-1))).toNat
def heapOkB (h : Heap) : Bool := shapeB h && (List.range 6).all (pageOkB h)
theorem loadTo_sub (b : List Int) (lo m a k : Nat) (h : a + k ≤ m) (_ : lo + m ≤ b.length) : loadTo ((b.drop lo).take m) a k = loadTo b (lo + a) k := by
  induction k with
  | zero => rfl
  | succ k ih =>
    show loadTo _ a k * 256 + _ = loadTo _ (lo + a) k * 256 + _
    rw [ih (by omega)]
    congr 1
    simp only [List.getD, List.getElem?_take, List.getElem?_drop]
    rw [if_pos (by omega), Nat.add_assoc]
theorem gens_room {c : Int} (hc : inB 0 2 c = true) {i : Nat} (hi : i < (perPage c).toNat) : 8 + i * (strideOf c).toNat + 4 ≤ 64 := by
  rcases cls hc with rfl | rfl | rfl <;> simp [perPage, strideOf] at * <;> omega
theorem gensB_succ (h : Heap) (p : Nat) (c : Int) (k : Nat) : gensB h p c (k + 1) = (gensB h p c k && inB 1 7 (loadN h.Bytes ((p * 64 + 8 + k * (strideOf c).toNat : Nat) : Int) 4)) := by
  unfold gensB
  rw [List.range_succ, List.all_append]
  simp
theorem gensB_no {h : Heap} {p : Nat} {c : Int} {k n : Nat} (hk : k < n) (hn : inB 1 7 (loadN h.Bytes ((p * 64 + 8 + k * (strideOf c).toNat : Nat) : Int) 4) = false) : gensB h p c n = false := by
  unfold gensB
  rw [List.all_eq_false]
  exact ⟨k, List.mem_range.2 hk, by rw [hn]; decide⟩
theorem sub_bytes {b : List Int} (hb : b.all (inB 0 255) = true) (lo m : Nat) : ((b.drop lo).take m).all (inB 0 255) = true := by
  rw [List.all_eq_true] at hb ⊢
  exact fun x hx => hb x (List.mem_of_mem_drop (List.mem_of_mem_take hx))
