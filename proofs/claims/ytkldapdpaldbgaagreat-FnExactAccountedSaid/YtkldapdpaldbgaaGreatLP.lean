/-
  Lists of slots, memories: plain definitions and facts.
-/
import Derived.Test.YtkldapdpaldbgaaGreatB7
namespace Go.Proofs.YtkldapdpaldbgaaGreat
open Go.RowKit
def seenOk (L : List Int) : Bool := L.all (inB 0 23) && decide L.Nodup
theorem seen_nil : seenOk [] = true := rfl
theorem any_eq_mem (L : List Int) (x : Int) : (L.any fun y => y == x) = decide (x ∈ L) := by
  rw [Bool.eq_iff_iff]
  simp
theorem nodup_snoc {L : List Int} {x : Int} : (L ++ [x]).Nodup ↔ L.Nodup ∧ x ∉ L := by
  rw [List.nodup_append]
  constructor
  · rintro ⟨a, _, b⟩
    exact ⟨a, fun h => b x h x (List.mem_singleton_self x) rfl⟩
  · rintro ⟨a, b⟩
    refine ⟨a, by simp, fun u hu v hv e => ?_⟩
    rw [List.mem_singleton.1 hv] at e
    exact b (e ▸ hu)
theorem seen_step {L : List Int} {p : Nat} (hp : p < L.length) (h : seenOk (L.take p) = true) (h1 : inB 0 23 L[p] = true) (h2 : ((L.take p).any fun y => y == L[p]) = false) : seenOk (L.take (p + 1)) = true := by
  rw [any_eq_mem, decide_eq_false_iff_not] at h2
  unfold seenOk at *
  rw [List.take_succ_eq_append_getElem hp, List.all_append]
  simp only [Bool.and_eq_true, decide_eq_true_eq] at *
  exact ⟨⟨h.1, by simp [h1]⟩, nodup_snoc.2 ⟨h.2, h2⟩⟩
theorem seen_no1 {L : List Int} {p : Nat} (hp : p < L.length) (h1 : inB 0 23 L[p] = false) : seenOk L = false := by
  unfold seenOk
  have : L.all (inB 0 23) = false := List.all_eq_false.2 ⟨L[p], List.getElem_mem hp, by rw [h1]; decide⟩
  rw [this]
  rfl
theorem seen_no2 {L : List Int} {p : Nat} (hp : p < L.length) (h2 : ((L.take p).any fun y => y == L[p]) = true) : seenOk L = false := by
  rw [any_eq_mem, decide_eq_true_eq] at h2
  unfold seenOk
  have : ¬ L.Nodup := fun hn => by
    have e : L = L.take p ++ L.drop p := (List.take_append_drop p L).symm
    rw [e, List.nodup_append] at hn
    exact hn.2.2 L[p] h2 L[p] (by rw [List.drop_eq_getElem_cons hp]; exact List.mem_cons_self) rfl
  rw [decide_eq_false this, Bool.and_false]
theorem seen_perm {L M : List Int} (h : L.Perm M) : seenOk L = seenOk M := by
  unfold seenOk
  rw [Bool.eq_iff_iff]
  simp only [Bool.and_eq_true, decide_eq_true_eq, List.all_eq_true]
  exact ⟨fun ⟨a, b⟩ => ⟨fun x hx => a x (h.mem_iff.2 hx), h.nodup_iff.1 b⟩, fun ⟨a, b⟩ => ⟨fun x hx => a x (h.mem_iff.1 hx), h.nodup_iff.2 b⟩⟩
theorem flat_at {α : Type} (ll : List (List α)) (i j : Nat) (hi : i < ll.length) (hj : j < ll[i].length) : ll.flatten[totLL (ll.take i) + j]? = some ll[i][j] := by
  have e : ll.flatten = (ll.take i).flatten ++ (ll[i] ++ (ll.drop (i + 1)).flatten) := by
    rw [← List.flatten_cons, ← List.flatten_append, ← List.drop_eq_getElem_cons hi, List.take_append_drop]
  rw [e, totLL_eq, List.getElem?_append_right (by omega), Nat.add_sub_cancel_left, List.getElem?_append_left hj, List.getElem?_eq_getElem hj]
def metI (M : List Int) : List Bool := (List.range 24).map fun (s : Nat) => M.any fun z => z == (s : Int)
theorem metI_len (M : List Int) : (metI M).length = 24 := by simp [metI]
theorem metI_zero : metI [] = List.replicate 24 false := rfl
theorem metI_get (M : List Int) (s : Nat) (hs : s < 24) : (metI M)[s]? = some (M.any fun z => z == (s : Int)) := by simp [metI, hs]
theorem metI_set (L : List Int) (p s : Nat) (hp : p < L.length) (hm : L[p] = (s : Int)) : (metI (L.take p)).set s true = metI (L.take (p + 1)) := by
  apply List.ext_getElem?
  intro k
  by_cases hk : k < 24
  · rw [List.getElem?_set, metI_get _ _ hk, metI_get _ _ hk, List.take_succ_eq_append_getElem hp, List.any_append, metI_len]
    by_cases hks : s = k
    · subst hks
      simp [hm, hk]
    · have : ((s : Int) == (k : Int)) = false := by simp; omega
      simp only [if_neg hks, List.any_cons, List.any_nil, hm, this, Bool.or_false]
  · rw [List.getElem?_eq_none (by simp [metI_len]; omega), List.getElem?_eq_none (by simp [metI_len]; omega)]
def shortB (l : List Int) : Bool := decide (l.length ≤ 2)
def listsOkB (x : Lists) : Bool := (x.Global.length == 3) && (x.Own.length == 9) && x.Own.all shortB && seenOk (allL x)
theorem lists_rows (x : Lists) : seenOk (x.Own ++ x.Global).flatten = seenOk (allL x) := by
  refine seen_perm ?_
  unfold allL
  rw [List.flatten_append]
  exact List.perm_append_comm
theorem all_step {α : Type} {p : α → Bool} {l : List α} {i : Nat} (hi : i < l.length) (h : (l.take i).all p = true) (hp : p l[i] = true) : (l.take (i + 1)).all p = true := by
  rw [List.take_succ_eq_append_getElem hi, List.all_append, h]
  simp [hp]
theorem all_no {α : Type} {p : α → Bool} {l : List α} {i : Nat} (hi : i < l.length) (hp : p l[i] = false) : l.all p = false :=
  List.all_eq_false.2 ⟨l[i], List.getElem_mem hi, by rw [hp]; decide⟩
def fitsB (h : Heap) (c s : Int) : Bool := (classInB h s == c) && decide (genInB h s ≤ 6)
def memOkB (m : Mem) : Bool := heapOkB m.Heap && listsOkB m.Lists && ((List.range 3).all fun c => (m.Lists.Global.getD c []).all (fitsB m.Heap c)) && ((List.range 9).all fun k => (m.Lists.Own.getD k []).all (fitsB m.Heap ((k % 3 : Nat) : Int)))
def stateB (m : Mem) (s : Int) : Int := if classInB m.Heap s < 0 then 0 else if onListB m.Lists s = true then 1 else if 6 < genInB m.Heap s then 2 else 3
def handleOkB (h : Int) : Bool := decide (32 ≤ h) && decide (h ≤ 223) && decide (h % 32 < 24)
def liveB (m : Mem) (h : Int) : Bool := handleOkB h && (stateB m (h % 32) == 3) && (genInB m.Heap (h % 32) == h / 32)
theorem heap_shape {h : Heap} (k : heapOkB h = true) : shapeB h = true := by
  unfold heapOkB at k
  simp only [Bool.and_eq_true] at k
  exact k.1
theorem mem_heap {m : Mem} (k : memOkB m = true) : heapOkB m.Heap = true := by
  unfold memOkB at k
  simp only [Bool.and_eq_true] at k
  exact k.1.1.1
theorem mem_lists {m : Mem} (k : memOkB m = true) : listsOkB m.Lists = true := by
  unfold memOkB at k
  simp only [Bool.and_eq_true] at k
  exact k.1.1.2
end Go.Proofs.YtkldapdpaldbgaaGreat
