/-
  Lists valid: the program.
-/
import Derived.Test.YtodbkbolpcbooaaT
import Derived.Test.YtodbkbolpcbooaaL
import Derived.Deep.QuietTactic
import Derived.BigQuiet
import Derived.Deep.LoopGhost
import Derived.Deep.RegionHeld3
import Derived.Test.YtodbkbolpcbooaaN
import Derived.Test.YtodbkbolpcbooaaA
import Derived.WalkSpells
import Derived.Laws.Cover3
import Derived.Test.YtodbkbolpcbooaaB9
import Derived.Deep.WholeRow
namespace Go.Proofs.Ytodbkbolpcbooaa
open Go.RowKit
def FB : FT Bool := { n := 1, enc := fun b => [.bool b], dflt := false, len := fun _ => rfl, one := by intro x u hu; simp at hu; subst hu; rfl, pos := by decide, small := by decide }
theorem wpList_store_new_at {P : Program} {ops : Array Oper} {rest : List Oper} {o : Oper} {a : Act} {w : World} {Q : Exit → Act → World → Prop} (hgd : o.guard = none) (ty : TypeId) (x y : Operand) (ho : o.op = .store ty x y) (c : Array Value) (n : Nat) (hn : n = w.heap.size)
    (hx : a.eval x = .pointer (some ⟨n, 0, none⟩)) (hy : a.eval y = .agg c) (hi : (P.info? ty).map (·.size) = some c.size) (h1 : c.all (·.oneCell') = true)
    (h : wpList P ops Q rest (a.put o.dst undef) (w.alloc (.cells c ty))) : wpList P ops Q (o :: rest) a (w.alloc (.cells c ty)) := by
  subst hn
  refine wpList_store_row hgd ty x y ho w.heap.size c hx hy ty c (heap_alloc_last w _) hi rfl h1 ?_
  rw [World.setRow_alloc_new]
  exact h
theorem rows_cat {w : World} {B1 : Nat} {v1 v2 : Value} {T1 T2 : List SV} {gl ow : List (List Int)} (h1 : RdLL FI w B1 v1 T1 gl) (h2 : RdLL FI w B1 v2 T2 ow) (i : Nat) (hi : i < (ow ++ gl).length) :
    ∃ s : SV, (T2 ++ T1)[i]? = some s ∧ RdL FI w B1 (.slice s.a s.len s.cap) (ow ++ gl)[i] := by
  have e1 := h1.len
  have e2 := h2.len
  rw [List.length_append] at hi
  by_cases hlt : i < ow.length
  · have ht : i < T2.length := by omega
    refine ⟨T2[i], by rw [List.getElem?_append_left ht, List.getElem?_eq_getElem ht], ?_⟩
    rw [List.getElem_append_left hlt]
    exact h2.inner i _ _ (List.getElem?_eq_getElem ht) (List.getElem?_eq_getElem hlt)
  · have ht : i - T2.length < T1.length := by omega
    refine ⟨T1[i - T2.length], by rw [List.getElem?_append_right (by omega), List.getElem?_eq_getElem ht], ?_⟩
    rw [List.getElem_append_right (by omega)]
    refine h1.inner (i - T2.length) _ _ (List.getElem?_eq_getElem ht) ?_
    rw [List.getElem?_eq_getElem (by omega)]
    congr 2
    omega