/-
  Mem: compared, made, measured, marked.
-/
import Derived.Test.YtkldapdpaldbgaaGreatT
import Derived.Test.YtkldapdpaldbgaaGreatL
import Derived.Deep.QuietTactic
import Derived.BigQuiet
import Derived.Deep.LoopGhost
import Derived.Deep.RegionHeld3
import Derived.Test.YtkldapdpaldbgaaGreatN
import Derived.Test.YtkldapdpaldbgaaGreatA
import Derived.WalkSpells
import Derived.Laws.Cover3
import Derived.Test.YtkldapdpaldbgaaGreatEL
import Derived.Test.YtkldapdpaldbgaaGreatWH
import Derived.Test.YtkldapdpaldbgaaGreatWL
namespace Go.Proofs.YtkldapdpaldbgaaGreat
open Go.RowKit

set_option maxRecDepth 100000 in
set_option maxHeartbeats 4000000 in
theorem toMem_ct (w : World) (H : HMem) (x : Mem) (h : RdMem w w.heap.size H x) (hs : sizeMem x ≤ 1048576) :
    Calls Tryz.prog 85 #[.agg #[.slice H.Heap.Bytes.a H.Heap.Bytes.len H.Heap.Bytes.cap, .slice H.Heap.Class.a H.Heap.Class.len H.Heap.Class.cap, .slice H.Lists.Global.a H.Lists.Global.len H.Lists.Global.cap, .slice H.Lists.Own.a H.Lists.Own.len H.Lists.Own.cap]] w fun e w' => ∃ H' : HMem, e = .returned (H'.val x) ∧ OwMem w' H' x ∧ (∀ g ∈ H'.foot, w.heap.size ≤ g) ∧ Below w.heap.size w w' := by
  have hs0 : sizeHeap x.Heap ≤ 1048576 := by unfold sizeMem at hs; omega
  have hs1 : sizeLists x.Lists ≤ 1048576 := by unfold sizeMem at hs; omega
  clear hs
  have ba0 : Box (((w.alloc (.cells #[.slice H.Heap.Bytes.a H.Heap.Bytes.len H.Heap.Bytes.cap, .slice H.Heap.Class.a H.Heap.Class.len H.Heap.Class.cap, .slice H.Lists.Global.a H.Lists.Global.len H.Lists.Global.cap, .slice H.Lists.Own.a H.Lists.Own.len H.Lists.Own.cap] 51)).alloc (.cells #[.slice none 0 0, .slice none 0 0, .slice none 0 0, .slice none 0 0] 31)).alloc (.cells #[.slice none 0 0, .slice none 0 0, .slice none 0 0, .slice none 0 0] 31)) w.heap.size [.slice H.Heap.Bytes.a H.Heap.Bytes.len H.Heap.Bytes.cap, .slice H.Heap.Class.a H.Heap.Class.len H.Heap.Class.cap, .slice H.Lists.Global.a H.Lists.Global.len H.Lists.Global.cap, .slice H.Lists.Own.a H.Lists.Own.len H.Lists.Own.cap] := ((Box.new w #[.slice H.Heap.Bytes.a H.Heap.Bytes.len H.Heap.Bytes.cap, .slice H.Heap.Class.a H.Heap.Class.len H.Heap.Class.cap, .slice H.Lists.Global.a H.Lists.Global.len H.Lists.Global.cap, .slice H.Lists.Own.a H.Lists.Own.len H.Lists.Own.cap] 51).alloc _).alloc _
  have br0 : Box (((w.alloc (.cells #[.slice H.Heap.Bytes.a H.Heap.Bytes.len H.Heap.Bytes.cap, .slice H.Heap.Class.a H.Heap.Class.len H.Heap.Class.cap, .slice H.Lists.Global.a H.Lists.Global.len H.Lists.Global.cap, .slice H.Lists.Own.a H.Lists.Own.len H.Lists.Own.cap] 51)).alloc (.cells #[.slice none 0 0, .slice none 0 0, .slice none 0 0, .slice none 0 0] 31)).alloc (.cells #[.slice none 0 0, .slice none 0 0, .slice none 0 0, .slice none 0 0] 31)) (w.heap.size + 1) [.slice none 0 0, .slice none 0 0, .slice none 0 0, .slice none 0 0] := by have a := (Box.new (w.alloc (.cells #[.slice H.Heap.Bytes.a H.Heap.Bytes.len H.Heap.Bytes.cap, .slice H.Heap.Class.a H.Heap.Class.len H.Heap.Class.cap, .slice H.Lists.Global.a H.Lists.Global.len H.Lists.Global.cap, .slice H.Lists.Own.a H.Lists.Own.len H.Lists.Own.cap] 51)) #[.slice none 0 0, .slice none 0 0, .slice none 0 0, .slice none 0 0] 31).alloc (.cells #[.slice none 0 0, .slice none 0 0, .slice none 0 0, .slice none 0 0] 31); simpa using a
  have bo0 : Box (((w.alloc (.cells #[.slice H.Heap.Bytes.a H.Heap.Bytes.len H.Heap.Bytes.cap, .slice H.Heap.Class.a H.Heap.Class.len H.Heap.Class.cap, .slice H.Lists.Global.a H.Lists.Global.len H.Lists.Global.cap, .slice H.Lists.Own.a H.Lists.Own.len H.Lists.Own.cap] 51)).alloc (.cells #[.slice none 0 0, .slice none 0 0, .slice none 0 0, .slice none 0 0] 31)).alloc (.cells #[.slice none 0 0, .slice none 0 0, .slice none 0 0, .slice none 0 0] 31)) (w.heap.size + 1 + 1) [.slice none 0 0, .slice none 0 0, .slice none 0 0, .slice none 0 0] := by have a := Box.new ((w.alloc (.cells #[.slice H.Heap.Bytes.a H.Heap.Bytes.len H.Heap.Bytes.cap, .slice H.Heap.Class.a H.Heap.Class.len H.Heap.Class.cap, .slice H.Lists.Global.a H.Lists.Global.len H.Lists.Global.cap, .slice H.Lists.Own.a H.Lists.Own.len H.Lists.Own.cap] 51)).alloc (.cells #[.slice none 0 0, .slice none 0 0, .slice none 0 0, .slice none 0 0] 31)) #[.slice none 0 0, .slice none 0 0, .slice none 0 0, .slice none 0 0] 31; simpa using a
  have hB0 : Below w.heap.size w (((w.alloc (.cells #[.slice H.Heap.Bytes.a H.Heap.Bytes.len H.Heap.Bytes.cap, .slice H.Heap.Class.a H.Heap.Class.len H.Heap.Class.cap, .slice H.Lists.Global.a H.Lists.Global.len H.Lists.Global.cap, .slice H.Lists.Own.a H.Lists.Own.len H.Lists.Own.cap] 51)).alloc (.cells #[.slice none 0 0, .slice none 0 0, .slice none 0 0, .slice none 0 0] 31)).alloc (.cells #[.slice none 0 0, .slice none 0 0, .slice none 0 0, .slice none 0 0] 31)) := by repeat (first | exact Below.refl _ _ | refine Below.alloc ?_ (by simp <;> omega) _ | refine below_grow_of ?_ (by simp <;> omega) _ _ | refine Below.drew ?_ | refine below_drewN ?_ _)
  go_enter Tryz.func85, Tryz.ntmps85
  go_wp2_with fail
  refine (toHeap_ct _ H.Heap x.Heap (rdHeap_up h.Heap (hB0.trans (Chg.below (F := [(w.heap.size + 1 + 1)]) (by (repeat (with_reducible refine Chg.set_ ?_ (by simp) _)); with_reducible exact Chg.refl _ _) (by first | exact hB0.size | omega) (by intro g hg; have := List.mem_singleton.1 hg; omega)))) hs0).mono ?_
  rintro e w1 ⟨K0, rfl, ho0, hf0, hb0⟩
  have hf0' : ∀ g ∈ K0.foot, (w.heap.size + 1 + 1) < g := fun g hg => by have a := hf0 g hg; have b := bo0.lt; (try simp at a b); omega
  clear hf0
  have ba1 : Box w1 w.heap.size [.slice H.Heap.Bytes.a H.Heap.Bytes.len H.Heap.Bytes.cap, .slice H.Heap.Class.a H.Heap.Class.len H.Heap.Class.cap, .slice H.Lists.Global.a H.Lists.Global.len H.Lists.Global.cap, .slice H.Lists.Own.a H.Lists.Own.len H.Lists.Own.cap] := Box.below (ba0.chg (F := [(w.heap.size + 1 + 1)]) (by (repeat (with_reducible refine Chg.set_ ?_ (by simp) _)); with_reducible exact Chg.refl _ _) (by simp <;> omega)) hb0
  have br1 : Box w1 (w.heap.size + 1) [.slice none 0 0, .slice none 0 0, .slice none 0 0, .slice none 0 0] := Box.below (br0.chg (F := [(w.heap.size + 1 + 1)]) (by (repeat (with_reducible refine Chg.set_ ?_ (by simp) _)); with_reducible exact Chg.refl _ _) (by simp <;> omega)) hb0
  have bo1 : Box w1 (w.heap.size + 1 + 1) [.slice none 0 0, .slice none 0 0, .slice none 0 0, .slice none 0 0] := Box.below bo0 hb0
  have hC1 : Chg [(w.heap.size + 1 + 1)] (((w.alloc (.cells #[.slice H.Heap.Bytes.a H.Heap.Bytes.len H.Heap.Bytes.cap, .slice H.Heap.Class.a H.Heap.Class.len H.Heap.Class.cap, .slice H.Lists.Global.a H.Lists.Global.len H.Lists.Global.cap, .slice H.Lists.Own.a H.Lists.Own.len H.Lists.Own.cap] 51)).alloc (.cells #[.slice none 0 0, .slice none 0 0, .slice none 0 0, .slice none 0 0] 31)).alloc (.cells #[.slice none 0 0, .slice none 0 0, .slice none 0 0, .slice none 0 0] 31)) w1 := Chg.trans (by (repeat (with_reducible refine Chg.set_ ?_ (by simp) _)); with_reducible exact Chg.refl _ _) (Chg.of_below hb0)
  have hB1 : Below w.heap.size w w1 := hB0.trans (hC1.below hB0.size (by intro g hg; have := List.mem_singleton.1 hg; omega))
  clear hb0 ba0 br0 bo0 hB0 hC1
  have qa0 := ba1.cell 0 _ rfl
  have qa1 := ba1.cell 1 _ rfl
  have qa2 := ba1.cell 2 _ rfl
  have qa3 := ba1.cell 3 _ rfl
  have qo0 := bo1.cell 0 _ rfl
  have qo1 := bo1.cell 1 _ rfl
  have qo2 := bo1.cell 2 _ rfl
  have qo3 := bo1.cell 3 _ rfl
  have qf := bo1.fro
  have ql1 := ba1.lt
  have ql2 := bo1.lt
  go_wp2_with fail
  refine (toLists_ct _ H.Lists x.Lists (rdLists_up h.Lists (hB1.trans (Chg.below (F := [(w.heap.size + 1 + 1)]) (by (repeat (with_reducible refine Chg.set_ ?_ (by simp) _)); with_reducible exact Chg.refl _ _) (by first | exact hB1.size | omega) (by intro g hg; have := List.mem_singleton.1 hg; omega)))) hs1).mono ?_
  rintro e w2 ⟨K1, rfl, ho1, hf1, hb1⟩
  clear qa0 qa1 qa2 qa3 qo0 qo1 qo2 qo3 qf ql1 ql2
  have hd0_1 : ∀ g ∈ K0.foot, g ∉ K1.foot := fun g hg hm => by have a := hf1 g hm; have b := ho0.lt g hg; (try simp at a); omega
  have hf1' : ∀ g ∈ K1.foot, (w.heap.size + 1 + 1) < g := fun g hg => by have a := hf1 g hg; have b := bo1.lt; (try simp at a b); omega
  clear hf1
  have ba2 : Box w2 w.heap.size [.slice H.Heap.Bytes.a H.Heap.Bytes.len H.Heap.Bytes.cap, .slice H.Heap.Class.a H.Heap.Class.len H.Heap.Class.cap, .slice H.Lists.Global.a H.Lists.Global.len H.Lists.Global.cap, .slice H.Lists.Own.a H.Lists.Own.len H.Lists.Own.cap] := Box.below (ba1.chg (F := [(w.heap.size + 1 + 1)]) (by (repeat (with_reducible refine Chg.set_ ?_ (by simp) _)); with_reducible exact Chg.refl _ _) (by simp <;> omega)) hb1
  have br2 : Box w2 (w.heap.size + 1) [.slice none 0 0, .slice none 0 0, .slice none 0 0, .slice none 0 0] := Box.below (br1.chg (F := [(w.heap.size + 1 + 1)]) (by (repeat (with_reducible refine Chg.set_ ?_ (by simp) _)); with_reducible exact Chg.refl _ _) (by simp <;> omega)) hb1
  have bo2 : Box w2 (w.heap.size + 1 + 1) [.slice K0.Bytes.a K0.Bytes.len K0.Bytes.cap, .slice K0.Class.a K0.Class.len K0.Class.cap, .slice none 0 0, .slice none 0 0] := Box.below ((bo1.set 0 (.slice K0.Bytes.a K0.Bytes.len K0.Bytes.cap)).set 1 (.slice K0.Class.a K0.Class.len K0.Class.cap)) hb1
  have hC2 : Chg [(w.heap.size + 1 + 1)] w1 w2 := Chg.trans (by (repeat (with_reducible refine Chg.set_ ?_ (by simp) _)); with_reducible exact Chg.refl _ _) (Chg.of_below hb1)
  have hB2 : Below w.heap.size w w2 := hB1.trans (hC2.below hB1.size (by intro g hg; have := List.mem_singleton.1 hg; omega))
  replace ho0 := ho0.chg hC2 (by intro g hg hm; have a := hf0' g hg; have b := List.mem_singleton.1 hm; omega)
  clear hb1 ba1 br1 bo1 hB1 hC2
  have qa0 := ba2.cell 0 _ rfl
  have qa1 := ba2.cell 1 _ rfl
  have qa2 := ba2.cell 2 _ rfl
  have qa3 := ba2.cell 3 _ rfl
  have qo0 := bo2.cell 0 _ rfl
  have qo1 := bo2.cell 1 _ rfl
  have qo2 := bo2.cell 2 _ rfl
  have qo3 := bo2.cell 3 _ rfl
  have qf := bo2.fro
  have qg := br2.fro
  have qr0 := br2.cell 0 _ rfl
  have qr1 := br2.cell 1 _ rfl
  have qr2 := br2.cell 2 _ rfl
  have qr3 := br2.cell 3 _ rfl
  have ql1 := ba2.lt
  have ql2 := bo2.lt
  go_wp2
  refine bodyPost_ret (v := .agg #[.slice K0.Bytes.a K0.Bytes.len K0.Bytes.cap, .slice K0.Class.a K0.Class.len K0.Class.cap, .slice K1.Global.a K1.Global.len K1.Global.cap, .slice K1.Own.a K1.Own.len K1.Own.cap]) (by simp [results, Tryz.results85, go_sem, *]) rfl ⟨⟨K0, K1⟩, rfl, ⟨?_, ?_, hd0_1⟩, ?_, ?_⟩
  · exact ho0.chg (F := [(w.heap.size + 1 + 1), (w.heap.size + 1)]) (by (repeat (with_reducible refine Chg.set_ ?_ (by simp) _)); with_reducible exact Chg.refl _ _) (by intro g hg hm; have a := hf0' g hg; simp at hm; omega)
  · exact ho1.chg (F := [(w.heap.size + 1 + 1), (w.heap.size + 1)]) (by (repeat (with_reducible refine Chg.set_ ?_ (by simp) _)); with_reducible exact Chg.refl _ _) (by intro g hg hm; have a := hf1' g hg; simp at hm; omega)
  · intro g hg
    rcases HMem.mem_foot.1 hg with hg | hg
    · have a := hf0' g hg
      omega
    · have a := hf1' g hg
      omega
  · exact hB2.trans (Chg.below (F := [(w.heap.size + 1 + 1), (w.heap.size + 1)]) (by (repeat (with_reducible refine Chg.set_ ?_ (by simp) _)); with_reducible exact Chg.refl _ _) hB2.size (by intro g hg; simp at hg; omega))

set_option maxRecDepth 100000 in
set_option maxHeartbeats 4000000 in
theorem eqMem_ct (w : World) (H1 H2 : HMem) (x : Mem) (h1 : RdMem w w.heap.size H1 x) (h2 : RdMem w w.heap.size H2 x) (hs : sizeMem x ≤ 1073741824) :
    Calls Tryz.prog 96 #[.agg #[.slice H1.Heap.Bytes.a H1.Heap.Bytes.len H1.Heap.Bytes.cap, .slice H1.Heap.Class.a H1.Heap.Class.len H1.Heap.Class.cap, .slice H1.Lists.Global.a H1.Lists.Global.len H1.Lists.Global.cap, .slice H1.Lists.Own.a H1.Lists.Own.len H1.Lists.Own.cap], .agg #[.slice H2.Heap.Bytes.a H2.Heap.Bytes.len H2.Heap.Bytes.cap, .slice H2.Heap.Class.a H2.Heap.Class.len H2.Heap.Class.cap, .slice H2.Lists.Global.a H2.Lists.Global.len H2.Lists.Global.cap, .slice H2.Lists.Own.a H2.Lists.Own.len H2.Lists.Own.cap]] w fun e w' => e = .returned (.bool true) ∧ Below w.heap.size w w' := by
  have hs0 : sizeHeap x.Heap ≤ 1073741824 := by unfold sizeMem at hs; omega
  have hs1 : sizeLists x.Lists ≤ 1073741824 := by unfold sizeMem at hs; omega
  clear hs
  have ba0 : Box ((w.alloc (.cells #[.slice H1.Heap.Bytes.a H1.Heap.Bytes.len H1.Heap.Bytes.cap, .slice H1.Heap.Class.a H1.Heap.Class.len H1.Heap.Class.cap, .slice H1.Lists.Global.a H1.Lists.Global.len H1.Lists.Global.cap, .slice H1.Lists.Own.a H1.Lists.Own.len H1.Lists.Own.cap] 31)).alloc (.cells #[.slice H2.Heap.Bytes.a H2.Heap.Bytes.len H2.Heap.Bytes.cap, .slice H2.Heap.Class.a H2.Heap.Class.len H2.Heap.Class.cap, .slice H2.Lists.Global.a H2.Lists.Global.len H2.Lists.Global.cap, .slice H2.Lists.Own.a H2.Lists.Own.len H2.Lists.Own.cap] 31)) w.heap.size [.slice H1.Heap.Bytes.a H1.Heap.Bytes.len H1.Heap.Bytes.cap, .slice H1.Heap.Class.a H1.Heap.Class.len H1.Heap.Class.cap, .slice H1.Lists.Global.a H1.Lists.Global.len H1.Lists.Global.cap, .slice H1.Lists.Own.a H1.Lists.Own.len H1.Lists.Own.cap] := (Box.new w #[.slice H1.Heap.Bytes.a H1.Heap.Bytes.len H1.Heap.Bytes.cap, .slice H1.Heap.Class.a H1.Heap.Class.len H1.Heap.Class.cap, .slice H1.Lists.Global.a H1.Lists.Global.len H1.Lists.Global.cap, .slice H1.Lists.Own.a H1.Lists.Own.len H1.Lists.Own.cap] 31).alloc _
  have bb0 : Box ((w.alloc (.cells #[.slice H1.Heap.Bytes.a H1.Heap.Bytes.len H1.Heap.Bytes.cap, .slice H1.Heap.Class.a H1.Heap.Class.len H1.Heap.Class.cap, .slice H1.Lists.Global.a H1.Lists.Global.len H1.Lists.Global.cap, .slice H1.Lists.Own.a H1.Lists.Own.len H1.Lists.Own.cap] 31)).alloc (.cells #[.slice H2.Heap.Bytes.a H2.Heap.Bytes.len H2.Heap.Bytes.cap, .slice H2.Heap.Class.a H2.Heap.Class.len H2.Heap.Class.cap, .slice H2.Lists.Global.a H2.Lists.Global.len H2.Lists.Global.cap, .slice H2.Lists.Own.a H2.Lists.Own.len H2.Lists.Own.cap] 31)) (w.heap.size + 1) [.slice H2.Heap.Bytes.a H2.Heap.Bytes.len H2.Heap.Bytes.cap, .slice H2.Heap.Class.a H2.Heap.Class.len H2.Heap.Class.cap, .slice H2.Lists.Global.a H2.Lists.Global.len H2.Lists.Global.cap, .slice H2.Lists.Own.a H2.Lists.Own.len H2.Lists.Own.cap] := by have a := Box.new (w.alloc (.cells #[.slice H1.Heap.Bytes.a H1.Heap.Bytes.len H1.Heap.Bytes.cap, .slice H1.Heap.Class.a H1.Heap.Class.len H1.Heap.Class.cap, .slice H1.Lists.Global.a H1.Lists.Global.len H1.Lists.Global.cap, .slice H1.Lists.Own.a H1.Lists.Own.len H1.Lists.Own.cap] 31)) #[.slice H2.Heap.Bytes.a H2.Heap.Bytes.len H2.Heap.Bytes.cap, .slice H2.Heap.Class.a H2.Heap.Class.len H2.Heap.Class.cap, .slice H2.Lists.Global.a H2.Lists.Global.len H2.Lists.Global.cap, .slice H2.Lists.Own.a H2.Lists.Own.len H2.Lists.Own.cap] 31; simpa using a
  have hB0 : Below w.heap.size w ((w.alloc (.cells #[.slice H1.Heap.Bytes.a H1.Heap.Bytes.len H1.Heap.Bytes.cap, .slice H1.Heap.Class.a H1.Heap.Class.len H1.Heap.Class.cap, .slice H1.Lists.Global.a H1.Lists.Global.len H1.Lists.Global.cap, .slice H1.Lists.Own.a H1.Lists.Own.len H1.Lists.Own.cap] 31)).alloc (.cells #[.slice H2.Heap.Bytes.a H2.Heap.Bytes.len H2.Heap.Bytes.cap, .slice H2.Heap.Class.a H2.Heap.Class.len H2.Heap.Class.cap, .slice H2.Lists.Global.a H2.Lists.Global.len H2.Lists.Global.cap, .slice H2.Lists.Own.a H2.Lists.Own.len H2.Lists.Own.cap] 31)) := by repeat (first | exact Below.refl _ _ | refine Below.alloc ?_ (by simp <;> omega) _ | refine below_grow_of ?_ (by simp <;> omega) _ _ | refine Below.drew ?_ | refine below_drewN ?_ _)
  go_enter Tryz.func96, Tryz.ntmps96
  go_wp2_with fail
  refine (eqHeap_ct _ H1.Heap H2.Heap x.Heap (rdHeap_up h1.Heap hB0) (rdHeap_up h2.Heap hB0) hs0).mono ?_
  rintro e w1 ⟨rfl, hb0⟩
  have ba1 := ba0.below hb0
  have bb1 := bb0.below hb0
  have hB1 := hB0.trans (hb0.mono hB0.size)
  clear ba0 bb0 hb0 hB0
  have qa0 := ba1.cell 0 _ rfl
  have qb0 := bb1.cell 0 _ rfl
  have qa1 := ba1.cell 1 _ rfl
  have qb1 := bb1.cell 1 _ rfl
  have qa2 := ba1.cell 2 _ rfl
  have qb2 := bb1.cell 2 _ rfl
  have qa3 := ba1.cell 3 _ rfl
  have qb3 := bb1.cell 3 _ rfl
  go_wp2_with fail
  refine (eqLists_ct _ H1.Lists H2.Lists x.Lists (rdLists_up h1.Lists hB1) (rdLists_up h2.Lists hB1) hs1).mono ?_
  rintro e w2 ⟨rfl, hb1⟩
  have ba2 := ba1.below hb1
  have bb2 := bb1.below hb1
  have hB2 := hB1.trans (hb1.mono hB1.size)
  clear ba1 bb1 hb1 hB1 qa0 qb0 qa1 qb1 qa2 qb2 qa3 qb3
  have qa0 := ba2.cell 0 _ rfl
  have qb0 := bb2.cell 0 _ rfl
  have qa1 := ba2.cell 1 _ rfl
  have qb1 := bb2.cell 1 _ rfl
  have qa2 := ba2.cell 2 _ rfl
  have qb2 := bb2.cell 2 _ rfl
  have qa3 := ba2.cell 3 _ rfl
  have qb3 := bb2.cell 3 _ rfl
  go_wp2
  go_ret
  exact ⟨rfl, hB2⟩

set_option maxRecDepth 100000 in
set_option maxHeartbeats 4000000 in
theorem szMem_ct (w : World) (H : HMem) (x : Mem) (k : Nat) (h : RdMem w w.heap.size H x) (hk : k ≤ 1073741824) :
    Calls Tryz.prog 82 #[.agg #[.slice H.Heap.Bytes.a H.Heap.Bytes.len H.Heap.Bytes.cap, .slice H.Heap.Class.a H.Heap.Class.len H.Heap.Class.cap, .slice H.Lists.Global.a H.Lists.Global.len H.Lists.Global.cap, .slice H.Lists.Own.a H.Lists.Own.len H.Lists.Own.cap], .int .i64 k] w fun e w' => e = .returned (.int .i64 (leftOf k (sizeMem x))) ∧ Below w.heap.size w w' := by
  have ba0 : Box (w.alloc (.cells #[.slice H.Heap.Bytes.a H.Heap.Bytes.len H.Heap.Bytes.cap, .slice H.Heap.Class.a H.Heap.Class.len H.Heap.Class.cap, .slice H.Lists.Global.a H.Lists.Global.len H.Lists.Global.cap, .slice H.Lists.Own.a H.Lists.Own.len H.Lists.Own.cap] 51)) w.heap.size [.slice H.Heap.Bytes.a H.Heap.Bytes.len H.Heap.Bytes.cap, .slice H.Heap.Class.a H.Heap.Class.len H.Heap.Class.cap, .slice H.Lists.Global.a H.Lists.Global.len H.Lists.Global.cap, .slice H.Lists.Own.a H.Lists.Own.len H.Lists.Own.cap] := Box.new w #[.slice H.Heap.Bytes.a H.Heap.Bytes.len H.Heap.Bytes.cap, .slice H.Heap.Class.a H.Heap.Class.len H.Heap.Class.cap, .slice H.Lists.Global.a H.Lists.Global.len H.Lists.Global.cap, .slice H.Lists.Own.a H.Lists.Own.len H.Lists.Own.cap] 51
  have hB0 : Below w.heap.size w (w.alloc (.cells #[.slice H.Heap.Bytes.a H.Heap.Bytes.len H.Heap.Bytes.cap, .slice H.Heap.Class.a H.Heap.Class.len H.Heap.Class.cap, .slice H.Lists.Global.a H.Lists.Global.len H.Lists.Global.cap, .slice H.Lists.Own.a H.Lists.Own.len H.Lists.Own.cap] 51)) := by repeat (first | exact Below.refl _ _ | refine Below.alloc ?_ (by simp <;> omega) _ | refine below_grow_of ?_ (by simp <;> omega) _ _ | refine Below.drew ?_ | refine below_drewN ?_ _)
  have HE := Hid.mk_ (show sizeMem x = sizeHeap x.Heap + sizeLists x.Lists from rfl)
  go_enter Tryz.func82, Tryz.ntmps82
  go_wp2_with fail
  refine (szHeap_ct _ H.Heap x.Heap (k) (rdHeap_up h.Heap hB0) (by omega)).mono ?_
  rintro e w1 ⟨rfl, hb0⟩
  have ba1 := ba0.below hb0
  have hB1 := hB0.trans (hb0.mono hB0.size)
  clear ba0 hb0 hB0
  by_cases hh0 : sizeHeap x.Heap ≤ k
  case neg =>
    rw [leftOf_neg hh0]
    have HX := Hid.mk_ (show leftOf k (sizeMem x) = -1 by rw [HE.out]; exact leftOf_neg (by omega))
    clear hh0
    go_wp2
    go_ret
    exact ⟨ret_i64 HX.out.symm, hB1⟩
  rw [leftOf_nat hh0]
  have hn0 : ¬ (((k - sizeHeap x.Heap : Nat) : Nat) : Int) < 0 := by omega
  have qa0 := ba1.cell 0 _ rfl
  have qa1 := ba1.cell 1 _ rfl
  have qa2 := ba1.cell 2 _ rfl
  have qa3 := ba1.cell 3 _ rfl
  go_wp2_with fail
  refine (szLists_ct _ H.Lists x.Lists (k - sizeHeap x.Heap) (rdLists_up h.Lists hB1) (by omega)).mono ?_
  rintro e w2 ⟨rfl, hb1⟩
  have ba2 := ba1.below hb1
  have hB2 := hB1.trans (hb1.mono hB1.size)
  clear ba1 hb1 hB1 qa0 qa1 qa2 qa3
  by_cases hh1 : sizeLists x.Lists ≤ k - sizeHeap x.Heap
  case neg =>
    rw [leftOf_neg hh1]
    have HX := Hid.mk_ (show leftOf k (sizeMem x) = -1 by rw [HE.out]; exact leftOf_neg (by omega))
    clear hh1
    go_wp2
    go_ret
    exact ⟨ret_i64 HX.out.symm, hB2⟩
  rw [leftOf_nat hh1]
  have hn1 : ¬ (((k - sizeHeap x.Heap - sizeLists x.Lists : Nat) : Nat) : Int) < 0 := by omega
  have qa0 := ba2.cell 0 _ rfl
  have qa1 := ba2.cell 1 _ rfl
  have qa2 := ba2.cell 2 _ rfl
  have qa3 := ba2.cell 3 _ rfl
  have HX := Hid.mk_ (show leftOf k (sizeMem x) = ((k - sizeHeap x.Heap - sizeLists x.Lists : Nat) : Int) by rw [HE.out, leftOf_nat (by omega)]; omega)
  go_wp2
  go_ret
  exact ⟨ret_i64 HX.out.symm, hB2⟩

set_option maxRecDepth 100000 in
set_option maxHeartbeats 4000000 in
theorem markMem_ct (w : World) (H : HMem) (x : Mem) (k : Int) (h : OwMem w H x) (hk0 : 0 ≤ k) (hk1 : k + (nMarkMem x : Int) ≤ 4611686018427387904) :
    Calls Tryz.prog 100 #[.agg #[.slice H.Heap.Bytes.a H.Heap.Bytes.len H.Heap.Bytes.cap, .slice H.Heap.Class.a H.Heap.Class.len H.Heap.Class.cap, .slice H.Lists.Global.a H.Lists.Global.len H.Lists.Global.cap, .slice H.Lists.Own.a H.Lists.Own.len H.Lists.Own.cap], .int .i64 k] w fun e w' => e = .returned (.int .i64 (k + (nMarkMem x : Int))) ∧ OwMem w' H (markMem x k) ∧ Chg H.foot w w' := by
  have ba0 : Box (w.alloc (.cells #[.slice H.Heap.Bytes.a H.Heap.Bytes.len H.Heap.Bytes.cap, .slice H.Heap.Class.a H.Heap.Class.len H.Heap.Class.cap, .slice H.Lists.Global.a H.Lists.Global.len H.Lists.Global.cap, .slice H.Lists.Own.a H.Lists.Own.len H.Lists.Own.cap] 31)) w.heap.size [.slice H.Heap.Bytes.a H.Heap.Bytes.len H.Heap.Bytes.cap, .slice H.Heap.Class.a H.Heap.Class.len H.Heap.Class.cap, .slice H.Lists.Global.a H.Lists.Global.len H.Lists.Global.cap, .slice H.Lists.Own.a H.Lists.Own.len H.Lists.Own.cap] := Box.new w #[.slice H.Heap.Bytes.a H.Heap.Bytes.len H.Heap.Bytes.cap, .slice H.Heap.Class.a H.Heap.Class.len H.Heap.Class.cap, .slice H.Lists.Global.a H.Lists.Global.len H.Lists.Global.cap, .slice H.Lists.Own.a H.Lists.Own.len H.Lists.Own.cap] 31
  have HE := Hid.mk_ (show nMarkMem x = nMarkHeap x.Heap + nMarkLists x.Lists from rfl)
  have HK := Hid.mk_ hk1
  clear hk1
  have hlt := h.lt
  have hl0 : ∀ g ∈ H.Heap.foot, g < w.heap.size := h.Heap.lt
  have ho0 := h.Heap.keep (w' := (w.alloc (.cells #[.slice H.Heap.Bytes.a H.Heap.Bytes.len H.Heap.Bytes.cap, .slice H.Heap.Class.a H.Heap.Class.len H.Heap.Class.cap, .slice H.Lists.Global.a H.Lists.Global.len H.Lists.Global.cap, .slice H.Lists.Own.a H.Lists.Own.len H.Lists.Own.cap] 31))) (fun g hg => Below.heap_alloc w _ g (hl0 g hg))
  have hl1 : ∀ g ∈ H.Lists.foot, g < w.heap.size := h.Lists.lt
  have ho1 := h.Lists.keep (w' := (w.alloc (.cells #[.slice H.Heap.Bytes.a H.Heap.Bytes.len H.Heap.Bytes.cap, .slice H.Heap.Class.a H.Heap.Class.len H.Heap.Class.cap, .slice H.Lists.Global.a H.Lists.Global.len H.Lists.Global.cap, .slice H.Lists.Own.a H.Lists.Own.len H.Lists.Own.cap] 31))) (fun g hg => Below.heap_alloc w _ g (hl1 g hg))
  have hC0 : Chg H.foot w (w.alloc (.cells #[.slice H.Heap.Bytes.a H.Heap.Bytes.len H.Heap.Bytes.cap, .slice H.Heap.Class.a H.Heap.Class.len H.Heap.Class.cap, .slice H.Lists.Global.a H.Lists.Global.len H.Lists.Global.cap, .slice H.Lists.Own.a H.Lists.Own.len H.Lists.Own.cap] 31)) := (Chg.refl _ w).alloc_ _
  go_enter Tryz.func100, Tryz.ntmps100
  go_wp2_with fail
  refine (markHeap_ct _ H.Heap x.Heap (k) ho0 (by omega) (by have := HK.out; rw [HE.out] at this; omega)).mono ?_
  clear ho0
  rintro e w1 ⟨rfl, ho0, hc⟩
  have ba1 := ba0.chg hc (fun hm => Nat.lt_irrefl _ (hl0 _ hm))
  have hC1 : Chg H.foot w w1 := hC0.trans (hc.mono fun g hg => HMem.mem_foot.2 (.inl hg))
  replace ho1 := ho1.chg hc (fun g hg hm => h.d01 g hm hg)
  clear ba0 hc hC0
  have qa0 := ba1.cell 0 _ rfl
  have qa1 := ba1.cell 1 _ rfl
  have qa2 := ba1.cell 2 _ rfl
  have qa3 := ba1.cell 3 _ rfl
  go_wp2_with fail
  refine (markLists_ct _ H.Lists x.Lists (k + ((nMarkHeap x.Heap : Nat) : Int)) ho1 (by omega) (by have := HK.out; rw [HE.out] at this; omega)).mono ?_
  clear ho1
  rintro e w2 ⟨rfl, ho1, hc⟩
  have ba2 := ba1.chg hc (fun hm => Nat.lt_irrefl _ (hl1 _ hm))
  have hC2 : Chg H.foot w w2 := hC1.trans (hc.mono fun g hg => HMem.mem_foot.2 (.inr (hg)))
  replace ho0 := ho0.chg hc (fun g hg hm => h.d01 g hg hm)
  clear ba1 hc hC1 qa0 qa1 qa2 qa3
  have qa0 := ba2.cell 0 _ rfl
  have qa1 := ba2.cell 1 _ rfl
  have qa2 := ba2.cell 2 _ rfl
  have qa3 := ba2.cell 3 _ rfl
  go_wp2
  go_ret
  exact ⟨ret_i64 (by rw [HE.out]; omega), ⟨ho0, ho1, h.d01⟩, hC2⟩
