/-
  Lists: compared, made, measured, marked.
-/
import Derived.Test.YtkldapdpaldbgaaGreatT
import Derived.Test.YtkldapdpaldbgaaGreatL
import Derived.Deep.QuietTactic
import Derived.BigQuiet
import Derived.Deep.LoopGhost
import Derived.Deep.RegionHeld3
import Derived.Test.YtkldapdpaldbgaaGreatN
import Derived.Test.YtkldapdpaldbgaaGreatA
import Derived.WalkSpells
import Derived.Laws.Cover3
import Derived.Test.YtkldapdpaldbgaaGreatEL
namespace Go.Proofs.YtkldapdpaldbgaaGreat
open Go.RowKit

set_option maxRecDepth 100000 in
set_option maxHeartbeats 4000000 in
theorem toLists_ct (w : World) (H : HLists) (x : Lists) (h : RdLists w w.heap.size H x) (hs : sizeLists x ≤ 1048576) :
    Calls Tryz.prog 160 #[.agg #[.slice H.Global.a H.Global.len H.Global.cap, .slice H.Own.a H.Own.len H.Own.cap]] w fun e w' => ∃ H' : HLists, e = .returned (H'.val x) ∧ OwLists w' H' x ∧ (∀ g ∈ H'.foot, w.heap.size ≤ g) ∧ Below w.heap.size w w' := by
  have hs0 : szLL x.Global ≤ 1048576 := by unfold sizeLists at hs; omega
  have hs1 : szLL x.Own ≤ 1048576 := by unfold sizeLists at hs; omega
  clear hs
  have ba0 : Box (((w.alloc (.cells #[.slice H.Global.a H.Global.len H.Global.cap, .slice H.Own.a H.Own.len H.Own.cap] 49)).alloc (.cells #[.slice none 0 0, .slice none 0 0] 29)).alloc (.cells #[.slice none 0 0, .slice none 0 0] 29)) w.heap.size [.slice H.Global.a H.Global.len H.Global.cap, .slice H.Own.a H.Own.len H.Own.cap] := ((Box.new w #[.slice H.Global.a H.Global.len H.Global.cap, .slice H.Own.a H.Own.len H.Own.cap] 49).alloc _).alloc _
  have br0 : Box (((w.alloc (.cells #[.slice H.Global.a H.Global.len H.Global.cap, .slice H.Own.a H.Own.len H.Own.cap] 49)).alloc (.cells #[.slice none 0 0, .slice none 0 0] 29)).alloc (.cells #[.slice none 0 0, .slice none 0 0] 29)) (w.heap.size + 1) [.slice none 0 0, .slice none 0 0] := by have a := (Box.new (w.alloc (.cells #[.slice H.Global.a H.Global.len H.Global.cap, .slice H.Own.a H.Own.len H.Own.cap] 49)) #[.slice none 0 0, .slice none 0 0] 29).alloc (.cells #[.slice none 0 0, .slice none 0 0] 29); simpa using a
  have bo0 : Box (((w.alloc (.cells #[.slice H.Global.a H.Global.len H.Global.cap, .slice H.Own.a H.Own.len H.Own.cap] 49)).alloc (.cells #[.slice none 0 0, .slice none 0 0] 29)).alloc (.cells #[.slice none 0 0, .slice none 0 0] 29)) (w.heap.size + 1 + 1) [.slice none 0 0, .slice none 0 0] := by have a := Box.new ((w.alloc (.cells #[.slice H.Global.a H.Global.len H.Global.cap, .slice H.Own.a H.Own.len H.Own.cap] 49)).alloc (.cells #[.slice none 0 0, .slice none 0 0] 29)) #[.slice none 0 0, .slice none 0 0] 29; simpa using a
  have hB0 : Below w.heap.size w (((w.alloc (.cells #[.slice H.Global.a H.Global.len H.Global.cap, .slice H.Own.a H.Own.len H.Own.cap] 49)).alloc (.cells #[.slice none 0 0, .slice none 0 0] 29)).alloc (.cells #[.slice none 0 0, .slice none 0 0] 29)) := by repeat (first | exact Below.refl _ _ | refine Below.alloc ?_ (by simp <;> omega) _ | refine below_grow_of ?_ (by simp <;> omega) _ _ | refine Below.drew ?_ | refine below_drewN ?_ _)
  go_enter Tryz.func160, Tryz.ntmps160
  go_wp2_with fail
  refine (toSListS_w _ H.Global H.GlobalT x.Global (rdLL_up h.Global (hB0.trans (Chg.below (F := [(w.heap.size + 1 + 1)]) (by (repeat (with_reducible refine Chg.set_ ?_ (by simp) _)); with_reducible exact Chg.refl _ _) (by first | exact hB0.size | omega) (by intro g hg; have := List.mem_singleton.1 hg; omega)))) hs0).mono ?_
  rintro e w1 ⟨K0, T0, rfl, ho0, hf0, hb0⟩
  have hf0' : ∀ g ∈ foot2 K0.val T0, (w.heap.size + 1 + 1) < g := fun g hg => by have a := hf0 g hg; have b := bo0.lt; (try simp at a b); omega
  clear hf0
  have ba1 : Box w1 w.heap.size [.slice H.Global.a H.Global.len H.Global.cap, .slice H.Own.a H.Own.len H.Own.cap] := Box.below (ba0.chg (F := [(w.heap.size + 1 + 1)]) (by (repeat (with_reducible refine Chg.set_ ?_ (by simp) _)); with_reducible exact Chg.refl _ _) (by simp <;> omega)) hb0
  have br1 : Box w1 (w.heap.size + 1) [.slice none 0 0, .slice none 0 0] := Box.below (br0.chg (F := [(w.heap.size + 1 + 1)]) (by (repeat (with_reducible refine Chg.set_ ?_ (by simp) _)); with_reducible exact Chg.refl _ _) (by simp <;> omega)) hb0
  have bo1 : Box w1 (w.heap.size + 1 + 1) [.slice none 0 0, .slice none 0 0] := Box.below bo0 hb0
  have hC1 : Chg [(w.heap.size + 1 + 1)] (((w.alloc (.cells #[.slice H.Global.a H.Global.len H.Global.cap, .slice H.Own.a H.Own.len H.Own.cap] 49)).alloc (.cells #[.slice none 0 0, .slice none 0 0] 29)).alloc (.cells #[.slice none 0 0, .slice none 0 0] 29)) w1 := Chg.trans (by (repeat (with_reducible refine Chg.set_ ?_ (by simp) _)); with_reducible exact Chg.refl _ _) (Chg.of_below hb0)
  have hB1 : Below w.heap.size w w1 := hB0.trans (hC1.below hB0.size (by intro g hg; have := List.mem_singleton.1 hg; omega))
  clear hb0 ba0 br0 bo0 hB0 hC1
  have qa0 := ba1.cell 0 _ rfl
  have qa1 := ba1.cell 1 _ rfl
  have qo0 := bo1.cell 0 _ rfl
  have qo1 := bo1.cell 1 _ rfl
  have qf := bo1.fro
  have ql1 := ba1.lt
  have ql2 := bo1.lt
  go_wp2_with fail
  refine (toSListS_w _ H.Own H.OwnT x.Own (rdLL_up h.Own (hB1.trans (Chg.below (F := [(w.heap.size + 1 + 1)]) (by (repeat (with_reducible refine Chg.set_ ?_ (by simp) _)); with_reducible exact Chg.refl _ _) (by first | exact hB1.size | omega) (by intro g hg; have := List.mem_singleton.1 hg; omega)))) hs1).mono ?_
  rintro e w2 ⟨K1, T1, rfl, ho1, hf1, hb1⟩
  clear qa0 qa1 qo0 qo1 qf ql1 ql2
  have hd0_1 : ∀ g ∈ foot2 K0.val T0, g ∉ foot2 K1.val T1 := fun g hg hm => by have a := hf1 g hm; have b := ho0.lt g hg; (try simp at a); omega
  have hf1' : ∀ g ∈ foot2 K1.val T1, (w.heap.size + 1 + 1) < g := fun g hg => by have a := hf1 g hg; have b := bo1.lt; (try simp at a b); omega
  clear hf1
  have ba2 : Box w2 w.heap.size [.slice H.Global.a H.Global.len H.Global.cap, .slice H.Own.a H.Own.len H.Own.cap] := Box.below (ba1.chg (F := [(w.heap.size + 1 + 1)]) (by (repeat (with_reducible refine Chg.set_ ?_ (by simp) _)); with_reducible exact Chg.refl _ _) (by simp <;> omega)) hb1
  have br2 : Box w2 (w.heap.size + 1) [.slice none 0 0, .slice none 0 0] := Box.below (br1.chg (F := [(w.heap.size + 1 + 1)]) (by (repeat (with_reducible refine Chg.set_ ?_ (by simp) _)); with_reducible exact Chg.refl _ _) (by simp <;> omega)) hb1
  have bo2 : Box w2 (w.heap.size + 1 + 1) [.slice K0.a K0.len K0.cap, .slice none 0 0] := Box.below (bo1.set 0 (.slice K0.a K0.len K0.cap)) hb1
  have hC2 : Chg [(w.heap.size + 1 + 1)] w1 w2 := Chg.trans (by (repeat (with_reducible refine Chg.set_ ?_ (by simp) _)); with_reducible exact Chg.refl _ _) (Chg.of_below hb1)
  have hB2 : Below w.heap.size w w2 := hB1.trans (hC2.below hB1.size (by intro g hg; have := List.mem_singleton.1 hg; omega))
  replace ho0 := ho0.chg hC2 (by intro g hg hm; have a := hf0' g hg; have b := List.mem_singleton.1 hm; omega)
  clear hb1 ba1 br1 bo1 hB1 hC2
  have qa0 := ba2.cell 0 _ rfl
  have qa1 := ba2.cell 1 _ rfl
  have qo0 := bo2.cell 0 _ rfl
  have qo1 := bo2.cell 1 _ rfl
  have qf := bo2.fro
  have qg := br2.fro
  have qr0 := br2.cell 0 _ rfl
  have qr1 := br2.cell 1 _ rfl
  have ql1 := ba2.lt
  have ql2 := bo2.lt
  go_wp2
  refine bodyPost_ret (v := .agg #[.slice K0.a K0.len K0.cap, .slice K1.a K1.len K1.cap]) (by simp [results, Tryz.results160, go_sem, *]) rfl ⟨⟨K0, T0, K1, T1⟩, rfl, ⟨?_, ?_, hd0_1⟩, ?_, ?_⟩
  · exact ho0.chg (F := [(w.heap.size + 1 + 1), (w.heap.size + 1)]) (by (repeat (with_reducible refine Chg.set_ ?_ (by simp) _)); with_reducible exact Chg.refl _ _) (by intro g hg hm; have a := hf0' g hg; simp at hm; omega)
  · exact ho1.chg (F := [(w.heap.size + 1 + 1), (w.heap.size + 1)]) (by (repeat (with_reducible refine Chg.set_ ?_ (by simp) _)); with_reducible exact Chg.refl _ _) (by intro g hg hm; have a := hf1' g hg; simp at hm; omega)
  · intro g hg
    rcases HLists.mem_foot.1 hg with hg | hg
    · have a := hf0' g hg
      omega
    · have a := hf1' g hg
      omega
  · exact hB2.trans (Chg.below (F := [(w.heap.size + 1 + 1), (w.heap.size + 1)]) (by (repeat (with_reducible refine Chg.set_ ?_ (by simp) _)); with_reducible exact Chg.refl _ _) hB2.size (by intro g hg; simp at hg; omega))

set_option maxRecDepth 100000 in
set_option maxHeartbeats 4000000 in
theorem eqLists_ct (w : World) (H1 H2 : HLists) (x : Lists) (h1 : RdLists w w.heap.size H1 x) (h2 : RdLists w w.heap.size H2 x) (hs : sizeLists x ≤ 1073741824) :
    Calls Tryz.prog 173 #[.agg #[.slice H1.Global.a H1.Global.len H1.Global.cap, .slice H1.Own.a H1.Own.len H1.Own.cap], .agg #[.slice H2.Global.a H2.Global.len H2.Global.cap, .slice H2.Own.a H2.Own.len H2.Own.cap]] w fun e w' => e = .returned (.bool true) ∧ Below w.heap.size w w' := by
  have hs0 : szLL x.Global ≤ 1073741824 := by unfold sizeLists at hs; omega
  have hs1 : szLL x.Own ≤ 1073741824 := by unfold sizeLists at hs; omega
  clear hs
  have ba0 : Box ((w.alloc (.cells #[.slice H1.Global.a H1.Global.len H1.Global.cap, .slice H1.Own.a H1.Own.len H1.Own.cap] 29)).alloc (.cells #[.slice H2.Global.a H2.Global.len H2.Global.cap, .slice H2.Own.a H2.Own.len H2.Own.cap] 29)) w.heap.size [.slice H1.Global.a H1.Global.len H1.Global.cap, .slice H1.Own.a H1.Own.len H1.Own.cap] := (Box.new w #[.slice H1.Global.a H1.Global.len H1.Global.cap, .slice H1.Own.a H1.Own.len H1.Own.cap] 29).alloc _
  have bb0 : Box ((w.alloc (.cells #[.slice H1.Global.a H1.Global.len H1.Global.cap, .slice H1.Own.a H1.Own.len H1.Own.cap] 29)).alloc (.cells #[.slice H2.Global.a H2.Global.len H2.Global.cap, .slice H2.Own.a H2.Own.len H2.Own.cap] 29)) (w.heap.size + 1) [.slice H2.Global.a H2.Global.len H2.Global.cap, .slice H2.Own.a H2.Own.len H2.Own.cap] := by have a := Box.new (w.alloc (.cells #[.slice H1.Global.a H1.Global.len H1.Global.cap, .slice H1.Own.a H1.Own.len H1.Own.cap] 29)) #[.slice H2.Global.a H2.Global.len H2.Global.cap, .slice H2.Own.a H2.Own.len H2.Own.cap] 29; simpa using a
  have hB0 : Below w.heap.size w ((w.alloc (.cells #[.slice H1.Global.a H1.Global.len H1.Global.cap, .slice H1.Own.a H1.Own.len H1.Own.cap] 29)).alloc (.cells #[.slice H2.Global.a H2.Global.len H2.Global.cap, .slice H2.Own.a H2.Own.len H2.Own.cap] 29)) := by repeat (first | exact Below.refl _ _ | refine Below.alloc ?_ (by simp <;> omega) _ | refine below_grow_of ?_ (by simp <;> omega) _ _ | refine Below.drew ?_ | refine below_drewN ?_ _)
  go_enter Tryz.func173, Tryz.ntmps173
  go_wp2_with fail
  refine (eqSListS_w _ H1.Global H1.GlobalT H2.Global H2.GlobalT x.Global (rdLL_up h1.Global hB0) (rdLL_up h2.Global hB0) hs0).mono ?_
  rintro e w1 ⟨rfl, hb0⟩
  have ba1 := ba0.below hb0
  have bb1 := bb0.below hb0
  have hB1 := hB0.trans (hb0.mono hB0.size)
  clear ba0 bb0 hb0 hB0
  have qa0 := ba1.cell 0 _ rfl
  have qb0 := bb1.cell 0 _ rfl
  have qa1 := ba1.cell 1 _ rfl
  have qb1 := bb1.cell 1 _ rfl
  go_wp2_with fail
  refine (eqSListS_w _ H1.Own H1.OwnT H2.Own H2.OwnT x.Own (rdLL_up h1.Own hB1) (rdLL_up h2.Own hB1) hs1).mono ?_
  rintro e w2 ⟨rfl, hb1⟩
  have ba2 := ba1.below hb1
  have bb2 := bb1.below hb1
  have hB2 := hB1.trans (hb1.mono hB1.size)
  clear ba1 bb1 hb1 hB1 qa0 qb0 qa1 qb1
  have qa0 := ba2.cell 0 _ rfl
  have qb0 := bb2.cell 0 _ rfl
  have qa1 := ba2.cell 1 _ rfl
  have qb1 := bb2.cell 1 _ rfl
  go_wp2
  go_ret
  exact ⟨rfl, hB2⟩

set_option maxRecDepth 100000 in
set_option maxHeartbeats 4000000 in
theorem szLists_ct (w : World) (H : HLists) (x : Lists) (k : Nat) (h : RdLists w w.heap.size H x) (hk : k ≤ 1073741824) :
    Calls Tryz.prog 156 #[.agg #[.slice H.Global.a H.Global.len H.Global.cap, .slice H.Own.a H.Own.len H.Own.cap], .int .i64 k] w fun e w' => e = .returned (.int .i64 (leftOf k (sizeLists x))) ∧ Below w.heap.size w w' := by
  have ba0 : Box (w.alloc (.cells #[.slice H.Global.a H.Global.len H.Global.cap, .slice H.Own.a H.Own.len H.Own.cap] 49)) w.heap.size [.slice H.Global.a H.Global.len H.Global.cap, .slice H.Own.a H.Own.len H.Own.cap] := Box.new w #[.slice H.Global.a H.Global.len H.Global.cap, .slice H.Own.a H.Own.len H.Own.cap] 49
  have hB0 : Below w.heap.size w (w.alloc (.cells #[.slice H.Global.a H.Global.len H.Global.cap, .slice H.Own.a H.Own.len H.Own.cap] 49)) := by repeat (first | exact Below.refl _ _ | refine Below.alloc ?_ (by simp <;> omega) _ | refine below_grow_of ?_ (by simp <;> omega) _ _ | refine Below.drew ?_ | refine below_drewN ?_ _)
  have HE := Hid.mk_ (show sizeLists x = szLL x.Global + szLL x.Own from rfl)
  go_enter Tryz.func156, Tryz.ntmps156
  go_wp2_with fail
  refine (szSListS_w _ H.Global H.GlobalT x.Global (k) (rdLL_up h.Global hB0) (by omega)).mono ?_
  rintro e w1 ⟨rfl, hb0⟩
  have ba1 := ba0.below hb0
  have hB1 := hB0.trans (hb0.mono hB0.size)
  clear ba0 hb0 hB0
  by_cases hh0 : szLL x.Global ≤ k
  case neg =>
    rw [leftOf_neg hh0]
    have HX := Hid.mk_ (show leftOf k (sizeLists x) = -1 by rw [HE.out]; exact leftOf_neg (by omega))
    clear hh0
    go_wp2
    go_ret
    exact ⟨ret_i64 HX.out.symm, hB1⟩
  rw [leftOf_nat hh0]
  have hn0 : ¬ (((k - szLL x.Global : Nat) : Nat) : Int) < 0 := by omega
  have qa0 := ba1.cell 0 _ rfl
  have qa1 := ba1.cell 1 _ rfl
  go_wp2_with fail
  refine (szSListS_w _ H.Own H.OwnT x.Own (k - szLL x.Global) (rdLL_up h.Own hB1) (by omega)).mono ?_
  rintro e w2 ⟨rfl, hb1⟩
  have ba2 := ba1.below hb1
  have hB2 := hB1.trans (hb1.mono hB1.size)
  clear ba1 hb1 hB1 qa0 qa1
  by_cases hh1 : szLL x.Own ≤ k - szLL x.Global
  case neg =>
    rw [leftOf_neg hh1]
    have HX := Hid.mk_ (show leftOf k (sizeLists x) = -1 by rw [HE.out]; exact leftOf_neg (by omega))
    clear hh1
    go_wp2
    go_ret
    exact ⟨ret_i64 HX.out.symm, hB2⟩
  rw [leftOf_nat hh1]
  have hn1 : ¬ (((k - szLL x.Global - szLL x.Own : Nat) : Nat) : Int) < 0 := by omega
  have qa0 := ba2.cell 0 _ rfl
  have qa1 := ba2.cell 1 _ rfl
  have HX := Hid.mk_ (show leftOf k (sizeLists x) = ((k - szLL x.Global - szLL x.Own : Nat) : Int) by rw [HE.out, leftOf_nat (by omega)]; omega)
  go_wp2
  go_ret
  exact ⟨ret_i64 HX.out.symm, hB2⟩

set_option maxRecDepth 100000 in
set_option maxHeartbeats 4000000 in
theorem markLists_ct (w : World) (H : HLists) (x : Lists) (k : Int) (h : OwLists w H x) (hk0 : 0 ≤ k) (hk1 : k + (nMarkLists x : Int) ≤ 4611686018427387904) :
    Calls Tryz.prog 177 #[.agg #[.slice H.Global.a H.Global.len H.Global.cap, .slice H.Own.a H.Own.len H.Own.cap], .int .i64 k] w fun e w' => e = .returned (.int .i64 (k + (nMarkLists x : Int))) ∧ OwLists w' H (markLists x k) ∧ Chg H.foot w w' := by
  have ba0 : Box (w.alloc (.cells #[.slice H.Global.a H.Global.len H.Global.cap, .slice H.Own.a H.Own.len H.Own.cap] 29)) w.heap.size [.slice H.Global.a H.Global.len H.Global.cap, .slice H.Own.a H.Own.len H.Own.cap] := Box.new w #[.slice H.Global.a H.Global.len H.Global.cap, .slice H.Own.a H.Own.len H.Own.cap] 29
  have HE := Hid.mk_ (show nMarkLists x = totLL x.Global + totLL x.Own from rfl)
  have HK := Hid.mk_ hk1
  clear hk1
  have hlt := h.lt
  have hl0 : ∀ g ∈ foot2 H.Global.val H.GlobalT, g < w.heap.size := h.Global.lt
  have ho0 := h.Global.keep (w' := (w.alloc (.cells #[.slice H.Global.a H.Global.len H.Global.cap, .slice H.Own.a H.Own.len H.Own.cap] 29))) (fun g hg => Below.heap_alloc w _ g (hl0 g hg))
  have hl1 : ∀ g ∈ foot2 H.Own.val H.OwnT, g < w.heap.size := h.Own.lt
  have ho1 := h.Own.keep (w' := (w.alloc (.cells #[.slice H.Global.a H.Global.len H.Global.cap, .slice H.Own.a H.Own.len H.Own.cap] 29))) (fun g hg => Below.heap_alloc w _ g (hl1 g hg))
  have hC0 : Chg H.foot w (w.alloc (.cells #[.slice H.Global.a H.Global.len H.Global.cap, .slice H.Own.a H.Own.len H.Own.cap] 29)) := (Chg.refl _ w).alloc_ _
  go_enter Tryz.func177, Tryz.ntmps177
  go_wp2_with fail
  refine (markSListS_w _ H.Global H.GlobalT x.Global (k) ho0 (by omega) (by have := HK.out; rw [HE.out] at this; omega)).mono ?_
  clear ho0
  rintro e w1 ⟨rfl, ho0, hc⟩
  have ba1 := ba0.chg hc (fun hm => Nat.lt_irrefl _ (hl0 _ hm))
  have hC1 : Chg H.foot w w1 := hC0.trans (hc.mono fun g hg => HLists.mem_foot.2 (.inl hg))
  replace ho1 := ho1.chg hc (fun g hg hm => h.d01 g hm hg)
  clear ba0 hc hC0
  have qa0 := ba1.cell 0 _ rfl
  have qa1 := ba1.cell 1 _ rfl
  go_wp2_with fail
  refine (markSListS_w _ H.Own H.OwnT x.Own (k + ((totLL x.Global : Nat) : Int)) ho1 (by omega) (by have := HK.out; rw [HE.out] at this; omega)).mono ?_
  clear ho1
  rintro e w2 ⟨rfl, ho1, hc⟩
  have ba2 := ba1.chg hc (fun hm => Nat.lt_irrefl _ (hl1 _ hm))
  have hC2 : Chg H.foot w w2 := hC1.trans (hc.mono fun g hg => HLists.mem_foot.2 (.inr (hg)))
  replace ho0 := ho0.chg hc (fun g hg hm => h.d01 g hg hm)
  clear ba1 hc hC1 qa0 qa1
  have qa0 := ba2.cell 0 _ rfl
  have qa1 := ba2.cell 1 _ rfl
  go_wp2
  go_ret
  exact ⟨ret_i64 (by rw [HE.out]; omega), ⟨ho0, ho1, h.d01⟩, hC2⟩
