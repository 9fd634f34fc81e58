/-
  CellAt of the program: the contract.
-/
import Derived.Test.YtdepckmjgpkjmaaT
import Derived.Test.YtdepckmjgpkjmaaL
import Derived.Deep.QuietTactic
import Derived.BigQuiet
import Derived.Deep.LoopGhost
import Derived.Deep.RegionHeld3
import Derived.Test.YtdepckmjgpkjmaaN
import Derived.Test.YtdepckmjgpkjmaaA
import Derived.WalkSpells
import Derived.Laws.Cover3
import Derived.Test.YtdepckmjgpkjmaaCB
import Derived.RangeFuncNested
import Derived.RangeFuncBound
import Derived.RangeFuncCalls
import Derived.RangeFuncLeaves
import Derived.Shelf.Abstract
import Derived.Shelf.RegionOpen
import Derived.WalkKit
import Derived.OwnWalkIn
import Derived.TacticsInMore
import Derived.LoopNIn
import Derived.LoopIn
namespace Go.Proofs.Ytdepckmjgpkjmaa
open Go.RowKit
open Go.Shelf
attribute [local go_sem] Oper.semAt_some

theorem swap_two {cell : Int} {e : Ev} (h : swapB cell e = true) : e.Kind = 2 ∧ e.Cell = cell := by simpa [swapB] using h
set_option maxRecDepth 100000 in
set_option maxHeartbeats 4000000 in
theorem CellAt_impl (w : World) (v : Value) (l : List Ev) (i cell : Int) (h : RdL FEv w w.heap.size v l) :
    Calls Try.prog 12 #[v, .int .i64 i, .int .i64 cell] w fun e w' => e = .returned (.agg #[.int .i64 (cellAtP l i cell).Kind, .int .i64 (cellAtP l i cell).Who, .int .i64 (cellAtP l i cell).Serial, .int .i64 (cellAtP l i cell).Cell, .int .i64 (cellAtP l i cell).Handle, .int .i64 (cellAtP l i cell).Val, .int .i64 (cellAtP l i cell).Code]) ∧ Below w.heap.size w w' := by
  obtain ⟨A, c, hv, _, _, _⟩ := id h
  subst hv
  obtain ⟨_, hln⟩ := RdL.len_ h
  have hkey : ∃ m : Nat, m ≤ l.length ∧ (min i l.length).toNat = m ∧ ((l.length : Int) < i ∧ m = l.length ∨ i < 0 ∧ m = 0 ∨ i = (m : Int)) := by
    by_cases h1 : (l.length : Int) < i
    · exact ⟨l.length, Nat.le_refl _, by omega, .inl ⟨h1, rfl⟩⟩
    · by_cases h2 : i < 0
      · exact ⟨0, Nat.zero_le _, by omega, .inr (.inl ⟨h2, rfl⟩)⟩
      · exact ⟨i.toNat, by omega, by omega, .inr (.inr (by omega))⟩
  obtain ⟨m, hm, hmin, hcase⟩ := hkey
  have HP := Hid.mk_ (show cellAtP l i cell = swapTo cell (l.take m) by unfold cellAtP; rw [hmin])
  clear hmin
  have hz := h.take_ m hm
  have hlz : (l.take m).length = m := by rw [List.length_take]; omega
  have hcap : l.length ≤ c := by obtain ⟨_, _, hv, q, _⟩ := id h; (injection hv with _ _ e3) <;> omega
  generalize hzs : l.take m = zs at *
  clear hzs
  refine (callsIn_wide (n := 6)).1 ?_
  have hro : Fence.wide.round = none := rfl
  refine callsIn_of_wp_marks Try.func12 rfl trivial ?_ hro
  simp only [Try.ntmps12, List.size_toArray, List.length_cons, List.length_nil, Nat.reduceAdd, Nat.reduceSub, Array.replicate_succ, Array.replicate_zero, List.push_toArray, List.append_toArray, List.nil_append, List.cons_append]
  rcases hcase with ⟨h1, rfl⟩ | ⟨h1, rfl⟩ | rfl
  · gi_wp2_with (refine ⟨trivial, ?_⟩; gi_at_call 37; refine (Backward_in Fence.wide 5 trivial hro _ _ _ _).mono ?_; rintro e w' ⟨rfl, rfl⟩)
    have bC : Boxed (((w.alloc (.cells #[.int .i64 cell] 3)).alloc (.cells #[.int .i64 0, .int .i64 0, .int .i64 0, .int .i64 0, .int .i64 0, .int .i64 0, .int .i64 0] 25)).alloc (.cells #[.slice A l.length c] 27)) w.heap.size 3 (.int .i64 cell) := ((Boxed.new w 3 (.int .i64 cell)).alloc (.cells #[.int .i64 0, .int .i64 0, .int .i64 0, .int .i64 0, .int .i64 0, .int .i64 0, .int .i64 0] 25)).alloc (.cells #[.slice A l.length c] 27)
    have bR : Box (((w.alloc (.cells #[.int .i64 cell] 3)).alloc (.cells #[.int .i64 0, .int .i64 0, .int .i64 0, .int .i64 0, .int .i64 0, .int .i64 0, .int .i64 0] 25)).alloc (.cells #[.slice A l.length c] 27)) (w.heap.size + 1) [.int .i64 0, .int .i64 0, .int .i64 0, .int .i64 0, .int .i64 0, .int .i64 0, .int .i64 0] := by have a := (Box.new (w.alloc (.cells #[.int .i64 cell] 3)) #[.int .i64 0, .int .i64 0, .int .i64 0, .int .i64 0, .int .i64 0, .int .i64 0, .int .i64 0] 25).alloc (.cells #[.slice A l.length c] 27); simpa only [World.size_alloc] using a
    have bS : Boxed (((w.alloc (.cells #[.int .i64 cell] 3)).alloc (.cells #[.int .i64 0, .int .i64 0, .int .i64 0, .int .i64 0, .int .i64 0, .int .i64 0, .int .i64 0] 25)).alloc (.cells #[.slice A l.length c] 27)) (w.heap.size + 1 + 1) 27 (.slice A l.length c) := by have a := Boxed.new ((w.alloc (.cells #[.int .i64 cell] 3)).alloc (.cells #[.int .i64 0, .int .i64 0, .int .i64 0, .int .i64 0, .int .i64 0, .int .i64 0, .int .i64 0] 25)) 27 (.slice A l.length c); simpa only [World.size_alloc] using a
    have hB0 : Below w.heap.size w (((w.alloc (.cells #[.int .i64 cell] 3)).alloc (.cells #[.int .i64 0, .int .i64 0, .int .i64 0, .int .i64 0, .int .i64 0, .int .i64 0, .int .i64 0] 25)).alloc (.cells #[.slice A l.length c] 27)) := by repeat (first | exact Below.refl _ _ | refine Below.alloc ?_ (by simp <;> omega) _ | refine below_grow_of ?_ (by simp <;> omega) _ _ | refine Below.drew ?_ | refine below_drewN ?_ _)
    have hsz : (((w.alloc (.cells #[.int .i64 cell] 3)).alloc (.cells #[.int .i64 0, .int .i64 0, .int .i64 0, .int .i64 0, .int .i64 0, .int .i64 0, .int .i64 0] 25)).alloc (.cells #[.slice A l.length c] 27)).heap.size = w.heap.size + 3 := by simp
    generalize hW0 : (((w.alloc (.cells #[.int .i64 cell] 3)).alloc (.cells #[.int .i64 0, .int .i64 0, .int .i64 0, .int .i64 0, .int .i64 0, .int .i64 0, .int .i64 0] 25)).alloc (.cells #[.slice A l.length c] 27)) = W at bC bR bS hB0 hsz ⊢
    clear hW0
    refine wpIn_rangeFunc_ownH hro (by omega) (gf := 78) (lb := #[.pointer (some ⟨w.heap.size + 1 + 1, 0, none⟩)]) rfl trivial (enters_of Try.func78 (by kernel_rfl) rfl)
      (Backward_stops Fence.wide 5 trivial hro (by omega) (w.heap.size + 1 + 1) A c zs l.length hlz W (by omega) bS.cell (rd_up hz hB0)) belowK_t (belowK_b (by omega)) (Below.refl _ _) (fun _ => rfl)
      (fun pre W' => (∀ p ∈ pre, swapB cell p.2 = false) ∧ Below W.heap.size W W')
      (fun cd pre W' => (cd = .ret ∧ ∃ ini last, pre = ini ++ [last] ∧ (∀ p ∈ ini, swapB cell p.2 = false) ∧ swapB cell last.2 = true ∧ Box W' (w.heap.size + 1) [.int .i64 last.2.Kind, .int .i64 last.2.Who, .int .i64 last.2.Serial, .int .i64 last.2.Cell, .int .i64 last.2.Handle, .int .i64 last.2.Val, .int .i64 last.2.Code]) ∧ Below w.heap.size w W')
      (OwnFrom.and (ownFrom_pure _ _) (ownFrom_below (Nat.le_refl _) (Nat.le_refl _)))
      (fun cd => OwnFrom.and (Own.from (fun s X Y row hs hg hr => by obtain ⟨q1, ini, last, e1, e2, e3, e4⟩ := hs; exact ⟨q1, ini, last, e1, e2, e3, box_own (β := Unit) _ _ _ () X Y row e4 hg hr⟩) _) (ownFrom_below (Nat.le_refl _) (by omega)))
      ⟨by simp, Below.refl _ _⟩
      (fun x a' W' => ∃ Bx, w.heap.size + 1 < Bx ∧ Box W' Bx [.int .i64 x.2.Kind, .int .i64 x.2.Who, .int .i64 x.2.Serial, .int .i64 x.2.Cell, .int .i64 x.2.Handle, .int .i64 x.2.Val, .int .i64 x.2.Code] ∧ a' = { tmps := #[.slice A l.length c, .int .i64 i, .int .i64 cell, undef, undef, .pointer (some ⟨w.heap.size, 0, none⟩), .pointer (some ⟨w.heap.size + 1, 0, none⟩), undef, .pointer (some ⟨Bx, 0, none⟩), .slice A l.length c, .int .i64 i, .slice A l.length c, .int .i64 (l.length : Int), .int .i64 (l.length : Int), .int .i64 (l.length : Int), .slice A l.length c, .func (.func 78) #[] #[.pointer (some ⟨w.heap.size + 1 + 1, 0, none⟩)], .int .i64 x.1, .agg #[.int .i64 x.2.Kind, .int .i64 x.2.Who, .int .i64 x.2.Serial, .int .i64 x.2.Cell, .int .i64 x.2.Handle, .int .i64 x.2.Val, .int .i64 x.2.Code], undef, undef, undef, undef, undef, undef, undef, undef, undef, undef, undef], defers := [] })
      (fun x a' _ X Y row hs hg hr => by obtain ⟨Bx, q1, q2, q3⟩ := hs; exact ⟨Bx, q1, box_own (β := Unit) _ _ _ () X Y row q2 hg (fun r e => (hr r e).2), q3⟩)
      ?assign ?body ?done ?stop
    case assign =>
      rintro lo pre x W' K ⟨hp, hB1⟩ hK
      have hz1 := hB1.size
      gi_wp2
      exact hK _ _ ((KeepsOthers.alloc _ _).from _) ((Below.refl _ W').alloc hz1 _) ⟨hp, hB1.alloc hz1 _⟩ ⟨W'.heap.size, by omega, Box.new W' #[.int .i64 x.2.Kind, .int .i64 x.2.Who, .int .i64 x.2.Serial, .int .i64 x.2.Cell, .int .i64 x.2.Handle, .int .i64 x.2.Val, .int .i64 x.2.Code] 25, rfl⟩
    case body =>
      rintro lo pre x a' W' hl _ ⟨hp, hB1⟩ ⟨Bx, hBx, bX, rfl⟩ hlt
      have bR1 := bR.below hB1
      have cC := (hB1.cell (p := ⟨w.heap.size, 0, none⟩) (show w.heap.size < W.heap.size by omega)).trans bC.cell
      have hz1 := hB1.size
      have x0 := bX.cell 0 _ rfl
      have x1 := bX.cell 1 _ rfl
      have x2 := bX.cell 2 _ rfl
      have x3 := bX.cell 3 _ rfl
      have x4 := bX.cell 4 _ rfl
      have x5 := bX.cell 5 _ rfl
      have x6 := bX.cell 6 _ rfl
      have r0 := bR1.cell 0 _ rfl
      have r1 := bR1.cell 1 _ rfl
      have r2 := bR1.cell 2 _ rfl
      have r3 := bR1.cell 3 _ rfl
      have r4 := bR1.cell 4 _ rfl
      have r5 := bR1.cell 5 _ rfl
      have r6 := bR1.cell 6 _ rfl
      have fr := bR1.fro
      by_cases hs : swapB cell x.2 = true
      · obtain ⟨k1, k2⟩ := swap_two hs
        have k1' : (x.2.Kind == 2) = true := by simpa using k1
        have k2' : (x.2.Cell == cell) = true := by simpa using k2
        clear k1 k2
        gi_wp2
        exact ⟨(by repeat (first | with_reducible exact KeepsFrom.refl _ _ | with_reducible refine KeepsFrom.trans ?_ ((KeepsOthers.setCell _ _ _).from _))), ⟨rfl, pre, x, rfl, hp, hs, (((((((bR1.set 0 (.int .i64 x.2.Kind)).set 1 (.int .i64 x.2.Who)).set 2 (.int .i64 x.2.Serial)).set 3 (.int .i64 x.2.Cell)).set 4 (.int .i64 x.2.Handle)).set 5 (.int .i64 x.2.Val)).set 6 (.int .i64 x.2.Code))⟩, (hB0.trans (hB1.mono (by omega))).trans (by repeat (first | with_reducible exact Below.refl _ _ | with_reducible refine Below.setCell ?_ (by simp <;> omega) _ | with_reducible refine Below.alloc ?_ (by simp <;> omega) _ | with_reducible refine Below.drew ?_))⟩
      · have hs' : swapB cell x.2 = false := by simpa using hs
        have hq : (∀ p ∈ pre ++ [x], swapB cell p.2 = false) := fun p hp' => (List.mem_append.1 hp').elim (hp p) (fun e => by simp at e; subst e; exact hs')
        by_cases k1 : x.2.Kind = 2
        · have k1' : (x.2.Kind == 2) = true := by simpa using k1
          have k2' : (x.2.Cell == cell) = false := by simp [swapB, k1] at hs'; simpa using hs'
          clear k1
          gi_wp2
          exact ⟨KeepsFrom.refl _ _, Below.refl _ _, hq, hB1⟩
        · have k1' : (x.2.Kind == 2) = false := by simpa using k1
          clear k1
          gi_wp2
          exact ⟨KeepsFrom.refl _ _, Below.refl _ _, hq, hB1⟩
    case done =>
      rintro D ys W' hD rfl ⟨hp, hB1⟩ hK
      have bR1 := bR.below hB1
      have hz1 := hB1.size
      have r0 := bR1.cell 0 _ rfl
      have r1 := bR1.cell 1 _ rfl
      have r2 := bR1.cell 2 _ rfl
      have r3 := bR1.cell 3 _ rfl
      have r4 := bR1.cell 4 _ rfl
      have r5 := bR1.cell 5 _ rfl
      have r6 := bR1.cell 6 _ rfl
      have fr := bR1.fro
      have HZ := Hid.mk_ (show cellAtP l i cell = zeroEv by
        rw [HP.out]
        refine swapTo_none cell zs (fun e he => ?_)
        obtain ⟨j, hj, rfl⟩ := List.getElem_of_mem he
        have := hp _ (mem_upto (f := bw zs) (k := zs.length) (j := zs.length - (j + 1)) (by omega))
        rwa [bw_at zs j hj] at this)
      gi_wp2
      have hK' : (((((((W'.setCell ⟨w.heap.size + 1, 0, none⟩ (.int .i64 0)).setCell ⟨w.heap.size + 1, 1, none⟩ (.int .i64 0)).setCell ⟨w.heap.size + 1, 2, none⟩ (.int .i64 0)).setCell ⟨w.heap.size + 1, 3, none⟩ (.int .i64 0)).setCell ⟨w.heap.size + 1, 4, none⟩ (.int .i64 0)).setCell ⟨w.heap.size + 1, 5, none⟩ (.int .i64 0)).setCell ⟨w.heap.size + 1, 6, none⟩ (.int .i64 0)).heap[D]? = some (.deferred (some [])) := (show KeepsOthers W' (((((((W'.setCell ⟨w.heap.size + 1, 0, none⟩ (.int .i64 0)).setCell ⟨w.heap.size + 1, 1, none⟩ (.int .i64 0)).setCell ⟨w.heap.size + 1, 2, none⟩ (.int .i64 0)).setCell ⟨w.heap.size + 1, 3, none⟩ (.int .i64 0)).setCell ⟨w.heap.size + 1, 4, none⟩ (.int .i64 0)).setCell ⟨w.heap.size + 1, 5, none⟩ (.int .i64 0)).setCell ⟨w.heap.size + 1, 6, none⟩ (.int .i64 0)) from (by repeat (first | with_reducible exact KeepsOthers.refl _ | with_reducible refine KeepsOthers.trans ?_ (KeepsOthers.setCell _ _ _)))).same D _ hK rfl
      have bZ : Box (((((((W'.setCell ⟨w.heap.size + 1, 0, none⟩ (.int .i64 0)).setCell ⟨w.heap.size + 1, 1, none⟩ (.int .i64 0)).setCell ⟨w.heap.size + 1, 2, none⟩ (.int .i64 0)).setCell ⟨w.heap.size + 1, 3, none⟩ (.int .i64 0)).setCell ⟨w.heap.size + 1, 4, none⟩ (.int .i64 0)).setCell ⟨w.heap.size + 1, 5, none⟩ (.int .i64 0)).setCell ⟨w.heap.size + 1, 6, none⟩ (.int .i64 0)) (w.heap.size + 1) [.int .i64 0, .int .i64 0, .int .i64 0, .int .i64 0, .int .i64 0, .int .i64 0, .int .i64 0] := (((((((bR1.set 0 (.int .i64 0)).set 1 (.int .i64 0)).set 2 (.int .i64 0)).set 3 (.int .i64 0)).set 4 (.int .i64 0)).set 5 (.int .i64 0)).set 6 (.int .i64 0))
      refine ⟨by simp, .inl ⟨_, _, rfl, run_takeDeferred hK', ?_⟩⟩
      have bE := box_own (β := Unit) _ _ _ () _ _ _ bZ (grownBy_putObj' _ D (.deferred none)) (fun r e => by cases e; exact ⟨_, hK', rfl⟩)
      have e0 := bE.cell 0 _ rfl
      have e1 := bE.cell 1 _ rfl
      have e2 := bE.cell 2 _ rfl
      have e3 := bE.cell 3 _ rfl
      have e4 := bE.cell 4 _ rfl
      have e5 := bE.cell 5 _ rfl
      have e6 := bE.cell 6 _ rfl
      refine ⟨.agg #[.int .i64 0, .int .i64 0, .int .i64 0, .int .i64 0, .int .i64 0, .int .i64 0, .int .i64 0], by simp [results, Try.results12, go_sem, e0, e1, e2, e3, e4, e5, e6], by rw [HZ.out]; rfl, ?_⟩
      exact ((hB0.trans (hB1.mono (by omega))).trans (show Below w.heap.size W' (((((((W'.setCell ⟨w.heap.size + 1, 0, none⟩ (.int .i64 0)).setCell ⟨w.heap.size + 1, 1, none⟩ (.int .i64 0)).setCell ⟨w.heap.size + 1, 2, none⟩ (.int .i64 0)).setCell ⟨w.heap.size + 1, 3, none⟩ (.int .i64 0)).setCell ⟨w.heap.size + 1, 4, none⟩ (.int .i64 0)).setCell ⟨w.heap.size + 1, 5, none⟩ (.int .i64 0)).setCell ⟨w.heap.size + 1, 6, none⟩ (.int .i64 0)) from (by repeat (first | with_reducible exact Below.refl _ _ | with_reducible refine Below.setCell ?_ (by simp <;> omega) _ | with_reducible refine Below.alloc ?_ (by simp <;> omega) _ | with_reducible refine Below.drew ?_)))).trans (belowK_b (w := w) (Nat.le_refl _) _ D _ _ (by omega) hK' rfl rfl)
    case stop =>
      rintro D cd pre W' hD ⟨k, hk, rfl⟩ ⟨⟨rfl, ini, last, e1, e2, e3, bL⟩, hB1⟩ hK
      obtain ⟨k', rfl⟩ : ∃ k', k = k' + 1 := by
        cases k with
        | zero => simp [upto] at e1
        | succ k' => exact ⟨k', rfl⟩
      rw [upto_succ] at e1
      obtain ⟨rfl, e5⟩ := List.append_inj' e1 rfl
      obtain rfl : bw zs k' = last := by simpa using e5
      obtain ⟨q, hq, rfl⟩ : ∃ q, q < zs.length ∧ k' = zs.length - (q + 1) := ⟨zs.length - 1 - k', by omega, by omega⟩
      rw [bw_at zs q hq] at e3 bL
      have HZ := Hid.mk_ (show cellAtP l i cell = zs[q] by
        rw [HP.out]
        refine swapTo_hit cell zs q hq e3 (fun j h1 hj => ?_)
        have := e2 _ (mem_upto (f := bw zs) (j := zs.length - (j + 1)) (by omega))
        rwa [bw_at zs j hj] at this)
      clear e1 e2 e3 e5
      gi_wp2
      refine ⟨by simp, .inl ⟨_, _, rfl, run_takeDeferred hK, ?_⟩⟩
      have bE := box_own (β := Unit) _ _ _ () _ _ _ bL (grownBy_putObj' _ D (.deferred none)) (fun r e => by cases e; exact ⟨_, hK, rfl⟩)
      have e0 := bE.cell 0 _ rfl
      have e1 := bE.cell 1 _ rfl
      have e2 := bE.cell 2 _ rfl
      have e3 := bE.cell 3 _ rfl
      have e4 := bE.cell 4 _ rfl
      have e5 := bE.cell 5 _ rfl
      have e6 := bE.cell 6 _ rfl
      refine ⟨.agg #[.int .i64 zs[q].Kind, .int .i64 zs[q].Who, .int .i64 zs[q].Serial, .int .i64 zs[q].Cell, .int .i64 zs[q].Handle, .int .i64 zs[q].Val, .int .i64 zs[q].Code], by simp [results, Try.results12, go_sem, e0, e1, e2, e3, e4, e5, e6], by rw [HZ.out], ?_⟩
      exact hB1.trans (belowK_b (w := w) (Nat.le_refl _) _ D _ _ (by omega) hK rfl rfl)
  · gi_wp2_with (refine ⟨trivial, ?_⟩; gi_at_call 37; refine (Backward_in Fence.wide 5 trivial hro _ _ _ _).mono ?_; rintro e w' ⟨rfl, rfl⟩)
    have bC : Boxed (((w.alloc (.cells #[.int .i64 cell] 3)).alloc (.cells #[.int .i64 0, .int .i64 0, .int .i64 0, .int .i64 0, .int .i64 0, .int .i64 0, .int .i64 0] 25)).alloc (.cells #[.slice A 0 c] 27)) w.heap.size 3 (.int .i64 cell) := ((Boxed.new w 3 (.int .i64 cell)).alloc (.cells #[.int .i64 0, .int .i64 0, .int .i64 0, .int .i64 0, .int .i64 0, .int .i64 0, .int .i64 0] 25)).alloc (.cells #[.slice A 0 c] 27)
    have bR : Box (((w.alloc (.cells #[.int .i64 cell] 3)).alloc (.cells #[.int .i64 0, .int .i64 0, .int .i64 0, .int .i64 0, .int .i64 0, .int .i64 0, .int .i64 0] 25)).alloc (.cells #[.slice A 0 c] 27)) (w.heap.size + 1) [.int .i64 0, .int .i64 0, .int .i64 0, .int .i64 0, .int .i64 0, .int .i64 0, .int .i64 0] := by have a := (Box.new (w.alloc (.cells #[.int .i64 cell] 3)) #[.int .i64 0, .int .i64 0, .int .i64 0, .int .i64 0, .int .i64 0, .int .i64 0, .int .i64 0] 25).alloc (.cells #[.slice A 0 c] 27); simpa only [World.size_alloc] using a
    have bS : Boxed (((w.alloc (.cells #[.int .i64 cell] 3)).alloc (.cells #[.int .i64 0, .int .i64 0, .int .i64 0, .int .i64 0, .int .i64 0, .int .i64 0, .int .i64 0] 25)).alloc (.cells #[.slice A 0 c] 27)) (w.heap.size + 1 + 1) 27 (.slice A 0 c) := by have a := Boxed.new ((w.alloc (.cells #[.int .i64 cell] 3)).alloc (.cells #[.int .i64 0, .int .i64 0, .int .i64 0, .int .i64 0, .int .i64 0, .int .i64 0, .int .i64 0] 25)) 27 (.slice A 0 c); simpa only [World.size_alloc] using a
    have hB0 : Below w.heap.size w (((w.alloc (.cells #[.int .i64 cell] 3)).alloc (.cells #[.int .i64 0, .int .i64 0, .int .i64 0, .int .i64 0, .int .i64 0, .int .i64 0, .int .i64 0] 25)).alloc (.cells #[.slice A 0 c] 27)) := by repeat (first | exact Below.refl _ _ | refine Below.alloc ?_ (by simp <;> omega) _ | refine below_grow_of ?_ (by simp <;> omega) _ _ | refine Below.drew ?_ | refine below_drewN ?_ _)
    have hsz : (((w.alloc (.cells #[.int .i64 cell] 3)).alloc (.cells #[.int .i64 0, .int .i64 0, .int .i64 0, .int .i64 0, .int .i64 0, .int .i64 0, .int .i64 0] 25)).alloc (.cells #[.slice A 0 c] 27)).heap.size = w.heap.size + 3 := by simp
    generalize hW0 : (((w.alloc (.cells #[.int .i64 cell] 3)).alloc (.cells #[.int .i64 0, .int .i64 0, .int .i64 0, .int .i64 0, .int .i64 0, .int .i64 0, .int .i64 0] 25)).alloc (.cells #[.slice A 0 c] 27)) = W at bC bR bS hB0 hsz ⊢
    clear hW0
    refine wpIn_rangeFunc_ownH hro (by omega) (gf := 78) (lb := #[.pointer (some ⟨w.heap.size + 1 + 1, 0, none⟩)]) rfl trivial (enters_of Try.func78 (by kernel_rfl) rfl)
      (Backward_stops Fence.wide 5 trivial hro (by omega) (w.heap.size + 1 + 1) A c zs 0 hlz W (by omega) bS.cell (rd_up hz hB0)) belowK_t (belowK_b (by omega)) (Below.refl _ _) (fun _ => rfl)
      (fun pre W' => (∀ p ∈ pre, swapB cell p.2 = false) ∧ Below W.heap.size W W')
      (fun cd pre W' => (cd = .ret ∧ ∃ ini last, pre = ini ++ [last] ∧ (∀ p ∈ ini, swapB cell p.2 = false) ∧ swapB cell last.2 = true ∧ Box W' (w.heap.size + 1) [.int .i64 last.2.Kind, .int .i64 last.2.Who, .int .i64 last.2.Serial, .int .i64 last.2.Cell, .int .i64 last.2.Handle, .int .i64 last.2.Val, .int .i64 last.2.Code]) ∧ Below w.heap.size w W')
      (OwnFrom.and (ownFrom_pure _ _) (ownFrom_below (Nat.le_refl _) (Nat.le_refl _)))
      (fun cd => OwnFrom.and (Own.from (fun s X Y row hs hg hr => by obtain ⟨q1, ini, last, e1, e2, e3, e4⟩ := hs; exact ⟨q1, ini, last, e1, e2, e3, box_own (β := Unit) _ _ _ () X Y row e4 hg hr⟩) _) (ownFrom_below (Nat.le_refl _) (by omega)))
      ⟨by simp, Below.refl _ _⟩
      (fun x a' W' => ∃ Bx, w.heap.size + 1 < Bx ∧ Box W' Bx [.int .i64 x.2.Kind, .int .i64 x.2.Who, .int .i64 x.2.Serial, .int .i64 x.2.Cell, .int .i64 x.2.Handle, .int .i64 x.2.Val, .int .i64 x.2.Code] ∧ a' = { tmps := #[.slice A l.length c, .int .i64 i, .int .i64 cell, undef, undef, .pointer (some ⟨w.heap.size, 0, none⟩), .pointer (some ⟨w.heap.size + 1, 0, none⟩), undef, .pointer (some ⟨Bx, 0, none⟩), .slice A l.length c, .int .i64 i, .slice A l.length c, .int .i64 (l.length : Int), .int .i64 (i : Int), .int .i64 (0 : Int), .slice A 0 c, .func (.func 78) #[] #[.pointer (some ⟨w.heap.size + 1 + 1, 0, none⟩)], .int .i64 x.1, .agg #[.int .i64 x.2.Kind, .int .i64 x.2.Who, .int .i64 x.2.Serial, .int .i64 x.2.Cell, .int .i64 x.2.Handle, .int .i64 x.2.Val, .int .i64 x.2.Code], undef, undef, undef, undef, undef, undef, undef, undef, undef, undef, undef], defers := [] })
      (fun x a' _ X Y row hs hg hr => by obtain ⟨Bx, q1, q2, q3⟩ := hs; exact ⟨Bx, q1, box_own (β := Unit) _ _ _ () X Y row q2 hg (fun r e => (hr r e).2), q3⟩)
      ?assign ?body ?done ?stop
    case assign =>
      rintro lo pre x W' K ⟨hp, hB1⟩ hK
      have hz1 := hB1.size
      gi_wp2
      exact hK _ _ ((KeepsOthers.alloc _ _).from _) ((Below.refl _ W').alloc hz1 _) ⟨hp, hB1.alloc hz1 _⟩ ⟨W'.heap.size, by omega, Box.new W' #[.int .i64 x.2.Kind, .int .i64 x.2.Who, .int .i64 x.2.Serial, .int .i64 x.2.Cell, .int .i64 x.2.Handle, .int .i64 x.2.Val, .int .i64 x.2.Code] 25, rfl⟩
    case body =>
      rintro lo pre x a' W' hl _ ⟨hp, hB1⟩ ⟨Bx, hBx, bX, rfl⟩ hlt
      exact absurd hlt (by omega)
    case done =>
      rintro D ys W' hD rfl ⟨hp, hB1⟩ hK
      have bR1 := bR.below hB1
      have hz1 := hB1.size
      have r0 := bR1.cell 0 _ rfl
      have r1 := bR1.cell 1 _ rfl
      have r2 := bR1.cell 2 _ rfl
      have r3 := bR1.cell 3 _ rfl
      have r4 := bR1.cell 4 _ rfl
      have r5 := bR1.cell 5 _ rfl
      have r6 := bR1.cell 6 _ rfl
      have fr := bR1.fro
      have HZ := Hid.mk_ (show cellAtP l i cell = zeroEv by
        rw [HP.out]
        refine swapTo_none cell zs (fun e he => ?_)
        obtain ⟨j, hj, rfl⟩ := List.getElem_of_mem he
        have := hp _ (mem_upto (f := bw zs) (k := zs.length) (j := zs.length - (j + 1)) (by omega))
        rwa [bw_at zs j hj] at this)
      gi_wp2
      have hK' : (((((((W'.setCell ⟨w.heap.size + 1, 0, none⟩ (.int .i64 0)).setCell ⟨w.heap.size + 1, 1, none⟩ (.int .i64 0)).setCell ⟨w.heap.size + 1, 2, none⟩ (.int .i64 0)).setCell ⟨w.heap.size + 1, 3, none⟩ (.int .i64 0)).setCell ⟨w.heap.size + 1, 4, none⟩ (.int .i64 0)).setCell ⟨w.heap.size + 1, 5, none⟩ (.int .i64 0)).setCell ⟨w.heap.size + 1, 6, none⟩ (.int .i64 0)).heap[D]? = some (.deferred (some [])) := (show KeepsOthers W' (((((((W'.setCell ⟨w.heap.size + 1, 0, none⟩ (.int .i64 0)).setCell ⟨w.heap.size + 1, 1, none⟩ (.int .i64 0)).setCell ⟨w.heap.size + 1, 2, none⟩ (.int .i64 0)).setCell ⟨w.heap.size + 1, 3, none⟩ (.int .i64 0)).setCell ⟨w.heap.size + 1, 4, none⟩ (.int .i64 0)).setCell ⟨w.heap.size + 1, 5, none⟩ (.int .i64 0)).setCell ⟨w.heap.size + 1, 6, none⟩ (.int .i64 0)) from (by repeat (first | with_reducible exact KeepsOthers.refl _ | with_reducible refine KeepsOthers.trans ?_ (KeepsOthers.setCell _ _ _)))).same D _ hK rfl
      have bZ : Box (((((((W'.setCell ⟨w.heap.size + 1, 0, none⟩ (.int .i64 0)).setCell ⟨w.heap.size + 1, 1, none⟩ (.int .i64 0)).setCell ⟨w.heap.size + 1, 2, none⟩ (.int .i64 0)).setCell ⟨w.heap.size + 1, 3, none⟩ (.int .i64 0)).setCell ⟨w.heap.size + 1, 4, none⟩ (.int .i64 0)).setCell ⟨w.heap.size + 1, 5, none⟩ (.int .i64 0)).setCell ⟨w.heap.size + 1, 6, none⟩ (.int .i64 0)) (w.heap.size + 1) [.int .i64 0, .int .i64 0, .int .i64 0, .int .i64 0, .int .i64 0, .int .i64 0, .int .i64 0] := (((((((bR1.set 0 (.int .i64 0)).set 1 (.int .i64 0)).set 2 (.int .i64 0)).set 3 (.int .i64 0)).set 4 (.int .i64 0)).set 5 (.int .i64 0)).set 6 (.int .i64 0))
      refine ⟨by simp, .inl ⟨_, _, rfl, run_takeDeferred hK', ?_⟩⟩
      have bE := box_own (β := Unit) _ _ _ () _ _ _ bZ (grownBy_putObj' _ D (.deferred none)) (fun r e => by cases e; exact ⟨_, hK', rfl⟩)
      have e0 := bE.cell 0 _ rfl
      have e1 := bE.cell 1 _ rfl
      have e2 := bE.cell 2 _ rfl
      have e3 := bE.cell 3 _ rfl
      have e4 := bE.cell 4 _ rfl
      have e5 := bE.cell 5 _ rfl
      have e6 := bE.cell 6 _ rfl
      refine ⟨.agg #[.int .i64 0, .int .i64 0, .int .i64 0, .int .i64 0, .int .i64 0, .int .i64 0, .int .i64 0], by simp [results, Try.results12, go_sem, e0, e1, e2, e3, e4, e5, e6], by rw [HZ.out]; rfl, ?_⟩
      exact ((hB0.trans (hB1.mono (by omega))).trans (show Below w.heap.size W' (((((((W'.setCell ⟨w.heap.size + 1, 0, none⟩ (.int .i64 0)).setCell ⟨w.heap.size + 1, 1, none⟩ (.int .i64 0)).setCell ⟨w.heap.size + 1, 2, none⟩ (.int .i64 0)).setCell ⟨w.heap.size + 1, 3, none⟩ (.int .i64 0)).setCell ⟨w.heap.size + 1, 4, none⟩ (.int .i64 0)).setCell ⟨w.heap.size + 1, 5, none⟩ (.int .i64 0)).setCell ⟨w.heap.size + 1, 6, none⟩ (.int .i64 0)) from (by repeat (first | with_reducible exact Below.refl _ _ | with_reducible refine Below.setCell ?_ (by simp <;> omega) _ | with_reducible refine Below.alloc ?_ (by simp <;> omega) _ | with_reducible refine Below.drew ?_)))).trans (belowK_b (w := w) (Nat.le_refl _) _ D _ _ (by omega) hK' rfl rfl)
    case stop =>
      rintro D cd pre W' hD ⟨k, hk, rfl⟩ ⟨⟨rfl, ini, last, e1, e2, e3, bL⟩, hB1⟩ hK
      obtain ⟨k', rfl⟩ : ∃ k', k = k' + 1 := by
        cases k with
        | zero => simp [upto] at e1
        | succ k' => exact ⟨k', rfl⟩
      rw [upto_succ] at e1
      obtain ⟨rfl, e5⟩ := List.append_inj' e1 rfl
      obtain rfl : bw zs k' = last := by simpa using e5
      obtain ⟨q, hq, rfl⟩ : ∃ q, q < zs.length ∧ k' = zs.length - (q + 1) := ⟨zs.length - 1 - k', by omega, by omega⟩
      rw [bw_at zs q hq] at e3 bL
      have HZ := Hid.mk_ (show cellAtP l i cell = zs[q] by
        rw [HP.out]
        refine swapTo_hit cell zs q hq e3 (fun j h1 hj => ?_)
        have := e2 _ (mem_upto (f := bw zs) (j := zs.length - (j + 1)) (by omega))
        rwa [bw_at zs j hj] at this)
      clear e1 e2 e3 e5
      gi_wp2
      refine ⟨by simp, .inl ⟨_, _, rfl, run_takeDeferred hK, ?_⟩⟩
      have bE := box_own (β := Unit) _ _ _ () _ _ _ bL (grownBy_putObj' _ D (.deferred none)) (fun r e => by cases e; exact ⟨_, hK, rfl⟩)
      have e0 := bE.cell 0 _ rfl
      have e1 := bE.cell 1 _ rfl
      have e2 := bE.cell 2 _ rfl
      have e3 := bE.cell 3 _ rfl
      have e4 := bE.cell 4 _ rfl
      have e5 := bE.cell 5 _ rfl
      have e6 := bE.cell 6 _ rfl
      refine ⟨.agg #[.int .i64 zs[q].Kind, .int .i64 zs[q].Who, .int .i64 zs[q].Serial, .int .i64 zs[q].Cell, .int .i64 zs[q].Handle, .int .i64 zs[q].Val, .int .i64 zs[q].Code], by simp [results, Try.results12, go_sem, e0, e1, e2, e3, e4, e5, e6], by rw [HZ.out], ?_⟩
      exact hB1.trans (belowK_b (w := w) (Nat.le_refl _) _ D _ _ (by omega) hK rfl rfl)
  · gi_wp2_with (refine ⟨trivial, ?_⟩; gi_at_call 37; refine (Backward_in Fence.wide 5 trivial hro _ _ _ _).mono ?_; rintro e w' ⟨rfl, rfl⟩)
    have bC : Boxed (((w.alloc (.cells #[.int .i64 cell] 3)).alloc (.cells #[.int .i64 0, .int .i64 0, .int .i64 0, .int .i64 0, .int .i64 0, .int .i64 0, .int .i64 0] 25)).alloc (.cells #[.slice A m c] 27)) w.heap.size 3 (.int .i64 cell) := ((Boxed.new w 3 (.int .i64 cell)).alloc (.cells #[.int .i64 0, .int .i64 0, .int .i64 0, .int .i64 0, .int .i64 0, .int .i64 0, .int .i64 0] 25)).alloc (.cells #[.slice A m c] 27)
    have bR : Box (((w.alloc (.cells #[.int .i64 cell] 3)).alloc (.cells #[.int .i64 0, .int .i64 0, .int .i64 0, .int .i64 0, .int .i64 0, .int .i64 0, .int .i64 0] 25)).alloc (.cells #[.slice A m c] 27)) (w.heap.size + 1) [.int .i64 0, .int .i64 0, .int .i64 0, .int .i64 0, .int .i64 0, .int .i64 0, .int .i64 0] := by have a := (Box.new (w.alloc (.cells #[.int .i64 cell] 3)) #[.int .i64 0, .int .i64 0, .int .i64 0, .int .i64 0, .int .i64 0, .int .i64 0, .int .i64 0] 25).alloc (.cells #[.slice A m c] 27); simpa only [World.size_alloc] using a
    have bS : Boxed (((w.alloc (.cells #[.int .i64 cell] 3)).alloc (.cells #[.int .i64 0, .int .i64 0, .int .i64 0, .int .i64 0, .int .i64 0, .int .i64 0, .int .i64 0] 25)).alloc (.cells #[.slice A m c] 27)) (w.heap.size + 1 + 1) 27 (.slice A m c) := by have a := Boxed.new ((w.alloc (.cells #[.int .i64 cell] 3)).alloc (.cells #[.int .i64 0, .int .i64 0, .int .i64 0, .int .i64 0, .int .i64 0, .int .i64 0, .int .i64 0] 25)) 27 (.slice A m c); simpa only [World.size_alloc] using a
    have hB0 : Below w.heap.size w (((w.alloc (.cells #[.int .i64 cell] 3)).alloc (.cells #[.int .i64 0, .int .i64 0, .int .i64 0, .int .i64 0, .int .i64 0, .int .i64 0, .int .i64 0] 25)).alloc (.cells #[.slice A m c] 27)) := by repeat (first | exact Below.refl _ _ | refine Below.alloc ?_ (by simp <;> omega) _ | refine below_grow_of ?_ (by simp <;> omega) _ _ | refine Below.drew ?_ | refine below_drewN ?_ _)
    have hsz : (((w.alloc (.cells #[.int .i64 cell] 3)).alloc (.cells #[.int .i64 0, .int .i64 0, .int .i64 0, .int .i64 0, .int .i64 0, .int .i64 0, .int .i64 0] 25)).alloc (.cells #[.slice A m c] 27)).heap.size = w.heap.size + 3 := by simp
    generalize hW0 : (((w.alloc (.cells #[.int .i64 cell] 3)).alloc (.cells #[.int .i64 0, .int .i64 0, .int .i64 0, .int .i64 0, .int .i64 0, .int .i64 0, .int .i64 0] 25)).alloc (.cells #[.slice A m c] 27)) = W at bC bR bS hB0 hsz ⊢
    clear hW0
    refine wpIn_rangeFunc_ownH hro (by omega) (gf := 78) (lb := #[.pointer (some ⟨w.heap.size + 1 + 1, 0, none⟩)]) rfl trivial (enters_of Try.func78 (by kernel_rfl) rfl)
      (Backward_stops Fence.wide 5 trivial hro (by omega) (w.heap.size + 1 + 1) A c zs m hlz W (by omega) bS.cell (rd_up hz hB0)) belowK_t (belowK_b (by omega)) (Below.refl _ _) (fun _ => rfl)
      (fun pre W' => (∀ p ∈ pre, swapB cell p.2 = false) ∧ Below W.heap.size W W')
      (fun cd pre W' => (cd = .ret ∧ ∃ ini last, pre = ini ++ [last] ∧ (∀ p ∈ ini, swapB cell p.2 = false) ∧ swapB cell last.2 = true ∧ Box W' (w.heap.size + 1) [.int .i64 last.2.Kind, .int .i64 last.2.Who, .int .i64 last.2.Serial, .int .i64 last.2.Cell, .int .i64 last.2.Handle, .int .i64 last.2.Val, .int .i64 last.2.Code]) ∧ Below w.heap.size w W')
      (OwnFrom.and (ownFrom_pure _ _) (ownFrom_below (Nat.le_refl _) (Nat.le_refl _)))
      (fun cd => OwnFrom.and (Own.from (fun s X Y row hs hg hr => by obtain ⟨q1, ini, last, e1, e2, e3, e4⟩ := hs; exact ⟨q1, ini, last, e1, e2, e3, box_own (β := Unit) _ _ _ () X Y row e4 hg hr⟩) _) (ownFrom_below (Nat.le_refl _) (by omega)))
      ⟨by simp, Below.refl _ _⟩
      (fun x a' W' => ∃ Bx, w.heap.size + 1 < Bx ∧ Box W' Bx [.int .i64 x.2.Kind, .int .i64 x.2.Who, .int .i64 x.2.Serial, .int .i64 x.2.Cell, .int .i64 x.2.Handle, .int .i64 x.2.Val, .int .i64 x.2.Code] ∧ a' = { tmps := #[.slice A l.length c, .int .i64 (m : Int), .int .i64 cell, undef, undef, .pointer (some ⟨w.heap.size, 0, none⟩), .pointer (some ⟨w.heap.size + 1, 0, none⟩), undef, .pointer (some ⟨Bx, 0, none⟩), .slice A l.length c, .int .i64 (m : Int), .slice A l.length c, .int .i64 (l.length : Int), .int .i64 ((m : Int) : Int), .int .i64 ((m : Int) : Int), .slice A m c, .func (.func 78) #[] #[.pointer (some ⟨w.heap.size + 1 + 1, 0, none⟩)], .int .i64 x.1, .agg #[.int .i64 x.2.Kind, .int .i64 x.2.Who, .int .i64 x.2.Serial, .int .i64 x.2.Cell, .int .i64 x.2.Handle, .int .i64 x.2.Val, .int .i64 x.2.Code], undef, undef, undef, undef, undef, undef, undef, undef, undef, undef, undef], defers := [] })
      (fun x a' _ X Y row hs hg hr => by obtain ⟨Bx, q1, q2, q3⟩ := hs; exact ⟨Bx, q1, box_own (β := Unit) _ _ _ () X Y row q2 hg (fun r e => (hr r e).2), q3⟩)
      ?assign ?body ?done ?stop
    case assign =>
      rintro lo pre x W' K ⟨hp, hB1⟩ hK
      have hz1 := hB1.size
      gi_wp2
      exact hK _ _ ((KeepsOthers.alloc _ _).from _) ((Below.refl _ W').alloc hz1 _) ⟨hp, hB1.alloc hz1 _⟩ ⟨W'.heap.size, by omega, Box.new W' #[.int .i64 x.2.Kind, .int .i64 x.2.Who, .int .i64 x.2.Serial, .int .i64 x.2.Cell, .int .i64 x.2.Handle, .int .i64 x.2.Val, .int .i64 x.2.Code] 25, rfl⟩
    case body =>
      rintro lo pre x a' W' hl _ ⟨hp, hB1⟩ ⟨Bx, hBx, bX, rfl⟩ hlt
      have bR1 := bR.below hB1
      have cC := (hB1.cell (p := ⟨w.heap.size, 0, none⟩) (show w.heap.size < W.heap.size by omega)).trans bC.cell
      have hz1 := hB1.size
      have x0 := bX.cell 0 _ rfl
      have x1 := bX.cell 1 _ rfl
      have x2 := bX.cell 2 _ rfl
      have x3 := bX.cell 3 _ rfl
      have x4 := bX.cell 4 _ rfl
      have x5 := bX.cell 5 _ rfl
      have x6 := bX.cell 6 _ rfl
      have r0 := bR1.cell 0 _ rfl
      have r1 := bR1.cell 1 _ rfl
      have r2 := bR1.cell 2 _ rfl
      have r3 := bR1.cell 3 _ rfl
      have r4 := bR1.cell 4 _ rfl
      have r5 := bR1.cell 5 _ rfl
      have r6 := bR1.cell 6 _ rfl
      have fr := bR1.fro
      by_cases hs : swapB cell x.2 = true
      · obtain ⟨k1, k2⟩ := swap_two hs
        have k1' : (x.2.Kind == 2) = true := by simpa using k1
        have k2' : (x.2.Cell == cell) = true := by simpa using k2
        clear k1 k2
        gi_wp2
        exact ⟨(by repeat (first | with_reducible exact KeepsFrom.refl _ _ | with_reducible refine KeepsFrom.trans ?_ ((KeepsOthers.setCell _ _ _).from _))), ⟨rfl, pre, x, rfl, hp, hs, (((((((bR1.set 0 (.int .i64 x.2.Kind)).set 1 (.int .i64 x.2.Who)).set 2 (.int .i64 x.2.Serial)).set 3 (.int .i64 x.2.Cell)).set 4 (.int .i64 x.2.Handle)).set 5 (.int .i64 x.2.Val)).set 6 (.int .i64 x.2.Code))⟩, (hB0.trans (hB1.mono (by omega))).trans (by repeat (first | with_reducible exact Below.refl _ _ | with_reducible refine Below.setCell ?_ (by simp <;> omega) _ | with_reducible refine Below.alloc ?_ (by simp <;> omega) _ | with_reducible refine Below.drew ?_))⟩
      · have hs' : swapB cell x.2 = false := by simpa using hs
        have hq : (∀ p ∈ pre ++ [x], swapB cell p.2 = false) := fun p hp' => (List.mem_append.1 hp').elim (hp p) (fun e => by simp at e; subst e; exact hs')
        by_cases k1 : x.2.Kind = 2
        · have k1' : (x.2.Kind == 2) = true := by simpa using k1
          have k2' : (x.2.Cell == cell) = false := by simp [swapB, k1] at hs'; simpa using hs'
          clear k1
          gi_wp2
          exact ⟨KeepsFrom.refl _ _, Below.refl _ _, hq, hB1⟩
        · have k1' : (x.2.Kind == 2) = false := by simpa using k1
          clear k1
          gi_wp2
          exact ⟨KeepsFrom.refl _ _, Below.refl _ _, hq, hB1⟩
    case done =>
      rintro D ys W' hD rfl ⟨hp, hB1⟩ hK
      have bR1 := bR.below hB1
      have hz1 := hB1.size
      have r0 := bR1.cell 0 _ rfl
      have r1 := bR1.cell 1 _ rfl
      have r2 := bR1.cell 2 _ rfl
      have r3 := bR1.cell 3 _ rfl
      have r4 := bR1.cell 4 _ rfl
      have r5 := bR1.cell 5 _ rfl
      have r6 := bR1.cell 6 _ rfl
      have fr := bR1.fro
      have HZ := Hid.mk_ (show cellAtP l (m : Int) cell = zeroEv by
        rw [HP.out]
        refine swapTo_none cell zs (fun e he => ?_)
        obtain ⟨j, hj, rfl⟩ := List.getElem_of_mem he
        have := hp _ (mem_upto (f := bw zs) (k := zs.length) (j := zs.length - (j + 1)) (by omega))
        rwa [bw_at zs j hj] at this)
      gi_wp2
      have hK' : (((((((W'.setCell ⟨w.heap.size + 1, 0, none⟩ (.int .i64 0)).setCell ⟨w.heap.size + 1, 1, none⟩ (.int .i64 0)).setCell ⟨w.heap.size + 1, 2, none⟩ (.int .i64 0)).setCell ⟨w.heap.size + 1, 3, none⟩ (.int .i64 0)).setCell ⟨w.heap.size + 1, 4, none⟩ (.int .i64 0)).setCell ⟨w.heap.size + 1, 5, none⟩ (.int .i64 0)).setCell ⟨w.heap.size + 1, 6, none⟩ (.int .i64 0)).heap[D]? = some (.deferred (some [])) := (show KeepsOthers W' (((((((W'.setCell ⟨w.heap.size + 1, 0, none⟩ (.int .i64 0)).setCell ⟨w.heap.size + 1, 1, none⟩ (.int .i64 0)).setCell ⟨w.heap.size + 1, 2, none⟩ (.int .i64 0)).setCell ⟨w.heap.size + 1, 3, none⟩ (.int .i64 0)).setCell ⟨w.heap.size + 1, 4, none⟩ (.int .i64 0)).setCell ⟨w.heap.size + 1, 5, none⟩ (.int .i64 0)).setCell ⟨w.heap.size + 1, 6, none⟩ (.int .i64 0)) from (by repeat (first | with_reducible exact KeepsOthers.refl _ | with_reducible refine KeepsOthers.trans ?_ (KeepsOthers.setCell _ _ _)))).same D _ hK rfl
      have bZ : Box (((((((W'.setCell ⟨w.heap.size + 1, 0, none⟩ (.int .i64 0)).setCell ⟨w.heap.size + 1, 1, none⟩ (.int .i64 0)).setCell ⟨w.heap.size + 1, 2, none⟩ (.int .i64 0)).setCell ⟨w.heap.size + 1, 3, none⟩ (.int .i64 0)).setCell ⟨w.heap.size + 1, 4, none⟩ (.int .i64 0)).setCell ⟨w.heap.size + 1, 5, none⟩ (.int .i64 0)).setCell ⟨w.heap.size + 1, 6, none⟩ (.int .i64 0)) (w.heap.size + 1) [.int .i64 0, .int .i64 0, .int .i64 0, .int .i64 0, .int .i64 0, .int .i64 0, .int .i64 0] := (((((((bR1.set 0 (.int .i64 0)).set 1 (.int .i64 0)).set 2 (.int .i64 0)).set 3 (.int .i64 0)).set 4 (.int .i64 0)).set 5 (.int .i64 0)).set 6 (.int .i64 0))
      refine ⟨by simp, .inl ⟨_, _, rfl, run_takeDeferred hK', ?_⟩⟩
      have bE := box_own (β := Unit) _ _ _ () _ _ _ bZ (grownBy_putObj' _ D (.deferred none)) (fun r e => by cases e; exact ⟨_, hK', rfl⟩)
      have e0 := bE.cell 0 _ rfl
      have e1 := bE.cell 1 _ rfl
      have e2 := bE.cell 2 _ rfl
      have e3 := bE.cell 3 _ rfl
      have e4 := bE.cell 4 _ rfl
      have e5 := bE.cell 5 _ rfl
      have e6 := bE.cell 6 _ rfl
      refine ⟨.agg #[.int .i64 0, .int .i64 0, .int .i64 0, .int .i64 0, .int .i64 0, .int .i64 0, .int .i64 0], by simp [results, Try.results12, go_sem, e0, e1, e2, e3, e4, e5, e6], by rw [HZ.out]; rfl, ?_⟩
      exact ((hB0.trans (hB1.mono (by omega))).trans (show Below w.heap.size W' (((((((W'.setCell ⟨w.heap.size + 1, 0, none⟩ (.int .i64 0)).setCell ⟨w.heap.size + 1, 1, none⟩ (.int .i64 0)).setCell ⟨w.heap.size + 1, 2, none⟩ (.int .i64 0)).setCell ⟨w.heap.size + 1, 3, none⟩ (.int .i64 0)).setCell ⟨w.heap.size + 1, 4, none⟩ (.int .i64 0)).setCell ⟨w.heap.size + 1, 5, none⟩ (.int .i64 0)).setCell ⟨w.heap.size + 1, 6, none⟩ (.int .i64 0)) from (by repeat (first | with_reducible exact Below.refl _ _ | with_reducible refine Below.setCell ?_ (by simp <;> omega) _ | with_reducible refine Below.alloc ?_ (by simp <;> omega) _ | with_reducible refine Below.drew ?_)))).trans (belowK_b (w := w) (Nat.le_refl _) _ D _ _ (by omega) hK' rfl rfl)
    case stop =>
      rintro D cd pre W' hD ⟨k, hk, rfl⟩ ⟨⟨rfl, ini, last, e1, e2, e3, bL⟩, hB1⟩ hK
      obtain ⟨k', rfl⟩ : ∃ k', k = k' + 1 := by
        cases k with
        | zero => simp [upto] at e1
        | succ k' => exact ⟨k', rfl⟩
      rw [upto_succ] at e1
      obtain ⟨rfl, e5⟩ := List.append_inj' e1 rfl
      obtain rfl : bw zs k' = last := by simpa using e5
      obtain ⟨q, hq, rfl⟩ : ∃ q, q < zs.length ∧ k' = zs.length - (q + 1) := ⟨zs.length - 1 - k', by omega, by omega⟩
      rw [bw_at zs q hq] at e3 bL
      have HZ := Hid.mk_ (show cellAtP l (m : Int) cell = zs[q] by
        rw [HP.out]
        refine swapTo_hit cell zs q hq e3 (fun j h1 hj => ?_)
        have := e2 _ (mem_upto (f := bw zs) (j := zs.length - (j + 1)) (by omega))
        rwa [bw_at zs j hj] at this)
      clear e1 e2 e3 e5
      gi_wp2
      refine ⟨by simp, .inl ⟨_, _, rfl, run_takeDeferred hK, ?_⟩⟩
      have bE := box_own (β := Unit) _ _ _ () _ _ _ bL (grownBy_putObj' _ D (.deferred none)) (fun r e => by cases e; exact ⟨_, hK, rfl⟩)
      have e0 := bE.cell 0 _ rfl
      have e1 := bE.cell 1 _ rfl
      have e2 := bE.cell 2 _ rfl
      have e3 := bE.cell 3 _ rfl
      have e4 := bE.cell 4 _ rfl
      have e5 := bE.cell 5 _ rfl
      have e6 := bE.cell 6 _ rfl
      refine ⟨.agg #[.int .i64 zs[q].Kind, .int .i64 zs[q].Who, .int .i64 zs[q].Serial, .int .i64 zs[q].Cell, .int .i64 zs[q].Handle, .int .i64 zs[q].Val, .int .i64 zs[q].Code], by simp [results, Try.results12, go_sem, e0, e1, e2, e3, e4, e5, e6], by rw [HZ.out], ?_⟩
      exact hB1.trans (belowK_b (w := w) (Nat.le_refl _) _ D _ _ (by omega) hK rfl rfl)
end Go.Proofs.Ytdepckmjgpkjmaa
