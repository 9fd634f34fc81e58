/-
  slices.Backward: the contracts.
-/
import Derived.Test.YtdepckmjgpkjmaaT
import Derived.Test.YtdepckmjgpkjmaaL
import Derived.Deep.QuietTactic
import Derived.BigQuiet
import Derived.Deep.LoopGhost
import Derived.Deep.RegionHeld3
import Derived.Test.YtdepckmjgpkjmaaN
import Derived.Test.YtdepckmjgpkjmaaA
import Derived.WalkSpells
import Derived.Laws.Cover3
import Derived.Test.YtdepckmjgpkjmaaMS
import Derived.RangeFuncNested
import Derived.RangeFuncBound
import Derived.RangeFuncCalls
import Derived.RangeFuncLeaves
import Derived.Shelf.Abstract
import Derived.Shelf.RegionOpen
import Derived.WalkKit
import Derived.OwnWalkIn
import Derived.TacticsInMore
import Derived.LoopNIn
import Derived.LoopIn
namespace Go.Proofs.Ytdepckmjgpkjmaa
open Go.RowKit
open Go.Shelf

attribute [local go_sem] Oper.semAt_some
def zeroEv : Ev := ⟨0, 0, 0, 0, 0, 0, 0⟩
def swapB (cell : Int) (e : Ev) : Bool := e.Kind == 2 && e.Cell == cell
def swapTo (cell : Int) (l : List Ev) : Ev := l.foldl (fun o e => if swapB cell e = true then e else o) zeroEv
def cellAtP (l : List Ev) (i cell : Int) : Ev := swapTo cell (l.take (min i l.length).toNat)
theorem swapTo_snoc (cell : Int) (l : List Ev) (e : Ev) : swapTo cell (l ++ [e]) = if swapB cell e = true then e else swapTo cell l := by simp [swapTo]
theorem swapTo_no (cell : Int) : ∀ (r l : List Ev), (∀ e ∈ r, swapB cell e = false) → swapTo cell (l ++ r) = swapTo cell l
  | [], l, _ => by simp
  | e :: r, l, h => by
    have h1 := h e (by simp)
    rw [show l ++ e :: r = (l ++ [e]) ++ r by simp, swapTo_no cell r _ (fun x hx => h x (by simp [hx])), swapTo_snoc, if_neg (by rw [h1]; decide)]
theorem swapTo_none (cell : Int) (zs : List Ev) (h : ∀ e ∈ zs, swapB cell e = false) : swapTo cell zs = zeroEv := by
  have := swapTo_no cell zs [] h
  rw [List.nil_append] at this
  exact this
theorem swapTo_hit (cell : Int) (zs : List Ev) (m : Nat) (hm : m < zs.length) (h1 : swapB cell zs[m] = true) (h2 : ∀ j, m < j → (hj : j < zs.length) → swapB cell zs[j] = false) : swapTo cell zs = zs[m] := by
  have e : zs = (zs.take m ++ [zs[m]]) ++ zs.drop (m + 1) := by
    rw [← List.take_succ_eq_append_getElem hm, List.take_append_drop]
  have hd : ∀ x ∈ zs.drop (m + 1), swapB cell x = false := by
    intro x hx
    obtain ⟨k, hk, rfl⟩ := List.getElem_of_mem hx
    rw [List.getElem_drop]
    exact h2 _ (by omega) _
  have h3 : swapTo cell ((zs.take m ++ [zs[m]]) ++ zs.drop (m + 1)) = zs[m] := by
    rw [swapTo_no cell _ _ hd, swapTo_snoc, if_pos h1]
  rwa [← e] at h3
/-- what has come when k rounds are over -/
def upto {α : Type} (f : Nat → α) (k : Nat) : List α := (List.range k).map f
theorem upto_succ {α : Type} (f : Nat → α) (k : Nat) : upto f (k + 1) = upto f k ++ [f k] := by simp [upto, List.range_succ]
theorem upto_length {α : Type} (f : Nat → α) (k : Nat) : (upto f k).length = k := by simp [upto]
theorem mem_upto {α : Type} {f : Nat → α} {k j : Nat} (h : j < k) : f j ∈ upto f k := by simp only [upto, List.mem_map, List.mem_range]; exact ⟨j, h, rfl⟩
def bw (zs : List Ev) (j : Nat) : Int × Ev := (((zs.length - 1 - j : Nat) : Int), zs[zs.length - 1 - j]?.getD zeroEv)
theorem bw_at (zs : List Ev) (m : Nat) (hm : m < zs.length) : bw zs (zs.length - (m + 1)) = ((m : Int), zs[m]) := by
  unfold bw
  rw [show zs.length - 1 - (zs.length - (m + 1)) = m by omega, List.getElem?_eq_getElem hm]
  rfl
theorem RdL.take_ {α : Type} {T : FT α} {w : World} {B : Nat} {A : Option Addr} {n c : Nat} {l : List α} (h : RdL T w B (.slice A n c) l) (m : Nat) (hm : m ≤ l.length) : RdL T w B (.slice A m c) (l.take m) := by
  obtain ⟨A', c', hv, h1, h2, h3⟩ := h
  injection hv with e1 e2 e3
  subst e1 e2 e3
  have hl : (l.take m).length = m := by rw [List.length_take]; omega
  refine ⟨A, c, by rw [hl], by rw [hl]; omega, h2, fun hne => ?_⟩
  obtain ⟨g, off, hA, hg, hc⟩ := h3 (by rintro rfl; simp at hne)
  refine ⟨g, off, hA, hg, fun j u hu => hc j u ?_⟩
  have e : flat T l = flat T (l.take m) ++ flat T (l.drop m) := by rw [← flat_append, List.take_append_drop]
  rw [e, List.getElem?_append_left (List.getElem?_eq_some_iff.1 hu).1]
  exact hu
theorem block_kept {W W' : World} {row : Option Nat} {a : Addr} {v : Value} (h : W.cell? a = some v) (hg : W.grownBy W' row) (hrow : ∀ r, row = some r → ∃ o : Obj, W.heap[r]? = some o ∧ o.isCells = false) : W'.heap[a.block]? = W.heap[a.block]? := by
  obtain ⟨o, ho, hc⟩ := cells_of_cell h
  exact grownBy_keeps_cells hg hrow ho hc
theorem box_own {β : Type} (g : Nat) (v : Value) (vs : List Value) : Own (fun (_ : β) W => Box W g (v :: vs)) := fun _ _ _ _ hs hg hrow =>
  hs.of_block hg.size (block_kept (hs.cell 0 v rfl) hg hrow)

set_option maxRecDepth 100000 in
set_option maxHeartbeats 2000000 in
theorem Backward1_in (F : Fence) (n : Nat) (hf : F.fn 78) (hro : F.round = none) (hn : 1 ≤ n) (l Bs n₀ : Nat) (A : Option Addr) (c : Nat) (zs : List Ev) (J Jx : List (Int × Ev) → World → Prop)
    (hY : ∀ pre x W, J pre W → pre.length < zs.length → YieldAt F (n - 1) Try.prog l #[.int .i64 x.1, .agg #[.int .i64 x.2.Kind, .int .i64 x.2.Who, .int .i64 x.2.Serial, .int .i64 x.2.Cell, .int .i64 x.2.Handle, .int .i64 x.2.Val, .int .i64 x.2.Code]] W fun e W' =>
      (e = .returned (.bool true) ∧ J (pre ++ [x]) W' ∧ Below n₀ W W') ∨ (e = .returned (.bool false) ∧ Jx (pre ++ [x]) W'))
    (W : World) (hBs : W.cell? ⟨Bs, 0, none⟩ = some (.slice A zs.length c)) (hBn : Bs < n₀) (hR : RdL FEv W n₀ (.slice A zs.length c) zs) (h0 : J [] W) :
    CallsIn F n Try.prog 78 #[.func (.yield l) #[] #[], .pointer (some ⟨Bs, 0, none⟩)] W fun e W' => (∃ v, e = .returned v) ∧
      ((∃ ys, ys = upto (bw zs) zs.length ∧ J ys W') ∨ (∃ pre, (∃ k, k ≤ zs.length ∧ pre = upto (bw zs) k) ∧ Jx pre W')) := by
  obtain ⟨_, hln⟩ := RdL.len_ hR
  refine callsIn_of_wp Try.func78 rfl hf ?_ hro
  simp only [Try.ntmps78, List.size_toArray, List.length_cons, List.length_nil, Nat.reduceAdd, Nat.reduceSub, Array.replicate_succ, Array.replicate_zero, List.push_toArray, List.append_toArray, List.nil_append, List.cons_append]
  gi_wp2
  gi_loopw [3] (fun i wr => ∃ m : Nat, m ≤ zs.length ∧ i = .int .i64 ((m : Int) - 1) ∧ J (upto (bw zs) (zs.length - m)) wr ∧ Below n₀ W wr)
    (fun i _ => (intOf i + 1).toNat)
  case atStart => exact ⟨zs.length, Nat.le_refl _, rfl, by rw [Nat.sub_self]; exact h0, Below.refl _ _⟩
  case round =>
    obtain ⟨m, hm, rfl, hJs, hnx⟩ := hrel
    cases m with
    | zero =>
      gi_wp2
      go_end0
      exact ⟨⟨_, rfl⟩, .inl ⟨_, rfl, hJs⟩⟩
    | succ m =>
      have hlt : m < zs.length := by omega
      have e1 : ((m + 1 : Nat) : Int) - 1 = (m : Int) := by omega
      rw [e1]
      clear e1
      obtain ⟨g, off, cap', he, hg, _, _, hc⟩ := (hR.below hnx).at_ (List.getElem?_eq_getElem hlt)
      injection he with he1 he2 he3
      clear he2
      subst he1 he3
      have p0 : wr.cell? ⟨g, off + m * 7, none⟩ = some (.int .i64 zs[m].Kind) := hc 0 _ rfl
      have p1 : wr.cell? ⟨g, off + m * 7 + 1, none⟩ = some (.int .i64 zs[m].Who) := hc 1 _ rfl
      have p2 : wr.cell? ⟨g, off + m * 7 + 2, none⟩ = some (.int .i64 zs[m].Serial) := hc 2 _ rfl
      have p3 : wr.cell? ⟨g, off + m * 7 + 3, none⟩ = some (.int .i64 zs[m].Cell) := hc 3 _ rfl
      have p4 : wr.cell? ⟨g, off + m * 7 + 4, none⟩ = some (.int .i64 zs[m].Handle) := hc 4 _ rfl
      have p5 : wr.cell? ⟨g, off + m * 7 + 5, none⟩ = some (.int .i64 zs[m].Val) := hc 5 _ rfl
      have p6 : wr.cell? ⟨g, off + m * 7 + 6, none⟩ = some (.int .i64 zs[m].Code) := hc 6 _ rfl
      have hbs := (hnx.cell (p := ⟨Bs, 0, none⟩) hBn).trans hBs
      obtain ⟨fn, tmps, assign, body, hy, hR1⟩ := hY _ ((m : Int), zs[m]) wr hJs (by rw [upto_length]; omega)
      have HU := Hid.mk_ (show upto (bw zs) (zs.length - m) = upto (bw zs) (zs.length - (m + 1)) ++ [((m : Int), zs[m])] by rw [show zs.length - m = zs.length - (m + 1) + 1 by omega, upto_succ, bw_at zs m hlt])
      dsimp only at hy
      clear hc hR hBs
      gi_wp2
      refine hR1.mono ?_
      rintro e W3 (⟨rfl, hJ3, hk3⟩ | ⟨rfl, hJx3⟩)
      · gi_wp2
        go_roundw
        case rel => exact ⟨m, by omega, rfl, by rw [HU.out]; exact hJ3, hnx.trans hk3⟩
        case measure => simp [intOf] <;> omega
      · gi_wp2
        refine bodyPost_ret (results_none rfl _ _ _) rfl ?_
        exact ⟨⟨_, rfl⟩, .inr ⟨_, ⟨zs.length - m, by omega, HU.out.symm⟩, hJx3⟩⟩
set_option maxHeartbeats 1000000 in
theorem Backward_in (F : Fence) (n : Nat) (hf : F.fn 37) (hro : F.round = none) (a : Option Addr) (len cap : Nat) (w : World) :
    CallsIn F n Try.prog 37 #[.slice a len cap] w fun e w' => e = .returned (.func (.func 78) #[] #[.pointer (some ⟨w.heap.size, 0, none⟩)]) ∧ w' = w.alloc (.cells #[.slice a len cap] 27) := by
  refine callsIn_of_wp Try.func37 rfl hf ?_ hro
  simp only [Try.ntmps37, List.size_toArray, List.length_cons, List.length_nil, Nat.reduceAdd, Nat.reduceSub, Array.replicate_succ, Array.replicate_zero, List.push_toArray, List.append_toArray, List.nil_append, List.cons_append]
  gi_wp2
  go_ret
  exact ⟨rfl, rfl⟩
theorem Backward_stops (F : Fence) (n : Nat) (hf : F.fn 78) (hro : F.round = none) (hn : 1 ≤ n) (Bs : Nat) (A : Option Addr) (c : Nat) (zs : List Ev) (nz : Nat) (hnz : zs.length = nz) (w : World) (hBs : Bs < w.heap.size)
    (hc : w.cell? ⟨Bs, 0, none⟩ = some (.slice A nz c)) (hI : RdL FEv w w.heap.size (.slice A nz c) zs) :
    SeqStopsK F n Try.prog 78 #[.pointer (some ⟨Bs, 0, none⟩)] (fun x : Int × Ev => #[.int .i64 x.1, .agg #[.int .i64 x.2.Kind, .int .i64 x.2.Who, .int .i64 x.2.Serial, .int .i64 x.2.Cell, .int .i64 x.2.Handle, .int .i64 x.2.Val, .int .i64 x.2.Code]]) (Below w.heap.size) (fun ys => ys = upto (bw zs) zs.length)
      (fun pre => ∃ k, k ≤ zs.length ∧ pre = upto (bw zs) k) zs.length w := fun l J Jx W hW _ _ hY h0 => by
  subst hnz
  exact Backward1_in F n hf hro hn l Bs w.heap.size A c zs J Jx hY W ((hW.cell (p := ⟨Bs, 0, none⟩) hBs).trans hc) hBs (hI.below hW) h0
end Go.Proofs.Ytdepckmjgpkjmaa
