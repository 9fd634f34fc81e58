/-
  The statement holds: from the walk of the law to its row. Conditions: none.
-/
import Derived.Test.YtcligoicoeklfaaL
import Derived.Test.YtcligoicoeklfaaO
import Derived.Lib.SmallJoins
import Derived.Test.YtcligoicoeklfaaML2
namespace Go.Proofs.Ytcligoicoeklfaa
open Go.ChangeShapes Go.WideShapes Go.ChangeAt Go.RowKit Go.Joins


set_option maxRecDepth 100000 in
theorem opens_Heap : Opens Try.prog 24 fun W cs => ∃ (K : HHeap) (x : Heap), cs = [.slice K.Bytes.a K.Bytes.len K.Bytes.cap, .slice K.Class.a K.Class.len K.Class.cap] ∧ RdHeap W W.heap.size K x := by
  intro H enc W base spare held fuel cs x hh
  obtain ⟨xs, n, _, _, hl, hxs, hg⟩ := DataW.trod_struct Try.underlying24 hh
  have hc : Try.prog.cellsOf 24 = 2 := by kernel_rfl
  have hxs' : xs.length = 2 := hxs
  rw [hc] at hl
  clear hh
  match cs, hl with
  | [c0, c1], _ =>
  have hc0 : Try.prog.cellsOf 22 = 1 := by kernel_rfl
  obtain ⟨y0, e0⟩ : ∃ y, xs[0]? = some y := ⟨_, List.getElem?_eq_getElem (by omega)⟩
  have g0 : DataW.trod enc Try.prog W base spare held n 22 (([c0, c1].drop 0).take (Try.prog.cellsOf 22)) = xs[0]? := hg 0 _ rfl
  rw [e0, hc0] at g0
  have hc1 : Try.prog.cellsOf 22 = 1 := by kernel_rfl
  obtain ⟨y1, e1⟩ : ∃ y, xs[1]? = some y := ⟨_, List.getElem?_eq_getElem (by omega)⟩
  have g1 : DataW.trod enc Try.prog W base spare held n 22 (([c0, c1].drop 1).take (Try.prog.cellsOf 22)) = xs[1]? := hg 1 _ rfl
  rw [e1, hc1] at g1
  obtain ⟨v0, l0, q0, r0⟩ := (opens_flat (T := FI) Try.underlying22 (by kernel_rfl) (fun H enc W base spare held fuel cs x hh => by obtain ⟨n, hn, _⟩ := opens_int Try.underlying3 H enc W base spare held fuel cs x hh; exact ⟨n, hn⟩)) H enc W base spare held n _ _ g0
  obtain rfl : c0 = v0 := by simpa using q0
  obtain ⟨A0, p0, hv0, _⟩ := id r0
  subst hv0
  clear g0
  obtain ⟨v1, l1, q1, r1⟩ := (opens_flat (T := FI) Try.underlying22 (by kernel_rfl) (fun H enc W base spare held fuel cs x hh => by obtain ⟨n, hn, _⟩ := opens_int Try.underlying3 H enc W base spare held fuel cs x hh; exact ⟨n, hn⟩)) H enc W base spare held n _ _ g1
  obtain rfl : c1 = v1 := by simpa using q1
  obtain ⟨A1, p1, hv1, _⟩ := id r1
  subst hv1
  clear g1
  exact ⟨⟨⟨A0, l0.length, p0⟩, ⟨A1, l1.length, p1⟩⟩, ⟨l0, l1⟩, rfl, ⟨r0, r1⟩⟩

set_option maxRecDepth 100000 in
theorem opens_SList : Opens Try.prog 147 fun W cs => ∃ v l, cs = [v] ∧ RdL FI W W.heap.size v l := by
  intro H enc W base spare held fuel cs x hh
  obtain ⟨xs, n, _, _, hl, hxs, hg⟩ := DataW.trod_struct Try.underlying147 hh
  have hc : Try.prog.cellsOf 147 = 1 := by kernel_rfl
  have hxs' : xs.length = 1 := hxs
  rw [hc] at hl
  clear hh
  match cs, hl with
  | [c0], _ =>
  have hc0 : Try.prog.cellsOf 22 = 1 := by kernel_rfl
  obtain ⟨y0, e0⟩ : ∃ y, xs[0]? = some y := ⟨_, List.getElem?_eq_getElem (by omega)⟩
  have g0 : DataW.trod enc Try.prog W base spare held n 22 (([c0].drop 0).take (Try.prog.cellsOf 22)) = xs[0]? := hg 0 _ rfl
  rw [e0, hc0] at g0
  exact (opens_flat (T := FI) Try.underlying22 (by kernel_rfl) (fun H enc W base spare held fuel cs x hh => by obtain ⟨n, hn, _⟩ := opens_int Try.underlying3 H enc W base spare held fuel cs x hh; exact ⟨n, hn⟩)) H enc W base spare held n _ _ g0
theorem opens_SListS : Opens Try.prog 25 fun W cs => ∃ v svs ll, cs = [v] ∧ RdLL FI W W.heap.size v svs ll := opens_nested Try.underlying25 (by kernel_rfl) opens_SList

set_option maxRecDepth 100000 in
theorem opens_Lists : Opens Try.prog 27 fun W cs => ∃ (K : HLists) (x : Lists), cs = [.slice K.Global.a K.Global.len K.Global.cap, .slice K.Own.a K.Own.len K.Own.cap] ∧ RdLists W W.heap.size K x := by
  intro H enc W base spare held fuel cs x hh
  obtain ⟨xs, n, _, _, hl, hxs, hg⟩ := DataW.trod_struct Try.underlying27 hh
  have hc : Try.prog.cellsOf 27 = 2 := by kernel_rfl
  have hxs' : xs.length = 2 := hxs
  rw [hc] at hl
  clear hh
  match cs, hl with
  | [c0, c1], _ =>
  have hc0 : Try.prog.cellsOf 25 = 1 := by kernel_rfl
  obtain ⟨y0, e0⟩ : ∃ y, xs[0]? = some y := ⟨_, List.getElem?_eq_getElem (by omega)⟩
  have g0 : DataW.trod enc Try.prog W base spare held n 25 (([c0, c1].drop 0).take (Try.prog.cellsOf 25)) = xs[0]? := hg 0 _ rfl
  rw [e0, hc0] at g0
  have hc1 : Try.prog.cellsOf 25 = 1 := by kernel_rfl
  obtain ⟨y1, e1⟩ : ∃ y, xs[1]? = some y := ⟨_, List.getElem?_eq_getElem (by omega)⟩
  have g1 : DataW.trod enc Try.prog W base spare held n 25 (([c0, c1].drop 1).take (Try.prog.cellsOf 25)) = xs[1]? := hg 1 _ rfl
  rw [e1, hc1] at g1
  obtain ⟨v0, t0, l0, q0, r0⟩ := opens_SListS H enc W base spare held n _ _ g0
  obtain rfl : c0 = v0 := by simpa using q0
  obtain ⟨A0, p0, hv0, _⟩ := id r0.outer
  subst hv0
  clear g0
  obtain ⟨v1, t1, l1, q1, r1⟩ := opens_SListS H enc W base spare held n _ _ g1
  obtain rfl : c1 = v1 := by simpa using q1
  obtain ⟨A1, p1, hv1, _⟩ := id r1.outer
  subst hv1
  clear g1
  exact ⟨⟨⟨A0, t0.length, p0⟩, t0, ⟨A1, t1.length, p1⟩, t1⟩, ⟨l0, l1⟩, rfl, ⟨r0, r1⟩⟩

set_option maxRecDepth 100000 in
theorem opens_Mem : Opens Try.prog 29 fun W cs => ∃ (K : HMem) (x : Mem), cs = [.slice K.Heap.Bytes.a K.Heap.Bytes.len K.Heap.Bytes.cap, .slice K.Heap.Class.a K.Heap.Class.len K.Heap.Class.cap, .slice K.Lists.Global.a K.Lists.Global.len K.Lists.Global.cap, .slice K.Lists.Own.a K.Lists.Own.len K.Lists.Own.cap] ∧ RdMem W W.heap.size K x := by
  intro H enc W base spare held fuel cs x hh
  obtain ⟨xs, n, _, _, hl, hxs, hg⟩ := DataW.trod_struct Try.underlying29 hh
  have hc : Try.prog.cellsOf 29 = 4 := by kernel_rfl
  have hxs' : xs.length = 2 := hxs
  rw [hc] at hl
  clear hh
  match cs, hl with
  | [c0, c1, c2, c3], _ =>
  have hc0 : Try.prog.cellsOf 24 = 2 := by kernel_rfl
  obtain ⟨y0, e0⟩ : ∃ y, xs[0]? = some y := ⟨_, List.getElem?_eq_getElem (by omega)⟩
  have g0 : DataW.trod enc Try.prog W base spare held n 24 (([c0, c1, c2, c3].drop 0).take (Try.prog.cellsOf 24)) = xs[0]? := hg 0 _ rfl
  rw [e0, hc0] at g0
  have hc1 : Try.prog.cellsOf 27 = 2 := by kernel_rfl
  obtain ⟨y1, e1⟩ : ∃ y, xs[1]? = some y := ⟨_, List.getElem?_eq_getElem (by omega)⟩
  have g1 : DataW.trod enc Try.prog W base spare held n 27 (([c0, c1, c2, c3].drop 2).take (Try.prog.cellsOf 27)) = xs[1]? := hg 1 _ rfl
  rw [e1, hc1] at g1
  obtain ⟨K0, x0, q0, r0⟩ := opens_Heap H enc W base spare held n _ _ g0
  simp at q0
  obtain ⟨rfl, rfl⟩ := q0
  clear g0
  obtain ⟨K1, x1, q1, r1⟩ := opens_Lists H enc W base spare held n _ _ g1
  simp at q1
  obtain ⟨rfl, rfl⟩ := q1
  clear g1
  exact ⟨⟨K0, K1⟩, ⟨x0, x1⟩, rfl, ⟨r0, r1⟩⟩

set_option maxRecDepth 100000 in
theorem FnExactCounts_lifted (os : Os) (started : os.Started) (H : Type) (enc : TypeId × Value → H) :
    ReturnsInHanded {} Try.checked os 6 .any (Rows.fnExactCountsSpec.pre6 enc Try.prog Try.f6 Rows.fnExactCountsRow.domain false) (Rows.fnExactCountsSpec.post enc Try.prog Try.f6 false true false false) := by
  refine lift 4 (C := Try.checked) Try.own Try.laidOut started (by kernel_rfl) Try.func6
    (ChangeSpec.witness6 (enc := enc) (C := Try.checked) false ⟨#[], #[.agg #[.slice none 0 0, .slice none 0 0, .slice none 0 0, .slice none 0 0]], []⟩ 12 (by kernel_rfl) (by kernel_rfl) (by kernel_rfl) (by kernel_rfl))
    rfl (by kernel_rfl) Try.underlying4 (by kernel_rfl) (fun ds hds => by
      match ds, hds with
      | [d0], _ => rfl) ?_
  intro W args ds p hval0 hA0
  have hval : ∀ (j : Nat) t v, Try.f6.params[j]? = some t → args[j]? = some v → ∃ base, Value.okWide Try.prog W .any base t v := hval0
  have hA : DataW.TrodAll enc Try.prog W 0 (fun _ => true) true Try.f6.params.toList args.toList ds p := hA0
  clear hval0 hA0
  rw [Try.params6] at hA hval
  obtain ⟨v0, d0, rfl, rfl, h0⟩ := trodAll_one hA
  obtain ⟨_, hv0⟩ := hval 0 _ v0 rfl rfl
  obtain ⟨cs0, rfl, _⟩ := okWide_struct Try.underlying29 hv0
  obtain ⟨K0, x0, hcs0, hr0⟩ := opens_Mem.trod h0
  have hcs0' : cs0.toList = [.slice K0.Heap.Bytes.a K0.Heap.Bytes.len K0.Heap.Bytes.cap, .slice K0.Heap.Class.a K0.Heap.Class.len K0.Heap.Class.cap, .slice K0.Lists.Global.a K0.Lists.Global.len K0.Lists.Global.cap, .slice K0.Lists.Own.a K0.Lists.Own.len K0.Lists.Own.cap] := hcs0
  obtain rfl : cs0 = #[.slice K0.Heap.Bytes.a K0.Heap.Bytes.len K0.Heap.Bytes.cap, .slice K0.Heap.Class.a K0.Heap.Class.len K0.Heap.Class.cap, .slice K0.Lists.Global.a K0.Lists.Global.len K0.Lists.Global.cap, .slice K0.Lists.Own.a K0.Lists.Own.len K0.Lists.Own.cap] := by rw [← Array.toList_inj]; exact hcs0'
  exact FnExactCounts_law W K0 x0 hr0

theorem FnExactCounts_closed : joinedFacts Try.pinned.checked.prog 6 Try.f6 Rows.fnExactCountsSpec Rows.fnExactCountsRow = true := by kernel_rfl

theorem FnExactCounts_holds : Rows.FnExactCountsSaid :=
  OpenClaim.holds_of_wide 6 Try.f6 rfl rfl rfl rfl rfl rfl rfl ⟨rfl, rfl, rfl, rfl, rfl⟩ rfl rfl rfl rfl rfl (by kernel_rfl) Try.func6 FnExactCounts_closed
    (of_decide_eq_true (by kernel_rfl)) (by unfold Func.isWrapper; rw [if_neg (of_decide_eq_false (by kernel_rfl))]; exact ⟨rfl, rfl⟩)
    (fun os started H enc _ => FnExactCounts_lifted os started H enc)
end Go.Proofs.Ytcligoicoeklfaa
