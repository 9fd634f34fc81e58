/-
  The statement holds: from the walk of the law to its row. Conditions: none.
-/
import Derived.Test.YtpjijbonpjoamaaGreatUHAllocNow1
import Derived.Lib.SmallJoins
import Derived.Test.YtpjijbonpjoamaaGreatUHAllocNow15
namespace Go.Proofs.YtpjijbonpjoamaaGreat
open Go.ChangeShapes Go.WideShapes Go.ChangeAt Go.RowKit Go.Joins


set_option maxRecDepth 100000 in
theorem opens_Heap : Opens Tryz.prog 24 fun W cs => ∃ (K : HHeap) (x : Heap), cs = [.slice K.Bytes.a K.Bytes.len K.Bytes.cap, .slice K.Class.a K.Class.len K.Class.cap] ∧ RdHeap W W.heap.size K x := by
  intro H enc W base spare held fuel cs x hh
  obtain ⟨xs, n, _, _, hl, hxs, hg⟩ := DataW.trod_struct Tryz.underlying24 hh
  have hc : Tryz.prog.cellsOf 24 = 2 := by kernel_rfl
  have hxs' : xs.length = 2 := hxs
  rw [hc] at hl
  clear hh
  match cs, hl with
  | [c0, c1], _ =>
  have hc0 : Tryz.prog.cellsOf 22 = 1 := by kernel_rfl
  obtain ⟨y0, e0⟩ : ∃ y, xs[0]? = some y := ⟨_, List.getElem?_eq_getElem (by omega)⟩
  have g0 : DataW.trod enc Tryz.prog W base spare held n 22 (([c0, c1].drop 0).take (Tryz.prog.cellsOf 22)) = xs[0]? := hg 0 _ rfl
  rw [e0, hc0] at g0
  have hc1 : Tryz.prog.cellsOf 22 = 1 := by kernel_rfl
  obtain ⟨y1, e1⟩ : ∃ y, xs[1]? = some y := ⟨_, List.getElem?_eq_getElem (by omega)⟩
  have g1 : DataW.trod enc Tryz.prog W base spare held n 22 (([c0, c1].drop 1).take (Tryz.prog.cellsOf 22)) = xs[1]? := hg 1 _ rfl
  rw [e1, hc1] at g1
  obtain ⟨v0, l0, q0, r0⟩ := (opens_flat (T := FI) Tryz.underlying22 (by kernel_rfl) (fun H enc W base spare held fuel cs x hh => by obtain ⟨n, hn, _⟩ := opens_int Tryz.underlying3 H enc W base spare held fuel cs x hh; exact ⟨n, hn⟩)) H enc W base spare held n _ _ g0
  obtain rfl : c0 = v0 := by simpa using q0
  obtain ⟨A0, p0, hv0, _⟩ := id r0
  subst hv0
  clear g0
  obtain ⟨v1, l1, q1, r1⟩ := (opens_flat (T := FI) Tryz.underlying22 (by kernel_rfl) (fun H enc W base spare held fuel cs x hh => by obtain ⟨n, hn, _⟩ := opens_int Tryz.underlying3 H enc W base spare held fuel cs x hh; exact ⟨n, hn⟩)) H enc W base spare held n _ _ g1
  obtain rfl : c1 = v1 := by simpa using q1
  obtain ⟨A1, p1, hv1, _⟩ := id r1
  subst hv1
  clear g1
  exact ⟨⟨⟨A0, l0.length, p0⟩, ⟨A1, l1.length, p1⟩⟩, ⟨l0, l1⟩, rfl, ⟨r0, r1⟩⟩

set_option maxRecDepth 100000 in
theorem opens_SList : Opens Tryz.prog 105 fun W cs => ∃ v l, cs = [v] ∧ RdL FI W W.heap.size v l := by
  intro H enc W base spare held fuel cs x hh
  obtain ⟨xs, n, _, _, hl, hxs, hg⟩ := DataW.trod_struct Tryz.underlying105 hh
  have hc : Tryz.prog.cellsOf 105 = 1 := by kernel_rfl
  have hxs' : xs.length = 1 := hxs
  rw [hc] at hl
  clear hh
  match cs, hl with
  | [c0], _ =>
  have hc0 : Tryz.prog.cellsOf 22 = 1 := by kernel_rfl
  obtain ⟨y0, e0⟩ : ∃ y, xs[0]? = some y := ⟨_, List.getElem?_eq_getElem (by omega)⟩
  have g0 : DataW.trod enc Tryz.prog W base spare held n 22 (([c0].drop 0).take (Tryz.prog.cellsOf 22)) = xs[0]? := hg 0 _ rfl
  rw [e0, hc0] at g0
  exact (opens_flat (T := FI) Tryz.underlying22 (by kernel_rfl) (fun H enc W base spare held fuel cs x hh => by obtain ⟨n, hn, _⟩ := opens_int Tryz.underlying3 H enc W base spare held fuel cs x hh; exact ⟨n, hn⟩)) H enc W base spare held n _ _ g0
theorem opens_SListS : Opens Tryz.prog 25 fun W cs => ∃ v svs ll, cs = [v] ∧ RdLL FI W W.heap.size v svs ll := opens_nested Tryz.underlying25 (by kernel_rfl) opens_SList

set_option maxRecDepth 100000 in
theorem opens_Lists : Opens Tryz.prog 27 fun W cs => ∃ (K : HLists) (x : Lists), cs = [.slice K.Global.a K.Global.len K.Global.cap, .slice K.Own.a K.Own.len K.Own.cap] ∧ RdLists W W.heap.size K x := by
  intro H enc W base spare held fuel cs x hh
  obtain ⟨xs, n, _, _, hl, hxs, hg⟩ := DataW.trod_struct Tryz.underlying27 hh
  have hc : Tryz.prog.cellsOf 27 = 2 := by kernel_rfl
  have hxs' : xs.length = 2 := hxs
  rw [hc] at hl
  clear hh
  match cs, hl with
  | [c0, c1], _ =>
  have hc0 : Tryz.prog.cellsOf 25 = 1 := by kernel_rfl
  obtain ⟨y0, e0⟩ : ∃ y, xs[0]? = some y := ⟨_, List.getElem?_eq_getElem (by omega)⟩
  have g0 : DataW.trod enc Tryz.prog W base spare held n 25 (([c0, c1].drop 0).take (Tryz.prog.cellsOf 25)) = xs[0]? := hg 0 _ rfl
  rw [e0, hc0] at g0
  have hc1 : Tryz.prog.cellsOf 25 = 1 := by kernel_rfl
  obtain ⟨y1, e1⟩ : ∃ y, xs[1]? = some y := ⟨_, List.getElem?_eq_getElem (by omega)⟩
  have g1 : DataW.trod enc Tryz.prog W base spare held n 25 (([c0, c1].drop 1).take (Tryz.prog.cellsOf 25)) = xs[1]? := hg 1 _ rfl
  rw [e1, hc1] at g1
  obtain ⟨v0, t0, l0, q0, r0⟩ := opens_SListS H enc W base spare held n _ _ g0
  obtain rfl : c0 = v0 := by simpa using q0
  obtain ⟨A0, p0, hv0, _⟩ := id r0.outer
  subst hv0
  clear g0
  obtain ⟨v1, t1, l1, q1, r1⟩ := opens_SListS H enc W base spare held n _ _ g1
  obtain rfl : c1 = v1 := by simpa using q1
  obtain ⟨A1, p1, hv1, _⟩ := id r1.outer
  subst hv1
  clear g1
  exact ⟨⟨⟨A0, t0.length, p0⟩, t0, ⟨A1, t1.length, p1⟩, t1⟩, ⟨l0, l1⟩, rfl, ⟨r0, r1⟩⟩

set_option maxRecDepth 100000 in
theorem opens_Mem : Opens Tryz.prog 29 fun W cs => ∃ (K : HMem) (x : Mem), cs = [.slice K.Heap.Bytes.a K.Heap.Bytes.len K.Heap.Bytes.cap, .slice K.Heap.Class.a K.Heap.Class.len K.Heap.Class.cap, .slice K.Lists.Global.a K.Lists.Global.len K.Lists.Global.cap, .slice K.Lists.Own.a K.Lists.Own.len K.Lists.Own.cap] ∧ RdMem W W.heap.size K x := by
  intro H enc W base spare held fuel cs x hh
  obtain ⟨xs, n, _, _, hl, hxs, hg⟩ := DataW.trod_struct Tryz.underlying29 hh
  have hc : Tryz.prog.cellsOf 29 = 4 := by kernel_rfl
  have hxs' : xs.length = 2 := hxs
  rw [hc] at hl
  clear hh
  match cs, hl with
  | [c0, c1, c2, c3], _ =>
  have hc0 : Tryz.prog.cellsOf 24 = 2 := by kernel_rfl
  obtain ⟨y0, e0⟩ : ∃ y, xs[0]? = some y := ⟨_, List.getElem?_eq_getElem (by omega)⟩
  have g0 : DataW.trod enc Tryz.prog W base spare held n 24 (([c0, c1, c2, c3].drop 0).take (Tryz.prog.cellsOf 24)) = xs[0]? := hg 0 _ rfl
  rw [e0, hc0] at g0
  have hc1 : Tryz.prog.cellsOf 27 = 2 := by kernel_rfl
  obtain ⟨y1, e1⟩ : ∃ y, xs[1]? = some y := ⟨_, List.getElem?_eq_getElem (by omega)⟩
  have g1 : DataW.trod enc Tryz.prog W base spare held n 27 (([c0, c1, c2, c3].drop 2).take (Tryz.prog.cellsOf 27)) = xs[1]? := hg 1 _ rfl
  rw [e1, hc1] at g1
  obtain ⟨K0, x0, q0, r0⟩ := opens_Heap H enc W base spare held n _ _ g0
  simp at q0
  obtain ⟨rfl, rfl⟩ := q0
  clear g0
  obtain ⟨K1, x1, q1, r1⟩ := opens_Lists H enc W base spare held n _ _ g1
  simp at q1
  obtain ⟨rfl, rfl⟩ := q1
  clear g1
  exact ⟨⟨K0, K1⟩, ⟨x0, x1⟩, rfl, ⟨r0, r1⟩⟩

set_option maxRecDepth 100000 in
theorem FnExactAllocNow_lifted (os : Os) (started : os.Started) (H : Type) (enc : TypeId × Value → H) :
    ReturnsInHanded {} Tryz.checked os 5 .any (Rows.fnExactAllocNowSpec.pre6 enc Tryz.prog Tryz.f5 Rows.fnExactAllocNowRow.domain false) (Rows.fnExactAllocNowSpec.post enc Tryz.prog Tryz.f5 false true false false) := by
  refine lift 4 (C := Tryz.checked) Tryz.own Tryz.laidOut started (by kernel_rfl) Tryz.func5
    (ChangeSpec.witness6 (enc := enc) (C := Tryz.checked) false ⟨#[], #[.agg #[.slice none 0 0, .slice none 0 0, .slice none 0 0, .slice none 0 0], .int .i64 0, .int .i64 0], []⟩ 12 (by kernel_rfl) (by kernel_rfl) (by kernel_rfl) (by kernel_rfl))
    rfl (by kernel_rfl) Tryz.underlying4 (by kernel_rfl) (fun ds hds => by
      match ds, hds with
      | [d0, d1, d2], _ => rfl) ?_
  intro W args ds p hval0 hA0
  have hval : ∀ (j : Nat) t v, Tryz.f5.params[j]? = some t → args[j]? = some v → ∃ base, Value.okWide Tryz.prog W .any base t v := hval0
  have hA : DataW.TrodAll enc Tryz.prog W 0 (fun _ => true) true Tryz.f5.params.toList args.toList ds p := hA0
  clear hval0 hA0
  rw [Tryz.params5] at hA hval
  obtain ⟨v0, v1, v2, d0, d1, d2, p0, p1, p2, rfl, rfl, rfl, h0, h1, h2⟩ := trodAll_three hA
  obtain ⟨_, hv0⟩ := hval 0 _ v0 rfl rfl
  obtain ⟨_, hv1⟩ := hval 1 _ v1 rfl rfl
  obtain ⟨_, hv2⟩ := hval 2 _ v2 rfl rfl
  obtain ⟨cs0, rfl, _⟩ := okWide_struct Tryz.underlying29 hv0
  obtain ⟨K0, x0, hcs0, hr0⟩ := opens_Mem.trod h0
  have hcs0' : cs0.toList = [.slice K0.Heap.Bytes.a K0.Heap.Bytes.len K0.Heap.Bytes.cap, .slice K0.Heap.Class.a K0.Heap.Class.len K0.Heap.Class.cap, .slice K0.Lists.Global.a K0.Lists.Global.len K0.Lists.Global.cap, .slice K0.Lists.Own.a K0.Lists.Own.len K0.Lists.Own.cap] := hcs0
  obtain rfl : cs0 = #[.slice K0.Heap.Bytes.a K0.Heap.Bytes.len K0.Heap.Bytes.cap, .slice K0.Heap.Class.a K0.Heap.Class.len K0.Heap.Class.cap, .slice K0.Lists.Global.a K0.Lists.Global.len K0.Lists.Global.cap, .slice K0.Lists.Own.a K0.Lists.Own.len K0.Lists.Own.cap] := by rw [← Array.toList_inj]; exact hcs0'
  obtain ⟨a, rfl, rfl, rfl, wa⟩ := open_int Tryz.underlying3 hv1 h1
  have ba := bd_i64 wa
  obtain ⟨b, rfl, rfl, rfl, wb⟩ := open_int Tryz.underlying3 hv2 h2
  have bb := bd_i64 wb
  exact FnExactAllocNow_law W K0 x0 a b hr0

theorem FnExactAllocNow_closed : joinedFacts Tryz.pinned.checked.prog 5 Tryz.f5 Rows.fnExactAllocNowSpec Rows.fnExactAllocNowRow = true := by kernel_rfl

theorem FnExactAllocNow_holds : Rows.FnExactAllocNowSaid :=
  OpenClaim.holds_of_wide 5 Tryz.f5 rfl rfl rfl rfl rfl rfl rfl ⟨rfl, rfl, rfl, rfl, rfl⟩ rfl rfl rfl rfl rfl (by kernel_rfl) Tryz.func5 FnExactAllocNow_closed
    (of_decide_eq_true (by kernel_rfl)) (by unfold Func.isWrapper; rw [if_neg (of_decide_eq_false (by kernel_rfl))]; exact ⟨rfl, rfl⟩)
    (fun os started H enc _ => FnExactAllocNow_lifted os started H enc)
end Go.Proofs.YtpjijbonpjoamaaGreat

