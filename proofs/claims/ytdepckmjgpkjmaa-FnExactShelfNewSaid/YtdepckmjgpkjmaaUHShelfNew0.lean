/-
  The statement holds: from the walk of the law to its row. Conditions: none.
-/
import Derived.Test.YtdepckmjgpkjmaaUHShelfNew1
import Derived.Lib.SmallJoins
import Derived.Test.YtdepckmjgpkjmaaUHShelfNew11
namespace Go.Proofs.Ytdepckmjgpkjmaa
open Go.ChangeShapes Go.WideShapes Go.ChangeAt Go.RowKit Go.Joins

set_option maxRecDepth 100000 in
theorem opens_Op : Opens Try.prog 133 fun _ cs => ∃ y : Op, cs = FOp.enc y := by
  intro H enc W base spare held fuel cs x hh
  obtain ⟨xs, n, _, _, hl, hxs, hg⟩ := DataW.trod_struct Try.underlying133 hh
  have hc : Try.prog.cellsOf 133 = 4 := by kernel_rfl
  have hxs' : xs.length = 4 := hxs
  rw [hc] at hl
  clear hh
  match cs, hl with
  | [c0, c1, c2, c3], _ =>
  have hc_i : Try.prog.cellsOf 3 = 1 := by kernel_rfl
  obtain ⟨y0, e0⟩ : ∃ y, xs[0]? = some y := ⟨_, List.getElem?_eq_getElem (by omega)⟩
  have g0 : DataW.trod enc Try.prog W base spare held n 3 (([c0, c1, c2, c3].drop 0).take (Try.prog.cellsOf 3)) = xs[0]? := hg 0 _ rfl
  rw [e0, hc_i] at g0
  obtain ⟨y1, e1⟩ : ∃ y, xs[1]? = some y := ⟨_, List.getElem?_eq_getElem (by omega)⟩
  have g1 : DataW.trod enc Try.prog W base spare held n 3 (([c0, c1, c2, c3].drop 1).take (Try.prog.cellsOf 3)) = xs[1]? := hg 1 _ rfl
  rw [e1, hc_i] at g1
  obtain ⟨y2, e2⟩ : ∃ y, xs[2]? = some y := ⟨_, List.getElem?_eq_getElem (by omega)⟩
  have g2 : DataW.trod enc Try.prog W base spare held n 3 (([c0, c1, c2, c3].drop 2).take (Try.prog.cellsOf 3)) = xs[2]? := hg 2 _ rfl
  rw [e2, hc_i] at g2
  obtain ⟨y3, e3⟩ : ∃ y, xs[3]? = some y := ⟨_, List.getElem?_eq_getElem (by omega)⟩
  have g3 : DataW.trod enc Try.prog W base spare held n 3 (([c0, c1, c2, c3].drop 3).take (Try.prog.cellsOf 3)) = xs[3]? := hg 3 _ rfl
  rw [e3, hc_i] at g3
  obtain ⟨z0, q0, _⟩ := opens_int Try.underlying3 H enc W base spare held n _ _ g0
  clear g0
  obtain rfl : c0 = .int .i64 z0 := by simpa using q0
  obtain ⟨z1, q1, _⟩ := opens_int Try.underlying3 H enc W base spare held n _ _ g1
  clear g1
  obtain rfl : c1 = .int .i64 z1 := by simpa using q1
  obtain ⟨z2, q2, _⟩ := opens_int Try.underlying3 H enc W base spare held n _ _ g2
  clear g2
  obtain rfl : c2 = .int .i64 z2 := by simpa using q2
  obtain ⟨z3, q3, _⟩ := opens_int Try.underlying3 H enc W base spare held n _ _ g3
  clear g3
  obtain rfl : c3 = .int .i64 z3 := by simpa using q3
  exact ⟨⟨z0, z1, z2, z3⟩, rfl⟩

set_option maxRecDepth 100000 in
theorem opens_Queue : Opens Try.prog 119 fun W cs => ∃ v l, cs = [v] ∧ RdL FOp W W.heap.size v l := by
  intro H enc W base spare held fuel cs x hh
  obtain ⟨xs, n, _, _, hl, hxs, hg⟩ := DataW.trod_struct Try.underlying119 hh
  have hc : Try.prog.cellsOf 119 = 1 := by kernel_rfl
  have hxs' : xs.length = 1 := hxs
  rw [hc] at hl
  clear hh
  match cs, hl with
  | [c0], _ =>
  have hc0 : Try.prog.cellsOf 117 = 1 := by kernel_rfl
  obtain ⟨y0, e0⟩ : ∃ y, xs[0]? = some y := ⟨_, List.getElem?_eq_getElem (by omega)⟩
  have g0 : DataW.trod enc Try.prog W base spare held n 117 (([c0].drop 0).take (Try.prog.cellsOf 117)) = xs[0]? := hg 0 _ rfl
  rw [e0, hc0] at g0
  exact (opens_flat (T := FOp) Try.underlying117 (by kernel_rfl) opens_Op) H enc W base spare held n _ _ g0
theorem opens_QueueS : Opens Try.prog 49 fun W cs => ∃ v svs ll, cs = [v] ∧ RdLL FOp W W.heap.size v svs ll := opens_nested Try.underlying49 (by kernel_rfl) opens_Queue

set_option maxRecDepth 100000 in
theorem FnExactShelfNew_lifted (os : Os) (started : os.Started) (H : Type) (enc : TypeId × Value → H) :
    ReturnsInHanded {} Try.checked os 8 .any (Rows.fnExactShelfNewSpec.pre6 enc Try.prog Try.f8 Rows.fnExactShelfNewRow.domain false) (Rows.fnExactShelfNewSpec.post enc Try.prog Try.f8 false true false false) := by
  refine lift 4 (C := Try.checked) Try.own Try.laidOut started (by kernel_rfl) Try.func8
    (ChangeSpec.witness6 (enc := enc) (C := Try.checked) false ⟨#[], #[.slice none 0 0], []⟩ 12 (by kernel_rfl) (by kernel_rfl) (by kernel_rfl) (by kernel_rfl))
    rfl (by kernel_rfl) Try.underlying4 (by kernel_rfl) (fun ds hds => by
      match ds, hds with
      | [d0], _ => rfl) ?_
  intro W args ds p hval0 hA0
  have hval : ∀ (j : Nat) t v, Try.f8.params[j]? = some t → args[j]? = some v → ∃ base, Value.okWide Try.prog W .any base t v := hval0
  have hA : DataW.TrodAll enc Try.prog W 0 (fun _ => true) true Try.f8.params.toList args.toList ds p := hA0
  clear hval0 hA0
  rw [Try.params8] at hA hval
  obtain ⟨v0, d0, rfl, rfl, h0⟩ := trodAll_one hA
  obtain ⟨_, hv0⟩ := hval 0 _ v0 rfl rfl
  obtain ⟨A0, n0, cp0, rfl⟩ := okWide_slice Try.underlying49 hv0
  obtain ⟨v0', t0, l, hcs0, hl⟩ := opens_QueueS.trod h0
  have hcs0' : Value.slice A0 n0 cp0 = v0' := by simpa [Value.cells] using hcs0
  subst hcs0'
  exact FnExactShelfNew_law W ⟨_, _, _⟩ _ l hl

theorem FnExactShelfNew_closed : joinedFacts Try.pinned.checked.prog 8 Try.f8 Rows.fnExactShelfNewSpec Rows.fnExactShelfNewRow = true := by kernel_rfl

theorem FnExactShelfNew_holds : Rows.FnExactShelfNewSaid :=
  OpenClaim.holds_of_wide 8 Try.f8 rfl rfl rfl rfl rfl rfl rfl ⟨rfl, rfl, rfl, rfl, rfl⟩ rfl rfl rfl rfl rfl (by kernel_rfl) Try.func8 FnExactShelfNew_closed
    (of_decide_eq_true (by kernel_rfl)) (by unfold Func.isWrapper; rw [if_neg (of_decide_eq_false (by kernel_rfl))]; exact ⟨rfl, rfl⟩)
    (fun os started H enc _ => FnExactShelfNew_lifted os started H enc)
end Go.Proofs.Ytdepckmjgpkjmaa

