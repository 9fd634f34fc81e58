/-
  The statement holds: from the walk of the law to its row. Conditions: none.
-/
import Derived.Test.YtdepckmjgpkjmaaL
import Derived.Test.YtdepckmjgpkjmaaO
import Derived.Lib.SmallJoins
import Derived.Test.YtdepckmjgpkjmaaLTR
namespace Go.Proofs.Ytdepckmjgpkjmaa
open Go.ChangeShapes Go.WideShapes Go.ChangeAt Go.RowKit Go.Joins

set_option maxRecDepth 100000 in
theorem opens_Ev : Opens Try.prog 84 fun _ cs => ∃ y : Ev, cs = FEv.enc y := by
  intro H enc W base spare held fuel cs x hh
  obtain ⟨xs, n, _, _, hl, hxs, hg⟩ := DataW.trod_struct Try.underlying84 hh
  have hc : Try.prog.cellsOf 84 = 7 := by kernel_rfl
  have hxs' : xs.length = 7 := hxs
  rw [hc] at hl
  clear hh
  match cs, hl with
  | [c0, c1, c2, c3, c4, c5, c6], _ =>
  have hc_i : Try.prog.cellsOf 3 = 1 := by kernel_rfl
  obtain ⟨y0, e0⟩ : ∃ y, xs[0]? = some y := ⟨_, List.getElem?_eq_getElem (by omega)⟩
  have g0 : DataW.trod enc Try.prog W base spare held n 3 (([c0, c1, c2, c3, c4, c5, c6].drop 0).take (Try.prog.cellsOf 3)) = xs[0]? := hg 0 _ rfl
  rw [e0, hc_i] at g0
  obtain ⟨y1, e1⟩ : ∃ y, xs[1]? = some y := ⟨_, List.getElem?_eq_getElem (by omega)⟩
  have g1 : DataW.trod enc Try.prog W base spare held n 3 (([c0, c1, c2, c3, c4, c5, c6].drop 1).take (Try.prog.cellsOf 3)) = xs[1]? := hg 1 _ rfl
  rw [e1, hc_i] at g1
  obtain ⟨y2, e2⟩ : ∃ y, xs[2]? = some y := ⟨_, List.getElem?_eq_getElem (by omega)⟩
  have g2 : DataW.trod enc Try.prog W base spare held n 3 (([c0, c1, c2, c3, c4, c5, c6].drop 2).take (Try.prog.cellsOf 3)) = xs[2]? := hg 2 _ rfl
  rw [e2, hc_i] at g2
  obtain ⟨y3, e3⟩ : ∃ y, xs[3]? = some y := ⟨_, List.getElem?_eq_getElem (by omega)⟩
  have g3 : DataW.trod enc Try.prog W base spare held n 3 (([c0, c1, c2, c3, c4, c5, c6].drop 3).take (Try.prog.cellsOf 3)) = xs[3]? := hg 3 _ rfl
  rw [e3, hc_i] at g3
  obtain ⟨y4, e4⟩ : ∃ y, xs[4]? = some y := ⟨_, List.getElem?_eq_getElem (by omega)⟩
  have g4 : DataW.trod enc Try.prog W base spare held n 3 (([c0, c1, c2, c3, c4, c5, c6].drop 4).take (Try.prog.cellsOf 3)) = xs[4]? := hg 4 _ rfl
  rw [e4, hc_i] at g4
  obtain ⟨y5, e5⟩ : ∃ y, xs[5]? = some y := ⟨_, List.getElem?_eq_getElem (by omega)⟩
  have g5 : DataW.trod enc Try.prog W base spare held n 3 (([c0, c1, c2, c3, c4, c5, c6].drop 5).take (Try.prog.cellsOf 3)) = xs[5]? := hg 5 _ rfl
  rw [e5, hc_i] at g5
  obtain ⟨y6, e6⟩ : ∃ y, xs[6]? = some y := ⟨_, List.getElem?_eq_getElem (by omega)⟩
  have g6 : DataW.trod enc Try.prog W base spare held n 3 (([c0, c1, c2, c3, c4, c5, c6].drop 6).take (Try.prog.cellsOf 3)) = xs[6]? := hg 6 _ rfl
  rw [e6, hc_i] at g6
  obtain ⟨z0, q0, _⟩ := opens_int Try.underlying3 H enc W base spare held n _ _ g0
  clear g0
  obtain rfl : c0 = .int .i64 z0 := by simpa using q0
  obtain ⟨z1, q1, _⟩ := opens_int Try.underlying3 H enc W base spare held n _ _ g1
  clear g1
  obtain rfl : c1 = .int .i64 z1 := by simpa using q1
  obtain ⟨z2, q2, _⟩ := opens_int Try.underlying3 H enc W base spare held n _ _ g2
  clear g2
  obtain rfl : c2 = .int .i64 z2 := by simpa using q2
  obtain ⟨z3, q3, _⟩ := opens_int Try.underlying3 H enc W base spare held n _ _ g3
  clear g3
  obtain rfl : c3 = .int .i64 z3 := by simpa using q3
  obtain ⟨z4, q4, _⟩ := opens_int Try.underlying3 H enc W base spare held n _ _ g4
  clear g4
  obtain rfl : c4 = .int .i64 z4 := by simpa using q4
  obtain ⟨z5, q5, _⟩ := opens_int Try.underlying3 H enc W base spare held n _ _ g5
  clear g5
  obtain rfl : c5 = .int .i64 z5 := by simpa using q5
  obtain ⟨z6, q6, _⟩ := opens_int Try.underlying3 H enc W base spare held n _ _ g6
  clear g6
  obtain rfl : c6 = .int .i64 z6 := by simpa using q6
  exact ⟨⟨z0, z1, z2, z3, z4, z5, z6⟩, rfl⟩

set_option maxRecDepth 100000 in
theorem FnExactTruthOf_lifted (os : Os) (started : os.Started) (H : Type) (enc : TypeId × Value → H) :
    ReturnsInHanded {} Try.checked os 4 .any (Rows.fnExactTruthOfSpec.pre6 enc Try.prog Try.f4 Rows.fnExactTruthOfRow.domain false) (Rows.fnExactTruthOfSpec.post enc Try.prog Try.f4 false true false false) := by
  refine lift 4 (C := Try.checked) Try.own Try.laidOut started (by kernel_rfl) Try.func4
    (ChangeSpec.witness6 (enc := enc) (C := Try.checked) false ⟨#[], #[.slice none 0 0], []⟩ 12 (by kernel_rfl) (by kernel_rfl) (by kernel_rfl) (by kernel_rfl))
    rfl (by kernel_rfl) Try.underlying4 (by kernel_rfl) (fun ds hds => by
      match ds, hds with
      | [d0], _ => rfl) ?_
  intro W args ds p hval0 hA0
  have hval : ∀ (j : Nat) t v, Try.f4.params[j]? = some t → args[j]? = some v → ∃ base, Value.okWide Try.prog W .any base t v := hval0
  have hA : DataW.TrodAll enc Try.prog W 0 (fun _ => true) true Try.f4.params.toList args.toList ds p := hA0
  clear hval0 hA0
  rw [Try.params4] at hA hval
  obtain ⟨v0, d0, rfl, rfl, h0⟩ := trodAll_one hA
  obtain ⟨_, hv0⟩ := hval 0 _ v0 rfl rfl
  obtain ⟨A0, n0, cp0, rfl⟩ := okWide_slice Try.underlying22 hv0
  obtain ⟨v0', l, hcs0, hl⟩ := (opens_flat (T := FEv) Try.underlying22 (by kernel_rfl) opens_Ev).trod h0
  have hcs0' : Value.slice A0 n0 cp0 = v0' := by simpa [Value.cells] using hcs0
  subst hcs0'
  exact FnExactTruthOf_law W _ l hl

theorem FnExactTruthOf_closed : joinedFacts Try.pinned.checked.prog 4 Try.f4 Rows.fnExactTruthOfSpec Rows.fnExactTruthOfRow = true := by kernel_rfl

theorem FnExactTruthOf_holds : Rows.FnExactTruthOfSaid :=
  OpenClaim.holds_of_wide 4 Try.f4 rfl rfl rfl rfl rfl rfl rfl ⟨rfl, rfl, rfl, rfl, rfl⟩ rfl rfl rfl rfl rfl (by kernel_rfl) Try.func4 FnExactTruthOf_closed
    (of_decide_eq_true (by kernel_rfl)) (by unfold Func.isWrapper; rw [if_neg (of_decide_eq_false (by kernel_rfl))]; exact ⟨rfl, rfl⟩)
    (fun os started H enc _ => FnExactTruthOf_lifted os started H enc)
end Go.Proofs.Ytdepckmjgpkjmaa
