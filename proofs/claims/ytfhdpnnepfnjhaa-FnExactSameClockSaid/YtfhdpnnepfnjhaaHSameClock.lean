/-
  The statement holds: from the walk of the law to its row. Conditions: none.
-/
import Derived.Test.YtfhdpnnepfnjhaaL
import Derived.Test.YtfhdpnnepfnjhaaO
import Derived.Lib.SmallJoins
import Derived.Test.YtfhdpnnepfnjhaaL8
namespace Go.Proofs.Ytfhdpnnepfnjhaa
open Go.ChangeShapes Go.WideShapes Go.ChangeAt Go.RowKit Go.Joins

set_option maxRecDepth 100000 in
theorem opens_Pin : Opens Try.prog 90 fun _ cs => ∃ y : Pin, cs = FPin.enc y := by
  intro H enc W base spare held fuel cs x hh
  obtain ⟨xs, n, _, _, hl, hxs, hg⟩ := DataW.trod_struct Try.underlying90 hh
  have hc : Try.prog.cellsOf 90 = 4 := by kernel_rfl
  have hxs' : xs.length = 4 := hxs
  rw [hc] at hl
  clear hh
  match cs, hl with
  | [c0, c1, c2, c3], _ =>
  have hc_b : Try.prog.cellsOf 4 = 1 := by kernel_rfl
  have hc_i : Try.prog.cellsOf 3 = 1 := by kernel_rfl
  obtain ⟨y0, e0⟩ : ∃ y, xs[0]? = some y := ⟨_, List.getElem?_eq_getElem (by omega)⟩
  have g0 : DataW.trod enc Try.prog W base spare held n 4 (([c0, c1, c2, c3].drop 0).take (Try.prog.cellsOf 4)) = xs[0]? := hg 0 _ rfl
  rw [e0, hc_b] at g0
  obtain ⟨y1, e1⟩ : ∃ y, xs[1]? = some y := ⟨_, List.getElem?_eq_getElem (by omega)⟩
  have g1 : DataW.trod enc Try.prog W base spare held n 3 (([c0, c1, c2, c3].drop 1).take (Try.prog.cellsOf 3)) = xs[1]? := hg 1 _ rfl
  rw [e1, hc_i] at g1
  obtain ⟨y2, e2⟩ : ∃ y, xs[2]? = some y := ⟨_, List.getElem?_eq_getElem (by omega)⟩
  have g2 : DataW.trod enc Try.prog W base spare held n 4 (([c0, c1, c2, c3].drop 2).take (Try.prog.cellsOf 4)) = xs[2]? := hg 2 _ rfl
  rw [e2, hc_b] at g2
  obtain ⟨y3, e3⟩ : ∃ y, xs[3]? = some y := ⟨_, List.getElem?_eq_getElem (by omega)⟩
  have g3 : DataW.trod enc Try.prog W base spare held n 3 (([c0, c1, c2, c3].drop 3).take (Try.prog.cellsOf 3)) = xs[3]? := hg 3 _ rfl
  rw [e3, hc_i] at g3
  obtain ⟨z0, q0⟩ := opens_bool Try.underlying4 H enc W base spare held n _ _ g0
  clear g0
  obtain rfl : c0 = .bool z0 := by simpa using q0
  obtain ⟨z1, q1, _⟩ := opens_int Try.underlying3 H enc W base spare held n _ _ g1
  clear g1
  obtain rfl : c1 = .int .i64 z1 := by simpa using q1
  obtain ⟨z2, q2⟩ := opens_bool Try.underlying4 H enc W base spare held n _ _ g2
  clear g2
  obtain rfl : c2 = .bool z2 := by simpa using q2
  obtain ⟨z3, q3, _⟩ := opens_int Try.underlying3 H enc W base spare held n _ _ g3
  clear g3
  obtain rfl : c3 = .int .i64 z3 := by simpa using q3
  exact ⟨⟨z0, z1, z2, z3⟩, rfl⟩

set_option maxRecDepth 100000 in
theorem opens_Clock : Opens Try.prog 31 fun W cs => ∃ (K : HClock) (x : Clock), cs = [.int .i64 x.Epoch, .slice K.Pins.a K.Pins.len K.Pins.cap] ∧ RdClock W W.heap.size K x := by
  intro H enc W base spare held fuel cs x hh
  obtain ⟨xs, n, _, _, hl, hxs, hg⟩ := DataW.trod_struct Try.underlying31 hh
  have hc : Try.prog.cellsOf 31 = 2 := by kernel_rfl
  have hxs' : xs.length = 2 := hxs
  rw [hc] at hl
  clear hh
  match cs, hl with
  | [c0, c1], _ =>
  have hc0 : Try.prog.cellsOf 3 = 1 := by kernel_rfl
  obtain ⟨y0, e0⟩ : ∃ y, xs[0]? = some y := ⟨_, List.getElem?_eq_getElem (by omega)⟩
  have g0 : DataW.trod enc Try.prog W base spare held n 3 (([c0, c1].drop 0).take (Try.prog.cellsOf 3)) = xs[0]? := hg 0 _ rfl
  rw [e0, hc0] at g0
  have hc1 : Try.prog.cellsOf 29 = 1 := by kernel_rfl
  obtain ⟨y1, e1⟩ : ∃ y, xs[1]? = some y := ⟨_, List.getElem?_eq_getElem (by omega)⟩
  have g1 : DataW.trod enc Try.prog W base spare held n 29 (([c0, c1].drop 1).take (Try.prog.cellsOf 29)) = xs[1]? := hg 1 _ rfl
  rw [e1, hc1] at g1
  obtain ⟨z0, q0, _⟩ := opens_int Try.underlying3 H enc W base spare held n _ _ g0
  obtain rfl : c0 = .int .i64 z0 := by simpa using q0
  clear g0
  obtain ⟨v1, l1, q1, r1⟩ := (opens_flat (T := FPin) Try.underlying29 (by kernel_rfl) opens_Pin) H enc W base spare held n _ _ g1
  obtain rfl : c1 = v1 := by simpa using q1
  obtain ⟨A1, p1, hv1, _⟩ := id r1
  subst hv1
  clear g1
  exact ⟨⟨⟨A1, l1.length, p1⟩⟩, ⟨z0, l1⟩, rfl, ⟨r1⟩⟩

set_option maxRecDepth 100000 in
theorem FnExactSameClock_lifted (os : Os) (started : os.Started) (H : Type) (enc : TypeId × Value → H) :
    ReturnsInHanded {} Try.checked os 4 .any (Rows.fnExactSameClockSpec.pre6 enc Try.prog Try.f4 Rows.fnExactSameClockRow.domain false) (Rows.fnExactSameClockSpec.post enc Try.prog Try.f4 false true false false) := by
  refine lift 4 (C := Try.checked) Try.own Try.laidOut started (by kernel_rfl) Try.func4
    (ChangeSpec.witness6 (enc := enc) (C := Try.checked) false ⟨#[], #[.agg #[.int .i64 0, .slice none 0 0], .agg #[.int .i64 0, .slice none 0 0]], []⟩ 12 (by kernel_rfl) (by kernel_rfl) (by kernel_rfl) (by kernel_rfl))
    rfl (by kernel_rfl) Try.underlying4 (by kernel_rfl) (fun ds hds => by
      match ds, hds with
      | [d0, d1], _ => rfl) ?_
  intro W args ds p hval0 hA0
  have hval : ∀ (j : Nat) t v, Try.f4.params[j]? = some t → args[j]? = some v → ∃ base, Value.okWide Try.prog W .any base t v := hval0
  have hA : DataW.TrodAll enc Try.prog W 0 (fun _ => true) true Try.f4.params.toList args.toList ds p := hA0
  clear hval0 hA0
  rw [Try.params4] at hA hval
  obtain ⟨v0, v1, d0, d1, p0, p1, rfl, rfl, rfl, h0, h1⟩ := trodAll_two hA
  obtain ⟨_, hv0⟩ := hval 0 _ v0 rfl rfl
  obtain ⟨_, hv1⟩ := hval 1 _ v1 rfl rfl
  obtain ⟨cs0, rfl, _⟩ := okWide_struct Try.underlying31 hv0
  obtain ⟨K0, x0, hcs0, hr0⟩ := opens_Clock.trod h0
  have hcs0' : cs0.toList = [.int .i64 x0.Epoch, .slice K0.Pins.a K0.Pins.len K0.Pins.cap] := hcs0
  obtain rfl : cs0 = #[.int .i64 x0.Epoch, .slice K0.Pins.a K0.Pins.len K0.Pins.cap] := by rw [← Array.toList_inj]; exact hcs0'
  obtain ⟨cs1, rfl, _⟩ := okWide_struct Try.underlying31 hv1
  obtain ⟨K1, x1, hcs1, hr1⟩ := opens_Clock.trod h1
  have hcs1' : cs1.toList = [.int .i64 x1.Epoch, .slice K1.Pins.a K1.Pins.len K1.Pins.cap] := hcs1
  obtain rfl : cs1 = #[.int .i64 x1.Epoch, .slice K1.Pins.a K1.Pins.len K1.Pins.cap] := by rw [← Array.toList_inj]; exact hcs1'
  exact FnExactSameClock_law W K0 x0 K1 x1 hr0 hr1

theorem FnExactSameClock_closed : joinedFacts Try.pinned.checked.prog 4 Try.f4 Rows.fnExactSameClockSpec Rows.fnExactSameClockRow = true := by kernel_rfl

theorem FnExactSameClock_holds : Rows.FnExactSameClockSaid :=
  OpenClaim.holds_of_wide 4 Try.f4 rfl rfl rfl rfl rfl rfl rfl ⟨rfl, rfl, rfl, rfl, rfl⟩ rfl rfl rfl rfl rfl (by kernel_rfl) Try.func4 FnExactSameClock_closed
    (of_decide_eq_true (by kernel_rfl)) (by unfold Func.isWrapper; rw [if_neg (of_decide_eq_false (by kernel_rfl))]; exact ⟨rfl, rfl⟩)
    (fun os started H enc _ => FnExactSameClock_lifted os started H enc)
end Go.Proofs.Ytfhdpnnepfnjhaa
