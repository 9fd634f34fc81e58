/-
  The statement holds: from the walk of the law to its row. Conditions: none.
-/
import Derived.Test.YtobcdcfbhfoheaaL
import Derived.Test.YtobcdcfbhfoheaaO
import Derived.Lib.SmallJoins
import Derived.Test.YtobcdcfbhfoheaaRY
namespace Go.Proofs.Ytobcdcfbhfoheaa
open Go.ChangeShapes Go.WideShapes Go.ChangeAt Go.RowKit Go.Joins

set_option maxRecDepth 100000 in
theorem opens_LRow : Opens Try.prog 103 fun _ cs => ∃ y : LRow, cs = FLRow.enc y := by
  intro H enc W base spare held fuel cs x hh
  obtain ⟨xs, n, _, _, hl, hxs, hg⟩ := DataW.trod_struct Try.underlying103 hh
  have hc : Try.prog.cellsOf 103 = 2 := by kernel_rfl
  have hxs' : xs.length = 2 := hxs
  rw [hc] at hl
  clear hh
  match cs, hl with
  | [c0, c1], _ =>
  have hc_i : Try.prog.cellsOf 3 = 1 := by kernel_rfl
  obtain ⟨y0, e0⟩ : ∃ y, xs[0]? = some y := ⟨_, List.getElem?_eq_getElem (by omega)⟩
  have g0 : DataW.trod enc Try.prog W base spare held n 3 (([c0, c1].drop 0).take (Try.prog.cellsOf 3)) = xs[0]? := hg 0 _ rfl
  rw [e0, hc_i] at g0
  obtain ⟨y1, e1⟩ : ∃ y, xs[1]? = some y := ⟨_, List.getElem?_eq_getElem (by omega)⟩
  have g1 : DataW.trod enc Try.prog W base spare held n 3 (([c0, c1].drop 1).take (Try.prog.cellsOf 3)) = xs[1]? := hg 1 _ rfl
  rw [e1, hc_i] at g1
  obtain ⟨z0, q0, _⟩ := opens_int Try.underlying3 H enc W base spare held n _ _ g0
  clear g0
  obtain rfl : c0 = .int .i64 z0 := by simpa using q0
  obtain ⟨z1, q1, _⟩ := opens_int Try.underlying3 H enc W base spare held n _ _ g1
  clear g1
  obtain rfl : c1 = .int .i64 z1 := by simpa using q1
  exact ⟨⟨z0, z1⟩, rfl⟩

set_option maxRecDepth 100000 in
theorem opens_LList : Opens Try.prog 70 fun W cs => ∃ v l, cs = [v] ∧ RdL FLRow W W.heap.size v l := by
  intro H enc W base spare held fuel cs x hh
  obtain ⟨xs, n, _, _, hl, hxs, hg⟩ := DataW.trod_struct Try.underlying70 hh
  have hc : Try.prog.cellsOf 70 = 1 := by kernel_rfl
  have hxs' : xs.length = 1 := hxs
  rw [hc] at hl
  clear hh
  match cs, hl with
  | [c0], _ =>
  have hc0 : Try.prog.cellsOf 68 = 1 := by kernel_rfl
  obtain ⟨y0, e0⟩ : ∃ y, xs[0]? = some y := ⟨_, List.getElem?_eq_getElem (by omega)⟩
  have g0 : DataW.trod enc Try.prog W base spare held n 68 (([c0].drop 0).take (Try.prog.cellsOf 68)) = xs[0]? := hg 0 _ rfl
  rw [e0, hc0] at g0
  exact (opens_flat (T := FLRow) Try.underlying68 (by kernel_rfl) opens_LRow) H enc W base spare held n _ _ g0
theorem opens_LListS : Opens Try.prog 37 fun W cs => ∃ v svs ll, cs = [v] ∧ RdLL FLRow W W.heap.size v svs ll := opens_nested Try.underlying37 (by kernel_rfl) opens_LList

set_option maxRecDepth 100000 in
theorem FnExactBucket_lifted (os : Os) (started : os.Started) (H : Type) (enc : TypeId × Value → H) :
    ReturnsInHanded {} Try.checked os 11 .any (Rows.fnExactBucketSpec.pre6 enc Try.prog Try.f11 Rows.fnExactBucketRow.domain false) (Rows.fnExactBucketSpec.post enc Try.prog Try.f11 false true false false) := by
  refine lift 4 (C := Try.checked) Try.own Try.laidOut started (by kernel_rfl) Try.func11
    (ChangeSpec.witness6 (enc := enc) (C := Try.checked) false ⟨#[], #[.slice none 0 0, .int .i64 0, .int .i64 0], []⟩ 12 (by kernel_rfl) (by kernel_rfl) (by kernel_rfl) (by kernel_rfl))
    rfl (by kernel_rfl) Try.underlying4 (by kernel_rfl) (fun ds hds => by
      match ds, hds with
      | [d0, d1, d2], _ => rfl) ?_
  intro W args ds p hval0 hA0
  have hval : ∀ (j : Nat) t v, Try.f11.params[j]? = some t → args[j]? = some v → ∃ base, Value.okWide Try.prog W .any base t v := hval0
  have hA : DataW.TrodAll enc Try.prog W 0 (fun _ => true) true Try.f11.params.toList args.toList ds p := hA0
  clear hval0 hA0
  rw [Try.params11] at hA hval
  obtain ⟨v0, v1, v2, d0, d1, d2, p0, p1, p2, rfl, rfl, rfl, h0, h1, h2⟩ := trodAll_three hA
  obtain ⟨_, hv0⟩ := hval 0 _ v0 rfl rfl
  obtain ⟨_, hv1⟩ := hval 1 _ v1 rfl rfl
  obtain ⟨_, hv2⟩ := hval 2 _ v2 rfl rfl
  obtain ⟨A0, n0, cp0, rfl⟩ := okWide_slice Try.underlying37 hv0
  obtain ⟨v0', t0, ll, hcs0, hl⟩ := opens_LListS.trod h0
  have hcs0' : Value.slice A0 n0 cp0 = v0' := by simpa [Value.cells] using hcs0
  subst hcs0'
  obtain ⟨a, rfl, rfl, rfl, wa⟩ := open_int Try.underlying3 hv1 h1
  have ba := bd_i64 wa
  obtain ⟨b, rfl, rfl, rfl, wb⟩ := open_int Try.underlying3 hv2 h2
  have bb := bd_i64 wb
  exact FnExactBucket_law W _ t0 ll a b hl

theorem FnExactBucket_closed : joinedFacts Try.pinned.checked.prog 11 Try.f11 Rows.fnExactBucketSpec Rows.fnExactBucketRow = true := by kernel_rfl

theorem FnExactBucket_holds : Rows.FnExactBucketSaid :=
  OpenClaim.holds_of_wide 11 Try.f11 rfl rfl rfl rfl rfl rfl rfl ⟨rfl, rfl, rfl, rfl, rfl⟩ rfl rfl rfl rfl rfl (by kernel_rfl) Try.func11 FnExactBucket_closed
    (of_decide_eq_true (by kernel_rfl)) (by unfold Func.isWrapper; rw [if_neg (of_decide_eq_false (by kernel_rfl))]; exact ⟨rfl, rfl⟩)
    (fun os started H enc _ => FnExactBucket_lifted os started H enc)
end Go.Proofs.Ytobcdcfbhfoheaa
