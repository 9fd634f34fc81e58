/-
  The statement holds: from the walk of the law to its row. Conditions: none.
-/
import Derived.Test.YtcnnjcbcbpfcgaaL
import Derived.Test.YtcnnjcbcbpfcgaaM
import Derived.Lib.SmallJoins
import Derived.Test.YtcnnjcbcbpfcgaaP3
namespace Go.Proofs.Ytcnnjcbcbpfcgaa
open Go.ChangeShapes Go.WideShapes Go.ChangeAt Go.RowKit Go.Joins

set_option maxRecDepth 100000 in
theorem FnExactSubNew_lifted (os : Os) (started : os.Started) (H : Type) (enc : TypeId × Value → H) :
    ReturnsInHanded {} Try.checked os 7 .any (Rows.fnExactSubNewSpec.pre6 enc Try.prog Try.f7 Rows.fnExactSubNewRow.domain false) (Rows.fnExactSubNewSpec.post enc Try.prog Try.f7 false true false false) := by
  refine lift 4 (C := Try.checked) Try.own Try.laidOut started (by kernel_rfl) Try.func7
    (ChangeSpec.witness6 (enc := enc) (C := Try.checked) false ⟨#[], #[.int .i64 0, .int .i64 0], []⟩ 12 (by kernel_rfl) (by kernel_rfl) (by kernel_rfl) (by kernel_rfl))
    rfl (by kernel_rfl) Try.underlying4 (by kernel_rfl) (fun ds hds => by
      match ds, hds with
      | [d0, d1], _ => rfl) ?_
  intro W args ds p hval0 hA0
  have hval : ∀ (j : Nat) t v, Try.f7.params[j]? = some t → args[j]? = some v → ∃ base, Value.okWide Try.prog W .any base t v := hval0
  have hA : DataW.TrodAll enc Try.prog W 0 (fun _ => true) true Try.f7.params.toList args.toList ds p := hA0
  clear hval0 hA0
  rw [Try.params7] at hA hval
  obtain ⟨v0, v1, d0, d1, p0, p1, rfl, rfl, rfl, h0, h1⟩ := trodAll_two hA
  obtain ⟨_, hv0⟩ := hval 0 _ v0 rfl rfl
  obtain ⟨_, hv1⟩ := hval 1 _ v1 rfl rfl
  obtain ⟨a, rfl, rfl, rfl, wa⟩ := open_int Try.underlying3 hv0 h0
  have ba := bd_i64 wa
  obtain ⟨b, rfl, rfl, rfl, wb⟩ := open_int Try.underlying3 hv1 h1
  have bb := bd_i64 wb
  exact FnExactSubNew_law a b W

theorem FnExactSubNew_holds : Rows.FnExactSubNewSaid :=
  OpenClaim.holds_of_wide 7 Try.f7 rfl rfl rfl rfl rfl rfl rfl ⟨rfl, rfl, rfl, rfl, rfl⟩ rfl rfl rfl rfl rfl (by kernel_rfl) Try.func7 (by kernel_rfl)
    (of_decide_eq_true (by kernel_rfl)) (by unfold Func.isWrapper; rw [if_neg (of_decide_eq_false (by kernel_rfl))]; exact ⟨rfl, rfl⟩)
    (fun os started H enc _ => FnExactSubNew_lifted os started H enc)
end Go.Proofs.Ytcnnjcbcbpfcgaa
