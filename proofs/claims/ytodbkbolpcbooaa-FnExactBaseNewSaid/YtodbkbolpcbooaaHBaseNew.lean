/-
  The statement holds: from the walk of the law to its row. Conditions: none.
-/
import Derived.Test.YtodbkbolpcbooaaL
import Derived.Test.YtodbkbolpcbooaaO
import Derived.Lib.SmallJoins
import Derived.Test.YtodbkbolpcbooaaLBN
namespace Go.Proofs.Ytodbkbolpcbooaa
open Go.ChangeShapes Go.WideShapes Go.ChangeAt Go.RowKit Go.Joins

set_option maxRecDepth 100000 in
theorem FnExactBaseNew_lifted (os : Os) (started : os.Started) (H : Type) (enc : TypeId × Value → H) :
    ReturnsInHanded {} Try.checked os 6 .any (Rows.fnExactBaseNewSpec.pre6 enc Try.prog Try.f6 Rows.fnExactBaseNewRow.domain false) (Rows.fnExactBaseNewSpec.post enc Try.prog Try.f6 false true false false) := by
  refine lift 4 (C := Try.checked) Try.own Try.laidOut started (by kernel_rfl) Try.func6
    (ChangeSpec.witness6 (enc := enc) (C := Try.checked) false ⟨#[], #[], []⟩ 12 (by kernel_rfl) (by kernel_rfl) (by kernel_rfl) (by kernel_rfl))
    rfl (by kernel_rfl) Try.underlying4 (by kernel_rfl) (fun ds hds => by
      match ds, hds with
      | [], _ => rfl) ?_
  intro W args ds p hval0 hA0
  have hval : ∀ (j : Nat) t v, Try.f6.params[j]? = some t → args[j]? = some v → ∃ base, Value.okWide Try.prog W .any base t v := hval0
  have hA : DataW.TrodAll enc Try.prog W 0 (fun _ => true) true Try.f6.params.toList args.toList ds p := hA0
  clear hval0 hA0
  rw [Try.params6] at hA hval
  obtain ⟨rfl, rfl, rfl⟩ := trodAll_none hA
  exact FnExactBaseNew_law W 

theorem FnExactBaseNew_closed : joinedFacts Try.pinned.checked.prog 6 Try.f6 Rows.fnExactBaseNewSpec Rows.fnExactBaseNewRow = true := by kernel_rfl

theorem FnExactBaseNew_holds : Rows.FnExactBaseNewSaid :=
  OpenClaim.holds_of_wide 6 Try.f6 rfl rfl rfl rfl rfl rfl rfl ⟨rfl, rfl, rfl, rfl, rfl⟩ rfl rfl rfl rfl rfl (by kernel_rfl) Try.func6 FnExactBaseNew_closed
    (of_decide_eq_true (by kernel_rfl)) (by unfold Func.isWrapper; rw [if_neg (of_decide_eq_false (by kernel_rfl))]; exact ⟨rfl, rfl⟩)
    (fun os started H enc _ => FnExactBaseNew_lifted os started H enc)
end Go.Proofs.Ytodbkbolpcbooaa
