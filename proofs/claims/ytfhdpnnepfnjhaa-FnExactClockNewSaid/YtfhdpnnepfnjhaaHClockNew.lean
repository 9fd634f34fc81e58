/-
  The statement holds: from the walk of the law to its row. Conditions: none.
-/
import Derived.Test.YtfhdpnnepfnjhaaL
import Derived.Test.YtfhdpnnepfnjhaaO
import Derived.Lib.SmallJoins
import Derived.Test.YtfhdpnnepfnjhaaL7
namespace Go.Proofs.Ytfhdpnnepfnjhaa
open Go.ChangeShapes Go.WideShapes Go.ChangeAt Go.RowKit Go.Joins

set_option maxRecDepth 100000 in
theorem FnExactClockNew_lifted (os : Os) (started : os.Started) (H : Type) (enc : TypeId × Value → H) :
    ReturnsInHanded {} Try.checked os 3 .any (Rows.fnExactClockNewSpec.pre6 enc Try.prog Try.f3 Rows.fnExactClockNewRow.domain false) (Rows.fnExactClockNewSpec.post enc Try.prog Try.f3 false true false false) := by
  refine lift 4 (C := Try.checked) Try.own Try.laidOut started (by kernel_rfl) Try.func3
    (ChangeSpec.witness6 (enc := enc) (C := Try.checked) false ⟨#[], #[], []⟩ 12 (by kernel_rfl) (by kernel_rfl) (by kernel_rfl) (by kernel_rfl))
    rfl (by kernel_rfl) Try.underlying4 (by kernel_rfl) (fun ds hds => by
      match ds, hds with
      | [], _ => rfl) ?_
  intro W args ds p hval0 hA0
  have hval : ∀ (j : Nat) t v, Try.f3.params[j]? = some t → args[j]? = some v → ∃ base, Value.okWide Try.prog W .any base t v := hval0
  have hA : DataW.TrodAll enc Try.prog W 0 (fun _ => true) true Try.f3.params.toList args.toList ds p := hA0
  clear hval0 hA0
  rw [Try.params3] at hA hval
  obtain ⟨rfl, rfl, rfl⟩ := trodAll_none hA
  exact FnExactClockNew_law W 

theorem FnExactClockNew_closed : joinedFacts Try.pinned.checked.prog 3 Try.f3 Rows.fnExactClockNewSpec Rows.fnExactClockNewRow = true := by kernel_rfl

theorem FnExactClockNew_holds : Rows.FnExactClockNewSaid :=
  OpenClaim.holds_of_wide 3 Try.f3 rfl rfl rfl rfl rfl rfl rfl ⟨rfl, rfl, rfl, rfl, rfl⟩ rfl rfl rfl rfl rfl (by kernel_rfl) Try.func3 FnExactClockNew_closed
    (of_decide_eq_true (by kernel_rfl)) (by unfold Func.isWrapper; rw [if_neg (of_decide_eq_false (by kernel_rfl))]; exact ⟨rfl, rfl⟩)
    (fun os started H enc _ => FnExactClockNew_lifted os started H enc)
end Go.Proofs.Ytfhdpnnepfnjhaa
