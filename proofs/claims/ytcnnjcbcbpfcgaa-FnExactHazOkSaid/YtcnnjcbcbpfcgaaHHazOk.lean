/-
  The statement holds: from the walk of the law to its row. Conditions: none.
-/
import Derived.Test.YtcnnjcbcbpfcgaaL
import Derived.Test.YtcnnjcbcbpfcgaaO
import Derived.Lib.SmallJoins
import Derived.Test.YtcnnjcbcbpfcgaaY
namespace Go.Proofs.Ytcnnjcbcbpfcgaa
open Go.ChangeShapes Go.WideShapes Go.ChangeAt Go.RowKit Go.Joins

set_option maxRecDepth 100000 in
theorem FnExactHazOk_lifted (os : Os) (started : os.Started) (H : Type) (enc : TypeId × Value → H) :
    ReturnsInHanded {} Try.checked os 10 .any (Rows.fnExactHazOkSpec.pre6 enc Try.prog Try.f10 Rows.fnExactHazOkRow.domain false) (Rows.fnExactHazOkSpec.post enc Try.prog Try.f10 false true false false) := by
  refine lift 4 (C := Try.checked) Try.own Try.laidOut started (by kernel_rfl) Try.func10
    (ChangeSpec.witness6 (enc := enc) (C := Try.checked) false ⟨#[], #[.slice none 0 0], []⟩ 12 (by kernel_rfl) (by kernel_rfl) (by kernel_rfl) (by kernel_rfl))
    rfl (by kernel_rfl) Try.underlying4 (by kernel_rfl) (fun ds hds => by
      match ds, hds with
      | [d0], _ => rfl) ?_
  intro W args ds p hval0 hA0
  have hval : ∀ (j : Nat) t v, Try.f10.params[j]? = some t → args[j]? = some v → ∃ base, Value.okWide Try.prog W .any base t v := hval0
  have hA : DataW.TrodAll enc Try.prog W 0 (fun _ => true) true Try.f10.params.toList args.toList ds p := hA0
  clear hval0 hA0
  rw [Try.params10] at hA hval
  obtain ⟨v0, d0, rfl, rfl, h0⟩ := trodAll_one hA
  obtain ⟨_, hv0⟩ := hval 0 _ v0 rfl rfl
  obtain ⟨A0, n0, cp0, rfl⟩ := okWide_slice Try.underlying30 hv0
  obtain ⟨v0', z, hcs0, hz⟩ := (opens_flat (T := FI) Try.underlying30 (by kernel_rfl) (fun H enc W base spare held fuel cs x hh => by obtain ⟨n, hn, _⟩ := opens_int Try.underlying3 H enc W base spare held fuel cs x hh; exact ⟨n, hn⟩)).trod h0
  have hcs0' : Value.slice A0 n0 cp0 = v0' := by simpa [Value.cells] using hcs0
  subst hcs0'
  exact FnExactHazOk_law W _ z hz

theorem FnExactHazOk_closed : joinedFacts Try.pinned.checked.prog 10 Try.f10 Rows.fnExactHazOkSpec Rows.fnExactHazOkRow = true := by kernel_rfl

theorem FnExactHazOk_holds : Rows.FnExactHazOkSaid :=
  OpenClaim.holds_of_wide 10 Try.f10 rfl rfl rfl rfl rfl rfl rfl ⟨rfl, rfl, rfl, rfl, rfl⟩ rfl rfl rfl rfl rfl (by kernel_rfl) Try.func10 FnExactHazOk_closed
    (of_decide_eq_true (by kernel_rfl)) (by unfold Func.isWrapper; rw [if_neg (of_decide_eq_false (by kernel_rfl))]; exact ⟨rfl, rfl⟩)
    (fun os started H enc _ => FnExactHazOk_lifted os started H enc)
end Go.Proofs.Ytcnnjcbcbpfcgaa
