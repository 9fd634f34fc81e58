/-
  The statement holds: from the walk of the law to its row. Conditions: none.
-/
import Derived.Test.YtobcdcfbhfoheaaL
import Derived.Test.YtobcdcfbhfoheaaO
import Derived.Lib.SmallJoins
import Derived.Test.YtobcdcfbhfoheaaY
namespace Go.Proofs.Ytobcdcfbhfoheaa
open Go.ChangeShapes Go.WideShapes Go.ChangeAt Go.RowKit Go.Joins

set_option maxRecDepth 100000 in
theorem FnExactClear_lifted (os : Os) (started : os.Started) (H : Type) (enc : TypeId × Value → H) :
    ReturnsInHanded {} Try.checked os 4 .any (Rows.fnExactClearSpec.pre6 enc Try.prog Try.f4 Rows.fnExactClearRow.domain false) (Rows.fnExactClearSpec.post enc Try.prog Try.f4 false true false false) := by
  refine lift 4 (C := Try.checked) Try.own Try.laidOut started (by kernel_rfl) Try.func4
    (ChangeSpec.witness6 (enc := enc) (C := Try.checked) false ⟨#[], #[.slice none 0 0, .int .i64 0], []⟩ 12 (by kernel_rfl) (by kernel_rfl) (by kernel_rfl) (by kernel_rfl))
    rfl (by kernel_rfl) Try.underlying4 (by kernel_rfl) (fun ds hds => by
      match ds, hds with
      | [d0, d1], _ => rfl) ?_
  intro W args ds p hval0 hA0
  have hval : ∀ (j : Nat) t v, Try.f4.params[j]? = some t → args[j]? = some v → ∃ base, Value.okWide Try.prog W .any base t v := hval0
  have hA : DataW.TrodAll enc Try.prog W 0 (fun _ => true) true Try.f4.params.toList args.toList ds p := hA0
  clear hval0 hA0
  rw [Try.params4] at hA hval
  obtain ⟨v0, v1, d0, d1, p0, p1, rfl, rfl, rfl, h0, h1⟩ := trodAll_two hA
  obtain ⟨_, hv0⟩ := hval 0 _ v0 rfl rfl
  obtain ⟨_, hv1⟩ := hval 1 _ v1 rfl rfl
  obtain ⟨A0, n0, cp0, rfl⟩ := okWide_slice Try.underlying22 hv0
  obtain ⟨v0', z, hcs0, hz⟩ := (opens_flat (T := FI) Try.underlying22 (by kernel_rfl) (fun H enc W base spare held fuel cs x hh => by obtain ⟨n, hn, _⟩ := opens_int Try.underlying3 H enc W base spare held fuel cs x hh; exact ⟨n, hn⟩)).trod h0
  have hcs0' : Value.slice A0 n0 cp0 = v0' := by simpa [Value.cells] using hcs0
  subst hcs0'
  obtain ⟨a, rfl, rfl, rfl, wa⟩ := open_int Try.underlying3 hv1 h1
  have ba := bd_i64 wa
  exact FnExactClear_law W _ z a hz

theorem FnExactClear_closed : joinedFacts Try.pinned.checked.prog 4 Try.f4 Rows.fnExactClearSpec Rows.fnExactClearRow = true := by kernel_rfl

theorem FnExactClear_holds : Rows.FnExactClearSaid :=
  OpenClaim.holds_of_wide 4 Try.f4 rfl rfl rfl rfl rfl rfl rfl ⟨rfl, rfl, rfl, rfl, rfl⟩ rfl rfl rfl rfl rfl (by kernel_rfl) Try.func4 FnExactClear_closed
    (of_decide_eq_true (by kernel_rfl)) (by unfold Func.isWrapper; rw [if_neg (of_decide_eq_false (by kernel_rfl))]; exact ⟨rfl, rfl⟩)
    (fun os started H enc _ => FnExactClear_lifted os started H enc)
end Go.Proofs.Ytobcdcfbhfoheaa
