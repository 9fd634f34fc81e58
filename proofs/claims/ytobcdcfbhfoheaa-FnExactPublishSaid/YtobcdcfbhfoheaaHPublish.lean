/-
  The statement holds: from the walk of the law to its row. Conditions: none.
-/
import Derived.Test.YtobcdcfbhfoheaaL
import Derived.Test.YtobcdcfbhfoheaaO
import Derived.Lib.SmallJoins
import Derived.Test.YtobcdcfbhfoheaaY
namespace Go.Proofs.Ytobcdcfbhfoheaa
open Go.ChangeShapes Go.WideShapes Go.ChangeAt Go.RowKit Go.Joins

set_option maxRecDepth 100000 in
theorem FnExactPublish_lifted (os : Os) (started : os.Started) (H : Type) (enc : TypeId × Value → H) :
    ReturnsInHanded {} Try.checked os 5 .any (Rows.fnExactPublishSpec.pre6 enc Try.prog Try.f5 Rows.fnExactPublishRow.domain false) (Rows.fnExactPublishSpec.post enc Try.prog Try.f5 false true false false) := by
  refine lift 4 (C := Try.checked) Try.own Try.laidOut started (by kernel_rfl) Try.func5
    (ChangeSpec.witness6 (enc := enc) (C := Try.checked) false ⟨#[], #[.slice none 0 0, .int .i64 0, .int .i64 0], []⟩ 12 (by kernel_rfl) (by kernel_rfl) (by kernel_rfl) (by kernel_rfl))
    rfl (by kernel_rfl) Try.underlying4 (by kernel_rfl) (fun ds hds => by
      match ds, hds with
      | [d0, d1, d2], _ => rfl) ?_
  intro W args ds p hval0 hA0
  have hval : ∀ (j : Nat) t v, Try.f5.params[j]? = some t → args[j]? = some v → ∃ base, Value.okWide Try.prog W .any base t v := hval0
  have hA : DataW.TrodAll enc Try.prog W 0 (fun _ => true) true Try.f5.params.toList args.toList ds p := hA0
  clear hval0 hA0
  rw [Try.params5] at hA hval
  obtain ⟨v0, v1, v2, d0, d1, d2, p0, p1, p2, rfl, rfl, rfl, h0, h1, h2⟩ := trodAll_three hA
  obtain ⟨_, hv0⟩ := hval 0 _ v0 rfl rfl
  obtain ⟨_, hv1⟩ := hval 1 _ v1 rfl rfl
  obtain ⟨_, hv2⟩ := hval 2 _ v2 rfl rfl
  obtain ⟨A0, n0, cp0, rfl⟩ := okWide_slice Try.underlying22 hv0
  obtain ⟨v0', z, hcs0, hz⟩ := (opens_flat (T := FI) Try.underlying22 (by kernel_rfl) (fun H enc W base spare held fuel cs x hh => by obtain ⟨n, hn, _⟩ := opens_int Try.underlying3 H enc W base spare held fuel cs x hh; exact ⟨n, hn⟩)).trod h0
  have hcs0' : Value.slice A0 n0 cp0 = v0' := by simpa [Value.cells] using hcs0
  subst hcs0'
  obtain ⟨a, rfl, rfl, rfl, wa⟩ := open_int Try.underlying3 hv1 h1
  have ba := bd_i64 wa
  obtain ⟨b, rfl, rfl, rfl, wb⟩ := open_int Try.underlying3 hv2 h2
  have bb := bd_i64 wb
  exact FnExactPublish_law W _ z a b hz

theorem FnExactPublish_closed : joinedFacts Try.pinned.checked.prog 5 Try.f5 Rows.fnExactPublishSpec Rows.fnExactPublishRow = true := by kernel_rfl

theorem FnExactPublish_holds : Rows.FnExactPublishSaid :=
  OpenClaim.holds_of_wide 5 Try.f5 rfl rfl rfl rfl rfl rfl rfl ⟨rfl, rfl, rfl, rfl, rfl⟩ rfl rfl rfl rfl rfl (by kernel_rfl) Try.func5 FnExactPublish_closed
    (of_decide_eq_true (by kernel_rfl)) (by unfold Func.isWrapper; rw [if_neg (of_decide_eq_false (by kernel_rfl))]; exact ⟨rfl, rfl⟩)
    (fun os started H enc _ => FnExactPublish_lifted os started H enc)
end Go.Proofs.Ytobcdcfbhfoheaa
