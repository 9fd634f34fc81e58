/-
  The statement holds: from the walk of the law to its row. Conditions: none.
-/
import Derived.Test.YtkmggglljkmjoaaGreatUHCounts1
import Derived.Lib.SmallJoins
import Derived.Test.YtkmggglljkmjoaaGreatUHCounts11
namespace Go.Proofs.YtkmggglljkmjoaaGreat
open Go.Proofs.YtkmggglljkmjoaaGreat.Lim Go.ChangeShapes Go.WideShapes Go.ChangeAt Go.RowKit Go.Joins

def FB8 : FT { x : Int // 0 ≤ x ∧ x ≤ 255 } := { n := 1, enc := fun x => [.int .u8 x.1], dflt := ⟨0, by decide⟩, len := fun _ => rfl, one := by intro x u hu; simp at hu; subst hu; rfl, pos := by decide, small := by decide }
theorem flat_fb8 (l : List { x : Int // 0 ≤ x ∧ x ≤ 255 }) : flat FB8 l = flat Lim.FU8 (l.map Subtype.val) := by
  unfold flat
  rw [List.flatMap_map]
  rfl
theorem rd_fb8 {w : World} {B : Nat} {v : Value} {l : List { x : Int // 0 ≤ x ∧ x ≤ 255 }} (h : RdL FB8 w B v l) : RdL Lim.FU8 w B v (l.map Subtype.val) ∧ ∀ x ∈ l.map Subtype.val, 0 ≤ x ∧ x ≤ 255 := by
  refine ⟨?_, fun x hx => ?_⟩
  · obtain ⟨A, cap, hv, h1, h2, h3⟩ := h
    refine ⟨A, cap, by rw [List.length_map]; exact hv, by rw [List.length_map]; exact h1, h2, fun hne => ?_⟩
    obtain ⟨g, off, hA, hg, hc⟩ := h3 (fun e => hne (by rw [e]; rfl))
    refine ⟨g, off, hA, hg, fun j u hu => hc j u ?_⟩
    rw [flat_fb8]
    exact hu
  · obtain ⟨y, _, rfl⟩ := List.mem_map.1 hx
    exact y.2
theorem opens_u8 {P : Program} {t : TypeId} (ht : P.underlying t = some (.int .u8)) : Opens P t fun _ cs => ∃ y, cs = FB8.enc y := by
  intro H enc W base spare held fuel cs x h
  obtain ⟨n, h1, _, h2⟩ := DataW.trod_int ht h
  have hb : 0 ≤ n ∧ n ≤ 255 := by
    simp [Lit.wf, IntKind.min, IntKind.max, IntKind.signed, IntKind.bits] at h2
    omega
  exact ⟨⟨n, hb⟩, h1⟩

set_option maxRecDepth 100000 in
theorem FnCounts_lifted (os : Os) (started : os.Started) (H : Type) (enc : TypeId × Value → H) :
    ReturnsInHanded {} Tryz.checked os 4 .any (Rows.fnCountsSpec.pre6 enc Tryz.prog Tryz.f4 Rows.fnCountsRow.domain false) (Rows.fnCountsSpec.post enc Tryz.prog Tryz.f4 false true false false) := by
  refine lift 4 (C := Tryz.checked) Tryz.own Tryz.laidOut started (by kernel_rfl) Tryz.func4
    (ChangeSpec.witness6 (enc := enc) (C := Tryz.checked) false ⟨#[], #[.slice none 0 0], []⟩ 12 (by kernel_rfl) (by kernel_rfl) (by kernel_rfl) (by kernel_rfl))
    rfl (by kernel_rfl) Tryz.underlying4 (by kernel_rfl) (fun ds hds => by
      match ds, hds with
      | [d0], _ => rfl) ?_
  intro W args ds p hval0 hA0
  have hval : ∀ (j : Nat) t v, Tryz.f4.params[j]? = some t → args[j]? = some v → ∃ base, Value.okWide Tryz.prog W .any base t v := hval0
  have hA : DataW.TrodAll enc Tryz.prog W 0 (fun _ => true) true Tryz.f4.params.toList args.toList ds p := hA0
  clear hval0 hA0
  rw [Tryz.params4] at hA hval
  obtain ⟨v0, d0, rfl, rfl, h0⟩ := trodAll_one hA
  obtain ⟨_, hv0⟩ := hval 0 _ v0 rfl rfl
  obtain ⟨A0, n0, cp0, rfl⟩ := okWide_slice Tryz.underlying22 hv0
  obtain ⟨v0', l, hcs0, hl⟩ := (opens_flat (T := FB8) Tryz.underlying22 (by kernel_rfl) (opens_u8 Tryz.underlying5)).trod h0
  have hcs0' : Value.slice A0 n0 cp0 = v0' := by simpa [Value.cells] using hcs0
  subst hcs0'
  obtain ⟨hr, hbd⟩ := rd_fb8 hl
  exact FnCounts_law W _ _ hr hbd

theorem and_t_ {a b : Bool} (ha : a = true) (hb : b = true) : (a && b) = true := by rw [ha, hb]; rfl
set_option maxHeartbeats 8000000 in
theorem FnCounts_closed : joinedFacts Tryz.pinned.checked.prog 4 Tryz.f4 Rows.fnCountsSpec Rows.fnCountsRow = true := by
  unfold joinedFacts
  repeat' (with_reducible refine and_t_ ?_ ?_)
  all_goals (as_aux_lemma => kernel_rfl)


theorem FnCounts_holds : Rows.FnCountsSaid :=
  OpenClaim.holds_of_wide 4 Tryz.f4 rfl rfl rfl rfl rfl rfl rfl ⟨rfl, rfl, rfl, rfl, rfl⟩ rfl rfl rfl rfl rfl (by kernel_rfl) Tryz.func4 FnCounts_closed
    (of_decide_eq_true (by kernel_rfl)) (by unfold Func.isWrapper; rw [if_neg (of_decide_eq_false (by kernel_rfl))]; exact ⟨rfl, rfl⟩)
    (fun os started H enc _ => FnCounts_lifted os started H enc)
end Go.Proofs.YtkmggglljkmjoaaGreat

