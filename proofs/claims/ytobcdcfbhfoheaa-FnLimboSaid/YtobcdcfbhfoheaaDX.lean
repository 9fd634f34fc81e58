/-
  DrawRetireTo.
-/
import Derived.Test.YtobcdcfbhfoheaaT
import Derived.Test.YtobcdcfbhfoheaaL
import Derived.Deep.QuietTactic
import Derived.BigQuiet
import Derived.Deep.LoopGhost
import Derived.Deep.RegionHeld3
import Derived.Test.YtobcdcfbhfoheaaN
import Derived.Test.YtobcdcfbhfoheaaA
import Derived.WalkSpells
import Derived.Laws.Cover3
import Derived.Test.YtobcdcfbhfoheaaDW
namespace Go.Proofs.Ytobcdcfbhfoheaa
open Go.RowKit
set_option maxHeartbeats 1000000 in
theorem DrawRetireTo_ct (w : World) (v : Value) (code : List Int) (h : RdL FU8 w w.heap.size v code) (hb : ∀ x ∈ code, 0 ≤ x ∧ x ≤ 255) (hs : code.length ≤ 1073741824) :
    Calls Try.prog 50 #[v] w fun e w' => ∃ v' t ll a b c, e = .returned (.tuple #[v', .int .i64 a, .int .i64 b, .int .i64 c]) ∧ OwLL FLRow 75 60 w' v' t ll ∧ szLL ll ≤ 100 ∧ (∀ g ∈ foot2 v' t, w.heap.size ≤ g) ∧ (-1 ≤ a ∧ a ≤ 3 ∧ -1 ≤ b ∧ b ≤ 224 ∧ -1 ≤ c ∧ c ≤ 100001) ∧ Below w.heap.size w w' := by
  go_enter Try.func50, Try.ntmps50
  go_wp2_with fail
  refine (l1New_ct _ _ code h hb hs).mono ?_
  rintro e w1 ⟨rfl, hc1, hb1⟩
  have hgl := hc1.lt
  go_wp2_with fail
  refine (l11Any_ct _ _ code hc1).mono ?_
  rintro e w2 ⟨v', t, ll, rfl, o2, hz, f2, hc2, hg2⟩
  have hd : ∀ b ∈ foot2 v' t, b ∉ [w.heap.size] := fun b hb hm => by simp at hm; subst hm; have := f2 _ hb; omega
  go_wp2_with fail
  refine (l8Who_ct _ _ code hc2).mono ?_
  rintro e w3 ⟨a, rfl, a0, a1, hc3, hg3⟩
  have o3 := o2.chg hg3 hd
  go_wp2_with fail
  refine (l6Handle_ct _ _ code hc3).mono ?_
  rintro e w4 ⟨b, rfl, b0, b1, hc4, hg4⟩
  have o4 := o3.chg hg4 hd
  go_wp2_with fail
  have ho := OwL.lit FI [0, 1, 5, -1, 100000, 100001, 2, 3] #[.int .i64 0, .int .i64 1, .int .i64 5, .int .i64 (-1), .int .i64 100000, .int .i64 100001, .int .i64 2, .int .i64 3] rfl (by decide) w4 3
  have hl4 := hc4.lt
  refine (l1PickInt_ct _ _ code _ [0, 1, 5, -1, 100000, 100001, 2, 3] ho (by simp [foot1, Value.ownBlock]; omega) (by decide) (by decide) (hc4.alloc _)).mono ?_
  rintro e w5 ⟨c, rfl, hcm, hc5, hg5⟩
  have hg5' := hg5.alloc_first
  have o5 := o4.chg hg5' hd
  have hg25 := ((hg2.trans hg3).trans hg4).trans hg5'
  have hcb : -1 ≤ c ∧ c ≤ 100001 := by simp at hcm; omega
  clear hcm
  go_wp2_with fail
  refine bodyPost_ret (v := .tuple #[v', .int .i64 a, .int .i64 b, .int .i64 c]) (by simp [results, Try.results50, go_sem]) rfl ⟨v', t, ll, a, b, c, rfl, o5, hz, fun g hg => by have := f2 g hg; have := hb1.size; omega, ⟨a0, a1, b0, b1, hcb.1, hcb.2⟩, hb1.trans (hg25.below hb1.size (fun g hm => by simp at hm; omega))⟩
end Go.Proofs.Ytobcdcfbhfoheaa
