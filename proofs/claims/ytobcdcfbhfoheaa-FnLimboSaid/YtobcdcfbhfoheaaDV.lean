/-
  Drawn limbo lists.
-/
import Derived.Test.YtobcdcfbhfoheaaT
import Derived.Test.YtobcdcfbhfoheaaL
import Derived.Deep.QuietTactic
import Derived.BigQuiet
import Derived.Deep.LoopGhost
import Derived.Deep.RegionHeld3
import Derived.Test.YtobcdcfbhfoheaaN
import Derived.Test.YtobcdcfbhfoheaaA
import Derived.WalkSpells
import Derived.Laws.Cover3
import Derived.Test.YtobcdcfbhfoheaaDT
import Derived.Test.YtobcdcfbhfoheaaU
import Derived.Test.YtobcdcfbhfoheaaW
namespace Go.Proofs.Ytobcdcfbhfoheaa
open Go.RowKit
set_option maxHeartbeats 400000 in
theorem LimboNew_spec (w : World) : Calls Try.prog 102 #[] w fun e w' => ∃ v t, e = .returned v ∧ OwLL FLRow 75 60 w' v t [[], [], []] ∧ (∀ g ∈ foot2 v t, w.heap.size ≤ g) ∧ Below w.heap.size w w' := by
  have hmk : ∀ w, (Instr.makeSlice 40 (.int .i64 3) (.int .i64 3)).run Try.prog w = .ok (.slice (some ⟨w.heap.size, 0, none⟩) 3 3) (w.alloc (.cells (madeCells #[.slice none 0 0] (3 * FS.n)) 60)) := run_make_flat (P := Try.prog) FS 40 60 (.agg #[.slice none 0 0]) 24 Try.underlying40 Try.infoLList 3 (by omega) (by omega)
  go_enter Try.func102, Try.ntmps102
  go_wp2
  go_ret
  exact ⟨_, _, rfl, OwLL.made #[.slice none 0 0] rfl 3 (by simp [maxLen]) w FLRow 75 60, foot2_made _ 3, (Below.refl _ _).alloc (Nat.le_refl _) _⟩

theorem szLL_tot {α : Type} (ll : List (List α)) : szLL ll = ll.length + ll.flatten.length := by unfold szLL; rw [List.length_flatten]
theorem retireL_sz {ll : List (List LRow)} {a b c : Int} (h1 : szLL ll ≤ 27) (h2 : ll.length = 3) : szLL (retireL ll a b c).1 ≤ 27 ∧ (retireL ll a b c).1.length = 3 := by
  unfold retireL
  split
  · rename_i h
    have a := limboOk_len h.2.2
    have b := limboOk_tot h.2.2
    refine ⟨?_, a⟩
    rw [szLL_tot]
    simp only
    omega
  · exact ⟨h1, h2⟩
def DrawLL (w : World) (g : Nat) (code : List Int) (e : Ending) (w' : World) : Prop := ∃ v t ll, e = .returned v ∧ OwLL FLRow 75 60 w' v t ll ∧ szLL ll ≤ 27 ∧ ll.length = 3 ∧ (∀ b ∈ foot2 v t, w.heap.size ≤ b) ∧ Cur w' g code ∧ Chg [g] w w'
set_option maxRecDepth 100000 in
set_option maxHeartbeats 1000000 in
theorem l11Limbo_ct (w : World) (g : Nat) (code : List Int) (hc : Cur w g code) : Calls Try.prog 97 #[.pointer (some ⟨g, 0, none⟩)] w (DrawLL w g code) := by
  have hgl := hc.lt
  go_enter Try.func97, Try.ntmps97
  go_wp2_with fail
  refine (LimboNew_spec _).mono ?_
  rintro e w1 ⟨v1, t1, rfl, o1, f1, hb1⟩
  have hc1 := hc.up hb1
  go_wp2_with fail
  refine (l1Below_ct _ g code 10 (by unfold I64; omega) hc1).mono ?_
  rintro e w2 ⟨n0, rfl, n0a, n0b, hc2, hg2⟩
  have hC2 : Chg [g] w w2 := (Chg.of_below hb1).trans hg2
  have o2 := o1.chg hg2 (fun b hb hm => by simp at hm; subst hm; have := f1 b hb; omega)
  obtain ⟨m0, rfl⟩ := Int.eq_ofNat_of_zero_le n0a
  clear hb1 hc1 hg2 o1
  go_wp2_with fail
  go_loopw [3, 4] (fun v i wr => ∃ k : Nat, i = .int .i64 k ∧ k ≤ 9 ∧ (∃ t ll, OwLL FLRow 75 60 wr v t ll ∧ szLL ll ≤ 27 ∧ Hid (ll.length = 3) ∧ (∀ b ∈ foot2 v t, w.heap.size ≤ b)) ∧ Cur wr g code ∧ Chg [g] w wr) (fun _ i _ => (intOf i).toNat)
  case atStart => exact ⟨m0, rfl, by omega, ⟨_, _, o2, by decide, rfl, f1⟩, hc2, hC2⟩
  case round =>
    obtain ⟨k, rfl, hk3, ⟨t, ll, oz, hz, HZ, fz⟩, hcz, hCz⟩ := hrel
    clear o2 hc2 hC2
    by_cases hk : 0 < k
    · go_wp2_with fail
      refine (l1Below_ct _ g code 3 (by unfold I64; omega) hcz).mono ?_
      rintro e w3 ⟨a, rfl, a0, a1, hc3, hg3⟩
      go_wp2_with fail
      refine (l6Handle_ct _ g code hc3).mono ?_
      rintro e w4 ⟨b, rfl, b0, b1, hc4, hg4⟩
      go_wp2_with fail
      refine (l1Below_ct _ g code 6 (by unfold I64; omega) hc4).mono ?_
      rintro e w5 ⟨c, rfl, c0, c1, hc5, hg5⟩
      have hg35 := (hg3.trans hg4).trans hg5
      have o5 := oz.chg hg35 (fun b hb hm => by simp at hm; subst hm; have := fz b hb; omega)
      have hC5 := hCz.trans hg35
      go_wp2_with fail
      refine (RetireTo_spec _ _ t ll _ _ _ o5.rd' (by omega)).mono ?_
      rintro e w7 ⟨v7, t7, rfl, o7, f7, hb7⟩
      have hs5 := hC5.size
      have hr := retireL_sz (a := a) (b := b) (c := c) hz HZ.out
      go_wp2_with fail
      go_roundw
      case rel => exact ⟨k - 1, by go_num, by omega, ⟨_, _, o7, hr.1, hr.2, fun b hb => by have := f7 b hb; omega⟩, hc5.up hb7, hC5.trans (Chg.of_below hb7)⟩
      case measure => simp [intOf]; omega
    · go_wp2_with fail
      go_ret
      exact ⟨_, t, ll, rfl, oz, hz, HZ.out, fz, hcz, hCz⟩
end Go.Proofs.Ytobcdcfbhfoheaa
