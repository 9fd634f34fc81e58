/-
  Clocks copied: the contracts.
-/
import Derived.Test.YtapmieijnbachaaT
import Derived.Test.YtapmieijnbachaaL
import Derived.Deep.QuietTactic
import Derived.BigQuiet
import Derived.Deep.LoopGhost
import Derived.Deep.RegionHeld3
import Derived.Test.YtapmieijnbachaaN
import Derived.Test.YtapmieijnbachaaA
import Derived.WalkSpells
import Derived.Laws.Cover3
import Derived.Test.YtapmieijnbachaaK1
import Derived.Deep.RegionLaw
namespace Go.Proofs.Ytapmieijnbachaa
open Go.RowKit

set_option maxHeartbeats 400000 in
theorem ClonePin_ct (w : World) (v : Value) (l : List Pin) (h : RdL FPin w w.heap.size v l) (hs : l.length ≤ 1073741824) :
    Calls Try.prog 43 #[v] w fun e w' => ∃ v', e = .returned v' ∧ OwL FPin 66 w' v' l ∧ (∀ g ∈ foot1 v', w.heap.size ≤ g) ∧ Below w.heap.size w w' := by
  obtain ⟨A, c, hv, _, _, q3⟩ := id h
  subst hv
  have heq := fun w => Lib.run_eql_slice_nil (P := Try.prog) w 36 66 A l.length c 0 0 Try.underlying36
  cases A with
  | none =>
    have hl : l = [] := by
      apply Classical.byContradiction
      intro hne
      obtain ⟨g, off, hA, _⟩ := q3 hne
      cases hA
    have HL := Hid.mk_ hl
    clear hl q3 h
    go_enter Try.func43, Try.ntmps43
    go_wp2
    go_ret
    exact ⟨_, rfl, by rw [HL.out]; exact World.ownsRow_nil _ _ _ _, by simp [foot1, Value.ownBlock], Below.refl _ _⟩
  | some a =>
    go_enter Try.func43, Try.ntmps43
    go_wp2_with (at_builtin; refine wpList_append_flat Try.stPin rfl _ _ rfl (v := .slice (some ⟨w.heap.size, 0, none⟩) 0 0) (y := .slice (some a) l.length c) (l := []) (m := l) rfl rfl (OwL.lit FPin [] #[] rfl (by simp [maxLen]) _ _) (h.alloc_ (Nat.le_refl _) (Nat.le_succ _) _) (by simpa using hs) ?_; intro v' w1 ho hg hat)
    go_ret
    have hb : Below w.heap.size w w1 := ((Below.refl _ _).alloc (Nat.le_refl _) _).grown hg (by simp) (by simp [Value.ownBlock])
    exact ⟨v', rfl, by simpa using ho, fun g hg' => by rcases foot_app hat g hg' with h | h; (simp [foot1, Value.ownBlock] at h; omega); (simp at h; omega), hb⟩

set_option maxRecDepth 100000 in
set_option maxHeartbeats 1000000 in
theorem copyClock_impl (w : World) (H : HClock) (x : Clock) (h : RdClock w w.heap.size H x) (hs : x.Pins.length ≤ 1073741824) :
    Calls Try.prog 32 #[.agg #[.int .i64 x.Epoch, .slice H.Pins.a H.Pins.len H.Pins.cap]] w fun e w' => ∃ H' : HClock, e = .returned (H'.val x) ∧ OwClock w' H' x ∧ (∀ g ∈ H'.foot, w.heap.size ≤ g) ∧ Below w.heap.size w w' := by
  obtain ⟨⟨A, n, c⟩⟩ := H
  obtain ⟨ep, l⟩ := x
  have hr : RdL FPin w w.heap.size (.slice A n c) l := h.Pins
  obtain ⟨_, _, hv, q1, q2, qx⟩ := id hr
  simp only [Value.slice.injEq] at hv
  obtain ⟨rfl, rfl, rfl⟩ := hv
  have hlt0 : l.length ≤ 9223372036854775807 := by unfold maxLen at q2; omega
  clear q1 q2 qx h
  simp only at hs
  show Calls Try.prog 32 #[.agg #[.int .i64 ep, .slice A l.length c]] _ _
  go_enter Try.func32, Try.ntmps32
  go_wp2
  go_region_with ((go_at_call 43; refine (ClonePin_ct _ _ l (rd_up hr (by repeat (first | exact Below.refl _ _ | refine Below.alloc ?_ (by simp <;> omega) _ | refine below_grow_of ?_ (by simp <;> omega) _ _ | refine Below.drew ?_))) hs).mono ?_; rintro e w1 ⟨vs, rfl, hos, hfs, hb1⟩; obtain ⟨os1, d1, rfl⟩ := below_grows hb1; clear hb1; obtain ⟨A2, c2, hv2, _⟩ := hos.rd'; subst hv2))
  all_goals
    go_wp2
    refine bodyPost_ret (v := .agg #[.int .i64 ep, .slice A2 l.length c2]) (by simp [results, Try.results32, go_sem]) rfl ⟨⟨⟨A2, l.length, c2⟩⟩, rfl, ⟨?_⟩, ?_, ?_⟩
    · refine OwL.regrow hos ?_ ?_ _
      · simp
      · intro g hg; have := hfs g hg; first | (simpa using this) | (simp; omega)
    · intro g hg; have := hfs g hg; first | omega | (simp at this; omega)
    · repeat (first | exact Below.refl _ _ | refine Below.alloc ?_ (by simp <;> omega) _ | refine below_grow_of ?_ (by simp <;> omega) _ _ | refine Below.drew ?_)

set_option maxRecDepth 100000 in
set_option maxHeartbeats 1000000 in
theorem copyClock_spec (w : World) (H : HClock) (x : Clock) (h : RdClock w w.heap.size H x) (hs : x.Pins.length ≤ 1073741824) :
    Calls Try.prog 53 #[.agg #[.int .i64 x.Epoch, .slice H.Pins.a H.Pins.len H.Pins.cap]] w fun e w' => ∃ H' : HClock, e = .returned (H'.val x) ∧ OwClock w' H' x ∧ (∀ g ∈ H'.foot, w.heap.size ≤ g) ∧ Below w.heap.size w w' := by
  obtain ⟨⟨A, n, c⟩⟩ := H
  obtain ⟨ep, l⟩ := x
  have hr : RdL FPin w w.heap.size (.slice A n c) l := h.Pins
  obtain ⟨_, _, hv, q1, q2, qx⟩ := id hr
  simp only [Value.slice.injEq] at hv
  obtain ⟨rfl, rfl, rfl⟩ := hv
  have hlt0 : l.length ≤ 9223372036854775807 := by unfold maxLen at q2; omega
  clear q1 q2 qx h
  simp only at hs
  show Calls Try.prog 53 #[.agg #[.int .i64 ep, .slice A l.length c]] _ _
  go_enter Try.func53, Try.ntmps53
  go_wp2
  have HO : Hid (OwL FPin 66 (((w.alloc (.cells #[.int .i64 ep, .slice A l.length c] 38)).alloc (.cells #[.int .i64 0, .slice none 0 0] 38)).drew.alloc (.cells #[] 66)) (.slice (some ⟨w.heap.size + 1 + 1, 0, none⟩) 0 0) []) := Hid.mk_ (by simpa using OwL.lit FPin [] #[] rfl (by simp [maxLen]) ((w.alloc (.cells #[.int .i64 ep, .slice A l.length c] 38)).alloc (.cells #[.int .i64 0, .slice none 0 0] 38)).drew 66)
  have HR : Below w.heap.size w (((w.alloc (.cells #[.int .i64 ep, .slice A l.length c] 38)).alloc (.cells #[.int .i64 0, .slice none 0 0] 38)).drew.alloc (.cells #[] 66)) := by repeat (first | exact Below.refl _ _ | refine Below.alloc ?_ (by simp <;> omega) _ | refine below_grow_of ?_ (by simp <;> omega) _ _ | refine Below.drew ?_)
  go_region_law (refine step_append_flat Try.stPin rfl (.tmp 5) (.tmp 7) rfl (v := .slice (some ⟨w.heap.size + 1 + 1, 0, none⟩) 0 0) (y := .slice A l.length c) (l := []) (m := l) (by simp [Act.eval]) (by simp [Act.eval]) HO.out (rd_up hr HR) (by simpa using hs) ?_; intro v' w1 hos hg hat; rw [List.nil_append] at hos; have hbb : Below (w.heap.size + 1 + 1) (((w.alloc (.cells #[.int .i64 ep, .slice A l.length c] 38)).alloc (.cells #[.int .i64 0, .slice none 0 0] 38)).drew) w1 := ((Below.refl _ _).alloc (by simp) _).grown hg (by simp) (by simp [Value.ownBlock]); have hfs : ∀ g ∈ foot1 v', w.heap.size + 1 + 1 ≤ g := (fun g hg' => by rcases foot_app hat g hg' with h | h; (simp [foot1, Value.ownBlock] at h; omega); (simp at h; omega)); obtain ⟨os1, d1, rfl⟩ := below_grows (hbb.mono (by simp)); clear hbb hg hat; obtain ⟨A2, c2, hv2, _⟩ := hos.rd'; subst hv2)
  all_goals
    go_wp2
    refine bodyPost_ret (v := .agg #[.int .i64 ep, .slice A2 l.length c2]) (by simp [results, Try.results53, go_sem]) rfl ⟨⟨⟨A2, l.length, c2⟩⟩, rfl, ⟨?_⟩, ?_, ?_⟩
    · refine OwL.regrow hos ?_ ?_ _
      · simp
      · intro g hg; have := hfs g hg; first | (simpa using this) | (simp; omega)
    · intro g hg; have := hfs g hg; first | omega | (simp at this; omega)
    · repeat (first | exact Below.refl _ _ | refine Below.alloc ?_ (by simp <;> omega) _ | refine below_grow_of ?_ (by simp <;> omega) _ _ | refine Below.drew ?_)
end Go.Proofs.Ytapmieijnbachaa
