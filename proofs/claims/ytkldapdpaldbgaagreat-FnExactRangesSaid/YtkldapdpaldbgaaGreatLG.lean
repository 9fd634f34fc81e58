/-
  Limbo lists: size, all rows.
-/
import Derived.Test.YtkldapdpaldbgaaGreatT
import Derived.Test.YtkldapdpaldbgaaGreatL
import Derived.Deep.QuietTactic
import Derived.BigQuiet
import Derived.Deep.LoopGhost
import Derived.Deep.RegionHeld3
import Derived.Test.YtkldapdpaldbgaaGreatN
import Derived.Test.YtkldapdpaldbgaaGreatA
import Derived.WalkSpells
import Derived.Laws.Cover3
import Derived.Test.YtkldapdpaldbgaaGreatLZ
namespace Go.Proofs.YtkldapdpaldbgaaGreat.Lim
open Go.RowKit

theorem Tryz.stLRow : ST Tryz.prog FLRow 95 99 := ⟨Tryz.underlying95, .agg #[.int .i64 0, .int .i64 0], 16, by kernel_rfl, rfl, by decide⟩

set_option maxRecDepth 100000 in
set_option maxHeartbeats 1000000 in
theorem LimboSize_impl (w : World) (v : Value) (t : List SV) (ll : List (List LRow)) (h : RdLL FLRow w w.heap.size v t ll) (hs : szLL ll ≤ 1073741824) :
    Calls Tryz.prog 168 #[v] w fun e w' => e = .returned (.int .i64 (totLL ll : Nat)) ∧ Below w.heap.size w w' := by
  obtain ⟨A, c, hv, _⟩ := id h.outer
  subst hv
  obtain ⟨en, hcap, hmx⟩ := h.len'
  have hlt0 : ll.length ≤ 9223372036854775807 := by unfold maxLen at hmx; omega
  rw [en] at h ⊢
  clear en hcap hmx
  go_enter Tryz.func168, Tryz.ntmps168
  go_wp2
  go_loopw [3, 5, 8] (fun q _ i wr => ∃ k : Nat, k ≤ ll.length ∧ i = .int .i64 k ∧ q = .int .i64 (totLL (ll.take k) : Nat) ∧ Below w.heap.size w wr) (fun _ _ i _ => ll.length - (intOf i).toNat)
  case atStart => exact ⟨0, Nat.zero_le _, rfl, rfl, Below.refl _ _⟩
  case round =>
    obtain ⟨i, hi, rfl, rfl, hb⟩ := hrel
    by_cases hlt : i < ll.length
    · obtain ⟨g, o, A', c', rfl, hg, p0, r1⟩ := h.row hb hlt
      have ht1 := Hid.mk_ (totLL_take_succ ll i hlt)
      have ht2 := totLL_take_le ll i
      have ht3 : ll[i].length ≤ 1073741824 := Nat.le_trans (le_szLL (List.getElem_mem hlt)) hs
      have ht4 : totLL ll ≤ 1073741824 := Nat.le_trans (Nat.le_add_left _ _) hs
      clear h r1 hs
      go_wp2
      go_roundw
      case rel => exact ⟨i + 1, by omega, by go_num, by rw [ht1.out]; go_num, hb.alloc hb.size _⟩
      case measure => simp [intOf]; omega
    · go_wp2
      go_ret
      obtain rfl : i = ll.length := by omega
      exact ⟨ret_i64 (by rw [List.take_length]), hb⟩

set_option maxRecDepth 100000 in
set_option maxHeartbeats 1000000 in
theorem l11All_ct (w : World) (v : Value) (t : List SV) (ll : List (List LRow)) (h : RdLL FLRow w w.heap.size v t ll) (hs : szLL ll ≤ 536870912) :
    Calls Tryz.prog 52 #[v] w fun e w' => ∃ v', e = .returned v' ∧ OwL FLRow 99 w' v' ll.flatten ∧ (∀ g ∈ foot1 v', w.heap.size ≤ g) ∧ Below w.heap.size w w' := by
  obtain ⟨A, c, hv, _⟩ := id h.outer
  subst hv
  obtain ⟨en, hcap, hmx⟩ := h.len'
  have hlt0 : ll.length ≤ 9223372036854775807 := by unfold maxLen at hmx; omega
  rw [en] at h ⊢
  clear en hcap hmx
  go_enter Tryz.func52, Tryz.ntmps52
  go_wp2
  go_loopw [3, 4] (fun o i wr => ∃ k : Nat, k ≤ ll.length ∧ i = .int .i64 k ∧ OwL FLRow 99 wr o (ll.take k).flatten ∧ (∀ g ∈ foot1 o, w.heap.size ≤ g) ∧ Below w.heap.size w wr) (fun _ i _ => ll.length - (intOf i).toNat)
  case atStart => exact ⟨0, Nat.zero_le _, rfl, OwL.lit FLRow [] #[] rfl (by decide) w 99, by simp [foot1, Value.ownBlock], (Below.refl _ _).alloc (Nat.le_refl _) _⟩
  case round =>
    obtain ⟨i, hi, rfl, ho, hfo, hb⟩ := hrel
    by_cases hlt : i < ll.length
    · obtain ⟨g, o, A', c', rfl, hg, p0, r1⟩ := h.row hb hlt
      have hfl : (ll.take i).flatten.length + ll[i].length ≤ 1073741824 := by
        rw [← totLL_eq]
        have a := totLL_take_succ ll i hlt
        have b := totLL_take_le ll (i + 1)
        have c : totLL ll ≤ szLL ll := Nat.le_add_left _ _
        omega
      have HF := Hid.mk_ (show (ll.take (i + 1)).flatten = (ll.take i).flatten ++ ll[i] from by rw [List.take_succ_eq_append_getElem hlt, List.flatten_append, List.flatten_singleton])
      clear h
      go_wp2_with (at_builtin; refine wpList_append_flat Tryz.stLRow rfl _ _ rfl (v := u3) (y := .slice A' ll[i].length c') (l := (ll.take i).flatten) (m := ll[i]) rfl rfl ho (rd_up r1 hb) hfl ?_; intro v' w3 ho' hg' hat')
      have hb3 : Below w.heap.size w w3 := hb.grown hg' hb.size (fun k hk => hfo k (mem_foot1.2 hk))
      go_roundw
      case rel => exact ⟨i + 1, by omega, by go_num, by rw [HF.out]; exact ho', fun b hb' => by rcases foot_app hat' b hb' with h | h; (exact hfo b h); (have := hb.size; omega), hb3⟩
      case measure => simp [intOf]; omega
    · go_wp2
      go_ret
      obtain rfl : i = ll.length := by omega
      exact ⟨u3, rfl, by simpa using ho, hfo, hb⟩