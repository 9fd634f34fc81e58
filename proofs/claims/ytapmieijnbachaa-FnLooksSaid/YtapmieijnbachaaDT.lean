/-
  Drawn hazard pointers.
-/
import Derived.Test.YtapmieijnbachaaT
import Derived.Test.YtapmieijnbachaaL
import Derived.Deep.QuietTactic
import Derived.BigQuiet
import Derived.Deep.LoopGhost
import Derived.Deep.RegionHeld3
import Derived.Test.YtapmieijnbachaaN
import Derived.Test.YtapmieijnbachaaA
import Derived.WalkSpells
import Derived.Laws.Cover3
import Derived.Test.YtapmieijnbachaaDS
import Derived.Test.YtapmieijnbachaaD1
import Derived.Test.YtapmieijnbachaaI
namespace Go.Proofs.Ytapmieijnbachaa
open Go.RowKit
set_option maxRecDepth 1000000 in
set_option maxHeartbeats 1000000 in
theorem l1New_ct (w : World) (v : Value) (code : List Int) (h : RdL FU8 w w.heap.size v code) (hb : ∀ x ∈ code, 0 ≤ x ∧ x ≤ 255) (hs : code.length ≤ 1073741824) :
    Calls Try.prog 28 #[v] w fun e w' => e = .returned (.pointer (some ⟨w.heap.size, 0, none⟩)) ∧ Cur w' w.heap.size code ∧ Below w.heap.size w w' := by
  obtain ⟨A, cap, hv, _⟩ := id h
  subst hv
  go_enter Try.func28, Try.ntmps28
  go_wp2
  go_loop [3, 4] (fun h i => ∃ (k : Nat) (x : Int), k ≤ code.length ∧ i = .int .i64 k ∧ h = .int .i64 x) (fun _ i => code.length - (intOf i).toNat)
  case atStart => exact ⟨0, _, Nat.zero_le _, rfl, rfl⟩
  case round =>
    obtain ⟨k, x, hk, rfl, rfl⟩ := hrel
    have fin : ∀ y : Int, Cur (w.alloc (.cells #[.slice A code.length cap, .int .i64 0, .int .i64 y] 71)) w.heap.size code := fun y =>
      ⟨by simp, hb, ⟨A, cap, by simp [go_sem], h.keep (fun k hk => Below.heap_alloc w _ k hk) (Nat.le_refl _)⟩, ⟨0, by simp [go_sem], Nat.zero_le _⟩, ⟨y, by simp [go_sem]⟩, by simp [go_sem], by simp [go_sem]⟩
    have HFin := Hid.mk_ fin
    clear fin
    by_cases hlt : k < code.length
    · by_cases h4 : k < 4000
      · obtain ⟨g, off, cap', he, hg, _, _, hc⟩ := h.at_ (List.getElem?_eq_getElem hlt)
        injection he with he1 he2 he3
        clear he2
        subst he1 he3
        have p0 : w.cell? ⟨g, off + k, none⟩ = some (.int .u8 code[k]) := by simpa [FU8] using hc 0 _ rfl
        have bb := hb code[k] (List.getElem_mem hlt)
        obtain ⟨b0, b1⟩ := bb
        clear hc
        go_wp2
        go_round
        case rel => exact ⟨k + 1, _, by omega, by go_num, rfl⟩
        case measure => simp [intOf]; omega
      · go_wp2
        go_ret
        exact ⟨rfl, HFin.out _, (Below.refl _ _).alloc (Nat.le_refl _) _⟩
    · go_wp2
      go_ret
      exact ⟨rfl, HFin.out _, (Below.refl _ _).alloc (Nat.le_refl _) _⟩
theorem Cur.other {w : World} {g gz i : Nat} {code : List Int} (h : Cur w g code) (hg : g < gz) (v : Value) : Cur (w.setCell ⟨gz, i, none⟩ v) g code := by
  obtain ⟨lt, by_, ⟨A, cap, p0, r⟩, ⟨j, p1, hi⟩, ⟨hh, p2⟩, f1, f2⟩ := h
  have e : ∀ k, k ≤ g → (w.setCell ⟨gz, i, none⟩ v).heap[k]? = w.heap[k]? := fun k hk => Below.heap_setCell _ _ _ _ (by simp; omega)
  have ec : ∀ j, (w.setCell ⟨gz, i, none⟩ v).cell? ⟨g, j, none⟩ = w.cell? ⟨g, j, none⟩ := fun j => by simp only [World.cell?, e g (Nat.le_refl _)]
  have ef : ∀ j, (w.setCell ⟨gz, i, none⟩ v).frozen? ⟨g, j, none⟩ = w.frozen? ⟨g, j, none⟩ := fun j => by simp only [World.frozen?, e g (Nat.le_refl _)]
  exact ⟨by simpa using lt, by_, ⟨A, cap, (ec 0).trans p0, r.keep (fun k hk => e k (by omega)) (Nat.le_refl _)⟩, ⟨j, (ec 1).trans p1, hi⟩, ⟨hh, (ec 2).trans p2⟩, (ef 1).trans f1, (ef 2).trans f2⟩
def DrawZ (w : World) (g : Nat) (code : List Int) (e : Ending) (w' : World) : Prop := ∃ v z, e = .returned v ∧ OwL FI 3 w' v z ∧ z.length ≤ 3 ∧ (∀ b ∈ foot1 v, w.heap.size ≤ b) ∧ Cur w' g code ∧ Chg [g] w w'
theorem publishL_len (z : List Int) (a b : Int) : (publishL z a b).1.length = z.length := by
  unfold publishL
  split <;> simp
end Go.Proofs.Ytapmieijnbachaa