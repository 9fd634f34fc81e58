/-
  Drawn values: numbers below a bound, picks, workers, handles.
-/
import Derived.Test.YtapmieijnbachaaT
import Derived.Test.YtapmieijnbachaaL
import Derived.Deep.QuietTactic
import Derived.BigQuiet
import Derived.Deep.LoopGhost
import Derived.Deep.RegionHeld3
import Derived.Test.YtapmieijnbachaaN
import Derived.Test.YtapmieijnbachaaA
import Derived.WalkSpells
import Derived.Laws.Cover3
import Derived.Test.YtapmieijnbachaaZ
import Derived.Test.YtapmieijnbachaaDR
namespace Go.Proofs.Ytapmieijnbachaa
open Go.RowKit
def DrawB (n : Int) (w : World) (g : Nat) (code : List Int) (e : Ending) (w' : World) : Prop := ∃ x : Int, e = .returned (.int .i64 x) ∧ 0 ≤ x ∧ (x < n ∨ x = 0) ∧ Cur w' g code ∧ Chg [g] w w'
set_option maxHeartbeats 1000000 in
theorem l1Below_ct (w : World) (g : Nat) (code : List Int) (n : Int) (hn : I64 n) (hc : Cur w g code) : Calls Try.prog 40 #[.pointer (some ⟨g, 0, none⟩), .int .i64 n] w (DrawB n w g code) := by
  unfold I64 at hn
  by_cases h1 : n ≤ 0
  · go_enter Try.func40, Try.ntmps40
    go_wp2
    go_ret
    exact ⟨0, rfl, by omega, .inr rfl, hc, Chg.refl _ _⟩
  have h1' : 0 < n := by omega
  have hnz : ¬ n = 0 := by omega
  by_cases h2 : n ≤ 256
  · go_enter Try.func40, Try.ntmps40
    go_wp2_with fail
    refine (l1Byte_ct _ g code hc).mono ?_
    rintro e w1 ⟨x, rfl, x0, x1, hc1, hg1⟩
    go_wp2_with fail
    go_ret
    exact ⟨_, rfl, Int.emod_nonneg _ hnz, .inl (Int.emod_lt_of_pos _ h1'), hc1, hg1⟩
  · go_enter Try.func40, Try.ntmps40
    go_wp2_with fail
    refine (l1Byte_ct _ g code hc).mono ?_
    rintro e w1 ⟨x, rfl, x0, x1, hc1, hg1⟩
    go_wp2_with fail
    refine (l1Byte_ct _ g code hc1).mono ?_
    rintro e w2 ⟨y, rfl, y0, y1, hc2, hg2⟩
    go_wp2_with fail
    refine (l1Byte_ct _ g code hc2).mono ?_
    rintro e w3 ⟨z, rfl, z0, z1, hc3, hg3⟩
    go_wp2_with fail
    refine (l1Byte_ct _ g code hc3).mono ?_
    rintro e w4 ⟨u, rfl, u0, u1, hc4, hg4⟩
    go_wp2_with fail
    go_ret
    exact ⟨_, rfl, Int.emod_nonneg _ hnz, .inl (Int.emod_lt_of_pos _ h1'), hc4, ((hg1.trans hg2).trans hg3).trans hg4⟩
def DrawT (w : World) (g : Nat) (code : List Int) (e : Ending) (w' : World) : Prop := ∃ b : Bool, e = .returned (.bool b) ∧ Cur w' g code ∧ Chg [g] w w'
theorem l1Once_ct (w : World) (g : Nat) (code : List Int) (n : Int) (hn : I64 n) (hc : Cur w g code) : Calls Try.prog 42 #[.pointer (some ⟨g, 0, none⟩), .int .i64 n] w (DrawT w g code) := by
  go_enter Try.func42, Try.ntmps42
  go_wp2_with fail
  refine (l1Below_ct _ g code n hn hc).mono ?_
  rintro e w1 ⟨x, rfl, x0, x1, hc1, hg1⟩
  go_wp2_with fail
  go_ret
  exact ⟨_, rfl, hc1, hg1⟩
def DrawE (l : List Int) (w : World) (g : Nat) (code : List Int) (e : Ending) (w' : World) : Prop := ∃ x : Int, e = .returned (.int .i64 x) ∧ x ∈ l ∧ Cur w' g code ∧ Chg [g] w w'
set_option maxHeartbeats 1000000 in
theorem l1PickInt_ct (w : World) (g : Nat) (code : List Int) (v : Value) (l : List Int) (ho : OwL FI 3 w v l) (hd : g ∉ foot1 v) (hl : 0 < l.length) (hl2 : l.length ≤ 1048576) (hc : Cur w g code) : Calls Try.prog 41 #[.pointer (some ⟨g, 0, none⟩), v] w (DrawE l w g code) := by
  obtain ⟨b, cap, rfl, hb⟩ := ho.form_pos hl
  go_enter Try.func41, Try.ntmps41
  go_wp2_with fail
  refine (l1Below_ct _ g code l.length (by unfold I64; omega) hc).mono ?_
  rintro e w1 ⟨x, rfl, x0, x1, hc1, hg1⟩
  obtain ⟨k, rfl⟩ := Int.eq_ofNat_of_zero_le x0
  have hk : k < l.length := by rcases x1 with h | h <;> omega
  have ho1 := ho.chg hg1 (fun b hb hm => by simp at hm; subst hm; exact hd hb)
  have p0 := ho1.cellI (List.getElem?_eq_getElem hk)
  have hm := List.getElem_mem hk
  generalize l[k] = y at p0 hm
  go_wp2_with fail
  go_ret
  exact ⟨y, rfl, hm, hc1, hg1⟩
theorem Chg.alloc_first {F : List Nat} {w w' : World} {o : Obj} (h : Chg F (w.alloc o) w') : Chg F w w' :=
  ⟨h.os, h.tape, h.output, Nat.le_trans (by simp) h.size, fun k hk hn => (h.block k (by simp; omega) hn).trans (Below.heap_alloc w o k hk)⟩
theorem Cur.alloc {w : World} {g : Nat} {code : List Int} (h : Cur w g code) (o : Obj) : Cur (w.alloc o) g code := h.up ((Below.refl _ _).alloc (Nat.le_refl _) _)
set_option maxHeartbeats 1000000 in
theorem l8Who_ct (w : World) (g : Nat) (code : List Int) (hc : Cur w g code) : Calls Try.prog 30 #[.pointer (some ⟨g, 0, none⟩)] w (DrawI (-1) 3 w g code) := by
  go_enter Try.func30, Try.ntmps30
  go_wp2_with fail
  refine (l1Once_ct _ g code 14 (by unfold I64; omega) hc).mono ?_
  rintro e w1 ⟨b, rfl, hc1, hg1⟩
  have hlt1 := hc1.lt
  cases b with
  | true =>
    go_wp2_with fail
    have ho := OwL.lit FI [-1, 3] #[.int .i64 (-1), .int .i64 3] rfl (by decide) w1 3
    refine (l1PickInt_ct _ g code _ [-1, 3] ho (by simp [foot1, Value.ownBlock]; omega) (by decide) (by decide) (hc1.alloc _)).mono ?_
    rintro e w2 ⟨x, rfl, hx, hc2, hg2⟩
    go_wp2_with fail
    go_ret
    refine ⟨x, rfl, ?_, ?_, hc2, hg1.trans hg2.alloc_first⟩
    all_goals (simp at hx; omega)
  | false =>
    go_wp2_with fail
    refine (l1Below_ct _ g code 3 (by unfold I64; omega) hc1).mono ?_
    rintro e w2 ⟨x, rfl, x0, x1, hc2, hg2⟩
    go_wp2_with fail
    go_ret
    exact ⟨x, rfl, by omega, by omega, hc2, hg1.trans hg2⟩
def handleOfL (s k : Int) : Int := if inB 0 23 s = true ∧ inB 1 6 k = true then k * 32 + s else 0
theorem handleOf_bd (s k : Int) : 0 ≤ handleOfL s k ∧ handleOfL s k ≤ 223 := by
  unfold handleOfL
  split
  · rename_i h
    have a := inB_iff.1 h.1
    have b := inB_iff.1 h.2
    omega
  · omega
end Go.Proofs.Ytapmieijnbachaa