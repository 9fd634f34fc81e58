/-
  Drawn values: the cursor over a code, and its numbers.
-/
import Derived.Test.YtapmieijnbachaaT
import Derived.Test.YtapmieijnbachaaL
import Derived.Deep.QuietTactic
import Derived.BigQuiet
import Derived.Deep.LoopGhost
import Derived.Deep.RegionHeld3
import Derived.Test.YtapmieijnbachaaN
import Derived.Test.YtapmieijnbachaaA
import Derived.WalkSpells
import Derived.Laws.Cover3
import Derived.Test.YtapmieijnbachaaP
import Derived.Test.YtapmieijnbachaaJ
namespace Go.Proofs.Ytapmieijnbachaa
open Go.RowKit
def FU8 : FT Int := { n := 1, enc := fun x => [.int .u8 x], dflt := 0, len := fun _ => rfl, one := by intro x u hu; simp at hu; subst hu; rfl, pos := by decide, small := by decide }
/-- The cursor in block g, over a code that lies below it. -/
structure Cur (w : World) (g : Nat) (code : List Int) : Prop where
  lt : g < w.heap.size
  bytes : ∀ x ∈ code, 0 ≤ x ∧ x ≤ 255
  c0 : ∃ A cap, w.cell? ⟨g, 0, none⟩ = some (.slice A code.length cap) ∧ RdL FU8 w g (.slice A code.length cap) code
  c1 : ∃ i : Nat, w.cell? ⟨g, 1, none⟩ = some (.int .i64 i) ∧ i ≤ code.length
  c2 : ∃ h : Int, w.cell? ⟨g, 2, none⟩ = some (.int .i64 h)
  f1 : w.frozen? ⟨g, 1, none⟩ = false
  f2 : w.frozen? ⟨g, 2, none⟩ = false
theorem Cur.up {w w' : World} {g : Nat} {code : List Int} (h : Cur w g code) (hb : Below w.heap.size w w') : Cur w' g code := by
  obtain ⟨lt, by_, ⟨A, cap, p0, r⟩, ⟨i, p1, hi⟩, ⟨hh, p2⟩, f1, f2⟩ := h
  have e : ∀ j, w'.cell? ⟨g, j, none⟩ = w.cell? ⟨g, j, none⟩ := fun j => hb.cell (p := ⟨g, j, none⟩) lt
  have ef : ∀ j, w'.frozen? ⟨g, j, none⟩ = w.frozen? ⟨g, j, none⟩ := fun j => hb.frozen (p := ⟨g, j, none⟩) lt
  exact ⟨Nat.lt_of_lt_of_le lt hb.size, by_, ⟨A, cap, (e 0).trans p0, r.keep (fun k hk => hb.block k (by omega)) (Nat.le_refl _)⟩, ⟨i, (e 1).trans p1, hi⟩, ⟨hh, (e 2).trans p2⟩, (ef 1).trans f1, (ef 2).trans f2⟩
theorem Cur.set2 {w : World} {g : Nat} {code : List Int} (h : Cur w g code) (x : Int) : Cur (w.setCell ⟨g, 2, none⟩ (.int .i64 x)) g code := by
  obtain ⟨lt, by_, ⟨A, cap, p0, r⟩, ⟨i, p1, hi⟩, ⟨hh, p2⟩, f1, f2⟩ := h
  refine ⟨by simpa using lt, by_, ⟨A, cap, by simp [go_sem, p0], r.keep (fun k hk => Below.heap_setCell _ _ _ _ (by simp; omega)) (Nat.le_refl _)⟩, ⟨i, by simp [go_sem, p1], hi⟩, ⟨x, by simp [go_sem, p2]⟩, by simp [go_sem, f1], by simp [go_sem, f2]⟩
theorem Cur.set1 {w : World} {g : Nat} {code : List Int} (h : Cur w g code) (j : Nat) (hj : j ≤ code.length) : Cur (w.setCell ⟨g, 1, none⟩ (.int .i64 j)) g code := by
  obtain ⟨lt, by_, ⟨A, cap, p0, r⟩, ⟨i, p1, hi⟩, ⟨hh, p2⟩, f1, f2⟩ := h
  refine ⟨by simpa using lt, by_, ⟨A, cap, by simp [go_sem, p0], r.keep (fun k hk => Below.heap_setCell _ _ _ _ (by simp; omega)) (Nat.le_refl _)⟩, ⟨j, by simp [go_sem, p1], hj⟩, ⟨hh, by simp [go_sem, p2]⟩, by simp [go_sem, f1], by simp [go_sem, f2]⟩
theorem Cur.drewN {w : World} {g : Nat} {code : List Int} (h : Cur w g code) (n : Nat) : Cur (w.drewN n) g code := by
  obtain ⟨lt, by_, ⟨A, cap, p0, r⟩, c1, c2, f1, f2⟩ := h
  exact ⟨lt, by_, ⟨A, cap, p0, r.keep (fun _ _ => rfl) (Nat.le_refl _)⟩, c1, c2, f1, f2⟩
theorem Chg.set {F : List Nat} {w w' : World} (h : Chg F w w') {g i : Nat} (hg : g ∈ F) (v : Value) : Chg F w (w'.setCell ⟨g, i, none⟩ v) :=
  ⟨h.os, h.tape, h.output, by simpa using h.size, fun k hk hn => (Below.heap_setCell _ _ _ _ (fun e => by have e' : k = g := e; exact hn (e' ▸ hg))).trans (h.block k hk hn)⟩
theorem Chg.drewN {F : List Nat} {w w' : World} (h : Chg F w w') (n : Nat) : Chg F w (w'.drewN n) := ⟨h.os, h.tape, h.output, h.size, h.block⟩
/-- A drawn number between lo and hi. -/
def DrawI (lo hi : Int) (w : World) (g : Nat) (code : List Int) (e : Ending) (w' : World) : Prop := ∃ x : Int, e = .returned (.int .i64 x) ∧ lo ≤ x ∧ x ≤ hi ∧ Cur w' g code ∧ Chg [g] w w'

theorem and255 (n : Int) : bits .and .i64 n 255 = n % 256 := by
  have hm : (BitVec.ofInt 64 255).toNat = 2 ^ 8 - 1 := by decide
  have key : (BitVec.ofInt 64 n &&& BitVec.ofInt 64 255).toNat = (n % ((2 ^ 64 : Nat) : Int)).toNat % 2 ^ 8 := by
    rw [BitVec.toNat_and, BitVec.toNat_ofInt, hm, Nat.and_two_pow_sub_one_eq_mod]
  show IntKind.i64.wrap ((BitVec.ofInt 64 n &&& BitVec.ofInt 64 255).toNat : Nat) = n % 256
  rw [key, IntKind.wrap_i64]
  omega
theorem and255_bd (n : Int) : 0 ≤ bits .and .i64 n 255 ∧ bits .and .i64 n 255 ≤ 255 := by
  rw [and255]
  omega
set_option maxRecDepth 100000 in
set_option maxHeartbeats 1000000 in
theorem l1Byte_ct (w : World) (g : Nat) (code : List Int) (hc : Cur w g code) : Calls Try.prog 51 #[.pointer (some ⟨g, 0, none⟩)] w (DrawI 0 255 w g code) := by
  obtain ⟨lt, by_, ⟨A, cap, p0, r⟩, ⟨i, p1, hi⟩, ⟨hh, p2⟩, f1, f2⟩ := id hc
  by_cases hlt : i < code.length
  case neg =>
    go_enter Try.func51, Try.ntmps51
    go_wp2
    go_quiet (fail)
    go_wp2
    go_quiet (fail)
    go_wp2
    go_ret
    refine ⟨_, rfl, (and255_bd _).1, (and255_bd _).2, ?_, ?_⟩
    · exact ((hc.set2 _).drewN _).drewN _
    · exact (((Chg.refl _ _).set (by simp) _).drewN _).drewN _
  have hi1 : i + 1 ≤ code.length := hlt
  obtain ⟨gb, ob, cb, hvb, hgb, _, hcapb, hqb⟩ := r.at_ (List.getElem?_eq_getElem hlt)
  injection hvb with e1 e2 e3
  clear e2
  subst e1 e3
  have pb : w.cell? ⟨gb, ob + i, none⟩ = some (.int .u8 code[i]) := by simpa [FU8] using hqb 0 _ rfl
  have bb := by_ code[i] (List.getElem_mem hlt)
  obtain ⟨b0, b1⟩ := bb
  clear hqb
  have ngb : ¬ gb = g := by omega
  have ngb2 : ¬ g = gb := by omega
  have hlc : code.length ≤ 9223372036854775807 := by obtain ⟨_, _, hv, u1, u2, _⟩ := id r; injection hv with _ _ e; unfold maxLen at u2; omega
  generalize code[i] = b at *
  go_enter Try.func51, Try.ntmps51
  go_wp2
  go_quiet (fail)
  go_wp2
  go_quiet (fail)
  go_wp2
  go_quiet (fail)
  go_wp2
  go_ret
  refine ⟨_, rfl, (and255_bd _).1, (and255_bd _).2, ?_, ?_⟩
  · exact ((hc.set2 _).drewN _).set1 (i + 1) hi1
  · exact ((((Chg.refl _ _).set (by simp) _).drewN _).set (by simp) _)
end Go.Proofs.Ytapmieijnbachaa
