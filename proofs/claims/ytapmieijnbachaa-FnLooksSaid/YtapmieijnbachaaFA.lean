/-
  Drawn clocks.
-/
import Derived.Test.YtapmieijnbachaaT
import Derived.Test.YtapmieijnbachaaL
import Derived.Deep.QuietTactic
import Derived.BigQuiet
import Derived.Deep.LoopGhost
import Derived.Deep.RegionHeld3
import Derived.Test.YtapmieijnbachaaN
import Derived.Test.YtapmieijnbachaaA
import Derived.WalkSpells
import Derived.Laws.Cover3
import Derived.Test.YtapmieijnbachaaDS
import Derived.Test.YtapmieijnbachaaBX
import Derived.Test.YtapmieijnbachaaL6
namespace Go.Proofs.Ytapmieijnbachaa
open Go.RowKit
theorem Chg.then_below {F : List Nat} {w w3 w' : World} (h : Chg F w w3) (hb : Below w.heap.size w3 w') : Chg F w w' :=
  ⟨hb.os.trans h.os, hb.tape.trans h.tape, hb.output.trans h.output, Nat.le_trans h.size hb.size, fun k hk hn => (hb.block k hk).trans (h.block k hk hn)⟩
theorem Cur.keep_ {w w' : World} {g B : Nat} {code : List Int} (h : Cur w g code) (hg : g < B) (hb : Below B w w') (_hB : B ≤ w.heap.size) : Cur w' g code := by
  obtain ⟨lt, by_, ⟨A, cap, p0, r⟩, ⟨j, p1, hi⟩, ⟨hh, p2⟩, f1, f2⟩ := h
  have e : ∀ k, k ≤ g → w'.heap[k]? = w.heap[k]? := fun k hk => hb.block k (by omega)
  have ec : ∀ j, w'.cell? ⟨g, j, none⟩ = w.cell? ⟨g, j, none⟩ := fun j => by simp only [World.cell?, e g (Nat.le_refl _)]
  have ef : ∀ j, w'.frozen? ⟨g, j, none⟩ = w.frozen? ⟨g, j, none⟩ := fun j => by simp only [World.frozen?, e g (Nat.le_refl _)]
  exact ⟨Nat.lt_of_lt_of_le lt hb.size, by_, ⟨A, cap, (ec 0).trans p0, r.keep (fun k hk => e k (by omega)) (Nat.le_refl _)⟩, ⟨j, (ec 1).trans p1, hi⟩, ⟨hh, (ec 2).trans p2⟩, (ef 1).trans f1, (ef 2).trans f2⟩
structure ClkS (x : Clock) : Prop where
  len : x.Pins.length = 3
  e0 : 0 ≤ x.Epoch
  e1 : x.Epoch ≤ 100000
theorem ClkS.new : ClkS newClk := ⟨rfl, by decide, by decide⟩
theorem ClkS.pinTo {x : Clock} (h : ClkS x) (a e : Int) : ClkS (pinToC x a e).1 := by
  unfold pinToC
  split
  · exact ⟨by simpa using h.len, h.e0, h.e1⟩
  · exact h
theorem ClkS.unpin {x : Clock} (h : ClkS x) (a : Int) : ClkS (unpinC x a).1 := by
  unfold unpinC
  split
  · exact ⟨by simpa using h.len, h.e0, h.e1⟩
  · exact h
theorem ClkS.look {x : Clock} (h : ClkS x) (a e : Int) : ClkS (lookC x a e).1 := by
  unfold lookC
  split
  · split
    · exact h
    · split
      · exact ⟨by simpa using h.len, h.e0, h.e1⟩
      · exact ⟨by simpa using h.len, h.e0, h.e1⟩
  · exact h
theorem ClkS.bump {x : Clock} (h : ClkS x) (e : Int) : ClkS (bumpC x e).1 := by
  unfold bumpC
  split
  · rename_i hc
    have := h.e0
    have := h.e1
    refine ⟨h.len, ?_, ?_⟩
    · show 0 ≤ e + 1
      omega
    · show e + 1 ≤ 100000
      omega
  · exact h
def DrawC (w : World) (g : Nat) (code : List Int) (e : Ending) (w' : World) : Prop := ∃ (H : HClock) (x : Clock), e = .returned (H.val x) ∧ OwClock w' H x ∧ ClkS x ∧ (∀ b ∈ H.foot, w.heap.size ≤ b) ∧ Cur w' g code ∧ Chg [g] w w'
set_option maxRecDepth 100000 in
set_option maxHeartbeats 2000000 in
theorem l10Clock_ct (w : World) (g : Nat) (code : List Int) (hc : Cur w g code) : Calls Try.prog 39 #[.pointer (some ⟨g, 0, none⟩)] w (DrawC w g code) := by
  have hgl := hc.lt
  go_enter Try.func39, Try.ntmps39
  go_wp2_with fail
  refine (ClockNew_spec _).mono ?_
  rintro e w1 ⟨H1, rfl, o1, f1, hb1⟩
  have hs1 := hb1.size
  simp only [World.size_alloc] at hs1 f1
  have hC1 : Chg [g] w w1 := (Chg.refl [g] w).then_below (((Below.refl _ w).alloc (Nat.le_refl _) _).trans (hb1.mono (by simp)))
  have hc1 : Cur w1 g code := hc.keep_ hgl (((Below.refl _ w).alloc (Nat.le_refl _) _).trans (hb1.mono (by simp))) (Nat.le_refl _)
  have Br1 : Box w1 w.heap.size [.int .i64 0, .slice none 0 0] := (Box.new w #[.int .i64 0, .slice none 0 0] 38).below hb1
  have hs0 := ClkS.new
  have u1 := o1.lt
  generalize newClk = x1 at *
  go_wp2_with fail
  have Bx2 : Box (w1.alloc (.cells #[.int .i64 x1.Epoch, .slice H1.Pins.a H1.Pins.len H1.Pins.cap] 38)) w1.heap.size [.int .i64 x1.Epoch, .slice H1.Pins.a H1.Pins.len H1.Pins.cap] := Box.new _ _ _
  have hc2 := hc1.alloc (.cells #[.int .i64 x1.Epoch, .slice H1.Pins.a H1.Pins.len H1.Pins.cap] 38)
  have hC2 := hC1.alloc_ (.cells #[.int .i64 x1.Epoch, .slice H1.Pins.a H1.Pins.len H1.Pins.cap] 38)
  have o2 := o1.alloc_ (.cells #[.int .i64 x1.Epoch, .slice H1.Pins.a H1.Pins.len H1.Pins.cap] 38)
  have Br2 := Br1.alloc (.cells #[.int .i64 x1.Epoch, .slice H1.Pins.a H1.Pins.len H1.Pins.cap] 38)
  generalize hG : w1.alloc (.cells #[.int .i64 x1.Epoch, .slice H1.Pins.a H1.Pins.len H1.Pins.cap] 38) = w2 at hc2 hC2 Bx2 Br2 o2 ⊢
  clear hG hc1 hC1 Br1
  refine (l1Below_ct _ g code 16 (by unfold I64; omega) hc2).mono ?_
  rintro e w3 ⟨n0, rfl, n0a, n0b, hc3, hg3⟩
  obtain ⟨m0, rfl⟩ := Int.eq_ofNat_of_zero_le n0a
  obtain ⟨ax, hax⟩ : ∃ a, a = w1.heap.size := ⟨_, rfl⟩
  rw [← hax] at Bx2 u1 hs1 ⊢
  have nr : w.heap.size ∉ [g] := by simp; omega
  have nx : ax ∉ [g] := by simp; omega
  have hC3 := hC2.trans hg3
  have Bx3 := Bx2.chg hg3 nx
  have Br3 := Br2.chg hg3 nr
  have o3 := o2.chg hg3 (fun b hb hm => by simp at hm; subst hm; have := f1 b hb; omega)
  have f3 : ∀ b ∈ H1.foot, w.heap.size < b ∧ b ≠ ax := fun b hb => by have := f1 b hb; have := u1 b hb; omega
  have hlx : w.heap.size < ax := by omega
  clear f1 u1 hax hs1 hc2 hC2 hg3 Bx2 Br2 o2 o1 hb1
  go_wp2_with fail
  go_loopw [4] (fun i wr => ∃ (k : Nat) (H : HClock) (x : Clock), i = .int .i64 k ∧ k ≤ 15 ∧ Box wr ax [.int .i64 x.Epoch, .slice H.Pins.a H.Pins.len H.Pins.cap] ∧ Box wr w.heap.size [.int .i64 0, .slice none 0 0] ∧ OwClock wr H x ∧ ClkS x ∧ (∀ b ∈ H.foot, w.heap.size < b ∧ b ≠ ax) ∧ Cur wr g code ∧ Chg [g] w wr) (fun i _ => (intOf i).toNat)
  case atStart => exact ⟨m0, H1, x1, rfl, by omega, Bx3, Br3, o3, hs0, f3, hc3, hC3⟩
  case round =>
    clear Bx3 Br3 o3 hs0 f3 hc3 hC3
    obtain ⟨k, H, x, rfl, hk3, Bx, Br, oz, hs, fz, hcz, hCz⟩ := hrel
    have qx0 := Bx.cell 0 _ rfl
    have qx1 := Bx.cell 1 _ rfl
    have fx := Bx.fro
    have zx := Bx.lt
    have qr0 := Br.cell 0 _ rfl
    have qr1 := Br.cell 1 _ rfl
    have fr := Br.fro
    have zr := Br.lt
    by_cases hk : 0 < k
    case neg =>
      go_wp2_with fail
      refine bodyPost_ret (v := H.val x) (by simp [results, Try.results39, go_sem, qr0, qr1]) rfl ⟨H, x, rfl, oz.chg (F := [w.heap.size]) (by repeat (first | with_reducible exact Chg.refl _ _ | with_reducible refine Chg.set_ ?_ (by simp) _ | with_reducible refine Chg.alloc_ ?_ _ | with_reducible refine Chg.drew_ ?_)) (fun b hb hm => by simp at hm; have := fz b hb; omega), hs, fun b hb => by have := fz b hb; omega, hcz.keep_ (B := w.heap.size) hgl (by repeat (first | with_reducible exact Below.refl _ _ | with_reducible refine Below.setCell ?_ (by simp <;> omega) _ | with_reducible refine Below.alloc ?_ (by simp <;> omega) _ | with_reducible refine Below.drew ?_)) hCz.size, hCz.then_below (by repeat (first | with_reducible exact Below.refl _ _ | with_reducible refine Below.setCell ?_ (by simp <;> omega) _ | with_reducible refine Below.alloc ?_ (by simp <;> omega) _ | with_reducible refine Below.drew ?_))⟩
    clear qr0 qr1 fr zr
    have hgx : ∀ b ∈ H.foot, b ∉ [g] := fun b hb hm => by simp at hm; subst hm; have := fz b hb; omega
    go_wp2_with fail
    refine (l1Below_ct _ g code 3 (by unfold I64; omega) hcz).mono ?_
    rintro e w3 ⟨a, rfl, a0, a1, hc3, hg3⟩
    have Bx3 := Bx.chg hg3 nx
    have Br3 := Br.chg hg3 nr
    have o3 := oz.chg hg3 hgx
    replace qx0 := Bx3.cell 0 _ rfl
    replace qx1 := Bx3.cell 1 _ rfl
    replace fx := Bx3.fro
    replace zx := Bx3.lt
    have hC3 := hCz.trans hg3
    clear hcz hg3 Bx Br oz hCz
    go_wp2_with fail
    have By3 : Box (w3.alloc (.cells #[.int .i64 x.Epoch, .slice H.Pins.a H.Pins.len H.Pins.cap] 38)) w3.heap.size [.int .i64 x.Epoch, .slice H.Pins.a H.Pins.len H.Pins.cap] := Box.new _ _ _
    have sz3 := hC3.size
    refine (l1Below_ct _ g code 6 (by unfold I64; omega) (hc3.alloc _)).mono ?_
    rintro e w4 ⟨v, rfl, v0, v1, hc4, hg4⟩
    have ny : w3.heap.size ∉ [g] := by simp; omega
    have nyx : w3.heap.size ≠ ax := by omega
    have nyx2 : ax ≠ w3.heap.size := by omega
    have By4 := By3.chg hg4 ny
    have Bx4 := (Bx3.alloc _).chg hg4 nx
    have Br4 := (Br3.alloc _).chg hg4 nr
    have o4 := (o3.alloc_ _).chg hg4 hgx
    have hC4 := (hC3.alloc_ _).trans hg4
    replace qx0 := Bx4.cell 0 _ rfl
    replace qx1 := Bx4.cell 1 _ rfl
    replace fx := Bx4.fro
    replace zx := Bx4.lt
    have sz4 := hC4.size
    have hl3 := hs.len
    have uy := By4.lt
    have ux := Bx4.lt
    have lr3 := Br3.lt
    obtain ⟨ay, hay⟩ : ∃ a, a = w3.heap.size := ⟨_, rfl⟩
    rw [← hay] at By4 nyx nyx2 ny uy sz3 lr3 ⊢
    clear hay Bx3 Br3 o3 hC3 hc3 By3 hg4
    have hl4 : x.Pins.length ≤ 1073741824 := by omega
    clear hl3
    by_cases q0 : v = 0
    · subst q0
      go_wp2_with fail
      refine (PinTo_spec _ H x a x.Epoch o4.rd' hl4).mono ?_
      rintro e w5 ⟨H5, rfl, o5, f5, hb5⟩
      have hs5 := hs.pinTo a x.Epoch
      generalize (pinToC x a x.Epoch).1 = x5 at *
      have By5 := By4.below hb5
      have Bx5 := Bx4.below hb5
      have Br5 := Br4.below hb5
      have hc5 := hc4.up hb5
      have hC5 := hC4.trans (Chg.of_below hb5)
      have sz5 := hb5.size
      have sw5 := hC5.size
      clear By4 Bx4 Br4 o4 hc4 hC4 hb5
      replace qx0 := Bx5.cell 0 _ rfl
      replace qx1 := Bx5.cell 1 _ rfl
      replace fx := Bx5.fro
      replace zx := Bx5.lt
      have qy0 := By5.cell 0 _ rfl
      have qy1 := By5.cell 1 _ rfl
      have fy := By5.fro
      have zy := By5.lt
      go_wp2_with fail
      go_roundw
      case rel => exact ⟨k - 1, H5, x5, by go_num, by omega, ((((Bx5.other nyx _).other nyx _).set 0 _).set 1 _), ((((Br5.other (by omega) _).other (by omega) _).other (by omega) _).other (by omega) _), o5.chg (F := [ax, ay]) (by repeat (first | with_reducible exact Chg.refl _ _ | with_reducible refine Chg.set_ ?_ (by simp) _ | with_reducible refine Chg.alloc_ ?_ _ | with_reducible refine Chg.drew_ ?_)) (fun b hb hm => by simp at hm; have := f5 b hb; omega), hs5, fun b hb => by have := f5 b hb; omega, hc5.keep_ (B := w.heap.size) hgl (by repeat (first | with_reducible exact Below.refl _ _ | with_reducible refine Below.setCell ?_ (by simp <;> omega) _ | with_reducible refine Below.alloc ?_ (by simp <;> omega) _ | with_reducible refine Below.drew ?_)) sw5, hC5.then_below (by repeat (first | with_reducible exact Below.refl _ _ | with_reducible refine Below.setCell ?_ (by simp <;> omega) _ | with_reducible refine Below.alloc ?_ (by simp <;> omega) _ | with_reducible refine Below.drew ?_))⟩
      case measure => simp [intOf]; omega
    by_cases q1 : v = 1
    · subst q1
      go_wp2_with fail
      refine (Unpin_spec _ H x a o4.rd' hl4).mono ?_
      rintro e w5 ⟨H5, rfl, o5, f5, hb5⟩
      have hs5 := hs.unpin a
      generalize (unpinC x a).1 = x5 at *
      have By5 := By4.below hb5
      have Bx5 := Bx4.below hb5
      have Br5 := Br4.below hb5
      have hc5 := hc4.up hb5
      have hC5 := hC4.trans (Chg.of_below hb5)
      have sz5 := hb5.size
      have sw5 := hC5.size
      clear By4 Bx4 Br4 o4 hc4 hC4 hb5
      replace qx0 := Bx5.cell 0 _ rfl
      replace qx1 := Bx5.cell 1 _ rfl
      replace fx := Bx5.fro
      replace zx := Bx5.lt
      have qy0 := By5.cell 0 _ rfl
      have qy1 := By5.cell 1 _ rfl
      have fy := By5.fro
      have zy := By5.lt
      go_wp2_with fail
      go_roundw
      case rel => exact ⟨k - 1, H5, x5, by go_num, by omega, ((((Bx5.other nyx _).other nyx _).set 0 _).set 1 _), ((((Br5.other (by omega) _).other (by omega) _).other (by omega) _).other (by omega) _), o5.chg (F := [ax, ay]) (by repeat (first | with_reducible exact Chg.refl _ _ | with_reducible refine Chg.set_ ?_ (by simp) _ | with_reducible refine Chg.alloc_ ?_ _ | with_reducible refine Chg.drew_ ?_)) (fun b hb hm => by simp at hm; have := f5 b hb; omega), hs5, fun b hb => by have := f5 b hb; omega, hc5.keep_ (B := w.heap.size) hgl (by repeat (first | with_reducible exact Below.refl _ _ | with_reducible refine Below.setCell ?_ (by simp <;> omega) _ | with_reducible refine Below.alloc ?_ (by simp <;> omega) _ | with_reducible refine Below.drew ?_)) sw5, hC5.then_below (by repeat (first | with_reducible exact Below.refl _ _ | with_reducible refine Below.setCell ?_ (by simp <;> omega) _ | with_reducible refine Below.alloc ?_ (by simp <;> omega) _ | with_reducible refine Below.drew ?_))⟩
      case measure => simp [intOf]; omega
    by_cases q2 : v = 2
    · subst q2
      go_wp2_with fail
      refine (LookAt_spec _ H x a x.Epoch o4.rd' hl4).mono ?_
      rintro e w5 ⟨H5, rfl, o5, f5, hb5⟩
      have hs5 := hs.look a x.Epoch
      generalize (lookC x a x.Epoch).1 = x5 at *
      have By5 := By4.below hb5
      have Bx5 := Bx4.below hb5
      have Br5 := Br4.below hb5
      have hc5 := hc4.up hb5
      have hC5 := hC4.trans (Chg.of_below hb5)
      have sz5 := hb5.size
      have sw5 := hC5.size
      clear By4 Bx4 Br4 o4 hc4 hC4 hb5
      replace qx0 := Bx5.cell 0 _ rfl
      replace qx1 := Bx5.cell 1 _ rfl
      replace fx := Bx5.fro
      replace zx := Bx5.lt
      have qy0 := By5.cell 0 _ rfl
      have qy1 := By5.cell 1 _ rfl
      have fy := By5.fro
      have zy := By5.lt
      go_wp2_with fail
      go_roundw
      case rel => exact ⟨k - 1, H5, x5, by go_num, by omega, ((((Bx5.other nyx _).other nyx _).set 0 _).set 1 _), ((((Br5.other (by omega) _).other (by omega) _).other (by omega) _).other (by omega) _), o5.chg (F := [ax, ay]) (by repeat (first | with_reducible exact Chg.refl _ _ | with_reducible refine Chg.set_ ?_ (by simp) _ | with_reducible refine Chg.alloc_ ?_ _ | with_reducible refine Chg.drew_ ?_)) (fun b hb hm => by simp at hm; have := f5 b hb; omega), hs5, fun b hb => by have := f5 b hb; omega, hc5.keep_ (B := w.heap.size) hgl (by repeat (first | with_reducible exact Below.refl _ _ | with_reducible refine Below.setCell ?_ (by simp <;> omega) _ | with_reducible refine Below.alloc ?_ (by simp <;> omega) _ | with_reducible refine Below.drew ?_)) sw5, hC5.then_below (by repeat (first | with_reducible exact Below.refl _ _ | with_reducible refine Below.setCell ?_ (by simp <;> omega) _ | with_reducible refine Below.alloc ?_ (by simp <;> omega) _ | with_reducible refine Below.drew ?_))⟩
      case measure => simp [intOf]; omega
    by_cases q3 : v = 3
    · subst q3
      go_wp2_with fail
      refine (LookAt_spec _ H x a x.Epoch o4.rd' hl4).mono ?_
      rintro e w5 ⟨H5, rfl, o5, f5, hb5⟩
      have hs5 := hs.look a x.Epoch
      generalize (lookC x a x.Epoch).1 = x5 at *
      have By5 := By4.below hb5
      have Bx5 := Bx4.below hb5
      have Br5 := Br4.below hb5
      have hc5 := hc4.up hb5
      have hC5 := hC4.trans (Chg.of_below hb5)
      have sz5 := hb5.size
      have sw5 := hC5.size
      clear By4 Bx4 Br4 o4 hc4 hC4 hb5
      replace qx0 := Bx5.cell 0 _ rfl
      replace qx1 := Bx5.cell 1 _ rfl
      replace fx := Bx5.fro
      replace zx := Bx5.lt
      have qy0 := By5.cell 0 _ rfl
      have qy1 := By5.cell 1 _ rfl
      have fy := By5.fro
      have zy := By5.lt
      go_wp2_with fail
      go_roundw
      case rel => exact ⟨k - 1, H5, x5, by go_num, by omega, ((((Bx5.other nyx _).other nyx _).set 0 _).set 1 _), ((((Br5.other (by omega) _).other (by omega) _).other (by omega) _).other (by omega) _), o5.chg (F := [ax, ay]) (by repeat (first | with_reducible exact Chg.refl _ _ | with_reducible refine Chg.set_ ?_ (by simp) _ | with_reducible refine Chg.alloc_ ?_ _ | with_reducible refine Chg.drew_ ?_)) (fun b hb hm => by simp at hm; have := f5 b hb; omega), hs5, fun b hb => by have := f5 b hb; omega, hc5.keep_ (B := w.heap.size) hgl (by repeat (first | with_reducible exact Below.refl _ _ | with_reducible refine Below.setCell ?_ (by simp <;> omega) _ | with_reducible refine Below.alloc ?_ (by simp <;> omega) _ | with_reducible refine Below.drew ?_)) sw5, hC5.then_below (by repeat (first | with_reducible exact Below.refl _ _ | with_reducible refine Below.setCell ?_ (by simp <;> omega) _ | with_reducible refine Below.alloc ?_ (by simp <;> omega) _ | with_reducible refine Below.drew ?_))⟩
      case measure => simp [intOf]; omega
    have he64 : I64 x.Epoch := by have := hs.e0; have := hs.e1; unfold I64; omega
    go_wp2_with fail
    refine (Bump_spec _ H x x.Epoch he64 o4.rd' hl4).mono ?_
    rintro e w5 ⟨H5, rfl, o5, f5, hb5⟩
    have hs5 := hs.bump x.Epoch
    generalize (bumpC x x.Epoch).1 = x5 at *
    have By5 := By4.below hb5
    have Bx5 := Bx4.below hb5
    have Br5 := Br4.below hb5
    have hc5 := hc4.up hb5
    have hC5 := hC4.trans (Chg.of_below hb5)
    have sz5 := hb5.size
    have sw5 := hC5.size
    clear By4 Bx4 Br4 o4 hc4 hC4 hb5
    replace qx0 := Bx5.cell 0 _ rfl
    replace qx1 := Bx5.cell 1 _ rfl
    replace fx := Bx5.fro
    replace zx := Bx5.lt
    have qy0 := By5.cell 0 _ rfl
    have qy1 := By5.cell 1 _ rfl
    have fy := By5.fro
    have zy := By5.lt
    go_wp2_with fail
    go_roundw
    case rel => exact ⟨k - 1, H5, x5, by go_num, by omega, ((((Bx5.other nyx _).other nyx _).set 0 _).set 1 _), ((((Br5.other (by omega) _).other (by omega) _).other (by omega) _).other (by omega) _), o5.chg (F := [ax, ay]) (by repeat (first | with_reducible exact Chg.refl _ _ | with_reducible refine Chg.set_ ?_ (by simp) _ | with_reducible refine Chg.alloc_ ?_ _ | with_reducible refine Chg.drew_ ?_)) (fun b hb hm => by simp at hm; have := f5 b hb; omega), hs5, fun b hb => by have := f5 b hb; omega, hc5.keep_ (B := w.heap.size) hgl (by repeat (first | with_reducible exact Below.refl _ _ | with_reducible refine Below.setCell ?_ (by simp <;> omega) _ | with_reducible refine Below.alloc ?_ (by simp <;> omega) _ | with_reducible refine Below.drew ?_)) sw5, hC5.then_below (by repeat (first | with_reducible exact Below.refl _ _ | with_reducible refine Below.setCell ?_ (by simp <;> omega) _ | with_reducible refine Below.alloc ?_ (by simp <;> omega) _ | with_reducible refine Below.drew ?_))⟩
    case measure => simp [intOf]; omega
end Go.Proofs.Ytapmieijnbachaa
