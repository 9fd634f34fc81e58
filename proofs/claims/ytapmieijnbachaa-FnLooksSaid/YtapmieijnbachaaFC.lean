/-
  DrawPinTo.
-/
import Derived.Test.YtapmieijnbachaaT
import Derived.Test.YtapmieijnbachaaL
import Derived.Deep.QuietTactic
import Derived.BigQuiet
import Derived.Deep.LoopGhost
import Derived.Deep.RegionHeld3
import Derived.Test.YtapmieijnbachaaN
import Derived.Test.YtapmieijnbachaaA
import Derived.WalkSpells
import Derived.Laws.Cover3
import Derived.Test.YtapmieijnbachaaFB
import Derived.Test.YtapmieijnbachaaDT
namespace Go.Proofs.Ytapmieijnbachaa
open Go.RowKit
theorem OwClock.drew {w : World} {H : HClock} {x : Clock} (h : OwClock w H x) : OwClock w.drew H x := h.keep fun _ _ => rfl
theorem Cur.drew {w : World} {g : Nat} {code : List Int} (h : Cur w g code) : Cur w.drew g code := h.drewN 1
theorem Chg.drew {F : List Nat} {w w' : World} (h : Chg F w w') : Chg F w w'.drew := h.drewN 1
def DrawA (w : World) (g : Nat) (code : List Int) (e : Ending) (w' : World) : Prop := ∃ y : Int, e = .returned (.int .i64 y) ∧ Cur w' g code ∧ Chg [g] w w'
set_option maxRecDepth 100000 in
set_option maxHeartbeats 2000000 in
theorem l10Epoch_ct (w : World) (g : Nat) (code : List Int) (H : HClock) (x : Clock) (ha : ClkA x) (hc : Cur w g code) : Calls Try.prog 31 #[.pointer (some ⟨g, 0, none⟩), .agg #[.int .i64 x.Epoch, .slice H.Pins.a H.Pins.len H.Pins.cap]] w (DrawA w g code) := by
  have hgl := hc.lt
  have e0 := ha.e0
  have e1 := ha.e1
  go_enter Try.func31, Try.ntmps31
  go_wp2_with fail
  refine (l1Once_ct _ g code 3 (by unfold I64; omega) (hc.alloc _)).mono ?_
  rintro e w1 ⟨b, rfl, hc1, hC1⟩
  have nx : w.heap.size ∉ [g] := by simp; omega
  have Bx := (Box.new w #[.int .i64 x.Epoch, .slice H.Pins.a H.Pins.len H.Pins.cap] 38).chg hC1 nx
  have hC := hC1.alloc_first
  have qx0 := Bx.cell 0 _ rfl
  have fx := Bx.fro
  have zx := Bx.lt
  cases b with
  | false =>
    go_wp2_with fail
    go_ret
    exact ⟨_, rfl, hc1, hC⟩
  | true =>
    go_wp2_with fail
    go_region_with (go_at_call 40; (first | ((with_reducible refine (l1Below_ct _ g code 3 (by unfold I64; omega) hc1).mono ?_); rintro e w2 ⟨z, rfl, z0, z1, hc2, hg2⟩; replace Bx := Bx.chg hg2 nx; replace hC := hC.trans hg2; replace qx0 := Bx.cell 0 _ rfl; replace fx := Bx.fro; replace zx := Bx.lt) | ((with_reducible refine (l1Below_ct _ g code 3 (by unfold I64; omega) hc1.drew).mono ?_); rintro e w2 ⟨z, rfl, z0, z1, hc2, hg2⟩; replace Bx := Bx.drew.chg hg2 nx; replace hC := hC.drew.trans hg2; replace qx0 := Bx.cell 0 _ rfl; replace fx := Bx.fro; replace zx := Bx.lt)))
    all_goals
      go_wp2_with fail
      go_ret
      exact ⟨_, rfl, by first | exact hc2 | exact hc2.drewN _, by first | exact hC | exact hC.drewN _⟩
set_option maxRecDepth 100000 in
set_option maxHeartbeats 4000000 in
theorem DrawPinTo_ct (w : World) (v : Value) (code : List Int) (h : RdL FU8 w w.heap.size v code) (hb : ∀ x ∈ code, 0 ≤ x ∧ x ≤ 255) (hs : code.length ≤ 1073741824) :
    Calls Try.prog 15 #[v] w fun e w' => ∃ (H : HClock) (x : Clock) (a y : Int), e = .returned (.tuple #[H.val x, .int .i64 a, .int .i64 y]) ∧ OwClock w' H x ∧ ClkA x ∧ (∀ g ∈ H.foot, w.heap.size ≤ g) ∧ (-1 ≤ a ∧ a ≤ 3) ∧ Below w.heap.size w w' := by
  go_enter Try.func15, Try.ntmps15
  go_wp2_with fail
  refine (l1New_ct _ _ code (h.alloc_ (Nat.le_refl _) (by simp) _) hb hs).mono ?_
  rintro e w1 ⟨rfl, hc1, hb1⟩
  have hgl := hc1.lt
  have hsz1 := hb1.size
  simp only [World.size_alloc] at hc1 hgl hsz1 ⊢
  have Br1 : Box w1 w.heap.size [.int .i64 0, .slice none 0 0] := (Box.new w #[.int .i64 0, .slice none 0 0] 38).below hb1
  have hbw : Below w.heap.size w w1 := ((Below.refl _ w).alloc (Nat.le_refl _) _).trans (hb1.mono (by simp))
  go_wp2_with fail
  refine (l10Any_ct _ _ code hc1).mono ?_
  rintro e w2 ⟨H, x, rfl, o2, ha, f2, hc2, hg2⟩
  have nr : w.heap.size ∉ [w.heap.size + 1] := by simp
  have Br2 := Br1.chg hg2 nr
  have u2 := o2.lt
  have fl : ∀ b ∈ H.foot, w.heap.size + 1 < b ∧ b < w2.heap.size := fun b hb => by have := f2 b hb; have := u2 b hb; omega
  have sz2 := hg2.size
  clear u2 f2
  go_wp2_with fail
  have Bx := Box.new w2 #[.int .i64 x.Epoch, .slice H.Pins.a H.Pins.len H.Pins.cap] 38
  have hc := hc2.alloc (.cells #[.int .i64 x.Epoch, .slice H.Pins.a H.Pins.len H.Pins.cap] 38)
  have hC := hg2.alloc_ (.cells #[.int .i64 x.Epoch, .slice H.Pins.a H.Pins.len H.Pins.cap] 38)
  have o := o2.alloc_ (.cells #[.int .i64 x.Epoch, .slice H.Pins.a H.Pins.len H.Pins.cap] 38)
  have Br := Br2.alloc (.cells #[.int .i64 x.Epoch, .slice H.Pins.a H.Pins.len H.Pins.cap] 38)
  generalize hG : w2.alloc (.cells #[.int .i64 x.Epoch, .slice H.Pins.a H.Pins.len H.Pins.cap] 38) = w3 at hc hC Bx Br o ⊢
  obtain ⟨ax, hax⟩ : ∃ a, a = w2.heap.size := ⟨_, rfl⟩
  rw [← hax] at Bx fl sz2 ⊢
  have nx : ax ∉ [w.heap.size + 1] := by simp; omega
  have hgx : ∀ b ∈ H.foot, b ∉ [w.heap.size + 1] := fun b hb hm => by simp at hm; subst hm; have := fl _ hb; omega
  clear hG hax hc2 hg2 o2 Br2 Br1 hc1 hb1
  have qx0 := Bx.cell 0 _ rfl
  have qx1 := Bx.cell 1 _ rfl
  have fx := Bx.fro
  have zx := Bx.lt
  have qr0 := Br.cell 0 _ rfl
  have qr1 := Br.cell 1 _ rfl
  have fr := Br.fro
  have zr := Br.lt
  go_wp2_with fail
  go_region_with (first | (go_at_call 30; (first | ((with_reducible refine (l8Who_ct _ _ code hc).mono ?_); rintro e wq ⟨a, rfl, a0, a1, hcn, hg⟩; replace hC := hC.trans hg; replace Bx := Bx.chg hg nx; replace Br := Br.chg hg nr; replace o := o.chg hg hgx; replace hc := hcn; clear hg hcn; replace qx0 := Bx.cell 0 _ rfl; replace qx1 := Bx.cell 1 _ rfl; replace qr0 := Br.cell 0 _ rfl; replace qr1 := Br.cell 1 _ rfl; replace fx := Bx.fro; replace fr := Br.fro; replace zx := Bx.lt; replace zr := Br.lt) | ((with_reducible refine (l8Who_ct _ _ code hc.drew).mono ?_); rintro e wq ⟨a, rfl, a0, a1, hcn, hg⟩; replace hC := (hC.drew).trans hg; replace Bx := (Bx.drew).chg hg nx; replace Br := (Br.drew).chg hg nr; replace o := o.drew.chg hg hgx; replace hc := hcn; clear hg hcn; replace qx0 := Bx.cell 0 _ rfl; replace qx1 := Bx.cell 1 _ rfl; replace qr0 := Br.cell 0 _ rfl; replace qr1 := Br.cell 1 _ rfl; replace fx := Bx.fro; replace fr := Br.fro; replace zx := Bx.lt; replace zr := Br.lt))) | (go_at_call 31; (first | ((with_reducible refine (l10Epoch_ct _ _ code H x ha hc).mono ?_); rintro e wq ⟨y, rfl, hcn, hg⟩; replace hC := hC.trans hg; replace Bx := Bx.chg hg nx; replace Br := Br.chg hg nr; replace o := o.chg hg hgx; replace hc := hcn; clear hg hcn; replace qx0 := Bx.cell 0 _ rfl; replace qx1 := Bx.cell 1 _ rfl; replace qr0 := Br.cell 0 _ rfl; replace qr1 := Br.cell 1 _ rfl; replace fx := Bx.fro; replace fr := Br.fro; replace zx := Bx.lt; replace zr := Br.lt) | ((with_reducible refine (l10Epoch_ct _ _ code H x ha hc.drew).mono ?_); rintro e wq ⟨y, rfl, hcn, hg⟩; replace hC := (hC.drew).trans hg; replace Bx := (Bx.drew).chg hg nx; replace Br := (Br.drew).chg hg nr; replace o := o.drew.chg hg hgx; replace hc := hcn; clear hg hcn; replace qx0 := Bx.cell 0 _ rfl; replace qx1 := Bx.cell 1 _ rfl; replace qr0 := Br.cell 0 _ rfl; replace qr1 := Br.cell 1 _ rfl; replace fx := Bx.fro; replace fr := Br.fro; replace zx := Bx.lt; replace zr := Br.lt))))
  all_goals
    go_wp2_with fail
    have hsw := hC.size
    refine bodyPost_ret (v := .tuple #[H.val x, .int .i64 a, .int .i64 y]) (by simp [results, Try.results15, go_sem, qr0, qr1]) rfl ⟨H, x, a, y, rfl, o.chg (F := [w.heap.size]) (by repeat (first | with_reducible exact Chg.refl _ _ | with_reducible refine Chg.set_ ?_ (by simp) _ | with_reducible refine Chg.alloc_ ?_ _ | with_reducible refine Chg.drew_ ?_)) (fun b hb hm => by simp at hm; have := fl b hb; omega), ha, fun b hb => by have := fl b hb; omega, ⟨a0, a1⟩, Below.trans (hbw.trans (hC.below (by omega) (fun g hm => by simp at hm; omega))) (by repeat (first | with_reducible exact Below.refl _ _ | with_reducible refine Below.setCell ?_ (by simp <;> omega) _ | with_reducible refine Below.alloc ?_ (by simp <;> omega) _ | with_reducible refine Below.drew ?_))⟩
end Go.Proofs.Ytapmieijnbachaa
