/-
  The ranges in use: the contracts.
-/
import Derived.Test.YtkldapdpaldbgaaGreatT
import Derived.Test.YtkldapdpaldbgaaGreatL
import Derived.Deep.QuietTactic
import Derived.BigQuiet
import Derived.Deep.LoopGhost
import Derived.Deep.RegionHeld3
import Derived.Test.YtkldapdpaldbgaaGreatN
import Derived.Test.YtkldapdpaldbgaaGreatA
import Derived.WalkSpells
import Derived.Laws.Cover3
import Derived.Test.YtkldapdpaldbgaaGreatBW
import Derived.Test.YtkldapdpaldbgaaGreatBH
namespace Go.Proofs.YtkldapdpaldbgaaGreat
open Go.RowKit
theorem Tryz.stSpan : ST Tryz.prog FSpan 39 88 := ⟨Tryz.underlying39, .agg #[.int .i64 0, .int .i64 0], 16, by kernel_rfl, rfl, by decide⟩

def rngAt (x : Base) (k : Int) : Span := ⟨rngF k (classInB x.Mem.Heap k), rngT k (classInB x.Mem.Heap k)⟩
def rngsP (x : Base) : Nat → List Span
  | 0 => []
  | k + 1 => if 3 ≤ whereP x (k : Int) then rngsP x k ++ [rngAt x (k : Int)] else rngsP x k
def rangesP (x : Base) : List Span := rngsP x 24
theorem rngsP_len (x : Base) : ∀ k, (rngsP x k).length ≤ k
  | 0 => Nat.le_refl _
  | k + 1 => by
    have := rngsP_len x k
    unfold rngsP
    split
    · simp; omega
    · omega
theorem rngsP_none {x : Base} (h : baseOkB x = false) : ∀ k, rngsP x k = []
  | 0 => rfl
  | k + 1 => by
    have e : whereP x (k : Int) = 0 := if_neg (by rw [h]; decide)
    rw [rngsP, e, if_neg (by omega)]
    exact rngsP_none h k
theorem rngsP_yes {x : Base} {k : Nat} (h : 3 ≤ whereP x (k : Int)) : rngsP x (k + 1) = rngsP x k ++ [rngAt x (k : Int)] := by rw [rngsP, if_pos h]
theorem rngsP_no {x : Base} {k : Nat} (h : ¬ 3 ≤ whereP x (k : Int)) : rngsP x (k + 1) = rngsP x k := by rw [rngsP, if_neg h]
theorem whereP_ok {x : Base} {k : Int} (h : 3 ≤ whereP x k) : baseOkB x = true := by
  cases e : baseOkB x with
  | true => rfl
  | false => unfold whereP at h; rw [e, if_neg (by decide)] at h; omega
theorem whereP_eq {x : Base} (e : baseOkB x = true) (k : Int) : whereP x k = whereB x k := if_pos e
set_option maxHeartbeats 400000 in
theorem RangeOf_spec (s c : Int) (w : World) : Calls Tryz.prog 103 #[.int .i64 s, .int .i64 c] w fun e w' => e = .returned (.agg #[.int .i64 (rngF s c), .int .i64 (rngT s c)]) ∧ Below w.heap.size w w' := by
  have hz := sizeOfC_bd c
  have hq := fun W => StartOf_spec s c W
  have hq2 := fun W => SizeOf_spec c W
  rcases rng_cases s c with ⟨h, h1, h2⟩ | ⟨h, h1, h2, h3⟩
  · have HS := Hid.mk_ h1
    have HT := Hid.mk_ h2
    rw [h] at hq
    clear h h1 h2
    go_enter Tryz.func103, Tryz.ntmps103
    go_wp2_with fail
    refine (hq _).mono ?_
    clear hq
    rintro e w1 ⟨rfl, rfl⟩
    go_wp2
    exact bodyPost_ret (v := .agg #[.int .i64 0, .int .i64 0]) (by simp [results, Tryz.results103, go_sem]) rfl ⟨by rw [HS.out, HT.out], by repeat (first | exact Below.refl _ _ | refine Below.alloc ?_ (by simp <;> omega) _ | refine below_grow_of ?_ (by simp <;> omega) _ _ | refine Below.drew ?_ | refine below_drewN ?_ _)⟩
  · have HS := Hid.mk_ h1
    have HT := Hid.mk_ h2
    rw [h2] at h3
    clear h1 h2
    generalize startAt s c = g at *
    generalize sizeOfC c = z at *
    have h4 : ¬ g < 0 := by omega
    have h5 : g ≤ 384 := by omega
    go_enter Tryz.func103, Tryz.ntmps103
    go_wp2_with fail
    refine (hq _).mono ?_
    clear hq
    rintro e w1 ⟨rfl, rfl⟩
    go_wp2_with (go_at_call 181; refine (hq2 _).mono ?_; clear hq2; rintro e w1 ⟨rfl, rfl⟩)
    exact bodyPost_ret (v := .agg #[.int .i64 g, .int .i64 (g + z)]) (by simp [results, Tryz.results103, go_sem]) rfl ⟨by rw [HS.out, HT.out], by repeat (first | exact Below.refl _ _ | refine Below.alloc ?_ (by simp <;> omega) _ | refine below_grow_of ?_ (by simp <;> omega) _ _ | refine Below.drew ?_ | refine below_drewN ?_ _)⟩

set_option maxRecDepth 100000 in
set_option maxHeartbeats 2000000 in
theorem Ranges_impl (w : World) (H : HBase) (x : Base) (h : RdBase w w.heap.size H x) (hs : szLL x.Limbo ≤ 536870912) :
    Calls Tryz.prog 13 #[.agg #[.slice H.Mem.Heap.Bytes.a H.Mem.Heap.Bytes.len H.Mem.Heap.Bytes.cap, .slice H.Mem.Heap.Class.a H.Mem.Heap.Class.len H.Mem.Heap.Class.cap, .slice H.Mem.Lists.Global.a H.Mem.Lists.Global.len H.Mem.Lists.Global.cap, .slice H.Mem.Lists.Own.a H.Mem.Lists.Own.len H.Mem.Lists.Own.cap, .int .i64 x.Clock.Epoch, .slice H.Clock.Pins.a H.Clock.Pins.len H.Clock.Pins.cap, .slice H.Limbo.a H.Limbo.len H.Limbo.cap, .slice H.Haz.a H.Haz.len H.Haz.cap]] w fun e w' => ∃ v', e = .returned v' ∧ OwL FSpan 88 w' v' (rangesP x) ∧ (∀ g ∈ foot1 v', w.heap.size ≤ g) ∧ Below w.heap.size w w' := by
  have HV : Hid (rangesP x = rngsP x 24) := Hid.mk_ rfl
  have ba0 : Box ((w.alloc (.cells #[.slice H.Mem.Heap.Bytes.a H.Mem.Heap.Bytes.len H.Mem.Heap.Bytes.cap, .slice H.Mem.Heap.Class.a H.Mem.Heap.Class.len H.Mem.Heap.Class.cap, .slice H.Mem.Lists.Global.a H.Mem.Lists.Global.len H.Mem.Lists.Global.cap, .slice H.Mem.Lists.Own.a H.Mem.Lists.Own.len H.Mem.Lists.Own.cap, .int .i64 x.Clock.Epoch, .slice H.Clock.Pins.a H.Clock.Pins.len H.Clock.Pins.cap, .slice H.Limbo.a H.Limbo.len H.Limbo.cap, .slice H.Haz.a H.Haz.len H.Haz.cap] 37)).alloc (.cells #[] 88)) w.heap.size [.slice H.Mem.Heap.Bytes.a H.Mem.Heap.Bytes.len H.Mem.Heap.Bytes.cap, .slice H.Mem.Heap.Class.a H.Mem.Heap.Class.len H.Mem.Heap.Class.cap, .slice H.Mem.Lists.Global.a H.Mem.Lists.Global.len H.Mem.Lists.Global.cap, .slice H.Mem.Lists.Own.a H.Mem.Lists.Own.len H.Mem.Lists.Own.cap, .int .i64 x.Clock.Epoch, .slice H.Clock.Pins.a H.Clock.Pins.len H.Clock.Pins.cap, .slice H.Limbo.a H.Limbo.len H.Limbo.cap, .slice H.Haz.a H.Haz.len H.Haz.cap] := (Box.new w #[.slice H.Mem.Heap.Bytes.a H.Mem.Heap.Bytes.len H.Mem.Heap.Bytes.cap, .slice H.Mem.Heap.Class.a H.Mem.Heap.Class.len H.Mem.Heap.Class.cap, .slice H.Mem.Lists.Global.a H.Mem.Lists.Global.len H.Mem.Lists.Global.cap, .slice H.Mem.Lists.Own.a H.Mem.Lists.Own.len H.Mem.Lists.Own.cap, .int .i64 x.Clock.Epoch, .slice H.Clock.Pins.a H.Clock.Pins.len H.Clock.Pins.cap, .slice H.Limbo.a H.Limbo.len H.Limbo.cap, .slice H.Haz.a H.Haz.len H.Haz.cap] 37).alloc _
  have hB0 : Below w.heap.size w ((w.alloc (.cells #[.slice H.Mem.Heap.Bytes.a H.Mem.Heap.Bytes.len H.Mem.Heap.Bytes.cap, .slice H.Mem.Heap.Class.a H.Mem.Heap.Class.len H.Mem.Heap.Class.cap, .slice H.Mem.Lists.Global.a H.Mem.Lists.Global.len H.Mem.Lists.Global.cap, .slice H.Mem.Lists.Own.a H.Mem.Lists.Own.len H.Mem.Lists.Own.cap, .int .i64 x.Clock.Epoch, .slice H.Clock.Pins.a H.Clock.Pins.len H.Clock.Pins.cap, .slice H.Limbo.a H.Limbo.len H.Limbo.cap, .slice H.Haz.a H.Haz.len H.Haz.cap] 37)).alloc (.cells #[] 88)) := by repeat (first | exact Below.refl _ _ | refine Below.alloc ?_ (by simp <;> omega) _ | refine below_grow_of ?_ (by simp <;> omega) _ _ | refine Below.drew ?_ | refine below_drewN ?_ _)
  have hO0 : OwL FSpan 88 ((w.alloc (.cells #[.slice H.Mem.Heap.Bytes.a H.Mem.Heap.Bytes.len H.Mem.Heap.Bytes.cap, .slice H.Mem.Heap.Class.a H.Mem.Heap.Class.len H.Mem.Heap.Class.cap, .slice H.Mem.Lists.Global.a H.Mem.Lists.Global.len H.Mem.Lists.Global.cap, .slice H.Mem.Lists.Own.a H.Mem.Lists.Own.len H.Mem.Lists.Own.cap, .int .i64 x.Clock.Epoch, .slice H.Clock.Pins.a H.Clock.Pins.len H.Clock.Pins.cap, .slice H.Limbo.a H.Limbo.len H.Limbo.cap, .slice H.Haz.a H.Haz.len H.Haz.cap] 37)).alloc (.cells #[] 88)) (.slice (some ⟨w.heap.size + 1, 0, none⟩) 0 0) [] := by
    have a := OwL.lit FSpan [] #[] rfl (by decide) (w.alloc (.cells #[.slice H.Mem.Heap.Bytes.a H.Mem.Heap.Bytes.len H.Mem.Heap.Bytes.cap, .slice H.Mem.Heap.Class.a H.Mem.Heap.Class.len H.Mem.Heap.Class.cap, .slice H.Mem.Lists.Global.a H.Mem.Lists.Global.len H.Mem.Lists.Global.cap, .slice H.Mem.Lists.Own.a H.Mem.Lists.Own.len H.Mem.Lists.Own.cap, .int .i64 x.Clock.Epoch, .slice H.Clock.Pins.a H.Clock.Pins.len H.Clock.Pins.cap, .slice H.Limbo.a H.Limbo.len H.Limbo.cap, .slice H.Haz.a H.Haz.len H.Haz.cap] 37)) 88
    rwa [World.size_alloc] at a
  have kW := fun (s : Int) (W : World) (hW : Below w.heap.size w W) => Where_impl W H x s (rdBase_up h hW) hs
  have kC := fun (hsh : shapeB x.Mem.Heap = true) (s : Int) (W : World) (hW : Below w.heap.size w W) => classIn_impl W H.Mem.Heap x.Mem.Heap s (rdHeap_up h.Mem.Heap hW) hsh
  clear h
  go_enter Tryz.func13, Tryz.ntmps13
  go_wp2_with fail
  generalize hW0 : ((w.alloc (.cells #[.slice H.Mem.Heap.Bytes.a H.Mem.Heap.Bytes.len H.Mem.Heap.Bytes.cap, .slice H.Mem.Heap.Class.a H.Mem.Heap.Class.len H.Mem.Heap.Class.cap, .slice H.Mem.Lists.Global.a H.Mem.Lists.Global.len H.Mem.Lists.Global.cap, .slice H.Mem.Lists.Own.a H.Mem.Lists.Own.len H.Mem.Lists.Own.cap, .int .i64 x.Clock.Epoch, .slice H.Clock.Pins.a H.Clock.Pins.len H.Clock.Pins.cap, .slice H.Limbo.a H.Limbo.len H.Limbo.cap, .slice H.Haz.a H.Haz.len H.Haz.cap] 37)).alloc (.cells #[] 88)) = w0 at hO0 ba0 hB0 ⊢
  clear hW0
  go_wp2_with fail
  go_loopw [3, 6] (fun o i wr => ∃ k : Nat, k ≤ 24 ∧ i = .int .i64 k ∧ OwL FSpan 88 wr o (rngsP x k) ∧ (∀ g ∈ foot1 o, w.heap.size < g) ∧ Box wr w.heap.size [.slice H.Mem.Heap.Bytes.a H.Mem.Heap.Bytes.len H.Mem.Heap.Bytes.cap, .slice H.Mem.Heap.Class.a H.Mem.Heap.Class.len H.Mem.Heap.Class.cap, .slice H.Mem.Lists.Global.a H.Mem.Lists.Global.len H.Mem.Lists.Global.cap, .slice H.Mem.Lists.Own.a H.Mem.Lists.Own.len H.Mem.Lists.Own.cap, .int .i64 x.Clock.Epoch, .slice H.Clock.Pins.a H.Clock.Pins.len H.Clock.Pins.cap, .slice H.Limbo.a H.Limbo.len H.Limbo.cap, .slice H.Haz.a H.Haz.len H.Haz.cap] ∧ Below w.heap.size w wr) (fun _ i _ => 24 - (intOf i).toNat)
  case atStart => exact ⟨0, Nat.zero_le _, rfl, hO0, by simp [foot1, Value.ownBlock], ba0, hB0⟩
  case round =>
    clear hO0 ba0 hB0
    obtain ⟨k, hk, rfl, ho, hf, ba, hb⟩ := hrel
    by_cases hlt : k < 24
    · have hq := kW (k : Int)
      have hlen := rngsP_len x k
      
      clear kW
      have zb := ba.lt
      have qa0 := ba.cell 0 _ rfl
      have qa1 := ba.cell 1 _ rfl
      have qa2 := ba.cell 2 _ rfl
      have qa3 := ba.cell 3 _ rfl
      have qa4 := ba.cell 4 _ rfl
      have qa5 := ba.cell 5 _ rfl
      have qa6 := ba.cell 6 _ rfl
      have qa7 := ba.cell 7 _ rfl
      by_cases c3 : 3 ≤ whereP x (k : Int)
      · have HS := Hid.mk_ (rngsP_yes c3)
        have hsh := base_shape (whereP_ok c3)
        have hq2 := kC hsh (k : Int)
        have HA := Hid.mk_ (show rngAt x (k : Int) = ⟨rngF k (classInB x.Mem.Heap k), rngT k (classInB x.Mem.Heap k)⟩ from rfl)
        clear kC
        generalize whereP x (k : Int) = wp at hq c3
        generalize classInB x.Mem.Heap (k : Int) = cl at hq2 HA
        go_wp2_with fail
        refine (hq _ hb).mono ?_
        rintro e w2 ⟨rfl, hbx⟩
        replace ho := ho.keep (fun g hg => hbx.block g (foot_lt ho g (mem_foot1.2 hg)))
        replace ba := ba.below hbx
        replace hb := hb.trans (hbx.mono hb.size)
        clear hbx hq qa0 qa1 qa2 qa3 qa4 qa5 qa6 qa7 zb
        have zb := ba.lt
        have qa0 := ba.cell 0 _ rfl
        have qa1 := ba.cell 1 _ rfl
        have qa2 := ba.cell 2 _ rfl
        have qa3 := ba.cell 3 _ rfl
        have qa4 := ba.cell 4 _ rfl
        have qa5 := ba.cell 5 _ rfl
        have qa6 := ba.cell 6 _ rfl
        have qa7 := ba.cell 7 _ rfl
        go_wp2_with fail
        refine (hq2 _ hb).mono ?_
        rintro e w3 ⟨rfl, hbx⟩
        replace ho := ho.keep (fun g hg => hbx.block g (foot_lt ho g (mem_foot1.2 hg)))
        replace ba := ba.below hbx
        replace hb := hb.trans (hbx.mono hb.size)
        clear hbx hq2 qa0 qa1 qa2 qa3 qa4 qa5 qa6 qa7 zb
        go_wp2_with fail
        refine (RangeOf_impl _ _ _).mono ?_
        rintro e w4 ⟨rfl, hbx⟩
        replace ho := ho.keep (fun g hg => hbx.block g (foot_lt ho g (mem_foot1.2 hg)))
        replace ba := ba.below hbx
        replace hb := hb.trans (hbx.mono hb.size)
        clear hbx
        have zb := ba.lt
        have hsz := hb.size
        generalize rngF k cl = r1 at HA
        generalize rngT k cl = r2 at HA
        have hl1 : OwL FSpan 88 (w4.alloc (.cells #[.int .i64 r1, .int .i64 r2] 88)) (.slice (some ⟨w4.heap.size, 0, none⟩) 1 1) [⟨r1, r2⟩] := OwL.lit FSpan [⟨r1, r2⟩] #[.int .i64 r1, .int .i64 r2] rfl (by simp [maxLen]) w4 88
        go_wp2_with (at_builtin; refine wpList_append_flat Tryz.stSpan rfl _ _ rfl (v := u3) (y := .slice (some ⟨w4.heap.size, 0, none⟩) 1 1) (l := rngsP x k) (m := [⟨r1, r2⟩]) rfl rfl (ho.alloc_ _) hl1.rd' (by simp; omega) ?_; intro v' w5 ho' hg' hat')
        have hB5 : Below w.heap.size w4 w5 := ((Below.refl _ _).alloc (by first | omega | (simp; omega)) _).grown hg' (by first | omega | (simp; omega)) (fun b hb' => Nat.le_of_lt (hf b (mem_foot1.2 hb')))
        have ba5 := (ba.alloc (.cells #[.int .i64 r1, .int .i64 r2] 88)).chg (Chg.of_grown hg') (fun hm => by have := hf _ hm; omega)
        go_roundw
        case rel =>
          refine ⟨k + 1, by omega, by go_num, by rw [HS.out, HA.out]; exact ho', fun b hb' => ?_, ba5, hb.trans hB5⟩
          rcases foot_app hat' b hb' with h1 | h1
          · exact hf b h1
          · simp at h1
            omega
        case measure => simp [intOf]; omega
      · have HS := Hid.mk_ (rngsP_no c3)
        generalize whereP x (k : Int) = wp at hq c3
        go_wp2_with fail
        refine (hq _ hb).mono ?_
        rintro e w2 ⟨rfl, hbx⟩
        replace ho := ho.keep (fun g hg => hbx.block g (foot_lt ho g (mem_foot1.2 hg)))
        replace ba := ba.below hbx
        replace hb := hb.trans (hbx.mono hb.size)
        clear hbx hq qa0 qa1 qa2 qa3 qa4 qa5 qa6 qa7 zb
        go_wp2_with fail
        go_roundw
        case rel => exact ⟨k + 1, by omega, by go_num, by rw [HS.out]; exact ho, hf, ba, hb⟩
        case measure => simp [intOf]; omega
    · go_wp2
      go_ret
      obtain rfl : k = 24 := by omega
      exact ⟨u3, rfl, by rw [HV.out]; exact ho, fun b hb' => Nat.le_of_lt (hf b hb'), hb⟩

set_option maxRecDepth 100000 in
set_option maxHeartbeats 2000000 in
theorem Ranges_spec (w : World) (H : HBase) (x : Base) (h : RdBase w w.heap.size H x) (hs : szLL x.Limbo ≤ 536870912) (hs1 : szLL x.Mem.Lists.Global ≤ 536870912) (hs2 : szLL x.Mem.Lists.Own ≤ 536870912) :
    Calls Tryz.prog 38 #[.agg #[.slice H.Mem.Heap.Bytes.a H.Mem.Heap.Bytes.len H.Mem.Heap.Bytes.cap, .slice H.Mem.Heap.Class.a H.Mem.Heap.Class.len H.Mem.Heap.Class.cap, .slice H.Mem.Lists.Global.a H.Mem.Lists.Global.len H.Mem.Lists.Global.cap, .slice H.Mem.Lists.Own.a H.Mem.Lists.Own.len H.Mem.Lists.Own.cap, .int .i64 x.Clock.Epoch, .slice H.Clock.Pins.a H.Clock.Pins.len H.Clock.Pins.cap, .slice H.Limbo.a H.Limbo.len H.Limbo.cap, .slice H.Haz.a H.Haz.len H.Haz.cap]] w fun e w' => ∃ v', e = .returned v' ∧ OwL FSpan 88 w' v' (rangesP x) ∧ (∀ g ∈ foot1 v', w.heap.size ≤ g) ∧ Below w.heap.size w w' := by
  have HV : Hid (rangesP x = rngsP x 24) := Hid.mk_ rfl
  have ba0 : Box ((w.alloc (.cells #[.slice H.Mem.Heap.Bytes.a H.Mem.Heap.Bytes.len H.Mem.Heap.Bytes.cap, .slice H.Mem.Heap.Class.a H.Mem.Heap.Class.len H.Mem.Heap.Class.cap, .slice H.Mem.Lists.Global.a H.Mem.Lists.Global.len H.Mem.Lists.Global.cap, .slice H.Mem.Lists.Own.a H.Mem.Lists.Own.len H.Mem.Lists.Own.cap, .int .i64 x.Clock.Epoch, .slice H.Clock.Pins.a H.Clock.Pins.len H.Clock.Pins.cap, .slice H.Limbo.a H.Limbo.len H.Limbo.cap, .slice H.Haz.a H.Haz.len H.Haz.cap] 37)).alloc (.cells #[] 88)) w.heap.size [.slice H.Mem.Heap.Bytes.a H.Mem.Heap.Bytes.len H.Mem.Heap.Bytes.cap, .slice H.Mem.Heap.Class.a H.Mem.Heap.Class.len H.Mem.Heap.Class.cap, .slice H.Mem.Lists.Global.a H.Mem.Lists.Global.len H.Mem.Lists.Global.cap, .slice H.Mem.Lists.Own.a H.Mem.Lists.Own.len H.Mem.Lists.Own.cap, .int .i64 x.Clock.Epoch, .slice H.Clock.Pins.a H.Clock.Pins.len H.Clock.Pins.cap, .slice H.Limbo.a H.Limbo.len H.Limbo.cap, .slice H.Haz.a H.Haz.len H.Haz.cap] := (Box.new w #[.slice H.Mem.Heap.Bytes.a H.Mem.Heap.Bytes.len H.Mem.Heap.Bytes.cap, .slice H.Mem.Heap.Class.a H.Mem.Heap.Class.len H.Mem.Heap.Class.cap, .slice H.Mem.Lists.Global.a H.Mem.Lists.Global.len H.Mem.Lists.Global.cap, .slice H.Mem.Lists.Own.a H.Mem.Lists.Own.len H.Mem.Lists.Own.cap, .int .i64 x.Clock.Epoch, .slice H.Clock.Pins.a H.Clock.Pins.len H.Clock.Pins.cap, .slice H.Limbo.a H.Limbo.len H.Limbo.cap, .slice H.Haz.a H.Haz.len H.Haz.cap] 37).alloc _
  have hB0 : Below w.heap.size w ((w.alloc (.cells #[.slice H.Mem.Heap.Bytes.a H.Mem.Heap.Bytes.len H.Mem.Heap.Bytes.cap, .slice H.Mem.Heap.Class.a H.Mem.Heap.Class.len H.Mem.Heap.Class.cap, .slice H.Mem.Lists.Global.a H.Mem.Lists.Global.len H.Mem.Lists.Global.cap, .slice H.Mem.Lists.Own.a H.Mem.Lists.Own.len H.Mem.Lists.Own.cap, .int .i64 x.Clock.Epoch, .slice H.Clock.Pins.a H.Clock.Pins.len H.Clock.Pins.cap, .slice H.Limbo.a H.Limbo.len H.Limbo.cap, .slice H.Haz.a H.Haz.len H.Haz.cap] 37)).alloc (.cells #[] 88)) := by repeat (first | exact Below.refl _ _ | refine Below.alloc ?_ (by simp <;> omega) _ | refine below_grow_of ?_ (by simp <;> omega) _ _ | refine Below.drew ?_ | refine below_drewN ?_ _)
  have hO0 : OwL FSpan 88 ((w.alloc (.cells #[.slice H.Mem.Heap.Bytes.a H.Mem.Heap.Bytes.len H.Mem.Heap.Bytes.cap, .slice H.Mem.Heap.Class.a H.Mem.Heap.Class.len H.Mem.Heap.Class.cap, .slice H.Mem.Lists.Global.a H.Mem.Lists.Global.len H.Mem.Lists.Global.cap, .slice H.Mem.Lists.Own.a H.Mem.Lists.Own.len H.Mem.Lists.Own.cap, .int .i64 x.Clock.Epoch, .slice H.Clock.Pins.a H.Clock.Pins.len H.Clock.Pins.cap, .slice H.Limbo.a H.Limbo.len H.Limbo.cap, .slice H.Haz.a H.Haz.len H.Haz.cap] 37)).alloc (.cells #[] 88)) (.slice (some ⟨w.heap.size + 1, 0, none⟩) 0 0) [] := by
    have a := OwL.lit FSpan [] #[] rfl (by decide) (w.alloc (.cells #[.slice H.Mem.Heap.Bytes.a H.Mem.Heap.Bytes.len H.Mem.Heap.Bytes.cap, .slice H.Mem.Heap.Class.a H.Mem.Heap.Class.len H.Mem.Heap.Class.cap, .slice H.Mem.Lists.Global.a H.Mem.Lists.Global.len H.Mem.Lists.Global.cap, .slice H.Mem.Lists.Own.a H.Mem.Lists.Own.len H.Mem.Lists.Own.cap, .int .i64 x.Clock.Epoch, .slice H.Clock.Pins.a H.Clock.Pins.len H.Clock.Pins.cap, .slice H.Limbo.a H.Limbo.len H.Limbo.cap, .slice H.Haz.a H.Haz.len H.Haz.cap] 37)) 88
    rwa [World.size_alloc] at a
  have kB := fun (W : World) (hW : Below w.heap.size w W) => BaseOk_spec W H x (rdBase_up h hW) hs hs1 hs2
  have kW := fun (hsh : shapeB x.Mem.Heap = true) (s : Int) (W : World) (hW : Below w.heap.size w W) => l13Where_spec W H x s (rdBase_up h hW) hsh hs hs1 hs2
  have kC := fun (hsh : shapeB x.Mem.Heap = true) (s : Int) (W : World) (hW : Below w.heap.size w W) => l7Class_spec W H.Mem.Heap x.Mem.Heap s (rdHeap_up h.Mem.Heap hW) hsh
  clear h
  by_cases k1 : baseOkB x = true
  case neg =>
    have k1' : baseOkB x = false := (Bool.not_eq_true _).mp k1
    have HN := Hid.mk_ (show rangesP x = [] from rngsP_none k1' 24)
    clear k1
    go_enter Tryz.func38, Tryz.ntmps38
    go_wp2_with fail
    generalize hW0 : ((w.alloc (.cells #[.slice H.Mem.Heap.Bytes.a H.Mem.Heap.Bytes.len H.Mem.Heap.Bytes.cap, .slice H.Mem.Heap.Class.a H.Mem.Heap.Class.len H.Mem.Heap.Class.cap, .slice H.Mem.Lists.Global.a H.Mem.Lists.Global.len H.Mem.Lists.Global.cap, .slice H.Mem.Lists.Own.a H.Mem.Lists.Own.len H.Mem.Lists.Own.cap, .int .i64 x.Clock.Epoch, .slice H.Clock.Pins.a H.Clock.Pins.len H.Clock.Pins.cap, .slice H.Limbo.a H.Limbo.len H.Limbo.cap, .slice H.Haz.a H.Haz.len H.Haz.cap] 37)).alloc (.cells #[] 88)) = w0 at hO0 ba0 hB0 ⊢
    clear hW0
    refine (kB _ hB0).mono ?_
    rw [k1']
    rintro e w1 ⟨rfl, hbx⟩
    replace hO0 := hO0.keep (fun g hg => hbx.block g (foot_lt hO0 g (mem_foot1.2 hg)))
    replace ba0 := ba0.below hbx
    replace hB0 := hB0.trans (hbx.mono hB0.size)
    clear hbx kB k1'
    go_wp2_with fail
    go_loopw [3, 5] (fun o i wr => i = .int .i64 0 ∧ OwL FSpan 88 wr o [] ∧ (∀ g ∈ foot1 o, w.heap.size < g) ∧ Below w.heap.size w wr) (fun _ _ _ => 0)
    case atStart => exact ⟨rfl, hO0, by simp [foot1, Value.ownBlock], hB0⟩
    case round =>
      obtain ⟨rfl, ho, hf, hb⟩ := hrel
      go_wp2_with fail
      go_ret
      exact ⟨u3, rfl, by rw [HN.out]; exact ho, fun b hb' => Nat.le_of_lt (hf b hb'), hb⟩
  have HWE := Hid.mk_ (fun s : Int => whereP_eq k1 s)
  have hsh := base_shape k1
  go_enter Tryz.func38, Tryz.ntmps38
  go_wp2_with fail
  generalize hW0 : ((w.alloc (.cells #[.slice H.Mem.Heap.Bytes.a H.Mem.Heap.Bytes.len H.Mem.Heap.Bytes.cap, .slice H.Mem.Heap.Class.a H.Mem.Heap.Class.len H.Mem.Heap.Class.cap, .slice H.Mem.Lists.Global.a H.Mem.Lists.Global.len H.Mem.Lists.Global.cap, .slice H.Mem.Lists.Own.a H.Mem.Lists.Own.len H.Mem.Lists.Own.cap, .int .i64 x.Clock.Epoch, .slice H.Clock.Pins.a H.Clock.Pins.len H.Clock.Pins.cap, .slice H.Limbo.a H.Limbo.len H.Limbo.cap, .slice H.Haz.a H.Haz.len H.Haz.cap] 37)).alloc (.cells #[] 88)) = w0 at hO0 ba0 hB0 ⊢
  clear hW0
  refine (kB _ hB0).mono ?_
  rw [k1]
  rintro e w1 ⟨rfl, hbx⟩
  replace hO0 := hO0.keep (fun g hg => hbx.block g (foot_lt hO0 g (mem_foot1.2 hg)))
  replace ba0 := ba0.below hbx
  replace hB0 := hB0.trans (hbx.mono hB0.size)
  clear hbx kB k1
  go_wp2_with fail
  go_loopw [3, 5] (fun o i wr => ∃ k : Nat, k ≤ 24 ∧ i = .int .i64 k ∧ OwL FSpan 88 wr o (rngsP x k) ∧ (∀ g ∈ foot1 o, w.heap.size < g) ∧ Box wr w.heap.size [.slice H.Mem.Heap.Bytes.a H.Mem.Heap.Bytes.len H.Mem.Heap.Bytes.cap, .slice H.Mem.Heap.Class.a H.Mem.Heap.Class.len H.Mem.Heap.Class.cap, .slice H.Mem.Lists.Global.a H.Mem.Lists.Global.len H.Mem.Lists.Global.cap, .slice H.Mem.Lists.Own.a H.Mem.Lists.Own.len H.Mem.Lists.Own.cap, .int .i64 x.Clock.Epoch, .slice H.Clock.Pins.a H.Clock.Pins.len H.Clock.Pins.cap, .slice H.Limbo.a H.Limbo.len H.Limbo.cap, .slice H.Haz.a H.Haz.len H.Haz.cap] ∧ Below w.heap.size w wr) (fun _ i _ => 24 - (intOf i).toNat)
  case atStart => exact ⟨0, Nat.zero_le _, rfl, hO0, by simp [foot1, Value.ownBlock], ba0, hB0⟩
  case round =>
    clear hO0 ba0 hB0
    obtain ⟨k, hk, rfl, ho, hf, ba, hb⟩ := hrel
    by_cases hlt : k < 24
    · have hq := kW hsh (k : Int)
      have hlen := rngsP_len x k
      rw [← HWE.out] at hq
      clear kW
      have zb := ba.lt
      have qa0 := ba.cell 0 _ rfl
      have qa1 := ba.cell 1 _ rfl
      have qa2 := ba.cell 2 _ rfl
      have qa3 := ba.cell 3 _ rfl
      have qa4 := ba.cell 4 _ rfl
      have qa5 := ba.cell 5 _ rfl
      have qa6 := ba.cell 6 _ rfl
      have qa7 := ba.cell 7 _ rfl
      by_cases c3 : 3 ≤ whereP x (k : Int)
      · have HS := Hid.mk_ (rngsP_yes c3)
        
        have hq2 := kC hsh (k : Int)
        have HA := Hid.mk_ (show rngAt x (k : Int) = ⟨rngF k (classInB x.Mem.Heap k), rngT k (classInB x.Mem.Heap k)⟩ from rfl)
        clear kC
        generalize whereP x (k : Int) = wp at hq c3
        generalize classInB x.Mem.Heap (k : Int) = cl at hq2 HA
        go_wp2_with fail
        refine (hq _ hb).mono ?_
        rintro e w2 ⟨rfl, hbx⟩
        replace ho := ho.keep (fun g hg => hbx.block g (foot_lt ho g (mem_foot1.2 hg)))
        replace ba := ba.below hbx
        replace hb := hb.trans (hbx.mono hb.size)
        clear hbx hq qa0 qa1 qa2 qa3 qa4 qa5 qa6 qa7 zb
        have zb := ba.lt
        have qa0 := ba.cell 0 _ rfl
        have qa1 := ba.cell 1 _ rfl
        have qa2 := ba.cell 2 _ rfl
        have qa3 := ba.cell 3 _ rfl
        have qa4 := ba.cell 4 _ rfl
        have qa5 := ba.cell 5 _ rfl
        have qa6 := ba.cell 6 _ rfl
        have qa7 := ba.cell 7 _ rfl
        go_wp2_with fail
        refine (hq2 _ hb).mono ?_
        rintro e w3 ⟨rfl, hbx⟩
        replace ho := ho.keep (fun g hg => hbx.block g (foot_lt ho g (mem_foot1.2 hg)))
        replace ba := ba.below hbx
        replace hb := hb.trans (hbx.mono hb.size)
        clear hbx hq2 qa0 qa1 qa2 qa3 qa4 qa5 qa6 qa7 zb
        go_wp2_with fail
        refine (RangeOf_spec _ _ _).mono ?_
        rintro e w4 ⟨rfl, hbx⟩
        replace ho := ho.keep (fun g hg => hbx.block g (foot_lt ho g (mem_foot1.2 hg)))
        replace ba := ba.below hbx
        replace hb := hb.trans (hbx.mono hb.size)
        clear hbx
        have zb := ba.lt
        have hsz := hb.size
        generalize rngF k cl = r1 at HA
        generalize rngT k cl = r2 at HA
        have hl1 : OwL FSpan 88 (w4.alloc (.cells #[.int .i64 r1, .int .i64 r2] 88)) (.slice (some ⟨w4.heap.size, 0, none⟩) 1 1) [⟨r1, r2⟩] := OwL.lit FSpan [⟨r1, r2⟩] #[.int .i64 r1, .int .i64 r2] rfl (by simp [maxLen]) w4 88
        go_wp2_with (at_builtin; refine wpList_append_flat Tryz.stSpan rfl _ _ rfl (v := u3) (y := .slice (some ⟨w4.heap.size, 0, none⟩) 1 1) (l := rngsP x k) (m := [⟨r1, r2⟩]) rfl rfl (ho.alloc_ _) hl1.rd' (by simp; omega) ?_; intro v' w5 ho' hg' hat')
        have hB5 : Below w.heap.size w4 w5 := ((Below.refl _ _).alloc (by first | omega | (simp; omega)) _).grown hg' (by first | omega | (simp; omega)) (fun b hb' => Nat.le_of_lt (hf b (mem_foot1.2 hb')))
        have ba5 := (ba.alloc (.cells #[.int .i64 r1, .int .i64 r2] 88)).chg (Chg.of_grown hg') (fun hm => by have := hf _ hm; omega)
        go_roundw
        case rel =>
          refine ⟨k + 1, by omega, by go_num, by rw [HS.out, HA.out]; exact ho', fun b hb' => ?_, ba5, hb.trans hB5⟩
          rcases foot_app hat' b hb' with h1 | h1
          · exact hf b h1
          · simp at h1
            omega
        case measure => simp [intOf]; omega
      · have HS := Hid.mk_ (rngsP_no c3)
        generalize whereP x (k : Int) = wp at hq c3
        go_wp2_with fail
        refine (hq _ hb).mono ?_
        rintro e w2 ⟨rfl, hbx⟩
        replace ho := ho.keep (fun g hg => hbx.block g (foot_lt ho g (mem_foot1.2 hg)))
        replace ba := ba.below hbx
        replace hb := hb.trans (hbx.mono hb.size)
        clear hbx hq qa0 qa1 qa2 qa3 qa4 qa5 qa6 qa7 zb
        go_wp2_with fail
        go_roundw
        case rel => exact ⟨k + 1, by omega, by go_num, by rw [HS.out]; exact ho, hf, ba, hb⟩
        case measure => simp [intOf]; omega
    · go_wp2
      go_ret
      obtain rfl : k = 24 := by omega
      exact ⟨u3, rfl, by rw [HV.out]; exact ho, fun b hb' => Nat.le_of_lt (hf b hb'), hb⟩
end Go.Proofs.YtkldapdpaldbgaaGreat
