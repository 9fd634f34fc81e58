/-
  What is guarded, of the reference: the contract. What is guarded, by the program: plain facts. SafeNow of the reference: the contract.
-/
import Derived.Test.YtkldapdpaldbgaaGreatT
import Derived.Test.YtkldapdpaldbgaaGreatL
import Derived.Deep.QuietTactic
import Derived.BigQuiet
import Derived.Deep.LoopGhost
import Derived.Deep.RegionHeld3
import Derived.Test.YtkldapdpaldbgaaGreatN
import Derived.Test.YtkldapdpaldbgaaGreatA
import Derived.WalkSpells
import Derived.Laws.Cover3
import Derived.Test.YtkldapdpaldbgaaGreatUE
namespace Go.Proofs.YtkldapdpaldbgaaGreat
open Go.RowKit
attribute [local go_sem ↓] execJob
attribute [local go_sem] loadResJob

def zPin : Pin := ⟨false, 0, false, 0⟩
def gAt (x : Shelf) (k : Nat) : Bool := gS (x.Jobs.getD k zeroJob) (x.Base.Clock.Pins.getD k zPin)
def gH (x : Shelf) (k : Nat) : Int := (x.Jobs.getD k zeroJob).H
def gsTo (x : Shelf) : Nat → List Int
  | 0 => []
  | k + 1 => if gAt x k = true then putP (gsTo x k) (gH x k) else gsTo x k
def guardedS (x : Shelf) : List Int := if shelfOkB x = true then gsTo x 3 else []
def safeB (x : Shelf) : Bool := shelfOkB x && (guardedS x).all (liveB x.Base.Mem)
theorem gsTo_len (x : Shelf) : ∀ k, (gsTo x k).length ≤ k
  | 0 => Nat.le_refl _
  | k + 1 => by
    have := gsTo_len x k
    unfold gsTo
    split
    · have := putP_len (gsTo x k) (gH x k); omega
    · omega
theorem gsTo_nodup (x : Shelf) : ∀ k, (gsTo x k).Nodup
  | 0 => List.nodup_nil
  | k + 1 => by
    unfold gsTo
    split
    · exact putP_nodup _ (gsTo_nodup x k)
    · exact gsTo_nodup x k
theorem gsTo_mem (x : Shelf) (h : Int) : ∀ k, h ∈ gsTo x k ↔ ∃ i, i < k ∧ gAt x i = true ∧ h = gH x i
  | 0 => by simp [gsTo]
  | k + 1 => by
    have ih := gsTo_mem x h k
    unfold gsTo
    by_cases c : gAt x k = true
    · rw [if_pos c, putP_mem, ih]
      constructor
      · rintro (e | ⟨i, hi, a, b⟩)
        · exact ⟨k, by omega, c, e⟩
        · exact ⟨i, by omega, a, b⟩
      · rintro ⟨i, hi, a, b⟩
        by_cases e : i = k
        · exact Or.inl (e ▸ b)
        · exact Or.inr ⟨i, by omega, a, b⟩
    · rw [if_neg c, ih]
      constructor
      · rintro ⟨i, hi, a, b⟩
        exact ⟨i, by omega, a, b⟩
      · rintro ⟨i, hi, a, b⟩
        by_cases e : i = k
        · exact absurd (e ▸ a) c
        · exact ⟨i, by omega, a, b⟩
theorem shelf_base {x : Shelf} (h : shelfOkB x = true) : baseOkB x.Base = true := by
  unfold shelfOkB at h
  simp only [Bool.and_eq_true] at h
  exact h.1.1.1.1.1.1
theorem shelf_jobs {x : Shelf} (h : shelfOkB x = true) : x.Jobs.length = 3 := by
  unfold shelfOkB at h
  simp only [Bool.and_eq_true, beq_iff_eq] at h
  exact h.1.1.1.1.2
theorem shelf_pins {x : Shelf} (h : shelfOkB x = true) : x.Base.Clock.Pins.length = 3 := by
  have a := shelf_base h
  unfold baseOkB at a
  simp only [Bool.and_eq_true] at a
  have b := a.1.1.1.2
  unfold Clk.clockOkB at b
  simp only [Bool.and_eq_true, beq_iff_eq] at b
  first | exact b.1.1.2 | exact b.1.2 | exact b.2 | exact b.1.1 | exact b.1
theorem at_of {α : Type} {l : List α} {k : Nat} (d : α) (h : k < l.length) : l[k]? = some (l.getD k d) := by simp [List.getD, h]

set_option maxRecDepth 100000 in
set_option maxHeartbeats 2000000 in
theorem Guarded_spec (w : World) (H : HShelf) (x : Shelf) (h : RdShelf w w.heap.size H x) (hs : szLL x.Base.Limbo ≤ 536870912) (hs1 : szLL x.Base.Mem.Lists.Global ≤ 536870912) (hs2 : szLL x.Base.Mem.Lists.Own ≤ 536870912) :
    Calls Tryz.prog 65 #[.agg #[.slice H.Base.Mem.Heap.Bytes.a H.Base.Mem.Heap.Bytes.len H.Base.Mem.Heap.Bytes.cap, .slice H.Base.Mem.Heap.Class.a H.Base.Mem.Heap.Class.len H.Base.Mem.Heap.Class.cap, .slice H.Base.Mem.Lists.Global.a H.Base.Mem.Lists.Global.len H.Base.Mem.Lists.Global.cap, .slice H.Base.Mem.Lists.Own.a H.Base.Mem.Lists.Own.len H.Base.Mem.Lists.Own.cap, .int .i64 x.Base.Clock.Epoch, .slice H.Base.Clock.Pins.a H.Base.Clock.Pins.len H.Base.Clock.Pins.cap, .slice H.Base.Limbo.a H.Base.Limbo.len H.Base.Limbo.cap, .slice H.Base.Haz.a H.Base.Haz.len H.Base.Haz.cap, .slice H.Cells.a H.Cells.len H.Cells.cap, .slice H.Jobs.a H.Jobs.len H.Jobs.cap, .slice H.Todo.a H.Todo.len H.Todo.cap, .slice H.Log.a H.Log.len H.Log.cap, .int .i64 x.Serial]] w fun e w' => ∃ v', e = .returned v' ∧ RdL FI w' w'.heap.size v' (guardedS x) ∧ Below w.heap.size w w' := by
  have kB := fun (W : World) (hW : Below w.heap.size w W) => ShelfOk_spec W H x (rdShelf_up h hW) hs hs1 hs2
  have kG := fun (W : World) (hW : Below w.heap.size w W) (k : Nat) (hj : k < x.Jobs.length) (hp : k < x.Base.Clock.Pins.length) => l17Guards_spec W H x k _ _ (rdShelf_up h hW) (at_of zeroJob hj) (at_of zPin hp)
  have rJ := h.Jobs
  clear h
  have ba : Box ((w.alloc (.cells #[.slice H.Base.Mem.Heap.Bytes.a H.Base.Mem.Heap.Bytes.len H.Base.Mem.Heap.Bytes.cap, .slice H.Base.Mem.Heap.Class.a H.Base.Mem.Heap.Class.len H.Base.Mem.Heap.Class.cap, .slice H.Base.Mem.Lists.Global.a H.Base.Mem.Lists.Global.len H.Base.Mem.Lists.Global.cap, .slice H.Base.Mem.Lists.Own.a H.Base.Mem.Lists.Own.len H.Base.Mem.Lists.Own.cap, .int .i64 x.Base.Clock.Epoch, .slice H.Base.Clock.Pins.a H.Base.Clock.Pins.len H.Base.Clock.Pins.cap, .slice H.Base.Limbo.a H.Base.Limbo.len H.Base.Limbo.cap, .slice H.Base.Haz.a H.Base.Haz.len H.Base.Haz.cap, .slice H.Cells.a H.Cells.len H.Cells.cap, .slice H.Jobs.a H.Jobs.len H.Jobs.cap, .slice H.Todo.a H.Todo.len H.Todo.cap, .slice H.Log.a H.Log.len H.Log.cap, .int .i64 x.Serial] 69)).alloc (.cells #[] 3)) w.heap.size [.slice H.Base.Mem.Heap.Bytes.a H.Base.Mem.Heap.Bytes.len H.Base.Mem.Heap.Bytes.cap, .slice H.Base.Mem.Heap.Class.a H.Base.Mem.Heap.Class.len H.Base.Mem.Heap.Class.cap, .slice H.Base.Mem.Lists.Global.a H.Base.Mem.Lists.Global.len H.Base.Mem.Lists.Global.cap, .slice H.Base.Mem.Lists.Own.a H.Base.Mem.Lists.Own.len H.Base.Mem.Lists.Own.cap, .int .i64 x.Base.Clock.Epoch, .slice H.Base.Clock.Pins.a H.Base.Clock.Pins.len H.Base.Clock.Pins.cap, .slice H.Base.Limbo.a H.Base.Limbo.len H.Base.Limbo.cap, .slice H.Base.Haz.a H.Base.Haz.len H.Base.Haz.cap, .slice H.Cells.a H.Cells.len H.Cells.cap, .slice H.Jobs.a H.Jobs.len H.Jobs.cap, .slice H.Todo.a H.Todo.len H.Todo.cap, .slice H.Log.a H.Log.len H.Log.cap, .int .i64 x.Serial] := (Box.new w #[.slice H.Base.Mem.Heap.Bytes.a H.Base.Mem.Heap.Bytes.len H.Base.Mem.Heap.Bytes.cap, .slice H.Base.Mem.Heap.Class.a H.Base.Mem.Heap.Class.len H.Base.Mem.Heap.Class.cap, .slice H.Base.Mem.Lists.Global.a H.Base.Mem.Lists.Global.len H.Base.Mem.Lists.Global.cap, .slice H.Base.Mem.Lists.Own.a H.Base.Mem.Lists.Own.len H.Base.Mem.Lists.Own.cap, .int .i64 x.Base.Clock.Epoch, .slice H.Base.Clock.Pins.a H.Base.Clock.Pins.len H.Base.Clock.Pins.cap, .slice H.Base.Limbo.a H.Base.Limbo.len H.Base.Limbo.cap, .slice H.Base.Haz.a H.Base.Haz.len H.Base.Haz.cap, .slice H.Cells.a H.Cells.len H.Cells.cap, .slice H.Jobs.a H.Jobs.len H.Jobs.cap, .slice H.Todo.a H.Todo.len H.Todo.cap, .slice H.Log.a H.Log.len H.Log.cap, .int .i64 x.Serial] 69).alloc _
  have hB : Below w.heap.size w ((w.alloc (.cells #[.slice H.Base.Mem.Heap.Bytes.a H.Base.Mem.Heap.Bytes.len H.Base.Mem.Heap.Bytes.cap, .slice H.Base.Mem.Heap.Class.a H.Base.Mem.Heap.Class.len H.Base.Mem.Heap.Class.cap, .slice H.Base.Mem.Lists.Global.a H.Base.Mem.Lists.Global.len H.Base.Mem.Lists.Global.cap, .slice H.Base.Mem.Lists.Own.a H.Base.Mem.Lists.Own.len H.Base.Mem.Lists.Own.cap, .int .i64 x.Base.Clock.Epoch, .slice H.Base.Clock.Pins.a H.Base.Clock.Pins.len H.Base.Clock.Pins.cap, .slice H.Base.Limbo.a H.Base.Limbo.len H.Base.Limbo.cap, .slice H.Base.Haz.a H.Base.Haz.len H.Base.Haz.cap, .slice H.Cells.a H.Cells.len H.Cells.cap, .slice H.Jobs.a H.Jobs.len H.Jobs.cap, .slice H.Todo.a H.Todo.len H.Todo.cap, .slice H.Log.a H.Log.len H.Log.cap, .int .i64 x.Serial] 69)).alloc (.cells #[] 3)) := by repeat (first | exact Below.refl _ _ | refine Below.alloc ?_ (by simp <;> omega) _ | refine below_grow_of ?_ (by simp <;> omega) _ _ | refine Below.drew ?_ | refine below_drewN ?_ _)
  have o0 : RdL FI ((w.alloc (.cells #[.slice H.Base.Mem.Heap.Bytes.a H.Base.Mem.Heap.Bytes.len H.Base.Mem.Heap.Bytes.cap, .slice H.Base.Mem.Heap.Class.a H.Base.Mem.Heap.Class.len H.Base.Mem.Heap.Class.cap, .slice H.Base.Mem.Lists.Global.a H.Base.Mem.Lists.Global.len H.Base.Mem.Lists.Global.cap, .slice H.Base.Mem.Lists.Own.a H.Base.Mem.Lists.Own.len H.Base.Mem.Lists.Own.cap, .int .i64 x.Base.Clock.Epoch, .slice H.Base.Clock.Pins.a H.Base.Clock.Pins.len H.Base.Clock.Pins.cap, .slice H.Base.Limbo.a H.Base.Limbo.len H.Base.Limbo.cap, .slice H.Base.Haz.a H.Base.Haz.len H.Base.Haz.cap, .slice H.Cells.a H.Cells.len H.Cells.cap, .slice H.Jobs.a H.Jobs.len H.Jobs.cap, .slice H.Todo.a H.Todo.len H.Todo.cap, .slice H.Log.a H.Log.len H.Log.cap, .int .i64 x.Serial] 69)).alloc (.cells #[] 3)) ((w.alloc (.cells #[.slice H.Base.Mem.Heap.Bytes.a H.Base.Mem.Heap.Bytes.len H.Base.Mem.Heap.Bytes.cap, .slice H.Base.Mem.Heap.Class.a H.Base.Mem.Heap.Class.len H.Base.Mem.Heap.Class.cap, .slice H.Base.Mem.Lists.Global.a H.Base.Mem.Lists.Global.len H.Base.Mem.Lists.Global.cap, .slice H.Base.Mem.Lists.Own.a H.Base.Mem.Lists.Own.len H.Base.Mem.Lists.Own.cap, .int .i64 x.Base.Clock.Epoch, .slice H.Base.Clock.Pins.a H.Base.Clock.Pins.len H.Base.Clock.Pins.cap, .slice H.Base.Limbo.a H.Base.Limbo.len H.Base.Limbo.cap, .slice H.Base.Haz.a H.Base.Haz.len H.Base.Haz.cap, .slice H.Cells.a H.Cells.len H.Cells.cap, .slice H.Jobs.a H.Jobs.len H.Jobs.cap, .slice H.Todo.a H.Todo.len H.Todo.cap, .slice H.Log.a H.Log.len H.Log.cap, .int .i64 x.Serial] 69)).alloc (.cells #[] 3)).heap.size (.slice (some ⟨w.heap.size + 1, 0, none⟩) 0 0) [] := by
    have a := OwL.lit FI [] #[] rfl (by decide) (w.alloc (.cells #[.slice H.Base.Mem.Heap.Bytes.a H.Base.Mem.Heap.Bytes.len H.Base.Mem.Heap.Bytes.cap, .slice H.Base.Mem.Heap.Class.a H.Base.Mem.Heap.Class.len H.Base.Mem.Heap.Class.cap, .slice H.Base.Mem.Lists.Global.a H.Base.Mem.Lists.Global.len H.Base.Mem.Lists.Global.cap, .slice H.Base.Mem.Lists.Own.a H.Base.Mem.Lists.Own.len H.Base.Mem.Lists.Own.cap, .int .i64 x.Base.Clock.Epoch, .slice H.Base.Clock.Pins.a H.Base.Clock.Pins.len H.Base.Clock.Pins.cap, .slice H.Base.Limbo.a H.Base.Limbo.len H.Base.Limbo.cap, .slice H.Base.Haz.a H.Base.Haz.len H.Base.Haz.cap, .slice H.Cells.a H.Cells.len H.Cells.cap, .slice H.Jobs.a H.Jobs.len H.Jobs.cap, .slice H.Todo.a H.Todo.len H.Todo.cap, .slice H.Log.a H.Log.len H.Log.cap, .int .i64 x.Serial] 69)) 3
    rw [World.size_alloc] at a
    exact a.rd'
  go_enter Tryz.func65, Tryz.ntmps65
  go_wp2_with fail
  generalize hW0 : ((w.alloc (.cells #[.slice H.Base.Mem.Heap.Bytes.a H.Base.Mem.Heap.Bytes.len H.Base.Mem.Heap.Bytes.cap, .slice H.Base.Mem.Heap.Class.a H.Base.Mem.Heap.Class.len H.Base.Mem.Heap.Class.cap, .slice H.Base.Mem.Lists.Global.a H.Base.Mem.Lists.Global.len H.Base.Mem.Lists.Global.cap, .slice H.Base.Mem.Lists.Own.a H.Base.Mem.Lists.Own.len H.Base.Mem.Lists.Own.cap, .int .i64 x.Base.Clock.Epoch, .slice H.Base.Clock.Pins.a H.Base.Clock.Pins.len H.Base.Clock.Pins.cap, .slice H.Base.Limbo.a H.Base.Limbo.len H.Base.Limbo.cap, .slice H.Base.Haz.a H.Base.Haz.len H.Base.Haz.cap, .slice H.Cells.a H.Cells.len H.Cells.cap, .slice H.Jobs.a H.Jobs.len H.Jobs.cap, .slice H.Todo.a H.Todo.len H.Todo.cap, .slice H.Log.a H.Log.len H.Log.cap, .int .i64 x.Serial] 69)).alloc (.cells #[] 3)) = w0 at o0 ba hB ⊢
  clear hW0
  cases hok : shelfOkB x with
  | false =>
    have HN := Hid.mk_ (show guardedS x = [] from if_neg (by rw [hok]; decide))
    refine (kB _ hB).mono ?_
    rw [hok]
    rintro e w1 ⟨rfl, hb⟩
    replace o0 := rd_up o0 hb
    replace hB := hB.trans (hb.mono hB.size)
    clear hb kB kG hok
    go_wp2_with fail
    go_loopw [3, 5] (fun o i wr => i = .int .i64 0 ∧ RdL FI wr wr.heap.size o [] ∧ Below w.heap.size w wr) (fun _ _ _ => 0)
    case atStart => exact ⟨rfl, o0, hB⟩
    case round =>
      obtain ⟨rfl, ho, hb⟩ := hrel
      go_wp2_with fail
      go_ret
      exact ⟨_, rfl, by rw [HN.out]; exact ho, hb⟩
  | true =>
    have HN := Hid.mk_ (show guardedS x = gsTo x 3 from if_pos hok)
    have lJ := shelf_jobs hok
    have lP := shelf_pins hok
    refine (kB _ hB).mono ?_
    rw [hok]
    rintro e w1 ⟨rfl, hb⟩
    replace o0 := rd_up o0 hb
    replace ba := ba.below hb
    replace hB := hB.trans (hb.mono hB.size)
    clear hb kB hok
    go_wp2_with fail
    go_loopw [3, 5] (fun o i wr => ∃ k : Nat, k ≤ 3 ∧ i = .int .i64 k ∧ RdL FI wr wr.heap.size o (gsTo x k) ∧ Box wr w.heap.size [.slice H.Base.Mem.Heap.Bytes.a H.Base.Mem.Heap.Bytes.len H.Base.Mem.Heap.Bytes.cap, .slice H.Base.Mem.Heap.Class.a H.Base.Mem.Heap.Class.len H.Base.Mem.Heap.Class.cap, .slice H.Base.Mem.Lists.Global.a H.Base.Mem.Lists.Global.len H.Base.Mem.Lists.Global.cap, .slice H.Base.Mem.Lists.Own.a H.Base.Mem.Lists.Own.len H.Base.Mem.Lists.Own.cap, .int .i64 x.Base.Clock.Epoch, .slice H.Base.Clock.Pins.a H.Base.Clock.Pins.len H.Base.Clock.Pins.cap, .slice H.Base.Limbo.a H.Base.Limbo.len H.Base.Limbo.cap, .slice H.Base.Haz.a H.Base.Haz.len H.Base.Haz.cap, .slice H.Cells.a H.Cells.len H.Cells.cap, .slice H.Jobs.a H.Jobs.len H.Jobs.cap, .slice H.Todo.a H.Todo.len H.Todo.cap, .slice H.Log.a H.Log.len H.Log.cap, .int .i64 x.Serial] ∧ Below w.heap.size w wr) (fun _ i _ => 3 - (intOf i).toNat)
    case atStart => exact ⟨0, Nat.zero_le _, rfl, o0, ba, hB⟩
    case round =>
      clear o0 ba hB
      obtain ⟨k, hk, rfl, ho, ba, hB⟩ := hrel
      by_cases hlt : k < 3
      · have hkj : k < x.Jobs.length := by omega
        have kg := fun (W : World) (hW : Below w.heap.size w W) => kG W hW k hkj (by omega)
        have HG := Hid.mk_ (show gAt x k = gS (x.Jobs.getD k zeroJob) (x.Base.Clock.Pins.getD k zPin) from rfl)
        have hln := gsTo_len x k
        clear kG lP
        have q_a_0 := ba.cell 0 _ rfl
        have q_a_1 := ba.cell 1 _ rfl
        have q_a_2 := ba.cell 2 _ rfl
        have q_a_3 := ba.cell 3 _ rfl
        have q_a_4 := ba.cell 4 _ rfl
        have q_a_5 := ba.cell 5 _ rfl
        have q_a_6 := ba.cell 6 _ rfl
        have q_a_7 := ba.cell 7 _ rfl
        have q_a_8 := ba.cell 8 _ rfl
        have q_a_9 := ba.cell 9 _ rfl
        have q_a_10 := ba.cell 10 _ rfl
        have q_a_11 := ba.cell 11 _ rfl
        have q_a_12 := ba.cell 12 _ rfl
        have zb := ba.lt
        have HH := Hid.mk_ (show gH x k = (x.Jobs.getD k zeroJob).H from rfl)
        have HS : Hid (gsTo x (k + 1) = if gAt x k = true then putP (gsTo x k) (gH x k) else gsTo x k) := Hid.mk_ rfl
        rw [← HG.out] at kg
        generalize gAt x k = gb at kg HS
        cases gb with
        | false =>
          replace HS : Hid (gsTo x (k + 1) = gsTo x k) := Hid.mk_ HS.out
          go_wp2_with fail
          refine (kg _ hB).mono ?_
          rintro e w2 ⟨rfl, hb⟩
          replace ho := rd_up ho hb
          replace ba := ba.below hb
          replace hB := hB.trans (hb.mono hB.size)
          clear hb kg q_a_0 q_a_1 q_a_2 q_a_3 q_a_4 q_a_5 q_a_6 q_a_7 q_a_8 q_a_9 q_a_10 q_a_11 q_a_12 zb
          go_wp2_with fail
          go_roundw
          case rel => exact ⟨k + 1, by omega, by go_num, by rw [HS.out]; exact ho, ba, hB⟩
          case measure => simp [intOf]; omega
        | true =>
          replace HS : Hid (gsTo x (k + 1) = putP (gsTo x k) (gH x k)) := Hid.mk_ HS.out
          go_wp2_with fail
          refine (kg _ hB).mono ?_
          rintro e w2 ⟨rfl, hb⟩
          replace ho := rd_up ho hb
          replace ba := ba.below hb
          replace hB := hB.trans (hb.mono hB.size)
          clear hb kg q_a_0 q_a_1 q_a_2 q_a_3 q_a_4 q_a_5 q_a_6 q_a_7 q_a_8 q_a_9 q_a_10 q_a_11 q_a_12 zb
          have q_a_9 := ba.cell 9 _ rfl
          have zb := ba.lt
          replace rJ := rd_up rJ hB
          obtain ⟨Aj, nj, cj, hvj⟩ : ∃ A n c, H.Jobs = ⟨A, n, c⟩ := ⟨_, _, _, rfl⟩
          rw [hvj] at rJ q_a_9
          clear hvj
          simp only [SV.val] at rJ q_a_9
          obtain ⟨_, bJ⟩ := RdL.len_ rJ
          obtain ⟨g, off, cap', he, hg, _, _, hc⟩ := rJ.range_ (at_of zeroJob hkj)
          injection he with he1 he2 he3
          subst he1 he2 he3
          have pH : w2.cell? ⟨g, off + k * 21 + 17, none⟩ = some (.int .i64 (gH x k)) := hc 17 _ (by rw [HH.out]; rfl)
          have kP := fun (W : World) (v : Value) (l : List Int) (hl : RdL FI W W.heap.size v l) (hn : l.length ≤ 1000) => l17Put_spec W v l (gH x k) hl hn
          generalize gH x k = hh at *
          clear hc rJ HG HH
          go_wp2_with fail
          refine (kP _ _ _ ho (by omega)).mono ?_
          rintro e w3 ⟨v', rfl, ho', hb⟩
          replace ba := ba.below hb
          replace hB := hB.trans (hb.mono hB.size)
          clear hb kP pH q_a_9 zb ho
          go_wp2_with fail
          go_roundw
          case rel => exact ⟨k + 1, by omega, by go_num, by rw [HS.out]; exact ho', ba, hB⟩
          case measure => simp [intOf]; omega
      · go_wp2_with fail
        go_ret
        obtain rfl : k = 3 := by omega
        exact ⟨_, rfl, by rw [HN.out]; exact ho, hB⟩
end Go.Proofs.YtkldapdpaldbgaaGreat
namespace Go.Proofs.YtkldapdpaldbgaaGreat
open Go.RowKit

def gI (j : Job) (p : Pin) : Bool := (j.Op.Kind == 2 && inB 2 3 j.Pc && pinB p) || (j.Op.Kind == 7 && inB 1 2 j.Pc && pinB p) || (j.Op.Kind == 3 && j.Pc == 3)
def giAt (x : Shelf) (k : Nat) : Bool := gI (x.Jobs.getD k zeroJob) (x.Base.Clock.Pins.getD k zPin)
def giTo (x : Shelf) : Nat → List Int
  | 0 => []
  | k + 1 => if giAt x k = true then giTo x k ++ [gH x k] else giTo x k
theorem giTo_len (x : Shelf) : ∀ k, (giTo x k).length ≤ k
  | 0 => Nat.le_refl _
  | k + 1 => by
    have := giTo_len x k
    unfold giTo
    split
    · simp; omega
    · omega
theorem giTo_mem (x : Shelf) (h : Int) : ∀ k, h ∈ giTo x k ↔ ∃ i, i < k ∧ giAt x i = true ∧ h = gH x i
  | 0 => by simp [giTo]
  | k + 1 => by
    have ih := giTo_mem x h k
    unfold giTo
    by_cases c : giAt x k = true
    · rw [if_pos c, List.mem_append, List.mem_singleton, ih]
      constructor
      · rintro (⟨i, hi, a, b⟩ | e)
        · exact ⟨i, by omega, a, b⟩
        · exact ⟨k, by omega, c, e⟩
      · rintro ⟨i, hi, a, b⟩
        by_cases e : i = k
        · exact Or.inr (e ▸ b)
        · exact Or.inl ⟨i, by omega, a, b⟩
    · rw [if_neg c, ih]
      constructor
      · rintro ⟨i, hi, a, b⟩
        exact ⟨i, by omega, a, b⟩
      · rintro ⟨i, hi, a, b⟩
        by_cases e : i = k
        · exact absurd (e ▸ a) c
        · exact ⟨i, by omega, a, b⟩
theorem gI_gS {j : Job} {p : Pin} (h : jobOkB j = true) : (gI j p = true ∧ j.H ≠ 0) ↔ (gS j p = true) := by
  unfold gI gS pinB
  cases hb : j.Busy with
  | false =>
    have e : j = zeroJob := by
      unfold jobOkB at h
      rw [hb, if_neg (by decide)] at h
      exact of_decide_eq_true h
    subst e
    simp [zeroJob]
  | true =>
    simp only [Bool.true_eq_false, if_false]
    have hin : ∀ a b : Int, b = a + 1 → inB a b j.Pc = (j.Pc == a || j.Pc == b) := by
      intro a b e
      rw [Bool.eq_iff_iff, inB_iff]
      simp
      omega
    rw [hin 2 3 rfl, hin 1 2 rfl]
    by_cases hh : j.H = 0
    · rw [if_pos hh]; simp [hh]
    · rw [if_neg hh]
      by_cases k2 : j.Op.Kind = 2
      · rw [if_pos k2]; simp [k2, hh, and_comm]
      · rw [if_neg k2]
        by_cases k7 : j.Op.Kind = 7
        · rw [if_pos k7]; simp [k7, hh, and_comm]
        · rw [if_neg k7]
          by_cases k3 : j.Op.Kind = 3
          · rw [if_pos k3]; simp [k3, hh]
          · rw [if_neg k3]; simp [k2, k7, k3]
theorem shelf_job {x : Shelf} (h : shelfOkB x = true) {k : Nat} (hk : k < 3) : jobOkB (x.Jobs.getD k zeroJob) = true := by
  have lj := shelf_jobs h
  unfold shelfOkB at h
  simp only [Bool.and_eq_true, Bool.not_eq_true', List.any_eq_false] at h
  have hkl : k < x.Jobs.length := by omega
  have a := h.2 x.Jobs[k] (List.getElem_mem hkl)
  rw [show x.Jobs.getD k zeroJob = x.Jobs[k] by simp [List.getD, hkl]]
  simpa using a
theorem gi_gs {x : Shelf} (h : shelfOkB x = true) (v : Int) : (v ∈ giTo x 3 ∧ v ≠ 0) ↔ v ∈ gsTo x 3 := by
  rw [giTo_mem, gsTo_mem]
  constructor
  · rintro ⟨⟨i, hi, a, rfl⟩, hz⟩
    exact ⟨i, hi, (gI_gS (shelf_job h hi)).1 ⟨a, hz⟩, rfl⟩
  · rintro ⟨i, hi, a, rfl⟩
    obtain ⟨b, hz⟩ := (gI_gS (shelf_job h hi)).2 a
    exact ⟨⟨i, hi, b, rfl⟩, hz⟩
end Go.Proofs.YtkldapdpaldbgaaGreat
namespace Go.Proofs.YtkldapdpaldbgaaGreat
open Go.RowKit
attribute [local go_sem ↓] execJob
attribute [local go_sem] loadResJob

theorem shelf_shape {x : Shelf} (h : shelfOkB x = true) : shapeB x.Base.Mem.Heap = true := by
  have k := shelf_base h
  unfold baseOkB at k
  simp only [Bool.and_eq_true] at k
  exact mem_shape k.1.1.1.1
theorem held_upSN {B B9 g0 g k : Nat} {v0 v1 v2 v3 u0 : Value} {W W9 w w' : World} (h : w.cell? ⟨g0, 0, none⟩ = some v0 ∧ w.cell? ⟨g0, 1, none⟩ = some v1 ∧ w.cell? ⟨g0, 2, none⟩ = some v2 ∧ w.cell? ⟨g0, 3, none⟩ = some v3 ∧ w.cell? ⟨g, k, none⟩ = some u0 ∧ g0 < w.heap.size ∧ g < w.heap.size ∧ Below B9 W9 w ∧ Below B W w) (hb : Below w.heap.size w w') (hB : B ≤ g0) (h9 : B9 = W9.heap.size) :
    w'.cell? ⟨g0, 0, none⟩ = some v0 ∧ w'.cell? ⟨g0, 1, none⟩ = some v1 ∧ w'.cell? ⟨g0, 2, none⟩ = some v2 ∧ w'.cell? ⟨g0, 3, none⟩ = some v3 ∧ w'.cell? ⟨g, k, none⟩ = some u0 ∧ g0 < w'.heap.size ∧ g < w'.heap.size ∧ Below B9 W9 w' ∧ Below B W w' := by
  obtain ⟨a, b, c, d, p, m, n, f9, f⟩ := h
  subst h9
  exact ⟨cell_up hb m a, cell_up hb m b, cell_up hb m c, cell_up hb m d, cell_up hb n p, Nat.lt_of_lt_of_le m hb.size, Nat.lt_of_lt_of_le n hb.size, f9.trans (hb.mono f9.size), f.trans (hb.mono (by omega))⟩

set_option maxRecDepth 100000 in
set_option maxHeartbeats 2000000 in
theorem SafeNow_spec (w : World) (H : HShelf) (x : Shelf) (h : RdShelf w w.heap.size H x) (hs : szLL x.Base.Limbo ≤ 536870912) (hs1 : szLL x.Base.Mem.Lists.Global ≤ 536870912) (hs2 : szLL x.Base.Mem.Lists.Own ≤ 536870912) :
    Calls Tryz.prog 21 #[.agg #[.slice H.Base.Mem.Heap.Bytes.a H.Base.Mem.Heap.Bytes.len H.Base.Mem.Heap.Bytes.cap, .slice H.Base.Mem.Heap.Class.a H.Base.Mem.Heap.Class.len H.Base.Mem.Heap.Class.cap, .slice H.Base.Mem.Lists.Global.a H.Base.Mem.Lists.Global.len H.Base.Mem.Lists.Global.cap, .slice H.Base.Mem.Lists.Own.a H.Base.Mem.Lists.Own.len H.Base.Mem.Lists.Own.cap, .int .i64 x.Base.Clock.Epoch, .slice H.Base.Clock.Pins.a H.Base.Clock.Pins.len H.Base.Clock.Pins.cap, .slice H.Base.Limbo.a H.Base.Limbo.len H.Base.Limbo.cap, .slice H.Base.Haz.a H.Base.Haz.len H.Base.Haz.cap, .slice H.Cells.a H.Cells.len H.Cells.cap, .slice H.Jobs.a H.Jobs.len H.Jobs.cap, .slice H.Todo.a H.Todo.len H.Todo.cap, .slice H.Log.a H.Log.len H.Log.cap, .int .i64 x.Serial]] w fun e w' => e = .returned (.bool (safeB x)) ∧ Below w.heap.size w w' := by
  have kB := fun (W : World) (hW : Below w.heap.size w W) => ShelfOk_spec W H x (rdShelf_up h hW) hs hs1 hs2
  have kU := fun (W : World) (hW : Below w.heap.size w W) => Guarded_spec W H x (rdShelf_up h hW) hs hs1 hs2
  have kV := fun (hsh : shapeB x.Base.Mem.Heap = true) (i : Int) (W : World) (hW : Below w.heap.size w W) => l9Valid_spec W H.Base.Mem x.Base.Mem i (rdMem_up h.Base.Mem hW) hsh hs1 hs2
  have HV : Hid (safeB x = (shelfOkB x && (guardedS x).all (liveB x.Base.Mem))) := Hid.mk_ rfl
  have HE := Hid.mk_ (fun hne : guardedS x ≠ [] => (show shelfOkB x = true by
    cases e : shelfOkB x with
    | true => rfl
    | false => exact absurd (if_neg (by rw [e]; decide)) hne))
  clear h
  have B_a : Box (w.alloc (.cells #[.slice H.Base.Mem.Heap.Bytes.a H.Base.Mem.Heap.Bytes.len H.Base.Mem.Heap.Bytes.cap, .slice H.Base.Mem.Heap.Class.a H.Base.Mem.Heap.Class.len H.Base.Mem.Heap.Class.cap, .slice H.Base.Mem.Lists.Global.a H.Base.Mem.Lists.Global.len H.Base.Mem.Lists.Global.cap, .slice H.Base.Mem.Lists.Own.a H.Base.Mem.Lists.Own.len H.Base.Mem.Lists.Own.cap, .int .i64 x.Base.Clock.Epoch, .slice H.Base.Clock.Pins.a H.Base.Clock.Pins.len H.Base.Clock.Pins.cap, .slice H.Base.Limbo.a H.Base.Limbo.len H.Base.Limbo.cap, .slice H.Base.Haz.a H.Base.Haz.len H.Base.Haz.cap, .slice H.Cells.a H.Cells.len H.Cells.cap, .slice H.Jobs.a H.Jobs.len H.Jobs.cap, .slice H.Todo.a H.Todo.len H.Todo.cap, .slice H.Log.a H.Log.len H.Log.cap, .int .i64 x.Serial] 69)) (w.heap.size) [.slice H.Base.Mem.Heap.Bytes.a H.Base.Mem.Heap.Bytes.len H.Base.Mem.Heap.Bytes.cap, .slice H.Base.Mem.Heap.Class.a H.Base.Mem.Heap.Class.len H.Base.Mem.Heap.Class.cap, .slice H.Base.Mem.Lists.Global.a H.Base.Mem.Lists.Global.len H.Base.Mem.Lists.Global.cap, .slice H.Base.Mem.Lists.Own.a H.Base.Mem.Lists.Own.len H.Base.Mem.Lists.Own.cap, .int .i64 x.Base.Clock.Epoch, .slice H.Base.Clock.Pins.a H.Base.Clock.Pins.len H.Base.Clock.Pins.cap, .slice H.Base.Limbo.a H.Base.Limbo.len H.Base.Limbo.cap, .slice H.Base.Haz.a H.Base.Haz.len H.Base.Haz.cap, .slice H.Cells.a H.Cells.len H.Cells.cap, .slice H.Jobs.a H.Jobs.len H.Jobs.cap, .slice H.Todo.a H.Todo.len H.Todo.cap, .slice H.Log.a H.Log.len H.Log.cap, .int .i64 x.Serial] := by
    have hbx := Box.new w #[.slice H.Base.Mem.Heap.Bytes.a H.Base.Mem.Heap.Bytes.len H.Base.Mem.Heap.Bytes.cap, .slice H.Base.Mem.Heap.Class.a H.Base.Mem.Heap.Class.len H.Base.Mem.Heap.Class.cap, .slice H.Base.Mem.Lists.Global.a H.Base.Mem.Lists.Global.len H.Base.Mem.Lists.Global.cap, .slice H.Base.Mem.Lists.Own.a H.Base.Mem.Lists.Own.len H.Base.Mem.Lists.Own.cap, .int .i64 x.Base.Clock.Epoch, .slice H.Base.Clock.Pins.a H.Base.Clock.Pins.len H.Base.Clock.Pins.cap, .slice H.Base.Limbo.a H.Base.Limbo.len H.Base.Limbo.cap, .slice H.Base.Haz.a H.Base.Haz.len H.Base.Haz.cap, .slice H.Cells.a H.Cells.len H.Cells.cap, .slice H.Jobs.a H.Jobs.len H.Jobs.cap, .slice H.Todo.a H.Todo.len H.Todo.cap, .slice H.Log.a H.Log.len H.Log.cap, .int .i64 x.Serial] 69
    exact hbx
  have hB : Below w.heap.size w (w.alloc (.cells #[.slice H.Base.Mem.Heap.Bytes.a H.Base.Mem.Heap.Bytes.len H.Base.Mem.Heap.Bytes.cap, .slice H.Base.Mem.Heap.Class.a H.Base.Mem.Heap.Class.len H.Base.Mem.Heap.Class.cap, .slice H.Base.Mem.Lists.Global.a H.Base.Mem.Lists.Global.len H.Base.Mem.Lists.Global.cap, .slice H.Base.Mem.Lists.Own.a H.Base.Mem.Lists.Own.len H.Base.Mem.Lists.Own.cap, .int .i64 x.Base.Clock.Epoch, .slice H.Base.Clock.Pins.a H.Base.Clock.Pins.len H.Base.Clock.Pins.cap, .slice H.Base.Limbo.a H.Base.Limbo.len H.Base.Limbo.cap, .slice H.Base.Haz.a H.Base.Haz.len H.Base.Haz.cap, .slice H.Cells.a H.Cells.len H.Cells.cap, .slice H.Jobs.a H.Jobs.len H.Jobs.cap, .slice H.Todo.a H.Todo.len H.Todo.cap, .slice H.Log.a H.Log.len H.Log.cap, .int .i64 x.Serial] 69)) := by repeat (first | exact Below.refl _ _ | refine Below.alloc ?_ (by simp <;> omega) _ | refine below_grow_of ?_ (by simp <;> omega) _ _ | refine Below.drew ?_ | refine below_drewN ?_ _)
  go_enter Tryz.func21, Tryz.ntmps21
  go_wp2_with fail
  generalize hW0 : (w.alloc (.cells #[.slice H.Base.Mem.Heap.Bytes.a H.Base.Mem.Heap.Bytes.len H.Base.Mem.Heap.Bytes.cap, .slice H.Base.Mem.Heap.Class.a H.Base.Mem.Heap.Class.len H.Base.Mem.Heap.Class.cap, .slice H.Base.Mem.Lists.Global.a H.Base.Mem.Lists.Global.len H.Base.Mem.Lists.Global.cap, .slice H.Base.Mem.Lists.Own.a H.Base.Mem.Lists.Own.len H.Base.Mem.Lists.Own.cap, .int .i64 x.Base.Clock.Epoch, .slice H.Base.Clock.Pins.a H.Base.Clock.Pins.len H.Base.Clock.Pins.cap, .slice H.Base.Limbo.a H.Base.Limbo.len H.Base.Limbo.cap, .slice H.Base.Haz.a H.Base.Haz.len H.Base.Haz.cap, .slice H.Cells.a H.Cells.len H.Cells.cap, .slice H.Jobs.a H.Jobs.len H.Jobs.cap, .slice H.Todo.a H.Todo.len H.Todo.cap, .slice H.Log.a H.Log.len H.Log.cap, .int .i64 x.Serial] 69)) = w0 at B_a hB ⊢
  clear hW0
  have zz_a := B_a.lt
  have q_a_0 := B_a.cell 0 _ rfl
  have q_a_1 := B_a.cell 1 _ rfl
  have q_a_2 := B_a.cell 2 _ rfl
  have q_a_3 := B_a.cell 3 _ rfl
  have q_a_4 := B_a.cell 4 _ rfl
  have q_a_5 := B_a.cell 5 _ rfl
  have q_a_6 := B_a.cell 6 _ rfl
  have q_a_7 := B_a.cell 7 _ rfl
  have q_a_8 := B_a.cell 8 _ rfl
  have q_a_9 := B_a.cell 9 _ rfl
  have q_a_10 := B_a.cell 10 _ rfl
  have q_a_11 := B_a.cell 11 _ rfl
  have q_a_12 := B_a.cell 12 _ rfl
  have fr_a := B_a.fro
  have z_a := B_a.lt
  refine (kU _ hB).mono ?_
  rintro e w9 ⟨v', rfl, ho, hb⟩
  replace B_a := B_a.below hb
  replace hB := hB.trans (hb.mono hB.size)
  clear hb kU q_a_0 q_a_1 q_a_2 q_a_3 q_a_4 q_a_5 q_a_6 q_a_7 q_a_8 q_a_9 q_a_10 q_a_11 q_a_12 fr_a z_a zz_a
  generalize guardedS x = l at *
  obtain ⟨A, c, hv, _, q2, _⟩ := id ho
  subst hv
  have hlm : l.length ≤ 9223372036854775807 := by unfold maxLen at q2; omega
  clear q2
  go_wp2_with fail
  go_loopw [4] (fun i wr => ∃ k : Nat, k ≤ l.length ∧ i = .int .i64 k ∧ Hid ((l.take k).all (liveB x.Base.Mem) = true) ∧ Box wr w.heap.size [.slice H.Base.Mem.Heap.Bytes.a H.Base.Mem.Heap.Bytes.len H.Base.Mem.Heap.Bytes.cap, .slice H.Base.Mem.Heap.Class.a H.Base.Mem.Heap.Class.len H.Base.Mem.Heap.Class.cap, .slice H.Base.Mem.Lists.Global.a H.Base.Mem.Lists.Global.len H.Base.Mem.Lists.Global.cap, .slice H.Base.Mem.Lists.Own.a H.Base.Mem.Lists.Own.len H.Base.Mem.Lists.Own.cap, .int .i64 x.Base.Clock.Epoch, .slice H.Base.Clock.Pins.a H.Base.Clock.Pins.len H.Base.Clock.Pins.cap, .slice H.Base.Limbo.a H.Base.Limbo.len H.Base.Limbo.cap, .slice H.Base.Haz.a H.Base.Haz.len H.Base.Haz.cap, .slice H.Cells.a H.Cells.len H.Cells.cap, .slice H.Jobs.a H.Jobs.len H.Jobs.cap, .slice H.Todo.a H.Todo.len H.Todo.cap, .slice H.Log.a H.Log.len H.Log.cap, .int .i64 x.Serial] ∧ Below w9.heap.size w9 wr ∧ Below w.heap.size w wr) (fun i _ => l.length - (intOf i).toNat)
  case atStart => exact ⟨0, Nat.zero_le _, rfl, Hid.mk_ (by simp), B_a, Below.refl _ _, hB⟩
  case round =>
    clear B_a hB
    obtain ⟨i, hi, rfl, HR, B_a, hb9, hB⟩ := hrel
    have z_a := B_a.lt
    by_cases hlt : i < l.length
    · have hok := HE.out (by intro e; rw [e] at hlt; simp at hlt)
      have hsh := shelf_shape hok
      obtain ⟨g, off, cap', he, hg, _, _, hc⟩ := (rd_up ho hb9).at_ (List.getElem?_eq_getElem hlt)
      injection he with he1 he2 he3
      clear he2
      subst he1 he3
      have p0 := hc 0 _ rfl
      simp only [FI, Nat.mul_one, Nat.add_zero] at p0
      have hg9 : g < wr.heap.size := hg
      clear hc ho kB HE
      have b0 := B_a.cell 0 _ rfl
      have b1 := B_a.cell 1 _ rfl
      have b2 := B_a.cell 2 _ rfl
      have b3 := B_a.cell 3 _ rfl
      have hb0 : Below wr.heap.size wr wr := Below.refl _ _
      have kv := kV hsh l[i]
      clear kV
      have HY := Hid.mk_ (fun e : liveB x.Base.Mem l[i] = true => all_step hlt HR.out e)
      have HX := Hid.mk_ (fun e : liveB x.Base.Mem l[i] = false => all_no hlt e)
      generalize l[i] = hd at *
      generalize liveB x.Base.Mem hd = lv at *
      cases lv with
      | false =>
        have HZ := Hid.mk_ (show safeB x = false by rw [HV.out, HX.out rfl]; simp)
        clear hok
        go_wp2_with fail
        go_region_held3 (fun wx => wx.cell? ⟨w.heap.size, 0, none⟩ = some (.slice H.Base.Mem.Heap.Bytes.a H.Base.Mem.Heap.Bytes.len H.Base.Mem.Heap.Bytes.cap) ∧ wx.cell? ⟨w.heap.size, 1, none⟩ = some (.slice H.Base.Mem.Heap.Class.a H.Base.Mem.Heap.Class.len H.Base.Mem.Heap.Class.cap) ∧ wx.cell? ⟨w.heap.size, 2, none⟩ = some (.slice H.Base.Mem.Lists.Global.a H.Base.Mem.Lists.Global.len H.Base.Mem.Lists.Global.cap) ∧ wx.cell? ⟨w.heap.size, 3, none⟩ = some (.slice H.Base.Mem.Lists.Own.a H.Base.Mem.Lists.Own.len H.Base.Mem.Lists.Own.cap) ∧ wx.cell? ⟨g, off + i, none⟩ = some (.int .i64 hd) ∧ w.heap.size < wx.heap.size ∧ g < wx.heap.size ∧ Below wr.heap.size wr wx ∧ Below w.heap.size w wx) (first | (go_keep; done) | exact held_upSN (by assumption) (by assumption) (Nat.le_refl _) rfl | exact ⟨by assumption, by assumption, by assumption, by assumption, by assumption, by assumption, by assumption, Below.drew (by assumption), Below.drew (by assumption)⟩) ((go_at_call 53; refine (kv _ (by go_split_ands; assumption)).mono ?_; rintro e w1 ⟨rfl, hb1⟩))
        all_goals
          go_wp2_with fail
          go_ret
          exact ⟨ret_bool HZ.out.symm, by first | assumption | (go_split_ands; assumption)⟩
      | true =>
        have HZ := Hid.mk_ (HY.out rfl)
        clear hok
        go_wp2_with fail
        go_region_held3 (fun wx => wx.cell? ⟨w.heap.size, 0, none⟩ = some (.slice H.Base.Mem.Heap.Bytes.a H.Base.Mem.Heap.Bytes.len H.Base.Mem.Heap.Bytes.cap) ∧ wx.cell? ⟨w.heap.size, 1, none⟩ = some (.slice H.Base.Mem.Heap.Class.a H.Base.Mem.Heap.Class.len H.Base.Mem.Heap.Class.cap) ∧ wx.cell? ⟨w.heap.size, 2, none⟩ = some (.slice H.Base.Mem.Lists.Global.a H.Base.Mem.Lists.Global.len H.Base.Mem.Lists.Global.cap) ∧ wx.cell? ⟨w.heap.size, 3, none⟩ = some (.slice H.Base.Mem.Lists.Own.a H.Base.Mem.Lists.Own.len H.Base.Mem.Lists.Own.cap) ∧ wx.cell? ⟨g, off + i, none⟩ = some (.int .i64 hd) ∧ w.heap.size < wx.heap.size ∧ g < wx.heap.size ∧ Below wr.heap.size wr wx ∧ Below w.heap.size w wx) (first | (go_keep; done) | exact held_upSN (by assumption) (by assumption) (Nat.le_refl _) rfl | exact ⟨by assumption, by assumption, by assumption, by assumption, by assumption, by assumption, by assumption, Below.drew (by assumption), Below.drew (by assumption)⟩) ((go_at_call 53; refine (kv _ (by go_split_ands; assumption)).mono ?_; rintro e w1 ⟨rfl, hb1⟩))
        all_goals
          go_wp2_with fail
          go_roundw
          case rel => exact ⟨i + 1, by omega, by go_num, HZ, B_a.below (by first | assumption | (go_split_ands; assumption)), hb9.trans ((by first | assumption | (go_split_ands; assumption) : Below wr.heap.size wr _).mono hb9.size), by first | assumption | (go_split_ands; assumption)⟩
          case measure => simp [intOf]; omega
    · obtain rfl : i = l.length := by omega
      have HZ := Hid.mk_ (show safeB x = shelfOkB x by rw [HV.out, show l.all (liveB x.Base.Mem) = true by have a := HR.out; rwa [List.take_length] at a]; simp)
      have q_a_0 := B_a.cell 0 _ rfl
      have q_a_1 := B_a.cell 1 _ rfl
      have q_a_2 := B_a.cell 2 _ rfl
      have q_a_3 := B_a.cell 3 _ rfl
      have q_a_4 := B_a.cell 4 _ rfl
      have q_a_5 := B_a.cell 5 _ rfl
      have q_a_6 := B_a.cell 6 _ rfl
      have q_a_7 := B_a.cell 7 _ rfl
      have q_a_8 := B_a.cell 8 _ rfl
      have q_a_9 := B_a.cell 9 _ rfl
      have q_a_10 := B_a.cell 10 _ rfl
      have q_a_11 := B_a.cell 11 _ rfl
      have q_a_12 := B_a.cell 12 _ rfl
      go_wp2_with fail
      refine (kB _ hB).mono ?_
      rintro e w2 ⟨rfl, hb⟩
      go_wp2_with fail
      go_ret
      exact ⟨ret_bool HZ.out.symm, hB.trans (hb.mono hB.size)⟩
end Go.Proofs.YtkldapdpaldbgaaGreat
