/-
  What is guarded, by the program: the contract. Numbers in order, each once: the contract. SafeNow of the program: the contract. Words for the laws on shelves. FnExactSafeNow, walked.
-/
import Derived.Test.YtkldapdpaldbgaaGreatT
import Derived.Test.YtkldapdpaldbgaaGreatL
import Derived.Deep.QuietTactic
import Derived.BigQuiet
import Derived.Deep.LoopGhost
import Derived.Deep.RegionHeld3
import Derived.Test.YtkldapdpaldbgaaGreatN
import Derived.Test.YtkldapdpaldbgaaGreatA
import Derived.WalkSpells
import Derived.Laws.Cover3
import Derived.Test.YtkldapdpaldbgaaGreatUF
import Derived.Deep.CutRange
import Derived.Test.YtkldapdpaldbgaaGreatSHL
import Derived.Sort.OwnSortedInts
import Derived.Lib.RowBridge
import Derived.Test.YtkldapdpaldbgaaGreatWS
import Derived.Test.YtkldapdpaldbgaaGreatB3
namespace Go.Proofs.YtkldapdpaldbgaaGreat
open Go.RowKit
attribute [local go_sem ↓] execJob
attribute [local go_sem] loadResJob
theorem effective_ct (p : Pin) (w : World) : Calls Tryz.prog 146 #[.agg #[.bool p.On, .int .i64 p.Epoch, .bool p.Marked, .int .i64 p.Seen]] w fun e w' => e = .returned (.bool (p.On && !p.Marked)) ∧ Below w.heap.size w w' := by
  obtain ⟨on, pe, mk, ps⟩ := p
  cases on with
  | false =>
    go_enter Tryz.func146, Tryz.ntmps146
    go_wp2
    go_ret
    exact ⟨rfl, by repeat (first | exact Below.refl _ _ | refine Below.alloc ?_ (by simp <;> omega) _ | refine below_grow_of ?_ (by simp <;> omega) _ _ | refine Below.drew ?_)⟩
  | true =>
    go_enter Tryz.func146, Tryz.ntmps146
    go_wp2
    go_ret
    exact ⟨rfl, by repeat (first | exact Below.refl _ _ | refine Below.alloc ?_ (by simp <;> omega) _ | refine below_grow_of ?_ (by simp <;> omega) _ _ | refine Below.drew ?_)⟩

def AscCt : Prop := ∀ (w : World) (v : Value) (l : List Int), RdL FI w w.heap.size v l → l.length ≤ 1000 →
    Calls Tryz.prog 147 #[v] w fun e w' => ∃ v' l', e = .returned v' ∧ RdL FI w' w'.heap.size v' l' ∧ l'.Nodup ∧ (∀ h, h ∈ l' ↔ (h ∈ l ∧ h ≠ 0)) ∧ Below w.heap.size w w'

set_option maxRecDepth 100000 in
set_option maxHeartbeats 8000000 in
theorem Guarded_impl (kA : AscCt) (w : World) (H : HShelf) (x : Shelf) (h : RdShelf w w.heap.size H x) (hs : szLL x.Base.Limbo ≤ 536870912) :
    Calls Tryz.prog 71 #[.agg #[.slice H.Base.Mem.Heap.Bytes.a H.Base.Mem.Heap.Bytes.len H.Base.Mem.Heap.Bytes.cap, .slice H.Base.Mem.Heap.Class.a H.Base.Mem.Heap.Class.len H.Base.Mem.Heap.Class.cap, .slice H.Base.Mem.Lists.Global.a H.Base.Mem.Lists.Global.len H.Base.Mem.Lists.Global.cap, .slice H.Base.Mem.Lists.Own.a H.Base.Mem.Lists.Own.len H.Base.Mem.Lists.Own.cap, .int .i64 x.Base.Clock.Epoch, .slice H.Base.Clock.Pins.a H.Base.Clock.Pins.len H.Base.Clock.Pins.cap, .slice H.Base.Limbo.a H.Base.Limbo.len H.Base.Limbo.cap, .slice H.Base.Haz.a H.Base.Haz.len H.Base.Haz.cap, .slice H.Cells.a H.Cells.len H.Cells.cap, .slice H.Jobs.a H.Jobs.len H.Jobs.cap, .slice H.Todo.a H.Todo.len H.Todo.cap, .slice H.Log.a H.Log.len H.Log.cap, .int .i64 x.Serial]] w fun e w' => ∃ v' l', e = .returned v' ∧ RdL FI w' w'.heap.size v' l' ∧ l'.Nodup ∧ (∀ v, v ∈ l' ↔ v ∈ guardedS x) ∧ Below w.heap.size w w' := by
  have kB := fun (W : World) (hW : Below w.heap.size w W) => ShelfOk_impl W H x (rdShelf_up h hW) hs
  have rJ := h.Jobs
  have rP := h.Base.Clock.Pins
  clear h
  cases hok : shelfOkB x with
  | false =>
    have HN := Hid.mk_ (show guardedS x = [] from if_neg (by rw [hok]; decide))
    have ba : Box ((w.alloc (.cells #[.slice H.Base.Mem.Heap.Bytes.a H.Base.Mem.Heap.Bytes.len H.Base.Mem.Heap.Bytes.cap, .slice H.Base.Mem.Heap.Class.a H.Base.Mem.Heap.Class.len H.Base.Mem.Heap.Class.cap, .slice H.Base.Mem.Lists.Global.a H.Base.Mem.Lists.Global.len H.Base.Mem.Lists.Global.cap, .slice H.Base.Mem.Lists.Own.a H.Base.Mem.Lists.Own.len H.Base.Mem.Lists.Own.cap, .int .i64 x.Base.Clock.Epoch, .slice H.Base.Clock.Pins.a H.Base.Clock.Pins.len H.Base.Clock.Pins.cap, .slice H.Base.Limbo.a H.Base.Limbo.len H.Base.Limbo.cap, .slice H.Base.Haz.a H.Base.Haz.len H.Base.Haz.cap, .slice H.Cells.a H.Cells.len H.Cells.cap, .slice H.Jobs.a H.Jobs.len H.Jobs.cap, .slice H.Todo.a H.Todo.len H.Todo.cap, .slice H.Log.a H.Log.len H.Log.cap, .int .i64 x.Serial] 69)).alloc (.cells #[] 3)) w.heap.size [.slice H.Base.Mem.Heap.Bytes.a H.Base.Mem.Heap.Bytes.len H.Base.Mem.Heap.Bytes.cap, .slice H.Base.Mem.Heap.Class.a H.Base.Mem.Heap.Class.len H.Base.Mem.Heap.Class.cap, .slice H.Base.Mem.Lists.Global.a H.Base.Mem.Lists.Global.len H.Base.Mem.Lists.Global.cap, .slice H.Base.Mem.Lists.Own.a H.Base.Mem.Lists.Own.len H.Base.Mem.Lists.Own.cap, .int .i64 x.Base.Clock.Epoch, .slice H.Base.Clock.Pins.a H.Base.Clock.Pins.len H.Base.Clock.Pins.cap, .slice H.Base.Limbo.a H.Base.Limbo.len H.Base.Limbo.cap, .slice H.Base.Haz.a H.Base.Haz.len H.Base.Haz.cap, .slice H.Cells.a H.Cells.len H.Cells.cap, .slice H.Jobs.a H.Jobs.len H.Jobs.cap, .slice H.Todo.a H.Todo.len H.Todo.cap, .slice H.Log.a H.Log.len H.Log.cap, .int .i64 x.Serial] := (Box.new w #[.slice H.Base.Mem.Heap.Bytes.a H.Base.Mem.Heap.Bytes.len H.Base.Mem.Heap.Bytes.cap, .slice H.Base.Mem.Heap.Class.a H.Base.Mem.Heap.Class.len H.Base.Mem.Heap.Class.cap, .slice H.Base.Mem.Lists.Global.a H.Base.Mem.Lists.Global.len H.Base.Mem.Lists.Global.cap, .slice H.Base.Mem.Lists.Own.a H.Base.Mem.Lists.Own.len H.Base.Mem.Lists.Own.cap, .int .i64 x.Base.Clock.Epoch, .slice H.Base.Clock.Pins.a H.Base.Clock.Pins.len H.Base.Clock.Pins.cap, .slice H.Base.Limbo.a H.Base.Limbo.len H.Base.Limbo.cap, .slice H.Base.Haz.a H.Base.Haz.len H.Base.Haz.cap, .slice H.Cells.a H.Cells.len H.Cells.cap, .slice H.Jobs.a H.Jobs.len H.Jobs.cap, .slice H.Todo.a H.Todo.len H.Todo.cap, .slice H.Log.a H.Log.len H.Log.cap, .int .i64 x.Serial] 69).alloc _
    have hB : Below w.heap.size w ((w.alloc (.cells #[.slice H.Base.Mem.Heap.Bytes.a H.Base.Mem.Heap.Bytes.len H.Base.Mem.Heap.Bytes.cap, .slice H.Base.Mem.Heap.Class.a H.Base.Mem.Heap.Class.len H.Base.Mem.Heap.Class.cap, .slice H.Base.Mem.Lists.Global.a H.Base.Mem.Lists.Global.len H.Base.Mem.Lists.Global.cap, .slice H.Base.Mem.Lists.Own.a H.Base.Mem.Lists.Own.len H.Base.Mem.Lists.Own.cap, .int .i64 x.Base.Clock.Epoch, .slice H.Base.Clock.Pins.a H.Base.Clock.Pins.len H.Base.Clock.Pins.cap, .slice H.Base.Limbo.a H.Base.Limbo.len H.Base.Limbo.cap, .slice H.Base.Haz.a H.Base.Haz.len H.Base.Haz.cap, .slice H.Cells.a H.Cells.len H.Cells.cap, .slice H.Jobs.a H.Jobs.len H.Jobs.cap, .slice H.Todo.a H.Todo.len H.Todo.cap, .slice H.Log.a H.Log.len H.Log.cap, .int .i64 x.Serial] 69)).alloc (.cells #[] 3)) := by repeat (first | exact Below.refl _ _ | refine Below.alloc ?_ (by simp <;> omega) _ | refine below_grow_of ?_ (by simp <;> omega) _ _ | refine Below.drew ?_ | refine below_drewN ?_ _)
    have o0 : OwL FI 3 ((w.alloc (.cells #[.slice H.Base.Mem.Heap.Bytes.a H.Base.Mem.Heap.Bytes.len H.Base.Mem.Heap.Bytes.cap, .slice H.Base.Mem.Heap.Class.a H.Base.Mem.Heap.Class.len H.Base.Mem.Heap.Class.cap, .slice H.Base.Mem.Lists.Global.a H.Base.Mem.Lists.Global.len H.Base.Mem.Lists.Global.cap, .slice H.Base.Mem.Lists.Own.a H.Base.Mem.Lists.Own.len H.Base.Mem.Lists.Own.cap, .int .i64 x.Base.Clock.Epoch, .slice H.Base.Clock.Pins.a H.Base.Clock.Pins.len H.Base.Clock.Pins.cap, .slice H.Base.Limbo.a H.Base.Limbo.len H.Base.Limbo.cap, .slice H.Base.Haz.a H.Base.Haz.len H.Base.Haz.cap, .slice H.Cells.a H.Cells.len H.Cells.cap, .slice H.Jobs.a H.Jobs.len H.Jobs.cap, .slice H.Todo.a H.Todo.len H.Todo.cap, .slice H.Log.a H.Log.len H.Log.cap, .int .i64 x.Serial] 69)).alloc (.cells #[] 3)) (.slice (some ⟨w.heap.size + 1, 0, none⟩) 0 0) [] := by
      have a := OwL.lit FI [] #[] rfl (by decide) (w.alloc (.cells #[.slice H.Base.Mem.Heap.Bytes.a H.Base.Mem.Heap.Bytes.len H.Base.Mem.Heap.Bytes.cap, .slice H.Base.Mem.Heap.Class.a H.Base.Mem.Heap.Class.len H.Base.Mem.Heap.Class.cap, .slice H.Base.Mem.Lists.Global.a H.Base.Mem.Lists.Global.len H.Base.Mem.Lists.Global.cap, .slice H.Base.Mem.Lists.Own.a H.Base.Mem.Lists.Own.len H.Base.Mem.Lists.Own.cap, .int .i64 x.Base.Clock.Epoch, .slice H.Base.Clock.Pins.a H.Base.Clock.Pins.len H.Base.Clock.Pins.cap, .slice H.Base.Limbo.a H.Base.Limbo.len H.Base.Limbo.cap, .slice H.Base.Haz.a H.Base.Haz.len H.Base.Haz.cap, .slice H.Cells.a H.Cells.len H.Cells.cap, .slice H.Jobs.a H.Jobs.len H.Jobs.cap, .slice H.Todo.a H.Todo.len H.Todo.cap, .slice H.Log.a H.Log.len H.Log.cap, .int .i64 x.Serial] 69)) 3
      rwa [World.size_alloc] at a
    go_enter Tryz.func71, Tryz.ntmps71
    go_wp2_with fail
    generalize hW0 : ((w.alloc (.cells #[.slice H.Base.Mem.Heap.Bytes.a H.Base.Mem.Heap.Bytes.len H.Base.Mem.Heap.Bytes.cap, .slice H.Base.Mem.Heap.Class.a H.Base.Mem.Heap.Class.len H.Base.Mem.Heap.Class.cap, .slice H.Base.Mem.Lists.Global.a H.Base.Mem.Lists.Global.len H.Base.Mem.Lists.Global.cap, .slice H.Base.Mem.Lists.Own.a H.Base.Mem.Lists.Own.len H.Base.Mem.Lists.Own.cap, .int .i64 x.Base.Clock.Epoch, .slice H.Base.Clock.Pins.a H.Base.Clock.Pins.len H.Base.Clock.Pins.cap, .slice H.Base.Limbo.a H.Base.Limbo.len H.Base.Limbo.cap, .slice H.Base.Haz.a H.Base.Haz.len H.Base.Haz.cap, .slice H.Cells.a H.Cells.len H.Cells.cap, .slice H.Jobs.a H.Jobs.len H.Jobs.cap, .slice H.Todo.a H.Todo.len H.Todo.cap, .slice H.Log.a H.Log.len H.Log.cap, .int .i64 x.Serial] 69)).alloc (.cells #[] 3)) = w0 at o0 ba hB ⊢
    clear hW0
    refine (kB _ hB).mono ?_
    rw [hok]
    rintro e w1 ⟨rfl, hb⟩
    replace o0 := o0.keep (fun g hg => hb.block g (foot_lt o0 g (mem_foot1.2 hg)))
    replace ba := ba.below hb
    replace hB := hB.trans (hb.mono hB.size)
    clear hb kB
    go_wp2_with fail
    go_ret
    exact ⟨_, [], rfl, o0.rd', List.nodup_nil, fun v => by rw [HN.out], hB⟩
  | true =>
    have HN := Hid.mk_ (show guardedS x = gsTo x 3 from if_pos hok)
    have HM := Hid.mk_ (fun v => gi_gs hok v)
    have lJ := shelf_jobs hok
    have lP := shelf_pins hok
    obtain ⟨Aj, nj, cj, hvj⟩ : ∃ A n c, H.Jobs = ⟨A, n, c⟩ := ⟨_, _, _, rfl⟩
    rw [hvj] at rJ kB ⊢
    clear hvj
    simp only [SV.val] at rJ
    obtain rfl : nj = 3 := (RdL.len_ rJ).1.trans lJ
    show Calls Tryz.prog 71 #[.agg #[.slice H.Base.Mem.Heap.Bytes.a H.Base.Mem.Heap.Bytes.len H.Base.Mem.Heap.Bytes.cap, .slice H.Base.Mem.Heap.Class.a H.Base.Mem.Heap.Class.len H.Base.Mem.Heap.Class.cap, .slice H.Base.Mem.Lists.Global.a H.Base.Mem.Lists.Global.len H.Base.Mem.Lists.Global.cap, .slice H.Base.Mem.Lists.Own.a H.Base.Mem.Lists.Own.len H.Base.Mem.Lists.Own.cap, .int .i64 x.Base.Clock.Epoch, .slice H.Base.Clock.Pins.a H.Base.Clock.Pins.len H.Base.Clock.Pins.cap, .slice H.Base.Limbo.a H.Base.Limbo.len H.Base.Limbo.cap, .slice H.Base.Haz.a H.Base.Haz.len H.Base.Haz.cap, .slice H.Cells.a H.Cells.len H.Cells.cap, .slice Aj 3 cj, .slice H.Todo.a H.Todo.len H.Todo.cap, .slice H.Log.a H.Log.len H.Log.cap, .int .i64 x.Serial]] _ _
    have ba : Box ((w.alloc (.cells #[.slice H.Base.Mem.Heap.Bytes.a H.Base.Mem.Heap.Bytes.len H.Base.Mem.Heap.Bytes.cap, .slice H.Base.Mem.Heap.Class.a H.Base.Mem.Heap.Class.len H.Base.Mem.Heap.Class.cap, .slice H.Base.Mem.Lists.Global.a H.Base.Mem.Lists.Global.len H.Base.Mem.Lists.Global.cap, .slice H.Base.Mem.Lists.Own.a H.Base.Mem.Lists.Own.len H.Base.Mem.Lists.Own.cap, .int .i64 x.Base.Clock.Epoch, .slice H.Base.Clock.Pins.a H.Base.Clock.Pins.len H.Base.Clock.Pins.cap, .slice H.Base.Limbo.a H.Base.Limbo.len H.Base.Limbo.cap, .slice H.Base.Haz.a H.Base.Haz.len H.Base.Haz.cap, .slice H.Cells.a H.Cells.len H.Cells.cap, .slice Aj 3 cj, .slice H.Todo.a H.Todo.len H.Todo.cap, .slice H.Log.a H.Log.len H.Log.cap, .int .i64 x.Serial] 69)).alloc (.cells #[] 3)) w.heap.size [.slice H.Base.Mem.Heap.Bytes.a H.Base.Mem.Heap.Bytes.len H.Base.Mem.Heap.Bytes.cap, .slice H.Base.Mem.Heap.Class.a H.Base.Mem.Heap.Class.len H.Base.Mem.Heap.Class.cap, .slice H.Base.Mem.Lists.Global.a H.Base.Mem.Lists.Global.len H.Base.Mem.Lists.Global.cap, .slice H.Base.Mem.Lists.Own.a H.Base.Mem.Lists.Own.len H.Base.Mem.Lists.Own.cap, .int .i64 x.Base.Clock.Epoch, .slice H.Base.Clock.Pins.a H.Base.Clock.Pins.len H.Base.Clock.Pins.cap, .slice H.Base.Limbo.a H.Base.Limbo.len H.Base.Limbo.cap, .slice H.Base.Haz.a H.Base.Haz.len H.Base.Haz.cap, .slice H.Cells.a H.Cells.len H.Cells.cap, .slice Aj 3 cj, .slice H.Todo.a H.Todo.len H.Todo.cap, .slice H.Log.a H.Log.len H.Log.cap, .int .i64 x.Serial] := (Box.new w #[.slice H.Base.Mem.Heap.Bytes.a H.Base.Mem.Heap.Bytes.len H.Base.Mem.Heap.Bytes.cap, .slice H.Base.Mem.Heap.Class.a H.Base.Mem.Heap.Class.len H.Base.Mem.Heap.Class.cap, .slice H.Base.Mem.Lists.Global.a H.Base.Mem.Lists.Global.len H.Base.Mem.Lists.Global.cap, .slice H.Base.Mem.Lists.Own.a H.Base.Mem.Lists.Own.len H.Base.Mem.Lists.Own.cap, .int .i64 x.Base.Clock.Epoch, .slice H.Base.Clock.Pins.a H.Base.Clock.Pins.len H.Base.Clock.Pins.cap, .slice H.Base.Limbo.a H.Base.Limbo.len H.Base.Limbo.cap, .slice H.Base.Haz.a H.Base.Haz.len H.Base.Haz.cap, .slice H.Cells.a H.Cells.len H.Cells.cap, .slice Aj 3 cj, .slice H.Todo.a H.Todo.len H.Todo.cap, .slice H.Log.a H.Log.len H.Log.cap, .int .i64 x.Serial] 69).alloc _
    have hB : Below w.heap.size w ((w.alloc (.cells #[.slice H.Base.Mem.Heap.Bytes.a H.Base.Mem.Heap.Bytes.len H.Base.Mem.Heap.Bytes.cap, .slice H.Base.Mem.Heap.Class.a H.Base.Mem.Heap.Class.len H.Base.Mem.Heap.Class.cap, .slice H.Base.Mem.Lists.Global.a H.Base.Mem.Lists.Global.len H.Base.Mem.Lists.Global.cap, .slice H.Base.Mem.Lists.Own.a H.Base.Mem.Lists.Own.len H.Base.Mem.Lists.Own.cap, .int .i64 x.Base.Clock.Epoch, .slice H.Base.Clock.Pins.a H.Base.Clock.Pins.len H.Base.Clock.Pins.cap, .slice H.Base.Limbo.a H.Base.Limbo.len H.Base.Limbo.cap, .slice H.Base.Haz.a H.Base.Haz.len H.Base.Haz.cap, .slice H.Cells.a H.Cells.len H.Cells.cap, .slice Aj 3 cj, .slice H.Todo.a H.Todo.len H.Todo.cap, .slice H.Log.a H.Log.len H.Log.cap, .int .i64 x.Serial] 69)).alloc (.cells #[] 3)) := by repeat (first | exact Below.refl _ _ | refine Below.alloc ?_ (by simp <;> omega) _ | refine below_grow_of ?_ (by simp <;> omega) _ _ | refine Below.drew ?_ | refine below_drewN ?_ _)
    have o0 : OwL FI 3 ((w.alloc (.cells #[.slice H.Base.Mem.Heap.Bytes.a H.Base.Mem.Heap.Bytes.len H.Base.Mem.Heap.Bytes.cap, .slice H.Base.Mem.Heap.Class.a H.Base.Mem.Heap.Class.len H.Base.Mem.Heap.Class.cap, .slice H.Base.Mem.Lists.Global.a H.Base.Mem.Lists.Global.len H.Base.Mem.Lists.Global.cap, .slice H.Base.Mem.Lists.Own.a H.Base.Mem.Lists.Own.len H.Base.Mem.Lists.Own.cap, .int .i64 x.Base.Clock.Epoch, .slice H.Base.Clock.Pins.a H.Base.Clock.Pins.len H.Base.Clock.Pins.cap, .slice H.Base.Limbo.a H.Base.Limbo.len H.Base.Limbo.cap, .slice H.Base.Haz.a H.Base.Haz.len H.Base.Haz.cap, .slice H.Cells.a H.Cells.len H.Cells.cap, .slice Aj 3 cj, .slice H.Todo.a H.Todo.len H.Todo.cap, .slice H.Log.a H.Log.len H.Log.cap, .int .i64 x.Serial] 69)).alloc (.cells #[] 3)) (.slice (some ⟨w.heap.size + 1, 0, none⟩) 0 0) [] := by
      have a := OwL.lit FI [] #[] rfl (by decide) (w.alloc (.cells #[.slice H.Base.Mem.Heap.Bytes.a H.Base.Mem.Heap.Bytes.len H.Base.Mem.Heap.Bytes.cap, .slice H.Base.Mem.Heap.Class.a H.Base.Mem.Heap.Class.len H.Base.Mem.Heap.Class.cap, .slice H.Base.Mem.Lists.Global.a H.Base.Mem.Lists.Global.len H.Base.Mem.Lists.Global.cap, .slice H.Base.Mem.Lists.Own.a H.Base.Mem.Lists.Own.len H.Base.Mem.Lists.Own.cap, .int .i64 x.Base.Clock.Epoch, .slice H.Base.Clock.Pins.a H.Base.Clock.Pins.len H.Base.Clock.Pins.cap, .slice H.Base.Limbo.a H.Base.Limbo.len H.Base.Limbo.cap, .slice H.Base.Haz.a H.Base.Haz.len H.Base.Haz.cap, .slice H.Cells.a H.Cells.len H.Cells.cap, .slice Aj 3 cj, .slice H.Todo.a H.Todo.len H.Todo.cap, .slice H.Log.a H.Log.len H.Log.cap, .int .i64 x.Serial] 69)) 3
      rwa [World.size_alloc] at a
    go_enter Tryz.func71, Tryz.ntmps71
    go_wp2_with fail
    generalize hW0 : ((w.alloc (.cells #[.slice H.Base.Mem.Heap.Bytes.a H.Base.Mem.Heap.Bytes.len H.Base.Mem.Heap.Bytes.cap, .slice H.Base.Mem.Heap.Class.a H.Base.Mem.Heap.Class.len H.Base.Mem.Heap.Class.cap, .slice H.Base.Mem.Lists.Global.a H.Base.Mem.Lists.Global.len H.Base.Mem.Lists.Global.cap, .slice H.Base.Mem.Lists.Own.a H.Base.Mem.Lists.Own.len H.Base.Mem.Lists.Own.cap, .int .i64 x.Base.Clock.Epoch, .slice H.Base.Clock.Pins.a H.Base.Clock.Pins.len H.Base.Clock.Pins.cap, .slice H.Base.Limbo.a H.Base.Limbo.len H.Base.Limbo.cap, .slice H.Base.Haz.a H.Base.Haz.len H.Base.Haz.cap, .slice H.Cells.a H.Cells.len H.Cells.cap, .slice Aj 3 cj, .slice H.Todo.a H.Todo.len H.Todo.cap, .slice H.Log.a H.Log.len H.Log.cap, .int .i64 x.Serial] 69)).alloc (.cells #[] 3)) = w0 at o0 ba hB ⊢
    clear hW0
    refine (kB _ hB).mono ?_
    rw [hok]
    rintro e w1 ⟨rfl, hb⟩
    replace o0 := o0.keep (fun g hg => hb.block g (foot_lt o0 g (mem_foot1.2 hg)))
    replace ba := ba.below hb
    replace hB := hB.trans (hb.mono hB.size)
    clear hb kB
    clear hok
    have q_a_9 := ba.cell 9 _ rfl
    go_wp2_with fail
    go_loopw [3, 15] (fun o i wr => ∃ k : Nat, k ≤ 3 ∧ i = .int .i64 k ∧ OwL FI 3 wr o (giTo x k) ∧ (∀ g ∈ foot1 o, w.heap.size < g) ∧ Box wr w.heap.size [.slice H.Base.Mem.Heap.Bytes.a H.Base.Mem.Heap.Bytes.len H.Base.Mem.Heap.Bytes.cap, .slice H.Base.Mem.Heap.Class.a H.Base.Mem.Heap.Class.len H.Base.Mem.Heap.Class.cap, .slice H.Base.Mem.Lists.Global.a H.Base.Mem.Lists.Global.len H.Base.Mem.Lists.Global.cap, .slice H.Base.Mem.Lists.Own.a H.Base.Mem.Lists.Own.len H.Base.Mem.Lists.Own.cap, .int .i64 x.Base.Clock.Epoch, .slice H.Base.Clock.Pins.a H.Base.Clock.Pins.len H.Base.Clock.Pins.cap, .slice H.Base.Limbo.a H.Base.Limbo.len H.Base.Limbo.cap, .slice H.Base.Haz.a H.Base.Haz.len H.Base.Haz.cap, .slice H.Cells.a H.Cells.len H.Cells.cap, .slice Aj 3 cj, .slice H.Todo.a H.Todo.len H.Todo.cap, .slice H.Log.a H.Log.len H.Log.cap, .int .i64 x.Serial] ∧ Below w.heap.size w wr) (fun _ i _ => 3 - (intOf i).toNat)
    case atStart => exact ⟨0, Nat.zero_le _, rfl, o0, by simp [foot1, Value.ownBlock], ba, hB⟩
    case round =>
      clear o0 ba hB q_a_9
      obtain ⟨k, hk, rfl, ho, hf, ba, hB⟩ := hrel
      have hln := giTo_len x k
      by_cases hlt : k < 3
      · have hkj : k < x.Jobs.length := by omega
        have hkp : k < x.Base.Clock.Pins.length := by omega
        have HS : Hid (giTo x (k + 1) = if giAt x k = true then giTo x k ++ [gH x k] else giTo x k) := Hid.mk_ rfl
        have HG : Hid (giAt x k = gI (x.Jobs.getD k zeroJob) (x.Base.Clock.Pins.getD k zPin)) := Hid.mk_ rfl
        have HH : Hid (gH x k = (x.Jobs.getD k zeroJob).H) := Hid.mk_ rfl
        replace rJ := rd_up rJ hB
        replace rP := rd_up rP hB
        have q_a_5 := ba.cell 5 _ rfl
        have q_a_9 := ba.cell 9 _ rfl
        have zb := ba.lt
        obtain ⟨Ap, np, cp, hvp⟩ : ∃ A n c, H.Base.Clock.Pins = ⟨A, n, c⟩ := ⟨_, _, _, rfl⟩
        rw [hvp] at rP q_a_5
        clear hvp
        simp only [SV.val] at rP q_a_5
        obtain ⟨g, off, cap', he, hg, _, _, hc⟩ := rJ.range_ (at_of zeroJob hkj)
        injection he with he1 he2 he3
        clear he2
        subst he1 he3
        obtain ⟨g2, off2, cap2, he, hg2, _, _, hc2⟩ := rP.at_ (at_of zPin hkp)
        injection he with he1 he2 he3
        rw [lP] at he2
        subst he1 he2 he3
        have hgz : g < wr.heap.size := hg
        have hgz2 : g2 < wr.heap.size := hg2
        generalize x.Jobs.getD k zeroJob = j at *
        generalize x.Base.Clock.Pins.getD k zPin = p at *
        have n0 : wr.cell? ⟨g2, off2 + k * 4, none⟩ = some (.bool p.On) := hc2 0 _ rfl
        have n1 : wr.cell? ⟨g2, off2 + k * 4 + 1, none⟩ = some (.int .i64 p.Epoch) := hc2 1 _ rfl
        have n2 : wr.cell? ⟨g2, off2 + k * 4 + 2, none⟩ = some (.bool p.Marked) := hc2 2 _ rfl
        have n3 : wr.cell? ⟨g2, off2 + k * 4 + 3, none⟩ = some (.int .i64 p.Seen) := hc2 3 _ rfl
        obtain ⟨cs, hcs⟩ : ∃ cs, cs = FJob.enc j := ⟨_, rfl⟩
        have hlen : cs.length = 21 := by rw [hcs]; exact FJob.len j
        have hO : cs.toArray.all (·.oneCell') = true := by rw [hcs]; exact all_oneCell_toArray (FJob.one j)
        have hsz : (Tryz.prog.info? 146).map (·.size) = some cs.toArray.size := by rw [List.size_toArray, hlen]; exact Tryz.sizeJob
        have HS2 := Hid.mk_ (show cs.toArray.size = 21 by rw [List.size_toArray, hlen])
        rw [show (FJob.n : Nat) = 21 from rfl] at hc
        have bj : Box (wr.alloc (.cells cs.toArray 146)) wr.heap.size cs := Box.new wr cs.toArray 146
        have hr : row? wr g (off + k * 21) 21 = some cs := row?_of (by rw [hcs]; exact hc) hlen
        have e1 := Hid.mk_ (show cs[1]? = some (.int .i64 j.Op.Kind) by rw [hcs]; rfl)
        have e6 := Hid.mk_ (show cs[6]? = some (.int .i64 j.Pc) by rw [hcs]; rfl)
        have e17 := Hid.mk_ (show cs[17]? = some (.int .i64 j.H) by rw [hcs]; rfl)
        have kE := fun W => effective_ct p W
        have HP : Hid (gI j p = ((j.Op.Kind == 2 && inB 2 3 j.Pc && (p.On && !p.Marked)) || (j.Op.Kind == 7 && inB 1 2 j.Pc && (p.On && !p.Marked)) || (j.Op.Kind == 3 && j.Pc == 3))) := Hid.mk_ rfl
        rw [← HG.out] at HP
        rw [HH.out] at HS
        clear hcs hc hc2 hlen rJ rP lJ lP hkj hkp HG HH
        generalize giAt x k = gb at *
        generalize j.Op.Kind = kd at *
        generalize j.Pc = pc at *
        generalize j.H = hh at *
        generalize (p.On && !p.Marked) = pb at *
        generalize p.On = on at *
        generalize p.Marked = mk at *
        generalize p.Epoch = pe at *
        generalize p.Seen = ps at *
        by_cases k2 : kd = 2
        · have k2a : (kd == 2) = true := by simpa using k2
          cases hin : inB 2 3 pc with
          | true =>
            cases pb with
            | true =>
              replace HS : Hid (giTo x (k + 1) = giTo x k ++ [hh]) := Hid.mk_ (by rw [HS.out, HP.out]; simp_all)
              go_wp2_with (first | (go_at_call 146; refine (kE _).mono ?_; rintro e w8 ⟨rfl, hb8⟩; replace bj := bj.below hb8; replace ba := (ba.alloc (.cells cs.toArray 146)).below hb8; have ho8 := ho.alloc_ (.cells cs.toArray 146); replace ho := ho8.keep (fun g hg => hb8.block g (foot_lt ho8 g (mem_foot1.2 hg))); clear ho8; replace hB := (hB.alloc hB.size (.cells cs.toArray 146)).trans (hb8.mono (by have := hB.size; simp; omega)); clear hb8 kE hr n0 n1 n2 n3 q_a_5 q_a_9 zb; have p1 := bj.cell 1 _ e1.out; have p6 := bj.cell 6 _ e6.out; have p17 := bj.cell 17 _ e17.out; have hsz8 := hB.size; have hl1 : OwL FI 3 (w8.alloc (.cells #[.int .i64 hh] 3)) (.slice (some ⟨w8.heap.size, 0, none⟩) 1 1) [hh] := OwL.lit FI [hh] #[.int .i64 hh] rfl (by simp [maxLen]) w8 3) | (go_at_call 111; refine (within_ct _ _ _ _).mono ?_; rintro e wq ⟨rfl, rfl⟩) | (at_builtin; refine wpList_append_flat Tryz.stInt rfl _ _ rfl (v := u3) (y := .slice (some ⟨w8.heap.size, 0, none⟩) 1 1) (l := giTo x k) (m := [hh]) rfl rfl (ho.alloc_ _) hl1.rd' (by simp; omega) ?_; intro v' w5 ho' hg' hat') | (have hz9 := hsz; clear hsz; refine wpList_store_new2 rfl 146 (.tmp 5) (.tmp 19) rfl cs.toArray rfl rfl hz9 (by rw [HS2.out]; rfl) hO ?_; clear hz9))
              have hB5 : Below w.heap.size w8 w5 := ((Below.refl _ _).alloc (by first | omega | (simp; omega)) _).grown hg' (by first | omega | (simp; omega)) (fun b hb' => Nat.le_of_lt (hf b (mem_foot1.2 hb')))
              have ba5 := (ba.alloc (.cells #[.int .i64 hh] 3)).chg (Chg.of_grown hg') (fun hm => by have := hf _ hm; omega)
              go_roundw
              case rel =>
                refine ⟨k + 1, by omega, by go_num, by rw [HS.out]; exact ho', fun b hb' => ?_, ba5, hB.trans hB5⟩
                rcases foot_app hat' b hb' with h1 | h1
                · exact hf b h1
                · simp at h1
                  omega
              case measure => simp [intOf]; omega
            | false =>
              replace HS : Hid (giTo x (k + 1) = giTo x k) := Hid.mk_ (by rw [HS.out, HP.out]; simp_all)
              go_wp2_with (first | (go_at_call 146; refine (kE _).mono ?_; rintro e w8 ⟨rfl, hb8⟩; replace bj := bj.below hb8; replace ba := (ba.alloc (.cells cs.toArray 146)).below hb8; have ho8 := ho.alloc_ (.cells cs.toArray 146); replace ho := ho8.keep (fun g hg => hb8.block g (foot_lt ho8 g (mem_foot1.2 hg))); clear ho8; replace hB := (hB.alloc hB.size (.cells cs.toArray 146)).trans (hb8.mono (by have := hB.size; simp; omega)); clear hb8 kE hr n0 n1 n2 n3 q_a_5 q_a_9 zb; have p1 := bj.cell 1 _ e1.out; have p6 := bj.cell 6 _ e6.out; have p17 := bj.cell 17 _ e17.out; have hsz8 := hB.size; have hl1 : OwL FI 3 (w8.alloc (.cells #[.int .i64 hh] 3)) (.slice (some ⟨w8.heap.size, 0, none⟩) 1 1) [hh] := OwL.lit FI [hh] #[.int .i64 hh] rfl (by simp [maxLen]) w8 3) | (go_at_call 111; refine (within_ct _ _ _ _).mono ?_; rintro e wq ⟨rfl, rfl⟩) | (have hz9 := hsz; clear hsz; refine wpList_store_new2 rfl 146 (.tmp 5) (.tmp 19) rfl cs.toArray rfl rfl hz9 (by rw [HS2.out]; rfl) hO ?_; clear hz9))
              go_roundw
              case rel => exact ⟨k + 1, by omega, by go_num, by rw [HS.out]; exact ho, hf, ba, hB⟩
              case measure => simp [intOf]; omega
          | false =>
            replace HS : Hid (giTo x (k + 1) = giTo x k) := Hid.mk_ (by rw [HS.out, HP.out]; simp_all)
            go_wp2_with (first | (go_at_call 146; refine (kE _).mono ?_; rintro e w8 ⟨rfl, hb8⟩; replace bj := bj.below hb8; replace ba := (ba.alloc (.cells cs.toArray 146)).below hb8; have ho8 := ho.alloc_ (.cells cs.toArray 146); replace ho := ho8.keep (fun g hg => hb8.block g (foot_lt ho8 g (mem_foot1.2 hg))); clear ho8; replace hB := (hB.alloc hB.size (.cells cs.toArray 146)).trans (hb8.mono (by have := hB.size; simp; omega)); clear hb8 kE hr n0 n1 n2 n3 q_a_5 q_a_9 zb; have p1 := bj.cell 1 _ e1.out; have p6 := bj.cell 6 _ e6.out; have p17 := bj.cell 17 _ e17.out; have hsz8 := hB.size; have hl1 : OwL FI 3 (w8.alloc (.cells #[.int .i64 hh] 3)) (.slice (some ⟨w8.heap.size, 0, none⟩) 1 1) [hh] := OwL.lit FI [hh] #[.int .i64 hh] rfl (by simp [maxLen]) w8 3) | (go_at_call 111; refine (within_ct _ _ _ _).mono ?_; rintro e wq ⟨rfl, rfl⟩) | (have hz9 := hsz; clear hsz; refine wpList_store_new2 rfl 146 (.tmp 5) (.tmp 19) rfl cs.toArray rfl rfl hz9 (by rw [HS2.out]; rfl) hO ?_; clear hz9))
            go_roundw
            case rel => exact ⟨k + 1, by omega, by go_num, by rw [HS.out]; exact ho, hf, ba, hB⟩
            case measure => simp [intOf]; omega
        · have k2a : (kd == 2) = false := by simpa using k2
          by_cases k7 : kd = 7
          · have k7a : (kd == 7) = true := by simpa using k7
            cases hin : inB 1 2 pc with
            | true =>
              cases pb with
              | true =>
                replace HS : Hid (giTo x (k + 1) = giTo x k ++ [hh]) := Hid.mk_ (by rw [HS.out, HP.out]; simp_all)
                go_wp2_with (first | (go_at_call 146; refine (kE _).mono ?_; rintro e w8 ⟨rfl, hb8⟩; replace bj := bj.below hb8; replace ba := (ba.alloc (.cells cs.toArray 146)).below hb8; have ho8 := ho.alloc_ (.cells cs.toArray 146); replace ho := ho8.keep (fun g hg => hb8.block g (foot_lt ho8 g (mem_foot1.2 hg))); clear ho8; replace hB := (hB.alloc hB.size (.cells cs.toArray 146)).trans (hb8.mono (by have := hB.size; simp; omega)); clear hb8 kE hr n0 n1 n2 n3 q_a_5 q_a_9 zb; have p1 := bj.cell 1 _ e1.out; have p6 := bj.cell 6 _ e6.out; have p17 := bj.cell 17 _ e17.out; have hsz8 := hB.size; have hl1 : OwL FI 3 (w8.alloc (.cells #[.int .i64 hh] 3)) (.slice (some ⟨w8.heap.size, 0, none⟩) 1 1) [hh] := OwL.lit FI [hh] #[.int .i64 hh] rfl (by simp [maxLen]) w8 3) | (go_at_call 111; refine (within_ct _ _ _ _).mono ?_; rintro e wq ⟨rfl, rfl⟩) | (at_builtin; refine wpList_append_flat Tryz.stInt rfl _ _ rfl (v := u3) (y := .slice (some ⟨w8.heap.size, 0, none⟩) 1 1) (l := giTo x k) (m := [hh]) rfl rfl (ho.alloc_ _) hl1.rd' (by simp; omega) ?_; intro v' w5 ho' hg' hat') | (have hz9 := hsz; clear hsz; refine wpList_store_new2 rfl 146 (.tmp 5) (.tmp 19) rfl cs.toArray rfl rfl hz9 (by rw [HS2.out]; rfl) hO ?_; clear hz9))
                have hB5 : Below w.heap.size w8 w5 := ((Below.refl _ _).alloc (by first | omega | (simp; omega)) _).grown hg' (by first | omega | (simp; omega)) (fun b hb' => Nat.le_of_lt (hf b (mem_foot1.2 hb')))
                have ba5 := (ba.alloc (.cells #[.int .i64 hh] 3)).chg (Chg.of_grown hg') (fun hm => by have := hf _ hm; omega)
                go_roundw
                case rel =>
                  refine ⟨k + 1, by omega, by go_num, by rw [HS.out]; exact ho', fun b hb' => ?_, ba5, hB.trans hB5⟩
                  rcases foot_app hat' b hb' with h1 | h1
                  · exact hf b h1
                  · simp at h1
                    omega
                case measure => simp [intOf]; omega
              | false =>
                replace HS : Hid (giTo x (k + 1) = giTo x k) := Hid.mk_ (by rw [HS.out, HP.out]; simp_all)
                go_wp2_with (first | (go_at_call 146; refine (kE _).mono ?_; rintro e w8 ⟨rfl, hb8⟩; replace bj := bj.below hb8; replace ba := (ba.alloc (.cells cs.toArray 146)).below hb8; have ho8 := ho.alloc_ (.cells cs.toArray 146); replace ho := ho8.keep (fun g hg => hb8.block g (foot_lt ho8 g (mem_foot1.2 hg))); clear ho8; replace hB := (hB.alloc hB.size (.cells cs.toArray 146)).trans (hb8.mono (by have := hB.size; simp; omega)); clear hb8 kE hr n0 n1 n2 n3 q_a_5 q_a_9 zb; have p1 := bj.cell 1 _ e1.out; have p6 := bj.cell 6 _ e6.out; have p17 := bj.cell 17 _ e17.out; have hsz8 := hB.size; have hl1 : OwL FI 3 (w8.alloc (.cells #[.int .i64 hh] 3)) (.slice (some ⟨w8.heap.size, 0, none⟩) 1 1) [hh] := OwL.lit FI [hh] #[.int .i64 hh] rfl (by simp [maxLen]) w8 3) | (go_at_call 111; refine (within_ct _ _ _ _).mono ?_; rintro e wq ⟨rfl, rfl⟩) | (have hz9 := hsz; clear hsz; refine wpList_store_new2 rfl 146 (.tmp 5) (.tmp 19) rfl cs.toArray rfl rfl hz9 (by rw [HS2.out]; rfl) hO ?_; clear hz9))
                go_roundw
                case rel => exact ⟨k + 1, by omega, by go_num, by rw [HS.out]; exact ho, hf, ba, hB⟩
                case measure => simp [intOf]; omega
            | false =>
              replace HS : Hid (giTo x (k + 1) = giTo x k) := Hid.mk_ (by rw [HS.out, HP.out]; simp_all)
              go_wp2_with (first | (go_at_call 146; refine (kE _).mono ?_; rintro e w8 ⟨rfl, hb8⟩; replace bj := bj.below hb8; replace ba := (ba.alloc (.cells cs.toArray 146)).below hb8; have ho8 := ho.alloc_ (.cells cs.toArray 146); replace ho := ho8.keep (fun g hg => hb8.block g (foot_lt ho8 g (mem_foot1.2 hg))); clear ho8; replace hB := (hB.alloc hB.size (.cells cs.toArray 146)).trans (hb8.mono (by have := hB.size; simp; omega)); clear hb8 kE hr n0 n1 n2 n3 q_a_5 q_a_9 zb; have p1 := bj.cell 1 _ e1.out; have p6 := bj.cell 6 _ e6.out; have p17 := bj.cell 17 _ e17.out; have hsz8 := hB.size; have hl1 : OwL FI 3 (w8.alloc (.cells #[.int .i64 hh] 3)) (.slice (some ⟨w8.heap.size, 0, none⟩) 1 1) [hh] := OwL.lit FI [hh] #[.int .i64 hh] rfl (by simp [maxLen]) w8 3) | (go_at_call 111; refine (within_ct _ _ _ _).mono ?_; rintro e wq ⟨rfl, rfl⟩) | (have hz9 := hsz; clear hsz; refine wpList_store_new2 rfl 146 (.tmp 5) (.tmp 19) rfl cs.toArray rfl rfl hz9 (by rw [HS2.out]; rfl) hO ?_; clear hz9))
              go_roundw
              case rel => exact ⟨k + 1, by omega, by go_num, by rw [HS.out]; exact ho, hf, ba, hB⟩
              case measure => simp [intOf]; omega
          · have k7a : (kd == 7) = false := by simpa using k7
            by_cases k3 : kd = 3
            · have k3a : (kd == 3) = true := by simpa using k3
              by_cases e3 : pc = 3
              · have e3a : (pc == 3) = true := by simpa using e3
                replace HS : Hid (giTo x (k + 1) = giTo x k ++ [hh]) := Hid.mk_ (by rw [HS.out, HP.out]; simp_all)
                go_wp2_with (first | (go_at_call 146; refine (kE _).mono ?_; rintro e w8 ⟨rfl, hb8⟩; replace bj := bj.below hb8; replace ba := (ba.alloc (.cells cs.toArray 146)).below hb8; have ho8 := ho.alloc_ (.cells cs.toArray 146); replace ho := ho8.keep (fun g hg => hb8.block g (foot_lt ho8 g (mem_foot1.2 hg))); clear ho8; replace hB := (hB.alloc hB.size (.cells cs.toArray 146)).trans (hb8.mono (by have := hB.size; simp; omega)); clear hb8 kE hr n0 n1 n2 n3 q_a_5 q_a_9 zb; have p1 := bj.cell 1 _ e1.out; have p6 := bj.cell 6 _ e6.out; have p17 := bj.cell 17 _ e17.out; have hsz8 := hB.size; have hl1 : OwL FI 3 (w8.alloc (.cells #[.int .i64 hh] 3)) (.slice (some ⟨w8.heap.size, 0, none⟩) 1 1) [hh] := OwL.lit FI [hh] #[.int .i64 hh] rfl (by simp [maxLen]) w8 3) | (go_at_call 111; refine (within_ct _ _ _ _).mono ?_; rintro e wq ⟨rfl, rfl⟩) | (at_builtin; refine wpList_append_flat Tryz.stInt rfl _ _ rfl (v := u3) (y := .slice (some ⟨w8.heap.size, 0, none⟩) 1 1) (l := giTo x k) (m := [hh]) rfl rfl (ho.alloc_ _) hl1.rd' (by simp; omega) ?_; intro v' w5 ho' hg' hat') | (have hz9 := hsz; clear hsz; refine wpList_store_new2 rfl 146 (.tmp 5) (.tmp 19) rfl cs.toArray rfl rfl hz9 (by rw [HS2.out]; rfl) hO ?_; clear hz9))
                have hB5 : Below w.heap.size w8 w5 := ((Below.refl _ _).alloc (by first | omega | (simp; omega)) _).grown hg' (by first | omega | (simp; omega)) (fun b hb' => Nat.le_of_lt (hf b (mem_foot1.2 hb')))
                have ba5 := (ba.alloc (.cells #[.int .i64 hh] 3)).chg (Chg.of_grown hg') (fun hm => by have := hf _ hm; omega)
                go_roundw
                case rel =>
                  refine ⟨k + 1, by omega, by go_num, by rw [HS.out]; exact ho', fun b hb' => ?_, ba5, hB.trans hB5⟩
                  rcases foot_app hat' b hb' with h1 | h1
                  · exact hf b h1
                  · simp at h1
                    omega
                case measure => simp [intOf]; omega
              · have e3a : (pc == 3) = false := by simpa using e3
                replace HS : Hid (giTo x (k + 1) = giTo x k) := Hid.mk_ (by rw [HS.out, HP.out]; simp_all)
                go_wp2_with (first | (go_at_call 146; refine (kE _).mono ?_; rintro e w8 ⟨rfl, hb8⟩; replace bj := bj.below hb8; replace ba := (ba.alloc (.cells cs.toArray 146)).below hb8; have ho8 := ho.alloc_ (.cells cs.toArray 146); replace ho := ho8.keep (fun g hg => hb8.block g (foot_lt ho8 g (mem_foot1.2 hg))); clear ho8; replace hB := (hB.alloc hB.size (.cells cs.toArray 146)).trans (hb8.mono (by have := hB.size; simp; omega)); clear hb8 kE hr n0 n1 n2 n3 q_a_5 q_a_9 zb; have p1 := bj.cell 1 _ e1.out; have p6 := bj.cell 6 _ e6.out; have p17 := bj.cell 17 _ e17.out; have hsz8 := hB.size; have hl1 : OwL FI 3 (w8.alloc (.cells #[.int .i64 hh] 3)) (.slice (some ⟨w8.heap.size, 0, none⟩) 1 1) [hh] := OwL.lit FI [hh] #[.int .i64 hh] rfl (by simp [maxLen]) w8 3) | (go_at_call 111; refine (within_ct _ _ _ _).mono ?_; rintro e wq ⟨rfl, rfl⟩) | (have hz9 := hsz; clear hsz; refine wpList_store_new2 rfl 146 (.tmp 5) (.tmp 19) rfl cs.toArray rfl rfl hz9 (by rw [HS2.out]; rfl) hO ?_; clear hz9))
                go_roundw
                case rel => exact ⟨k + 1, by omega, by go_num, by rw [HS.out]; exact ho, hf, ba, hB⟩
                case measure => simp [intOf]; omega
            · have k3a : (kd == 3) = false := by simpa using k3
              replace HS : Hid (giTo x (k + 1) = giTo x k) := Hid.mk_ (by rw [HS.out, HP.out]; simp_all)
              go_wp2_with (first | (go_at_call 146; refine (kE _).mono ?_; rintro e w8 ⟨rfl, hb8⟩; replace bj := bj.below hb8; replace ba := (ba.alloc (.cells cs.toArray 146)).below hb8; have ho8 := ho.alloc_ (.cells cs.toArray 146); replace ho := ho8.keep (fun g hg => hb8.block g (foot_lt ho8 g (mem_foot1.2 hg))); clear ho8; replace hB := (hB.alloc hB.size (.cells cs.toArray 146)).trans (hb8.mono (by have := hB.size; simp; omega)); clear hb8 kE hr n0 n1 n2 n3 q_a_5 q_a_9 zb; have p1 := bj.cell 1 _ e1.out; have p6 := bj.cell 6 _ e6.out; have p17 := bj.cell 17 _ e17.out; have hsz8 := hB.size; have hl1 : OwL FI 3 (w8.alloc (.cells #[.int .i64 hh] 3)) (.slice (some ⟨w8.heap.size, 0, none⟩) 1 1) [hh] := OwL.lit FI [hh] #[.int .i64 hh] rfl (by simp [maxLen]) w8 3) | (go_at_call 111; refine (within_ct _ _ _ _).mono ?_; rintro e wq ⟨rfl, rfl⟩) | (have hz9 := hsz; clear hsz; refine wpList_store_new2 rfl 146 (.tmp 5) (.tmp 19) rfl cs.toArray rfl rfl hz9 (by rw [HS2.out]; rfl) hO ?_; clear hz9))
              go_roundw
              case rel => exact ⟨k + 1, by omega, by go_num, by rw [HS.out]; exact ho, hf, ba, hB⟩
              case measure => simp [intOf]; omega
      · have hlk : k = 3 := by omega
        subst hlk
        go_wp2_with fail
        refine (kA _ _ _ ho.rd' (by omega)).mono ?_
        rintro e w5 ⟨v', l', rfl, hr, hnd, hmem, hb⟩
        go_wp2_with fail
        go_ret
        exact ⟨_, l', rfl, hr, hnd, fun v => by rw [hmem, HM.out, HN.out], hB.trans (hb.mono hB.size)⟩
end Go.Proofs.YtkldapdpaldbgaaGreat
namespace Go.Proofs.YtkldapdpaldbgaaGreat
open Go.RowKit
open Go.RowKit Go.Lib Go.Sort

theorem compactTo_sorted (d : Array Int) (hs : ∀ i j, i ≤ j → j < d.size → d[i]! ≤ d[j]!) : ∀ m, m ≤ d.size → (Lib.compactUpTo d m).Nodup ∧ (∀ x, x ∈ Lib.compactUpTo d m ↔ ∃ j, j < m ∧ x = d[j]!)
  | 0, _ => by simp [Lib.compactUpTo]
  | m + 1, hm => by
    obtain ⟨ih1, ih2⟩ := compactTo_sorted d hs m (by omega)
    rw [Lib.compactUpTo_succ]
    by_cases hk : Lib.keeps d m = true
    · rw [if_pos hk]
      have hnew : d[m]! ∉ Lib.compactUpTo d m := by
        intro hmem
        obtain ⟨j, hj, e⟩ := (ih2 _).1 hmem
        have h1 : d[j]! ≤ d[m - 1]! := hs j (m - 1) (by omega) (by omega)
        have h2 : d[m - 1]! ≤ d[m]! := hs (m - 1) m (by omega) (by omega)
        have : d[m]! = d[m - 1]! := by omega
        rw [Lib.keeps_neg (by omega) this] at hk
        cases hk
      refine ⟨?_, fun x => ?_⟩
      · rw [List.nodup_append]
        refine ⟨ih1, by simp, fun a ha b hb e => ?_⟩
        rw [List.mem_singleton] at hb
        exact hnew (hb ▸ e ▸ ha)
      · rw [List.mem_append, List.mem_singleton, ih2]
        constructor
        · rintro (⟨j, hj, e⟩ | e)
          · exact ⟨j, by omega, e⟩
          · exact ⟨m, by omega, e⟩
        · rintro ⟨j, hj, e⟩
          by_cases hjm : j = m
          · exact Or.inr (hjm ▸ e)
          · exact Or.inl ⟨j, by omega, e⟩
    · rw [if_neg hk, List.append_nil]
      refine ⟨ih1, fun x => ?_⟩
      rw [ih2]
      have hm0 : 0 < m := by
        rcases Nat.eq_zero_or_pos m with e | e
        · subst e; exact absurd (Lib.keeps_lt_one d 0 (by omega)) hk
        · exact e
      have he : d[m]! = d[m - 1]! := by
        by_cases e : d[m]! = d[m - 1]!
        · exact e
        · exact absurd (Lib.keeps_pos e) hk
      constructor
      · rintro ⟨j, hj, e⟩
        exact ⟨j, by omega, e⟩
      · rintro ⟨j, hj, e⟩
        by_cases hjm : j = m
        · exact ⟨m - 1, by omega, by rw [e, hjm, he]⟩
        · exact ⟨j, by omega, e⟩
theorem compact_sorted {zs : List Int} (hs : zs.Pairwise (· ≤ ·)) : (Lib.compact zs).Nodup ∧ ∀ x, x ∈ Lib.compact zs ↔ x ∈ zs := by
  have hg : ∀ j, j < zs.length → zs.toArray[j]! = zs.getD j 0 := fun j hj => by simp [List.getD, hj]
  have h := compactTo_sorted zs.toArray (fun i j hij hj => by
    have hj' : j < zs.length := by simpa using hj
    rw [hg i (by omega), hg j hj']
    simp only [List.getD, List.getElem?_eq_getElem hj', List.getElem?_eq_getElem (show i < zs.length by omega), Option.getD_some]
    rcases Nat.lt_or_eq_of_le hij with hlt | he
    · exact List.pairwise_iff_getElem.1 hs i j (by omega) hj' hlt
    · subst he; exact Int.le_refl _) zs.length (by simp)
  refine ⟨h.1, fun x => ?_⟩
  show x ∈ Lib.compactUpTo zs.toArray zs.length ↔ _
  rw [h.2]
  constructor
  · rintro ⟨j, hj, rfl⟩
    rw [hg j hj]
    simp only [List.getD, List.getElem?_eq_getElem hj, Option.getD_some]
    exact List.getElem_mem hj
  · intro hx
    obtain ⟨j, hj, rfl⟩ := List.mem_iff_getElem.1 hx
    exact ⟨j, hj, by rw [hg j hj]; simp [List.getD, hj]⟩
theorem heap_putI {w : World} {g q : Nat} {cur : Array Value} {e : TypeId} {fr : Nat × Nat} (d : Array Int) (hb : w.heap[g]? = some (.cells cur e fr)) :
    (putRow (Value.int .i64) (Sort.ahead w q) g 0 d).heap[g]? = some (.cells (putCells (Value.int .i64) 0 d cur) e fr) := by
  simp [putRow, mapBlock, Sort.ahead, Array.getElem?_modify, hb, onCells]
theorem grownBy_putI {w : World} {g q : Nat} (d : Array Int) : w.grownBy (putRow (Value.int .i64) (Sort.ahead w q) g 0 d) (some g) := by
  refine ⟨rfl, rfl, rfl, by simp [putRow, mapBlock, Sort.ahead], fun k hk hne => ?_⟩
  have : g ≠ k := fun e => hne (by rw [e])
  simp [putRow, mapBlock, Sort.ahead, Array.getElem?_modify, this]
theorem flat_FI : ∀ q : List Int, flat FI q = q.map (Value.int .i64)
  | [] => rfl
  | z :: q => by
    show FI.enc z ++ flat FI q = _
    rw [flat_FI q]
    rfl
def Blk (w : World) (g cap : Nat) (ss : List Int) : Prop := ∃ cur e, w.heap[g]? = some (.cells cur e (0, 0)) ∧ cur.size = cap ∧ cur.toList.take ss.length = ss.map (Value.int .i64) ∧ ss.length ≤ cap
theorem Blk.holds {w : World} {g cap : Nat} {ss : List Int} (h : Blk w g cap ss) : Holds (Value.int .i64) w g 0 ss.toArray := by
  obtain ⟨cur, e, hb, _, ht, _⟩ := h
  exact holds_of_blockI hb ht
theorem Blk.lt {w : World} {g cap : Nat} {ss : List Int} (h : Blk w g cap ss) : g < w.heap.size := by
  obtain ⟨cur, e, hb, _⟩ := h
  exact (Array.getElem?_eq_some_iff.1 hb).1
theorem take_pre {cur : Array Value} {us rest : List Int} (h : (us ++ rest).length ≤ cur.size) : (putCells (Value.int .i64) 0 (us ++ rest).toArray cur).toList.take us.length = us.map (Value.int .i64) := by
  have a := take_putCellsI cur (us ++ rest) h
  have b := congrArg (fun l => l.take us.length) a
  simp only [List.take_take, List.map_append] at b
  rw [Nat.min_eq_left (by simp)] at b
  rw [b, List.take_left' (by simp)]
theorem Blk.put {w : World} {g cap q : Nat} {ss : List Int} (h : Blk w g cap ss) (us rest : List Int) (hl : (us ++ rest).length ≤ cap) : Blk (putRow (Value.int .i64) (Sort.ahead w q) g 0 (us ++ rest).toArray) g cap us := by
  obtain ⟨cur, e, hb, hs, _, _⟩ := h
  exact ⟨_, e, heap_putI _ hb, by simp [putCells, hs], take_pre (by omega), by rw [List.length_append] at hl; omega⟩
theorem Blk.sort {w : World} {g cap n : Nat} {os : Array Obj} {ss : List Int} (h : Blk w g cap ss) (us : List Int) (hl : us.length ≤ cap) : Blk (Go.Sort.grow (putRow (Value.int .i64) (Sort.ahead w n) g 0 us.toArray) os) g cap us := by
  obtain ⟨cur, e, hb, hs, _, _⟩ := h
  exact ⟨_, e, heap_sortedI _ hb, by simp [putCells, hs], take_putCellsI cur us (by omega), hl⟩
theorem Blk.rd {w : World} {g cap : Nat} {ss : List Int} (h : Blk w g cap ss) (hm : cap ≤ maxLen) : RdL FI w w.heap.size (.slice (some ⟨g, 0, none⟩) ss.length cap) ss := by
  have hH := h.holds
  have hg := h.lt
  obtain ⟨_, _, _, _, _, h1⟩ := h
  refine ⟨_, _, rfl, h1, hm, fun _ => ⟨g, 0, rfl, hg, fun j u hu => ?_⟩⟩
  have hf : flat FI ss = ss.map (Value.int .i64) := flat_FI ss
  rw [hf, List.getElem?_map] at hu
  obtain ⟨y, hy, rfl⟩ := Option.map_eq_some_iff.1 hu
  obtain ⟨hj, rfl⟩ := List.getElem?_eq_some_iff.1 hy
  have := (hH j (by simpa using hj)).1
  rw [this]
  simp [hj]

theorem asc1_ct (x : Int) (W : World) : Calls Tryz.prog 225 #[.int .i64 x] W fun e w' => e = .returned (.bool (x == 0)) ∧ w' = W := by
  go_enter Tryz.func225, Tryz.ntmps225
  go_wp2
  go_ret
  exact ⟨rfl, rfl⟩
theorem asc1_gives (x : Int) (W : World) : FnGives Tryz.prog 225 #[] #[Value.int .i64 x] (.bool (x == 0)) W :=
  (asc1_ct x W).mono fun _ _ h => ⟨h.1, 0, h.2⟩
set_option maxHeartbeats 1000000 in
theorem DeleteFunc_nil (A : Option Addr) (c : Nat) (w : World) (hc : c ≤ maxLen) : Calls Tryz.prog 224 #[.slice A 0 c, .func (.func 225) #[] #[]] w fun e w' => e = .returned (.slice A 0 c) ∧ Below w.heap.size w w' := by
  go_enter Tryz.func224, Tryz.ntmps224
  go_wp2_with fail
  refine (IndexFuncInt_ct w (.slice A 0 c) [] ⟨A, c, rfl, Nat.zero_le _, hc, fun h => absurd rfl h⟩ 225 #[] (fun n => n == 0) (fun _ _ => by kernel_rfl) (fun x W hx _ => by simp at hx)).mono ?_
  rw [show idxOf (fun n : Int => n == 0) [] = -1 from rfl]
  rintro e w1 ⟨rfl, hb⟩
  go_wp2
  go_ret
  exact ⟨rfl, hb⟩
theorem own_zero {w : World} {B : Nat} {e : TypeId} {v : Value} (h : w.ownsRow B e 1 v 0 []) : ∃ A c, v = .slice A 0 c ∧ c ≤ maxLen := by
  rcases h.2 with ⟨h0, _⟩ | ⟨g, cap, cur, hv, _, _, _, hc, _, _⟩
  · exact ⟨_, _, h0, by simp [maxLen]⟩
  · exact ⟨_, _, hv, hc⟩
set_option maxRecDepth 100000 in
set_option maxHeartbeats 1000000 in
theorem asc_nil (w : World) (A : Option Addr) (cap0 : Nat) :
    Calls Tryz.prog 147 #[.slice A 0 cap0] w fun e w' => ∃ v' l', e = .returned v' ∧ RdL FI w' w'.heap.size v' l' ∧ l'.Nodup ∧ (∀ h, h ∈ l' ↔ (h ∈ ([] : List Int) ∧ h ≠ 0)) ∧ Below w.heap.size w w' := by
  have kc : Calls Tryz.prog 154 #[.slice A 0 cap0] w fun e w' => ∃ A' c', e = .returned (.slice A' 0 c') ∧ c' ≤ maxLen ∧ Below w.heap.size w w' := by
    cases A with
    | none => exact (Tryz.slices_Clone_int_nil 0 cap0 w).mono fun e w' hh => ⟨none, 0, hh.1, by simp [maxLen], by rw [hh.2]; exact Below.refl _ _⟩
    | some a =>
      refine (Tryz.slices_Clone_int_zero a cap0 w).mono ?_
      rintro e w' ⟨v', he, ho, _, hb⟩
      obtain ⟨A', c', rfl, hc⟩ := own_zero ho
      exact ⟨A', c', he, hc, hb⟩
  go_enter Tryz.func147, Tryz.ntmps147
  go_wp2_with fail
  refine kc.mono ?_
  rintro e w1 ⟨A', c', rfl, hc', hb1⟩
  go_wp2_with fail
  refine (DeleteFunc_nil A' c' w1 hc').mono ?_
  rintro e w2 ⟨rfl, hb2⟩
  go_wp2_with fail
  refine (Tryz.slices_Sort_int_none A' c' w2).mono ?_
  rintro e w3 ⟨rfl, rfl⟩
  go_wp2_with fail
  refine (Tryz.slices_Compact_int_empty A' c' w3).mono ?_
  rintro e w4 ⟨rfl, rfl⟩
  go_wp2_with fail
  go_ret
  exact ⟨_, [], rfl, ⟨A', c', rfl, Nat.zero_le _, hc', fun h => absurd rfl h⟩, List.nodup_nil, fun h => by simp, hb1.trans (hb2.mono hb1.size)⟩
set_option maxRecDepth 100000 in
set_option maxHeartbeats 2000000 in
theorem asc_cons (w : World) (b off cap0 : Nat) (l : List Int) (hn : l.length ≤ 1000) (hc : ∀ j u, (flat FI l)[j]? = some u → w.cell? ⟨b, off + j, none⟩ = some u) :
    Calls Tryz.prog 147 #[.slice (some ⟨b, off, none⟩) l.length cap0] w fun e w' => ∃ v' l', e = .returned v' ∧ RdL FI w' w'.heap.size v' l' ∧ l'.Nodup ∧ (∀ h, h ∈ l' ↔ (h ∈ l ∧ h ≠ 0)) ∧ Below w.heap.size w w' := by
  have hc' : ∀ j, j < l.length → w.cell? ⟨b, off + j, none⟩ = some (.int .i64 (l.getD j 0)) := fun j hj => by
    have hf : flat FI l = l.map (Value.int .i64) := flat_FI l
    exact hc j _ (by rw [hf]; simp [List.getD, hj])
  have kc := Tryz.slices_Clone_int b off l.length cap0 l w (Nat.le_refl _) (by omega) hc'
  obtain ⟨fl, hfl⟩ : ∃ fl, Hid (fl = l.filter fun n : Int => !(n == 0)) := ⟨_, Hid.mk_ rfl⟩
  have hfn : fl.length ≤ l.length := by rw [hfl.out]; exact List.length_filter_le _ _
  obtain ⟨so, hso⟩ : ∃ so, Hid (so = fl.mergeSort fun x y => decide (x ≤ y)) := ⟨_, Hid.mk_ rfl⟩
  have HSL := Hid.mk_ (show so.length = fl.length by rw [hso.out]; exact List.length_mergeSort _)
  have hsle : so.length ≤ fl.length := Nat.le_of_eq HSL.out
  have hsp : so.Perm fl := by rw [hso.out]; exact List.mergeSort_perm _ _
  have hsw : so.Pairwise (· ≤ ·) := by
    rw [hso.out]
    have a := List.pairwise_mergeSort (le := fun x y : Int => decide (x ≤ y)) (fun a b c h1 h2 => by simp at *; omega) (fun a b => by simp; omega) fl
    exact a.imp (fun h => of_decide_eq_true h)
  obtain ⟨hcn, hcm⟩ := compact_sorted hsw
  have hcl : (Lib.compact so).length ≤ so.length := Lib.compact_length_le so
  go_enter Tryz.func147, Tryz.ntmps147
  go_wp2_with fail
  refine kc.mono ?_
  rintro e w1 ⟨v', rfl, hown, hnn, hb1⟩
  rcases hown.2 with ⟨h0, _⟩ | ⟨g, cap, cur, hv', hBg, hblk, hle, hcap, hcs, htk⟩
  · exact absurd h0 hnn
  subst hv'
  have B1 : Blk w1 g cap l := ⟨cur, _, hblk, by omega, by rw [Nat.mul_one] at htk; rw [htk, List.take_length], hle⟩
  clear hown hnn hblk htk kc hc hc'
  go_wp2_with fail
  have kd := Tryz.slices_DeleteFunc (Value.int .i64) (fun _ => rfl) (fun n : Int => n == 0) 225 #[] (fun _ _ => by kernel_rfl) 0 Tryz.zeroValue3 g 0 cap l.toArray w1 (fun W x _ => asc1_gives x W) (fun _ _ _ x _ => asc1_gives x _) B1.holds (by simp; omega) (by simpa using hle)
  simp only [List.size_toArray] at kd
  rw [← hfl.out] at kd
  refine kd.mono ?_
  rintro e w2 ⟨rfl, q2, hw2⟩
  have B2 : Blk w2 g cap fl := by
    rw [hw2]
    exact B1.put fl _ (by simp; omega)
  have G2 : w1.grownBy w2 (some g) := by rw [hw2]; exact grownBy_putI _
  clear hw2 kd
  go_wp2_with fail
  have ks := Tryz.slices_Sort_int g 0 cap fl w2 B2.holds B2.lt (by omega)
  rw [← hso.out] at ks
  refine ks.mono ?_
  rintro e w3 ⟨rfl, n3, os3, hw3⟩
  have B3 : Blk w3 g cap so := by
    rw [hw3]
    exact B2.sort so (by omega)
  have G3 : w2.grownBy w3 (some g) := by rw [hw3]; exact grownBy_sortedI _
  clear hw3 ks
  go_wp2_with fail
  have kp := Tryz.slices_Compact_int g 0 cap so w3 B3.holds (by omega) (by omega)
  rw [HSL.out] at kp
  refine kp.mono ?_
  rintro e w4 ⟨rfl, q4, hw4⟩
  have B4 : Blk w4 g cap (Lib.compact so) := by
    rw [hw4]
    exact B3.put (Lib.compact so) _ (by simp; omega)
  have G4 : w3.grownBy w4 (some g) := by rw [hw4]; exact grownBy_putI _
  clear hw4 kp
  go_wp2_with fail
  go_ret
  have hbw : ∀ a ∈ ([g] : List Nat), w.heap.size ≤ a := fun a ha => by simp at ha; omega
  have hb2 : Below w.heap.size w w2 := hb1.grown G2 hb1.size (fun b hb' => by simp at hb'; omega)
  have hb3 : Below w.heap.size w w3 := hb2.grown G3 hb2.size (fun b hb' => by simp at hb'; omega)
  have hb4 : Below w.heap.size w w4 := hb3.grown G4 hb3.size (fun b hb' => by simp at hb'; omega)
  exact ⟨_, Lib.compact so, rfl, B4.rd hcap, hcn, fun x => by rw [hcm, hsp.mem_iff, hfl.out, List.mem_filter]; simp, hb4⟩
theorem ascending_ok : AscCt := by
  intro w v l h hn
  obtain ⟨A, cap0, hv, h1, h2, h3⟩ := id h
  subst hv
  by_cases hl : l = []
  · subst hl
    exact asc_nil w A cap0
  · obtain ⟨b, off, hA, hbl, hc⟩ := h3 hl
    subst hA
    exact asc_cons w b off cap0 l hn hc
end Go.Proofs.YtkldapdpaldbgaaGreat
namespace Go.Proofs.YtkldapdpaldbgaaGreat
open Go.RowKit

set_option maxRecDepth 100000 in
set_option maxHeartbeats 1000000 in
theorem SafeNow1_impl (w : World) (H : HShelf) (x : Shelf) (i : Int) (b : Nat) (hb : Box w b [.slice H.Base.Mem.Heap.Bytes.a H.Base.Mem.Heap.Bytes.len H.Base.Mem.Heap.Bytes.cap, .slice H.Base.Mem.Heap.Class.a H.Base.Mem.Heap.Class.len H.Base.Mem.Heap.Class.cap, .slice H.Base.Mem.Lists.Global.a H.Base.Mem.Lists.Global.len H.Base.Mem.Lists.Global.cap, .slice H.Base.Mem.Lists.Own.a H.Base.Mem.Lists.Own.len H.Base.Mem.Lists.Own.cap, .int .i64 x.Base.Clock.Epoch, .slice H.Base.Clock.Pins.a H.Base.Clock.Pins.len H.Base.Clock.Pins.cap, .slice H.Base.Limbo.a H.Base.Limbo.len H.Base.Limbo.cap, .slice H.Base.Haz.a H.Base.Haz.len H.Base.Haz.cap, .slice H.Cells.a H.Cells.len H.Cells.cap, .slice H.Jobs.a H.Jobs.len H.Jobs.cap, .slice H.Todo.a H.Todo.len H.Todo.cap, .slice H.Log.a H.Log.len H.Log.cap, .int .i64 x.Serial]) (h : RdMem w w.heap.size H.Base.Mem x.Base.Mem) (hs : shapeB x.Base.Mem.Heap = true) :
    Calls Tryz.prog 72 #[.int .i64 i, .pointer (some ⟨b, 0, none⟩)] w fun e w' => e = .returned (.bool (!liveB x.Base.Mem i)) ∧ Below w.heap.size w w' := by
  have k := fun (W : World) (hW : Below w.heap.size w W) => isLive_impl W H.Base.Mem x.Base.Mem i (rdMem_up h hW) hs
  clear h hs
  generalize liveB x.Base.Mem i = lv at k
  have q0 := hb.cell 0 _ rfl
  have q1 := hb.cell 1 _ rfl
  have q2 := hb.cell 2 _ rfl
  have q3 := hb.cell 3 _ rfl
  clear hb
  go_enter Tryz.func72, Tryz.ntmps72
  go_wp2_with fail
  refine (k _ (Below.refl _ _)).mono ?_
  rintro e w1 ⟨rfl, hb1⟩
  go_wp2
  go_ret
  exact ⟨rfl, hb1⟩
theorem any_not_all_mem {l l' : List Int} (p : Int → Bool) (hm : ∀ v, v ∈ l' ↔ v ∈ l) : (!(l'.any fun v => !p v)) = l.all p := by
  rw [Bool.eq_iff_iff]
  simp only [Bool.not_eq_true', List.any_eq_false, Bool.not_eq_true', Bool.not_eq_false, List.all_eq_true]
  exact ⟨fun a v hv => a v ((hm v).2 hv), fun a v hv => a v ((hm v).1 hv)⟩
set_option maxRecDepth 100000 in
set_option maxHeartbeats 2000000 in
theorem SafeNow_impl (w : World) (H : HShelf) (x : Shelf) (h : RdShelf w w.heap.size H x) (hs : szLL x.Base.Limbo ≤ 536870912) :
    Calls Tryz.prog 23 #[.agg #[.slice H.Base.Mem.Heap.Bytes.a H.Base.Mem.Heap.Bytes.len H.Base.Mem.Heap.Bytes.cap, .slice H.Base.Mem.Heap.Class.a H.Base.Mem.Heap.Class.len H.Base.Mem.Heap.Class.cap, .slice H.Base.Mem.Lists.Global.a H.Base.Mem.Lists.Global.len H.Base.Mem.Lists.Global.cap, .slice H.Base.Mem.Lists.Own.a H.Base.Mem.Lists.Own.len H.Base.Mem.Lists.Own.cap, .int .i64 x.Base.Clock.Epoch, .slice H.Base.Clock.Pins.a H.Base.Clock.Pins.len H.Base.Clock.Pins.cap, .slice H.Base.Limbo.a H.Base.Limbo.len H.Base.Limbo.cap, .slice H.Base.Haz.a H.Base.Haz.len H.Base.Haz.cap, .slice H.Cells.a H.Cells.len H.Cells.cap, .slice H.Jobs.a H.Jobs.len H.Jobs.cap, .slice H.Todo.a H.Todo.len H.Todo.cap, .slice H.Log.a H.Log.len H.Log.cap, .int .i64 x.Serial]] w fun e w' => e = .returned (.bool (safeB x)) ∧ Below w.heap.size w w' := by
  have k0 := fun (W : World) (hW : Below w.heap.size w W) => ShelfOk_impl W H x (rdShelf_up h hW) hs
  have k1 := fun (W : World) (hW : Below w.heap.size w W) => Guarded_impl ascending_ok W H x (rdShelf_up h hW) hs
  have HV : Hid (safeB x = (shelfOkB x && (guardedS x).all (liveB x.Base.Mem))) := Hid.mk_ rfl
  have HSH := Hid.mk_ (fun e : shelfOkB x = true => shelf_shape e)
  generalize shelfOkB x = c0 at k0 HV HSH
  cases c0 with
  | false =>
    replace HV : Hid (safeB x = false) := Hid.mk_ HV.out
    have B_a : Box (w.alloc (.cells #[.slice H.Base.Mem.Heap.Bytes.a H.Base.Mem.Heap.Bytes.len H.Base.Mem.Heap.Bytes.cap, .slice H.Base.Mem.Heap.Class.a H.Base.Mem.Heap.Class.len H.Base.Mem.Heap.Class.cap, .slice H.Base.Mem.Lists.Global.a H.Base.Mem.Lists.Global.len H.Base.Mem.Lists.Global.cap, .slice H.Base.Mem.Lists.Own.a H.Base.Mem.Lists.Own.len H.Base.Mem.Lists.Own.cap, .int .i64 x.Base.Clock.Epoch, .slice H.Base.Clock.Pins.a H.Base.Clock.Pins.len H.Base.Clock.Pins.cap, .slice H.Base.Limbo.a H.Base.Limbo.len H.Base.Limbo.cap, .slice H.Base.Haz.a H.Base.Haz.len H.Base.Haz.cap, .slice H.Cells.a H.Cells.len H.Cells.cap, .slice H.Jobs.a H.Jobs.len H.Jobs.cap, .slice H.Todo.a H.Todo.len H.Todo.cap, .slice H.Log.a H.Log.len H.Log.cap, .int .i64 x.Serial] 69)) (w.heap.size) [.slice H.Base.Mem.Heap.Bytes.a H.Base.Mem.Heap.Bytes.len H.Base.Mem.Heap.Bytes.cap, .slice H.Base.Mem.Heap.Class.a H.Base.Mem.Heap.Class.len H.Base.Mem.Heap.Class.cap, .slice H.Base.Mem.Lists.Global.a H.Base.Mem.Lists.Global.len H.Base.Mem.Lists.Global.cap, .slice H.Base.Mem.Lists.Own.a H.Base.Mem.Lists.Own.len H.Base.Mem.Lists.Own.cap, .int .i64 x.Base.Clock.Epoch, .slice H.Base.Clock.Pins.a H.Base.Clock.Pins.len H.Base.Clock.Pins.cap, .slice H.Base.Limbo.a H.Base.Limbo.len H.Base.Limbo.cap, .slice H.Base.Haz.a H.Base.Haz.len H.Base.Haz.cap, .slice H.Cells.a H.Cells.len H.Cells.cap, .slice H.Jobs.a H.Jobs.len H.Jobs.cap, .slice H.Todo.a H.Todo.len H.Todo.cap, .slice H.Log.a H.Log.len H.Log.cap, .int .i64 x.Serial] := by
      have hbx := Box.new w #[.slice H.Base.Mem.Heap.Bytes.a H.Base.Mem.Heap.Bytes.len H.Base.Mem.Heap.Bytes.cap, .slice H.Base.Mem.Heap.Class.a H.Base.Mem.Heap.Class.len H.Base.Mem.Heap.Class.cap, .slice H.Base.Mem.Lists.Global.a H.Base.Mem.Lists.Global.len H.Base.Mem.Lists.Global.cap, .slice H.Base.Mem.Lists.Own.a H.Base.Mem.Lists.Own.len H.Base.Mem.Lists.Own.cap, .int .i64 x.Base.Clock.Epoch, .slice H.Base.Clock.Pins.a H.Base.Clock.Pins.len H.Base.Clock.Pins.cap, .slice H.Base.Limbo.a H.Base.Limbo.len H.Base.Limbo.cap, .slice H.Base.Haz.a H.Base.Haz.len H.Base.Haz.cap, .slice H.Cells.a H.Cells.len H.Cells.cap, .slice H.Jobs.a H.Jobs.len H.Jobs.cap, .slice H.Todo.a H.Todo.len H.Todo.cap, .slice H.Log.a H.Log.len H.Log.cap, .int .i64 x.Serial] 69
      exact hbx
    have hB : Below w.heap.size w (w.alloc (.cells #[.slice H.Base.Mem.Heap.Bytes.a H.Base.Mem.Heap.Bytes.len H.Base.Mem.Heap.Bytes.cap, .slice H.Base.Mem.Heap.Class.a H.Base.Mem.Heap.Class.len H.Base.Mem.Heap.Class.cap, .slice H.Base.Mem.Lists.Global.a H.Base.Mem.Lists.Global.len H.Base.Mem.Lists.Global.cap, .slice H.Base.Mem.Lists.Own.a H.Base.Mem.Lists.Own.len H.Base.Mem.Lists.Own.cap, .int .i64 x.Base.Clock.Epoch, .slice H.Base.Clock.Pins.a H.Base.Clock.Pins.len H.Base.Clock.Pins.cap, .slice H.Base.Limbo.a H.Base.Limbo.len H.Base.Limbo.cap, .slice H.Base.Haz.a H.Base.Haz.len H.Base.Haz.cap, .slice H.Cells.a H.Cells.len H.Cells.cap, .slice H.Jobs.a H.Jobs.len H.Jobs.cap, .slice H.Todo.a H.Todo.len H.Todo.cap, .slice H.Log.a H.Log.len H.Log.cap, .int .i64 x.Serial] 69)) := by repeat (first | exact Below.refl _ _ | refine Below.alloc ?_ (by simp <;> omega) _ | refine below_grow_of ?_ (by simp <;> omega) _ _ | refine Below.drew ?_ | refine below_drewN ?_ _)
    go_enter Tryz.func23, Tryz.ntmps23
    go_wp2_with fail
    generalize hW0 : (w.alloc (.cells #[.slice H.Base.Mem.Heap.Bytes.a H.Base.Mem.Heap.Bytes.len H.Base.Mem.Heap.Bytes.cap, .slice H.Base.Mem.Heap.Class.a H.Base.Mem.Heap.Class.len H.Base.Mem.Heap.Class.cap, .slice H.Base.Mem.Lists.Global.a H.Base.Mem.Lists.Global.len H.Base.Mem.Lists.Global.cap, .slice H.Base.Mem.Lists.Own.a H.Base.Mem.Lists.Own.len H.Base.Mem.Lists.Own.cap, .int .i64 x.Base.Clock.Epoch, .slice H.Base.Clock.Pins.a H.Base.Clock.Pins.len H.Base.Clock.Pins.cap, .slice H.Base.Limbo.a H.Base.Limbo.len H.Base.Limbo.cap, .slice H.Base.Haz.a H.Base.Haz.len H.Base.Haz.cap, .slice H.Cells.a H.Cells.len H.Cells.cap, .slice H.Jobs.a H.Jobs.len H.Jobs.cap, .slice H.Todo.a H.Todo.len H.Todo.cap, .slice H.Log.a H.Log.len H.Log.cap, .int .i64 x.Serial] 69)) = w0 at B_a hB ⊢
    clear hW0
    have zz_a := B_a.lt
    have q_a_0 := B_a.cell 0 _ rfl
    have q_a_1 := B_a.cell 1 _ rfl
    have q_a_2 := B_a.cell 2 _ rfl
    have q_a_3 := B_a.cell 3 _ rfl
    have q_a_4 := B_a.cell 4 _ rfl
    have q_a_5 := B_a.cell 5 _ rfl
    have q_a_6 := B_a.cell 6 _ rfl
    have q_a_7 := B_a.cell 7 _ rfl
    have q_a_8 := B_a.cell 8 _ rfl
    have q_a_9 := B_a.cell 9 _ rfl
    have q_a_10 := B_a.cell 10 _ rfl
    have q_a_11 := B_a.cell 11 _ rfl
    have q_a_12 := B_a.cell 12 _ rfl
    have fr_a := B_a.fro
    have z_a := B_a.lt
    refine (k0 _ hB).mono ?_
    rintro e w1 ⟨rfl, hb⟩
    replace B_a := B_a.below hb
    replace hB := hB.trans (hb.mono hB.size)
    have sz := hb.size
    clear hb
    replace q_a_0 := B_a.cell 0 _ rfl
    replace q_a_1 := B_a.cell 1 _ rfl
    replace q_a_2 := B_a.cell 2 _ rfl
    replace q_a_3 := B_a.cell 3 _ rfl
    replace q_a_4 := B_a.cell 4 _ rfl
    replace q_a_5 := B_a.cell 5 _ rfl
    replace q_a_6 := B_a.cell 6 _ rfl
    replace q_a_7 := B_a.cell 7 _ rfl
    replace q_a_8 := B_a.cell 8 _ rfl
    replace q_a_9 := B_a.cell 9 _ rfl
    replace q_a_10 := B_a.cell 10 _ rfl
    replace q_a_11 := B_a.cell 11 _ rfl
    replace q_a_12 := B_a.cell 12 _ rfl
    replace fr_a := B_a.fro
    replace z_a := B_a.lt
    go_wp2_with fail
    go_ret
    exact ⟨ret_bool HV.out.symm, hB⟩
  | true =>
    have hsh := HSH.out rfl
    replace HV : Hid (safeB x = (guardedS x).all (liveB x.Base.Mem)) := Hid.mk_ (HV.out.trans (Bool.true_and _))
    have B_a : Box (w.alloc (.cells #[.slice H.Base.Mem.Heap.Bytes.a H.Base.Mem.Heap.Bytes.len H.Base.Mem.Heap.Bytes.cap, .slice H.Base.Mem.Heap.Class.a H.Base.Mem.Heap.Class.len H.Base.Mem.Heap.Class.cap, .slice H.Base.Mem.Lists.Global.a H.Base.Mem.Lists.Global.len H.Base.Mem.Lists.Global.cap, .slice H.Base.Mem.Lists.Own.a H.Base.Mem.Lists.Own.len H.Base.Mem.Lists.Own.cap, .int .i64 x.Base.Clock.Epoch, .slice H.Base.Clock.Pins.a H.Base.Clock.Pins.len H.Base.Clock.Pins.cap, .slice H.Base.Limbo.a H.Base.Limbo.len H.Base.Limbo.cap, .slice H.Base.Haz.a H.Base.Haz.len H.Base.Haz.cap, .slice H.Cells.a H.Cells.len H.Cells.cap, .slice H.Jobs.a H.Jobs.len H.Jobs.cap, .slice H.Todo.a H.Todo.len H.Todo.cap, .slice H.Log.a H.Log.len H.Log.cap, .int .i64 x.Serial] 69)) (w.heap.size) [.slice H.Base.Mem.Heap.Bytes.a H.Base.Mem.Heap.Bytes.len H.Base.Mem.Heap.Bytes.cap, .slice H.Base.Mem.Heap.Class.a H.Base.Mem.Heap.Class.len H.Base.Mem.Heap.Class.cap, .slice H.Base.Mem.Lists.Global.a H.Base.Mem.Lists.Global.len H.Base.Mem.Lists.Global.cap, .slice H.Base.Mem.Lists.Own.a H.Base.Mem.Lists.Own.len H.Base.Mem.Lists.Own.cap, .int .i64 x.Base.Clock.Epoch, .slice H.Base.Clock.Pins.a H.Base.Clock.Pins.len H.Base.Clock.Pins.cap, .slice H.Base.Limbo.a H.Base.Limbo.len H.Base.Limbo.cap, .slice H.Base.Haz.a H.Base.Haz.len H.Base.Haz.cap, .slice H.Cells.a H.Cells.len H.Cells.cap, .slice H.Jobs.a H.Jobs.len H.Jobs.cap, .slice H.Todo.a H.Todo.len H.Todo.cap, .slice H.Log.a H.Log.len H.Log.cap, .int .i64 x.Serial] := by
      have hbx := Box.new w #[.slice H.Base.Mem.Heap.Bytes.a H.Base.Mem.Heap.Bytes.len H.Base.Mem.Heap.Bytes.cap, .slice H.Base.Mem.Heap.Class.a H.Base.Mem.Heap.Class.len H.Base.Mem.Heap.Class.cap, .slice H.Base.Mem.Lists.Global.a H.Base.Mem.Lists.Global.len H.Base.Mem.Lists.Global.cap, .slice H.Base.Mem.Lists.Own.a H.Base.Mem.Lists.Own.len H.Base.Mem.Lists.Own.cap, .int .i64 x.Base.Clock.Epoch, .slice H.Base.Clock.Pins.a H.Base.Clock.Pins.len H.Base.Clock.Pins.cap, .slice H.Base.Limbo.a H.Base.Limbo.len H.Base.Limbo.cap, .slice H.Base.Haz.a H.Base.Haz.len H.Base.Haz.cap, .slice H.Cells.a H.Cells.len H.Cells.cap, .slice H.Jobs.a H.Jobs.len H.Jobs.cap, .slice H.Todo.a H.Todo.len H.Todo.cap, .slice H.Log.a H.Log.len H.Log.cap, .int .i64 x.Serial] 69
      exact hbx
    have hB : Below w.heap.size w (w.alloc (.cells #[.slice H.Base.Mem.Heap.Bytes.a H.Base.Mem.Heap.Bytes.len H.Base.Mem.Heap.Bytes.cap, .slice H.Base.Mem.Heap.Class.a H.Base.Mem.Heap.Class.len H.Base.Mem.Heap.Class.cap, .slice H.Base.Mem.Lists.Global.a H.Base.Mem.Lists.Global.len H.Base.Mem.Lists.Global.cap, .slice H.Base.Mem.Lists.Own.a H.Base.Mem.Lists.Own.len H.Base.Mem.Lists.Own.cap, .int .i64 x.Base.Clock.Epoch, .slice H.Base.Clock.Pins.a H.Base.Clock.Pins.len H.Base.Clock.Pins.cap, .slice H.Base.Limbo.a H.Base.Limbo.len H.Base.Limbo.cap, .slice H.Base.Haz.a H.Base.Haz.len H.Base.Haz.cap, .slice H.Cells.a H.Cells.len H.Cells.cap, .slice H.Jobs.a H.Jobs.len H.Jobs.cap, .slice H.Todo.a H.Todo.len H.Todo.cap, .slice H.Log.a H.Log.len H.Log.cap, .int .i64 x.Serial] 69)) := by repeat (first | exact Below.refl _ _ | refine Below.alloc ?_ (by simp <;> omega) _ | refine below_grow_of ?_ (by simp <;> omega) _ _ | refine Below.drew ?_ | refine below_drewN ?_ _)
    go_enter Tryz.func23, Tryz.ntmps23
    go_wp2_with fail
    generalize hW0 : (w.alloc (.cells #[.slice H.Base.Mem.Heap.Bytes.a H.Base.Mem.Heap.Bytes.len H.Base.Mem.Heap.Bytes.cap, .slice H.Base.Mem.Heap.Class.a H.Base.Mem.Heap.Class.len H.Base.Mem.Heap.Class.cap, .slice H.Base.Mem.Lists.Global.a H.Base.Mem.Lists.Global.len H.Base.Mem.Lists.Global.cap, .slice H.Base.Mem.Lists.Own.a H.Base.Mem.Lists.Own.len H.Base.Mem.Lists.Own.cap, .int .i64 x.Base.Clock.Epoch, .slice H.Base.Clock.Pins.a H.Base.Clock.Pins.len H.Base.Clock.Pins.cap, .slice H.Base.Limbo.a H.Base.Limbo.len H.Base.Limbo.cap, .slice H.Base.Haz.a H.Base.Haz.len H.Base.Haz.cap, .slice H.Cells.a H.Cells.len H.Cells.cap, .slice H.Jobs.a H.Jobs.len H.Jobs.cap, .slice H.Todo.a H.Todo.len H.Todo.cap, .slice H.Log.a H.Log.len H.Log.cap, .int .i64 x.Serial] 69)) = w0 at B_a hB ⊢
    clear hW0
    have zz_a := B_a.lt
    have q_a_0 := B_a.cell 0 _ rfl
    have q_a_1 := B_a.cell 1 _ rfl
    have q_a_2 := B_a.cell 2 _ rfl
    have q_a_3 := B_a.cell 3 _ rfl
    have q_a_4 := B_a.cell 4 _ rfl
    have q_a_5 := B_a.cell 5 _ rfl
    have q_a_6 := B_a.cell 6 _ rfl
    have q_a_7 := B_a.cell 7 _ rfl
    have q_a_8 := B_a.cell 8 _ rfl
    have q_a_9 := B_a.cell 9 _ rfl
    have q_a_10 := B_a.cell 10 _ rfl
    have q_a_11 := B_a.cell 11 _ rfl
    have q_a_12 := B_a.cell 12 _ rfl
    have fr_a := B_a.fro
    have z_a := B_a.lt
    refine (k0 _ hB).mono ?_
    rintro e w1 ⟨rfl, hb⟩
    replace B_a := B_a.below hb
    replace hB := hB.trans (hb.mono hB.size)
    have sz := hb.size
    clear hb
    replace q_a_0 := B_a.cell 0 _ rfl
    replace q_a_1 := B_a.cell 1 _ rfl
    replace q_a_2 := B_a.cell 2 _ rfl
    replace q_a_3 := B_a.cell 3 _ rfl
    replace q_a_4 := B_a.cell 4 _ rfl
    replace q_a_5 := B_a.cell 5 _ rfl
    replace q_a_6 := B_a.cell 6 _ rfl
    replace q_a_7 := B_a.cell 7 _ rfl
    replace q_a_8 := B_a.cell 8 _ rfl
    replace q_a_9 := B_a.cell 9 _ rfl
    replace q_a_10 := B_a.cell 10 _ rfl
    replace q_a_11 := B_a.cell 11 _ rfl
    replace q_a_12 := B_a.cell 12 _ rfl
    replace fr_a := B_a.fro
    replace z_a := B_a.lt
    go_wp2_with fail
    refine (k1 _ hB).mono ?_
    rintro e w9 ⟨v', l', rfl, hr, _, hm, hb⟩
    replace B_a := B_a.below hb
    replace hB := hB.trans (hb.mono hB.size)
    clear hb k0 k1 q_a_0 q_a_1 q_a_2 q_a_3 q_a_4 q_a_5 q_a_6 q_a_7 q_a_8 q_a_9 q_a_10 q_a_11 q_a_12 fr_a z_a
    have HM := Hid.mk_ (any_not_all_mem (liveB x.Base.Mem) hm)
    clear hm
    go_wp2_with fail
    refine (ContainsFuncInt_ct _ v' l' hr 72 #[.pointer (some ⟨w.heap.size, 0, none⟩)] (fun v => !liveB x.Base.Mem v) (fun _ _ => by kernel_rfl) (fun y V _ hV => SafeNow1_impl V H x y w.heap.size (B_a.below hV) (rdMem_up h.Base.Mem (hB.trans (hV.mono hB.size))) hsh)).mono ?_
    rintro e w2 ⟨rfl, hb2⟩
    go_wp2_with fail
    go_ret
    exact ⟨ret_bool (by rw [HV.out, HM.out]), hB.trans (hb2.mono hB.size)⟩
end Go.Proofs.YtkldapdpaldbgaaGreat
namespace Go.Proofs.YtkldapdpaldbgaaGreat
open Go.RowKit
theorem up2 {w1 w2 : World} {o : Obj} {g i : Nat} {u : Value} (hb : Below (w1.alloc o).heap.size (w1.alloc o) w2) (hg : g < w1.heap.size) (h : w1.cell? ⟨g, i, none⟩ = some u) : w2.cell? ⟨g, i, none⟩ = some u := cell_up hb (by simp; omega) ((cell_old w1 o g i hg).trans h)

theorem below_step {B : Nat} {w0 w w' : World} {o : Obj} (hB : Below B w0 w) (hb : Below (w.alloc o).heap.size (w.alloc o) w') (h : B ≤ w.heap.size) : Below B w0 w' := (hB.alloc h o).trans (hb.mono (by simp; omega))
theorem below_step0 {B : Nat} {w0 w w' : World} (hB : Below B w0 w) (hb : Below w.heap.size w w') (h : B ≤ w.heap.size) : Below B w0 w' := hB.trans (hb.mono h)
theorem new_cell {w w' : World} {cs : Array Value} {t : TypeId} {j : Nat} {v : Value} (hb : Below (w.alloc (.cells cs t)).heap.size (w.alloc (.cells cs t)) w') (h : cs[j]? = some v) : w'.cell? ⟨w.heap.size, j, none⟩ = some v := by
  refine cell_up hb (by simp) ?_
  rw [cell_of_row _ _ _ _ _ _ (heap_alloc_new w _)]
  exact h
theorem OwL.step {α : Type} {T : FT α} {e : TypeId} {w w' : World} {o : Obj} {v : Value} {l : List α} (h : OwL T e w v l) (hb : Below (w.alloc o).heap.size (w.alloc o) w') : OwL T e w' v l := (h.alloc_ o).keep (fun g hg => hb.block g (foot_lt (h.alloc_ o) g (mem_foot1.2 hg)))
theorem OwL.step0 {α : Type} {T : FT α} {e : TypeId} {w w' : World} {v : Value} {l : List α} (h : OwL T e w v l) (hb : Below w.heap.size w w') : OwL T e w' v l := h.keep (fun g hg => hb.block g (foot_lt h g (mem_foot1.2 hg)))
theorem OwLL.step {α : Type} {T : FT α} {e E : TypeId} {w w' : World} {o : Obj} {v : Value} {s : List SV} {l : List (List α)} (h : OwLL T e E w v s l) (hb : Below (w.alloc o).heap.size (w.alloc o) w') : OwLL T e E w' v s l := (h.alloc_ o).keep (fun g hg => hb.block g ((h.alloc_ o).lt g hg))
theorem OwLL.step0 {α : Type} {T : FT α} {e E : TypeId} {w w' : World} {v : Value} {s : List SV} {l : List (List α)} (h : OwLL T e E w v s l) (hb : Below w.heap.size w w') : OwLL T e E w' v s l := h.keep (fun g hg => hb.block g (h.lt g hg))

theorem undrew {w w' : World} (hb : Below w.drew.heap.size w.drew w') : Below w.heap.size w w' := ⟨hb.os, hb.tape, hb.output, hb.size, hb.block⟩
theorem fcdrew {w : World} {F : List Nat} (h : ∀ g ∈ F, w.drew.heap.size ≤ g) : ∀ g ∈ F, w.heap.size ≤ g := h
theorem lt_step {w w' : World} {o : Obj} {a : Nat} (z : a < w.heap.size) (hb : Below (w.alloc o).heap.size (w.alloc o) w') : a < w'.heap.size := by
  have := hb.size
  simp at this
  omega
theorem lt_step0 {w w' : World} {a : Nat} (z : a < w.heap.size) (hb : Below w.heap.size w w') : a < w'.heap.size := Nat.lt_of_lt_of_le z hb.size
theorem new_lt {w w' : World} {o : Obj} (hb : Below (w.alloc o).heap.size (w.alloc o) w') : w.heap.size < w'.heap.size := by
  have := hb.size
  simp at this
  omega

theorem OwHeap.alloc_ {w : World} {H : HHeap} {x : Heap} (h : OwHeap w H x) (o : Obj) : OwHeap (w.alloc o) H x := h.keep fun g hg => Below.heap_alloc w o g (h.lt g hg)
theorem OwHeap.step {w w' : World} {o : Obj} {H : HHeap} {x : Heap} (h : OwHeap w H x) (hb : Below (w.alloc o).heap.size (w.alloc o) w') : OwHeap w' H x := (h.alloc_ o).keep (fun g hg => hb.block g ((h.alloc_ o).lt g hg))
theorem OwHeap.step0 {w w' : World} {H : HHeap} {x : Heap} (h : OwHeap w H x) (hb : Below w.heap.size w w') : OwHeap w' H x := h.keep (fun g hg => hb.block g (h.lt g hg))

theorem OwLists.alloc_ {w : World} {H : HLists} {x : Lists} (h : OwLists w H x) (o : Obj) : OwLists (w.alloc o) H x := h.keep fun g hg => Below.heap_alloc w o g (h.lt g hg)
theorem OwLists.step {w w' : World} {o : Obj} {H : HLists} {x : Lists} (h : OwLists w H x) (hb : Below (w.alloc o).heap.size (w.alloc o) w') : OwLists w' H x := (h.alloc_ o).keep (fun g hg => hb.block g ((h.alloc_ o).lt g hg))
theorem OwLists.step0 {w w' : World} {H : HLists} {x : Lists} (h : OwLists w H x) (hb : Below w.heap.size w w') : OwLists w' H x := h.keep (fun g hg => hb.block g (h.lt g hg))

theorem OwMem.alloc_ {w : World} {H : HMem} {x : Mem} (h : OwMem w H x) (o : Obj) : OwMem (w.alloc o) H x := h.keep fun g hg => Below.heap_alloc w o g (h.lt g hg)
theorem OwMem.step {w w' : World} {o : Obj} {H : HMem} {x : Mem} (h : OwMem w H x) (hb : Below (w.alloc o).heap.size (w.alloc o) w') : OwMem w' H x := (h.alloc_ o).keep (fun g hg => hb.block g ((h.alloc_ o).lt g hg))
theorem OwMem.step0 {w w' : World} {H : HMem} {x : Mem} (h : OwMem w H x) (hb : Below w.heap.size w w') : OwMem w' H x := h.keep (fun g hg => hb.block g (h.lt g hg))

theorem OwClock.alloc_ {w : World} {H : HClock} {x : Clock} (h : OwClock w H x) (o : Obj) : OwClock (w.alloc o) H x := h.keep fun g hg => Below.heap_alloc w o g (h.lt g hg)
theorem OwClock.step {w w' : World} {o : Obj} {H : HClock} {x : Clock} (h : OwClock w H x) (hb : Below (w.alloc o).heap.size (w.alloc o) w') : OwClock w' H x := (h.alloc_ o).keep (fun g hg => hb.block g ((h.alloc_ o).lt g hg))
theorem OwClock.step0 {w w' : World} {H : HClock} {x : Clock} (h : OwClock w H x) (hb : Below w.heap.size w w') : OwClock w' H x := h.keep (fun g hg => hb.block g (h.lt g hg))

theorem OwBase.alloc_ {w : World} {H : HBase} {x : Base} (h : OwBase w H x) (o : Obj) : OwBase (w.alloc o) H x := h.keep fun g hg => Below.heap_alloc w o g (h.lt g hg)
theorem OwBase.step {w w' : World} {o : Obj} {H : HBase} {x : Base} (h : OwBase w H x) (hb : Below (w.alloc o).heap.size (w.alloc o) w') : OwBase w' H x := (h.alloc_ o).keep (fun g hg => hb.block g ((h.alloc_ o).lt g hg))
theorem OwBase.step0 {w w' : World} {H : HBase} {x : Base} (h : OwBase w H x) (hb : Below w.heap.size w w') : OwBase w' H x := h.keep (fun g hg => hb.block g (h.lt g hg))

theorem OwShelf.alloc_ {w : World} {H : HShelf} {x : Shelf} (h : OwShelf w H x) (o : Obj) : OwShelf (w.alloc o) H x := h.keep fun g hg => Below.heap_alloc w o g (h.lt g hg)
theorem OwShelf.step {w w' : World} {o : Obj} {H : HShelf} {x : Shelf} (h : OwShelf w H x) (hb : Below (w.alloc o).heap.size (w.alloc o) w') : OwShelf w' H x := (h.alloc_ o).keep (fun g hg => hb.block g ((h.alloc_ o).lt g hg))
theorem OwShelf.step0 {w w' : World} {H : HShelf} {x : Shelf} (h : OwShelf w H x) (hb : Below w.heap.size w w') : OwShelf w' H x := h.keep (fun g hg => hb.block g (h.lt g hg))

theorem nMark_size_Heap (x : Heap) : nMarkHeap x ≤ sizeHeap x := Nat.le_refl _
theorem nMark_size_Lists (x : Lists) : nMarkLists x ≤ sizeLists x := Nat.add_le_add (Nat.le_add_left _ _) (Nat.le_add_left _ _)
theorem nMark_size_Mem (x : Mem) : nMarkMem x ≤ sizeMem x := Nat.add_le_add (nMark_size_Heap _) (nMark_size_Lists _)
theorem size_mem_lists {x : Mem} {k : Nat} (h : sizeMem x ≤ k) : szLL x.Lists.Global ≤ k ∧ szLL x.Lists.Own ≤ k := by unfold sizeMem sizeLists at h; omega

theorem nMark_size_Base (x : Base) : nMarkBase x ≤ 4 * sizeBase x := by
  have h1 := nMark_size_Mem x.Mem
  have h2 : nMarkClock x.Clock = x.Clock.Pins.length * 4 := rfl
  have h3 : sizeClock x.Clock = x.Clock.Pins.length := rfl
  have h4 : totLL x.Limbo ≤ szLL x.Limbo := Nat.le_add_left _ _
  unfold nMarkBase sizeBase
  omega

theorem nMark_size_Shelf (x : Shelf) : nMarkShelf x ≤ 21 * sizeShelf x := by
  have h1 := nMark_size_Base x.Base
  have h4 : totLL x.Todo ≤ szLL x.Todo := Nat.le_add_left _ _
  unfold nMarkShelf sizeShelf
  omega

theorem size_base_lls {x : Base} {k : Nat} (h : sizeBase x ≤ k) : szLL x.Limbo ≤ k ∧ szLL x.Mem.Lists.Global ≤ k ∧ szLL x.Mem.Lists.Own ≤ k := by unfold sizeBase sizeMem sizeLists at h; omega

theorem size_shelf_base {x : Shelf} {k : Nat} (h : sizeShelf x ≤ k) : sizeBase x.Base ≤ k := by unfold sizeShelf at h; omega
end Go.Proofs.YtkldapdpaldbgaaGreat
namespace Go.Proofs.YtkldapdpaldbgaaGreat
open Go.RowKit

theorem SafeNow_implS (w : World) (H : HShelf) (x : Shelf) (h : RdShelf w w.heap.size H x) (hs : sizeShelf x ≤ 1048576) :
    Calls Tryz.prog 23 #[.agg #[.slice H.Base.Mem.Heap.Bytes.a H.Base.Mem.Heap.Bytes.len H.Base.Mem.Heap.Bytes.cap, .slice H.Base.Mem.Heap.Class.a H.Base.Mem.Heap.Class.len H.Base.Mem.Heap.Class.cap, .slice H.Base.Mem.Lists.Global.a H.Base.Mem.Lists.Global.len H.Base.Mem.Lists.Global.cap, .slice H.Base.Mem.Lists.Own.a H.Base.Mem.Lists.Own.len H.Base.Mem.Lists.Own.cap, .int .i64 x.Base.Clock.Epoch, .slice H.Base.Clock.Pins.a H.Base.Clock.Pins.len H.Base.Clock.Pins.cap, .slice H.Base.Limbo.a H.Base.Limbo.len H.Base.Limbo.cap, .slice H.Base.Haz.a H.Base.Haz.len H.Base.Haz.cap, .slice H.Cells.a H.Cells.len H.Cells.cap, .slice H.Jobs.a H.Jobs.len H.Jobs.cap, .slice H.Todo.a H.Todo.len H.Todo.cap, .slice H.Log.a H.Log.len H.Log.cap, .int .i64 x.Serial]] w fun e w' => e = .returned (.bool (safeB x)) ∧ Below w.heap.size w w' := SafeNow_impl w H x  h (by have := size_base_lls (size_shelf_base hs); omega)

theorem SafeNow_specS (w : World) (H : HShelf) (x : Shelf) (h : RdShelf w w.heap.size H x) (hs : sizeShelf x ≤ 1048576) :
    Calls Tryz.prog 21 #[.agg #[.slice H.Base.Mem.Heap.Bytes.a H.Base.Mem.Heap.Bytes.len H.Base.Mem.Heap.Bytes.cap, .slice H.Base.Mem.Heap.Class.a H.Base.Mem.Heap.Class.len H.Base.Mem.Heap.Class.cap, .slice H.Base.Mem.Lists.Global.a H.Base.Mem.Lists.Global.len H.Base.Mem.Lists.Global.cap, .slice H.Base.Mem.Lists.Own.a H.Base.Mem.Lists.Own.len H.Base.Mem.Lists.Own.cap, .int .i64 x.Base.Clock.Epoch, .slice H.Base.Clock.Pins.a H.Base.Clock.Pins.len H.Base.Clock.Pins.cap, .slice H.Base.Limbo.a H.Base.Limbo.len H.Base.Limbo.cap, .slice H.Base.Haz.a H.Base.Haz.len H.Base.Haz.cap, .slice H.Cells.a H.Cells.len H.Cells.cap, .slice H.Jobs.a H.Jobs.len H.Jobs.cap, .slice H.Todo.a H.Todo.len H.Todo.cap, .slice H.Log.a H.Log.len H.Log.cap, .int .i64 x.Serial]] w fun e w' => e = .returned (.bool (safeB x)) ∧ Below w.heap.size w w' := SafeNow_spec w H x  h (by have := size_base_lls (size_shelf_base hs); omega) (by have := size_base_lls (size_shelf_base hs); omega) (by have := size_base_lls (size_shelf_base hs); omega)

set_option maxRecDepth 100000 in
set_option maxHeartbeats 4000000 in
theorem FnExactSafeNow_law (w : World) (K0 : HShelf) (x0 : Shelf) (h0 : RdShelf w w.heap.size K0 x0) :
    Calls Tryz.prog 4 #[.agg #[.slice K0.Base.Mem.Heap.Bytes.a K0.Base.Mem.Heap.Bytes.len K0.Base.Mem.Heap.Bytes.cap, .slice K0.Base.Mem.Heap.Class.a K0.Base.Mem.Heap.Class.len K0.Base.Mem.Heap.Class.cap, .slice K0.Base.Mem.Lists.Global.a K0.Base.Mem.Lists.Global.len K0.Base.Mem.Lists.Global.cap, .slice K0.Base.Mem.Lists.Own.a K0.Base.Mem.Lists.Own.len K0.Base.Mem.Lists.Own.cap, .int .i64 x0.Base.Clock.Epoch, .slice K0.Base.Clock.Pins.a K0.Base.Clock.Pins.len K0.Base.Clock.Pins.cap, .slice K0.Base.Limbo.a K0.Base.Limbo.len K0.Base.Limbo.cap, .slice K0.Base.Haz.a K0.Base.Haz.len K0.Base.Haz.cap, .slice K0.Cells.a K0.Cells.len K0.Cells.cap, .slice K0.Jobs.a K0.Jobs.len K0.Jobs.cap, .slice K0.Todo.a K0.Todo.len K0.Todo.cap, .slice K0.Log.a K0.Log.len K0.Log.cap, .int .i64 x0.Serial]] w fun e w' => e = .returned (.bool true) ∧ Below w.heap.size w w' := by
  by_cases hs0' : sizeShelf x0 ≤ 1048576
  case neg =>
    have HL := Hid.mk_ (leftOf_neg hs0')
    go_enter Tryz.func4, Tryz.ntmps4
    go_wp2_with fail
    have hB : Below w.heap.size w (w.alloc (.cells #[.slice K0.Base.Mem.Heap.Bytes.a K0.Base.Mem.Heap.Bytes.len K0.Base.Mem.Heap.Bytes.cap, .slice K0.Base.Mem.Heap.Class.a K0.Base.Mem.Heap.Class.len K0.Base.Mem.Heap.Class.cap, .slice K0.Base.Mem.Lists.Global.a K0.Base.Mem.Lists.Global.len K0.Base.Mem.Lists.Global.cap, .slice K0.Base.Mem.Lists.Own.a K0.Base.Mem.Lists.Own.len K0.Base.Mem.Lists.Own.cap, .int .i64 x0.Base.Clock.Epoch, .slice K0.Base.Clock.Pins.a K0.Base.Clock.Pins.len K0.Base.Clock.Pins.cap, .slice K0.Base.Limbo.a K0.Base.Limbo.len K0.Base.Limbo.cap, .slice K0.Base.Haz.a K0.Base.Haz.len K0.Base.Haz.cap, .slice K0.Cells.a K0.Cells.len K0.Cells.cap, .slice K0.Jobs.a K0.Jobs.len K0.Jobs.cap, .slice K0.Todo.a K0.Todo.len K0.Todo.cap, .slice K0.Log.a K0.Log.len K0.Log.cap, .int .i64 x0.Serial] 62)) := by repeat (first | exact Below.refl _ _ | refine Below.alloc ?_ (by simp <;> omega) _ | refine below_grow_of ?_ (by simp <;> omega) _ _ | refine Below.drew ?_ | refine below_drewN ?_ _)
    have hB0 := hB
    have b0_0 : ((w.alloc (.cells #[.slice K0.Base.Mem.Heap.Bytes.a K0.Base.Mem.Heap.Bytes.len K0.Base.Mem.Heap.Bytes.cap, .slice K0.Base.Mem.Heap.Class.a K0.Base.Mem.Heap.Class.len K0.Base.Mem.Heap.Class.cap, .slice K0.Base.Mem.Lists.Global.a K0.Base.Mem.Lists.Global.len K0.Base.Mem.Lists.Global.cap, .slice K0.Base.Mem.Lists.Own.a K0.Base.Mem.Lists.Own.len K0.Base.Mem.Lists.Own.cap, .int .i64 x0.Base.Clock.Epoch, .slice K0.Base.Clock.Pins.a K0.Base.Clock.Pins.len K0.Base.Clock.Pins.cap, .slice K0.Base.Limbo.a K0.Base.Limbo.len K0.Base.Limbo.cap, .slice K0.Base.Haz.a K0.Base.Haz.len K0.Base.Haz.cap, .slice K0.Cells.a K0.Cells.len K0.Cells.cap, .slice K0.Jobs.a K0.Jobs.len K0.Jobs.cap, .slice K0.Todo.a K0.Todo.len K0.Todo.cap, .slice K0.Log.a K0.Log.len K0.Log.cap, .int .i64 x0.Serial] 62))).cell? ⟨w.heap.size, 0, none⟩ = some (.slice K0.Base.Mem.Heap.Bytes.a K0.Base.Mem.Heap.Bytes.len K0.Base.Mem.Heap.Bytes.cap) := by simp [go_sem]
    have b0_1 : ((w.alloc (.cells #[.slice K0.Base.Mem.Heap.Bytes.a K0.Base.Mem.Heap.Bytes.len K0.Base.Mem.Heap.Bytes.cap, .slice K0.Base.Mem.Heap.Class.a K0.Base.Mem.Heap.Class.len K0.Base.Mem.Heap.Class.cap, .slice K0.Base.Mem.Lists.Global.a K0.Base.Mem.Lists.Global.len K0.Base.Mem.Lists.Global.cap, .slice K0.Base.Mem.Lists.Own.a K0.Base.Mem.Lists.Own.len K0.Base.Mem.Lists.Own.cap, .int .i64 x0.Base.Clock.Epoch, .slice K0.Base.Clock.Pins.a K0.Base.Clock.Pins.len K0.Base.Clock.Pins.cap, .slice K0.Base.Limbo.a K0.Base.Limbo.len K0.Base.Limbo.cap, .slice K0.Base.Haz.a K0.Base.Haz.len K0.Base.Haz.cap, .slice K0.Cells.a K0.Cells.len K0.Cells.cap, .slice K0.Jobs.a K0.Jobs.len K0.Jobs.cap, .slice K0.Todo.a K0.Todo.len K0.Todo.cap, .slice K0.Log.a K0.Log.len K0.Log.cap, .int .i64 x0.Serial] 62))).cell? ⟨w.heap.size, 1, none⟩ = some (.slice K0.Base.Mem.Heap.Class.a K0.Base.Mem.Heap.Class.len K0.Base.Mem.Heap.Class.cap) := by simp [go_sem]
    have b0_2 : ((w.alloc (.cells #[.slice K0.Base.Mem.Heap.Bytes.a K0.Base.Mem.Heap.Bytes.len K0.Base.Mem.Heap.Bytes.cap, .slice K0.Base.Mem.Heap.Class.a K0.Base.Mem.Heap.Class.len K0.Base.Mem.Heap.Class.cap, .slice K0.Base.Mem.Lists.Global.a K0.Base.Mem.Lists.Global.len K0.Base.Mem.Lists.Global.cap, .slice K0.Base.Mem.Lists.Own.a K0.Base.Mem.Lists.Own.len K0.Base.Mem.Lists.Own.cap, .int .i64 x0.Base.Clock.Epoch, .slice K0.Base.Clock.Pins.a K0.Base.Clock.Pins.len K0.Base.Clock.Pins.cap, .slice K0.Base.Limbo.a K0.Base.Limbo.len K0.Base.Limbo.cap, .slice K0.Base.Haz.a K0.Base.Haz.len K0.Base.Haz.cap, .slice K0.Cells.a K0.Cells.len K0.Cells.cap, .slice K0.Jobs.a K0.Jobs.len K0.Jobs.cap, .slice K0.Todo.a K0.Todo.len K0.Todo.cap, .slice K0.Log.a K0.Log.len K0.Log.cap, .int .i64 x0.Serial] 62))).cell? ⟨w.heap.size, 2, none⟩ = some (.slice K0.Base.Mem.Lists.Global.a K0.Base.Mem.Lists.Global.len K0.Base.Mem.Lists.Global.cap) := by simp [go_sem]
    have b0_3 : ((w.alloc (.cells #[.slice K0.Base.Mem.Heap.Bytes.a K0.Base.Mem.Heap.Bytes.len K0.Base.Mem.Heap.Bytes.cap, .slice K0.Base.Mem.Heap.Class.a K0.Base.Mem.Heap.Class.len K0.Base.Mem.Heap.Class.cap, .slice K0.Base.Mem.Lists.Global.a K0.Base.Mem.Lists.Global.len K0.Base.Mem.Lists.Global.cap, .slice K0.Base.Mem.Lists.Own.a K0.Base.Mem.Lists.Own.len K0.Base.Mem.Lists.Own.cap, .int .i64 x0.Base.Clock.Epoch, .slice K0.Base.Clock.Pins.a K0.Base.Clock.Pins.len K0.Base.Clock.Pins.cap, .slice K0.Base.Limbo.a K0.Base.Limbo.len K0.Base.Limbo.cap, .slice K0.Base.Haz.a K0.Base.Haz.len K0.Base.Haz.cap, .slice K0.Cells.a K0.Cells.len K0.Cells.cap, .slice K0.Jobs.a K0.Jobs.len K0.Jobs.cap, .slice K0.Todo.a K0.Todo.len K0.Todo.cap, .slice K0.Log.a K0.Log.len K0.Log.cap, .int .i64 x0.Serial] 62))).cell? ⟨w.heap.size, 3, none⟩ = some (.slice K0.Base.Mem.Lists.Own.a K0.Base.Mem.Lists.Own.len K0.Base.Mem.Lists.Own.cap) := by simp [go_sem]
    have b0_4 : ((w.alloc (.cells #[.slice K0.Base.Mem.Heap.Bytes.a K0.Base.Mem.Heap.Bytes.len K0.Base.Mem.Heap.Bytes.cap, .slice K0.Base.Mem.Heap.Class.a K0.Base.Mem.Heap.Class.len K0.Base.Mem.Heap.Class.cap, .slice K0.Base.Mem.Lists.Global.a K0.Base.Mem.Lists.Global.len K0.Base.Mem.Lists.Global.cap, .slice K0.Base.Mem.Lists.Own.a K0.Base.Mem.Lists.Own.len K0.Base.Mem.Lists.Own.cap, .int .i64 x0.Base.Clock.Epoch, .slice K0.Base.Clock.Pins.a K0.Base.Clock.Pins.len K0.Base.Clock.Pins.cap, .slice K0.Base.Limbo.a K0.Base.Limbo.len K0.Base.Limbo.cap, .slice K0.Base.Haz.a K0.Base.Haz.len K0.Base.Haz.cap, .slice K0.Cells.a K0.Cells.len K0.Cells.cap, .slice K0.Jobs.a K0.Jobs.len K0.Jobs.cap, .slice K0.Todo.a K0.Todo.len K0.Todo.cap, .slice K0.Log.a K0.Log.len K0.Log.cap, .int .i64 x0.Serial] 62))).cell? ⟨w.heap.size, 4, none⟩ = some (.int .i64 x0.Base.Clock.Epoch) := by simp [go_sem]
    have b0_5 : ((w.alloc (.cells #[.slice K0.Base.Mem.Heap.Bytes.a K0.Base.Mem.Heap.Bytes.len K0.Base.Mem.Heap.Bytes.cap, .slice K0.Base.Mem.Heap.Class.a K0.Base.Mem.Heap.Class.len K0.Base.Mem.Heap.Class.cap, .slice K0.Base.Mem.Lists.Global.a K0.Base.Mem.Lists.Global.len K0.Base.Mem.Lists.Global.cap, .slice K0.Base.Mem.Lists.Own.a K0.Base.Mem.Lists.Own.len K0.Base.Mem.Lists.Own.cap, .int .i64 x0.Base.Clock.Epoch, .slice K0.Base.Clock.Pins.a K0.Base.Clock.Pins.len K0.Base.Clock.Pins.cap, .slice K0.Base.Limbo.a K0.Base.Limbo.len K0.Base.Limbo.cap, .slice K0.Base.Haz.a K0.Base.Haz.len K0.Base.Haz.cap, .slice K0.Cells.a K0.Cells.len K0.Cells.cap, .slice K0.Jobs.a K0.Jobs.len K0.Jobs.cap, .slice K0.Todo.a K0.Todo.len K0.Todo.cap, .slice K0.Log.a K0.Log.len K0.Log.cap, .int .i64 x0.Serial] 62))).cell? ⟨w.heap.size, 5, none⟩ = some (.slice K0.Base.Clock.Pins.a K0.Base.Clock.Pins.len K0.Base.Clock.Pins.cap) := by simp [go_sem]
    have b0_6 : ((w.alloc (.cells #[.slice K0.Base.Mem.Heap.Bytes.a K0.Base.Mem.Heap.Bytes.len K0.Base.Mem.Heap.Bytes.cap, .slice K0.Base.Mem.Heap.Class.a K0.Base.Mem.Heap.Class.len K0.Base.Mem.Heap.Class.cap, .slice K0.Base.Mem.Lists.Global.a K0.Base.Mem.Lists.Global.len K0.Base.Mem.Lists.Global.cap, .slice K0.Base.Mem.Lists.Own.a K0.Base.Mem.Lists.Own.len K0.Base.Mem.Lists.Own.cap, .int .i64 x0.Base.Clock.Epoch, .slice K0.Base.Clock.Pins.a K0.Base.Clock.Pins.len K0.Base.Clock.Pins.cap, .slice K0.Base.Limbo.a K0.Base.Limbo.len K0.Base.Limbo.cap, .slice K0.Base.Haz.a K0.Base.Haz.len K0.Base.Haz.cap, .slice K0.Cells.a K0.Cells.len K0.Cells.cap, .slice K0.Jobs.a K0.Jobs.len K0.Jobs.cap, .slice K0.Todo.a K0.Todo.len K0.Todo.cap, .slice K0.Log.a K0.Log.len K0.Log.cap, .int .i64 x0.Serial] 62))).cell? ⟨w.heap.size, 6, none⟩ = some (.slice K0.Base.Limbo.a K0.Base.Limbo.len K0.Base.Limbo.cap) := by simp [go_sem]
    have b0_7 : ((w.alloc (.cells #[.slice K0.Base.Mem.Heap.Bytes.a K0.Base.Mem.Heap.Bytes.len K0.Base.Mem.Heap.Bytes.cap, .slice K0.Base.Mem.Heap.Class.a K0.Base.Mem.Heap.Class.len K0.Base.Mem.Heap.Class.cap, .slice K0.Base.Mem.Lists.Global.a K0.Base.Mem.Lists.Global.len K0.Base.Mem.Lists.Global.cap, .slice K0.Base.Mem.Lists.Own.a K0.Base.Mem.Lists.Own.len K0.Base.Mem.Lists.Own.cap, .int .i64 x0.Base.Clock.Epoch, .slice K0.Base.Clock.Pins.a K0.Base.Clock.Pins.len K0.Base.Clock.Pins.cap, .slice K0.Base.Limbo.a K0.Base.Limbo.len K0.Base.Limbo.cap, .slice K0.Base.Haz.a K0.Base.Haz.len K0.Base.Haz.cap, .slice K0.Cells.a K0.Cells.len K0.Cells.cap, .slice K0.Jobs.a K0.Jobs.len K0.Jobs.cap, .slice K0.Todo.a K0.Todo.len K0.Todo.cap, .slice K0.Log.a K0.Log.len K0.Log.cap, .int .i64 x0.Serial] 62))).cell? ⟨w.heap.size, 7, none⟩ = some (.slice K0.Base.Haz.a K0.Base.Haz.len K0.Base.Haz.cap) := by simp [go_sem]
    have b0_8 : ((w.alloc (.cells #[.slice K0.Base.Mem.Heap.Bytes.a K0.Base.Mem.Heap.Bytes.len K0.Base.Mem.Heap.Bytes.cap, .slice K0.Base.Mem.Heap.Class.a K0.Base.Mem.Heap.Class.len K0.Base.Mem.Heap.Class.cap, .slice K0.Base.Mem.Lists.Global.a K0.Base.Mem.Lists.Global.len K0.Base.Mem.Lists.Global.cap, .slice K0.Base.Mem.Lists.Own.a K0.Base.Mem.Lists.Own.len K0.Base.Mem.Lists.Own.cap, .int .i64 x0.Base.Clock.Epoch, .slice K0.Base.Clock.Pins.a K0.Base.Clock.Pins.len K0.Base.Clock.Pins.cap, .slice K0.Base.Limbo.a K0.Base.Limbo.len K0.Base.Limbo.cap, .slice K0.Base.Haz.a K0.Base.Haz.len K0.Base.Haz.cap, .slice K0.Cells.a K0.Cells.len K0.Cells.cap, .slice K0.Jobs.a K0.Jobs.len K0.Jobs.cap, .slice K0.Todo.a K0.Todo.len K0.Todo.cap, .slice K0.Log.a K0.Log.len K0.Log.cap, .int .i64 x0.Serial] 62))).cell? ⟨w.heap.size, 8, none⟩ = some (.slice K0.Cells.a K0.Cells.len K0.Cells.cap) := by simp [go_sem]
    have b0_9 : ((w.alloc (.cells #[.slice K0.Base.Mem.Heap.Bytes.a K0.Base.Mem.Heap.Bytes.len K0.Base.Mem.Heap.Bytes.cap, .slice K0.Base.Mem.Heap.Class.a K0.Base.Mem.Heap.Class.len K0.Base.Mem.Heap.Class.cap, .slice K0.Base.Mem.Lists.Global.a K0.Base.Mem.Lists.Global.len K0.Base.Mem.Lists.Global.cap, .slice K0.Base.Mem.Lists.Own.a K0.Base.Mem.Lists.Own.len K0.Base.Mem.Lists.Own.cap, .int .i64 x0.Base.Clock.Epoch, .slice K0.Base.Clock.Pins.a K0.Base.Clock.Pins.len K0.Base.Clock.Pins.cap, .slice K0.Base.Limbo.a K0.Base.Limbo.len K0.Base.Limbo.cap, .slice K0.Base.Haz.a K0.Base.Haz.len K0.Base.Haz.cap, .slice K0.Cells.a K0.Cells.len K0.Cells.cap, .slice K0.Jobs.a K0.Jobs.len K0.Jobs.cap, .slice K0.Todo.a K0.Todo.len K0.Todo.cap, .slice K0.Log.a K0.Log.len K0.Log.cap, .int .i64 x0.Serial] 62))).cell? ⟨w.heap.size, 9, none⟩ = some (.slice K0.Jobs.a K0.Jobs.len K0.Jobs.cap) := by simp [go_sem]
    have b0_10 : ((w.alloc (.cells #[.slice K0.Base.Mem.Heap.Bytes.a K0.Base.Mem.Heap.Bytes.len K0.Base.Mem.Heap.Bytes.cap, .slice K0.Base.Mem.Heap.Class.a K0.Base.Mem.Heap.Class.len K0.Base.Mem.Heap.Class.cap, .slice K0.Base.Mem.Lists.Global.a K0.Base.Mem.Lists.Global.len K0.Base.Mem.Lists.Global.cap, .slice K0.Base.Mem.Lists.Own.a K0.Base.Mem.Lists.Own.len K0.Base.Mem.Lists.Own.cap, .int .i64 x0.Base.Clock.Epoch, .slice K0.Base.Clock.Pins.a K0.Base.Clock.Pins.len K0.Base.Clock.Pins.cap, .slice K0.Base.Limbo.a K0.Base.Limbo.len K0.Base.Limbo.cap, .slice K0.Base.Haz.a K0.Base.Haz.len K0.Base.Haz.cap, .slice K0.Cells.a K0.Cells.len K0.Cells.cap, .slice K0.Jobs.a K0.Jobs.len K0.Jobs.cap, .slice K0.Todo.a K0.Todo.len K0.Todo.cap, .slice K0.Log.a K0.Log.len K0.Log.cap, .int .i64 x0.Serial] 62))).cell? ⟨w.heap.size, 10, none⟩ = some (.slice K0.Todo.a K0.Todo.len K0.Todo.cap) := by simp [go_sem]
    have b0_11 : ((w.alloc (.cells #[.slice K0.Base.Mem.Heap.Bytes.a K0.Base.Mem.Heap.Bytes.len K0.Base.Mem.Heap.Bytes.cap, .slice K0.Base.Mem.Heap.Class.a K0.Base.Mem.Heap.Class.len K0.Base.Mem.Heap.Class.cap, .slice K0.Base.Mem.Lists.Global.a K0.Base.Mem.Lists.Global.len K0.Base.Mem.Lists.Global.cap, .slice K0.Base.Mem.Lists.Own.a K0.Base.Mem.Lists.Own.len K0.Base.Mem.Lists.Own.cap, .int .i64 x0.Base.Clock.Epoch, .slice K0.Base.Clock.Pins.a K0.Base.Clock.Pins.len K0.Base.Clock.Pins.cap, .slice K0.Base.Limbo.a K0.Base.Limbo.len K0.Base.Limbo.cap, .slice K0.Base.Haz.a K0.Base.Haz.len K0.Base.Haz.cap, .slice K0.Cells.a K0.Cells.len K0.Cells.cap, .slice K0.Jobs.a K0.Jobs.len K0.Jobs.cap, .slice K0.Todo.a K0.Todo.len K0.Todo.cap, .slice K0.Log.a K0.Log.len K0.Log.cap, .int .i64 x0.Serial] 62))).cell? ⟨w.heap.size, 11, none⟩ = some (.slice K0.Log.a K0.Log.len K0.Log.cap) := by simp [go_sem]
    have b0_12 : ((w.alloc (.cells #[.slice K0.Base.Mem.Heap.Bytes.a K0.Base.Mem.Heap.Bytes.len K0.Base.Mem.Heap.Bytes.cap, .slice K0.Base.Mem.Heap.Class.a K0.Base.Mem.Heap.Class.len K0.Base.Mem.Heap.Class.cap, .slice K0.Base.Mem.Lists.Global.a K0.Base.Mem.Lists.Global.len K0.Base.Mem.Lists.Global.cap, .slice K0.Base.Mem.Lists.Own.a K0.Base.Mem.Lists.Own.len K0.Base.Mem.Lists.Own.cap, .int .i64 x0.Base.Clock.Epoch, .slice K0.Base.Clock.Pins.a K0.Base.Clock.Pins.len K0.Base.Clock.Pins.cap, .slice K0.Base.Limbo.a K0.Base.Limbo.len K0.Base.Limbo.cap, .slice K0.Base.Haz.a K0.Base.Haz.len K0.Base.Haz.cap, .slice K0.Cells.a K0.Cells.len K0.Cells.cap, .slice K0.Jobs.a K0.Jobs.len K0.Jobs.cap, .slice K0.Todo.a K0.Todo.len K0.Todo.cap, .slice K0.Log.a K0.Log.len K0.Log.cap, .int .i64 x0.Serial] 62))).cell? ⟨w.heap.size, 12, none⟩ = some (.int .i64 x0.Serial) := by simp [go_sem]
    have z0 : w.heap.size < ((w.alloc (.cells #[.slice K0.Base.Mem.Heap.Bytes.a K0.Base.Mem.Heap.Bytes.len K0.Base.Mem.Heap.Bytes.cap, .slice K0.Base.Mem.Heap.Class.a K0.Base.Mem.Heap.Class.len K0.Base.Mem.Heap.Class.cap, .slice K0.Base.Mem.Lists.Global.a K0.Base.Mem.Lists.Global.len K0.Base.Mem.Lists.Global.cap, .slice K0.Base.Mem.Lists.Own.a K0.Base.Mem.Lists.Own.len K0.Base.Mem.Lists.Own.cap, .int .i64 x0.Base.Clock.Epoch, .slice K0.Base.Clock.Pins.a K0.Base.Clock.Pins.len K0.Base.Clock.Pins.cap, .slice K0.Base.Limbo.a K0.Base.Limbo.len K0.Base.Limbo.cap, .slice K0.Base.Haz.a K0.Base.Haz.len K0.Base.Haz.cap, .slice K0.Cells.a K0.Cells.len K0.Cells.cap, .slice K0.Jobs.a K0.Jobs.len K0.Jobs.cap, .slice K0.Todo.a K0.Todo.len K0.Todo.cap, .slice K0.Log.a K0.Log.len K0.Log.cap, .int .i64 x0.Serial] 62))).heap.size := by simp <;> omega
    generalize hW : (w.alloc (.cells #[.slice K0.Base.Mem.Heap.Bytes.a K0.Base.Mem.Heap.Bytes.len K0.Base.Mem.Heap.Bytes.cap, .slice K0.Base.Mem.Heap.Class.a K0.Base.Mem.Heap.Class.len K0.Base.Mem.Heap.Class.cap, .slice K0.Base.Mem.Lists.Global.a K0.Base.Mem.Lists.Global.len K0.Base.Mem.Lists.Global.cap, .slice K0.Base.Mem.Lists.Own.a K0.Base.Mem.Lists.Own.len K0.Base.Mem.Lists.Own.cap, .int .i64 x0.Base.Clock.Epoch, .slice K0.Base.Clock.Pins.a K0.Base.Clock.Pins.len K0.Base.Clock.Pins.cap, .slice K0.Base.Limbo.a K0.Base.Limbo.len K0.Base.Limbo.cap, .slice K0.Base.Haz.a K0.Base.Haz.len K0.Base.Haz.cap, .slice K0.Cells.a K0.Cells.len K0.Cells.cap, .slice K0.Jobs.a K0.Jobs.len K0.Jobs.cap, .slice K0.Todo.a K0.Todo.len K0.Todo.cap, .slice K0.Log.a K0.Log.len K0.Log.cap, .int .i64 x0.Serial] 62)) = w0 at hB hB0 b0_0 b0_1 b0_2 b0_3 b0_4 b0_5 b0_6 b0_7 b0_8 b0_9 b0_10 b0_11 b0_12 z0 ⊢
    clear hW
    have zz0 := z0
    refine (szShelf_ct _ K0 x0 1048576 (rdShelf_up h0 hB) (by omega)).mono ?_
    rw [HL.out]
    rintro e w1 ⟨rfl, hb⟩
    replace hB := below_step0 hB hb hB.size
    have sz := hb.size
    replace b0_0 := cell_up hb z0 b0_0
    replace b0_1 := cell_up hb z0 b0_1
    replace b0_2 := cell_up hb z0 b0_2
    replace b0_3 := cell_up hb z0 b0_3
    replace b0_4 := cell_up hb z0 b0_4
    replace b0_5 := cell_up hb z0 b0_5
    replace b0_6 := cell_up hb z0 b0_6
    replace b0_7 := cell_up hb z0 b0_7
    replace b0_8 := cell_up hb z0 b0_8
    replace b0_9 := cell_up hb z0 b0_9
    replace b0_10 := cell_up hb z0 b0_10
    replace b0_11 := cell_up hb z0 b0_11
    replace b0_12 := cell_up hb z0 b0_12
    replace z0 := lt_step0 z0 hb
    clear hb
    go_wp2_with fail
    go_ret
    exact ⟨rfl, hB⟩
  obtain ⟨r0, HL0, hr0⟩ : ∃ r : Nat, Hid (leftOf 1048576 (sizeShelf x0) = (r : Int)) ∧ r + sizeShelf x0 = 1048576 := ⟨1048576 - sizeShelf x0, Hid.mk_ (by rw [leftOf_pos hs0']; omega), by omega⟩
  have hn0 := nMark_size_Shelf x0
  clear hs0'
  go_enter Tryz.func4, Tryz.ntmps4
  go_wp2_with fail
  have hB : Below w.heap.size w (w.alloc (.cells #[.slice K0.Base.Mem.Heap.Bytes.a K0.Base.Mem.Heap.Bytes.len K0.Base.Mem.Heap.Bytes.cap, .slice K0.Base.Mem.Heap.Class.a K0.Base.Mem.Heap.Class.len K0.Base.Mem.Heap.Class.cap, .slice K0.Base.Mem.Lists.Global.a K0.Base.Mem.Lists.Global.len K0.Base.Mem.Lists.Global.cap, .slice K0.Base.Mem.Lists.Own.a K0.Base.Mem.Lists.Own.len K0.Base.Mem.Lists.Own.cap, .int .i64 x0.Base.Clock.Epoch, .slice K0.Base.Clock.Pins.a K0.Base.Clock.Pins.len K0.Base.Clock.Pins.cap, .slice K0.Base.Limbo.a K0.Base.Limbo.len K0.Base.Limbo.cap, .slice K0.Base.Haz.a K0.Base.Haz.len K0.Base.Haz.cap, .slice K0.Cells.a K0.Cells.len K0.Cells.cap, .slice K0.Jobs.a K0.Jobs.len K0.Jobs.cap, .slice K0.Todo.a K0.Todo.len K0.Todo.cap, .slice K0.Log.a K0.Log.len K0.Log.cap, .int .i64 x0.Serial] 62)) := by repeat (first | exact Below.refl _ _ | refine Below.alloc ?_ (by simp <;> omega) _ | refine below_grow_of ?_ (by simp <;> omega) _ _ | refine Below.drew ?_ | refine below_drewN ?_ _)
  have hB0 := hB
  have b0_0 : ((w.alloc (.cells #[.slice K0.Base.Mem.Heap.Bytes.a K0.Base.Mem.Heap.Bytes.len K0.Base.Mem.Heap.Bytes.cap, .slice K0.Base.Mem.Heap.Class.a K0.Base.Mem.Heap.Class.len K0.Base.Mem.Heap.Class.cap, .slice K0.Base.Mem.Lists.Global.a K0.Base.Mem.Lists.Global.len K0.Base.Mem.Lists.Global.cap, .slice K0.Base.Mem.Lists.Own.a K0.Base.Mem.Lists.Own.len K0.Base.Mem.Lists.Own.cap, .int .i64 x0.Base.Clock.Epoch, .slice K0.Base.Clock.Pins.a K0.Base.Clock.Pins.len K0.Base.Clock.Pins.cap, .slice K0.Base.Limbo.a K0.Base.Limbo.len K0.Base.Limbo.cap, .slice K0.Base.Haz.a K0.Base.Haz.len K0.Base.Haz.cap, .slice K0.Cells.a K0.Cells.len K0.Cells.cap, .slice K0.Jobs.a K0.Jobs.len K0.Jobs.cap, .slice K0.Todo.a K0.Todo.len K0.Todo.cap, .slice K0.Log.a K0.Log.len K0.Log.cap, .int .i64 x0.Serial] 62))).cell? ⟨w.heap.size, 0, none⟩ = some (.slice K0.Base.Mem.Heap.Bytes.a K0.Base.Mem.Heap.Bytes.len K0.Base.Mem.Heap.Bytes.cap) := by simp [go_sem]
  have b0_1 : ((w.alloc (.cells #[.slice K0.Base.Mem.Heap.Bytes.a K0.Base.Mem.Heap.Bytes.len K0.Base.Mem.Heap.Bytes.cap, .slice K0.Base.Mem.Heap.Class.a K0.Base.Mem.Heap.Class.len K0.Base.Mem.Heap.Class.cap, .slice K0.Base.Mem.Lists.Global.a K0.Base.Mem.Lists.Global.len K0.Base.Mem.Lists.Global.cap, .slice K0.Base.Mem.Lists.Own.a K0.Base.Mem.Lists.Own.len K0.Base.Mem.Lists.Own.cap, .int .i64 x0.Base.Clock.Epoch, .slice K0.Base.Clock.Pins.a K0.Base.Clock.Pins.len K0.Base.Clock.Pins.cap, .slice K0.Base.Limbo.a K0.Base.Limbo.len K0.Base.Limbo.cap, .slice K0.Base.Haz.a K0.Base.Haz.len K0.Base.Haz.cap, .slice K0.Cells.a K0.Cells.len K0.Cells.cap, .slice K0.Jobs.a K0.Jobs.len K0.Jobs.cap, .slice K0.Todo.a K0.Todo.len K0.Todo.cap, .slice K0.Log.a K0.Log.len K0.Log.cap, .int .i64 x0.Serial] 62))).cell? ⟨w.heap.size, 1, none⟩ = some (.slice K0.Base.Mem.Heap.Class.a K0.Base.Mem.Heap.Class.len K0.Base.Mem.Heap.Class.cap) := by simp [go_sem]
  have b0_2 : ((w.alloc (.cells #[.slice K0.Base.Mem.Heap.Bytes.a K0.Base.Mem.Heap.Bytes.len K0.Base.Mem.Heap.Bytes.cap, .slice K0.Base.Mem.Heap.Class.a K0.Base.Mem.Heap.Class.len K0.Base.Mem.Heap.Class.cap, .slice K0.Base.Mem.Lists.Global.a K0.Base.Mem.Lists.Global.len K0.Base.Mem.Lists.Global.cap, .slice K0.Base.Mem.Lists.Own.a K0.Base.Mem.Lists.Own.len K0.Base.Mem.Lists.Own.cap, .int .i64 x0.Base.Clock.Epoch, .slice K0.Base.Clock.Pins.a K0.Base.Clock.Pins.len K0.Base.Clock.Pins.cap, .slice K0.Base.Limbo.a K0.Base.Limbo.len K0.Base.Limbo.cap, .slice K0.Base.Haz.a K0.Base.Haz.len K0.Base.Haz.cap, .slice K0.Cells.a K0.Cells.len K0.Cells.cap, .slice K0.Jobs.a K0.Jobs.len K0.Jobs.cap, .slice K0.Todo.a K0.Todo.len K0.Todo.cap, .slice K0.Log.a K0.Log.len K0.Log.cap, .int .i64 x0.Serial] 62))).cell? ⟨w.heap.size, 2, none⟩ = some (.slice K0.Base.Mem.Lists.Global.a K0.Base.Mem.Lists.Global.len K0.Base.Mem.Lists.Global.cap) := by simp [go_sem]
  have b0_3 : ((w.alloc (.cells #[.slice K0.Base.Mem.Heap.Bytes.a K0.Base.Mem.Heap.Bytes.len K0.Base.Mem.Heap.Bytes.cap, .slice K0.Base.Mem.Heap.Class.a K0.Base.Mem.Heap.Class.len K0.Base.Mem.Heap.Class.cap, .slice K0.Base.Mem.Lists.Global.a K0.Base.Mem.Lists.Global.len K0.Base.Mem.Lists.Global.cap, .slice K0.Base.Mem.Lists.Own.a K0.Base.Mem.Lists.Own.len K0.Base.Mem.Lists.Own.cap, .int .i64 x0.Base.Clock.Epoch, .slice K0.Base.Clock.Pins.a K0.Base.Clock.Pins.len K0.Base.Clock.Pins.cap, .slice K0.Base.Limbo.a K0.Base.Limbo.len K0.Base.Limbo.cap, .slice K0.Base.Haz.a K0.Base.Haz.len K0.Base.Haz.cap, .slice K0.Cells.a K0.Cells.len K0.Cells.cap, .slice K0.Jobs.a K0.Jobs.len K0.Jobs.cap, .slice K0.Todo.a K0.Todo.len K0.Todo.cap, .slice K0.Log.a K0.Log.len K0.Log.cap, .int .i64 x0.Serial] 62))).cell? ⟨w.heap.size, 3, none⟩ = some (.slice K0.Base.Mem.Lists.Own.a K0.Base.Mem.Lists.Own.len K0.Base.Mem.Lists.Own.cap) := by simp [go_sem]
  have b0_4 : ((w.alloc (.cells #[.slice K0.Base.Mem.Heap.Bytes.a K0.Base.Mem.Heap.Bytes.len K0.Base.Mem.Heap.Bytes.cap, .slice K0.Base.Mem.Heap.Class.a K0.Base.Mem.Heap.Class.len K0.Base.Mem.Heap.Class.cap, .slice K0.Base.Mem.Lists.Global.a K0.Base.Mem.Lists.Global.len K0.Base.Mem.Lists.Global.cap, .slice K0.Base.Mem.Lists.Own.a K0.Base.Mem.Lists.Own.len K0.Base.Mem.Lists.Own.cap, .int .i64 x0.Base.Clock.Epoch, .slice K0.Base.Clock.Pins.a K0.Base.Clock.Pins.len K0.Base.Clock.Pins.cap, .slice K0.Base.Limbo.a K0.Base.Limbo.len K0.Base.Limbo.cap, .slice K0.Base.Haz.a K0.Base.Haz.len K0.Base.Haz.cap, .slice K0.Cells.a K0.Cells.len K0.Cells.cap, .slice K0.Jobs.a K0.Jobs.len K0.Jobs.cap, .slice K0.Todo.a K0.Todo.len K0.Todo.cap, .slice K0.Log.a K0.Log.len K0.Log.cap, .int .i64 x0.Serial] 62))).cell? ⟨w.heap.size, 4, none⟩ = some (.int .i64 x0.Base.Clock.Epoch) := by simp [go_sem]
  have b0_5 : ((w.alloc (.cells #[.slice K0.Base.Mem.Heap.Bytes.a K0.Base.Mem.Heap.Bytes.len K0.Base.Mem.Heap.Bytes.cap, .slice K0.Base.Mem.Heap.Class.a K0.Base.Mem.Heap.Class.len K0.Base.Mem.Heap.Class.cap, .slice K0.Base.Mem.Lists.Global.a K0.Base.Mem.Lists.Global.len K0.Base.Mem.Lists.Global.cap, .slice K0.Base.Mem.Lists.Own.a K0.Base.Mem.Lists.Own.len K0.Base.Mem.Lists.Own.cap, .int .i64 x0.Base.Clock.Epoch, .slice K0.Base.Clock.Pins.a K0.Base.Clock.Pins.len K0.Base.Clock.Pins.cap, .slice K0.Base.Limbo.a K0.Base.Limbo.len K0.Base.Limbo.cap, .slice K0.Base.Haz.a K0.Base.Haz.len K0.Base.Haz.cap, .slice K0.Cells.a K0.Cells.len K0.Cells.cap, .slice K0.Jobs.a K0.Jobs.len K0.Jobs.cap, .slice K0.Todo.a K0.Todo.len K0.Todo.cap, .slice K0.Log.a K0.Log.len K0.Log.cap, .int .i64 x0.Serial] 62))).cell? ⟨w.heap.size, 5, none⟩ = some (.slice K0.Base.Clock.Pins.a K0.Base.Clock.Pins.len K0.Base.Clock.Pins.cap) := by simp [go_sem]
  have b0_6 : ((w.alloc (.cells #[.slice K0.Base.Mem.Heap.Bytes.a K0.Base.Mem.Heap.Bytes.len K0.Base.Mem.Heap.Bytes.cap, .slice K0.Base.Mem.Heap.Class.a K0.Base.Mem.Heap.Class.len K0.Base.Mem.Heap.Class.cap, .slice K0.Base.Mem.Lists.Global.a K0.Base.Mem.Lists.Global.len K0.Base.Mem.Lists.Global.cap, .slice K0.Base.Mem.Lists.Own.a K0.Base.Mem.Lists.Own.len K0.Base.Mem.Lists.Own.cap, .int .i64 x0.Base.Clock.Epoch, .slice K0.Base.Clock.Pins.a K0.Base.Clock.Pins.len K0.Base.Clock.Pins.cap, .slice K0.Base.Limbo.a K0.Base.Limbo.len K0.Base.Limbo.cap, .slice K0.Base.Haz.a K0.Base.Haz.len K0.Base.Haz.cap, .slice K0.Cells.a K0.Cells.len K0.Cells.cap, .slice K0.Jobs.a K0.Jobs.len K0.Jobs.cap, .slice K0.Todo.a K0.Todo.len K0.Todo.cap, .slice K0.Log.a K0.Log.len K0.Log.cap, .int .i64 x0.Serial] 62))).cell? ⟨w.heap.size, 6, none⟩ = some (.slice K0.Base.Limbo.a K0.Base.Limbo.len K0.Base.Limbo.cap) := by simp [go_sem]
  have b0_7 : ((w.alloc (.cells #[.slice K0.Base.Mem.Heap.Bytes.a K0.Base.Mem.Heap.Bytes.len K0.Base.Mem.Heap.Bytes.cap, .slice K0.Base.Mem.Heap.Class.a K0.Base.Mem.Heap.Class.len K0.Base.Mem.Heap.Class.cap, .slice K0.Base.Mem.Lists.Global.a K0.Base.Mem.Lists.Global.len K0.Base.Mem.Lists.Global.cap, .slice K0.Base.Mem.Lists.Own.a K0.Base.Mem.Lists.Own.len K0.Base.Mem.Lists.Own.cap, .int .i64 x0.Base.Clock.Epoch, .slice K0.Base.Clock.Pins.a K0.Base.Clock.Pins.len K0.Base.Clock.Pins.cap, .slice K0.Base.Limbo.a K0.Base.Limbo.len K0.Base.Limbo.cap, .slice K0.Base.Haz.a K0.Base.Haz.len K0.Base.Haz.cap, .slice K0.Cells.a K0.Cells.len K0.Cells.cap, .slice K0.Jobs.a K0.Jobs.len K0.Jobs.cap, .slice K0.Todo.a K0.Todo.len K0.Todo.cap, .slice K0.Log.a K0.Log.len K0.Log.cap, .int .i64 x0.Serial] 62))).cell? ⟨w.heap.size, 7, none⟩ = some (.slice K0.Base.Haz.a K0.Base.Haz.len K0.Base.Haz.cap) := by simp [go_sem]
  have b0_8 : ((w.alloc (.cells #[.slice K0.Base.Mem.Heap.Bytes.a K0.Base.Mem.Heap.Bytes.len K0.Base.Mem.Heap.Bytes.cap, .slice K0.Base.Mem.Heap.Class.a K0.Base.Mem.Heap.Class.len K0.Base.Mem.Heap.Class.cap, .slice K0.Base.Mem.Lists.Global.a K0.Base.Mem.Lists.Global.len K0.Base.Mem.Lists.Global.cap, .slice K0.Base.Mem.Lists.Own.a K0.Base.Mem.Lists.Own.len K0.Base.Mem.Lists.Own.cap, .int .i64 x0.Base.Clock.Epoch, .slice K0.Base.Clock.Pins.a K0.Base.Clock.Pins.len K0.Base.Clock.Pins.cap, .slice K0.Base.Limbo.a K0.Base.Limbo.len K0.Base.Limbo.cap, .slice K0.Base.Haz.a K0.Base.Haz.len K0.Base.Haz.cap, .slice K0.Cells.a K0.Cells.len K0.Cells.cap, .slice K0.Jobs.a K0.Jobs.len K0.Jobs.cap, .slice K0.Todo.a K0.Todo.len K0.Todo.cap, .slice K0.Log.a K0.Log.len K0.Log.cap, .int .i64 x0.Serial] 62))).cell? ⟨w.heap.size, 8, none⟩ = some (.slice K0.Cells.a K0.Cells.len K0.Cells.cap) := by simp [go_sem]
  have b0_9 : ((w.alloc (.cells #[.slice K0.Base.Mem.Heap.Bytes.a K0.Base.Mem.Heap.Bytes.len K0.Base.Mem.Heap.Bytes.cap, .slice K0.Base.Mem.Heap.Class.a K0.Base.Mem.Heap.Class.len K0.Base.Mem.Heap.Class.cap, .slice K0.Base.Mem.Lists.Global.a K0.Base.Mem.Lists.Global.len K0.Base.Mem.Lists.Global.cap, .slice K0.Base.Mem.Lists.Own.a K0.Base.Mem.Lists.Own.len K0.Base.Mem.Lists.Own.cap, .int .i64 x0.Base.Clock.Epoch, .slice K0.Base.Clock.Pins.a K0.Base.Clock.Pins.len K0.Base.Clock.Pins.cap, .slice K0.Base.Limbo.a K0.Base.Limbo.len K0.Base.Limbo.cap, .slice K0.Base.Haz.a K0.Base.Haz.len K0.Base.Haz.cap, .slice K0.Cells.a K0.Cells.len K0.Cells.cap, .slice K0.Jobs.a K0.Jobs.len K0.Jobs.cap, .slice K0.Todo.a K0.Todo.len K0.Todo.cap, .slice K0.Log.a K0.Log.len K0.Log.cap, .int .i64 x0.Serial] 62))).cell? ⟨w.heap.size, 9, none⟩ = some (.slice K0.Jobs.a K0.Jobs.len K0.Jobs.cap) := by simp [go_sem]
  have b0_10 : ((w.alloc (.cells #[.slice K0.Base.Mem.Heap.Bytes.a K0.Base.Mem.Heap.Bytes.len K0.Base.Mem.Heap.Bytes.cap, .slice K0.Base.Mem.Heap.Class.a K0.Base.Mem.Heap.Class.len K0.Base.Mem.Heap.Class.cap, .slice K0.Base.Mem.Lists.Global.a K0.Base.Mem.Lists.Global.len K0.Base.Mem.Lists.Global.cap, .slice K0.Base.Mem.Lists.Own.a K0.Base.Mem.Lists.Own.len K0.Base.Mem.Lists.Own.cap, .int .i64 x0.Base.Clock.Epoch, .slice K0.Base.Clock.Pins.a K0.Base.Clock.Pins.len K0.Base.Clock.Pins.cap, .slice K0.Base.Limbo.a K0.Base.Limbo.len K0.Base.Limbo.cap, .slice K0.Base.Haz.a K0.Base.Haz.len K0.Base.Haz.cap, .slice K0.Cells.a K0.Cells.len K0.Cells.cap, .slice K0.Jobs.a K0.Jobs.len K0.Jobs.cap, .slice K0.Todo.a K0.Todo.len K0.Todo.cap, .slice K0.Log.a K0.Log.len K0.Log.cap, .int .i64 x0.Serial] 62))).cell? ⟨w.heap.size, 10, none⟩ = some (.slice K0.Todo.a K0.Todo.len K0.Todo.cap) := by simp [go_sem]
  have b0_11 : ((w.alloc (.cells #[.slice K0.Base.Mem.Heap.Bytes.a K0.Base.Mem.Heap.Bytes.len K0.Base.Mem.Heap.Bytes.cap, .slice K0.Base.Mem.Heap.Class.a K0.Base.Mem.Heap.Class.len K0.Base.Mem.Heap.Class.cap, .slice K0.Base.Mem.Lists.Global.a K0.Base.Mem.Lists.Global.len K0.Base.Mem.Lists.Global.cap, .slice K0.Base.Mem.Lists.Own.a K0.Base.Mem.Lists.Own.len K0.Base.Mem.Lists.Own.cap, .int .i64 x0.Base.Clock.Epoch, .slice K0.Base.Clock.Pins.a K0.Base.Clock.Pins.len K0.Base.Clock.Pins.cap, .slice K0.Base.Limbo.a K0.Base.Limbo.len K0.Base.Limbo.cap, .slice K0.Base.Haz.a K0.Base.Haz.len K0.Base.Haz.cap, .slice K0.Cells.a K0.Cells.len K0.Cells.cap, .slice K0.Jobs.a K0.Jobs.len K0.Jobs.cap, .slice K0.Todo.a K0.Todo.len K0.Todo.cap, .slice K0.Log.a K0.Log.len K0.Log.cap, .int .i64 x0.Serial] 62))).cell? ⟨w.heap.size, 11, none⟩ = some (.slice K0.Log.a K0.Log.len K0.Log.cap) := by simp [go_sem]
  have b0_12 : ((w.alloc (.cells #[.slice K0.Base.Mem.Heap.Bytes.a K0.Base.Mem.Heap.Bytes.len K0.Base.Mem.Heap.Bytes.cap, .slice K0.Base.Mem.Heap.Class.a K0.Base.Mem.Heap.Class.len K0.Base.Mem.Heap.Class.cap, .slice K0.Base.Mem.Lists.Global.a K0.Base.Mem.Lists.Global.len K0.Base.Mem.Lists.Global.cap, .slice K0.Base.Mem.Lists.Own.a K0.Base.Mem.Lists.Own.len K0.Base.Mem.Lists.Own.cap, .int .i64 x0.Base.Clock.Epoch, .slice K0.Base.Clock.Pins.a K0.Base.Clock.Pins.len K0.Base.Clock.Pins.cap, .slice K0.Base.Limbo.a K0.Base.Limbo.len K0.Base.Limbo.cap, .slice K0.Base.Haz.a K0.Base.Haz.len K0.Base.Haz.cap, .slice K0.Cells.a K0.Cells.len K0.Cells.cap, .slice K0.Jobs.a K0.Jobs.len K0.Jobs.cap, .slice K0.Todo.a K0.Todo.len K0.Todo.cap, .slice K0.Log.a K0.Log.len K0.Log.cap, .int .i64 x0.Serial] 62))).cell? ⟨w.heap.size, 12, none⟩ = some (.int .i64 x0.Serial) := by simp [go_sem]
  have z0 : w.heap.size < ((w.alloc (.cells #[.slice K0.Base.Mem.Heap.Bytes.a K0.Base.Mem.Heap.Bytes.len K0.Base.Mem.Heap.Bytes.cap, .slice K0.Base.Mem.Heap.Class.a K0.Base.Mem.Heap.Class.len K0.Base.Mem.Heap.Class.cap, .slice K0.Base.Mem.Lists.Global.a K0.Base.Mem.Lists.Global.len K0.Base.Mem.Lists.Global.cap, .slice K0.Base.Mem.Lists.Own.a K0.Base.Mem.Lists.Own.len K0.Base.Mem.Lists.Own.cap, .int .i64 x0.Base.Clock.Epoch, .slice K0.Base.Clock.Pins.a K0.Base.Clock.Pins.len K0.Base.Clock.Pins.cap, .slice K0.Base.Limbo.a K0.Base.Limbo.len K0.Base.Limbo.cap, .slice K0.Base.Haz.a K0.Base.Haz.len K0.Base.Haz.cap, .slice K0.Cells.a K0.Cells.len K0.Cells.cap, .slice K0.Jobs.a K0.Jobs.len K0.Jobs.cap, .slice K0.Todo.a K0.Todo.len K0.Todo.cap, .slice K0.Log.a K0.Log.len K0.Log.cap, .int .i64 x0.Serial] 62))).heap.size := by simp <;> omega
  generalize hW : (w.alloc (.cells #[.slice K0.Base.Mem.Heap.Bytes.a K0.Base.Mem.Heap.Bytes.len K0.Base.Mem.Heap.Bytes.cap, .slice K0.Base.Mem.Heap.Class.a K0.Base.Mem.Heap.Class.len K0.Base.Mem.Heap.Class.cap, .slice K0.Base.Mem.Lists.Global.a K0.Base.Mem.Lists.Global.len K0.Base.Mem.Lists.Global.cap, .slice K0.Base.Mem.Lists.Own.a K0.Base.Mem.Lists.Own.len K0.Base.Mem.Lists.Own.cap, .int .i64 x0.Base.Clock.Epoch, .slice K0.Base.Clock.Pins.a K0.Base.Clock.Pins.len K0.Base.Clock.Pins.cap, .slice K0.Base.Limbo.a K0.Base.Limbo.len K0.Base.Limbo.cap, .slice K0.Base.Haz.a K0.Base.Haz.len K0.Base.Haz.cap, .slice K0.Cells.a K0.Cells.len K0.Cells.cap, .slice K0.Jobs.a K0.Jobs.len K0.Jobs.cap, .slice K0.Todo.a K0.Todo.len K0.Todo.cap, .slice K0.Log.a K0.Log.len K0.Log.cap, .int .i64 x0.Serial] 62)) = w0 at hB hB0 b0_0 b0_1 b0_2 b0_3 b0_4 b0_5 b0_6 b0_7 b0_8 b0_9 b0_10 b0_11 b0_12 z0 ⊢
  clear hW
  have zz0 := z0
  refine (szShelf_ct _ K0 x0 1048576 (rdShelf_up h0 hB) (by omega)).mono ?_
  rw [HL0.out]
  rintro e w1 ⟨rfl, hb⟩
  replace hB := below_step0 hB hb hB.size
  have sz := hb.size
  replace b0_0 := cell_up hb z0 b0_0
  replace b0_1 := cell_up hb z0 b0_1
  replace b0_2 := cell_up hb z0 b0_2
  replace b0_3 := cell_up hb z0 b0_3
  replace b0_4 := cell_up hb z0 b0_4
  replace b0_5 := cell_up hb z0 b0_5
  replace b0_6 := cell_up hb z0 b0_6
  replace b0_7 := cell_up hb z0 b0_7
  replace b0_8 := cell_up hb z0 b0_8
  replace b0_9 := cell_up hb z0 b0_9
  replace b0_10 := cell_up hb z0 b0_10
  replace b0_11 := cell_up hb z0 b0_11
  replace b0_12 := cell_up hb z0 b0_12
  replace z0 := lt_step0 z0 hb
  clear hb
  go_wp2_with fail
  refine (toShelf_ct _ K0 x0 (rdShelf_up h0 hB) (by omega)).mono ?_
  rintro e w2 ⟨K_a0, rfl, o_a0, lb_a0, hb⟩
  replace hB := below_step0 hB hb hB.size
  have sz := hb.size
  replace b0_0 := cell_up hb z0 b0_0
  replace b0_1 := cell_up hb z0 b0_1
  replace b0_2 := cell_up hb z0 b0_2
  replace b0_3 := cell_up hb z0 b0_3
  replace b0_4 := cell_up hb z0 b0_4
  replace b0_5 := cell_up hb z0 b0_5
  replace b0_6 := cell_up hb z0 b0_6
  replace b0_7 := cell_up hb z0 b0_7
  replace b0_8 := cell_up hb z0 b0_8
  replace b0_9 := cell_up hb z0 b0_9
  replace b0_10 := cell_up hb z0 b0_10
  replace b0_11 := cell_up hb z0 b0_11
  replace b0_12 := cell_up hb z0 b0_12
  replace z0 := lt_step0 z0 hb
  clear hb
  have ub_a0 := o_a0.lt
  go_wp2_with fail
  refine (SafeNow_specS _ _ x0   o_a0.rd' (by omega)).mono ?_
  rintro e w3 ⟨rfl, hb⟩
  replace hB := below_step0 hB hb hB.size
  have sz := hb.size
  replace b0_0 := cell_up hb z0 b0_0
  replace b0_1 := cell_up hb z0 b0_1
  replace b0_2 := cell_up hb z0 b0_2
  replace b0_3 := cell_up hb z0 b0_3
  replace b0_4 := cell_up hb z0 b0_4
  replace b0_5 := cell_up hb z0 b0_5
  replace b0_6 := cell_up hb z0 b0_6
  replace b0_7 := cell_up hb z0 b0_7
  replace b0_8 := cell_up hb z0 b0_8
  replace b0_9 := cell_up hb z0 b0_9
  replace b0_10 := cell_up hb z0 b0_10
  replace b0_11 := cell_up hb z0 b0_11
  replace b0_12 := cell_up hb z0 b0_12
  replace z0 := lt_step0 z0 hb
  replace o_a0 := o_a0.step0 hb
  clear hb
  go_wp2_with fail
  refine (toShelf_ct _ K0 x0 (rdShelf_up h0 hB) (by omega)).mono ?_
  rintro e w4 ⟨K_x0, rfl, o_x0, lb_x0, hb⟩
  replace hB := below_step0 hB hb hB.size
  have sz := hb.size
  replace b0_0 := cell_up hb z0 b0_0
  replace b0_1 := cell_up hb z0 b0_1
  replace b0_2 := cell_up hb z0 b0_2
  replace b0_3 := cell_up hb z0 b0_3
  replace b0_4 := cell_up hb z0 b0_4
  replace b0_5 := cell_up hb z0 b0_5
  replace b0_6 := cell_up hb z0 b0_6
  replace b0_7 := cell_up hb z0 b0_7
  replace b0_8 := cell_up hb z0 b0_8
  replace b0_9 := cell_up hb z0 b0_9
  replace b0_10 := cell_up hb z0 b0_10
  replace b0_11 := cell_up hb z0 b0_11
  replace b0_12 := cell_up hb z0 b0_12
  replace z0 := lt_step0 z0 hb
  replace o_a0 := o_a0.step0 hb
  clear hb
  have ub_x0 := o_x0.lt
  go_wp2_with fail
  refine (SafeNow_implS _ _ x0   (o_x0.alloc_ _).rd' (by omega)).mono ?_
  rintro e w5 ⟨rfl, hb⟩
  replace hB := below_step hB hb hB.size
  have sz := hb.size
  simp only [World.size_alloc] at sz
  replace b0_0 := up2 hb z0 b0_0
  replace b0_1 := up2 hb z0 b0_1
  replace b0_2 := up2 hb z0 b0_2
  replace b0_3 := up2 hb z0 b0_3
  replace b0_4 := up2 hb z0 b0_4
  replace b0_5 := up2 hb z0 b0_5
  replace b0_6 := up2 hb z0 b0_6
  replace b0_7 := up2 hb z0 b0_7
  replace b0_8 := up2 hb z0 b0_8
  replace b0_9 := up2 hb z0 b0_9
  replace b0_10 := up2 hb z0 b0_10
  replace b0_11 := up2 hb z0 b0_11
  replace b0_12 := up2 hb z0 b0_12
  replace z0 := lt_step z0 hb
  have b1_0 := new_cell hb (j := 0) rfl
  have b1_1 := new_cell hb (j := 1) rfl
  have b1_2 := new_cell hb (j := 2) rfl
  have b1_3 := new_cell hb (j := 3) rfl
  have b1_4 := new_cell hb (j := 4) rfl
  have b1_5 := new_cell hb (j := 5) rfl
  have b1_6 := new_cell hb (j := 6) rfl
  have b1_7 := new_cell hb (j := 7) rfl
  have b1_8 := new_cell hb (j := 8) rfl
  have b1_9 := new_cell hb (j := 9) rfl
  have b1_10 := new_cell hb (j := 10) rfl
  have b1_11 := new_cell hb (j := 11) rfl
  have b1_12 := new_cell hb (j := 12) rfl
  have z1 := new_lt hb
  have zz1 := z1
  replace o_a0 := o_a0.step hb
  replace o_x0 := o_x0.step hb
  clear hb
  go_upto_region 10 with (fail)
  go_cut [26] from 22 to 26 (fun r wx => r = .bool false ∧ Below w.heap.size w wx ∧ wx.cell? ⟨w.heap.size, 0, none⟩ = some (.slice K0.Base.Mem.Heap.Bytes.a K0.Base.Mem.Heap.Bytes.len K0.Base.Mem.Heap.Bytes.cap) ∧ wx.cell? ⟨w.heap.size, 1, none⟩ = some (.slice K0.Base.Mem.Heap.Class.a K0.Base.Mem.Heap.Class.len K0.Base.Mem.Heap.Class.cap) ∧ wx.cell? ⟨w.heap.size, 2, none⟩ = some (.slice K0.Base.Mem.Lists.Global.a K0.Base.Mem.Lists.Global.len K0.Base.Mem.Lists.Global.cap) ∧ wx.cell? ⟨w.heap.size, 3, none⟩ = some (.slice K0.Base.Mem.Lists.Own.a K0.Base.Mem.Lists.Own.len K0.Base.Mem.Lists.Own.cap) ∧ wx.cell? ⟨w.heap.size, 4, none⟩ = some (.int .i64 x0.Base.Clock.Epoch) ∧ wx.cell? ⟨w.heap.size, 5, none⟩ = some (.slice K0.Base.Clock.Pins.a K0.Base.Clock.Pins.len K0.Base.Clock.Pins.cap) ∧ wx.cell? ⟨w.heap.size, 6, none⟩ = some (.slice K0.Base.Limbo.a K0.Base.Limbo.len K0.Base.Limbo.cap) ∧ wx.cell? ⟨w.heap.size, 7, none⟩ = some (.slice K0.Base.Haz.a K0.Base.Haz.len K0.Base.Haz.cap) ∧ wx.cell? ⟨w.heap.size, 8, none⟩ = some (.slice K0.Cells.a K0.Cells.len K0.Cells.cap) ∧ wx.cell? ⟨w.heap.size, 9, none⟩ = some (.slice K0.Jobs.a K0.Jobs.len K0.Jobs.cap) ∧ wx.cell? ⟨w.heap.size, 10, none⟩ = some (.slice K0.Todo.a K0.Todo.len K0.Todo.cap) ∧ wx.cell? ⟨w.heap.size, 11, none⟩ = some (.slice K0.Log.a K0.Log.len K0.Log.cap) ∧ wx.cell? ⟨w.heap.size, 12, none⟩ = some (.int .i64 x0.Serial) ∧ w.heap.size < wx.heap.size ∧ wx.cell? ⟨w4.heap.size, 0, none⟩ = some (.slice K_x0.Base.Mem.Heap.Bytes.a K_x0.Base.Mem.Heap.Bytes.len K_x0.Base.Mem.Heap.Bytes.cap) ∧ wx.cell? ⟨w4.heap.size, 1, none⟩ = some (.slice K_x0.Base.Mem.Heap.Class.a K_x0.Base.Mem.Heap.Class.len K_x0.Base.Mem.Heap.Class.cap) ∧ wx.cell? ⟨w4.heap.size, 2, none⟩ = some (.slice K_x0.Base.Mem.Lists.Global.a K_x0.Base.Mem.Lists.Global.len K_x0.Base.Mem.Lists.Global.cap) ∧ wx.cell? ⟨w4.heap.size, 3, none⟩ = some (.slice K_x0.Base.Mem.Lists.Own.a K_x0.Base.Mem.Lists.Own.len K_x0.Base.Mem.Lists.Own.cap) ∧ wx.cell? ⟨w4.heap.size, 4, none⟩ = some (.int .i64 x0.Base.Clock.Epoch) ∧ wx.cell? ⟨w4.heap.size, 5, none⟩ = some (.slice K_x0.Base.Clock.Pins.a K_x0.Base.Clock.Pins.len K_x0.Base.Clock.Pins.cap) ∧ wx.cell? ⟨w4.heap.size, 6, none⟩ = some (.slice K_x0.Base.Limbo.a K_x0.Base.Limbo.len K_x0.Base.Limbo.cap) ∧ wx.cell? ⟨w4.heap.size, 7, none⟩ = some (.slice K_x0.Base.Haz.a K_x0.Base.Haz.len K_x0.Base.Haz.cap) ∧ wx.cell? ⟨w4.heap.size, 8, none⟩ = some (.slice K_x0.Cells.a K_x0.Cells.len K_x0.Cells.cap) ∧ wx.cell? ⟨w4.heap.size, 9, none⟩ = some (.slice K_x0.Jobs.a K_x0.Jobs.len K_x0.Jobs.cap) ∧ wx.cell? ⟨w4.heap.size, 10, none⟩ = some (.slice K_x0.Todo.a K_x0.Todo.len K_x0.Todo.cap) ∧ wx.cell? ⟨w4.heap.size, 11, none⟩ = some (.slice K_x0.Log.a K_x0.Log.len K_x0.Log.cap) ∧ wx.cell? ⟨w4.heap.size, 12, none⟩ = some (.int .i64 x0.Serial) ∧ w4.heap.size < wx.heap.size ∧ OwShelf wx K_x0 x0)
  case first =>
    go_region_with (first | (go_at_call 22; (first | ((with_reducible refine (toShelf_ct _ K0 x0 (rdShelf_up h0 hB) (by omega)).mono ?_); rintro e wq ⟨K_c0, rfl, o_c0, lb_c0, hb⟩) | ((with_reducible refine (toShelf_ct _ K0 x0 (rdShelf_up h0 hB.drew) (by omega)).mono ?_); rintro e wq ⟨K_c0, rfl, o_c0, lb_c0, hb⟩; replace hb := undrew hb; replace lb_c0 := fcdrew lb_c0)); replace hB := below_step0 hB hb hB.size; have sz := hb.size; replace b0_0 := cell_up hb z0 b0_0; replace b0_1 := cell_up hb z0 b0_1; replace b0_2 := cell_up hb z0 b0_2; replace b0_3 := cell_up hb z0 b0_3; replace b0_4 := cell_up hb z0 b0_4; replace b0_5 := cell_up hb z0 b0_5; replace b0_6 := cell_up hb z0 b0_6; replace b0_7 := cell_up hb z0 b0_7; replace b0_8 := cell_up hb z0 b0_8; replace b0_9 := cell_up hb z0 b0_9; replace b0_10 := cell_up hb z0 b0_10; replace b0_11 := cell_up hb z0 b0_11; replace b0_12 := cell_up hb z0 b0_12; replace z0 := lt_step0 z0 hb; replace b1_0 := cell_up hb z1 b1_0; replace b1_1 := cell_up hb z1 b1_1; replace b1_2 := cell_up hb z1 b1_2; replace b1_3 := cell_up hb z1 b1_3; replace b1_4 := cell_up hb z1 b1_4; replace b1_5 := cell_up hb z1 b1_5; replace b1_6 := cell_up hb z1 b1_6; replace b1_7 := cell_up hb z1 b1_7; replace b1_8 := cell_up hb z1 b1_8; replace b1_9 := cell_up hb z1 b1_9; replace b1_10 := cell_up hb z1 b1_10; replace b1_11 := cell_up hb z1 b1_11; replace b1_12 := cell_up hb z1 b1_12; replace z1 := lt_step0 z1 hb; replace o_a0 := o_a0.step0 hb; replace o_x0 := o_x0.step0 hb; clear hb; have ub_c0 := o_c0.lt) | (go_at_call 24; (with_reducible refine (eqShelf_ct _ _ _ _ o_x0.rd' o_c0.rd' (by omega)).mono ?_); rintro e wq ⟨rfl, hb⟩; replace hB := below_step0 hB hb hB.size; have sz := hb.size; replace b0_0 := cell_up hb z0 b0_0; replace b0_1 := cell_up hb z0 b0_1; replace b0_2 := cell_up hb z0 b0_2; replace b0_3 := cell_up hb z0 b0_3; replace b0_4 := cell_up hb z0 b0_4; replace b0_5 := cell_up hb z0 b0_5; replace b0_6 := cell_up hb z0 b0_6; replace b0_7 := cell_up hb z0 b0_7; replace b0_8 := cell_up hb z0 b0_8; replace b0_9 := cell_up hb z0 b0_9; replace b0_10 := cell_up hb z0 b0_10; replace b0_11 := cell_up hb z0 b0_11; replace b0_12 := cell_up hb z0 b0_12; replace z0 := lt_step0 z0 hb; replace b1_0 := cell_up hb z1 b1_0; replace b1_1 := cell_up hb z1 b1_1; replace b1_2 := cell_up hb z1 b1_2; replace b1_3 := cell_up hb z1 b1_3; replace b1_4 := cell_up hb z1 b1_4; replace b1_5 := cell_up hb z1 b1_5; replace b1_6 := cell_up hb z1 b1_6; replace b1_7 := cell_up hb z1 b1_7; replace b1_8 := cell_up hb z1 b1_8; replace b1_9 := cell_up hb z1 b1_9; replace b1_10 := cell_up hb z1 b1_10; replace b1_11 := cell_up hb z1 b1_11; replace b1_12 := cell_up hb z1 b1_12; replace z1 := lt_step0 z1 hb; replace o_a0 := o_a0.step0 hb; replace o_x0 := o_x0.step0 hb; replace o_c0 := o_c0.step0 hb; clear hb))
    all_goals
      go_wp2_with fail
      go_meet
      exact ⟨rfl, hB, b0_0, b0_1, b0_2, b0_3, b0_4, b0_5, b0_6, b0_7, b0_8, b0_9, b0_10, b0_11, b0_12, z0, b1_0, b1_1, b1_2, b1_3, b1_4, b1_5, b1_6, b1_7, b1_8, b1_9, b1_10, b1_11, b1_12, z1, o_x0⟩
  case rest =>
    clear hB
    clear b0_0
    clear b0_1
    clear b0_2
    clear b0_3
    clear b0_4
    clear b0_5
    clear b0_6
    clear b0_7
    clear b0_8
    clear b0_9
    clear b0_10
    clear b0_11
    clear b0_12
    clear z0
    clear b1_0
    clear b1_1
    clear b1_2
    clear b1_3
    clear b1_4
    clear b1_5
    clear b1_6
    clear b1_7
    clear b1_8
    clear b1_9
    clear b1_10
    clear b1_11
    clear b1_12
    clear z1
    clear o_x0
    obtain ⟨rfl, hB, b0_0, b0_1, b0_2, b0_3, b0_4, b0_5, b0_6, b0_7, b0_8, b0_9, b0_10, b0_11, b0_12, z0, b1_0, b1_1, b1_2, b1_3, b1_4, b1_5, b1_6, b1_7, b1_8, b1_9, b1_10, b1_11, b1_12, z1, o_x0⟩ := hcut
    go_wp2_with fail
    go_ret
    exact ⟨rfl, hB⟩
end Go.Proofs.YtkldapdpaldbgaaGreat
