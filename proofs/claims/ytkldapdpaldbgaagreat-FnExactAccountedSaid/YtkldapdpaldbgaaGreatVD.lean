/-
  What is named: plain facts. What is named, of the reference: the contract.
-/
import Derived.Test.YtkldapdpaldbgaaGreatT
import Derived.Test.YtkldapdpaldbgaaGreatL
import Derived.Deep.QuietTactic
import Derived.BigQuiet
import Derived.Deep.LoopGhost
import Derived.Deep.RegionHeld3
import Derived.Test.YtkldapdpaldbgaaGreatN
import Derived.Test.YtkldapdpaldbgaaGreatA
import Derived.WalkSpells
import Derived.Laws.Cover3
import Derived.Test.YtkldapdpaldbgaaGreatVX
import Derived.Deep.CutRange
namespace Go.Proofs.YtkldapdpaldbgaaGreat
open Go.RowKit

def nVal (j : Job) : Int := if j.Op.Kind = 1 then (if j.Pc = 1 ∨ j.Pc = 2 then j.H else if j.Pc = 3 then j.Old else 0) else 0
def nV (x : Shelf) (k : Nat) : Int := nVal (x.Jobs.getD k zeroJob)
def putNz (l : List Int) (v : Int) : List Int := if v = 0 then l else putP l v
def ncTo (x : Shelf) : Nat → List Int
  | 0 => []
  | k + 1 => putNz (ncTo x k) (x.Cells.getD k 0)
def njTo (x : Shelf) : Nat → List Int
  | 0 => ncTo x 2
  | k + 1 => putNz (njTo x k) (nV x k)
def namedS (x : Shelf) : List Int := if shelfOkB x = true then njTo x 3 else []
theorem putNz_len (l : List Int) (v : Int) : (putNz l v).length ≤ l.length + 1 := by
  unfold putNz
  split
  · omega
  · exact putP_len l v
theorem putNz_nodup {l : List Int} (v : Int) (h : l.Nodup) : (putNz l v).Nodup := by
  unfold putNz
  split
  · exact h
  · exact putP_nodup v h
theorem putNz_mem (l : List Int) (v h : Int) : h ∈ putNz l v ↔ (h = v ∧ h ≠ 0) ∨ h ∈ l := by
  unfold putNz
  by_cases e : v = 0
  · rw [if_pos e]
    exact ⟨Or.inr, fun a => a.elim (fun b => absurd (b.1.trans e) b.2) id⟩
  · rw [if_neg e, putP_mem]
    exact ⟨fun a => a.imp (fun b => ⟨b, fun z => e (b ▸ z)⟩) id, fun a => a.imp (fun b => b.1) id⟩
theorem ncTo_len (x : Shelf) : ∀ k, (ncTo x k).length ≤ k
  | 0 => Nat.le_refl _
  | k + 1 => Nat.le_trans (putNz_len _ _) (by have := ncTo_len x k; omega)
theorem njTo_len (x : Shelf) : ∀ k, (njTo x k).length ≤ k + 2
  | 0 => ncTo_len x 2
  | k + 1 => Nat.le_trans (putNz_len _ _) (by have := njTo_len x k; omega)
theorem ncTo_nodup (x : Shelf) : ∀ k, (ncTo x k).Nodup
  | 0 => List.nodup_nil
  | k + 1 => putNz_nodup _ (ncTo_nodup x k)
theorem njTo_nodup (x : Shelf) : ∀ k, (njTo x k).Nodup
  | 0 => ncTo_nodup x 2
  | k + 1 => putNz_nodup _ (njTo_nodup x k)
theorem ncTo_mem (x : Shelf) (h : Int) : ∀ k, h ∈ ncTo x k ↔ h ≠ 0 ∧ ∃ i, i < k ∧ h = x.Cells.getD i 0
  | 0 => by simp [ncTo]
  | k + 1 => by
    rw [ncTo, putNz_mem, ncTo_mem x h k]
    constructor
    · rintro (⟨e, z⟩ | ⟨z, i, hi, e⟩)
      · exact ⟨z, k, by omega, e⟩
      · exact ⟨z, i, by omega, e⟩
    · rintro ⟨z, i, hi, e⟩
      by_cases c : i = k
      · exact Or.inl ⟨c ▸ e, z⟩
      · exact Or.inr ⟨z, i, by omega, e⟩
theorem njTo_mem (x : Shelf) (h : Int) : ∀ k, h ∈ njTo x k ↔ h ≠ 0 ∧ ((∃ i, i < 2 ∧ h = x.Cells.getD i 0) ∨ ∃ i, i < k ∧ h = nV x i)
  | 0 => by
    rw [njTo, ncTo_mem]
    exact ⟨fun a => ⟨a.1, Or.inl a.2⟩, fun a => ⟨a.1, a.2.elim id (fun ⟨i, hi, _⟩ => absurd hi (Nat.not_lt_zero _))⟩⟩
  | k + 1 => by
    rw [njTo, putNz_mem, njTo_mem x h k]
    constructor
    · rintro (⟨e, z⟩ | ⟨z, c | ⟨i, hi, e⟩⟩)
      · exact ⟨z, Or.inr ⟨k, by omega, e⟩⟩
      · exact ⟨z, Or.inl c⟩
      · exact ⟨z, Or.inr ⟨i, by omega, e⟩⟩
    · rintro ⟨z, c | ⟨i, hi, e⟩⟩
      · exact Or.inr ⟨z, Or.inl c⟩
      · by_cases hk : i = k
        · exact Or.inl ⟨hk ▸ e, z⟩
        · exact Or.inr ⟨z, Or.inr ⟨i, by omega, e⟩⟩
theorem shelf_cells {x : Shelf} (h : shelfOkB x = true) : x.Cells.length = 2 := by
  unfold shelfOkB at h
  simp only [Bool.and_eq_true, beq_iff_eq] at h
  exact h.1.1.1.1.1.2
end Go.Proofs.YtkldapdpaldbgaaGreat
namespace Go.Proofs.YtkldapdpaldbgaaGreat
open Go.RowKit
attribute [local go_sem ↓] execJob
attribute [local go_sem] loadResJob

set_option maxRecDepth 100000 in
set_option maxHeartbeats 8000000 in
theorem Named_spec (w : World) (H : HShelf) (x : Shelf) (h : RdShelf w w.heap.size H x) (hs : szLL x.Base.Limbo ≤ 536870912) (hs1 : szLL x.Base.Mem.Lists.Global ≤ 536870912) (hs2 : szLL x.Base.Mem.Lists.Own ≤ 536870912) :
    Calls Tryz.prog 77 #[.agg #[.slice H.Base.Mem.Heap.Bytes.a H.Base.Mem.Heap.Bytes.len H.Base.Mem.Heap.Bytes.cap, .slice H.Base.Mem.Heap.Class.a H.Base.Mem.Heap.Class.len H.Base.Mem.Heap.Class.cap, .slice H.Base.Mem.Lists.Global.a H.Base.Mem.Lists.Global.len H.Base.Mem.Lists.Global.cap, .slice H.Base.Mem.Lists.Own.a H.Base.Mem.Lists.Own.len H.Base.Mem.Lists.Own.cap, .int .i64 x.Base.Clock.Epoch, .slice H.Base.Clock.Pins.a H.Base.Clock.Pins.len H.Base.Clock.Pins.cap, .slice H.Base.Limbo.a H.Base.Limbo.len H.Base.Limbo.cap, .slice H.Base.Haz.a H.Base.Haz.len H.Base.Haz.cap, .slice H.Cells.a H.Cells.len H.Cells.cap, .slice H.Jobs.a H.Jobs.len H.Jobs.cap, .slice H.Todo.a H.Todo.len H.Todo.cap, .slice H.Log.a H.Log.len H.Log.cap, .int .i64 x.Serial]] w fun e w' => ∃ v', e = .returned v' ∧ RdL FI w' w'.heap.size v' (namedS x) ∧ Below w.heap.size w w' := by
  have kB := fun (W : World) (hW : Below w.heap.size w W) => ShelfOk_spec W H x (rdShelf_up h hW) hs hs1 hs2
  have kP := fun (W : World) (v : Value) (l : List Int) (u : Int) (hl : RdL FI W W.heap.size v l) (hn : l.length ≤ 1000) => l17Put_spec W v l u hl hn
  have rC := h.Cells
  have rJ := h.Jobs
  clear h
  have ba : Box ((w.alloc (.cells #[.slice H.Base.Mem.Heap.Bytes.a H.Base.Mem.Heap.Bytes.len H.Base.Mem.Heap.Bytes.cap, .slice H.Base.Mem.Heap.Class.a H.Base.Mem.Heap.Class.len H.Base.Mem.Heap.Class.cap, .slice H.Base.Mem.Lists.Global.a H.Base.Mem.Lists.Global.len H.Base.Mem.Lists.Global.cap, .slice H.Base.Mem.Lists.Own.a H.Base.Mem.Lists.Own.len H.Base.Mem.Lists.Own.cap, .int .i64 x.Base.Clock.Epoch, .slice H.Base.Clock.Pins.a H.Base.Clock.Pins.len H.Base.Clock.Pins.cap, .slice H.Base.Limbo.a H.Base.Limbo.len H.Base.Limbo.cap, .slice H.Base.Haz.a H.Base.Haz.len H.Base.Haz.cap, .slice H.Cells.a H.Cells.len H.Cells.cap, .slice H.Jobs.a H.Jobs.len H.Jobs.cap, .slice H.Todo.a H.Todo.len H.Todo.cap, .slice H.Log.a H.Log.len H.Log.cap, .int .i64 x.Serial] 69)).alloc (.cells #[] 3)) w.heap.size [.slice H.Base.Mem.Heap.Bytes.a H.Base.Mem.Heap.Bytes.len H.Base.Mem.Heap.Bytes.cap, .slice H.Base.Mem.Heap.Class.a H.Base.Mem.Heap.Class.len H.Base.Mem.Heap.Class.cap, .slice H.Base.Mem.Lists.Global.a H.Base.Mem.Lists.Global.len H.Base.Mem.Lists.Global.cap, .slice H.Base.Mem.Lists.Own.a H.Base.Mem.Lists.Own.len H.Base.Mem.Lists.Own.cap, .int .i64 x.Base.Clock.Epoch, .slice H.Base.Clock.Pins.a H.Base.Clock.Pins.len H.Base.Clock.Pins.cap, .slice H.Base.Limbo.a H.Base.Limbo.len H.Base.Limbo.cap, .slice H.Base.Haz.a H.Base.Haz.len H.Base.Haz.cap, .slice H.Cells.a H.Cells.len H.Cells.cap, .slice H.Jobs.a H.Jobs.len H.Jobs.cap, .slice H.Todo.a H.Todo.len H.Todo.cap, .slice H.Log.a H.Log.len H.Log.cap, .int .i64 x.Serial] := (Box.new w #[.slice H.Base.Mem.Heap.Bytes.a H.Base.Mem.Heap.Bytes.len H.Base.Mem.Heap.Bytes.cap, .slice H.Base.Mem.Heap.Class.a H.Base.Mem.Heap.Class.len H.Base.Mem.Heap.Class.cap, .slice H.Base.Mem.Lists.Global.a H.Base.Mem.Lists.Global.len H.Base.Mem.Lists.Global.cap, .slice H.Base.Mem.Lists.Own.a H.Base.Mem.Lists.Own.len H.Base.Mem.Lists.Own.cap, .int .i64 x.Base.Clock.Epoch, .slice H.Base.Clock.Pins.a H.Base.Clock.Pins.len H.Base.Clock.Pins.cap, .slice H.Base.Limbo.a H.Base.Limbo.len H.Base.Limbo.cap, .slice H.Base.Haz.a H.Base.Haz.len H.Base.Haz.cap, .slice H.Cells.a H.Cells.len H.Cells.cap, .slice H.Jobs.a H.Jobs.len H.Jobs.cap, .slice H.Todo.a H.Todo.len H.Todo.cap, .slice H.Log.a H.Log.len H.Log.cap, .int .i64 x.Serial] 69).alloc _
  have hB : Below w.heap.size w ((w.alloc (.cells #[.slice H.Base.Mem.Heap.Bytes.a H.Base.Mem.Heap.Bytes.len H.Base.Mem.Heap.Bytes.cap, .slice H.Base.Mem.Heap.Class.a H.Base.Mem.Heap.Class.len H.Base.Mem.Heap.Class.cap, .slice H.Base.Mem.Lists.Global.a H.Base.Mem.Lists.Global.len H.Base.Mem.Lists.Global.cap, .slice H.Base.Mem.Lists.Own.a H.Base.Mem.Lists.Own.len H.Base.Mem.Lists.Own.cap, .int .i64 x.Base.Clock.Epoch, .slice H.Base.Clock.Pins.a H.Base.Clock.Pins.len H.Base.Clock.Pins.cap, .slice H.Base.Limbo.a H.Base.Limbo.len H.Base.Limbo.cap, .slice H.Base.Haz.a H.Base.Haz.len H.Base.Haz.cap, .slice H.Cells.a H.Cells.len H.Cells.cap, .slice H.Jobs.a H.Jobs.len H.Jobs.cap, .slice H.Todo.a H.Todo.len H.Todo.cap, .slice H.Log.a H.Log.len H.Log.cap, .int .i64 x.Serial] 69)).alloc (.cells #[] 3)) := by repeat (first | exact Below.refl _ _ | refine Below.alloc ?_ (by simp <;> omega) _ | refine below_grow_of ?_ (by simp <;> omega) _ _ | refine Below.drew ?_ | refine below_drewN ?_ _)
  have o0 : RdL FI ((w.alloc (.cells #[.slice H.Base.Mem.Heap.Bytes.a H.Base.Mem.Heap.Bytes.len H.Base.Mem.Heap.Bytes.cap, .slice H.Base.Mem.Heap.Class.a H.Base.Mem.Heap.Class.len H.Base.Mem.Heap.Class.cap, .slice H.Base.Mem.Lists.Global.a H.Base.Mem.Lists.Global.len H.Base.Mem.Lists.Global.cap, .slice H.Base.Mem.Lists.Own.a H.Base.Mem.Lists.Own.len H.Base.Mem.Lists.Own.cap, .int .i64 x.Base.Clock.Epoch, .slice H.Base.Clock.Pins.a H.Base.Clock.Pins.len H.Base.Clock.Pins.cap, .slice H.Base.Limbo.a H.Base.Limbo.len H.Base.Limbo.cap, .slice H.Base.Haz.a H.Base.Haz.len H.Base.Haz.cap, .slice H.Cells.a H.Cells.len H.Cells.cap, .slice H.Jobs.a H.Jobs.len H.Jobs.cap, .slice H.Todo.a H.Todo.len H.Todo.cap, .slice H.Log.a H.Log.len H.Log.cap, .int .i64 x.Serial] 69)).alloc (.cells #[] 3)) ((w.alloc (.cells #[.slice H.Base.Mem.Heap.Bytes.a H.Base.Mem.Heap.Bytes.len H.Base.Mem.Heap.Bytes.cap, .slice H.Base.Mem.Heap.Class.a H.Base.Mem.Heap.Class.len H.Base.Mem.Heap.Class.cap, .slice H.Base.Mem.Lists.Global.a H.Base.Mem.Lists.Global.len H.Base.Mem.Lists.Global.cap, .slice H.Base.Mem.Lists.Own.a H.Base.Mem.Lists.Own.len H.Base.Mem.Lists.Own.cap, .int .i64 x.Base.Clock.Epoch, .slice H.Base.Clock.Pins.a H.Base.Clock.Pins.len H.Base.Clock.Pins.cap, .slice H.Base.Limbo.a H.Base.Limbo.len H.Base.Limbo.cap, .slice H.Base.Haz.a H.Base.Haz.len H.Base.Haz.cap, .slice H.Cells.a H.Cells.len H.Cells.cap, .slice H.Jobs.a H.Jobs.len H.Jobs.cap, .slice H.Todo.a H.Todo.len H.Todo.cap, .slice H.Log.a H.Log.len H.Log.cap, .int .i64 x.Serial] 69)).alloc (.cells #[] 3)).heap.size (.slice (some ⟨w.heap.size + 1, 0, none⟩) 0 0) [] := by
    have a := OwL.lit FI [] #[] rfl (by decide) (w.alloc (.cells #[.slice H.Base.Mem.Heap.Bytes.a H.Base.Mem.Heap.Bytes.len H.Base.Mem.Heap.Bytes.cap, .slice H.Base.Mem.Heap.Class.a H.Base.Mem.Heap.Class.len H.Base.Mem.Heap.Class.cap, .slice H.Base.Mem.Lists.Global.a H.Base.Mem.Lists.Global.len H.Base.Mem.Lists.Global.cap, .slice H.Base.Mem.Lists.Own.a H.Base.Mem.Lists.Own.len H.Base.Mem.Lists.Own.cap, .int .i64 x.Base.Clock.Epoch, .slice H.Base.Clock.Pins.a H.Base.Clock.Pins.len H.Base.Clock.Pins.cap, .slice H.Base.Limbo.a H.Base.Limbo.len H.Base.Limbo.cap, .slice H.Base.Haz.a H.Base.Haz.len H.Base.Haz.cap, .slice H.Cells.a H.Cells.len H.Cells.cap, .slice H.Jobs.a H.Jobs.len H.Jobs.cap, .slice H.Todo.a H.Todo.len H.Todo.cap, .slice H.Log.a H.Log.len H.Log.cap, .int .i64 x.Serial] 69)) 3
    rw [World.size_alloc] at a
    exact a.rd'
  go_enter Tryz.func77, Tryz.ntmps77
  go_wp2_with fail
  generalize hW0 : ((w.alloc (.cells #[.slice H.Base.Mem.Heap.Bytes.a H.Base.Mem.Heap.Bytes.len H.Base.Mem.Heap.Bytes.cap, .slice H.Base.Mem.Heap.Class.a H.Base.Mem.Heap.Class.len H.Base.Mem.Heap.Class.cap, .slice H.Base.Mem.Lists.Global.a H.Base.Mem.Lists.Global.len H.Base.Mem.Lists.Global.cap, .slice H.Base.Mem.Lists.Own.a H.Base.Mem.Lists.Own.len H.Base.Mem.Lists.Own.cap, .int .i64 x.Base.Clock.Epoch, .slice H.Base.Clock.Pins.a H.Base.Clock.Pins.len H.Base.Clock.Pins.cap, .slice H.Base.Limbo.a H.Base.Limbo.len H.Base.Limbo.cap, .slice H.Base.Haz.a H.Base.Haz.len H.Base.Haz.cap, .slice H.Cells.a H.Cells.len H.Cells.cap, .slice H.Jobs.a H.Jobs.len H.Jobs.cap, .slice H.Todo.a H.Todo.len H.Todo.cap, .slice H.Log.a H.Log.len H.Log.cap, .int .i64 x.Serial] 69)).alloc (.cells #[] 3)) = w0 at o0 ba hB ⊢
  clear hW0
  cases hok : shelfOkB x with
  | false =>
    have HN := Hid.mk_ (show namedS x = [] from if_neg (by rw [hok]; decide))
    refine (kB _ hB).mono ?_
    rw [hok]
    rintro e w1 ⟨rfl, hb⟩
    replace o0 := rd_up o0 hb
    replace hB := hB.trans (hb.mono hB.size)
    clear hb kB hok
    go_wp2_with fail
    go_loopw [3, 5] (fun o i wr => i = .int .i64 0 ∧ RdL FI wr wr.heap.size o [] ∧ Below w.heap.size w wr) (fun _ _ _ => 0)
    case atStart => exact ⟨rfl, o0, hB⟩
    case round =>
      clear o0 hB
      obtain ⟨rfl, ho, hb⟩ := hrel
      go_wp2_with fail
      go_loopw [3, 6] (fun o i wr => i = .int .i64 0 ∧ RdL FI wr wr.heap.size o [] ∧ Below w.heap.size w wr) (fun _ _ _ => 0)
      case atStart => exact ⟨rfl, ho, hb⟩
      case round =>
        clear ho hb
        obtain ⟨rfl, ho, hb⟩ := hrel
        go_wp2_with fail
        go_ret
        exact ⟨_, rfl, by rw [HN.out]; exact ho, hb⟩
  | true =>
    have HN := Hid.mk_ (show namedS x = njTo x 3 from if_pos hok)
    have lC := shelf_cells hok
    have lJ := shelf_jobs hok
    refine (kB _ hB).mono ?_
    rw [hok]
    rintro e w1 ⟨rfl, hb⟩
    replace o0 := rd_up o0 hb
    replace ba := ba.below hb
    replace hB := hB.trans (hb.mono hB.size)
    clear hb kB hok
    go_wp2_with fail
    go_loopw [3, 5] (fun o i wr => ∃ k : Nat, k ≤ 2 ∧ i = .int .i64 k ∧ RdL FI wr wr.heap.size o (ncTo x k) ∧ Box wr w.heap.size [.slice H.Base.Mem.Heap.Bytes.a H.Base.Mem.Heap.Bytes.len H.Base.Mem.Heap.Bytes.cap, .slice H.Base.Mem.Heap.Class.a H.Base.Mem.Heap.Class.len H.Base.Mem.Heap.Class.cap, .slice H.Base.Mem.Lists.Global.a H.Base.Mem.Lists.Global.len H.Base.Mem.Lists.Global.cap, .slice H.Base.Mem.Lists.Own.a H.Base.Mem.Lists.Own.len H.Base.Mem.Lists.Own.cap, .int .i64 x.Base.Clock.Epoch, .slice H.Base.Clock.Pins.a H.Base.Clock.Pins.len H.Base.Clock.Pins.cap, .slice H.Base.Limbo.a H.Base.Limbo.len H.Base.Limbo.cap, .slice H.Base.Haz.a H.Base.Haz.len H.Base.Haz.cap, .slice H.Cells.a H.Cells.len H.Cells.cap, .slice H.Jobs.a H.Jobs.len H.Jobs.cap, .slice H.Todo.a H.Todo.len H.Todo.cap, .slice H.Log.a H.Log.len H.Log.cap, .int .i64 x.Serial] ∧ Below w.heap.size w wr) (fun _ i _ => 2 - (intOf i).toNat)
    case atStart => exact ⟨0, Nat.zero_le _, rfl, o0, ba, hB⟩
    case round =>
      clear o0 ba hB
      obtain ⟨k, hk, rfl, ho, ba, hB⟩ := hrel
      by_cases hlt : k < 2
      · have hkc : k < x.Cells.length := by omega
        have hln := ncTo_len x k
        have HS : Hid (ncTo x (k + 1) = putNz (ncTo x k) (x.Cells.getD k 0)) := Hid.mk_ rfl
        have q_a_8 := ba.cell 8 _ rfl
        have zb := ba.lt
        replace rC := rd_up rC hB
        obtain ⟨Ac, nc, cc, hvc⟩ : ∃ A n c, H.Cells = ⟨A, n, c⟩ := ⟨_, _, _, rfl⟩
        rw [hvc] at rC q_a_8
        clear hvc
        simp only [SV.val] at rC q_a_8
        have bC := (RdL.len_ rC).2
        obtain ⟨g, off, cap', he, hg, _, _, hc⟩ := rC.at_ (at_of 0 hkc)
        injection he with he1 he2 he3
        rw [lC] at he2
        subst he1 he2 he3
        have p0 := hc 0 _ rfl
        simp only [FI, Nat.mul_one, Nat.add_zero] at p0
        clear hc rC lC lJ hkc rJ
        generalize x.Cells.getD k 0 = cv at *
        by_cases hz : cv = 0
        · have hz' : (cv != 0) = false := by simpa using hz
          replace HS : Hid (ncTo x (k + 1) = ncTo x k) := Hid.mk_ (HS.out.trans (if_pos hz))
          clear hz
          go_wp2_with fail
          go_roundw
          case rel => exact ⟨k + 1, by omega, by go_num, by rw [HS.out]; exact ho, ba, hB⟩
          case measure => simp [intOf]; omega
        · have hz' : (cv != 0) = true := by simpa using hz
          replace HS : Hid (ncTo x (k + 1) = putP (ncTo x k) cv) := Hid.mk_ (HS.out.trans (if_neg hz))
          clear hz
          go_wp2_with fail
          refine (kP _ _ _ _ ho (by omega)).mono ?_
          rintro e w3 ⟨v', rfl, ho', hb⟩
          replace ba := ba.below hb
          replace hB := hB.trans (hb.mono hB.size)
          clear hb p0 q_a_8 zb ho
          go_wp2_with fail
          go_roundw
          case rel => exact ⟨k + 1, by omega, by go_num, by rw [HS.out]; exact ho', ba, hB⟩
          case measure => simp [intOf]; omega
      · have o2 : RdL FI wr wr.heap.size u3 (njTo x 0) := by
          have e : k = 2 := by omega
          rw [e] at ho
          exact ho
        clear ho rC lC
        go_wp2_with fail
        go_loopw [3, 6] (fun o i wr => ∃ k : Nat, k ≤ 3 ∧ i = .int .i64 k ∧ RdL FI wr wr.heap.size o (njTo x k) ∧ Box wr w.heap.size [.slice H.Base.Mem.Heap.Bytes.a H.Base.Mem.Heap.Bytes.len H.Base.Mem.Heap.Bytes.cap, .slice H.Base.Mem.Heap.Class.a H.Base.Mem.Heap.Class.len H.Base.Mem.Heap.Class.cap, .slice H.Base.Mem.Lists.Global.a H.Base.Mem.Lists.Global.len H.Base.Mem.Lists.Global.cap, .slice H.Base.Mem.Lists.Own.a H.Base.Mem.Lists.Own.len H.Base.Mem.Lists.Own.cap, .int .i64 x.Base.Clock.Epoch, .slice H.Base.Clock.Pins.a H.Base.Clock.Pins.len H.Base.Clock.Pins.cap, .slice H.Base.Limbo.a H.Base.Limbo.len H.Base.Limbo.cap, .slice H.Base.Haz.a H.Base.Haz.len H.Base.Haz.cap, .slice H.Cells.a H.Cells.len H.Cells.cap, .slice H.Jobs.a H.Jobs.len H.Jobs.cap, .slice H.Todo.a H.Todo.len H.Todo.cap, .slice H.Log.a H.Log.len H.Log.cap, .int .i64 x.Serial] ∧ Below w.heap.size w wr) (fun _ i _ => 3 - (intOf i).toNat)
        case atStart => exact ⟨0, Nat.zero_le _, rfl, o2, ba, hB⟩
        case round =>
          clear o2 ba hB
          obtain ⟨k, hk, rfl, ho, ba, hB⟩ := hrel
          by_cases hlt : k < 3
          · have hkj : k < x.Jobs.length := by omega
            have hln := njTo_len x k
            have HS : Hid (njTo x (k + 1) = putNz (njTo x k) (nVal (x.Jobs.getD k zeroJob))) := Hid.mk_ rfl
            have q_a_9 := ba.cell 9 _ rfl
            have zb := ba.lt
            replace rJ := rd_up rJ hB
            obtain ⟨Aj, nj, cj, hvj⟩ : ∃ A n c, H.Jobs = ⟨A, n, c⟩ := ⟨_, _, _, rfl⟩
            rw [hvj] at rJ q_a_9
            clear hvj
            simp only [SV.val] at rJ q_a_9
            have bJ := (RdL.len_ rJ).2
            obtain ⟨g, off, cap', he, hg, _, _, hc⟩ := rJ.range_ (at_of zeroJob hkj)
            injection he with he1 he2 he3
            rw [lJ] at he2
            subst he1 he2 he3
            generalize x.Jobs.getD k zeroJob = j at *
            have HP : Hid (nVal j = if j.Op.Kind = 1 then (if j.Pc = 1 ∨ j.Pc = 2 then j.H else if j.Pc = 3 then j.Old else 0) else 0) := Hid.mk_ rfl
            obtain ⟨cs, hcs⟩ : ∃ cs, cs = FJob.enc j := ⟨_, rfl⟩
            have hlen : cs.length = 21 := by rw [hcs]; exact FJob.len j
            have hO : cs.toArray.all (·.oneCell') = true := by rw [hcs]; exact all_oneCell_toArray (FJob.one j)
            have hsz : (Tryz.prog.info? 146).map (·.size) = some cs.toArray.size := by rw [List.size_toArray, hlen]; exact Tryz.sizeJob
            have HS2 := Hid.mk_ (show cs.toArray.size = 21 by rw [List.size_toArray, hlen])
            rw [show (FJob.n : Nat) = 21 from rfl] at hc
            have bj : Box (wr.alloc (.cells cs.toArray 146)) wr.heap.size cs := Box.new wr cs.toArray 146
            have hr : row? wr g (off + k * 21) 21 = some cs := row?_of (by rw [hcs]; exact hc) hlen
            have p1 := bj.cell 1 (.int .i64 j.Op.Kind) (by rw [hcs]; rfl)
            have p6 := bj.cell 6 (.int .i64 j.Pc) (by rw [hcs]; rfl)
            have p17 := bj.cell 17 (.int .i64 j.H) (by rw [hcs]; rfl)
            have p18 := bj.cell 18 (.int .i64 j.Old) (by rw [hcs]; rfl)
            have hzl : wr.heap.size < (wr.alloc (.cells cs.toArray 146)).heap.size := bj.lt
            have ho1 := rd_up ho ((Below.refl wr.heap.size wr).alloc (Nat.le_refl _) (.cells cs.toArray 146))
            have ba1 := ba.alloc (.cells cs.toArray 146)
            have hB1 := hB.alloc hB.size (.cells cs.toArray 146)
            clear hcs hc hlen rJ lJ hkj bj
            generalize nVal j = nv at *
            generalize j.Op.Kind = kd at *
            generalize j.Pc = pc at *
            generalize j.H = hh at *
            generalize j.Old = oo at *
            by_cases k1 : kd = 1
            · have k1a : (kd == 1) = true := by simpa using k1
              have k1b : (kd != 1) = false := by simpa using k1
              by_cases c1 : pc = 1
              · have c1a : (pc == 1) = true := by simpa using c1
                have c1b : (pc != 1) = false := by simpa using c1
                by_cases hz : hh = 0
                · have hza : (hh == 0) = true := by simpa using hz
                  have hzb : (hh != 0) = false := by simpa using hz
                  replace HS : Hid (njTo x (k + 1) = njTo x k) := Hid.mk_ (by rw [HS.out, HP.out]; unfold putNz; simp_all)
                  go_wp2_with (first | (have hz9 := hsz; clear hsz; refine wpList_store_new2 rfl 146 (.tmp 7) (.tmp 42) rfl cs.toArray rfl rfl hz9 (by rw [HS2.out]; rfl) hO ?_; clear hz9))
                  go_roundw
                  case rel => exact ⟨k + 1, by omega, by go_num, by rw [HS.out]; exact ho1, ba1, hB1⟩
                  case measure => simp [intOf]; omega
                · have hza : (hh == 0) = false := by simpa using hz
                  have hzb : (hh != 0) = true := by simpa using hz
                  replace HS : Hid (njTo x (k + 1) = putP (njTo x k) hh) := Hid.mk_ (by rw [HS.out, HP.out]; unfold putNz; simp_all)
                  go_wp2_with (first | (go_at_call 141; refine (kP _ _ _ _ ho1 (by omega)).mono ?_; rintro e w5 ⟨v', rfl, ho', hb⟩; replace ba1 := ba1.below hb; have p6' := (cell_up hb hzl p6); replace hB1 := hB1.trans (hb.mono hB1.size); clear hb p1 p17 p18 p6 q_a_9 zb hr; have p6 := p6'; clear p6') | (have hz9 := hsz; clear hsz; refine wpList_store_new2 rfl 146 (.tmp 7) (.tmp 42) rfl cs.toArray rfl rfl hz9 (by rw [HS2.out]; rfl) hO ?_; clear hz9))
                  go_roundw
                  case rel => exact ⟨k + 1, by omega, by go_num, by rw [HS.out]; exact ho', ba1, hB1⟩
                  case measure => simp [intOf]; omega
              · have c1a : (pc == 1) = false := by simpa using c1
                have c1b : (pc != 1) = true := by simpa using c1
                by_cases c2 : pc = 2
                · have c2a : (pc == 2) = true := by simpa using c2
                  have c2b : (pc != 2) = false := by simpa using c2
                  by_cases hz : hh = 0
                  · have hza : (hh == 0) = true := by simpa using hz
                    have hzb : (hh != 0) = false := by simpa using hz
                    replace HS : Hid (njTo x (k + 1) = njTo x k) := Hid.mk_ (by rw [HS.out, HP.out]; unfold putNz; simp_all)
                    go_wp2_with (first | (have hz9 := hsz; clear hsz; refine wpList_store_new2 rfl 146 (.tmp 7) (.tmp 42) rfl cs.toArray rfl rfl hz9 (by rw [HS2.out]; rfl) hO ?_; clear hz9))
                    go_roundw
                    case rel => exact ⟨k + 1, by omega, by go_num, by rw [HS.out]; exact ho1, ba1, hB1⟩
                    case measure => simp [intOf]; omega
                  · have hza : (hh == 0) = false := by simpa using hz
                    have hzb : (hh != 0) = true := by simpa using hz
                    replace HS : Hid (njTo x (k + 1) = putP (njTo x k) hh) := Hid.mk_ (by rw [HS.out, HP.out]; unfold putNz; simp_all)
                    go_wp2_with (first | (go_at_call 141; refine (kP _ _ _ _ ho1 (by omega)).mono ?_; rintro e w5 ⟨v', rfl, ho', hb⟩; replace ba1 := ba1.below hb; have p6' := (cell_up hb hzl p6); replace hB1 := hB1.trans (hb.mono hB1.size); clear hb p1 p17 p18 p6 q_a_9 zb hr; have p6 := p6'; clear p6') | (have hz9 := hsz; clear hsz; refine wpList_store_new2 rfl 146 (.tmp 7) (.tmp 42) rfl cs.toArray rfl rfl hz9 (by rw [HS2.out]; rfl) hO ?_; clear hz9))
                    go_roundw
                    case rel => exact ⟨k + 1, by omega, by go_num, by rw [HS.out]; exact ho', ba1, hB1⟩
                    case measure => simp [intOf]; omega
                · have c2a : (pc == 2) = false := by simpa using c2
                  have c2b : (pc != 2) = true := by simpa using c2
                  by_cases c3 : pc = 3
                  · have c3a : (pc == 3) = true := by simpa using c3
                    have c3b : (pc != 3) = false := by simpa using c3
                    by_cases oz : oo = 0
                    · have oza : (oo == 0) = true := by simpa using oz
                      have ozb : (oo != 0) = false := by simpa using oz
                      replace HS : Hid (njTo x (k + 1) = njTo x k) := Hid.mk_ (by rw [HS.out, HP.out]; unfold putNz; simp_all)
                      go_wp2_with (first | (have hz9 := hsz; clear hsz; refine wpList_store_new2 rfl 146 (.tmp 7) (.tmp 42) rfl cs.toArray rfl rfl hz9 (by rw [HS2.out]; rfl) hO ?_; clear hz9))
                      go_roundw
                      case rel => exact ⟨k + 1, by omega, by go_num, by rw [HS.out]; exact ho1, ba1, hB1⟩
                      case measure => simp [intOf]; omega
                    · have oza : (oo == 0) = false := by simpa using oz
                      have ozb : (oo != 0) = true := by simpa using oz
                      replace HS : Hid (njTo x (k + 1) = putP (njTo x k) oo) := Hid.mk_ (by rw [HS.out, HP.out]; unfold putNz; simp_all)
                      go_wp2_with (first | (go_at_call 141; refine (kP _ _ _ _ ho1 (by omega)).mono ?_; rintro e w5 ⟨v', rfl, ho', hb⟩; replace ba1 := ba1.below hb; have p6' := (cell_up hb hzl p6); replace hB1 := hB1.trans (hb.mono hB1.size); clear hb p1 p17 p18 p6 q_a_9 zb hr; have p6 := p6'; clear p6') | (have hz9 := hsz; clear hsz; refine wpList_store_new2 rfl 146 (.tmp 7) (.tmp 42) rfl cs.toArray rfl rfl hz9 (by rw [HS2.out]; rfl) hO ?_; clear hz9))
                      go_roundw
                      case rel => exact ⟨k + 1, by omega, by go_num, by rw [HS.out]; exact ho', ba1, hB1⟩
                      case measure => simp [intOf]; omega
                  · have c3a : (pc == 3) = false := by simpa using c3
                    have c3b : (pc != 3) = true := by simpa using c3
                    replace HS : Hid (njTo x (k + 1) = njTo x k) := Hid.mk_ (by rw [HS.out, HP.out]; unfold putNz; simp_all)
                    go_wp2_with (first | (have hz9 := hsz; clear hsz; refine wpList_store_new2 rfl 146 (.tmp 7) (.tmp 42) rfl cs.toArray rfl rfl hz9 (by rw [HS2.out]; rfl) hO ?_; clear hz9))
                    go_roundw
                    case rel => exact ⟨k + 1, by omega, by go_num, by rw [HS.out]; exact ho1, ba1, hB1⟩
                    case measure => simp [intOf]; omega
            · have k1a : (kd == 1) = false := by simpa using k1
              have k1b : (kd != 1) = true := by simpa using k1
              replace HS : Hid (njTo x (k + 1) = njTo x k) := Hid.mk_ (by rw [HS.out, HP.out]; unfold putNz; simp_all)
              go_wp2_with (first | (have hz9 := hsz; clear hsz; refine wpList_store_new2 rfl 146 (.tmp 7) (.tmp 42) rfl cs.toArray rfl rfl hz9 (by rw [HS2.out]; rfl) hO ?_; clear hz9))
              go_roundw
              case rel => exact ⟨k + 1, by omega, by go_num, by rw [HS.out]; exact ho1, ba1, hB1⟩
              case measure => simp [intOf]; omega
          · obtain rfl : k = 3 := by omega
            go_wp2_with fail
            go_ret
            exact ⟨_, rfl, by rw [HN.out]; exact ho, hB⟩
end Go.Proofs.YtkldapdpaldbgaaGreat
