/-
  Tells: the contracts.
-/
import Derived.Test.YtdepckmjgpkjmaaT
import Derived.Test.YtdepckmjgpkjmaaL
import Derived.Deep.QuietTactic
import Derived.BigQuiet
import Derived.Deep.LoopGhost
import Derived.Deep.RegionHeld3
import Derived.Test.YtdepckmjgpkjmaaN
import Derived.Test.YtdepckmjgpkjmaaA
import Derived.WalkSpells
import Derived.Laws.Cover3
import Derived.Test.YtdepckmjgpkjmaaMS
namespace Go.Proofs.Ytdepckmjgpkjmaa
open Go.RowKit
theorem Try.stEv : ST Try.prog FEv 27 25 := ⟨Try.underlying27, .agg #[.int .i64 0, .int .i64 0, .int .i64 0, .int .i64 0, .int .i64 0, .int .i64 0, .int .i64 0], 56, by kernel_rfl, rfl, by decide⟩

def tellTo (l : List Ev) (i : Nat) : List Ev := (l.take i).filter fun e => e.Kind == 4
def tellsP (x : Shelf) : List Ev := x.Log.filter fun e => e.Kind == 4
theorem tellTo_len (l : List Ev) (i : Nat) : (tellTo l i).length ≤ i := Nat.le_trans (List.length_filter_le _ _) (by simp; omega)
theorem tellTo_all (l : List Ev) : tellTo l l.length = l.filter fun e => e.Kind == 4 := by unfold tellTo; rw [List.take_length]
theorem tellTo_yes (l : List Ev) (i : Nat) (hi : i < l.length) (h : (l[i].Kind == 4) = true) : tellTo l (i + 1) = tellTo l i ++ [l[i]] := by
  unfold tellTo
  rw [List.take_succ_eq_append_getElem hi, List.filter_append]
  simp [h]
theorem tellTo_no (l : List Ev) (i : Nat) (hi : i < l.length) (h : (l[i].Kind == 4) = false) : tellTo l (i + 1) = tellTo l i := by
  unfold tellTo
  rw [List.take_succ_eq_append_getElem hi, List.filter_append]
  simp [h]
theorem tellsP_len (x : Shelf) : (tellsP x).length ≤ x.Log.length := List.length_filter_le _ _

set_option maxRecDepth 100000 in
set_option maxHeartbeats 2000000 in
theorem Tells_impl (w : World) (H : HShelf) (x : Shelf) (h : RdShelf w w.heap.size H x) (hs : x.Log.length ≤ 536870912) :
    Calls Try.prog 25 #[.agg #[.slice H.Base.Mem.Heap.Bytes.a H.Base.Mem.Heap.Bytes.len H.Base.Mem.Heap.Bytes.cap, .slice H.Base.Mem.Heap.Class.a H.Base.Mem.Heap.Class.len H.Base.Mem.Heap.Class.cap, .slice H.Base.Mem.Lists.Global.a H.Base.Mem.Lists.Global.len H.Base.Mem.Lists.Global.cap, .slice H.Base.Mem.Lists.Own.a H.Base.Mem.Lists.Own.len H.Base.Mem.Lists.Own.cap, .int .i64 x.Base.Clock.Epoch, .slice H.Base.Clock.Pins.a H.Base.Clock.Pins.len H.Base.Clock.Pins.cap, .slice H.Base.Limbo.a H.Base.Limbo.len H.Base.Limbo.cap, .slice H.Base.Haz.a H.Base.Haz.len H.Base.Haz.cap, .slice H.Cells.a H.Cells.len H.Cells.cap, .slice H.Jobs.a H.Jobs.len H.Jobs.cap, .slice H.Todo.a H.Todo.len H.Todo.cap, .slice H.Log.a H.Log.len H.Log.cap, .int .i64 x.Serial]] w fun e w' => ∃ v', e = .returned v' ∧ OwL FEv 25 w' v' (tellsP x) ∧ (∀ g ∈ foot1 v', w.heap.size ≤ g) ∧ Below w.heap.size w w' := by
  have HV : Hid (tellsP x = x.Log.filter fun e => e.Kind == 4) := Hid.mk_ rfl
  have rl := h.Log
  clear h
  generalize x.Log = l at *
  obtain ⟨Al, nl, cl, hvl⟩ : ∃ A n c, H.Log = ⟨A, n, c⟩ := ⟨_, _, _, rfl⟩
  rw [hvl] at rl ⊢
  clear hvl
  simp only [SV.val] at rl
  obtain ⟨el, bl⟩ := RdL.len_ rl
  subst el
  show Calls Try.prog 25 #[.agg #[.slice H.Base.Mem.Heap.Bytes.a H.Base.Mem.Heap.Bytes.len H.Base.Mem.Heap.Bytes.cap, .slice H.Base.Mem.Heap.Class.a H.Base.Mem.Heap.Class.len H.Base.Mem.Heap.Class.cap, .slice H.Base.Mem.Lists.Global.a H.Base.Mem.Lists.Global.len H.Base.Mem.Lists.Global.cap, .slice H.Base.Mem.Lists.Own.a H.Base.Mem.Lists.Own.len H.Base.Mem.Lists.Own.cap, .int .i64 x.Base.Clock.Epoch, .slice H.Base.Clock.Pins.a H.Base.Clock.Pins.len H.Base.Clock.Pins.cap, .slice H.Base.Limbo.a H.Base.Limbo.len H.Base.Limbo.cap, .slice H.Base.Haz.a H.Base.Haz.len H.Base.Haz.cap, .slice H.Cells.a H.Cells.len H.Cells.cap, .slice H.Jobs.a H.Jobs.len H.Jobs.cap, .slice H.Todo.a H.Todo.len H.Todo.cap, .slice Al l.length cl, .int .i64 x.Serial]] _ _
  have o0 : OwL FEv 25 ((w.alloc (.cells #[.slice H.Base.Mem.Heap.Bytes.a H.Base.Mem.Heap.Bytes.len H.Base.Mem.Heap.Bytes.cap, .slice H.Base.Mem.Heap.Class.a H.Base.Mem.Heap.Class.len H.Base.Mem.Heap.Class.cap, .slice H.Base.Mem.Lists.Global.a H.Base.Mem.Lists.Global.len H.Base.Mem.Lists.Global.cap, .slice H.Base.Mem.Lists.Own.a H.Base.Mem.Lists.Own.len H.Base.Mem.Lists.Own.cap, .int .i64 x.Base.Clock.Epoch, .slice H.Base.Clock.Pins.a H.Base.Clock.Pins.len H.Base.Clock.Pins.cap, .slice H.Base.Limbo.a H.Base.Limbo.len H.Base.Limbo.cap, .slice H.Base.Haz.a H.Base.Haz.len H.Base.Haz.cap, .slice H.Cells.a H.Cells.len H.Cells.cap, .slice H.Jobs.a H.Jobs.len H.Jobs.cap, .slice H.Todo.a H.Todo.len H.Todo.cap, .slice Al l.length cl, .int .i64 x.Serial] 69)).alloc (.cells #[] 25)) (.slice (some ⟨w.heap.size + 1, 0, none⟩) 0 0) [] := by
    have a := OwL.lit FEv [] #[] rfl (by decide) (w.alloc (.cells #[.slice H.Base.Mem.Heap.Bytes.a H.Base.Mem.Heap.Bytes.len H.Base.Mem.Heap.Bytes.cap, .slice H.Base.Mem.Heap.Class.a H.Base.Mem.Heap.Class.len H.Base.Mem.Heap.Class.cap, .slice H.Base.Mem.Lists.Global.a H.Base.Mem.Lists.Global.len H.Base.Mem.Lists.Global.cap, .slice H.Base.Mem.Lists.Own.a H.Base.Mem.Lists.Own.len H.Base.Mem.Lists.Own.cap, .int .i64 x.Base.Clock.Epoch, .slice H.Base.Clock.Pins.a H.Base.Clock.Pins.len H.Base.Clock.Pins.cap, .slice H.Base.Limbo.a H.Base.Limbo.len H.Base.Limbo.cap, .slice H.Base.Haz.a H.Base.Haz.len H.Base.Haz.cap, .slice H.Cells.a H.Cells.len H.Cells.cap, .slice H.Jobs.a H.Jobs.len H.Jobs.cap, .slice H.Todo.a H.Todo.len H.Todo.cap, .slice Al l.length cl, .int .i64 x.Serial] 69)) 25
    rwa [World.size_alloc] at a
  have pc : ((w.alloc (.cells #[.slice H.Base.Mem.Heap.Bytes.a H.Base.Mem.Heap.Bytes.len H.Base.Mem.Heap.Bytes.cap, .slice H.Base.Mem.Heap.Class.a H.Base.Mem.Heap.Class.len H.Base.Mem.Heap.Class.cap, .slice H.Base.Mem.Lists.Global.a H.Base.Mem.Lists.Global.len H.Base.Mem.Lists.Global.cap, .slice H.Base.Mem.Lists.Own.a H.Base.Mem.Lists.Own.len H.Base.Mem.Lists.Own.cap, .int .i64 x.Base.Clock.Epoch, .slice H.Base.Clock.Pins.a H.Base.Clock.Pins.len H.Base.Clock.Pins.cap, .slice H.Base.Limbo.a H.Base.Limbo.len H.Base.Limbo.cap, .slice H.Base.Haz.a H.Base.Haz.len H.Base.Haz.cap, .slice H.Cells.a H.Cells.len H.Cells.cap, .slice H.Jobs.a H.Jobs.len H.Jobs.cap, .slice H.Todo.a H.Todo.len H.Todo.cap, .slice Al l.length cl, .int .i64 x.Serial] 69)).alloc (.cells #[] 25)).cell? ⟨w.heap.size, 11, none⟩ = some (.slice Al l.length cl) := by simp [go_sem]
  have hb : Below w.heap.size w ((w.alloc (.cells #[.slice H.Base.Mem.Heap.Bytes.a H.Base.Mem.Heap.Bytes.len H.Base.Mem.Heap.Bytes.cap, .slice H.Base.Mem.Heap.Class.a H.Base.Mem.Heap.Class.len H.Base.Mem.Heap.Class.cap, .slice H.Base.Mem.Lists.Global.a H.Base.Mem.Lists.Global.len H.Base.Mem.Lists.Global.cap, .slice H.Base.Mem.Lists.Own.a H.Base.Mem.Lists.Own.len H.Base.Mem.Lists.Own.cap, .int .i64 x.Base.Clock.Epoch, .slice H.Base.Clock.Pins.a H.Base.Clock.Pins.len H.Base.Clock.Pins.cap, .slice H.Base.Limbo.a H.Base.Limbo.len H.Base.Limbo.cap, .slice H.Base.Haz.a H.Base.Haz.len H.Base.Haz.cap, .slice H.Cells.a H.Cells.len H.Cells.cap, .slice H.Jobs.a H.Jobs.len H.Jobs.cap, .slice H.Todo.a H.Todo.len H.Todo.cap, .slice Al l.length cl, .int .i64 x.Serial] 69)).alloc (.cells #[] 25)) := by repeat (first | exact Below.refl _ _ | refine Below.alloc ?_ (by simp <;> omega) _ | refine below_grow_of ?_ (by simp <;> omega) _ _ | refine Below.drew ?_ | refine below_drewN ?_ _)
  have hz : w.heap.size < ((w.alloc (.cells #[.slice H.Base.Mem.Heap.Bytes.a H.Base.Mem.Heap.Bytes.len H.Base.Mem.Heap.Bytes.cap, .slice H.Base.Mem.Heap.Class.a H.Base.Mem.Heap.Class.len H.Base.Mem.Heap.Class.cap, .slice H.Base.Mem.Lists.Global.a H.Base.Mem.Lists.Global.len H.Base.Mem.Lists.Global.cap, .slice H.Base.Mem.Lists.Own.a H.Base.Mem.Lists.Own.len H.Base.Mem.Lists.Own.cap, .int .i64 x.Base.Clock.Epoch, .slice H.Base.Clock.Pins.a H.Base.Clock.Pins.len H.Base.Clock.Pins.cap, .slice H.Base.Limbo.a H.Base.Limbo.len H.Base.Limbo.cap, .slice H.Base.Haz.a H.Base.Haz.len H.Base.Haz.cap, .slice H.Cells.a H.Cells.len H.Cells.cap, .slice H.Jobs.a H.Jobs.len H.Jobs.cap, .slice H.Todo.a H.Todo.len H.Todo.cap, .slice Al l.length cl, .int .i64 x.Serial] 69)).alloc (.cells #[] 25)).heap.size := by simp; omega
  go_enter Try.func25, Try.ntmps25
  go_wp2_with fail
  generalize hW0 : ((w.alloc (.cells #[.slice H.Base.Mem.Heap.Bytes.a H.Base.Mem.Heap.Bytes.len H.Base.Mem.Heap.Bytes.cap, .slice H.Base.Mem.Heap.Class.a H.Base.Mem.Heap.Class.len H.Base.Mem.Heap.Class.cap, .slice H.Base.Mem.Lists.Global.a H.Base.Mem.Lists.Global.len H.Base.Mem.Lists.Global.cap, .slice H.Base.Mem.Lists.Own.a H.Base.Mem.Lists.Own.len H.Base.Mem.Lists.Own.cap, .int .i64 x.Base.Clock.Epoch, .slice H.Base.Clock.Pins.a H.Base.Clock.Pins.len H.Base.Clock.Pins.cap, .slice H.Base.Limbo.a H.Base.Limbo.len H.Base.Limbo.cap, .slice H.Base.Haz.a H.Base.Haz.len H.Base.Haz.cap, .slice H.Cells.a H.Cells.len H.Cells.cap, .slice H.Jobs.a H.Jobs.len H.Jobs.cap, .slice H.Todo.a H.Todo.len H.Todo.cap, .slice Al l.length cl, .int .i64 x.Serial] 69)).alloc (.cells #[] 25)) = w0 at o0 pc hb hz ⊢
  clear hW0
  go_loopw [3, 5, 10] (fun o _ i wr => ∃ k : Nat, k ≤ l.length ∧ i = .int .i64 k ∧ OwL FEv 25 wr o (tellTo l k) ∧ (∀ g ∈ foot1 o, w.heap.size < g) ∧ Below w.heap.size w wr) (fun _ _ i _ => l.length - (intOf i).toNat)
  case atStart => exact ⟨0, Nat.zero_le _, rfl, o0, by simp [foot1, Value.ownBlock], hb⟩
  case round =>
    clear o0 pc hb hz
    obtain ⟨i, hi, rfl, ho, hf, hb⟩ := hrel
    by_cases hlt : i < l.length
    · obtain ⟨g, off, cap', he, hg, _, _, hc⟩ := (rl.below hb).at_ (List.getElem?_eq_getElem hlt)
      injection he with he1 he2 he3
      clear he2
      subst he1 he3
      have p0 : wr.cell? ⟨g, off + i * 7, none⟩ = some (.int .i64 l[i].Kind) := hc 0 _ rfl
      have p1 : wr.cell? ⟨g, off + i * 7 + 1, none⟩ = some (.int .i64 l[i].Who) := hc 1 _ rfl
      have p2 : wr.cell? ⟨g, off + i * 7 + 2, none⟩ = some (.int .i64 l[i].Serial) := hc 2 _ rfl
      have p3 : wr.cell? ⟨g, off + i * 7 + 3, none⟩ = some (.int .i64 l[i].Cell) := hc 3 _ rfl
      have p4 : wr.cell? ⟨g, off + i * 7 + 4, none⟩ = some (.int .i64 l[i].Handle) := hc 4 _ rfl
      have p5 : wr.cell? ⟨g, off + i * 7 + 5, none⟩ = some (.int .i64 l[i].Val) := hc 5 _ rfl
      have p6 : wr.cell? ⟨g, off + i * 7 + 6, none⟩ = some (.int .i64 l[i].Code) := hc 6 _ rfl
      have hsz := hb.size
      clear hc rl
      by_cases hk : (l[i].Kind == 4) = true
      · have HS := Hid.mk_ (tellTo_yes l i hlt hk)
        have hl1 : OwL FEv 25 ((wr.alloc (.cells #[.int .i64 l[i].Kind, .int .i64 l[i].Who, .int .i64 l[i].Serial, .int .i64 l[i].Cell, .int .i64 l[i].Handle, .int .i64 l[i].Val, .int .i64 l[i].Code] 25)).alloc (.cells #[.int .i64 l[i].Kind, .int .i64 l[i].Who, .int .i64 l[i].Serial, .int .i64 l[i].Cell, .int .i64 l[i].Handle, .int .i64 l[i].Val, .int .i64 l[i].Code] 25)) (.slice (some ⟨wr.heap.size + 1, 0, none⟩) 1 1) [l[i]] := by
          have a := OwL.lit FEv [l[i]] #[.int .i64 l[i].Kind, .int .i64 l[i].Who, .int .i64 l[i].Serial, .int .i64 l[i].Cell, .int .i64 l[i].Handle, .int .i64 l[i].Val, .int .i64 l[i].Code] rfl (by simp [maxLen]) (wr.alloc (.cells #[.int .i64 l[i].Kind, .int .i64 l[i].Who, .int .i64 l[i].Serial, .int .i64 l[i].Cell, .int .i64 l[i].Handle, .int .i64 l[i].Val, .int .i64 l[i].Code] 25)) 25
          rwa [World.size_alloc] at a
        go_wp2_with (at_builtin; refine wpList_append_flat Try.stEv rfl _ _ rfl (v := u3) (y := .slice (some ⟨wr.heap.size + 1, 0, none⟩) 1 1) (l := tellTo l i) (m := [l[i]]) rfl rfl ((ho.alloc_ _).alloc_ _) hl1.rd' (by have := tellTo_len l i; simp; omega) ?_; intro v' w3 ho' hg' hat')
        have hB3 : Below w.heap.size wr w3 := (((Below.refl _ _).alloc hb.size _).alloc (by first | omega | (simp; omega)) _).grown hg' (by first | omega | (simp; omega)) (fun b hb' => Nat.le_of_lt (hf b (mem_foot1.2 hb')))
        go_roundw
        case rel =>
          refine ⟨i + 1, by omega, by go_num, by rw [HS.out]; exact ho', fun b hb' => ?_, hb.trans hB3⟩
          rcases foot_app hat' b hb' with h1 | h1
          · exact hf b h1
          · simp at h1
            omega
        case measure => simp [intOf]; omega
      · have hk' : (l[i].Kind == 4) = false := (Bool.not_eq_true _).mp hk
        have HS := Hid.mk_ (tellTo_no l i hlt hk')
        clear hk
        go_wp2
        go_roundw
        case rel => exact ⟨i + 1, by omega, by go_num, by rw [HS.out]; exact ho.alloc_ _, hf, (hb.alloc hb.size _)⟩
        case measure => simp [intOf]; omega
    · go_wp2
      go_ret
      obtain rfl : i = l.length := by omega
      rw [tellTo_all] at ho
      exact ⟨u3, rfl, by rw [HV.out]; exact ho, fun b hb' => Nat.le_of_lt (hf b hb'), hb⟩

set_option maxRecDepth 100000 in
set_option maxHeartbeats 2000000 in
theorem Tells_spec (w : World) (H : HShelf) (x : Shelf) (h : RdShelf w w.heap.size H x) (hs : x.Log.length ≤ 536870912) :
    Calls Try.prog 24 #[.agg #[.slice H.Base.Mem.Heap.Bytes.a H.Base.Mem.Heap.Bytes.len H.Base.Mem.Heap.Bytes.cap, .slice H.Base.Mem.Heap.Class.a H.Base.Mem.Heap.Class.len H.Base.Mem.Heap.Class.cap, .slice H.Base.Mem.Lists.Global.a H.Base.Mem.Lists.Global.len H.Base.Mem.Lists.Global.cap, .slice H.Base.Mem.Lists.Own.a H.Base.Mem.Lists.Own.len H.Base.Mem.Lists.Own.cap, .int .i64 x.Base.Clock.Epoch, .slice H.Base.Clock.Pins.a H.Base.Clock.Pins.len H.Base.Clock.Pins.cap, .slice H.Base.Limbo.a H.Base.Limbo.len H.Base.Limbo.cap, .slice H.Base.Haz.a H.Base.Haz.len H.Base.Haz.cap, .slice H.Cells.a H.Cells.len H.Cells.cap, .slice H.Jobs.a H.Jobs.len H.Jobs.cap, .slice H.Todo.a H.Todo.len H.Todo.cap, .slice H.Log.a H.Log.len H.Log.cap, .int .i64 x.Serial]] w fun e w' => ∃ v', e = .returned v' ∧ OwL FEv 25 w' v' (tellsP x) ∧ (∀ g ∈ foot1 v', w.heap.size ≤ g) ∧ Below w.heap.size w w' := by
  have HV : Hid (tellsP x = x.Log.filter fun e => e.Kind == 4) := Hid.mk_ rfl
  have rl := h.Log
  clear h
  generalize x.Log = l at *
  obtain ⟨Al, nl, cl, hvl⟩ : ∃ A n c, H.Log = ⟨A, n, c⟩ := ⟨_, _, _, rfl⟩
  rw [hvl] at rl ⊢
  clear hvl
  simp only [SV.val] at rl
  obtain ⟨el, bl⟩ := RdL.len_ rl
  subst el
  show Calls Try.prog 24 #[.agg #[.slice H.Base.Mem.Heap.Bytes.a H.Base.Mem.Heap.Bytes.len H.Base.Mem.Heap.Bytes.cap, .slice H.Base.Mem.Heap.Class.a H.Base.Mem.Heap.Class.len H.Base.Mem.Heap.Class.cap, .slice H.Base.Mem.Lists.Global.a H.Base.Mem.Lists.Global.len H.Base.Mem.Lists.Global.cap, .slice H.Base.Mem.Lists.Own.a H.Base.Mem.Lists.Own.len H.Base.Mem.Lists.Own.cap, .int .i64 x.Base.Clock.Epoch, .slice H.Base.Clock.Pins.a H.Base.Clock.Pins.len H.Base.Clock.Pins.cap, .slice H.Base.Limbo.a H.Base.Limbo.len H.Base.Limbo.cap, .slice H.Base.Haz.a H.Base.Haz.len H.Base.Haz.cap, .slice H.Cells.a H.Cells.len H.Cells.cap, .slice H.Jobs.a H.Jobs.len H.Jobs.cap, .slice H.Todo.a H.Todo.len H.Todo.cap, .slice Al l.length cl, .int .i64 x.Serial]] _ _
  have o0 : OwL FEv 25 ((w.alloc (.cells #[.slice H.Base.Mem.Heap.Bytes.a H.Base.Mem.Heap.Bytes.len H.Base.Mem.Heap.Bytes.cap, .slice H.Base.Mem.Heap.Class.a H.Base.Mem.Heap.Class.len H.Base.Mem.Heap.Class.cap, .slice H.Base.Mem.Lists.Global.a H.Base.Mem.Lists.Global.len H.Base.Mem.Lists.Global.cap, .slice H.Base.Mem.Lists.Own.a H.Base.Mem.Lists.Own.len H.Base.Mem.Lists.Own.cap, .int .i64 x.Base.Clock.Epoch, .slice H.Base.Clock.Pins.a H.Base.Clock.Pins.len H.Base.Clock.Pins.cap, .slice H.Base.Limbo.a H.Base.Limbo.len H.Base.Limbo.cap, .slice H.Base.Haz.a H.Base.Haz.len H.Base.Haz.cap, .slice H.Cells.a H.Cells.len H.Cells.cap, .slice H.Jobs.a H.Jobs.len H.Jobs.cap, .slice H.Todo.a H.Todo.len H.Todo.cap, .slice Al l.length cl, .int .i64 x.Serial] 69)).alloc (.cells #[] 25)) (.slice (some ⟨w.heap.size + 1, 0, none⟩) 0 0) [] := by
    have a := OwL.lit FEv [] #[] rfl (by decide) (w.alloc (.cells #[.slice H.Base.Mem.Heap.Bytes.a H.Base.Mem.Heap.Bytes.len H.Base.Mem.Heap.Bytes.cap, .slice H.Base.Mem.Heap.Class.a H.Base.Mem.Heap.Class.len H.Base.Mem.Heap.Class.cap, .slice H.Base.Mem.Lists.Global.a H.Base.Mem.Lists.Global.len H.Base.Mem.Lists.Global.cap, .slice H.Base.Mem.Lists.Own.a H.Base.Mem.Lists.Own.len H.Base.Mem.Lists.Own.cap, .int .i64 x.Base.Clock.Epoch, .slice H.Base.Clock.Pins.a H.Base.Clock.Pins.len H.Base.Clock.Pins.cap, .slice H.Base.Limbo.a H.Base.Limbo.len H.Base.Limbo.cap, .slice H.Base.Haz.a H.Base.Haz.len H.Base.Haz.cap, .slice H.Cells.a H.Cells.len H.Cells.cap, .slice H.Jobs.a H.Jobs.len H.Jobs.cap, .slice H.Todo.a H.Todo.len H.Todo.cap, .slice Al l.length cl, .int .i64 x.Serial] 69)) 25
    rwa [World.size_alloc] at a
  have pc : ((w.alloc (.cells #[.slice H.Base.Mem.Heap.Bytes.a H.Base.Mem.Heap.Bytes.len H.Base.Mem.Heap.Bytes.cap, .slice H.Base.Mem.Heap.Class.a H.Base.Mem.Heap.Class.len H.Base.Mem.Heap.Class.cap, .slice H.Base.Mem.Lists.Global.a H.Base.Mem.Lists.Global.len H.Base.Mem.Lists.Global.cap, .slice H.Base.Mem.Lists.Own.a H.Base.Mem.Lists.Own.len H.Base.Mem.Lists.Own.cap, .int .i64 x.Base.Clock.Epoch, .slice H.Base.Clock.Pins.a H.Base.Clock.Pins.len H.Base.Clock.Pins.cap, .slice H.Base.Limbo.a H.Base.Limbo.len H.Base.Limbo.cap, .slice H.Base.Haz.a H.Base.Haz.len H.Base.Haz.cap, .slice H.Cells.a H.Cells.len H.Cells.cap, .slice H.Jobs.a H.Jobs.len H.Jobs.cap, .slice H.Todo.a H.Todo.len H.Todo.cap, .slice Al l.length cl, .int .i64 x.Serial] 69)).alloc (.cells #[] 25)).cell? ⟨w.heap.size, 11, none⟩ = some (.slice Al l.length cl) := by simp [go_sem]
  have hb : Below w.heap.size w ((w.alloc (.cells #[.slice H.Base.Mem.Heap.Bytes.a H.Base.Mem.Heap.Bytes.len H.Base.Mem.Heap.Bytes.cap, .slice H.Base.Mem.Heap.Class.a H.Base.Mem.Heap.Class.len H.Base.Mem.Heap.Class.cap, .slice H.Base.Mem.Lists.Global.a H.Base.Mem.Lists.Global.len H.Base.Mem.Lists.Global.cap, .slice H.Base.Mem.Lists.Own.a H.Base.Mem.Lists.Own.len H.Base.Mem.Lists.Own.cap, .int .i64 x.Base.Clock.Epoch, .slice H.Base.Clock.Pins.a H.Base.Clock.Pins.len H.Base.Clock.Pins.cap, .slice H.Base.Limbo.a H.Base.Limbo.len H.Base.Limbo.cap, .slice H.Base.Haz.a H.Base.Haz.len H.Base.Haz.cap, .slice H.Cells.a H.Cells.len H.Cells.cap, .slice H.Jobs.a H.Jobs.len H.Jobs.cap, .slice H.Todo.a H.Todo.len H.Todo.cap, .slice Al l.length cl, .int .i64 x.Serial] 69)).alloc (.cells #[] 25)) := by repeat (first | exact Below.refl _ _ | refine Below.alloc ?_ (by simp <;> omega) _ | refine below_grow_of ?_ (by simp <;> omega) _ _ | refine Below.drew ?_ | refine below_drewN ?_ _)
  have hz : w.heap.size < ((w.alloc (.cells #[.slice H.Base.Mem.Heap.Bytes.a H.Base.Mem.Heap.Bytes.len H.Base.Mem.Heap.Bytes.cap, .slice H.Base.Mem.Heap.Class.a H.Base.Mem.Heap.Class.len H.Base.Mem.Heap.Class.cap, .slice H.Base.Mem.Lists.Global.a H.Base.Mem.Lists.Global.len H.Base.Mem.Lists.Global.cap, .slice H.Base.Mem.Lists.Own.a H.Base.Mem.Lists.Own.len H.Base.Mem.Lists.Own.cap, .int .i64 x.Base.Clock.Epoch, .slice H.Base.Clock.Pins.a H.Base.Clock.Pins.len H.Base.Clock.Pins.cap, .slice H.Base.Limbo.a H.Base.Limbo.len H.Base.Limbo.cap, .slice H.Base.Haz.a H.Base.Haz.len H.Base.Haz.cap, .slice H.Cells.a H.Cells.len H.Cells.cap, .slice H.Jobs.a H.Jobs.len H.Jobs.cap, .slice H.Todo.a H.Todo.len H.Todo.cap, .slice Al l.length cl, .int .i64 x.Serial] 69)).alloc (.cells #[] 25)).heap.size := by simp; omega
  go_enter Try.func24, Try.ntmps24
  go_wp2_with fail
  generalize hW0 : ((w.alloc (.cells #[.slice H.Base.Mem.Heap.Bytes.a H.Base.Mem.Heap.Bytes.len H.Base.Mem.Heap.Bytes.cap, .slice H.Base.Mem.Heap.Class.a H.Base.Mem.Heap.Class.len H.Base.Mem.Heap.Class.cap, .slice H.Base.Mem.Lists.Global.a H.Base.Mem.Lists.Global.len H.Base.Mem.Lists.Global.cap, .slice H.Base.Mem.Lists.Own.a H.Base.Mem.Lists.Own.len H.Base.Mem.Lists.Own.cap, .int .i64 x.Base.Clock.Epoch, .slice H.Base.Clock.Pins.a H.Base.Clock.Pins.len H.Base.Clock.Pins.cap, .slice H.Base.Limbo.a H.Base.Limbo.len H.Base.Limbo.cap, .slice H.Base.Haz.a H.Base.Haz.len H.Base.Haz.cap, .slice H.Cells.a H.Cells.len H.Cells.cap, .slice H.Jobs.a H.Jobs.len H.Jobs.cap, .slice H.Todo.a H.Todo.len H.Todo.cap, .slice Al l.length cl, .int .i64 x.Serial] 69)).alloc (.cells #[] 25)) = w0 at o0 pc hb hz ⊢
  clear hW0
  go_loopw [3, 4] (fun o i wr => ∃ k : Nat, k ≤ l.length ∧ i = .int .i64 k ∧ OwL FEv 25 wr o (tellTo l k) ∧ (∀ g ∈ foot1 o, w.heap.size < g) ∧ Below w.heap.size w wr ∧ wr.cell? ⟨w.heap.size, 11, none⟩ = some (.slice Al l.length cl) ∧ w.heap.size < wr.heap.size) (fun _ i _ => l.length - (intOf i).toNat)
  case atStart => exact ⟨0, Nat.zero_le _, rfl, o0, by simp [foot1, Value.ownBlock], hb, pc, hz⟩
  case round =>
    clear o0 pc hb hz
    obtain ⟨i, hi, rfl, ho, hf, hb, pc, hz⟩ := hrel
    by_cases hlt : i < l.length
    · obtain ⟨g, off, cap', he, hg, _, _, hc⟩ := (rl.below hb).at_ (List.getElem?_eq_getElem hlt)
      injection he with he1 he2 he3
      clear he2
      subst he1 he3
      have p0 : wr.cell? ⟨g, off + i * 7, none⟩ = some (.int .i64 l[i].Kind) := hc 0 _ rfl
      have p1 : wr.cell? ⟨g, off + i * 7 + 1, none⟩ = some (.int .i64 l[i].Who) := hc 1 _ rfl
      have p2 : wr.cell? ⟨g, off + i * 7 + 2, none⟩ = some (.int .i64 l[i].Serial) := hc 2 _ rfl
      have p3 : wr.cell? ⟨g, off + i * 7 + 3, none⟩ = some (.int .i64 l[i].Cell) := hc 3 _ rfl
      have p4 : wr.cell? ⟨g, off + i * 7 + 4, none⟩ = some (.int .i64 l[i].Handle) := hc 4 _ rfl
      have p5 : wr.cell? ⟨g, off + i * 7 + 5, none⟩ = some (.int .i64 l[i].Val) := hc 5 _ rfl
      have p6 : wr.cell? ⟨g, off + i * 7 + 6, none⟩ = some (.int .i64 l[i].Code) := hc 6 _ rfl
      have hsz := hb.size
      clear hc rl
      by_cases hk : (l[i].Kind == 4) = true
      · have HS := Hid.mk_ (tellTo_yes l i hlt hk)
        have hl1 : OwL FEv 25 (wr.alloc (.cells #[.int .i64 l[i].Kind, .int .i64 l[i].Who, .int .i64 l[i].Serial, .int .i64 l[i].Cell, .int .i64 l[i].Handle, .int .i64 l[i].Val, .int .i64 l[i].Code] 25)) (.slice (some ⟨wr.heap.size, 0, none⟩) 1 1) [l[i]] := by
          have a := OwL.lit FEv [l[i]] #[.int .i64 l[i].Kind, .int .i64 l[i].Who, .int .i64 l[i].Serial, .int .i64 l[i].Cell, .int .i64 l[i].Handle, .int .i64 l[i].Val, .int .i64 l[i].Code] rfl (by simp [maxLen]) wr 25
          exact a
        go_wp2_with (at_builtin; refine wpList_append_flat Try.stEv rfl _ _ rfl (v := u3) (y := .slice (some ⟨wr.heap.size, 0, none⟩) 1 1) (l := tellTo l i) (m := [l[i]]) rfl rfl (ho.alloc_ _) hl1.rd' (by have := tellTo_len l i; simp; omega) ?_; intro v' w3 ho' hg' hat')
        have hB3 : Below w.heap.size wr w3 := ((Below.refl _ _).alloc (by first | omega | (simp; omega)) _).grown hg' (by first | omega | (simp; omega)) (fun b hb' => Nat.le_of_lt (hf b (mem_foot1.2 hb')))
        go_roundw
        case rel =>
          refine ⟨i + 1, by omega, by go_num, by rw [HS.out]; exact ho', fun b hb' => ?_, hb.trans hB3, ((Chg.of_grown hg').cell w.heap.size 11 (by simp; omega) (fun hm => by have := hf _ hm; omega)).trans ((cell_old wr _ _ _ hz).trans pc), Nat.lt_of_lt_of_le hz hB3.size⟩
          rcases foot_app hat' b hb' with h1 | h1
          · exact hf b h1
          · simp at h1
            omega
        case measure => simp [intOf]; omega
      · have hk' : (l[i].Kind == 4) = false := (Bool.not_eq_true _).mp hk
        have HS := Hid.mk_ (tellTo_no l i hlt hk')
        clear hk
        go_wp2
        go_roundw
        case rel => exact ⟨i + 1, by omega, by go_num, by rw [HS.out]; exact ho, hf, hb, pc, hz⟩
        case measure => simp [intOf]; omega
    · go_wp2
      go_ret
      obtain rfl : i = l.length := by omega
      rw [tellTo_all] at ho
      exact ⟨u3, rfl, by rw [HV.out]; exact ho, fun b hb' => Nat.le_of_lt (hf b hb'), hb⟩
end Go.Proofs.Ytdepckmjgpkjmaa
