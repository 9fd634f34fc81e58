/-
  A number put into its place: the contract. Does a job guard its handle: the contract of the reference.
-/
import Derived.Test.YtkldapdpaldbgaaGreatT
import Derived.Test.YtkldapdpaldbgaaGreatL
import Derived.Deep.QuietTactic
import Derived.BigQuiet
import Derived.Deep.LoopGhost
import Derived.Deep.RegionHeld3
import Derived.Test.YtkldapdpaldbgaaGreatN
import Derived.Test.YtkldapdpaldbgaaGreatA
import Derived.WalkSpells
import Derived.Laws.Cover3
import Derived.Test.YtkldapdpaldbgaaGreatB7
import Derived.Test.YtkldapdpaldbgaaGreatUD
import Derived.Deep.CutRange
namespace Go.Proofs.YtkldapdpaldbgaaGreat
open Go.RowKit

def doneTo (l : List Int) (x : Int) (k : Nat) : Bool := (l.take k).any fun y => decide (x < y)
def insTo (l : List Int) (x : Int) : Nat → List Int
  | 0 => []
  | k + 1 => (if doneTo l x k = false ∧ x < l.getD k 0 then insTo l x k ++ [x] else insTo l x k) ++ [l.getD k 0]
def putP (l : List Int) (x : Int) : List Int := if x ∈ l then l else if doneTo l x l.length = true then insTo l x l.length else insTo l x l.length ++ [x]
theorem getD_is {l : List Int} {k : Nat} (h : k < l.length) : l.getD k 0 = l[k] := by simp [List.getD, h]
theorem doneTo_succ {l : List Int} {x : Int} {k : Nat} (h : k < l.length) : doneTo l x (k + 1) = (doneTo l x k || decide (x < l[k])) := by
  unfold doneTo
  rw [List.take_succ_eq_append_getElem h, List.any_append]
  simp
theorem insTo_perm (l : List Int) (x : Int) : ∀ k, k ≤ l.length → (insTo l x k).Perm (if doneTo l x k = true then x :: l.take k else l.take k)
  | 0, _ => by simp [insTo, doneTo]
  | k + 1, hk => by
    have ih := insTo_perm l x k (by omega)
    have hlt : k < l.length := by omega
    rw [doneTo_succ hlt, insTo, getD_is hlt]
    have et : l.take (k + 1) = l.take k ++ [l[k]] := List.take_succ_eq_append_getElem hlt
    cases hd : doneTo l x k with
    | true =>
      rw [hd] at ih
      simp only [Bool.true_or, if_true, Bool.true_eq_false, false_and, if_false] at ih ⊢
      rw [et]
      exact (ih.append_right [l[k]])
    | false =>
      rw [hd] at ih
      simp only [Bool.false_eq_true, if_false, Bool.false_or, true_and, decide_eq_true_eq] at ih ⊢
      by_cases hx : x < l[k]
      · rw [if_pos hx, if_pos hx, et]
        refine ((ih.append_right [x]).append_right [l[k]]).trans ?_
        rw [List.append_assoc]
        exact (List.perm_append_comm_assoc _ _ _).trans (by simp)
      · rw [if_neg hx, if_neg hx, et]
        exact ih.append_right [l[k]]
theorem insTo_len (l : List Int) (x : Int) {k : Nat} (hk : k ≤ l.length) : (insTo l x k).length ≤ k + 1 := by
  rw [(insTo_perm l x k hk).length_eq]
  split <;> simp <;> omega
theorem putP_perm {l : List Int} {x : Int} (h : x ∉ l) : (putP l x).Perm (x :: l) := by
  have hp := insTo_perm l x l.length (Nat.le_refl _)
  rw [List.take_length] at hp
  unfold putP
  rw [if_neg h]
  split
  · next hd => rw [if_pos hd] at hp; exact hp
  · next hd =>
    rw [if_neg hd] at hp
    exact (hp.append_right [x]).trans (List.perm_append_singleton x l)
theorem putP_mem (l : List Int) (x h : Int) : h ∈ putP l x ↔ h = x ∨ h ∈ l := by
  by_cases hx : x ∈ l
  · unfold putP
    rw [if_pos hx]
    exact ⟨Or.inr, fun a => a.elim (fun e => e ▸ hx) id⟩
  · rw [(putP_perm hx).mem_iff, List.mem_cons]
theorem putP_nodup {l : List Int} (x : Int) (h : l.Nodup) : (putP l x).Nodup := by
  by_cases hx : x ∈ l
  · unfold putP
    rw [if_pos hx]
    exact h
  · rw [(putP_perm hx).nodup_iff]
    exact List.nodup_cons.2 ⟨hx, h⟩
theorem putP_len (l : List Int) (x : Int) : (putP l x).length ≤ l.length + 1 := by
  by_cases hx : x ∈ l
  · unfold putP
    rw [if_pos hx]
    omega
  · rw [(putP_perm hx).length_eq]
    simp
theorem not_mem_step {l : List Int} {x : Int} {k : Nat} (hk : k < l.length) (h : x ∉ l.take k) (he : l[k] ≠ x) : x ∉ l.take (k + 1) := by
  rw [List.take_succ_eq_append_getElem hk, List.mem_append, List.mem_singleton]
  exact fun a => a.elim h (fun e => he e.symm)
theorem insTo_put {l : List Int} {x : Int} {k : Nat} (hk : k < l.length) (hd : doneTo l x k = false) (hx : x < l[k]) : insTo l x (k + 1) = insTo l x k ++ [x] ++ [l[k]] := by
  rw [insTo, getD_is hk, if_pos ⟨hd, hx⟩]
theorem insTo_go {l : List Int} {x : Int} {k : Nat} (hk : k < l.length) (h : ¬ (doneTo l x k = false ∧ x < l[k])) : insTo l x (k + 1) = insTo l x k ++ [l[k]] := by
  rw [insTo, getD_is hk, if_neg h]

set_option maxRecDepth 100000 in
set_option maxHeartbeats 2000000 in
theorem l17Put_spec (w : World) (v : Value) (l : List Int) (x : Int) (h : RdL FI w w.heap.size v l) (hn : l.length ≤ 1000) :
    Calls Tryz.prog 141 #[v, .int .i64 x] w fun e w' => ∃ v', e = .returned v' ∧ RdL FI w' w'.heap.size v' (putP l x) ∧ Below w.heap.size w w' := by
  obtain ⟨A, c, hv, q1, q2, _⟩ := id h
  subst hv
  clear q1 q2
  have hb : Below w.heap.size w (w.alloc (.cells #[] 3)) := by repeat (first | exact Below.refl _ _ | refine Below.alloc ?_ (by simp <;> omega) _ | refine below_grow_of ?_ (by simp <;> omega) _ _ | refine Below.drew ?_ | refine below_drewN ?_ _)
  have o0 : OwL FI 3 (w.alloc (.cells #[] 3)) (.slice (some ⟨w.heap.size, 0, none⟩) 0 0) [] := OwL.lit FI [] #[] rfl (by decide) w 3
  go_enter Tryz.func141, Tryz.ntmps141
  go_wp2_with fail
  generalize hW0 : (w.alloc (.cells #[] 3)) = w0 at o0 hb ⊢
  clear hW0
  go_loopw [5, 6, 7] (fun o d i wr => ∃ k : Nat, k ≤ l.length ∧ i = .int .i64 k ∧ d = .bool (doneTo l x k) ∧ OwL FI 3 wr o (insTo l x k) ∧ (∀ g ∈ foot1 o, w.heap.size ≤ g) ∧ Hid (x ∉ l.take k) ∧ Below w.heap.size w wr) (fun _ _ i _ => l.length - (intOf i).toNat)
  case atStart => exact ⟨0, Nat.zero_le _, rfl, rfl, o0, by simp [foot1, Value.ownBlock], Hid.mk_ (by simp), hb⟩
  case round =>
    clear o0 hb
    obtain ⟨k, hk, rfl, rfl, ho, hf, HM, hb⟩ := hrel
    have hil := insTo_len l x hk
    have hsz := hb.size
    by_cases hlt : k < l.length
    · obtain ⟨g, off, cap', he, hg, _, _, hc⟩ := (h.below hb).at_ (List.getElem?_eq_getElem hlt)
      injection he with he1 he2 he3
      clear he2
      subst he1 he3
      have p0 := hc 0 _ rfl
      simp only [FI, Nat.mul_one, Nat.add_zero] at p0
      have hgs : g < w.heap.size := hg
      clear hc
      by_cases hy : l[k] = x
      · have HP := Hid.mk_ (show putP l x = l from if_pos (hy ▸ List.getElem_mem hlt))
        have hy' : (l[k] == x) = true := by simpa using hy
        have hr := rd_up h hb
        generalize l[k] = y at p0 hy'
        clear hy
        go_wp2_with fail
        go_ret
        exact ⟨_, rfl, by rw [HP.out]; exact hr, hb⟩
      have hy' : (l[k] == x) = false := by simpa using hy
      have HM2 := Hid.mk_ (not_mem_step hlt HM.out hy)
      have HD := Hid.mk_ (doneTo_succ (x := x) hlt)
      by_cases hA : doneTo l x k = false ∧ x < l[k]
      · have HI := Hid.mk_ (insTo_put hlt hA.1 hA.2)
        have hd0 := hA.1
        have hx0 := hA.2
        have HD2 := Hid.mk_ (HD.out.trans (show _ = true by simp [hx0]))
        rw [hd0]
        clear hA hy h HD hd0 HM
        generalize l[k] = y at *
        have hl1 : OwL FI 3 (wr.alloc (.cells #[.int .i64 x] 3)) (.slice (some ⟨wr.heap.size, 0, none⟩) 1 1) [x] := OwL.lit FI [x] #[.int .i64 x] rfl (by simp [maxLen]) wr 3
        go_wp2_with (first | (at_builtin; refine wpList_append_flat Tryz.stInt rfl _ _ rfl (v := v') (y := .slice (some ⟨w3.heap.size, 0, none⟩) 1 1) (l := insTo l x k ++ [x]) (m := [y]) rfl rfl (ho'.alloc_ _) hl2.rd' (by simp; omega) ?_; intro v'' w5 ho'' hg'' hat'') | (at_builtin; refine wpList_append_flat Tryz.stInt rfl _ _ rfl (v := u5) (y := .slice (some ⟨wr.heap.size, 0, none⟩) 1 1) (l := insTo l x k) (m := [x]) rfl rfl (ho.alloc_ _) hl1.rd' (by simp; omega) ?_; intro v' w3 ho' hg' hat'; have hl2 : OwL FI 3 (w3.alloc (.cells #[.int .i64 y] 3)) (.slice (some ⟨w3.heap.size, 0, none⟩) 1 1) [y] := OwL.lit FI [y] #[.int .i64 y] rfl (by simp [maxLen]) w3 3; have p1 : w3.cell? ⟨g, off + k, none⟩ = some (.int .i64 y) := ((Chg.of_grown hg').cell g (off + k) (by simp; omega) (fun hm => by have := hf _ hm; omega)).trans ((cell_old wr _ _ _ (by omega)).trans p0)))
        have f1 : ∀ b ∈ foot1 v', w.heap.size ≤ b := fun b hb' => by
          rcases foot_app hat' b hb' with h1 | h1
          · exact hf b h1
          · simp at h1
            omega
        have hB3 : Below w.heap.size wr w3 := ((Below.refl _ _).alloc (by first | omega | (simp; omega)) _).grown hg' (by first | omega | (simp; omega)) (fun b hb' => hf b (mem_foot1.2 hb'))
        have hz3 := hB3.size
        have hB5 : Below w.heap.size w3 w5 := ((Below.refl _ _).alloc (by first | omega | (simp; omega)) _).grown hg'' (by first | omega | (simp; omega)) (fun b hb' => f1 b (mem_foot1.2 hb'))
        go_roundw
        case rel =>
          refine ⟨k + 1, by omega, by go_num, by rw [HD2.out], by rw [HI.out]; exact ho'', fun b hb' => ?_, HM2, (hb.trans hB3).trans hB5⟩
          rcases foot_app hat'' b hb' with h1 | h1
          · exact f1 b h1
          · simp at h1
            omega
        case measure => simp [intOf]; omega
      · have HI := Hid.mk_ (insTo_go hlt hA)
        have HD2 := Hid.mk_ (show doneTo l x (k + 1) = doneTo l x k by
          rw [HD.out]
          cases e : doneTo l x k with
          | true => rfl
          | false => simp; exact Int.not_lt.mp (fun a => hA ⟨e, a⟩))
        have hx0 : doneTo l x k = false → ¬ x < l[k] := fun a b => hA ⟨a, b⟩
        clear hA hy h HD HM
        generalize l[k] = y at *
        generalize doneTo l x k = dk at *
        cases dk with
        | true =>
          clear hx0
          have hl1 : OwL FI 3 (wr.alloc (.cells #[.int .i64 y] 3)) (.slice (some ⟨wr.heap.size, 0, none⟩) 1 1) [y] := OwL.lit FI [y] #[.int .i64 y] rfl (by simp [maxLen]) wr 3
          go_wp2_with (at_builtin; refine wpList_append_flat Tryz.stInt rfl _ _ rfl (v := u5) (y := .slice (some ⟨wr.heap.size, 0, none⟩) 1 1) (l := insTo l x k) (m := [y]) rfl rfl (ho.alloc_ _) hl1.rd' (by simp; omega) ?_; intro v' w3 ho' hg' hat')
          have hB3 : Below w.heap.size wr w3 := ((Below.refl _ _).alloc (by first | omega | (simp; omega)) _).grown hg' (by first | omega | (simp; omega)) (fun b hb' => hf b (mem_foot1.2 hb'))
          go_roundw
          case rel =>
            refine ⟨k + 1, by omega, by go_num, by rw [HD2.out], by rw [HI.out]; exact ho', fun b hb' => ?_, HM2, hb.trans hB3⟩
            rcases foot_app hat' b hb' with h1 | h1
            · exact hf b h1
            · simp at h1
              omega
          case measure => simp [intOf]; omega
        | false =>
          have hx1 := hx0 rfl
          clear hx0
          have hl1 : OwL FI 3 (wr.alloc (.cells #[.int .i64 y] 3)) (.slice (some ⟨wr.heap.size, 0, none⟩) 1 1) [y] := OwL.lit FI [y] #[.int .i64 y] rfl (by simp [maxLen]) wr 3
          go_wp2_with (at_builtin; refine wpList_append_flat Tryz.stInt rfl _ _ rfl (v := u5) (y := .slice (some ⟨wr.heap.size, 0, none⟩) 1 1) (l := insTo l x k) (m := [y]) rfl rfl (ho.alloc_ _) hl1.rd' (by simp; omega) ?_; intro v' w3 ho' hg' hat')
          have hB3 : Below w.heap.size wr w3 := ((Below.refl _ _).alloc (by first | omega | (simp; omega)) _).grown hg' (by first | omega | (simp; omega)) (fun b hb' => hf b (mem_foot1.2 hb'))
          go_roundw
          case rel =>
            refine ⟨k + 1, by omega, by go_num, by rw [HD2.out], by rw [HI.out]; exact ho', fun b hb' => ?_, HM2, hb.trans hB3⟩
            rcases foot_app hat' b hb' with h1 | h1
            · exact hf b h1
            · simp at h1
              omega
          case measure => simp [intOf]; omega
    · obtain rfl : k = l.length := by omega
      have HP := Hid.mk_ (show putP l x = if doneTo l x l.length = true then insTo l x l.length else insTo l x l.length ++ [x] from if_neg (by have a := HM.out; rwa [List.take_length] at a))
      generalize doneTo l x l.length = dk at *
      cases dk with
      | true =>
        go_wp2_with fail
        go_ret
        exact ⟨_, rfl, by rw [HP.out]; exact ho.rd', hb⟩
      | false =>
        have hl1 : OwL FI 3 (wr.alloc (.cells #[.int .i64 x] 3)) (.slice (some ⟨wr.heap.size, 0, none⟩) 1 1) [x] := OwL.lit FI [x] #[.int .i64 x] rfl (by simp [maxLen]) wr 3
        go_wp2_with (at_builtin; refine wpList_append_flat Tryz.stInt rfl _ _ rfl (v := u5) (y := .slice (some ⟨wr.heap.size, 0, none⟩) 1 1) (l := insTo l x l.length) (m := [x]) rfl rfl (ho.alloc_ _) hl1.rd' (by simp; omega) ?_; intro v' w3 ho' hg' hat')
        have hB3 : Below w.heap.size wr w3 := ((Below.refl _ _).alloc (by first | omega | (simp; omega)) _).grown hg' (by first | omega | (simp; omega)) (fun b hb' => hf b (mem_foot1.2 hb'))
        go_ret
        exact ⟨_, rfl, by rw [HP.out]; exact ho'.rd', hb.trans hB3⟩
end Go.Proofs.YtkldapdpaldbgaaGreat
namespace Go.Proofs.YtkldapdpaldbgaaGreat
open Go.RowKit
attribute [local go_sem ↓] execJob
attribute [local go_sem] loadResJob

def pinB (p : Pin) : Bool := p.On && !p.Marked
def gS (j : Job) (p : Pin) : Bool := if j.Busy = false then false else if j.H = 0 then false else if j.Op.Kind = 2 then pinB p && (j.Pc == 2 || j.Pc == 3) else if j.Op.Kind = 7 then pinB p && (j.Pc == 1 || j.Pc == 2) else if j.Op.Kind = 3 then j.Pc == 3 else false

set_option maxRecDepth 100000 in
set_option maxHeartbeats 8000000 in
theorem l17Guards_spec (w : World) (H : HShelf) (x : Shelf) (k : Nat) (j : Job) (p : Pin) (h : RdShelf w w.heap.size H x) (hj : x.Jobs[k]? = some j) (hp : x.Base.Clock.Pins[k]? = some p) :
    Calls Tryz.prog 140 #[.agg #[.slice H.Base.Mem.Heap.Bytes.a H.Base.Mem.Heap.Bytes.len H.Base.Mem.Heap.Bytes.cap, .slice H.Base.Mem.Heap.Class.a H.Base.Mem.Heap.Class.len H.Base.Mem.Heap.Class.cap, .slice H.Base.Mem.Lists.Global.a H.Base.Mem.Lists.Global.len H.Base.Mem.Lists.Global.cap, .slice H.Base.Mem.Lists.Own.a H.Base.Mem.Lists.Own.len H.Base.Mem.Lists.Own.cap, .int .i64 x.Base.Clock.Epoch, .slice H.Base.Clock.Pins.a H.Base.Clock.Pins.len H.Base.Clock.Pins.cap, .slice H.Base.Limbo.a H.Base.Limbo.len H.Base.Limbo.cap, .slice H.Base.Haz.a H.Base.Haz.len H.Base.Haz.cap, .slice H.Cells.a H.Cells.len H.Cells.cap, .slice H.Jobs.a H.Jobs.len H.Jobs.cap, .slice H.Todo.a H.Todo.len H.Todo.cap, .slice H.Log.a H.Log.len H.Log.cap, .int .i64 x.Serial], .int .i64 k] w fun e w' => e = .returned (.bool (gS j p)) ∧ Below w.heap.size w w' := by
  have rJ := h.Jobs
  have rP := h.Base.Clock.Pins
  clear h
  have HV : Hid (gS j p = if j.Busy = false then false else if j.H = 0 then false else if j.Op.Kind = 2 then (p.On && !p.Marked) && (j.Pc == 2 || j.Pc == 3) else if j.Op.Kind = 7 then (p.On && !p.Marked) && (j.Pc == 1 || j.Pc == 2) else if j.Op.Kind = 3 then j.Pc == 3 else false) := Hid.mk_ rfl
  have B_a : Box (w.alloc (.cells #[.slice H.Base.Mem.Heap.Bytes.a H.Base.Mem.Heap.Bytes.len H.Base.Mem.Heap.Bytes.cap, .slice H.Base.Mem.Heap.Class.a H.Base.Mem.Heap.Class.len H.Base.Mem.Heap.Class.cap, .slice H.Base.Mem.Lists.Global.a H.Base.Mem.Lists.Global.len H.Base.Mem.Lists.Global.cap, .slice H.Base.Mem.Lists.Own.a H.Base.Mem.Lists.Own.len H.Base.Mem.Lists.Own.cap, .int .i64 x.Base.Clock.Epoch, .slice H.Base.Clock.Pins.a H.Base.Clock.Pins.len H.Base.Clock.Pins.cap, .slice H.Base.Limbo.a H.Base.Limbo.len H.Base.Limbo.cap, .slice H.Base.Haz.a H.Base.Haz.len H.Base.Haz.cap, .slice H.Cells.a H.Cells.len H.Cells.cap, .slice H.Jobs.a H.Jobs.len H.Jobs.cap, .slice H.Todo.a H.Todo.len H.Todo.cap, .slice H.Log.a H.Log.len H.Log.cap, .int .i64 x.Serial] 69)) (w.heap.size) [.slice H.Base.Mem.Heap.Bytes.a H.Base.Mem.Heap.Bytes.len H.Base.Mem.Heap.Bytes.cap, .slice H.Base.Mem.Heap.Class.a H.Base.Mem.Heap.Class.len H.Base.Mem.Heap.Class.cap, .slice H.Base.Mem.Lists.Global.a H.Base.Mem.Lists.Global.len H.Base.Mem.Lists.Global.cap, .slice H.Base.Mem.Lists.Own.a H.Base.Mem.Lists.Own.len H.Base.Mem.Lists.Own.cap, .int .i64 x.Base.Clock.Epoch, .slice H.Base.Clock.Pins.a H.Base.Clock.Pins.len H.Base.Clock.Pins.cap, .slice H.Base.Limbo.a H.Base.Limbo.len H.Base.Limbo.cap, .slice H.Base.Haz.a H.Base.Haz.len H.Base.Haz.cap, .slice H.Cells.a H.Cells.len H.Cells.cap, .slice H.Jobs.a H.Jobs.len H.Jobs.cap, .slice H.Todo.a H.Todo.len H.Todo.cap, .slice H.Log.a H.Log.len H.Log.cap, .int .i64 x.Serial] := by
    have hbx := Box.new w #[.slice H.Base.Mem.Heap.Bytes.a H.Base.Mem.Heap.Bytes.len H.Base.Mem.Heap.Bytes.cap, .slice H.Base.Mem.Heap.Class.a H.Base.Mem.Heap.Class.len H.Base.Mem.Heap.Class.cap, .slice H.Base.Mem.Lists.Global.a H.Base.Mem.Lists.Global.len H.Base.Mem.Lists.Global.cap, .slice H.Base.Mem.Lists.Own.a H.Base.Mem.Lists.Own.len H.Base.Mem.Lists.Own.cap, .int .i64 x.Base.Clock.Epoch, .slice H.Base.Clock.Pins.a H.Base.Clock.Pins.len H.Base.Clock.Pins.cap, .slice H.Base.Limbo.a H.Base.Limbo.len H.Base.Limbo.cap, .slice H.Base.Haz.a H.Base.Haz.len H.Base.Haz.cap, .slice H.Cells.a H.Cells.len H.Cells.cap, .slice H.Jobs.a H.Jobs.len H.Jobs.cap, .slice H.Todo.a H.Todo.len H.Todo.cap, .slice H.Log.a H.Log.len H.Log.cap, .int .i64 x.Serial] 69
    exact hbx
  have hB : Below w.heap.size w (w.alloc (.cells #[.slice H.Base.Mem.Heap.Bytes.a H.Base.Mem.Heap.Bytes.len H.Base.Mem.Heap.Bytes.cap, .slice H.Base.Mem.Heap.Class.a H.Base.Mem.Heap.Class.len H.Base.Mem.Heap.Class.cap, .slice H.Base.Mem.Lists.Global.a H.Base.Mem.Lists.Global.len H.Base.Mem.Lists.Global.cap, .slice H.Base.Mem.Lists.Own.a H.Base.Mem.Lists.Own.len H.Base.Mem.Lists.Own.cap, .int .i64 x.Base.Clock.Epoch, .slice H.Base.Clock.Pins.a H.Base.Clock.Pins.len H.Base.Clock.Pins.cap, .slice H.Base.Limbo.a H.Base.Limbo.len H.Base.Limbo.cap, .slice H.Base.Haz.a H.Base.Haz.len H.Base.Haz.cap, .slice H.Cells.a H.Cells.len H.Cells.cap, .slice H.Jobs.a H.Jobs.len H.Jobs.cap, .slice H.Todo.a H.Todo.len H.Todo.cap, .slice H.Log.a H.Log.len H.Log.cap, .int .i64 x.Serial] 69)) := by repeat (first | exact Below.refl _ _ | refine Below.alloc ?_ (by simp <;> omega) _ | refine below_grow_of ?_ (by simp <;> omega) _ _ | refine Below.drew ?_ | refine below_drewN ?_ _)
  go_enter Tryz.func140, Tryz.ntmps140
  go_upto_region 1 with (fail)
  generalize hW0 : (w.alloc (.cells #[.slice H.Base.Mem.Heap.Bytes.a H.Base.Mem.Heap.Bytes.len H.Base.Mem.Heap.Bytes.cap, .slice H.Base.Mem.Heap.Class.a H.Base.Mem.Heap.Class.len H.Base.Mem.Heap.Class.cap, .slice H.Base.Mem.Lists.Global.a H.Base.Mem.Lists.Global.len H.Base.Mem.Lists.Global.cap, .slice H.Base.Mem.Lists.Own.a H.Base.Mem.Lists.Own.len H.Base.Mem.Lists.Own.cap, .int .i64 x.Base.Clock.Epoch, .slice H.Base.Clock.Pins.a H.Base.Clock.Pins.len H.Base.Clock.Pins.cap, .slice H.Base.Limbo.a H.Base.Limbo.len H.Base.Limbo.cap, .slice H.Base.Haz.a H.Base.Haz.len H.Base.Haz.cap, .slice H.Cells.a H.Cells.len H.Cells.cap, .slice H.Jobs.a H.Jobs.len H.Jobs.cap, .slice H.Todo.a H.Todo.len H.Todo.cap, .slice H.Log.a H.Log.len H.Log.cap, .int .i64 x.Serial] 69)) = w0 at B_a hB ⊢
  clear hW0
  have zz_a := B_a.lt
  have q_a_0 := B_a.cell 0 _ rfl
  have q_a_1 := B_a.cell 1 _ rfl
  have q_a_2 := B_a.cell 2 _ rfl
  have q_a_3 := B_a.cell 3 _ rfl
  have q_a_4 := B_a.cell 4 _ rfl
  have q_a_5 := B_a.cell 5 _ rfl
  have q_a_6 := B_a.cell 6 _ rfl
  have q_a_7 := B_a.cell 7 _ rfl
  have q_a_8 := B_a.cell 8 _ rfl
  have q_a_9 := B_a.cell 9 _ rfl
  have q_a_10 := B_a.cell 10 _ rfl
  have q_a_11 := B_a.cell 11 _ rfl
  have q_a_12 := B_a.cell 12 _ rfl
  have fr_a := B_a.fro
  have z_a := B_a.lt
  replace rJ := rd_up rJ hB
  replace rP := rd_up rP hB
  obtain ⟨Aj, nj, cj, hvj⟩ : ∃ A n c, H.Jobs = ⟨A, n, c⟩ := ⟨_, _, _, rfl⟩
  rw [hvj] at rJ q_a_9
  clear hvj
  obtain ⟨Ap, np, cp, hvp⟩ : ∃ A n c, H.Base.Clock.Pins = ⟨A, n, c⟩ := ⟨_, _, _, rfl⟩
  rw [hvp] at rP q_a_5
  clear hvp
  simp only [SV.val] at rJ rP q_a_9 q_a_5
  have hkj : k < x.Jobs.length := (List.getElem?_eq_some_iff.1 hj).1
  have hkp : k < x.Base.Clock.Pins.length := (List.getElem?_eq_some_iff.1 hp).1
  obtain ⟨_, bJ⟩ := RdL.len_ rJ
  obtain ⟨_, bP⟩ := RdL.len_ rP
  obtain ⟨g, off, cap', he, hg, _, _, hc⟩ := rJ.range_ hj
  injection he with he1 he2 he3
  subst he1 he2 he3
  obtain ⟨g2, off2, cap2, he, hg2, _, _, hc2⟩ := rP.at_ hp
  injection he with he1 he2 he3
  subst he1 he2 he3
  generalize x.Jobs.length = nj at *
  generalize x.Base.Clock.Pins.length = np at *
  have hgz : g < w0.heap.size := hg
  have hgz2 : g2 < w0.heap.size := hg2
  have u0 : w0.cell? ⟨g2, off2 + k * 4, none⟩ = some (.bool p.On) := hc2 0 _ rfl
  have u1 : w0.cell? ⟨g2, off2 + k * 4 + 1, none⟩ = some (.int .i64 p.Epoch) := hc2 1 _ rfl
  have u2 : w0.cell? ⟨g2, off2 + k * 4 + 2, none⟩ = some (.bool p.Marked) := hc2 2 _ rfl
  have u3 : w0.cell? ⟨g2, off2 + k * 4 + 3, none⟩ = some (.int .i64 p.Seen) := hc2 3 _ rfl
  obtain ⟨cs, hcs⟩ : ∃ cs, cs = FJob.enc j := ⟨_, rfl⟩
  have hlen : cs.length = 21 := by rw [hcs]; exact FJob.len j
  have hO : cs.toArray.all (·.oneCell') = true := by rw [hcs]; exact all_oneCell_toArray (FJob.one j)
  have hsz : (Tryz.prog.info? 146).map (·.size) = some cs.toArray.size := by rw [List.size_toArray, hlen]; exact Tryz.sizeJob
  have HS2 := Hid.mk_ (show cs.toArray.size = 21 by rw [List.size_toArray, hlen])
  rw [show (FJob.n : Nat) = 21 from rfl] at hc
  have bj : Box (w0.alloc (.cells cs.toArray 146)) w0.heap.size cs := Box.new w0 cs.toArray 146
  have hr : row? w0 g (off + k * 21) 21 = some cs := row?_of (by rw [hcs]; exact hc) hlen
  have bj2 := bj.alloc (.cells #[.bool p.On, .int .i64 p.Epoch, .bool p.Marked, .int .i64 p.Seen] 165)
  have p0 := bj2.cell 0 (.bool j.Busy) (by rw [hcs]; rfl)
  have p1 := bj2.cell 1 (.int .i64 j.Op.Kind) (by rw [hcs]; rfl)
  have p6 := bj2.cell 6 (.int .i64 j.Pc) (by rw [hcs]; rfl)
  have p17 := bj2.cell 17 (.int .i64 j.H) (by rw [hcs]; rfl)
  clear hcs hc hc2 hlen rJ rP hj hp
  have hzl : w0.heap.size < (w0.alloc (.cells cs.toArray 146)).heap.size := bj.lt
  clear bj2
  generalize j.Busy = bb at *
  generalize j.Op.Kind = kd at *
  generalize j.Pc = pc at *
  generalize j.H = hh at *
  generalize p.On = on at *
  generalize p.Marked = mk at *
  generalize p.Epoch = pe at *
  generalize p.Seen = ps at *
  cases on with
  | true =>
    cases mk with
    | true =>
      cases bb with
      | true =>
        by_cases h0 : hh = 0
        · have h0a : (hh == 0) = true := by simpa using h0
          replace HV : Hid (gS j p = false) := Hid.mk_ (by rw [HV.out]; simp_all)
          go_wp2_with (first | (have hz9 := hsz; clear hsz; refine wpList_store_new2 rfl 146 (.tmp 5) (.tmp 12) rfl cs.toArray rfl rfl hz9 (by rw [HS2.out]; rfl) hO ?_; clear hz9))
          go_ret
          exact ⟨ret_bool HV.out.symm, (hB.alloc hB.size _).alloc (by have := hB.size; simp; omega) _⟩
        · have h0a : (hh == 0) = false := by simpa using h0
          by_cases k2 : kd = 2
          · have k2a : (kd == 2) = true := by simpa using k2
            replace HV : Hid (gS j p = false) := Hid.mk_ (by rw [HV.out]; simp_all)
            go_wp2_with (first | (have hz9 := hsz; clear hsz; refine wpList_store_new2 rfl 146 (.tmp 5) (.tmp 12) rfl cs.toArray rfl rfl hz9 (by rw [HS2.out]; rfl) hO ?_; clear hz9))
            go_ret
            exact ⟨ret_bool HV.out.symm, (hB.alloc hB.size _).alloc (by have := hB.size; simp; omega) _⟩
          · have k2a : (kd == 2) = false := by simpa using k2
            by_cases k7 : kd = 7
            · have k7a : (kd == 7) = true := by simpa using k7
              replace HV : Hid (gS j p = false) := Hid.mk_ (by rw [HV.out]; simp_all)
              go_wp2_with (first | (have hz9 := hsz; clear hsz; refine wpList_store_new2 rfl 146 (.tmp 5) (.tmp 12) rfl cs.toArray rfl rfl hz9 (by rw [HS2.out]; rfl) hO ?_; clear hz9))
              go_ret
              exact ⟨ret_bool HV.out.symm, (hB.alloc hB.size _).alloc (by have := hB.size; simp; omega) _⟩
            · have k7a : (kd == 7) = false := by simpa using k7
              by_cases k3 : kd = 3
              · have k3a : (kd == 3) = true := by simpa using k3
                replace HV : Hid (gS j p = (pc == 3)) := Hid.mk_ (by rw [HV.out]; simp_all)
                go_wp2_with (first | (have hz9 := hsz; clear hsz; refine wpList_store_new2 rfl 146 (.tmp 5) (.tmp 12) rfl cs.toArray rfl rfl hz9 (by rw [HS2.out]; rfl) hO ?_; clear hz9))
                go_ret
                exact ⟨ret_bool HV.out.symm, (hB.alloc hB.size _).alloc (by have := hB.size; simp; omega) _⟩
              · have k3a : (kd == 3) = false := by simpa using k3
                replace HV : Hid (gS j p = false) := Hid.mk_ (by rw [HV.out]; simp_all)
                go_wp2_with (first | (have hz9 := hsz; clear hsz; refine wpList_store_new2 rfl 146 (.tmp 5) (.tmp 12) rfl cs.toArray rfl rfl hz9 (by rw [HS2.out]; rfl) hO ?_; clear hz9))
                go_ret
                exact ⟨ret_bool HV.out.symm, (hB.alloc hB.size _).alloc (by have := hB.size; simp; omega) _⟩
      | false =>
        replace HV : Hid (gS j p = false) := Hid.mk_ (by rw [HV.out]; simp_all)
        go_wp2_with (first | (have hz9 := hsz; clear hsz; refine wpList_store_new2 rfl 146 (.tmp 5) (.tmp 12) rfl cs.toArray rfl rfl hz9 (by rw [HS2.out]; rfl) hO ?_; clear hz9))
        go_ret
        exact ⟨ret_bool HV.out.symm, (hB.alloc hB.size _).alloc (by have := hB.size; simp; omega) _⟩
    | false =>
      cases bb with
      | true =>
        by_cases h0 : hh = 0
        · have h0a : (hh == 0) = true := by simpa using h0
          replace HV : Hid (gS j p = false) := Hid.mk_ (by rw [HV.out]; simp_all)
          go_wp2_with (first | (have hz9 := hsz; clear hsz; refine wpList_store_new2 rfl 146 (.tmp 5) (.tmp 12) rfl cs.toArray rfl rfl hz9 (by rw [HS2.out]; rfl) hO ?_; clear hz9))
          go_ret
          exact ⟨ret_bool HV.out.symm, (hB.alloc hB.size _).alloc (by have := hB.size; simp; omega) _⟩
        · have h0a : (hh == 0) = false := by simpa using h0
          by_cases k2 : kd = 2
          · have k2a : (kd == 2) = true := by simpa using k2
            by_cases e1 : pc = 2
            · have e1a : (pc == 2) = true := by simpa using e1
              replace HV : Hid (gS j p = true) := Hid.mk_ (by rw [HV.out]; simp_all)
              go_wp2_with (first | (have hz9 := hsz; clear hsz; refine wpList_store_new2 rfl 146 (.tmp 5) (.tmp 12) rfl cs.toArray rfl rfl hz9 (by rw [HS2.out]; rfl) hO ?_; clear hz9))
              go_ret
              exact ⟨ret_bool HV.out.symm, (hB.alloc hB.size _).alloc (by have := hB.size; simp; omega) _⟩
            · have e1a : (pc == 2) = false := by simpa using e1
              replace HV : Hid (gS j p = (pc == 3)) := Hid.mk_ (by rw [HV.out]; simp_all)
              go_wp2_with (first | (have hz9 := hsz; clear hsz; refine wpList_store_new2 rfl 146 (.tmp 5) (.tmp 12) rfl cs.toArray rfl rfl hz9 (by rw [HS2.out]; rfl) hO ?_; clear hz9))
              go_ret
              exact ⟨ret_bool HV.out.symm, (hB.alloc hB.size _).alloc (by have := hB.size; simp; omega) _⟩
          · have k2a : (kd == 2) = false := by simpa using k2
            by_cases k7 : kd = 7
            · have k7a : (kd == 7) = true := by simpa using k7
              by_cases e1 : pc = 1
              · have e1a : (pc == 1) = true := by simpa using e1
                replace HV : Hid (gS j p = true) := Hid.mk_ (by rw [HV.out]; simp_all)
                go_wp2_with (first | (have hz9 := hsz; clear hsz; refine wpList_store_new2 rfl 146 (.tmp 5) (.tmp 12) rfl cs.toArray rfl rfl hz9 (by rw [HS2.out]; rfl) hO ?_; clear hz9))
                go_ret
                exact ⟨ret_bool HV.out.symm, (hB.alloc hB.size _).alloc (by have := hB.size; simp; omega) _⟩
              · have e1a : (pc == 1) = false := by simpa using e1
                replace HV : Hid (gS j p = (pc == 2)) := Hid.mk_ (by rw [HV.out]; simp_all)
                go_wp2_with (first | (have hz9 := hsz; clear hsz; refine wpList_store_new2 rfl 146 (.tmp 5) (.tmp 12) rfl cs.toArray rfl rfl hz9 (by rw [HS2.out]; rfl) hO ?_; clear hz9))
                go_ret
                exact ⟨ret_bool HV.out.symm, (hB.alloc hB.size _).alloc (by have := hB.size; simp; omega) _⟩
            · have k7a : (kd == 7) = false := by simpa using k7
              by_cases k3 : kd = 3
              · have k3a : (kd == 3) = true := by simpa using k3
                replace HV : Hid (gS j p = (pc == 3)) := Hid.mk_ (by rw [HV.out]; simp_all)
                go_wp2_with (first | (have hz9 := hsz; clear hsz; refine wpList_store_new2 rfl 146 (.tmp 5) (.tmp 12) rfl cs.toArray rfl rfl hz9 (by rw [HS2.out]; rfl) hO ?_; clear hz9))
                go_ret
                exact ⟨ret_bool HV.out.symm, (hB.alloc hB.size _).alloc (by have := hB.size; simp; omega) _⟩
              · have k3a : (kd == 3) = false := by simpa using k3
                replace HV : Hid (gS j p = false) := Hid.mk_ (by rw [HV.out]; simp_all)
                go_wp2_with (first | (have hz9 := hsz; clear hsz; refine wpList_store_new2 rfl 146 (.tmp 5) (.tmp 12) rfl cs.toArray rfl rfl hz9 (by rw [HS2.out]; rfl) hO ?_; clear hz9))
                go_ret
                exact ⟨ret_bool HV.out.symm, (hB.alloc hB.size _).alloc (by have := hB.size; simp; omega) _⟩
      | false =>
        replace HV : Hid (gS j p = false) := Hid.mk_ (by rw [HV.out]; simp_all)
        go_wp2_with (first | (have hz9 := hsz; clear hsz; refine wpList_store_new2 rfl 146 (.tmp 5) (.tmp 12) rfl cs.toArray rfl rfl hz9 (by rw [HS2.out]; rfl) hO ?_; clear hz9))
        go_ret
        exact ⟨ret_bool HV.out.symm, (hB.alloc hB.size _).alloc (by have := hB.size; simp; omega) _⟩
  | false =>
    cases bb with
    | true =>
      by_cases h0 : hh = 0
      · have h0a : (hh == 0) = true := by simpa using h0
        replace HV : Hid (gS j p = false) := Hid.mk_ (by rw [HV.out]; simp_all)
        go_wp2_with (first | (have hz9 := hsz; clear hsz; refine wpList_store_new2 rfl 146 (.tmp 5) (.tmp 12) rfl cs.toArray rfl rfl hz9 (by rw [HS2.out]; rfl) hO ?_; clear hz9))
        go_ret
        exact ⟨ret_bool HV.out.symm, (hB.alloc hB.size _).alloc (by have := hB.size; simp; omega) _⟩
      · have h0a : (hh == 0) = false := by simpa using h0
        by_cases k2 : kd = 2
        · have k2a : (kd == 2) = true := by simpa using k2
          replace HV : Hid (gS j p = false) := Hid.mk_ (by rw [HV.out]; simp_all)
          go_wp2_with (first | (have hz9 := hsz; clear hsz; refine wpList_store_new2 rfl 146 (.tmp 5) (.tmp 12) rfl cs.toArray rfl rfl hz9 (by rw [HS2.out]; rfl) hO ?_; clear hz9))
          go_ret
          exact ⟨ret_bool HV.out.symm, (hB.alloc hB.size _).alloc (by have := hB.size; simp; omega) _⟩
        · have k2a : (kd == 2) = false := by simpa using k2
          by_cases k7 : kd = 7
          · have k7a : (kd == 7) = true := by simpa using k7
            replace HV : Hid (gS j p = false) := Hid.mk_ (by rw [HV.out]; simp_all)
            go_wp2_with (first | (have hz9 := hsz; clear hsz; refine wpList_store_new2 rfl 146 (.tmp 5) (.tmp 12) rfl cs.toArray rfl rfl hz9 (by rw [HS2.out]; rfl) hO ?_; clear hz9))
            go_ret
            exact ⟨ret_bool HV.out.symm, (hB.alloc hB.size _).alloc (by have := hB.size; simp; omega) _⟩
          · have k7a : (kd == 7) = false := by simpa using k7
            by_cases k3 : kd = 3
            · have k3a : (kd == 3) = true := by simpa using k3
              replace HV : Hid (gS j p = (pc == 3)) := Hid.mk_ (by rw [HV.out]; simp_all)
              go_wp2_with (first | (have hz9 := hsz; clear hsz; refine wpList_store_new2 rfl 146 (.tmp 5) (.tmp 12) rfl cs.toArray rfl rfl hz9 (by rw [HS2.out]; rfl) hO ?_; clear hz9))
              go_ret
              exact ⟨ret_bool HV.out.symm, (hB.alloc hB.size _).alloc (by have := hB.size; simp; omega) _⟩
            · have k3a : (kd == 3) = false := by simpa using k3
              replace HV : Hid (gS j p = false) := Hid.mk_ (by rw [HV.out]; simp_all)
              go_wp2_with (first | (have hz9 := hsz; clear hsz; refine wpList_store_new2 rfl 146 (.tmp 5) (.tmp 12) rfl cs.toArray rfl rfl hz9 (by rw [HS2.out]; rfl) hO ?_; clear hz9))
              go_ret
              exact ⟨ret_bool HV.out.symm, (hB.alloc hB.size _).alloc (by have := hB.size; simp; omega) _⟩
    | false =>
      replace HV : Hid (gS j p = false) := Hid.mk_ (by rw [HV.out]; simp_all)
      go_wp2_with (first | (have hz9 := hsz; clear hsz; refine wpList_store_new2 rfl 146 (.tmp 5) (.tmp 12) rfl cs.toArray rfl rfl hz9 (by rw [HS2.out]; rfl) hO ?_; clear hz9))
      go_ret
      exact ⟨ret_bool HV.out.symm, (hB.alloc hB.size _).alloc (by have := hB.size; simp; omega) _⟩
end Go.Proofs.YtkldapdpaldbgaaGreat
