/-
  A number put into its place: the contract. Shelves that are valid: words. Numbers in order: what is claimed.
-/
import Derived.Test.YtkldapdpaldbgaaGreatT
import Derived.Test.YtkldapdpaldbgaaGreatL
import Derived.Deep.QuietTactic
import Derived.BigQuiet
import Derived.Deep.LoopGhost
import Derived.Deep.RegionHeld3
import Derived.Test.YtkldapdpaldbgaaGreatN
import Derived.Test.YtkldapdpaldbgaaGreatA
import Derived.WalkSpells
import Derived.Laws.Cover3
import Derived.Test.YtkldapdpaldbgaaGreatB7
import Derived.Test.YtkldapdpaldbgaaGreatUD
namespace Go.Proofs.YtkldapdpaldbgaaGreat
open Go.RowKit

def doneTo (l : List Int) (x : Int) (k : Nat) : Bool := (l.take k).any fun y => decide (x < y)
def insTo (l : List Int) (x : Int) : Nat → List Int
  | 0 => []
  | k + 1 => (if doneTo l x k = false ∧ x < l.getD k 0 then insTo l x k ++ [x] else insTo l x k) ++ [l.getD k 0]
def putP (l : List Int) (x : Int) : List Int := if x ∈ l then l else if doneTo l x l.length = true then insTo l x l.length else insTo l x l.length ++ [x]
theorem getD_is {l : List Int} {k : Nat} (h : k < l.length) : l.getD k 0 = l[k] := by simp [List.getD, h]
theorem doneTo_succ {l : List Int} {x : Int} {k : Nat} (h : k < l.length) : doneTo l x (k + 1) = (doneTo l x k || decide (x < l[k])) := by
  unfold doneTo
  rw [List.take_succ_eq_append_getElem h, List.any_append]
  simp
theorem insTo_perm (l : List Int) (x : Int) : ∀ k, k ≤ l.length → (insTo l x k).Perm (if doneTo l x k = true then x :: l.take k else l.take k)
  | 0, _ => by simp [insTo, doneTo]
  | k + 1, hk => by
    have ih := insTo_perm l x k (by omega)
    have hlt : k < l.length := by omega
    rw [doneTo_succ hlt, insTo, getD_is hlt]
    have et : l.take (k + 1) = l.take k ++ [l[k]] := List.take_succ_eq_append_getElem hlt
    cases hd : doneTo l x k with
    | true =>
      rw [hd] at ih
      simp only [Bool.true_or, if_true, Bool.true_eq_false, false_and, if_false] at ih ⊢
      rw [et]
      exact (ih.append_right [l[k]])
    | false =>
      rw [hd] at ih
      simp only [Bool.false_eq_true, if_false, Bool.false_or, true_and, decide_eq_true_eq] at ih ⊢
      by_cases hx : x < l[k]
      · rw [if_pos hx, if_pos hx, et]
        refine ((ih.append_right [x]).append_right [l[k]]).trans ?_
        rw [List.append_assoc]
        exact (List.perm_append_comm_assoc _ _ _).trans (by simp)
      · rw [if_neg hx, if_neg hx, et]
        exact ih.append_right [l[k]]
theorem insTo_len (l : List Int) (x : Int) {k : Nat} (hk : k ≤ l.length) : (insTo l x k).length ≤ k + 1 := by
  rw [(insTo_perm l x k hk).length_eq]
  split <;> simp <;> omega
theorem putP_perm {l : List Int} {x : Int} (h : x ∉ l) : (putP l x).Perm (x :: l) := by
  have hp := insTo_perm l x l.length (Nat.le_refl _)
  rw [List.take_length] at hp
  unfold putP
  rw [if_neg h]
  split
  · next hd => rw [if_pos hd] at hp; exact hp
  · next hd =>
    rw [if_neg hd] at hp
    exact (hp.append_right [x]).trans (List.perm_append_singleton x l)
theorem putP_mem (l : List Int) (x h : Int) : h ∈ putP l x ↔ h = x ∨ h ∈ l := by
  by_cases hx : x ∈ l
  · unfold putP
    rw [if_pos hx]
    exact ⟨Or.inr, fun a => a.elim (fun e => e ▸ hx) id⟩
  · rw [(putP_perm hx).mem_iff, List.mem_cons]
theorem putP_nodup {l : List Int} (x : Int) (h : l.Nodup) : (putP l x).Nodup := by
  by_cases hx : x ∈ l
  · unfold putP
    rw [if_pos hx]
    exact h
  · rw [(putP_perm hx).nodup_iff]
    exact List.nodup_cons.2 ⟨hx, h⟩
theorem putP_len (l : List Int) (x : Int) : (putP l x).length ≤ l.length + 1 := by
  by_cases hx : x ∈ l
  · unfold putP
    rw [if_pos hx]
    omega
  · rw [(putP_perm hx).length_eq]
    simp
theorem not_mem_step {l : List Int} {x : Int} {k : Nat} (hk : k < l.length) (h : x ∉ l.take k) (he : l[k] ≠ x) : x ∉ l.take (k + 1) := by
  rw [List.take_succ_eq_append_getElem hk, List.mem_append, List.mem_singleton]
  exact fun a => a.elim h (fun e => he e.symm)
theorem insTo_put {l : List Int} {x : Int} {k : Nat} (hk : k < l.length) (hd : doneTo l x k = false) (hx : x < l[k]) : insTo l x (k + 1) = insTo l x k ++ [x] ++ [l[k]] := by
  rw [insTo, getD_is hk, if_pos ⟨hd, hx⟩]
theorem insTo_go {l : List Int} {x : Int} {k : Nat} (hk : k < l.length) (h : ¬ (doneTo l x k = false ∧ x < l[k])) : insTo l x (k + 1) = insTo l x k ++ [l[k]] := by
  rw [insTo, getD_is hk, if_neg h]

set_option maxRecDepth 100000 in
set_option maxHeartbeats 2000000 in
theorem l17Put_spec (w : World) (v : Value) (l : List Int) (x : Int) (h : RdL FI w w.heap.size v l) (hn : l.length ≤ 1000) :
    Calls Tryz.prog 141 #[v, .int .i64 x] w fun e w' => ∃ v', e = .returned v' ∧ RdL FI w' w'.heap.size v' (putP l x) ∧ Below w.heap.size w w' := by
  obtain ⟨A, c, hv, q1, q2, _⟩ := id h
  subst hv
  clear q1 q2
  have hb : Below w.heap.size w (w.alloc (.cells #[] 3)) := by repeat (first | exact Below.refl _ _ | refine Below.alloc ?_ (by simp <;> omega) _ | refine below_grow_of ?_ (by simp <;> omega) _ _ | refine Below.drew ?_ | refine below_drewN ?_ _)
  have o0 : OwL FI 3 (w.alloc (.cells #[] 3)) (.slice (some ⟨w.heap.size, 0, none⟩) 0 0) [] := OwL.lit FI [] #[] rfl (by decide) w 3
  go_enter Tryz.func141, Tryz.ntmps141
  go_wp2_with fail
  generalize hW0 : (w.alloc (.cells #[] 3)) = w0 at o0 hb ⊢
  clear hW0
  go_loopw [5, 6, 7] (fun o d i wr => ∃ k : Nat, k ≤ l.length ∧ i = .int .i64 k ∧ d = .bool (doneTo l x k) ∧ OwL FI 3 wr o (insTo l x k) ∧ (∀ g ∈ foot1 o, w.heap.size ≤ g) ∧ Hid (x ∉ l.take k) ∧ Below w.heap.size w wr) (fun _ _ i _ => l.length - (intOf i).toNat)
  case atStart => exact ⟨0, Nat.zero_le _, rfl, rfl, o0, by simp [foot1, Value.ownBlock], Hid.mk_ (by simp), hb⟩
  case round =>
    clear o0 hb
    obtain ⟨k, hk, rfl, rfl, ho, hf, HM, hb⟩ := hrel
    have hil := insTo_len l x hk
    have hsz := hb.size
    by_cases hlt : k < l.length
    · obtain ⟨g, off, cap', he, hg, _, _, hc⟩ := (h.below hb).at_ (List.getElem?_eq_getElem hlt)
      injection he with he1 he2 he3
      clear he2
      subst he1 he3
      have p0 := hc 0 _ rfl
      simp only [FI, Nat.mul_one, Nat.add_zero] at p0
      have hgs : g < w.heap.size := hg
      clear hc
      by_cases hy : l[k] = x
      · have HP := Hid.mk_ (show putP l x = l from if_pos (hy ▸ List.getElem_mem hlt))
        have hy' : (l[k] == x) = true := by simpa using hy
        have hr := rd_up h hb
        generalize l[k] = y at p0 hy'
        clear hy
        go_wp2_with fail
        go_ret
        exact ⟨_, rfl, by rw [HP.out]; exact hr, hb⟩
      have hy' : (l[k] == x) = false := by simpa using hy
      have HM2 := Hid.mk_ (not_mem_step hlt HM.out hy)
      have HD := Hid.mk_ (doneTo_succ (x := x) hlt)
      by_cases hA : doneTo l x k = false ∧ x < l[k]
      · have HI := Hid.mk_ (insTo_put hlt hA.1 hA.2)
        have hd0 := hA.1
        have hx0 := hA.2
        have HD2 := Hid.mk_ (HD.out.trans (show _ = true by simp [hx0]))
        rw [hd0]
        clear hA hy h HD hd0 HM
        generalize l[k] = y at *
        have hl1 : OwL FI 3 (wr.alloc (.cells #[.int .i64 x] 3)) (.slice (some ⟨wr.heap.size, 0, none⟩) 1 1) [x] := OwL.lit FI [x] #[.int .i64 x] rfl (by simp [maxLen]) wr 3
        go_wp2_with (first | (at_builtin; refine wpList_append_flat Tryz.stInt rfl _ _ rfl (v := v') (y := .slice (some ⟨w3.heap.size, 0, none⟩) 1 1) (l := insTo l x k ++ [x]) (m := [y]) rfl rfl (ho'.alloc_ _) hl2.rd' (by simp; omega) ?_; intro v'' w5 ho'' hg'' hat'') | (at_builtin; refine wpList_append_flat Tryz.stInt rfl _ _ rfl (v := u5) (y := .slice (some ⟨wr.heap.size, 0, none⟩) 1 1) (l := insTo l x k) (m := [x]) rfl rfl (ho.alloc_ _) hl1.rd' (by simp; omega) ?_; intro v' w3 ho' hg' hat'; have hl2 : OwL FI 3 (w3.alloc (.cells #[.int .i64 y] 3)) (.slice (some ⟨w3.heap.size, 0, none⟩) 1 1) [y] := OwL.lit FI [y] #[.int .i64 y] rfl (by simp [maxLen]) w3 3; have p1 : w3.cell? ⟨g, off + k, none⟩ = some (.int .i64 y) := ((Chg.of_grown hg').cell g (off + k) (by simp; omega) (fun hm => by have := hf _ hm; omega)).trans ((cell_old wr _ _ _ (by omega)).trans p0)))
        have f1 : ∀ b ∈ foot1 v', w.heap.size ≤ b := fun b hb' => by
          rcases foot_app hat' b hb' with h1 | h1
          · exact hf b h1
          · simp at h1
            omega
        have hB3 : Below w.heap.size wr w3 := ((Below.refl _ _).alloc (by first | omega | (simp; omega)) _).grown hg' (by first | omega | (simp; omega)) (fun b hb' => hf b (mem_foot1.2 hb'))
        have hz3 := hB3.size
        have hB5 : Below w.heap.size w3 w5 := ((Below.refl _ _).alloc (by first | omega | (simp; omega)) _).grown hg'' (by first | omega | (simp; omega)) (fun b hb' => f1 b (mem_foot1.2 hb'))
        go_roundw
        case rel =>
          refine ⟨k + 1, by omega, by go_num, by rw [HD2.out], by rw [HI.out]; exact ho'', fun b hb' => ?_, HM2, (hb.trans hB3).trans hB5⟩
          rcases foot_app hat'' b hb' with h1 | h1
          · exact f1 b h1
          · simp at h1
            omega
        case measure => simp [intOf]; omega
      · have HI := Hid.mk_ (insTo_go hlt hA)
        have HD2 := Hid.mk_ (show doneTo l x (k + 1) = doneTo l x k by
          rw [HD.out]
          cases e : doneTo l x k with
          | true => rfl
          | false => simp; exact Int.not_lt.mp (fun a => hA ⟨e, a⟩))
        have hx0 : doneTo l x k = false → ¬ x < l[k] := fun a b => hA ⟨a, b⟩
        clear hA hy h HD HM
        generalize l[k] = y at *
        generalize doneTo l x k = dk at *
        cases dk with
        | true =>
          clear hx0
          have hl1 : OwL FI 3 (wr.alloc (.cells #[.int .i64 y] 3)) (.slice (some ⟨wr.heap.size, 0, none⟩) 1 1) [y] := OwL.lit FI [y] #[.int .i64 y] rfl (by simp [maxLen]) wr 3
          go_wp2_with (at_builtin; refine wpList_append_flat Tryz.stInt rfl _ _ rfl (v := u5) (y := .slice (some ⟨wr.heap.size, 0, none⟩) 1 1) (l := insTo l x k) (m := [y]) rfl rfl (ho.alloc_ _) hl1.rd' (by simp; omega) ?_; intro v' w3 ho' hg' hat')
          have hB3 : Below w.heap.size wr w3 := ((Below.refl _ _).alloc (by first | omega | (simp; omega)) _).grown hg' (by first | omega | (simp; omega)) (fun b hb' => hf b (mem_foot1.2 hb'))
          go_roundw
          case rel =>
            refine ⟨k + 1, by omega, by go_num, by rw [HD2.out], by rw [HI.out]; exact ho', fun b hb' => ?_, HM2, hb.trans hB3⟩
            rcases foot_app hat' b hb' with h1 | h1
            · exact hf b h1
            · simp at h1
              omega
          case measure => simp [intOf]; omega
        | false =>
          have hx1 := hx0 rfl
          clear hx0
          have hl1 : OwL FI 3 (wr.alloc (.cells #[.int .i64 y] 3)) (.slice (some ⟨wr.heap.size, 0, none⟩) 1 1) [y] := OwL.lit FI [y] #[.int .i64 y] rfl (by simp [maxLen]) wr 3
          go_wp2_with (at_builtin; refine wpList_append_flat Tryz.stInt rfl _ _ rfl (v := u5) (y := .slice (some ⟨wr.heap.size, 0, none⟩) 1 1) (l := insTo l x k) (m := [y]) rfl rfl (ho.alloc_ _) hl1.rd' (by simp; omega) ?_; intro v' w3 ho' hg' hat')
          have hB3 : Below w.heap.size wr w3 := ((Below.refl _ _).alloc (by first | omega | (simp; omega)) _).grown hg' (by first | omega | (simp; omega)) (fun b hb' => hf b (mem_foot1.2 hb'))
          go_roundw
          case rel =>
            refine ⟨k + 1, by omega, by go_num, by rw [HD2.out], by rw [HI.out]; exact ho', fun b hb' => ?_, HM2, hb.trans hB3⟩
            rcases foot_app hat' b hb' with h1 | h1
            · exact hf b h1
            · simp at h1
              omega
          case measure => simp [intOf]; omega
    · obtain rfl : k = l.length := by omega
      have HP := Hid.mk_ (show putP l x = if doneTo l x l.length = true then insTo l x l.length else insTo l x l.length ++ [x] from if_neg (by have a := HM.out; rwa [List.take_length] at a))
      generalize doneTo l x l.length = dk at *
      cases dk with
      | true =>
        go_wp2_with fail
        go_ret
        exact ⟨_, rfl, by rw [HP.out]; exact ho.rd', hb⟩
      | false =>
        have hl1 : OwL FI 3 (wr.alloc (.cells #[.int .i64 x] 3)) (.slice (some ⟨wr.heap.size, 0, none⟩) 1 1) [x] := OwL.lit FI [x] #[.int .i64 x] rfl (by simp [maxLen]) wr 3
        go_wp2_with (at_builtin; refine wpList_append_flat Tryz.stInt rfl _ _ rfl (v := u5) (y := .slice (some ⟨wr.heap.size, 0, none⟩) 1 1) (l := insTo l x l.length) (m := [x]) rfl rfl (ho.alloc_ _) hl1.rd' (by simp; omega) ?_; intro v' w3 ho' hg' hat')
        have hB3 : Below w.heap.size wr w3 := ((Below.refl _ _).alloc (by first | omega | (simp; omega)) _).grown hg' (by first | omega | (simp; omega)) (fun b hb' => hf b (mem_foot1.2 hb'))
        go_ret
        exact ⟨_, rfl, by rw [HP.out]; exact ho'.rd', hb.trans hB3⟩
end Go.Proofs.YtkldapdpaldbgaaGreat
namespace Go.Proofs.YtkldapdpaldbgaaGreat
open Go.RowKit
theorem shelf_base {x : Shelf} (h : shelfOkB x = true) : baseOkB x.Base = true := by
  unfold shelfOkB at h
  simp only [Bool.and_eq_true] at h
  exact h.1.1.1.1.1.1
theorem shelf_jobs {x : Shelf} (h : shelfOkB x = true) : x.Jobs.length = 3 := by
  unfold shelfOkB at h
  simp only [Bool.and_eq_true, beq_iff_eq] at h
  exact h.1.1.1.1.2
theorem at_of {α : Type} {l : List α} {k : Nat} (d : α) (h : k < l.length) : l[k]? = some (l.getD k d) := by simp [List.getD, h]
theorem shelf_shape {x : Shelf} (h : shelfOkB x = true) : shapeB x.Base.Mem.Heap = true := by
  have k := shelf_base h
  unfold baseOkB at k
  simp only [Bool.and_eq_true] at k
  exact mem_shape k.1.1.1.1

def AscCt : Prop := ∀ (w : World) (v : Value) (l : List Int), RdL FI w w.heap.size v l → l.length ≤ 1000 →
    Calls Tryz.prog 147 #[v] w fun e w' => ∃ v' l', e = .returned v' ∧ RdL FI w' w'.heap.size v' l' ∧ l'.Nodup ∧ (∀ h, h ∈ l' ↔ (h ∈ l ∧ h ≠ 0)) ∧ Below w.heap.size w w'
end Go.Proofs.YtkldapdpaldbgaaGreat
