/-
  slices.Repeat: the contract.
-/
import Derived.Test.YtodbkbolpcbooaaT
import Derived.Test.YtodbkbolpcbooaaL
import Derived.Deep.QuietTactic
import Derived.BigQuiet
import Derived.Deep.LoopGhost
import Derived.Deep.RegionHeld3
import Derived.Test.YtodbkbolpcbooaaN
import Derived.Test.YtodbkbolpcbooaaA
import Derived.WalkSpells
import Derived.Laws.Cover3
import Derived.Test.YtodbkbolpcbooaaNH
import Derived.Test.YtodbkbolpcbooaaCP
import Derived.Deep.RegionLaw
import Derived.Deep.CutRange
namespace Go.Proofs.Ytodbkbolpcbooaa
open Go.RowKit
theorem wpList_copy_min {P : Program} {ops : Array Oper} {o : Oper} {a : Act} {w : World} {rest : List Oper} {Q : Exit → Act → World → Prop} (hgd : o.guard = none) (d s : Operand) (dT sT : TypeId)
    (ho : o.op = .call { callee := .builtin .copy, args := #[d, s], argTypes := #[dT, sT] }) (elem : TypeId) (hu : P.underlying dT = some (.slice elem)) (hsz : (P.info? elem).map (·.size) = some 1)
    {e : TypeId} {g n c off dLen dCap sLen sCap : Nat} {ad : Addr} {b m : List Int} (hd : a.eval d = .slice (some ⟨g, off, none⟩) dLen dCap) (hs : a.eval s = .slice (some ad) sLen sCap)
    (hown : OwL FI e w (.slice (some ⟨g, 0, none⟩) n c) b) (hsrc : ∀ j v, (m.map (Value.int .i64))[j]? = some v → w.cell? (ad.add j) = some v) (hn : m.length = Nat.min sLen dLen) (hfit : off + m.length ≤ b.length)
    (h : ∀ w', OwL FI e w' (.slice (some ⟨g, 0, none⟩) n c) (putAt b off m) → Chg [g] w w' → wpList P ops Q rest (a.put o.dst (goInt m.length)) w') :
    wpList P ops Q (o :: rest) a w := by
  refine wpList_plain hgd fun K hK => ?_
  obtain ⟨cur, hc, hcb, hput⟩ := hown.row_put
  have hrun := run_copy_row (P := P) w dT sT o.type elem g off dLen dCap ad sLen sCap cur e (m.map (Value.int .i64)) hu hsz hc (by rw [List.length_map]; exact hn) hsrc (by simp; omega) (by intro v hv; obtain ⟨x, _, rfl⟩ := List.mem_map.1 hv; rfl)
  unfold Oper.wp
  rw [List.length_map] at hrun
  simp [execOp, ho, resolve, invoke, builtin, hd, hs, hrun, Result.andThen]
  refine hK _ _ (h _ ?_ ((Chg.refl _ _).setRow_ (by simp) _))
  have := hput off m hfit
  simpa using this
theorem step_copy_min {P : Program} {ops : Array Oper} {o : Oper} {a : Act} {w : World} {K : Act → World → Prop} {Q : Exit → Act → World → Prop} {E : Prop} (hgd : o.guard = none) (d s : Operand) (dT sT : TypeId)
    (ho : o.op = .call { callee := .builtin .copy, args := #[d, s], argTypes := #[dT, sT] }) (elem : TypeId) (hu : P.underlying dT = some (.slice elem)) (hsz : (P.info? elem).map (·.size) = some 1)
    {e : TypeId} {g n c off dLen dCap sLen sCap : Nat} {ad : Addr} {b m : List Int} (hd : a.eval d = .slice (some ⟨g, off, none⟩) dLen dCap) (hs : a.eval s = .slice (some ad) sLen sCap)
    (hown : OwL FI e w (.slice (some ⟨g, 0, none⟩) n c) b) (hsrc : ∀ j v, (m.map (Value.int .i64))[j]? = some v → w.cell? (ad.add j) = some v) (hn : m.length = Nat.min sLen dLen) (hfit : off + m.length ≤ b.length)
    (h : ∀ w', OwL FI e w' (.slice (some ⟨g, 0, none⟩) n c) (putAt b off m) → Chg [g] w w' → K (a.put o.dst (goInt m.length)) w') :
    if Region.wanted o (yielded ops a.tmps) = true then Oper.wp P o a w K Q else E := by
  have hw : Region.wanted o (yielded ops a.tmps) = true := by simp [Region.wanted, hgd]
  rw [if_pos hw]
  obtain ⟨cur, hc, hcb, hput⟩ := hown.row_put
  have hrun := run_copy_row (P := P) w dT sT o.type elem g off dLen dCap ad sLen sCap cur e (m.map (Value.int .i64)) hu hsz hc (by rw [List.length_map]; exact hn) hsrc (by simp; omega) (by intro v hv; obtain ⟨x, _, rfl⟩ := List.mem_map.1 hv; rfl)
  unfold Oper.wp
  rw [List.length_map] at hrun
  simp [execOp, ho, resolve, invoke, builtin, hd, hs, hrun, Result.andThen]
  refine h _ ?_ ((Chg.refl _ _).setRow_ (by simp) _)
  have := hput off m hfit
  simpa using this

set_option maxRecDepth 100000 in
set_option maxHeartbeats 1000000 in
theorem Mul16_ct (w : World) : Calls Try.prog 242 #[.int .u64 1, .int .u64 6] w fun e w' => e = .returned (.tuple #[.int .u64 0, .int .u64 6]) ∧ w = w' := by
  go_enter Try.func242, Try.ntmps242
  go_wp2
  go_ret2
  exact ⟨rfl, rfl⟩

set_option maxRecDepth 100000 in
set_option maxHeartbeats 8000000 in
theorem Repeat6_ct (w : World) (g : Nat) (h : w.cell? ⟨g, 0, none⟩ = some (.int .i64 (-1))) (hg : g < w.heap.size) : Calls Try.prog 210 #[.slice (some ⟨g, 0, none⟩) 1 1, .int .i64 6] w fun e w' => ∃ A : Nat, e = .returned (.slice (some ⟨A, 0, none⟩) 6 6) ∧ OwL FI 3 w' (.slice (some ⟨A, 0, none⟩) 6 6) (List.replicate 6 (-1)) ∧ w.heap.size ≤ A ∧ Below w.heap.size w w' := by
  have hmk : ∀ w, (Instr.makeSlice 49 (.int .i64 6) (.int .i64 6)).run Try.prog w = .ok (.slice (some ⟨w.heap.size, 0, none⟩) 6 6) (w.alloc (.cells (madeCells #[.int .i64 0] (6 * FI.n)) 3)) := run_make_flat (P := Try.prog) FI 49 3 (.int .i64 0) 8 Try.underlying49 Try.infoInt 6 (by omega) (by omega)
  go_enter Try.func210, Try.ntmps210
  go_upto_region 7 with (go_at_call 242; refine (Mul16_ct _).mono ?_; rintro e wv ⟨rfl, rfl⟩)
  have hsrc : ∀ j v, (([-1] : List Int).map (Value.int .i64))[j]? = some v → (w.alloc (.cells (madeCells #[.int .i64 0] (6 * FI.n)) 3)).cell? ((⟨g, 0, none⟩ : Addr).add j) = some v := by
    intro j v hj
    rcases j with _ | j
    · simp at hj
      subst hj
      exact (cell_old w _ g 0 hg).trans h
    · simp at hj
  have oM := OwL.made FI #[.int .i64 0] rfl 6 (by simp [maxLen]) w 3
  have HSR := Hid.mk_ hsrc
  clear hsrc hmk
  have hB0 : Below w.heap.size w (w.alloc (.cells (madeCells #[.int .i64 0] (6 * FI.n)) 3)) := by repeat (first | exact Below.refl _ _ | refine Below.alloc ?_ (by simp <;> omega) _ | refine below_grow_of ?_ (by simp <;> omega) _ _ | refine Below.drew ?_ | refine below_drewN ?_ _)
  go_wp2_with (refine wpList_copy_min rfl _ _ 49 49 rfl 3 Try.underlying49 (by kernel_rfl) (g := w.heap.size) (off := 0) (ad := ⟨g, 0, none⟩) (m := [-1]) (b := List.replicate 6 0) rfl rfl oM HSR.out rfl (by simp) ?_; intro w5 oN hx)
  have hB5 := hB0.trans (hx.below (by simp) (by simp))
  clear hx hB0 HSR oM h
  have oQ : OwL FI 3 w5 (.slice (some ⟨w.heap.size, 0, none⟩) 6 6) (List.replicate 1 (-1) ++ List.replicate (6 - 1) 0) := oN
  clear oN
  obtain ⟨A, hA⟩ : ∃ A, A = w.heap.size := ⟨_, rfl⟩
  rw [← hA] at oQ ⊢
  have hAle : w.heap.size ≤ A := by omega
  clear hA
  go_loopw [8] (fun i wr => ∃ k : Nat, (k = 1 ∨ k = 2 ∨ k = 4 ∨ k = 6) ∧ i = .int .i64 k ∧ OwL FI 3 wr (.slice (some ⟨A, 0, none⟩) 6 6) (List.replicate k (-1) ++ List.replicate (6 - k) 0) ∧ Below w.heap.size w wr) (fun i _ => 6 - (intOf i).toNat)
  case atStart => exact ⟨1, by omega, rfl, oQ, hB5⟩
  case round =>
    clear oQ hB5
    obtain ⟨k, hk, rfl, oQ, hB⟩ := hrel
    rcases hk with rfl | rfl | rfl | rfl
    · have oD : OwL FI 3 wr.drew (.slice (some ⟨A, 0, none⟩) 6 6) (List.replicate 1 (-1) ++ List.replicate (6 - 1) 0) := oQ.keep (fun _ _ => rfl)
      have hsrc : ∀ j v, (([-1] : List Int).map (Value.int .i64))[j]? = some v → wr.drew.cell? ((⟨A, 0, none⟩ : Addr).add j) = some v := by
        intro j v hj
        have e : (⟨A, 0, none⟩ : Addr).add j = ⟨A, j, none⟩ := by simp [Addr.add] <;> omega
        rw [e]
        have hc := fun (i : Nat) (y : Int) (hy : (List.replicate 1 (-1 : Int) ++ List.replicate (6 - 1) 0)[i]? = some y) => oD.cell_ hy FI.pos
        simp only [FI, Nat.mul_one, Nat.add_zero] at hc
        have hj2 : j < 1 := by
          have := (List.getElem?_eq_some_iff.1 hj).1
          simpa using this
        have h1 := hc j (-1) (by (repeat (rcases j with _ | j; rfl)); omega)
        have h2 : v = .int .i64 (-1) := by
          (repeat (rcases j with _ | j; simp at hj; exact hj.symm)); omega
        rw [h2]
        exact h1
      have HSR := Hid.mk_ hsrc
      clear hsrc
      go_wp2_with fail
      go_region_law (refine step_copy_min rfl (.tmp 41) (.tmp 44) 49 49 rfl 3 Try.underlying49 (by kernel_rfl) (g := A) (off := 1) (dLen := 5) (dCap := 5) (sLen := 1) (sCap := 6) (ad := ⟨A, 0, none⟩) (m := [-1]) (b := List.replicate 1 (-1) ++ List.replicate (6 - 1) 0) (by simp [Act.eval, Act.put]) (by simp [Act.eval, Act.put]) oD HSR.out rfl (by simp) ?_; intro w5 oN hx)
      all_goals
        have hB5 := hB.drew.trans (hx.below hB.size (by simp; omega))
        go_wp2_with fail
        go_roundw
        case rel => exact ⟨.int .i64 2, _, _, _, _, _, _, _, _, _, _, _, _, _, ⟨2, by omega, rfl, oN, hB5⟩, rfl⟩
        case measure =>
          show 6 - (2 : Int).toNat < 5
          decide
    · have oD : OwL FI 3 wr.drew (.slice (some ⟨A, 0, none⟩) 6 6) (List.replicate 2 (-1) ++ List.replicate (6 - 2) 0) := oQ.keep (fun _ _ => rfl)
      have hsrc : ∀ j v, (([-1, -1] : List Int).map (Value.int .i64))[j]? = some v → wr.drew.cell? ((⟨A, 0, none⟩ : Addr).add j) = some v := by
        intro j v hj
        have e : (⟨A, 0, none⟩ : Addr).add j = ⟨A, j, none⟩ := by simp [Addr.add] <;> omega
        rw [e]
        have hc := fun (i : Nat) (y : Int) (hy : (List.replicate 2 (-1 : Int) ++ List.replicate (6 - 2) 0)[i]? = some y) => oD.cell_ hy FI.pos
        simp only [FI, Nat.mul_one, Nat.add_zero] at hc
        have hj2 : j < 2 := by
          have := (List.getElem?_eq_some_iff.1 hj).1
          simpa using this
        have h1 := hc j (-1) (by (repeat (rcases j with _ | j; rfl)); omega)
        have h2 : v = .int .i64 (-1) := by
          (repeat (rcases j with _ | j; simp at hj; exact hj.symm)); omega
        rw [h2]
        exact h1
      have HSR := Hid.mk_ hsrc
      clear hsrc
      go_wp2_with fail
      go_region_law (refine step_copy_min rfl (.tmp 41) (.tmp 44) 49 49 rfl 3 Try.underlying49 (by kernel_rfl) (g := A) (off := 2) (dLen := 4) (dCap := 4) (sLen := 2) (sCap := 6) (ad := ⟨A, 0, none⟩) (m := [-1, -1]) (b := List.replicate 2 (-1) ++ List.replicate (6 - 2) 0) (by simp [Act.eval, Act.put]) (by simp [Act.eval, Act.put]) oD HSR.out rfl (by simp) ?_; intro w5 oN hx)
      all_goals
        have hB5 := hB.drew.trans (hx.below hB.size (by simp; omega))
        go_wp2_with fail
        go_roundw
        case rel => exact ⟨.int .i64 4, _, _, _, _, _, _, _, _, _, _, _, _, _, ⟨4, by omega, rfl, oN, hB5⟩, rfl⟩
        case measure =>
          show 6 - (4 : Int).toNat < 4
          decide
    · have oD : OwL FI 3 wr.drew (.slice (some ⟨A, 0, none⟩) 6 6) (List.replicate 4 (-1) ++ List.replicate (6 - 4) 0) := oQ.keep (fun _ _ => rfl)
      have hsrc : ∀ j v, (([-1, -1] : List Int).map (Value.int .i64))[j]? = some v → wr.drew.cell? ((⟨A, 0, none⟩ : Addr).add j) = some v := by
        intro j v hj
        have e : (⟨A, 0, none⟩ : Addr).add j = ⟨A, j, none⟩ := by simp [Addr.add] <;> omega
        rw [e]
        have hc := fun (i : Nat) (y : Int) (hy : (List.replicate 4 (-1 : Int) ++ List.replicate (6 - 4) 0)[i]? = some y) => oD.cell_ hy FI.pos
        simp only [FI, Nat.mul_one, Nat.add_zero] at hc
        have hj2 : j < 2 := by
          have := (List.getElem?_eq_some_iff.1 hj).1
          simpa using this
        have h1 := hc j (-1) (by (repeat (rcases j with _ | j; rfl)); omega)
        have h2 : v = .int .i64 (-1) := by
          (repeat (rcases j with _ | j; simp at hj; exact hj.symm)); omega
        rw [h2]
        exact h1
      have HSR := Hid.mk_ hsrc
      clear hsrc
      go_wp2_with fail
      go_region_law (refine step_copy_min rfl (.tmp 41) (.tmp 44) 49 49 rfl 3 Try.underlying49 (by kernel_rfl) (g := A) (off := 4) (dLen := 2) (dCap := 2) (sLen := 4) (sCap := 6) (ad := ⟨A, 0, none⟩) (m := [-1, -1]) (b := List.replicate 4 (-1) ++ List.replicate (6 - 4) 0) (by simp [Act.eval, Act.put]) (by simp [Act.eval, Act.put]) oD HSR.out rfl (by simp) ?_; intro w5 oN hx)
      all_goals
        have hB5 := hB.drew.trans (hx.below hB.size (by simp; omega))
        go_wp2_with fail
        go_roundw
        case rel => exact ⟨.int .i64 6, _, _, _, _, _, _, _, _, _, _, _, _, _, ⟨6, by omega, rfl, oN, hB5⟩, rfl⟩
        case measure =>
          show 6 - (6 : Int).toNat < 2
          decide
    · go_wp2
      go_ret
      exact ⟨A, rfl, by simpa using oQ, by omega, hB⟩
end Go.Proofs.Ytodbkbolpcbooaa
