/-
  Limbo lists valid: the contracts.
-/
import Derived.Test.YtkldapdpaldbgaaGreatT
import Derived.Test.YtkldapdpaldbgaaGreatL
import Derived.Deep.QuietTactic
import Derived.BigQuiet
import Derived.Deep.LoopGhost
import Derived.Deep.RegionHeld3
import Derived.Test.YtkldapdpaldbgaaGreatN
import Derived.Test.YtkldapdpaldbgaaGreatA
import Derived.WalkSpells
import Derived.Laws.Cover3
import Derived.Test.YtkldapdpaldbgaaGreatLC
import Derived.Deep.WholeRow
namespace Go.Proofs.YtkldapdpaldbgaaGreat.Lim
open Go.RowKit

def slotsTo (L : List LRow) (i : Nat) : List Int := (L.take i).map fun q => q.Handle % 32
def rowOkAt (L : List LRow) (i : Nat) (r : LRow) : Bool := handleOkB r.Handle && decide (0 ≤ r.Epoch) && decide (r.Epoch ≤ 100000) && !((slotsTo L i).any fun z => z == r.Handle % 32)
def rowsOkTo (L : List LRow) (k : Nat) : Bool := (List.range k).all fun i => match L[i]? with | some r => rowOkAt L i r | none => true
def limboOkB (ll : List (List LRow)) : Bool := (ll.length == 3) && decide (ll.flatten.length ≤ 24) && rowsOkTo ll.flatten ll.flatten.length
theorem rowsOk_step (L : List LRow) (k : Nat) (hk : k < L.length) (h : rowsOkTo L k = true) (hr : rowOkAt L k L[k] = true) : rowsOkTo L (k + 1) = true := by
  unfold rowsOkTo at h ⊢
  rw [List.range_succ, List.all_append, h, List.all_cons, List.getElem?_eq_getElem hk]
  simp [hr]
theorem rowsOk_false (L : List LRow) (k : Nat) (hk : k < L.length) (hr : rowOkAt L k L[k] = false) : rowsOkTo L L.length = false := by
  unfold rowsOkTo
  rw [List.all_eq_false]
  refine ⟨k, List.mem_range.2 hk, ?_⟩
  rw [List.getElem?_eq_getElem hk]
  simp [hr]
theorem slotsTo_succ (L : List LRow) (k : Nat) (hk : k < L.length) : slotsTo L (k + 1) = slotsTo L k ++ [L[k].Handle % 32] := by
  unfold slotsTo
  rw [List.take_succ_eq_append_getElem hk, List.map_append]
  rfl
theorem slotsTo_len (L : List LRow) (k : Nat) : (slotsTo L k).length ≤ k := by unfold slotsTo; simp; omega
theorem slotOf_ok {h : Int} (c : handleOkB h = true) : slotOf h = h % 32 ∧ 0 ≤ h % 32 ∧ h % 32 < 24 := by
  refine ⟨if_pos c, Int.emod_nonneg _ (by decide), ?_⟩
  simp [handleOkB] at c
  exact c.2

set_option maxHeartbeats 1000000 in
theorem l8Has_ct (w : World) (v : Value) (z : List Int) (x : Int) (h : RdL FI w w.heap.size v z) :
    Calls Tryz.prog 130 #[v, .int .i64 x] w fun e w' => e = .returned (.bool (z.any fun y => y == x)) ∧ Below w.heap.size w w' := by
  obtain ⟨A, c, hv, q1, q2, _⟩ := id h
  have hlt0 : z.length ≤ 9223372036854775807 := by unfold maxLen at q2; omega
  subst hv
  clear q1 q2
  go_enter Tryz.func130, Tryz.ntmps130
  go_wp2
  go_loopw [5] (fun i wr => ∃ k : Nat, k ≤ z.length ∧ i = .int .i64 k ∧ Below w.heap.size w wr ∧ (z.take k).any (fun y => y == x) = false) (fun i _ => z.length - (intOf i).toNat)
  case atStart => exact ⟨0, Nat.zero_le _, rfl, Below.refl _ _, rfl⟩
  case round =>
    obtain ⟨i, hi, rfl, hb, hno⟩ := hrel
    have HN := Hid.mk_ hno
    clear hno
    by_cases hlt : i < z.length
    · obtain ⟨g, off, cap', he, hg, _, _, hc⟩ := (h.below hb).at_ (List.getElem?_eq_getElem hlt)
      injection he with he1 he2 he3
      clear he2
      subst he1 he3
      have p0 : wr.cell? ⟨g, off + i, none⟩ = some (.int .i64 z[i]) := by simpa [FI] using hc 0 _ rfl
      clear hc h
      by_cases hz : z[i] = x
      · have hz1 : (z[i] == x) = true := by simpa using hz
        have HP := Hid.mk_ (show (z.any fun y => y == x) = true from List.any_eq_true.2 ⟨z[i], List.getElem_mem hlt, hz1⟩)
        clear hz
        go_wp2
        go_ret
        exact ⟨ret_bool HP.out.symm, hb⟩
      · have hz1 : (z[i] == x) = false := by simpa using hz
        have HP := Hid.mk_ (any_take_succ (fun y => y == x) z i hlt HN.out hz1)
        clear hz
        go_wp2
        go_roundw
        case rel => exact ⟨i + 1, by omega, by go_num, hb, HP.out⟩
        case measure => simp [intOf]; omega
    · go_wp2
      go_ret
      obtain rfl : i = z.length := by omega
      exact ⟨ret_bool (by simpa using HN.out.symm), hb⟩

set_option maxRecDepth 100000 in
set_option maxHeartbeats 300000 in
theorem LimboOk_spec (w : World) (v : Value) (t : List SV) (ll : List (List LRow)) (h : RdLL FLRow w w.heap.size v t ll) (hs : szLL ll ≤ 536870912) :
    Calls Tryz.prog 50 #[v] w fun e w' => e = .returned (.bool (limboOkB ll)) ∧ Below w.heap.size w w' := by
  obtain ⟨A, c, hv, _⟩ := id h.outer
  subst hv
  obtain ⟨en, hcap, hmx⟩ := h.len'
  have hlt0 : ll.length ≤ 9223372036854775807 := by unfold maxLen at hmx; omega
  rw [en] at h ⊢
  clear en hcap hmx
  have HI := Hid.mk_ (show limboOkB ll = ((ll.length == 3) && decide (ll.flatten.length ≤ 24) && rowsOkTo ll.flatten ll.flatten.length) from rfl)
  by_cases n3 : ll.length = 3
  case neg =>
    have hx : ((ll.length : Int) != 3) = true := by simp; omega
    have HF := Hid.mk_ (show limboOkB ll = false by rw [HI.out]; simp [n3])
    clear n3
    go_enter Tryz.func50, Tryz.ntmps50
    go_wp2_with (go_at_call 52; refine (l11All_ct _ _ t ll h hs).mono ?_; rintro e w1 ⟨v', rfl, ho, hf, hb0⟩; clear hf; generalize hL : ll.flatten = L at ho HI; obtain ⟨A, c, hv, _, q2, _⟩ := ho.rd'; subst hv)
    go_ret
    exact ⟨ret_bool HF.out.symm, hb0⟩
  have hx : ((ll.length : Int) != 3) = false := by simp; omega
  have N3 := Hid.mk_ n3
  clear n3
  by_cases n24 : ll.flatten.length ≤ 24
  case neg =>
    have HF := Hid.mk_ (show limboOkB ll = false by rw [HI.out]; simp only [n24, decide_false, Bool.and_false, Bool.false_and])
    go_enter Tryz.func50, Tryz.ntmps50
    go_wp2_with (go_at_call 52; refine (l11All_ct _ _ t ll h hs).mono ?_; rintro e w1 ⟨v', rfl, ho, hf, hb0⟩; clear hf; generalize hL : ll.flatten = L at ho HI n24; obtain ⟨A, c, hv, _, q2, _⟩ := ho.rd'; subst hv)
    go_ret
    exact ⟨ret_bool HF.out.symm, hb0⟩
  have HJ := Hid.mk_ (show limboOkB ll = rowsOkTo ll.flatten ll.flatten.length by rw [HI.out]; simp only [N3.out, n24, decide_true, Bool.and_true, Bool.true_and, beq_self_eq_true])
  clear HI
  go_enter Tryz.func50, Tryz.ntmps50
  go_wp2_with (go_at_call 52; refine (l11All_ct _ _ t ll h hs).mono ?_; rintro e w1 ⟨v', rfl, ho, hf, hb0⟩; clear hf; generalize hL : ll.flatten = L at ho HJ n24; obtain ⟨A, c, hv, _, q2, _⟩ := ho.rd'; subst hv)
  have hw0 : Below w1.heap.size w1 (w1.alloc (.cells #[] 3)) := (Below.refl _ _).alloc (Nat.le_refl _) _
  have ow0 := OwL.lit FI [] #[] rfl (by decide) w1 3
  go_loopw [4, 5, 6] (fun o i _ wr => ∃ k : Nat, k ≤ L.length ∧ i = .int .i64 k ∧ OwL FI 3 wr o (slotsTo L k) ∧ (∀ g ∈ foot1 o, w1.heap.size ≤ g) ∧ Below w1.heap.size w1 wr ∧ Hid (rowsOkTo L k = true)) (fun _ i _ _ => L.length - (intOf i).toNat)
  case atStart => exact ⟨0, Nat.zero_le _, rfl, ow0, by simp [foot1, Value.ownBlock], hw0, rfl⟩
  case round =>
    obtain ⟨i, hi, rfl, ow, hfo, hb, HR⟩ := hrel
    clear ow0 hw0
    by_cases hlt : i < L.length
    · obtain ⟨g, off, cap', he, hg, _, _, hc⟩ := (ho.rd'.below hb).at_ (List.getElem?_eq_getElem hlt)
      injection he with he1 he2 he3
      clear he2
      subst he1 he3
      have p0 : wr.cell? ⟨g, off + i * 2, none⟩ = some (.int .i64 L[i].Handle) := hc 0 _ rfl
      have p1 : wr.cell? ⟨g, off + i * 2 + 1, none⟩ = some (.int .i64 L[i].Epoch) := hc 1 _ rfl
      clear hc ho
      by_cases c1 : handleOkB L[i].Handle = true
      case neg =>
        have c1' : handleOkB L[i].Handle = false := by simpa using c1
        have hsl : slotOf L[i].Handle = -1 := if_neg c1
        have HN := Hid.mk_ (show limboOkB ll = false by rw [HJ.out]; exact rowsOk_false L i hlt (by simp [rowOkAt, c1']))
        clear c1
        go_wp2_with (go_at_call 79; refine (HandleSlot_spec _ _).mono ?_; rw [hsl]; rintro e w2 ⟨rfl, rfl⟩)
        go_ret
        exact ⟨ret_bool HN.out.symm, hb0.trans (hb.mono hb0.size)⟩
      obtain ⟨hsl, hs0, hs1⟩ := slotOf_ok c1
      by_cases c2 : 0 ≤ L[i].Epoch
      case neg =>
        have HN := Hid.mk_ (show limboOkB ll = false by rw [HJ.out]; exact rowsOk_false L i hlt (by simp [rowOkAt, c2]))
        go_wp2_with (first | (go_at_call 79; refine (HandleSlot_spec _ _).mono ?_; rw [hsl]; rintro e w2 ⟨rfl, rfl⟩) | go_in)
        go_ret
        exact ⟨ret_bool HN.out.symm, hb0.trans (hb.mono hb0.size)⟩
      by_cases c3 : L[i].Epoch ≤ 100000
      case neg =>
        have HN := Hid.mk_ (show limboOkB ll = false by rw [HJ.out]; exact rowsOk_false L i hlt (by simp [rowOkAt, c3]))
        go_wp2_with (first | (go_at_call 79; refine (HandleSlot_spec _ _).mono ?_; rw [hsl]; rintro e w2 ⟨rfl, rfl⟩) | go_in)
        go_ret
        exact ⟨ret_bool HN.out.symm, hb0.trans (hb.mono hb0.size)⟩
      by_cases c4 : ((slotsTo L i).any fun z => z == L[i].Handle % 32) = true
      · have HN := Hid.mk_ (show limboOkB ll = false by rw [HJ.out]; exact rowsOk_false L i hlt (by simp only [rowOkAt, c4]; simp))
        go_wp2_with (first | (go_at_call 79; refine (HandleSlot_spec _ _).mono ?_; rw [hsl]; rintro e w2 ⟨rfl, rfl⟩) | (go_at_call 130; refine (l8Has_ct _ _ (slotsTo L i) (L[i].Handle % 32) (ow.rd')).mono ?_; rw [c4]; rintro e w2 ⟨rfl, hb2⟩) | go_in)
        go_ret
        exact ⟨ret_bool HN.out.symm, hb0.trans ((hb.trans (hb2.mono hb.size)).mono hb0.size)⟩
      have c4' : ((slotsTo L i).any fun z => z == L[i].Handle % 32) = false := (Bool.not_eq_true _).mp c4
      have HN := Hid.mk_ (rowsOk_step L i hlt HR.out (by simp only [rowOkAt, c1, c4']; simp [c2, c3]))
      have HS := Hid.mk_ (slotsTo_succ L i hlt)
      clear c4
      go_wp2_with (first | (go_at_call 79; refine (HandleSlot_spec _ _).mono ?_; rw [hsl]; rintro e w2 ⟨rfl, rfl⟩) | (go_at_call 130; refine (l8Has_ct _ _ (slotsTo L i) (L[i].Handle % 32) (ow.rd')).mono ?_; rw [c4']; rintro e w2 ⟨rfl, hb2⟩; have hbb := hb.trans (hb2.mono hb.size); have ow2 := ow.keep (fun g hg => hb2.block g (foot_lt ow g (mem_foot1.2 hg)))) | (at_builtin; refine wpList_append_flat Tryz.stInt rfl _ _ rfl (v := u4) (y := .slice (some ⟨w2.heap.size, 0, none⟩) 1 1) (l := slotsTo L i) (m := [L[i].Handle % 32]) rfl rfl (ow2.alloc_ _) (OwL.lit FI [L[i].Handle % 32] #[.int .i64 (L[i].Handle % 32)] rfl (by simp [maxLen]) w2 3).rd' (by have := slotsTo_len L i; simp; omega) ?_; intro v' w3 ho' hg' hat') | go_in)
      have hb3 : Below w1.heap.size w1 w3 := (hbb.alloc hbb.size _).grown hg' (by simp; exact Nat.le_succ_of_le hbb.size) (fun k hk => hfo k (mem_foot1.2 hk))
      go_roundw
      case rel => exact ⟨i + 1, by omega, by go_num, by rw [HS.out]; exact ho', fun b hb' => by rcases foot_app hat' b hb' with h | h; (exact hfo b h); (have := hbb.size; simp at h; omega), hb3, HN.out⟩
      case measure => simp [intOf]; omega
    · go_wp2
      go_ret
      obtain rfl : i = L.length := by omega
      exact ⟨ret_bool (by rw [HJ.out]; exact HR.out.symm), hb0.trans (hb.mono hb0.size)⟩

def FB : FT Bool := { n := 1, enc := fun b => [.bool b], dflt := false, len := fun _ => rfl, one := by intro x u hu; simp at hu; subst hu; rfl, pos := by decide, small := by decide }
def metOf (L : List LRow) (p : Nat) : List Bool := (List.range 24).map fun (s : Nat) => (slotsTo L p).any fun z => z == (s : Int)
theorem metOf_len (L : List LRow) (p : Nat) : (metOf L p).length = 24 := by simp [metOf]
theorem metOf_zero (L : List LRow) : metOf L 0 = List.replicate 24 false := rfl
theorem metOf_get (L : List LRow) (p s : Nat) (hs : s < 24) : (metOf L p)[s]? = some ((slotsTo L p).any fun z => z == (s : Int)) := by simp [metOf, hs]
theorem metOf_set (L : List LRow) (p s : Nat) (hp : p < L.length) (hm : L[p].Handle % 32 = (s : Int)) : (metOf L p).set s true = metOf L (p + 1) := by
  apply List.ext_getElem?
  intro k
  by_cases hk : k < 24
  · rw [List.getElem?_set, metOf_get _ _ _ hk, metOf_get _ _ _ hk, slotsTo_succ L p hp, List.any_append, metOf_len]
    by_cases hks : s = k
    · subst hks
      simp [hm, hk]
    · have : ((s : Int) == (k : Int)) = false := by simp; omega
      simp only [if_neg hks, List.any_cons, List.any_nil, hm, this, Bool.or_false]
  · rw [List.getElem?_eq_none (by simp [metOf_len]; omega), List.getElem?_eq_none (by simp [metOf_len]; omega)]
theorem flat_at {α : Type} (ll : List (List α)) (i j : Nat) (hi : i < ll.length) (hj : j < ll[i].length) : ll.flatten[totLL (ll.take i) + j]? = some ll[i][j] := by
  have e : ll.flatten = (ll.take i).flatten ++ (ll[i] ++ (ll.drop (i + 1)).flatten) := by
    rw [← List.flatten_cons, ← List.flatten_append, ← List.drop_eq_getElem_cons hi, List.take_append_drop]
  rw [e, totLL_eq, List.getElem?_append_right (by omega), Nat.add_sub_cancel_left, List.getElem?_append_left hj, List.getElem?_eq_getElem hj]

theorem wpList_store_new {P : Program} {ops : Array Oper} {rest : List Oper} {o : Oper} {a : Act} {w : World} {Q : Exit → Act → World → Prop} (hgd : o.guard = none) (ty : TypeId) (x y : Operand) (ho : o.op = .store ty x y) (c : Array Value)
    (hx : a.eval x = .pointer (some ⟨w.heap.size, 0, none⟩)) (hy : a.eval y = .agg c) (hi : (P.info? ty).map (·.size) = some c.size) (h1 : c.all (·.oneCell') = true)
    (h : wpList P ops Q rest (a.put o.dst undef) (w.alloc (.cells c ty))) : wpList P ops Q (o :: rest) a (w.alloc (.cells c ty)) := by
  refine wpList_store_row hgd ty x y ho w.heap.size c hx hy ty c (heap_alloc_last w _) hi rfl h1 ?_
  rw [World.setRow_alloc_new]
  exact h
theorem z24_built : Tryz.prog.built 207 [] = some #[.bool false, .bool false, .bool false, .bool false, .bool false, .bool false, .bool false, .bool false, .bool false, .bool false, .bool false, .bool false, .bool false, .bool false, .bool false, .bool false, .bool false, .bool false, .bool false, .bool false, .bool false, .bool false, .bool false, .bool false] := by kernel_rfl
set_option maxRecDepth 100000 in
theorem wpList_build24 {ops : Array Oper} {rest : List Oper} {o : Oper} {a : Act} {w : World} {Q : Exit → Act → World → Prop} (hg : o.guard = none) (ho : o.op = .build 207 #[])
    (h : wpList Tryz.prog ops Q rest (a.put o.dst (.agg #[.bool false, .bool false, .bool false, .bool false, .bool false, .bool false, .bool false, .bool false, .bool false, .bool false, .bool false, .bool false, .bool false, .bool false, .bool false, .bool false, .bool false, .bool false, .bool false, .bool false, .bool false, .bool false, .bool false, .bool false])) w) : wpList Tryz.prog ops Q (o :: rest) a w := by
  exact wpList_build hg 207 #[] ho (by simp [z24_built]) (by simpa [z24_built] using h)
theorem met_start (w : World) (L : List LRow) : OwL FB 207 (w.alloc (.cells #[.bool false, .bool false, .bool false, .bool false, .bool false, .bool false, .bool false, .bool false, .bool false, .bool false, .bool false, .bool false, .bool false, .bool false, .bool false, .bool false, .bool false, .bool false, .bool false, .bool false, .bool false, .bool false, .bool false, .bool false] 207)) (.slice (some ⟨w.heap.size, 0, none⟩) 24 24) (metOf L 0) := by
  rw [metOf_zero]
  exact OwL.lit FB (List.replicate 24 false) #[.bool false, .bool false, .bool false, .bool false, .bool false, .bool false, .bool false, .bool false, .bool false, .bool false, .bool false, .bool false, .bool false, .bool false, .bool false, .bool false, .bool false, .bool false, .bool false, .bool false, .bool false, .bool false, .bool false, .bool false] rfl (by simp [maxLen]) w 207
set_option maxRecDepth 100000 in
set_option maxHeartbeats 2000000 in
theorem LimboOk_impl (w : World) (v : Value) (t : List SV) (ll : List (List LRow)) (h : RdLL FLRow w w.heap.size v t ll) (hs : szLL ll ≤ 536870912) :
    Calls Tryz.prog 90 #[v] w fun e w' => e = .returned (.bool (limboOkB ll)) ∧ Below w.heap.size w w' := by
  obtain ⟨A, c, hv, _⟩ := id h.outer
  subst hv
  obtain ⟨en, hcap, hmx⟩ := h.len'
  have hlt0 : ll.length ≤ 9223372036854775807 := by unfold maxLen at hmx; omega
  rw [en] at h ⊢
  clear en hcap hmx
  have HI := Hid.mk_ (show limboOkB ll = ((ll.length == 3) && decide (ll.flatten.length ≤ 24) && rowsOkTo ll.flatten ll.flatten.length) from rfl)
  by_cases n3 : ll.length = 3
  case neg =>
    have hx : ((ll.length : Int) != 3) = true := by simp; omega
    have HF := Hid.mk_ (show limboOkB ll = false by rw [HI.out]; simp [n3])
    clear n3
    go_enter Tryz.func90, Tryz.ntmps90
    go_wp2
    go_ret
    exact ⟨ret_bool HF.out.symm, Below.refl _ _⟩
  have hx : ((ll.length : Int) != 3) = false := by simp; omega
  have N3 := Hid.mk_ n3
  have HJ := Hid.mk_ (fun hr : rowsOkTo ll.flatten ll.flatten.length = false => (show limboOkB ll = false by rw [HI.out, hr]; simp))
  have HK := Hid.mk_ (fun hr : rowsOkTo ll.flatten ll.flatten.length = true => (show limboOkB ll = decide (totLL ll ≤ 24) by rw [HI.out, hr, totLL_eq]; simp [n3]))
  have HT0 := Hid.mk_ (totLL_eq ll)
  have HFA := Hid.mk_ (flat_at ll)
  have om0 := met_start w ll.flatten
  generalize ll.flatten = L at HJ HK HT0 HFA om0
  have hw0 : Below w.heap.size w (w.alloc (.cells #[.bool false, .bool false, .bool false, .bool false, .bool false, .bool false, .bool false, .bool false, .bool false, .bool false, .bool false, .bool false, .bool false, .bool false, .bool false, .bool false, .bool false, .bool false, .bool false, .bool false, .bool false, .bool false, .bool false, .bool false] 207)) := (Below.refl _ _).alloc (Nat.le_refl _) _
  clear n3
  go_enter Tryz.func90, Tryz.ntmps90
  go_wp2_with (first | (refine wpList_build24 rfl rfl ?_) | (refine wpList_store_new rfl 207 (.tmp 3) (.tmp 11) rfl _ rfl rfl (by kernel_rfl) (by simp [Value.oneCell']) ?_))
  go_loopw [5, 7, 14, 21] (fun _ _ i _ wr => ∃ k : Nat, k ≤ ll.length ∧ i = .int .i64 k ∧ Hid (rowsOkTo L (totLL (ll.take k)) = true) ∧ Below w.heap.size w wr ∧ OwL FB 207 wr (.slice (some ⟨w.heap.size, 0, none⟩) 24 24) (metOf L (totLL (ll.take k)))) (fun _ _ i _ _ => ll.length - (intOf i).toNat)
  case atStart => exact ⟨0, Nat.zero_le _, rfl, rfl, hw0, om0⟩
  case round =>
    obtain ⟨i, hi, rfl, HR, hb, om⟩ := hrel
    clear om0 hw0
    by_cases hlt : i < ll.length
    · obtain ⟨g, o, A', c', rfl, hg, p0, r1⟩ := h.row hb hlt
      have HP := Hid.mk_ (totLL_take_succ ll i hlt)
      have HFi := Hid.mk_ (fun j hj => HFA.out i j hlt hj)
      have hr0 : ll[i].length ≤ 9223372036854775807 := by
        obtain ⟨_, _, _, u1, u2, _⟩ := id r1
        unfold maxLen at u2; omega
      have htot : totLL (ll.take i) + ll[i].length ≤ L.length := by
        have a := totLL_take_le ll (i + 1)
        have b := HT0.out
        have d := HP.out
        omega
      generalize ll[i] = x at p0 r1 HP HFi hr0 htot
      generalize totLL (ll.take i) = p at HR om HP HFi htot
      clear h
      go_wp2
      obtain ⟨wo, rfl⟩ : ∃ wo : World, wo = wr := ⟨_, rfl⟩
      go_loopw [7, 21] (fun _ j wq => ∃ k : Nat, k ≤ x.length ∧ j = .int .i64 k ∧ Hid (rowsOkTo L (p + k) = true) ∧ Below w.heap.size w wq ∧ OwL FB 207 wq (.slice (some ⟨w.heap.size, 0, none⟩) 24 24) (metOf L (p + k))) (fun _ j _ => x.length - (intOf j).toNat)
      case atStart => exact ⟨0, Nat.zero_le _, rfl, HR, hb.alloc hb.size _, om.alloc_ _⟩
      case round =>
        obtain ⟨j, hj, rfl, HRj, hbq, omq⟩ := hrel
        clear om hb p0
        by_cases hlj : j < x.length
        · obtain ⟨g1, o1, cap1, he1, hg1, _, _, hc1⟩ := (r1.below hbq).at_ (List.getElem?_eq_getElem hlj)
          injection he1 with e11 e12 e13
          clear e12
          subst e11 e13
          have p0 : wr.cell? ⟨g1, o1 + j * 2, none⟩ = some (.int .i64 x[j].Handle) := hc1 0 _ rfl
          have p1 : wr.cell? ⟨g1, o1 + j * 2 + 1, none⟩ = some (.int .i64 x[j].Epoch) := hc1 1 _ rfl
          clear hc1
          have hLp : p + j < L.length := by omega
          have hLe : L[p + j] = x[j] := by
            have a := HFi.out j hlj
            rw [List.getElem?_eq_getElem hLp] at a
            exact Option.some.inj a
          have HSt := Hid.mk_ (rowsOk_step L (p + j) hLp HRj.out)
          have HFl := Hid.mk_ (fun hr => HJ.out (rowsOk_false L (p + j) hLp hr))
          have HMs := Hid.mk_ (fun s hm => metOf_set L (p + j) s hLp hm)
          rw [hLe] at HSt HFl HMs
          generalize x[j] = r at p0 p1 HSt HFl HMs
          clear hLe hLp r1
          by_cases c1 : handleOkB r.Handle = true
          case neg =>
            have c1' : handleOkB r.Handle = false := by simpa using c1
            have HN := Hid.mk_ (HFl.out (by simp [rowOkAt, c1']))
            clear c1
            go_wp2_with (first | (go_at_call 148; refine (HandleOk_impl _ _).mono ?_; rw [c1']; rintro e w2 ⟨rfl, rfl⟩) | go_in)
            go_ret
            exact ⟨ret_bool HN.out.symm, by first | exact hbq | exact hbq.alloc hbq.size _⟩
          obtain ⟨hsl, hs0, hs1⟩ := slotOf_ok c1
          have h0 : 0 ≤ r.Handle := by simp [handleOkB] at c1; omega
          obtain ⟨s, hs2⟩ := Int.eq_ofNat_of_zero_le hs0
          have hs3 : s < 24 := by omega
          have htm : r.Handle.tmod 32 = (s : Int) := by rw [Int.tmod_eq_emod_of_nonneg h0]; exact hs2
          by_cases c2 : 0 ≤ r.Epoch
          case neg =>
            have HN := Hid.mk_ (HFl.out (by simp [rowOkAt, c2]))
            clear hsl hs0 hs1 h0 hs2
            go_wp2_with (first | (go_at_call 148; refine (HandleOk_impl _ _).mono ?_; rw [c1]; rintro e w2 ⟨rfl, rfl⟩) | go_in)
            go_ret
            exact ⟨ret_bool HN.out.symm, by first | exact hbq | exact hbq.alloc hbq.size _⟩
          by_cases c3 : r.Epoch ≤ 100000
          case neg =>
            have HN := Hid.mk_ (HFl.out (by simp [rowOkAt, c3]))
            clear hsl hs0 hs1 h0 hs2
            go_wp2_with (first | (go_at_call 148; refine (HandleOk_impl _ _).mono ?_; rw [c1]; rintro e w2 ⟨rfl, rfl⟩) | go_in)
            go_ret
            exact ⟨ret_bool HN.out.symm, by first | exact hbq | exact hbq.alloc hbq.size _⟩
          have hgm := metOf_get L (p + j) s hs3
          have cm : wr.cell? ⟨w.heap.size, s, none⟩ = some (.bool ((slotsTo L (p + j)).any fun z => z == (s : Int))) := by simpa [FB] using omq.cell_ (k := s) (j := 0) hgm (by decide)
          have hfz := omq.frozen_ s
          have hzz : w.heap.size < wr.heap.size := (World.ownsRow.lt omq _ rfl).2
          by_cases c4 : ((slotsTo L (p + j)).any fun z => z == (s : Int)) = true
          · have HN := Hid.mk_ (HFl.out (by simp only [rowOkAt, hs2, c4]; simp))
            rw [c4] at cm
            clear hsl hs0 hs1 h0 hs2 c4 hgm omq
            go_wp2_with (first | (go_at_call 148; refine (HandleOk_impl _ _).mono ?_; rw [c1]; rintro e w2 ⟨rfl, rfl⟩) | go_in)
            go_ret
            exact ⟨ret_bool HN.out.symm, by first | exact hbq | exact hbq.alloc hbq.size _⟩
          have c4' : ((slotsTo L (p + j)).any fun z => z == (s : Int)) = false := (Bool.not_eq_true _).mp c4
          have HN := Hid.mk_ (HSt.out (by simp only [rowOkAt, hs2, c1, c4']; simp [c2, c3]))
          have HM := Hid.mk_ (HMs.out s hs2)
          rw [c4'] at cm
          clear hsl hs0 hs1 h0 hs2 c4
          go_wp2_with (first | (go_at_call 148; refine (HandleOk_impl _ _).mono ?_; rw [c1]; rintro e w2 ⟨rfl, rfl⟩) | go_in)
          go_roundw
          case rel =>
            have hset := omq.set_ (k := s) (j := 0) (y := true) (u := .bool true) hgm (by decide) rfl
            rw [HM.out] at hset
            have hset2 : OwL FB 207 (wr.setCell ⟨w.heap.size, s, none⟩ (.bool true)) (.slice (some ⟨w.heap.size, 0, none⟩) 24 24) (metOf L (p + j + 1)) := by simpa [FB] using hset
            exact ⟨j + 1, by omega, by go_num, HN.out, (Below.setCell hbq (Nat.le_refl _) _).alloc (by simp; exact hbq.size) _, hset2.alloc_ _⟩
          case measure => simp [intOf]; omega
        · go_wp2
          go_roundw
          case rel =>
            obtain rfl : j = x.length := by omega
            exact ⟨i + 1, by omega, by go_num, by rw [HP.out]; exact HRj, hbq, by rw [HP.out]; exact omq⟩
          case measure => simp [intOf]; omega
    · obtain rfl : i = ll.length := by omega
      rw [List.take_length] at HR om
      have hfin := HK.out (by rw [← HT0.out]; exact HR.out)
      have HFin := Hid.mk_ hfin
      have ht4 : totLL ll ≤ 536870912 := Nat.le_trans (Nat.le_add_left _ _) hs
      clear hfin
      go_wp2_with (go_at_call 168; refine (LimboSize_impl _ _ t ll (rdLL_up h hb) (by omega)).mono ?_; rintro e w2 ⟨rfl, hb2⟩)
      go_ret
      exact ⟨ret_bool (by rw [HFin.out, decide_eq_decide]; omega), hb.trans (hb2.mono hb.size)⟩
end Go.Proofs.YtkldapdpaldbgaaGreat.Lim
