/-
  A row removed from limbo lists: the contracts.
-/
import Derived.Test.YtobcdcfbhfoheaaT
import Derived.Test.YtobcdcfbhfoheaaL
import Derived.Deep.QuietTactic
import Derived.BigQuiet
import Derived.Deep.LoopGhost
import Derived.Deep.RegionHeld3
import Derived.Test.YtobcdcfbhfoheaaN
import Derived.Test.YtobcdcfbhfoheaaA
import Derived.WalkSpells
import Derived.Laws.Cover3
import Derived.Test.YtobcdcfbhfoheaaU
import Derived.Test.YtobcdcfbhfoheaaD1
namespace Go.Proofs.Ytobcdcfbhfoheaa
open Go.RowKit
theorem Try.zeroLRow : ∀ w, (zeroValue 75).run Try.prog w = .ok (.agg #[.int .i64 0, .int .i64 0]) w := by
  obtain ⟨i, hi, hz⟩ := Option.map_eq_some_iff.1 (show (Try.prog.info? 75).map (fun i => i.zero) = some (some (.agg #[.int .i64 0, .int .i64 0])) by kernel_rfl)
  intro w
  simp [zeroValue, typeInfo, hi, hz]
def delAt {α : Type} (l : List α) (i : Nat) : List α := l.take i ++ l.drop (i + 1)
theorem delAt_len {α : Type} (l : List α) (i : Nat) (hi : i < l.length) : (delAt l i).length = l.length - 1 := by
  unfold delAt
  rw [List.length_append, List.length_take, List.length_drop]
  omega

set_option maxRecDepth 100000 in
set_option maxHeartbeats 1000000 in
theorem DeleteLRow_ct (w : World) (g cap i n m : Nat) (l : List LRow) (h : OwL FLRow 75 w (.slice (some ⟨g, 0, none⟩) m cap) l) (hl : Hid (l.length = m)) (hmn : Hid (m = n + 1)) (hi : i + 1 ≤ m) (hlc : m ≤ cap) (hm : cap ≤ maxLen) :
    Calls Try.prog 81 #[.slice (some ⟨g, 0, none⟩) m cap, .int .i64 i, .int .i64 ((i : Int) + 1)] w fun e w' => e = .returned (.slice (some ⟨g, 0, none⟩) n cap) ∧ OwL FLRow 75 w' (.slice (some ⟨g, 0, none⟩) n cap) (delAt l i) ∧ w.grownBy w' (some g) := by
  unfold maxLen at hm
  have hne : ((i : Int) == (i : Int) + 1) = false := by simp; omega
  have hd0 : OwL FLRow 75 w.drew (.slice (some ⟨g, 0, none⟩) m cap) l := h
  have hpre := Hid.mk_ (hd0.prefix_ (i := i) (by rw [hl.out]; omega))
  have hrd0 := hd0.rd'
  have hrd := Hid.mk_ (hrd0.drop_ (i + 1) hi)
  have hA' : ∃ A, (if cap = i + 1 then some (⟨g, 0, none⟩ : Addr) else some ⟨g, (i + 1) * 2, none⟩) = A ∧ dropAt g 0 cap (i + 1) FLRow.n = A := ⟨_, rfl, by simp [dropAt, FLRow]⟩
  obtain ⟨A, hA, hA2⟩ := hA'
  rw [hA2] at hrd
  have hnl := Hid.mk_ (show i + (l.drop (i + 1)).length = n by have := hmn.out; rw [List.length_drop, hl.out]; omega)
  have hwr : IntKind.i64.wrap ((i : Int) + 1) = (i : Int) + 1 := by rw [IntKind.wrap_i64]; omega
  have hp0 : (0 : Int) ≤ (i : Int) + 1 := by omega
  have hp1 : (i : Int) + 1 ≤ (m : Int) := by omega
  have hp2 : ((i : Int) + 1).toNat = i + 1 := by omega
  have hic : i ≤ cap := by omega
  have hcn : ¬ cap = n := by have := hmn.out; omega
  have hnm : n ≤ m := by have := hmn.out; omega
  have hm1 : m - n = 1 := by have := hmn.out; omega
  clear hA2 h hd0 hrd0
  go_enter Try.func81, Try.ntmps81
  go_wp2_with fail
  go_region_law (refine step_append_room_flat Try.stLRow rfl (.tmp 22) (.tmp 25) rfl (by simp [Act.eval, Act.put]) (by simp [Act.eval, Act.put]) hpre.out hrd.out n hnl.out (by have := hmn.out; omega) ?_; intro w2 ho2 hg2)
  clear hA hwr hp0 hp1 hp2
  go_wp2_with (refine wpList_clear_far Try.stLRow rfl _ rfl _ Try.zeroLRow rfl (by decide) (g := g) (n := n) (c := cap) (oo := n * 2) (m := 1) (c' := cap - n) rfl ho2 (Nat.le_refl _) (by have := hmn.out; simp [FLRow]; omega) ?_; intro w3 ho3 hg3)
  go_ret
  exact ⟨rfl, ho3, ⟨hg3.os.trans hg2.os, hg3.tape.trans hg2.tape, hg3.output.trans hg2.output, Nat.le_trans hg2.size hg3.size, fun k hk hne => (hg3.block k (Nat.lt_of_lt_of_le hk hg2.size) hne).trans (hg2.block k hk hne)⟩⟩

def dropL (ll : List (List LRow)) (wk i : Int) : List (List LRow) × Bool :=
  if limboOkB ll = true ∧ inB 0 2 wk = true ∧ inB 0 (((ll.getD wk.toNat []).length : Int) - 1) i = true then (ll.set wk.toNat (delAt (ll.getD wk.toNat []) i.toNat), true) else (ll, false)
theorem drop_no1 {ll : List (List LRow)} {wk i : Int} (c : limboOkB ll = false) : dropL ll wk i = (ll, false) := if_neg (fun hh => by rw [c] at hh; exact absurd hh.1 (by decide))
theorem drop_no2 {ll : List (List LRow)} {wk i : Int} (c : inB 0 2 wk = false) : dropL ll wk i = (ll, false) := if_neg (fun hh => by rw [c] at hh; exact absurd hh.2.1 (by decide))
theorem drop_no3 {ll : List (List LRow)} {k : Nat} {i : Int} {l : List LRow} (hl : ll[k]? = some l) (c : inB 0 ((l.length : Int) - 1) i = false) : dropL ll (k : Int) i = (ll, false) := if_neg (fun hh => by
  rw [Int.toNat_natCast, List.getD, hl, Option.getD_some, c] at hh
  exact absurd hh.2.2 (by decide))
theorem drop_yes {ll : List (List LRow)} {k i : Nat} {l : List LRow} (hl : ll[k]? = some l) (c1 : limboOkB ll = true) (c2 : inB 0 2 (k : Int) = true) (c : inB 0 ((l.length : Int) - 1) (i : Int) = true) : dropL ll (k : Int) (i : Int) = (ll.set k (delAt l i), true) := by
  unfold dropL
  rw [Int.toNat_natCast, Int.toNat_natCast, List.getD, hl, Option.getD_some]
  exact if_pos ⟨c1, c2, c⟩
theorem cell_up {w w' : World} {g i : Nat} {u : Value} (hb : Below w.heap.size w w') (hg : g < w.heap.size) (h : w.cell? ⟨g, i, none⟩ = some u) : w'.cell? ⟨g, i, none⟩ = some u := (hb.cell (p := ⟨g, i, none⟩) hg).trans h

set_option maxRecDepth 100000 in
set_option maxHeartbeats 2000000 in
theorem DropRow_impl (w : World) (v : Value) (t : List SV) (ll : List (List LRow)) (wk i : Int) (h : RdLL FLRow w w.heap.size v t ll) (hs : szLL ll ≤ 1048576) :
    Calls Try.prog 49 #[v, .int .i64 wk, .int .i64 i] w fun e w' => ∃ v' t', e = .returned (.tuple #[v', .bool (dropL ll wk i).2]) ∧ OwLL FLRow 75 60 w' v' t' (dropL ll wk i).1 ∧ (∀ g ∈ foot2 v' t', w.heap.size ≤ g) ∧ Below w.heap.size w w' := by
  by_cases c1 : limboOkB ll = true
  case neg =>
    have c1' : limboOkB ll = false := (Bool.not_eq_true _).mp c1
    have HN := Hid.mk_ (drop_no1 (wk := wk) (i := i) c1')
    clear c1
    go_enter Try.func49, Try.ntmps49
    go_wp2_with fail
    refine (copyLimbo_impl _ _ t ll h (by omega)).mono ?_
    rintro e w2 ⟨v', t', rfl, ho, hfo, hb2⟩
    go_wp2_with fail
    refine (LimboOk_impl _ _ t ll (rdLL_up h hb2) (by omega)).mono ?_
    rintro e w1 ⟨rfl, hb1⟩
    go_wp2_with fail
    go_ret2
    exact ⟨v', t', ret_pair (by rw [HN.out]), by rw [HN.out]; exact ho.keep (fun b hb => hb1.block b (ho.lt b hb)), hfo, hb2.trans (hb1.mono hb2.size)⟩
  by_cases c2 : inB 0 2 wk = true
  case neg =>
    have c2' : inB 0 2 wk = false := (Bool.not_eq_true _).mp c2
    have HN := Hid.mk_ (drop_no2 (ll := ll) (i := i) c2')
    clear c2
    go_enter Try.func49, Try.ntmps49
    go_wp2_with fail
    refine (copyLimbo_impl _ _ t ll h (by omega)).mono ?_
    rintro e w2 ⟨v', t', rfl, ho, hfo, hb2⟩
    go_wp2_with fail
    refine (LimboOk_impl _ _ t ll (rdLL_up h hb2) (by omega)).mono ?_
    rintro e w1 ⟨rfl, hb1⟩
    go_wp2_with (first | (go_at_call 56; refine ((isWorker_ct _ _)).mono ?_; rintro e w3 ⟨rfl, rfl⟩) | (go_at_call 75; refine ((within_ct _ _ _ _)).mono ?_; rintro e w3 ⟨rfl, rfl⟩) | go_in)
    go_ret2
    exact ⟨v', t', ret_pair (by rw [HN.out]), by rw [HN.out]; exact ho.keep (fun b hb => hb1.block b (ho.lt b hb)), hfo, hb2.trans (hb1.mono hb2.size)⟩
  obtain ⟨k0, rfl⟩ := Int.eq_ofNat_of_zero_le (inB_iff.1 c2).1
  have hk0 : k0 < ll.length := by rw [limboOk_len c1]; have := (inB_iff.1 c2).2; omega
  have hl0 : ll[k0].length ≤ 1048576 := Nat.le_trans (le_szLL (List.getElem_mem hk0)) hs
  have H3 : Hid (ll.length = 3) := limboOk_len c1
  have HI := Hid.mk_ (List.getElem?_eq_getElem hk0)
  obtain ⟨A, c, hv, _⟩ := id h.outer
  subst hv
  obtain ⟨en, hcap, hmx⟩ := h.len'
  have hlt0 : ll.length ≤ 9223372036854775807 := by unfold maxLen at hmx; omega
  rw [en] at h ⊢
  clear en hcap hmx
  obtain ⟨gi, oi, Ai, ci, rfl, hgi, pi0, _⟩ := h.row (Below.refl _ _) hk0
  generalize ll[k0] = l at hl0 HI pi0
  by_cases c3 : inB 0 ((l.length : Int) - 1) i = true
  case neg =>
    have c3' : inB 0 ((l.length : Int) - 1) i = false := (Bool.not_eq_true _).mp c3
    have HN := Hid.mk_ (drop_no3 (ll := ll) (i := i) HI.out c3')
    clear c3
    go_enter Try.func49, Try.ntmps49
    go_wp2_with fail
    refine (copyLimbo_impl _ _ t ll h (by omega)).mono ?_
    rintro e w2 ⟨v', t', rfl, ho, hfo, hb2⟩
    go_wp2_with fail
    refine (LimboOk_impl _ _ t ll (rdLL_up h hb2) (by omega)).mono ?_
    rintro e w1 ⟨rfl, hb1⟩
    have pj := cell_up (hb2.trans (hb1.mono hb2.size)) hgi pi0
    go_wp2_with (first | (go_at_call 56; refine ((isWorker_ct _ _)).mono ?_; rintro e w3 ⟨rfl, rfl⟩) | (go_at_call 75; refine ((within_ct _ _ _ _)).mono ?_; rintro e w3 ⟨rfl, rfl⟩) | go_in)
    go_ret2
    exact ⟨v', t', ret_pair (by rw [HN.out]), by rw [HN.out]; exact ho.keep (fun b hb => hb1.block b (ho.lt b hb)), hfo, hb2.trans (hb1.mono hb2.size)⟩
  obtain ⟨i0, rfl⟩ := Int.eq_ofNat_of_zero_le (inB_iff.1 c3).1
  have hi0 : i0 + 1 ≤ l.length := by have := (inB_iff.1 c3).2; omega
  have HN := Hid.mk_ (drop_yes HI.out c1 c2 c3)
  obtain ⟨n, hn⟩ : ∃ n, l.length = n + 1 := ⟨l.length - 1, by omega⟩
  have HL := Hid.mk_ hn
  clear hn
  go_enter Try.func49, Try.ntmps49
  go_wp2_with fail
  refine (copyLimbo_impl _ _ t ll h (by omega)).mono ?_
  rintro e w2 ⟨v', t', rfl, ho, hfo, hb2⟩
  go_wp2_with fail
  refine (LimboOk_impl _ _ t ll (rdLL_up h hb2) (by omega)).mono ?_
  rintro e w1 ⟨rfl, hb1⟩
  have pj := cell_up (hb2.trans (hb1.mono hb2.size)) hgi pi0
  replace ho := ho.keep (fun b hb => hb1.block b (ho.lt b hb))
  replace hb2 := hb2.trans (hb1.mono hb2.size)
  clear hb1 pi0 h
  obtain ⟨g, cap, rfl, hg⟩ := ho.at_form (by rw [H3.out]; decide)
  obtain ⟨s, hsv⟩ : ∃ s, t'[k0]? = some s := ⟨_, List.getElem?_eq_getElem (by rw [ho.len]; exact hk0)⟩
  have hin := ho.inner k0 s _ hsv HI.out
  have p0 : w1.cell? ⟨g, k0, none⟩ = some (.slice s.a s.len s.cap) := by simpa [FS] using ho.outer.cell_ (j := 0) hsv (by decide)
  have f0 := ho.outer.frozen_ k0
  obtain ⟨gs, cs, hsv2, hgs⟩ := hin.form_pos (by omega)
  obtain ⟨_, cs2, hsv3, hs3, hs4, hsx⟩ := hin.rd'
  clear hsx
  obtain ⟨sa, sl, sc⟩ := s
  simp only [SV.val, Value.slice.injEq] at hsv2 hsv3
  obtain ⟨rfl, rfl, rfl⟩ := hsv2
  obtain ⟨rfl, _, rfl⟩ := hsv3
  have HV := Hid.mk_ hsv
  clear hsv
  go_wp2_with (first | (go_at_call 56; refine (isWorker_ct _ _).mono ?_; rintro e w3 ⟨rfl, rfl⟩) | (go_at_call 75; refine (within_ct _ _ _ _).mono ?_; rintro e w3 ⟨rfl, rfl⟩) | (go_at_call 81; refine (DeleteLRow_ct _ gs sc i0 n l.length l hin rfl HL hi0 hs3 hs4).mono ?_; rintro e w4 ⟨rfl, ho4, hg4⟩; have hf4 := ((Chg.of_grown (v := .slice (some ⟨gs, 0, none⟩) 0 0) hg4).frozen g k0 hg (ho.head_ne HV.out)).trans f0; have hp4 := ((Chg.of_grown (v := .slice (some ⟨gs, 0, none⟩) 0 0) hg4).cell g k0 hg (ho.head_ne HV.out)).trans p0) | go_in)
  have hN := OwLL.app_row (s' := ⟨some ⟨gs, 0, none⟩, n, sc⟩) ho HV.out ho4 hg4 (.inl rfl)
  have hfN := app_foot (B := w.heap.size) (w := w1) (s' := ⟨some ⟨gs, 0, none⟩, n, sc⟩) HV.out (.inl rfl) hb2.size hfo
  have hbN : Below w.heap.size w (w4.setCell ⟨g, k0, none⟩ (.slice (some ⟨gs, 0, none⟩) n sc)) := (hb2.grown hg4 hb2.size (fun b hb => hfo b (mem_foot2.2 (.inr ⟨_, List.mem_of_getElem? HV.out, hb⟩)))).setCell (hfo g (mem_foot2.2 (.inl rfl))) _
  go_ret2
  exact ⟨_, _, ret_pair (by rw [HN.out]), by rw [HN.out]; exact hN, hfN, hbN⟩

set_option maxRecDepth 100000 in
set_option maxHeartbeats 2000000 in
theorem DropRow_spec (w : World) (v : Value) (t : List SV) (ll : List (List LRow)) (wk i : Int) (h : RdLL FLRow w w.heap.size v t ll) (hs : szLL ll ≤ 1048576) :
    Calls Try.prog 48 #[v, .int .i64 wk, .int .i64 i] w fun e w' => ∃ v' t', e = .returned (.tuple #[v', .bool (dropL ll wk i).2]) ∧ OwLL FLRow 75 60 w' v' t' (dropL ll wk i).1 ∧ (∀ g ∈ foot2 v' t', w.heap.size ≤ g) ∧ Below w.heap.size w w' := by
  by_cases c1 : limboOkB ll = true
  case neg =>
    have c1' : limboOkB ll = false := (Bool.not_eq_true _).mp c1
    have HN := Hid.mk_ (drop_no1 (wk := wk) (i := i) c1')
    clear c1
    go_enter Try.func48, Try.ntmps48
    go_wp2_with fail
    refine (copyLimbo_spec _ _ t ll h (by omega)).mono ?_
    rintro e w2 ⟨v', t', rfl, ho, hfo, hb2⟩
    go_wp2_with fail
    refine (LimboOk_spec _ _ t ll (rdLL_up h hb2) (by omega)).mono ?_
    rintro e w1 ⟨rfl, hb1⟩
    go_wp2_with fail
    go_ret2
    exact ⟨v', t', ret_pair (by rw [HN.out]), by rw [HN.out]; exact ho.keep (fun b hb => hb1.block b (ho.lt b hb)), hfo, hb2.trans (hb1.mono hb2.size)⟩
  by_cases c2 : inB 0 2 wk = true
  case neg =>
    have c2' : inB 0 2 wk = false := (Bool.not_eq_true _).mp c2
    have HN := Hid.mk_ (drop_no2 (ll := ll) (i := i) c2')
    clear c2
    go_enter Try.func48, Try.ntmps48
    go_wp2_with fail
    refine (copyLimbo_spec _ _ t ll h (by omega)).mono ?_
    rintro e w2 ⟨v', t', rfl, ho, hfo, hb2⟩
    go_wp2_with fail
    refine (LimboOk_spec _ _ t ll (rdLL_up h hb2) (by omega)).mono ?_
    rintro e w1 ⟨rfl, hb1⟩
    go_wp2_with (go_at_call 54; refine ((l1In_ct _ _ _ _)).mono ?_; rintro e w3 ⟨rfl, rfl⟩)
    go_ret2
    exact ⟨v', t', ret_pair (by rw [HN.out]), by rw [HN.out]; exact ho.keep (fun b hb => hb1.block b (ho.lt b hb)), hfo, hb2.trans (hb1.mono hb2.size)⟩
  obtain ⟨k0, rfl⟩ := Int.eq_ofNat_of_zero_le (inB_iff.1 c2).1
  have hk0 : k0 < ll.length := by rw [limboOk_len c1]; have := (inB_iff.1 c2).2; omega
  have hl0 : ll[k0].length ≤ 1048576 := Nat.le_trans (le_szLL (List.getElem_mem hk0)) hs
  have H3 : Hid (ll.length = 3) := limboOk_len c1
  have HI := Hid.mk_ (List.getElem?_eq_getElem hk0)
  obtain ⟨A, c, hv, _⟩ := id h.outer
  subst hv
  obtain ⟨en, hcap, hmx⟩ := h.len'
  have hlt0 : ll.length ≤ 9223372036854775807 := by unfold maxLen at hmx; omega
  rw [en] at h ⊢
  clear en hcap hmx
  obtain ⟨gi, oi, Ai, ci, rfl, hgi, pi0, _⟩ := h.row (Below.refl _ _) hk0
  generalize ll[k0] = l at hl0 HI pi0
  by_cases c3 : inB 0 ((l.length : Int) - 1) i = true
  case neg =>
    have c3' : inB 0 ((l.length : Int) - 1) i = false := (Bool.not_eq_true _).mp c3
    have HN := Hid.mk_ (drop_no3 (ll := ll) (i := i) HI.out c3')
    clear c3
    go_enter Try.func48, Try.ntmps48
    go_wp2_with fail
    refine (copyLimbo_spec _ _ t ll h (by omega)).mono ?_
    rintro e w2 ⟨v', t', rfl, ho, hfo, hb2⟩
    go_wp2_with fail
    refine (LimboOk_spec _ _ t ll (rdLL_up h hb2) (by omega)).mono ?_
    rintro e w1 ⟨rfl, hb1⟩
    have pj := cell_up (hb2.trans (hb1.mono hb2.size)) hgi pi0
    go_wp2_with (go_at_call 54; refine ((l1In_ct _ _ _ _)).mono ?_; rintro e w3 ⟨rfl, rfl⟩)
    go_ret2
    exact ⟨v', t', ret_pair (by rw [HN.out]), by rw [HN.out]; exact ho.keep (fun b hb => hb1.block b (ho.lt b hb)), hfo, hb2.trans (hb1.mono hb2.size)⟩
  obtain ⟨i0, rfl⟩ := Int.eq_ofNat_of_zero_le (inB_iff.1 c3).1
  have hi0 : i0 + 1 ≤ l.length := by have := (inB_iff.1 c3).2; omega
  have HN := Hid.mk_ (drop_yes HI.out c1 c2 c3)
  obtain ⟨n, hn⟩ : ∃ n, l.length = n + 1 := ⟨l.length - 1, by omega⟩
  have HL := Hid.mk_ hn
  clear hn
  go_enter Try.func48, Try.ntmps48
  go_wp2_with fail
  refine (copyLimbo_spec _ _ t ll h (by omega)).mono ?_
  rintro e w2 ⟨v', t', rfl, ho, hfo, hb2⟩
  go_wp2_with fail
  refine (LimboOk_spec _ _ t ll (rdLL_up h hb2) (by omega)).mono ?_
  rintro e w1 ⟨rfl, hb1⟩
  have pj := cell_up (hb2.trans (hb1.mono hb2.size)) hgi pi0
  replace ho := ho.keep (fun b hb => hb1.block b (ho.lt b hb))
  replace hb2 := hb2.trans (hb1.mono hb2.size)
  clear hb1 pi0 h
  obtain ⟨g, cap, rfl, hg⟩ := ho.at_form (by rw [H3.out]; decide)
  obtain ⟨s, hsv⟩ : ∃ s, t'[k0]? = some s := ⟨_, List.getElem?_eq_getElem (by rw [ho.len]; exact hk0)⟩
  have hin := ho.inner k0 s _ hsv HI.out
  have p0 : w1.cell? ⟨g, k0, none⟩ = some (.slice s.a s.len s.cap) := by simpa [FS] using ho.outer.cell_ (j := 0) hsv (by decide)
  have f0 := ho.outer.frozen_ k0
  obtain ⟨gs, cs, hsv2, hgs⟩ := hin.form_pos (by omega)
  obtain ⟨_, cs2, hsv3, hs3, hs4, hsx⟩ := hin.rd'
  clear hsx
  obtain ⟨sa, sl, sc⟩ := s
  simp only [SV.val, Value.slice.injEq] at hsv2 hsv3
  obtain ⟨rfl, rfl, rfl⟩ := hsv2
  obtain ⟨rfl, _, rfl⟩ := hsv3
  have HV := Hid.mk_ hsv
  clear hsv
  have hd0 : OwL FLRow 75 w1.drew (.slice (some ⟨gs, 0, none⟩) l.length sc) l := hin
  have hpre := Hid.mk_ (hd0.prefix_ (i := i0) (by omega))
  have hrd0 := hd0.rd'
  have hrd := Hid.mk_ (hrd0.drop_ (i0 + 1) hi0)
  have hA' : ∃ A, (if sc = i0 + 1 then some (⟨gs, 0, none⟩ : Addr) else some ⟨gs, (i0 + 1) * 2, none⟩) = A ∧ dropAt gs 0 sc (i0 + 1) FLRow.n = A := ⟨_, rfl, by simp [dropAt, FLRow]⟩
  obtain ⟨A, hA, hA2⟩ := hA'
  rw [hA2] at hrd
  have hnl := Hid.mk_ (show i0 + (l.drop (i0 + 1)).length = n by have := HL.out; rw [List.length_drop]; omega)
  have hwr : IntKind.i64.wrap ((i0 : Int) + 1) = (i0 : Int) + 1 := by rw [IntKind.wrap_i64]; omega
  have hq0 : (0 : Int) ≤ (i0 : Int) + 1 := by omega
  have hq1 : (i0 : Int) + 1 ≤ (l.length : Int) := by omega
  have hq2 : ((i0 : Int) + 1).toNat = i0 + 1 := by omega
  have hic : i0 ≤ sc := by omega
  have hk3 : (k0 : Int) < (ll.length : Int) := by omega
  clear hA2 hd0 hrd0
  go_wp2_with (go_at_call 54; refine ((l1In_ct _ _ _ _)).mono ?_; rintro e w3 ⟨rfl, rfl⟩)
  go_region_law (refine step_append_room_flat Try.stLRow rfl (.tmp 40) (.tmp 48) rfl (by simp [Act.eval, Act.put]) (by simp [Act.eval, Act.put]) hpre.out hrd.out n hnl.out (by have := HL.out; omega) ?_; intro w4 ho4 hg4d; have hg4 : w1.grownBy w4 (some gs) := ⟨hg4d.os, hg4d.tape, hg4d.output, hg4d.size, hg4d.block⟩; have hf4 := ((Chg.of_grown (v := .slice (some ⟨gs, 0, none⟩) 0 0) hg4).frozen g k0 hg (ho.head_ne HV.out)).trans f0; have hp4 := ((Chg.of_grown (v := .slice (some ⟨gs, 0, none⟩) 0 0) hg4).cell g k0 hg (ho.head_ne HV.out)).trans p0)
  all_goals
    go_wp2_with fail
    have hN := OwLL.app_row (s' := ⟨some ⟨gs, 0, none⟩, n, sc⟩) ho HV.out ho4 hg4 (.inl rfl)
    have hfN := app_foot (B := w.heap.size) (w := w1) (s' := ⟨some ⟨gs, 0, none⟩, n, sc⟩) HV.out (.inl rfl) hb2.size hfo
    have hbN : Below w.heap.size w (w4.setCell ⟨g, k0, none⟩ (.slice (some ⟨gs, 0, none⟩) n sc)) := (hb2.grown hg4 hb2.size (fun b hb => hfo b (mem_foot2.2 (.inr ⟨_, List.mem_of_getElem? HV.out, hb⟩)))).setCell (hfo g (mem_foot2.2 (.inl rfl))) _
    go_ret2
    exact ⟨_, _, ret_pair (by rw [HN.out]), by rw [HN.out]; exact hN, hfN, hbN⟩
end Go.Proofs.Ytobcdcfbhfoheaa
