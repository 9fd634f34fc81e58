/-
  Clocks valid: the contracts.
-/
import Derived.Test.YtkldapdpaldbgaaGreatT
import Derived.Test.YtkldapdpaldbgaaGreatL
import Derived.Deep.QuietTactic
import Derived.BigQuiet
import Derived.Deep.LoopGhost
import Derived.Deep.RegionHeld3
import Derived.Test.YtkldapdpaldbgaaGreatN
import Derived.Test.YtkldapdpaldbgaaGreatA
import Derived.WalkSpells
import Derived.Laws.Cover3
import Derived.Test.YtkldapdpaldbgaaGreatCK
namespace Go.Proofs.YtkldapdpaldbgaaGreat.Clk
open Go.RowKit

theorem Tryz.stPin : ST Tryz.prog FPin 32 165 := ⟨Tryz.underlying32, .agg #[.bool false, .int .i64 0, .bool false, .int .i64 0], 32, by kernel_rfl, rfl, by decide⟩
theorem cell_old (w : World) (o : Obj) (g i : Nat) (hg : g < w.heap.size) : (w.alloc o).cell? ⟨g, i, none⟩ = w.cell? ⟨g, i, none⟩ := by
  simp [World.cell?, Below.heap_alloc w o g hg]
theorem cell_old_frozen (w : World) (o : Obj) (g i : Nat) (hg : g < w.heap.size) : (w.alloc o).frozen? ⟨g, i, none⟩ = w.frozen? ⟨g, i, none⟩ := by
  simp [World.frozen?, Below.heap_alloc w o g hg]
theorem cell_up {w w' : World} {g i : Nat} {u : Value} (hb : Below w.heap.size w w') (hg : g < w.heap.size) (h : w.cell? ⟨g, i, none⟩ = some u) : w'.cell? ⟨g, i, none⟩ = some u := (hb.cell (p := ⟨g, i, none⟩) hg).trans h

def idxOf {α : Type} (p : α → Bool) (l : List α) : Int := match l.findIdx? p with | some i => i | none => -1
theorem idxOf_hit {α : Type} (p : α → Bool) (l : List α) (i : Nat) (hi : i < l.length) (h : (l.take i).any p = false) (hp : p l[i] = true) : idxOf p l = i := by
  have hf : l.findIdx? p = some i := by
    rw [List.findIdx?_eq_some_iff_getElem]
    refine ⟨hi, hp, fun j hj => ?_⟩
    rw [List.any_eq_false] at h
    exact h l[j] (List.mem_take_iff_getElem.2 ⟨j, by omega, rfl⟩)
  unfold idxOf
  rw [hf]
theorem idxOf_none {α : Type} (p : α → Bool) (l : List α) (h : l.any p = false) : idxOf p l = -1 := by
  have hf : l.findIdx? p = none := by
    rw [List.findIdx?_eq_none_iff]
    intro x hx
    rw [List.any_eq_false] at h
    simpa using h x hx
  unfold idxOf
  rw [hf]
theorem any_take_succ {α : Type} (p : α → Bool) (l : List α) (i : Nat) (hi : i < l.length) (h : (l.take i).any p = false) (hp : p l[i] = false) : (l.take (i + 1)).any p = false := by
  rw [List.take_succ_eq_append_getElem hi, List.any_append, h]
  simp [hp]
theorem idxOf_ge {α : Type} (p : α → Bool) (l : List α) : decide (0 ≤ idxOf p l) = l.any p := by
  unfold idxOf
  cases h : l.findIdx? p with
  | none =>
    rw [List.findIdx?_eq_none_iff] at h
    have : l.any p = false := by
      rw [List.any_eq_false]
      intro x hx
      simp [h x hx]
    rw [this]
    rfl
  | some i =>
    rw [List.findIdx?_eq_some_iff_getElem] at h
    obtain ⟨hi, hp, _⟩ := h
    have : l.any p = true := List.any_eq_true.2 ⟨l[i], List.getElem_mem hi, hp⟩
    rw [this]
    simp

set_option maxHeartbeats 1000000 in
theorem IndexFuncPin_ct (w : World) (v : Value) (l : List Pin) (h : RdL FPin w w.heap.size v l) (fid : FuncId) (cap : Array Value) (p : Pin → Bool) (hent : ∀ (x : Pin) (W : World), (callFunc fid (#[.agg #[.bool x.On, .int .i64 x.Epoch, .bool x.Marked, .int .i64 x.Seen]] ++ cap)).run Tryz.prog W = .ok (.enter fid (#[.agg #[.bool x.On, .int .i64 x.Epoch, .bool x.Marked, .int .i64 x.Seen]] ++ cap)) W)
    (hf : ∀ (x : Pin) (W : World), x ∈ l → Below w.heap.size w W → Calls Tryz.prog fid (#[.agg #[.bool x.On, .int .i64 x.Epoch, .bool x.Marked, .int .i64 x.Seen]] ++ cap) W fun e W' => e = .returned (.bool (p x)) ∧ Below W.heap.size W W') :
    Calls Tryz.prog 241 #[v, .func (.func fid) #[] cap] w fun e w' => e = .returned (.int .i64 (idxOf p l)) ∧ Below w.heap.size w w' := by
  obtain ⟨A, c, hv, q1, q2, _⟩ := id h
  have hlt0 : l.length ≤ 9223372036854775807 := by unfold maxLen at q2; omega
  subst hv
  have HF := Hid.mk_ hf
  clear hf q1 q2
  go_enter Tryz.func241, Tryz.ntmps241
  go_wp2
  go_loopw [5, 8] (fun _ i wr => ∃ i' : Nat, i' ≤ l.length ∧ i = .int .i64 i' ∧ Below w.heap.size w wr ∧ (l.take i').any p = false) (fun _ i _ => l.length - (intOf i).toNat)
  case atStart => exact ⟨0, Nat.zero_le _, rfl, Below.refl _ _, rfl⟩
  case round =>
    obtain ⟨i, hi, rfl, hb, hno⟩ := hrel
    have HN := Hid.mk_ hno
    clear hno
    by_cases hlt : i < l.length
    · obtain ⟨g, off, cap', he, hg, _, _, hc⟩ := (h.below hb).at_ (List.getElem?_eq_getElem hlt)
      injection he with he1 he2 he3
      clear he2
      subst he1 he3
      have p0 : wr.cell? ⟨g, off + i * 4, none⟩ = some (.bool l[i].On) := hc 0 _ rfl
      have p1 : wr.cell? ⟨g, off + i * 4 + 1, none⟩ = some (.int .i64 l[i].Epoch) := hc 1 _ rfl
      have p2 : wr.cell? ⟨g, off + i * 4 + 2, none⟩ = some (.bool l[i].Marked) := hc 2 _ rfl
      have p3 : wr.cell? ⟨g, off + i * 4 + 3, none⟩ = some (.int .i64 l[i].Seen) := hc 3 _ rfl
      clear hc h
      go_wp2_with fail
      refine (HF.out l[i] wr (List.getElem_mem hlt) hb).mono ?_
      rintro e w1 ⟨rfl, hb1⟩
      have hb2 := hb.trans (hb1.mono hb.size)
      by_cases hp : p l[i] = true
      · have HP := Hid.mk_ (idxOf_hit p l i hlt HN.out hp)
        rw [hp]
        clear hp
        go_wp2
        go_ret
        exact ⟨ret_i64 HP.out.symm, hb2⟩
      · have hp' : p l[i] = false := by simpa using hp
        have HP := Hid.mk_ (any_take_succ p l i hlt HN.out hp')
        rw [hp']
        clear hp hp'
        go_wp2
        go_roundw
        case rel => exact ⟨i + 1, by omega, by go_num, hb2, HP.out⟩
        case measure => simp [intOf]; omega
    · go_wp2
      go_ret
      obtain rfl : i = l.length := by omega
      exact ⟨ret_i64 (idxOf_none p l (by simpa using HN.out)).symm, hb⟩
set_option maxHeartbeats 1000000 in
theorem ContainsFuncPin_ct (w : World) (v : Value) (l : List Pin) (h : RdL FPin w w.heap.size v l) (fid : FuncId) (cap : Array Value) (p : Pin → Bool) (hent : ∀ (x : Pin) (W : World), (callFunc fid (#[.agg #[.bool x.On, .int .i64 x.Epoch, .bool x.Marked, .int .i64 x.Seen]] ++ cap)).run Tryz.prog W = .ok (.enter fid (#[.agg #[.bool x.On, .int .i64 x.Epoch, .bool x.Marked, .int .i64 x.Seen]] ++ cap)) W)
    (hf : ∀ (x : Pin) (W : World), x ∈ l → Below w.heap.size w W → Calls Tryz.prog fid (#[.agg #[.bool x.On, .int .i64 x.Epoch, .bool x.Marked, .int .i64 x.Seen]] ++ cap) W fun e W' => e = .returned (.bool (p x)) ∧ Below W.heap.size W W') :
    Calls Tryz.prog 166 #[v, .func (.func fid) #[] cap] w fun e w' => e = .returned (.bool (l.any p)) ∧ Below w.heap.size w w' := by
  have HF := Hid.mk_ hf
  clear hf
  go_enter Tryz.func166, Tryz.ntmps166
  go_wp2_with fail
  refine (IndexFuncPin_ct w v l h fid cap p hent HF.out).mono ?_
  rintro e w1 ⟨rfl, hb1⟩
  have HP := Hid.mk_ (idxOf_ge p l)
  go_wp2
  go_ret
  exact ⟨ret_bool HP.out, hb1⟩

theorem Clock.eta (ep : Int) (l : List Pin) : clockOkB ⟨ep, l⟩ = (inB 0 100000 ep && (l.length == 3) && l.all (pinB ep)) := rfl
theorem all_not_any {α : Type} (p : α → Bool) (l : List α) : l.all p = !(l.any fun x => !p x) := by
  induction l with
  | nil => rfl
  | cons x l ih => simp [ih]
set_option maxRecDepth 100000 in
set_option maxHeartbeats 1000000 in
theorem ClockOk_impl (w : World) (H : HClock) (x : Clock) (h : RdClock w w.heap.size H x) :
    Calls Tryz.prog 89 #[.agg #[.int .i64 x.Epoch, .slice H.Pins.a H.Pins.len H.Pins.cap]] w fun e w' => e = .returned (.bool (clockOkB x)) ∧ Below w.heap.size w w' := by
  obtain ⟨⟨A, n, c⟩⟩ := H
  obtain ⟨ep, l⟩ := x
  have hr : RdL FPin w w.heap.size (.slice A n c) l := h.Pins
  obtain ⟨_, _, hv, q1, q2, qx⟩ := id hr
  simp only [Value.slice.injEq] at hv
  obtain ⟨rfl, rfl, rfl⟩ := hv
  have hlt0 : l.length ≤ 9223372036854775807 := by unfold maxLen at q2; omega
  clear q1 q2 qx h
  have HE := Hid.mk_ (Clock.eta ep l)
  show Calls Tryz.prog 89 #[.agg #[.int .i64 ep, .slice A l.length c]] _ _
  by_cases c1 : inB 0 100000 ep = true
  case neg =>
    have c1' : inB 0 100000 ep = false := (Bool.not_eq_true _).mp c1
    clear c1
    go_enter Tryz.func89, Tryz.ntmps89
    go_wp2_with (go_at_call 111; refine (within_ct _ _ _ _).mono ?_; rintro e w1 ⟨rfl, rfl⟩)
    go_ret
    exact ⟨ret_bool (by rw [HE.out, c1']; rfl), by repeat (first | exact Below.refl _ _ | refine Below.alloc ?_ (by simp <;> omega) _ | refine below_grow_of ?_ (by simp <;> omega) _ _ | refine Below.drew ?_)⟩
  by_cases c2 : l.length = 3
  case neg =>
    have c2' : ((l.length : Int) == 3) = false := by simp; omega
    have HF := Hid.mk_ (show (l.length == 3) = false by simpa using c2)
    clear c2
    go_enter Tryz.func89, Tryz.ntmps89
    go_wp2_with (go_at_call 111; refine (within_ct _ _ _ _).mono ?_; rintro e w1 ⟨rfl, rfl⟩)
    go_ret
    exact ⟨ret_bool (by rw [HE.out, HF.out]; simp), by repeat (first | exact Below.refl _ _ | refine Below.alloc ?_ (by simp <;> omega) _ | refine below_grow_of ?_ (by simp <;> omega) _ _ | refine Below.drew ?_)⟩
  have c2' : ((l.length : Int) == 3) = true := by simp; omega
  have HF := Hid.mk_ (show (l.length == 3) = true by simpa using c2)
  clear c2
  have HA := Hid.mk_ (all_not_any (pinB ep) l)
  go_enter Tryz.func89, Tryz.ntmps89
  go_wp2_with (go_at_call 111; refine (within_ct _ _ _ _).mono ?_; rintro e w1 ⟨rfl, rfl⟩)
  refine (ContainsFuncPin_ct _ _ l (rd_up hr (by repeat (first | exact Below.refl _ _ | refine Below.alloc ?_ (by simp <;> omega) _ | refine below_grow_of ?_ (by simp <;> omega) _ _ | refine Below.drew ?_))) 167 #[.pointer (some ⟨w.heap.size, 0, none⟩)] (fun p => !pinB ep p) (fun _ _ => by kernel_rfl) (fun x W _ hW => ClockOk1_impl x ep w.heap.size W ((hW.cell (p := ⟨w.heap.size, 0, none⟩) (by simp)).trans (by simp [go_sem])) (by have := hW.size; simp at this; omega))).mono ?_
  rintro e w2 ⟨rfl, hb2⟩
  go_wp2
  go_ret
  exact ⟨ret_bool (by rw [HE.out, c1, HF.out, HA.out]; rfl), ((Below.refl _ _).alloc (Nat.le_refl _) _).trans (hb2.mono (by simp))⟩
set_option maxRecDepth 100000 in
set_option maxHeartbeats 2000000 in
theorem ClockOk_spec (w : World) (H : HClock) (x : Clock) (h : RdClock w w.heap.size H x) :
    Calls Tryz.prog 49 #[.agg #[.int .i64 x.Epoch, .slice H.Pins.a H.Pins.len H.Pins.cap]] w fun e w' => e = .returned (.bool (clockOkB x)) ∧ Below w.heap.size w w' := by
  obtain ⟨⟨A, n, c⟩⟩ := H
  obtain ⟨ep, l⟩ := x
  have hr : RdL FPin w w.heap.size (.slice A n c) l := h.Pins
  obtain ⟨_, _, hv, q1, q2, qx⟩ := id hr
  simp only [Value.slice.injEq] at hv
  obtain ⟨rfl, rfl, rfl⟩ := hv
  have hlt0 : l.length ≤ 9223372036854775807 := by unfold maxLen at q2; omega
  clear q1 q2 qx h
  have HE := Hid.mk_ (Clock.eta ep l)
  show Calls Tryz.prog 49 #[.agg #[.int .i64 ep, .slice A l.length c]] _ _
  by_cases c1 : inB 0 100000 ep = true
  case neg =>
    have c1' : inB 0 100000 ep = false := (Bool.not_eq_true _).mp c1
    clear c1
    go_enter Tryz.func49, Tryz.ntmps49
    go_wp2_with (go_at_call 107; refine (l1In_ct _ _ _ _).mono ?_; rintro e w1 ⟨rfl, rfl⟩)
    go_ret
    exact ⟨ret_bool (by rw [HE.out, c1']; rfl), by repeat (first | exact Below.refl _ _ | refine Below.alloc ?_ (by simp <;> omega) _ | refine below_grow_of ?_ (by simp <;> omega) _ _ | refine Below.drew ?_)⟩
  by_cases c2 : l.length = 3
  case neg =>
    have c2' : ((l.length : Int) != 3) = true := by simp; omega
    have HF := Hid.mk_ (show (l.length == 3) = false by simpa using c2)
    clear c2
    go_enter Tryz.func49, Tryz.ntmps49
    go_wp2_with (go_at_call 107; refine (l1In_ct _ _ _ _).mono ?_; rintro e w1 ⟨rfl, rfl⟩)
    go_ret
    exact ⟨ret_bool (by rw [HE.out, HF.out]; simp), by repeat (first | exact Below.refl _ _ | refine Below.alloc ?_ (by simp <;> omega) _ | refine below_grow_of ?_ (by simp <;> omega) _ _ | refine Below.drew ?_)⟩
  have c2' : ((l.length : Int) != 3) = false := by simp; omega
  have H3 := Hid.mk_ c2
  have HF := Hid.mk_ (show (l.length == 3) = true by simpa using c2)
  clear c2
  go_enter Tryz.func49, Tryz.ntmps49
  go_wp2_with (go_at_call 107; refine (l1In_ct _ _ _ _).mono ?_; rintro e w1 ⟨rfl, rfl⟩)
  have hW0 : Below w.heap.size w (w.alloc (.cells #[.int .i64 ep, .slice A l.length c] 34)) := (Below.refl _ _).alloc (Nat.le_refl _) _
  go_loopw [3, 4] (fun i _ wr => ∃ k : Nat, k ≤ 3 ∧ i = .int .i64 k ∧ Hid ((l.take k).all (pinB ep) = true) ∧ Below w.heap.size w wr ∧ wr.cell? ⟨w.heap.size, 0, none⟩ = some (.int .i64 ep) ∧ wr.cell? ⟨w.heap.size, 1, none⟩ = some (.slice A l.length c) ∧ w.heap.size < wr.heap.size) (fun i _ _ => 3 - (intOf i).toNat)
  case atStart => exact ⟨0, Nat.zero_le _, rfl, rfl, hW0, by simp [go_sem], by simp [go_sem], by simp⟩
  case round =>
    obtain ⟨i, hi, rfl, HT, hb, pc0, pc1, hz⟩ := hrel
    by_cases hl3 : i < 3
    · have hlt : i < l.length := by rw [H3.out]; exact hl3
      obtain ⟨g, off, cap', he, hg, _, _, hc⟩ := (hr.below hb).at_ (List.getElem?_eq_getElem hlt)
      injection he with he1 he2 he3
      clear he2
      subst he1 he3
      have p0 : wr.cell? ⟨g, off + i * 4, none⟩ = some (.bool l[i].On) := hc 0 _ rfl
      have p1 : wr.cell? ⟨g, off + i * 4 + 1, none⟩ = some (.int .i64 l[i].Epoch) := hc 1 _ rfl
      have p2 : wr.cell? ⟨g, off + i * 4 + 2, none⟩ = some (.bool l[i].Marked) := hc 2 _ rfl
      have p3 : wr.cell? ⟨g, off + i * 4 + 3, none⟩ = some (.int .i64 l[i].Seen) := hc 3 _ rfl
      clear hc hr hW0
      have HS := Hid.mk_ (show (l.take (i + 1)).all (pinB ep) = ((l.take i).all (pinB ep) && pinB ep l[i]) by rw [List.take_succ_eq_append_getElem hlt, List.all_append]; simp)
      have HX := Hid.mk_ (fun hp : pinB ep l[i] = false => (show l.all (pinB ep) = false from List.all_eq_false.2 ⟨l[i], List.getElem_mem hlt, by rw [hp]; decide⟩))
      generalize l[i] = p at p0 p1 p2 p3 HS HX
      obtain ⟨on, e1, mk, sn⟩ := p
      simp only at p0 p1 p2 p3
      have HP := Hid.mk_ (show pinB ep ⟨on, e1, mk, sn⟩ = (inB 0 ep e1 && inB 0 2 sn && (on || decide ((⟨on, e1, mk, sn⟩ : Pin) = pin0))) from rfl)
      have step : ∀ (b1 : Bool), (∀ W : World, (binOp .neq 165 (.agg #[.bool on, .int .i64 e1, .bool mk, .int .i64 sn]) (.agg #[.bool false, .int .i64 0, .bool false, .int .i64 0])).run Tryz.prog W = .ok (.bool (!b1)) W) → True := fun _ _ => trivial
      clear step
      by_cases c3 : (on || decide ((⟨on, e1, mk, sn⟩ : Pin) = pin0)) = true
      case neg =>
        have c3' : on = false ∧ decide ((⟨on, e1, mk, sn⟩ : Pin) = pin0) = false := by simpa using c3
        obtain ⟨rfl, c4⟩ := c3'
        have hq := neqRunPin ⟨false, e1, mk, sn⟩ pin0
        rw [c4] at hq
        simp only [pin0] at hq
        have HN := Hid.mk_ (HX.out (by rw [HP.out, c4]; simp))
        clear c3 c4
        go_wp2_with (go_at_call 107; refine (l1In_ct _ _ _ _).mono ?_; rintro e w1 ⟨rfl, rfl⟩)
        go_ret
        exact ⟨ret_bool (by rw [HE.out, HN.out]; simp), hb.alloc hb.size _⟩
      have hq : on = true ∨ (on = false ∧ ∀ W : World, (binOp .neq 165 (.agg #[.bool false, .int .i64 e1, .bool mk, .int .i64 sn]) (.agg #[.bool false, .int .i64 0, .bool false, .int .i64 0])).run Tryz.prog W = .ok (.bool false) W) := by
        cases on with
        | true => exact .inl rfl
        | false =>
          have c4 : decide ((⟨false, e1, mk, sn⟩ : Pin) = pin0) = true := by simpa using c3
          have hq := neqRunPin ⟨false, e1, mk, sn⟩ pin0
          rw [c4] at hq
          exact .inr ⟨rfl, hq⟩
      rw [c3, Bool.and_true] at HP
      clear c3
      by_cases c5 : inB 0 ep e1 = true
      case neg =>
        have c5' : inB 0 ep e1 = false := (Bool.not_eq_true _).mp c5
        have HN := Hid.mk_ (HX.out (by rw [HP.out, c5']; rfl))
        clear c5
        rcases hq with rfl | ⟨rfl, hq⟩
        all_goals
          go_wp2_with (go_at_call 107; refine (l1In_ct _ _ _ _).mono ?_; rintro e w1 ⟨rfl, rfl⟩)
          go_ret
          exact ⟨ret_bool (by rw [HE.out, HN.out]; simp), hb.alloc hb.size _⟩
      by_cases c6 : inB 0 2 sn = true
      case neg =>
        have c6' : inB 0 2 sn = false := (Bool.not_eq_true _).mp c6
        have HN := Hid.mk_ (HX.out (by rw [HP.out, c6']; simp))
        clear c6
        rcases hq with rfl | ⟨rfl, hq⟩
        all_goals
          go_wp2_with (go_at_call 107; refine (l1In_ct _ _ _ _).mono ?_; rintro e w1 ⟨rfl, rfl⟩)
          go_ret
          exact ⟨ret_bool (by rw [HE.out, HN.out]; simp), hb.alloc hb.size _⟩
      have HN := Hid.mk_ (show (l.take (i + 1)).all (pinB ep) = true by rw [HS.out, HT.out, HP.out, c5, c6]; rfl)
      clear HS HX HP
      rcases hq with rfl | ⟨rfl, hq⟩
      all_goals
        go_wp2_with (go_at_call 107; refine (l1In_ct _ _ _ _).mono ?_; rintro e w1 ⟨rfl, rfl⟩)
        go_roundw
        case rel => exact ⟨i + 1, by omega, by go_num, HN, hb.alloc hb.size _, (cell_old wr _ _ _ hz).trans pc0, (cell_old wr _ _ _ hz).trans pc1, by simp; omega⟩
        case measure => simp [intOf]; omega
    · obtain rfl : i = 3 := by omega
      have HN := Hid.mk_ (show l.all (pinB ep) = true by have a := HT.out; rwa [show (3 : Nat) = l.length from H3.out.symm, List.take_length] at a)
      go_wp2
      go_ret
      exact ⟨ret_bool (by rw [HE.out, c1, HF.out, HN.out]; rfl), hb⟩
end Go.Proofs.YtkldapdpaldbgaaGreat.Clk
