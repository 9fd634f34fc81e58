/-
  Disjoint: the contracts.
-/
import Derived.Test.YtcnnjcbcbpfcgaaT
import Derived.Test.YtcnnjcbcbpfcgaaL
import Derived.Deep.QuietTactic
import Derived.BigQuiet
import Derived.Deep.LoopGhost
import Derived.Deep.RegionHeld3
import Derived.Test.YtcnnjcbcbpfcgaaN
import Derived.Test.YtcnnjcbcbpfcgaaA
import Derived.WalkSpells
import Derived.Laws.Cover3
namespace Go.Proofs.Ytcnnjcbcbpfcgaa
open Go.RowKit

def apartB (a b : Span) : Bool := decide (a.To ≤ a.From) || decide (b.To ≤ b.From) || decide (a.To ≤ b.From) || decide (b.To ≤ a.From)
def okAt (l : List Span) (i : Nat) (s : Span) : Bool := decide (0 ≤ s.From) && decide (s.To ≤ 384) && !((l.take i).any fun o => !apartB s o)
def disjTo (l : List Span) (k : Nat) : Bool := (List.range k).all fun i => match l[i]? with | some s => okAt l i s | none => true
def disjB (l : List Span) : Bool := disjTo l l.length
theorem disj_step (l : List Span) (k : Nat) (hk : k < l.length) : disjTo l (k + 1) = (disjTo l k && okAt l k l[k]) := by
  simp [disjTo, List.range_succ, List.all_append, hk]
theorem disj_false (l : List Span) (k : Nat) (hk : k < l.length) (h : okAt l k l[k] = false) : disjB l = false := by
  unfold disjB disjTo
  rw [List.all_eq_false]
  refine ⟨k, by simpa using hk, ?_⟩
  simp [hk, h]

set_option maxHeartbeats 1000000 in
theorem Apart_spec (a b : Span) (w : World) : Calls Try.prog 68 #[.agg #[.int .i64 a.From, .int .i64 a.To], .agg #[.int .i64 b.From, .int .i64 b.To]] w fun e w' => e = .returned (.bool (apartB a b)) ∧ Below w.heap.size w w' := by
  by_cases h1 : a.To ≤ a.From
  · go_enter Try.func68, Try.ntmps68
    go_wp2
    go_ret
    exact ⟨ret_bool (by simp [apartB, h1]), by repeat (first | exact Below.refl _ _ | refine Below.alloc ?_ (by simp <;> omega) _ | refine below_grow_of ?_ (by simp <;> omega) _ _ | refine Below.drew ?_)⟩
  by_cases h2 : b.To ≤ b.From
  · go_enter Try.func68, Try.ntmps68
    go_wp2
    go_ret
    exact ⟨ret_bool (by simp [apartB, h2]), by repeat (first | exact Below.refl _ _ | refine Below.alloc ?_ (by simp <;> omega) _ | refine below_grow_of ?_ (by simp <;> omega) _ _ | refine Below.drew ?_)⟩
  by_cases h3 : a.To ≤ b.From
  · go_enter Try.func68, Try.ntmps68
    go_wp2
    go_ret
    exact ⟨ret_bool (by simp [apartB, h3]), by repeat (first | exact Below.refl _ _ | refine Below.alloc ?_ (by simp <;> omega) _ | refine below_grow_of ?_ (by simp <;> omega) _ _ | refine Below.drew ?_)⟩
  go_enter Try.func68, Try.ntmps68
  go_wp2
  go_ret
  exact ⟨ret_bool (by rw [Bool.eq_iff_iff]; simp [apartB]; omega), by repeat (first | exact Below.refl _ _ | refine Below.alloc ?_ (by simp <;> omega) _ | refine below_grow_of ?_ (by simp <;> omega) _ _ | refine Below.drew ?_)⟩

set_option maxHeartbeats 1000000 in
theorem Apart_impl (a b : Span) (w : World) : Calls Try.prog 72 #[.agg #[.int .i64 a.From, .int .i64 a.To], .agg #[.int .i64 b.From, .int .i64 b.To]] w fun e w' => e = .returned (.bool (apartB a b)) ∧ Below w.heap.size w w' := by
  by_cases h1 : a.To ≤ a.From
  · go_enter Try.func72, Try.ntmps72
    go_wp2
    go_ret
    exact ⟨ret_bool (by simp [apartB, h1]), by repeat (first | exact Below.refl _ _ | refine Below.alloc ?_ (by simp <;> omega) _ | refine below_grow_of ?_ (by simp <;> omega) _ _ | refine Below.drew ?_)⟩
  by_cases h2 : b.To ≤ b.From
  · go_enter Try.func72, Try.ntmps72
    go_wp2
    go_ret
    exact ⟨ret_bool (by simp [apartB, h2]), by repeat (first | exact Below.refl _ _ | refine Below.alloc ?_ (by simp <;> omega) _ | refine below_grow_of ?_ (by simp <;> omega) _ _ | refine Below.drew ?_)⟩
  by_cases h3 : a.To ≤ b.From
  · go_enter Try.func72, Try.ntmps72
    go_wp2
    go_ret
    exact ⟨ret_bool (by simp [apartB, h3]), by repeat (first | exact Below.refl _ _ | refine Below.alloc ?_ (by simp <;> omega) _ | refine below_grow_of ?_ (by simp <;> omega) _ _ | refine Below.drew ?_)⟩
  go_enter Try.func72, Try.ntmps72
  go_wp2
  go_ret
  exact ⟨ret_bool (by rw [Bool.eq_iff_iff]; simp [apartB]; omega), by repeat (first | exact Below.refl _ _ | refine Below.alloc ?_ (by simp <;> omega) _ | refine below_grow_of ?_ (by simp <;> omega) _ _ | refine Below.drew ?_)⟩

theorem okAt_hit (l : List Span) (i m : Nat) (hi : i < l.length) (hm : m < i) (h : apartB l[i] l[m] = false) : okAt l i l[i] = false := by
  have : ((l.take i).any fun o => !apartB l[i] o) = true := List.any_eq_true.2 ⟨l[m], List.mem_take_iff_getElem.2 ⟨m, by omega, rfl⟩, by simp [h]⟩
  simp [okAt, this]
theorem any_take_ok (l : List Span) (i m : Nat) (hi : i < l.length) (hm : m < i) (h : ((l.take m).any fun o => !apartB l[i] o) = false) (ha : apartB l[i] l[m] = true) : ((l.take (m + 1)).any fun o => !apartB l[i] o) = false := by
  rw [List.take_succ_eq_append_getElem (by omega), List.any_append, h]
  simp [ha]
set_option maxRecDepth 100000 in
set_option maxHeartbeats 2000000 in
theorem Disjoint_spec (w : World) (v : Value) (l : List Span) (h : RdL FSpan w w.heap.size v l) (hs : l.length ≤ 1073741824) :
    Calls Try.prog 51 #[v] w fun e w' => e = .returned (.bool (disjB l)) ∧ Below w.heap.size w w' := by
  obtain ⟨A, c, hv, _, _, _⟩ := id h
  subst hv
  go_enter Try.func51, Try.ntmps51
  go_wp2
  go_loopw [3, 4] (fun i _ wr => ∃ k : Nat, k ≤ l.length ∧ i = .int .i64 k ∧ Hid (disjTo l k = true) ∧ Below w.heap.size w wr) (fun i _ _ => l.length - (intOf i).toNat)
  case atStart => exact ⟨0, Nat.zero_le _, rfl, rfl, Below.refl _ _⟩
  case round =>
    obtain ⟨i, hi, rfl, HD, hb⟩ := hrel
    by_cases hlt : i < l.length
    · obtain ⟨g1, o1, cap', he, hg, _, _, hc⟩ := (h.below hb).at_ (List.getElem?_eq_getElem hlt)
      injection he with he1 he2 he3
      clear he2
      subst he1 he3
      have z1 : g1 < wr.heap.size := Nat.lt_of_lt_of_le hg hb.size
      have p0 : wr.cell? ⟨g1, o1 + i * 2, none⟩ = some (.int .i64 l[i].From) := hc 0 _ rfl
      have p1 : wr.cell? ⟨g1, o1 + i * 2 + 1, none⟩ = some (.int .i64 l[i].To) := hc 1 _ rfl
      clear hc
      by_cases hf : l[i].From < 0
      · have HS := Hid.mk_ (disj_false l i hlt (by simp [okAt]; omega))
        go_wp2
        go_ret
        exact ⟨ret_bool HS.out.symm, hb⟩
      by_cases ht : 384 < l[i].To
      · have HS := Hid.mk_ (disj_false l i hlt (by simp [okAt]; omega))
        go_wp2
        go_ret
        exact ⟨ret_bool HS.out.symm, hb⟩
      go_wp2
      clear p0 p1
      obtain ⟨wo, rfl⟩ : ∃ wo : World, wo = wr := ⟨_, rfl⟩
      go_loopw [4] (fun k wi => ∃ m : Nat, m ≤ i ∧ k = .int .i64 m ∧ Hid (((l.take m).any fun o => !apartB l[i] o) = false) ∧ Below w.heap.size w wi) (fun k _ => i - (intOf k).toNat)
      case atStart => exact ⟨0, Nat.zero_le _, rfl, rfl, hb⟩
      case round =>
        obtain ⟨m, hm, rfl, HA, hbi⟩ := hrel
        by_cases hlm : m < i
        · obtain ⟨g1', o1', cap1', he, hg', _, _, hq⟩ := (h.below hbi).at_ (List.getElem?_eq_getElem hlt)
          injection he with he1 he2 he3
          clear he2 he3
          injection he1 with he1
          injection he1 with he4 he5
          subst he4 he5
          obtain ⟨g1', o1', cap2', he, hg'', _, _, hq'⟩ := (h.below hbi).at_ (List.getElem?_eq_getElem (show m < l.length by omega))
          injection he with he1 he2 he6
          clear he2 he6
          injection he1 with he1
          injection he1 with he4 he5
          subst he4 he5
          have hmlt : m < l.length := by omega
          have z2 : g1 < wr.heap.size := Nat.lt_of_lt_of_le hg hbi.size
          have z0 : w.heap.size ≤ wr.heap.size := hbi.size
          have p0 : wr.cell? ⟨g1, o1 + i * 2, none⟩ = some (.int .i64 l[i].From) := hq 0 _ rfl
          have p1 : wr.cell? ⟨g1, o1 + i * 2 + 1, none⟩ = some (.int .i64 l[i].To) := hq 1 _ rfl
          have r0 : wr.cell? ⟨g1, o1 + m * 2, none⟩ = some (.int .i64 l[m].From) := hq' 0 _ rfl
          have r1 : wr.cell? ⟨g1, o1 + m * 2 + 1, none⟩ = some (.int .i64 l[m].To) := hq' 1 _ rfl
          clear hq hq' h
          by_cases ha : apartB l[i] l[m] = true
          · have HT := Hid.mk_ (any_take_ok l i m hlt hlm HA.out ha)
            have HX := Hid.mk_ ha
            clear ha
            go_wp2
            go_region_held3 (fun w' => w'.cell? ⟨g1, o1 + i * 2, none⟩ = some (.int .i64 l[i].From) ∧ w'.cell? ⟨g1, o1 + i * 2 + 1, none⟩ = some (.int .i64 l[i].To) ∧ w'.cell? ⟨g1, o1 + m * 2, none⟩ = some (.int .i64 l[m].From) ∧ w'.cell? ⟨g1, o1 + m * 2 + 1, none⟩ = some (.int .i64 l[m].To) ∧ g1 < w'.heap.size ∧ Below w.heap.size w w') (first | (go_keep; done) | ((try go_split_ands); refine ⟨?_, ?_, ?_, ?_, ?_, ?_⟩; all_goals first | assumption | exact Below.drew (by assumption) | (simp [go_sem, *]; done) | exact below_grow_of (by assumption) (by omega) _ _ | (rw [size_grow]; omega))) ((go_at_call 68; refine (Apart_spec l[i] l[m] _).mono ?_; rintro e w1 ⟨rfl, hb1⟩; obtain ⟨os1, d1, rfl⟩ := below_grows hb1; clear hb1))
            rw [HX.out]
            go_wp2
            go_roundw
            case rel => first | exact ⟨m + 1, by omega, by go_num, HT, by first | assumption | (go_split_ands; assumption)⟩ | ((repeat apply Exists.intro); exact ⟨⟨m + 1, by omega, by go_num, HT, by first | assumption | (go_split_ands; assumption)⟩, rfl⟩)
            case measure => simp [intOf]; omega
          · have ha' : apartB l[i] l[m] = false := by simpa using ha
            have HX := Hid.mk_ ha'
            have HS := Hid.mk_ (disj_false l i hlt (okAt_hit l i m hlt hlm ha'))
            clear ha ha'
            go_wp2
            go_region_held3 (fun w' => w'.cell? ⟨g1, o1 + i * 2, none⟩ = some (.int .i64 l[i].From) ∧ w'.cell? ⟨g1, o1 + i * 2 + 1, none⟩ = some (.int .i64 l[i].To) ∧ w'.cell? ⟨g1, o1 + m * 2, none⟩ = some (.int .i64 l[m].From) ∧ w'.cell? ⟨g1, o1 + m * 2 + 1, none⟩ = some (.int .i64 l[m].To) ∧ g1 < w'.heap.size ∧ Below w.heap.size w w') (first | (go_keep; done) | ((try go_split_ands); refine ⟨?_, ?_, ?_, ?_, ?_, ?_⟩; all_goals first | assumption | exact Below.drew (by assumption) | (simp [go_sem, *]; done) | exact below_grow_of (by assumption) (by omega) _ _ | (rw [size_grow]; omega))) ((go_at_call 68; refine (Apart_spec l[i] l[m] _).mono ?_; rintro e w1 ⟨rfl, hb1⟩; obtain ⟨os1, d1, rfl⟩ := below_grows hb1; clear hb1))
            rw [HX.out]
            go_wp2
            go_ret
            exact ⟨ret_bool HS.out.symm, by first | assumption | (go_split_ands; assumption)⟩
        · obtain rfl : m = i := by omega
          have HS := Hid.mk_ (show disjTo l (m + 1) = true from by
            rw [disj_step l m hlt, HD.out]
            simp only [okAt, HA.out]
            simp; omega)
          go_wp2
          go_roundw
          case rel => exact ⟨m + 1, by omega, by go_num, HS, hbi⟩
          case measure => simp [intOf]; omega
    · go_wp2
      go_ret
      obtain rfl : i = l.length := by omega
      exact ⟨ret_bool HD.out.symm, hb⟩

def idxOf {α : Type} (p : α → Bool) (l : List α) : Int := match l.findIdx? p with | some i => i | none => -1
theorem idxOf_hit {α : Type} (p : α → Bool) (l : List α) (i : Nat) (hi : i < l.length) (h : (l.take i).any p = false) (hp : p l[i] = true) : idxOf p l = i := by
  have hf : l.findIdx? p = some i := by
    rw [List.findIdx?_eq_some_iff_getElem]
    refine ⟨hi, hp, fun j hj => ?_⟩
    rw [List.any_eq_false] at h
    exact h l[j] (List.mem_take_iff_getElem.2 ⟨j, by omega, rfl⟩)
  unfold idxOf
  rw [hf]
theorem idxOf_none {α : Type} (p : α → Bool) (l : List α) (h : l.any p = false) : idxOf p l = -1 := by
  have hf : l.findIdx? p = none := by
    rw [List.findIdx?_eq_none_iff]
    intro x hx
    rw [List.any_eq_false] at h
    simpa using h x hx
  unfold idxOf
  rw [hf]
theorem any_take_succ {α : Type} (p : α → Bool) (l : List α) (i : Nat) (hi : i < l.length) (h : (l.take i).any p = false) (hp : p l[i] = false) : (l.take (i + 1)).any p = false := by
  rw [List.take_succ_eq_append_getElem hi, List.any_append, h]
  simp [hp]
theorem idxOf_ge {α : Type} (p : α → Bool) (l : List α) : decide (0 ≤ idxOf p l) = l.any p := by
  unfold idxOf
  cases h : l.findIdx? p with
  | none =>
    rw [List.findIdx?_eq_none_iff] at h
    have : l.any p = false := by
      rw [List.any_eq_false]
      intro x hx
      simp [h x hx]
    rw [this]
    rfl
  | some i =>
    rw [List.findIdx?_eq_some_iff_getElem] at h
    obtain ⟨hi, hp, _⟩ := h
    have : l.any p = true := List.any_eq_true.2 ⟨l[i], List.getElem_mem hi, hp⟩
    rw [this]
    simp

set_option maxHeartbeats 1000000 in
theorem IndexFuncSpan_ct (w : World) (v : Value) (l : List Span) (h : RdL FSpan w w.heap.size v l) (fid : FuncId) (cap : Array Value) (p : Span → Bool) (hent : ∀ (x : Span) (W : World), (callFunc fid (#[.agg #[.int .i64 x.From, .int .i64 x.To]] ++ cap)).run Try.prog W = .ok (.enter fid (#[.agg #[.int .i64 x.From, .int .i64 x.To]] ++ cap)) W)
    (hf : ∀ (x : Span) (W : World), x ∈ l → Below w.heap.size w W → Calls Try.prog fid (#[.agg #[.int .i64 x.From, .int .i64 x.To]] ++ cap) W fun e W' => e = .returned (.bool (p x)) ∧ Below W.heap.size W W') :
    Calls Try.prog 77 #[v, .func (.func fid) #[] cap] w fun e w' => e = .returned (.int .i64 (idxOf p l)) ∧ Below w.heap.size w w' := by
  obtain ⟨A, c, hv, q1, q2, _⟩ := id h
  have hlt0 : l.length ≤ 9223372036854775807 := by unfold maxLen at q2; omega
  subst hv
  have HF := Hid.mk_ hf
  clear hf q1 q2
  go_enter Try.func77, Try.ntmps77
  go_wp2
  go_loopw [5, 8] (fun _ i wr => ∃ i' : Nat, i' ≤ l.length ∧ i = .int .i64 i' ∧ Below w.heap.size w wr ∧ (l.take i').any p = false) (fun _ i _ => l.length - (intOf i).toNat)
  case atStart => exact ⟨0, Nat.zero_le _, rfl, Below.refl _ _, rfl⟩
  case round =>
    obtain ⟨i, hi, rfl, hb, hno⟩ := hrel
    have HN := Hid.mk_ hno
    clear hno
    by_cases hlt : i < l.length
    · obtain ⟨g, off, cap', he, hg, _, _, hc⟩ := (h.below hb).at_ (List.getElem?_eq_getElem hlt)
      injection he with he1 he2 he3
      clear he2
      subst he1 he3
      have p0 : wr.cell? ⟨g, off + i * 2, none⟩ = some (.int .i64 l[i].From) := hc 0 _ rfl
      have p1 : wr.cell? ⟨g, off + i * 2 + 1, none⟩ = some (.int .i64 l[i].To) := hc 1 _ rfl
      clear hc h
      go_wp2_with fail
      refine (HF.out l[i] wr (List.getElem_mem hlt) hb).mono ?_
      rintro e w1 ⟨rfl, hb1⟩
      have hb2 := hb.trans (hb1.mono hb.size)
      by_cases hp : p l[i] = true
      · have HP := Hid.mk_ (idxOf_hit p l i hlt HN.out hp)
        rw [hp]
        clear hp
        go_wp2
        go_ret
        exact ⟨ret_i64 HP.out.symm, hb2⟩
      · have hp' : p l[i] = false := by simpa using hp
        have HP := Hid.mk_ (any_take_succ p l i hlt HN.out hp')
        rw [hp']
        clear hp hp'
        go_wp2
        go_roundw
        case rel => exact ⟨i + 1, by omega, by go_num, hb2, HP.out⟩
        case measure => simp [intOf]; omega
    · go_wp2
      go_ret
      obtain rfl : i = l.length := by omega
      exact ⟨ret_i64 (idxOf_none p l (by simpa using HN.out)).symm, hb⟩
set_option maxHeartbeats 1000000 in
theorem ContainsFuncSpan_ct (w : World) (v : Value) (l : List Span) (h : RdL FSpan w w.heap.size v l) (fid : FuncId) (cap : Array Value) (p : Span → Bool) (hent : ∀ (x : Span) (W : World), (callFunc fid (#[.agg #[.int .i64 x.From, .int .i64 x.To]] ++ cap)).run Try.prog W = .ok (.enter fid (#[.agg #[.int .i64 x.From, .int .i64 x.To]] ++ cap)) W)
    (hf : ∀ (x : Span) (W : World), x ∈ l → Below w.heap.size w W → Calls Try.prog fid (#[.agg #[.int .i64 x.From, .int .i64 x.To]] ++ cap) W fun e W' => e = .returned (.bool (p x)) ∧ Below W.heap.size W W') :
    Calls Try.prog 70 #[v, .func (.func fid) #[] cap] w fun e w' => e = .returned (.bool (l.any p)) ∧ Below w.heap.size w w' := by
  have HF := Hid.mk_ hf
  clear hf
  go_enter Try.func70, Try.ntmps70
  go_wp2_with fail
  refine (IndexFuncSpan_ct w v l h fid cap p hent HF.out).mono ?_
  rintro e w1 ⟨rfl, hb1⟩
  have HP := Hid.mk_ (idxOf_ge p l)
  go_wp2
  go_ret
  exact ⟨ret_bool HP.out, hb1⟩

theorem RdL.take_ {α : Type} {T : FT α} {w : World} {B : Nat} {A : Option Addr} {n c : Nat} {l : List α} (h : RdL T w B (.slice A n c) l) (k : Nat) (hk : k ≤ l.length) : RdL T w B (.slice A k c) (l.take k) := by
  obtain ⟨A', cap, hv, h1, h2, h3⟩ := h
  injection hv with e1 e2 e3
  subst e1 e3
  refine ⟨A, c, by rw [List.length_take, Nat.min_eq_left hk], by rw [List.length_take]; omega, h2, fun hne => ?_⟩
  have hl : l ≠ [] := by rintro rfl; simp at hne
  obtain ⟨g, off, hA, hg, hc⟩ := h3 hl
  refine ⟨g, off, hA, hg, fun j u hu => hc j u ?_⟩
  have he : flat T l = flat T (l.take k) ++ flat T (l.drop k) := by rw [← flat_append, List.take_append_drop]
  rw [he, List.getElem?_append, if_pos (List.getElem?_eq_some_iff.1 hu).1]
  exact hu
set_option maxHeartbeats 1000000 in
theorem Disjoint1_impl (s o : Span) (b : Nat) (w : World) (h0 : w.cell? ⟨b, 0, none⟩ = some (.int .i64 s.From)) (h1 : w.cell? ⟨b, 1, none⟩ = some (.int .i64 s.To)) (hb : b < w.heap.size) :
    Calls Try.prog 71 #[.agg #[.int .i64 o.From, .int .i64 o.To], .pointer (some ⟨b, 0, none⟩)] w fun e w' => e = .returned (.bool (!apartB s o)) ∧ Below w.heap.size w w' := by
  go_enter Try.func71, Try.ntmps71
  go_wp2_with (go_at_call 72; refine (Apart_impl s o _).mono ?_; rintro e w1 ⟨rfl, hb1⟩; obtain ⟨os1, d1, rfl⟩ := below_grows hb1; clear hb1)
  go_ret
  exact ⟨rfl, by repeat (first | exact Below.refl _ _ | refine Below.alloc ?_ (by simp <;> omega) _ | refine below_grow_of ?_ (by simp <;> omega) _ _ | refine Below.drew ?_)⟩
set_option maxRecDepth 100000 in
set_option maxHeartbeats 2000000 in
theorem Disjoint_impl (w : World) (v : Value) (l : List Span) (h : RdL FSpan w w.heap.size v l) (hs : l.length ≤ 1073741824) :
    Calls Try.prog 53 #[v] w fun e w' => e = .returned (.bool (disjB l)) ∧ Below w.heap.size w w' := by
  obtain ⟨A, c, hv, _, _, _⟩ := id h
  subst hv
  go_enter Try.func53, Try.ntmps53
  go_wp2
  go_loopw [3, 4, 7] (fun _ _ i wr => ∃ k : Nat, k ≤ l.length ∧ i = .int .i64 k ∧ Hid (disjTo l k = true) ∧ Below w.heap.size w wr) (fun _ _ i _ => l.length - (intOf i).toNat)
  case atStart => exact ⟨0, Nat.zero_le _, rfl, rfl, Below.refl _ _⟩
  case round =>
    obtain ⟨i, hi, rfl, HD, hb⟩ := hrel
    by_cases hlt : i < l.length
    · obtain ⟨g1, o1, cap', he, hg, _, _, hc⟩ := (h.below hb).at_ (List.getElem?_eq_getElem hlt)
      injection he with he1 he2 he3
      clear he2
      subst he1 he3
      have z1 : g1 < wr.heap.size := Nat.lt_of_lt_of_le hg hb.size
      have p0 : wr.cell? ⟨g1, o1 + i * 2, none⟩ = some (.int .i64 l[i].From) := hc 0 _ rfl
      have p1 : wr.cell? ⟨g1, o1 + i * 2 + 1, none⟩ = some (.int .i64 l[i].To) := hc 1 _ rfl
      clear hc
      by_cases hf : l[i].From < 0
      · have HS := Hid.mk_ (disj_false l i hlt (by simp [okAt]; omega))
        go_wp2
        go_ret
        exact ⟨ret_bool HS.out.symm, hb.alloc hb.size _⟩
      by_cases ht : 384 < l[i].To
      · have HS := Hid.mk_ (disj_false l i hlt (by simp [okAt]; omega))
        go_wp2
        go_ret
        exact ⟨ret_bool HS.out.symm, hb.alloc hb.size _⟩
      by_cases ha : ((l.take i).any fun o => !apartB l[i] o) = true
      · have HA := Hid.mk_ ha
        have HS := Hid.mk_ (disj_false l i hlt (by simp only [okAt, ha]; simp))
        clear ha
        go_wp2_with (go_at_call 70; refine (ContainsFuncSpan_ct _ _ (l.take i) ((RdL.take_ (rd_up h hb) i hi).alloc_ (Nat.le_refl _) (by simp) _) 71 #[.pointer (some ⟨wr.heap.size, 0, none⟩)] (fun o => !apartB l[i] o) (fun _ _ => by kernel_rfl) (fun x W _ hW => Disjoint1_impl l[i] x wr.heap.size W ((hW.cell (p := ⟨wr.heap.size, 0, none⟩) (by simp)).trans (by simp)) ((hW.cell (p := ⟨wr.heap.size, 1, none⟩) (by simp)).trans (by simp)) (by have := hW.size; simp at this; omega))).mono ?_; rw [HA.out]; rintro e w1 ⟨rfl, hb1⟩)
        go_ret
        exact ⟨ret_bool HS.out.symm, (hb.alloc hb.size _).trans (hb1.mono (by have := hb.size; simp; omega))⟩
      · have ha' : ((l.take i).any fun o => !apartB l[i] o) = false := by simpa using ha
        have HA := Hid.mk_ ha'
        have HS := Hid.mk_ (show disjTo l (i + 1) = true from by
          rw [disj_step l i hlt, HD.out]
          simp only [okAt, ha']
          simp; omega)
        clear ha ha'
        go_wp2_with (go_at_call 70; refine (ContainsFuncSpan_ct _ _ (l.take i) ((RdL.take_ (rd_up h hb) i hi).alloc_ (Nat.le_refl _) (by simp) _) 71 #[.pointer (some ⟨wr.heap.size, 0, none⟩)] (fun o => !apartB l[i] o) (fun _ _ => by kernel_rfl) (fun x W _ hW => Disjoint1_impl l[i] x wr.heap.size W ((hW.cell (p := ⟨wr.heap.size, 0, none⟩) (by simp)).trans (by simp)) ((hW.cell (p := ⟨wr.heap.size, 1, none⟩) (by simp)).trans (by simp)) (by have := hW.size; simp at this; omega))).mono ?_; rw [HA.out]; rintro e w1 ⟨rfl, hb1⟩)
        go_roundw
        case rel => exact ⟨i + 1, by omega, by go_num, HS, (hb.alloc hb.size _).trans (hb1.mono (by have := hb.size; simp; omega))⟩
        case measure => simp [intOf]; omega
    · go_wp2
      go_ret
      obtain rfl : i = l.length := by omega
      exact ⟨ret_bool HD.out.symm, hb⟩

set_option maxHeartbeats 2000000 in
theorem toSpan_ct (a0 a1 : Int) (w : World) : Calls Try.prog 69 #[.agg #[.int .i64 a0, .int .i64 a1]] w fun e w' => e = .returned (.agg #[.int .i64 a0, .int .i64 a1]) ∧ Below w.heap.size w w' := by
  go_enter Try.func69, Try.ntmps69
  go_wp2
  refine bodyPost_ret (v := .agg #[.int .i64 a0, .int .i64 a1]) (by simp [results, Try.results69, go_sem]) rfl ⟨rfl, ?_⟩
  repeat (first | exact Below.refl _ _ | refine Below.alloc ?_ (by simp <;> omega) _ | refine below_grow_of ?_ (by simp <;> omega) _ _ | refine Below.drew ?_)

set_option maxHeartbeats 2000000 in
theorem eqSpan_ct (a0 a1 : Int) (w : World) : Calls Try.prog 73 #[.agg #[.int .i64 a0, .int .i64 a1], .agg #[.int .i64 a0, .int .i64 a1]] w fun e w' => e = .returned (.bool true) ∧ Below w.heap.size w w' := by
  go_enter Try.func73, Try.ntmps73
  go_wp2
  go_ret
  exact ⟨rfl, by repeat (first | exact Below.refl _ _ | refine Below.alloc ?_ (by simp <;> omega) _ | refine below_grow_of ?_ (by simp <;> omega) _ _ | refine Below.drew ?_)⟩

theorem Try.infoSpan : (Try.prog.info? 84).map (fun i => (i.zero, i.size, i.bytes)) = some (some (.agg #[.int .i64 0, .int .i64 0]), FSpan.n, 16) := by kernel_rfl
set_option maxHeartbeats 1000000 in
theorem toSpanS_ct (w : World) (v : Value) (l : List Span) (h : RdL FSpan w w.heap.size v l) (hs : l.length ≤ 1048576) :
    Calls Try.prog 52 #[v] w fun e w' => e = .returned (.slice (some ⟨w.heap.size, 0, none⟩) l.length l.length) ∧ OwL FSpan 84 w' (.slice (some ⟨w.heap.size, 0, none⟩) l.length l.length) l ∧ Below w.heap.size w w' := by
  have hmk := run_make_flat (P := Try.prog) FSpan 64 84 (.agg #[.int .i64 0, .int .i64 0]) 16 Try.underlying64 Try.infoSpan l.length (by omega) (by omega)
  obtain ⟨A, cap, hv, _⟩ := id h
  subst hv
  go_enter Try.func52, Try.ntmps52
  go_wp2
  clear hmk
  go_loopw [4] (fun i wr => ∃ k : Nat, k ≤ l.length ∧ i = .int .i64 k ∧ OwL FSpan 84 wr (.slice (some ⟨w.heap.size, 0, none⟩) l.length l.length) (l.take k ++ List.replicate (l.length - k) ⟨0, 0⟩) ∧ Below w.heap.size w wr) (fun i _ => l.length - (intOf i).toNat)
  case atStart => exact ⟨0, Nat.zero_le _, rfl, OwL.made FSpan #[.int .i64 0, .int .i64 0] rfl l.length (by simp [maxLen]; omega) w 84, (Below.refl _ _).alloc (Nat.le_refl _) _⟩
  case round =>
    obtain ⟨i, hk, rfl, ho, hb⟩ := hrel
    by_cases hlt : i < l.length
    · obtain ⟨g, off, cap', he, hg, _, _, hc⟩ := (h.below hb).at_ (List.getElem?_eq_getElem hlt)
      injection he with he1 he2 he3
      subst he1 he3
      have p0 : wr.cell? ⟨g, off + i * 2, none⟩ = some (.int .i64 l[i].From) := hc 0 _ rfl
      have p1 : wr.cell? ⟨g, off + i * 2 + 1, none⟩ = some (.int .i64 l[i].To) := hc 1 _ rfl
      have hx := upd_get l ⟨0, 0⟩ i hlt
      have hz : w.heap.size < wr.heap.size := (World.ownsRow.lt ho _ rfl).2
      have hf := ho.frozen_
      have c0 : wr.cell? ⟨w.heap.size, i * 2, none⟩ = some (.int .i64 0) := ho.cell_ (j := 0) hx (by decide)
      have c1 : wr.cell? ⟨w.heap.size, i * 2 + 1, none⟩ = some (.int .i64 0) := ho.cell_ (j := 1) hx (by decide)
      clear hc
      go_wp2_with (go_at_call 69; refine (toSpan_ct _ _ _).mono ?_; rintro e w1 ⟨rfl, hb1⟩; obtain ⟨os1, d1, rfl⟩ := below_grows hb1; clear hb1)
      clear hf c0 p0 c1 p1
      go_roundw
      case rel =>
        have s0 := ho.set_ (j := 0) (y := (⟨l[i].From, 0⟩ : Span)) (u := .int .i64 l[i].From) hx (by decide) rfl
        have s1 := s0.set_ (j := 1) (y := (⟨l[i].From, l[i].To⟩ : Span)) (u := .int .i64 l[i].To) (set_get (⟨l[i].From, 0⟩ : Span) hx) (by decide) rfl
        simp only [List.set_set] at s1
        have e := upd_step l ⟨0, 0⟩ i hlt
        refine ⟨i + 1, by omega, by go_num, ?_, ?_⟩
        · rw [← e]
          first | exact OwL.grow_ s1 _ _ | exact s1
        · first | exact below_grow_of (Below.setCell (Below.setCell (hb) (by simp) _) (by simp) _) (by simp; omega) _ _ | exact (Below.setCell (Below.setCell (hb) (by simp) _) (by simp) _)
      case measure => simp [intOf]; omega
    · go_wp2
      go_ret
      obtain rfl : i = l.length := by omega
      exact ⟨rfl, by simpa using ho, hb⟩

set_option maxHeartbeats 1000000 in
theorem eqSpanS_ct (w : World) (v1 v2 : Value) (l : List Span) (h1 : RdL FSpan w w.heap.size v1 l) (h2 : RdL FSpan w w.heap.size v2 l) (hs : l.length ≤ 1073741824) :
    Calls Try.prog 54 #[v1, v2] w fun e w' => e = .returned (.bool true) ∧ Below w.heap.size w w' := by
  obtain ⟨A1, c1, hv1, _⟩ := id h1
  obtain ⟨A2, c2, hv2, _⟩ := id h2
  subst hv1 hv2
  go_enter Try.func54, Try.ntmps54
  go_wp2
  go_loopw [5] (fun i wr => ∃ k : Nat, k ≤ l.length ∧ i = .int .i64 k ∧ Below w.heap.size w wr) (fun i _ => l.length - (intOf i).toNat)
  case atStart => exact ⟨0, Nat.zero_le _, rfl, Below.refl _ _⟩
  case round =>
    obtain ⟨i, hk, rfl, hb⟩ := hrel
    by_cases hlt : i < l.length
    · obtain ⟨g1, o1, cap1, e1, b1, _, _, q1⟩ := (h1.below hb).at_ (List.getElem?_eq_getElem hlt)
      obtain ⟨g2, o2, cap2, e2, b2, _, _, q2⟩ := (h2.below hb).at_ (List.getElem?_eq_getElem hlt)
      injection e1 with e11 _ e13
      injection e2 with e21 _ e23
      subst e11 e13 e21 e23
      have z1 : g1 < wr.heap.size := Nat.lt_of_lt_of_le b1 hb.size
      have z0 : w.heap.size ≤ wr.heap.size := hb.size
      have z2 : g2 < wr.heap.size := Nat.lt_of_lt_of_le b2 hb.size
      have p0 : wr.cell? ⟨g1, o1 + i * 2, none⟩ = some (.int .i64 l[i].From) := q1 0 _ rfl
      have p1 : wr.cell? ⟨g1, o1 + i * 2 + 1, none⟩ = some (.int .i64 l[i].To) := q1 1 _ rfl
      have r0 : wr.cell? ⟨g2, o2 + i * 2, none⟩ = some (.int .i64 l[i].From) := q2 0 _ rfl
      have r1 : wr.cell? ⟨g2, o2 + i * 2 + 1, none⟩ = some (.int .i64 l[i].To) := q2 1 _ rfl
      clear q1 q2
      go_wp2
      go_region_held3 (fun w' => w'.cell? ⟨g1, o1 + i * 2, none⟩ = some (.int .i64 l[i].From) ∧ w'.cell? ⟨g1, o1 + i * 2 + 1, none⟩ = some (.int .i64 l[i].To) ∧ w'.cell? ⟨g2, o2 + i * 2, none⟩ = some (.int .i64 l[i].From) ∧ w'.cell? ⟨g2, o2 + i * 2 + 1, none⟩ = some (.int .i64 l[i].To) ∧ g1 < w'.heap.size ∧ g2 < w'.heap.size ∧ Below w.heap.size w w') (first | (go_keep; done) | ((try go_split_ands); refine ⟨?_, ?_, ?_, ?_, ?_, ?_, ?_⟩; all_goals first | assumption | exact Below.drew (by assumption) | (simp [go_sem, *]; done) | exact below_grow_of (by assumption) (by omega) _ _ | (rw [size_grow]; omega))) ((go_at_call 73; refine (eqSpan_ct _ _ _).mono ?_; rintro e w1 ⟨rfl, hb1⟩; obtain ⟨os1, d1, rfl⟩ := below_grows hb1; clear hb1))
      go_wp2
      go_roundw
      case rel => exact ⟨i + 1, by omega, by go_num, by first | assumption | (try go_split_ands; assumption)⟩
      case measure => simp [intOf]; omega
    · go_wp2
      go_ret
      exact ⟨rfl, hb⟩

set_option maxHeartbeats 400000 in
theorem szSpanS_ct (w : World) (A : Option Addr) (n c : Nat) (k : Nat) (hn : n ≤ 9223372036854775807) (hk : k ≤ 1073741824) :
    Calls Try.prog 50 #[.slice A n c, .int .i64 k] w fun e w' => e = .returned (.int .i64 (leftOf k n)) ∧ Below w.heap.size w w' := by
  by_cases h : n ≤ k
  · go_enter Try.func50, Try.ntmps50
    go_wp2
    go_ret
    exact ⟨ret_i64 (leftOf_pos h).symm, by repeat (first | exact Below.refl _ _ | refine Below.alloc ?_ (by simp <;> omega) _ | refine below_grow_of ?_ (by simp <;> omega) _ _ | refine Below.drew ?_)⟩
  · go_enter Try.func50, Try.ntmps50
    go_wp2
    go_ret
    exact ⟨ret_i64 (leftOf_neg h).symm, by repeat (first | exact Below.refl _ _ | refine Below.alloc ?_ (by simp <;> omega) _ | refine below_grow_of ?_ (by simp <;> omega) _ _ | refine Below.drew ?_)⟩
end Go.Proofs.Ytcnnjcbcbpfcgaa
