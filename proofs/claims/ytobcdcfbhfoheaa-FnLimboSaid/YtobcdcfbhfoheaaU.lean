/-
  A row appended to limbo lists: the contracts.
-/
import Derived.Test.YtobcdcfbhfoheaaT
import Derived.Test.YtobcdcfbhfoheaaL
import Derived.Deep.QuietTactic
import Derived.BigQuiet
import Derived.Deep.LoopGhost
import Derived.Deep.RegionHeld3
import Derived.Test.YtobcdcfbhfoheaaN
import Derived.Test.YtobcdcfbhfoheaaA
import Derived.WalkSpells
import Derived.Laws.Cover3
import Derived.Test.YtobcdcfbhfoheaaR
namespace Go.Proofs.Ytobcdcfbhfoheaa
open Go.RowKit
theorem flatMap_set_same {svs : List SV} {i : Nat} {s s' : SV} (hi : svs[i]? = some s) (hf : foot1 s'.val = foot1 s.val) : ((svs.set i s').flatMap fun s => foot1 s.val) = svs.flatMap fun s => foot1 s.val := by
  induction svs generalizing i with
  | nil => simp at hi
  | cons x xs ih =>
    cases i with
    | zero =>
      simp only [List.getElem?_cons_zero, Option.some.injEq] at hi
      subst hi
      simp [hf]
    | succ i =>
      simp only [List.getElem?_cons_succ] at hi
      simp only [List.set_cons_succ, List.flatMap_cons, ih hi]

/-- A row has been appended to, or changed in place, and its head is stored anew. -/
theorem OwLL.app_row {α : Type} {T : FT α} {e E : TypeId} {w w' : World} {g n c : Nat} {svs : List SV} {ll : List (List α)} (h : OwLL T e E w (.slice (some ⟨g, 0, none⟩) n c) svs ll) {i : Nat} {s s' : SV} {l' : List α} (hi : svs[i]? = some s)
    (hl : OwL T e w' s'.val l') (hg : w.grownBy w' s.val.ownBlock) (hat : s'.val.ownBlock = s.val.ownBlock ∨ s'.val.ownBlock = some w.heap.size) :
    OwLL T e E (w'.setCell ⟨g, i, none⟩ s'.val) (.slice (some ⟨g, 0, none⟩) n c) (svs.set i s') (ll.set i l') := by
  have hs : s ∈ svs := List.mem_of_getElem? hi
  have hc := Chg.of_grown hg
  have hn := h.nodup
  have hlt := h.lt
  have hgz : g < w.heap.size := hlt g (mem_foot2.2 (.inl rfl))
  unfold foot2 at hn
  rw [List.nodup_append] at hn
  obtain ⟨hn1, hn2, hn3⟩ := hn
  have hgs : ∀ s' ∈ svs, s'.val.ownBlock ≠ some g := fun s' hs' he => hn3 g (mem_foot1.2 rfl) g (List.mem_flatMap.2 ⟨s', hs', mem_foot1.2 he⟩) rfl
  have hg' : s'.val.ownBlock ≠ some g := by
    rcases hat with h1 | h1
    · rw [h1]; exact hgs s hs
    · rw [h1]; intro he; injection he with he; omega
  have hkeep : ∀ b, b ≠ g → (w'.setCell ⟨g, i, none⟩ s'.val).heap[b]? = w'.heap[b]? := fun b hb => Below.heap_setCell _ _ _ _ hb
  have hik := (List.getElem?_eq_some_iff.1 hi).1
  refine ⟨by rw [List.length_set, List.length_set]; exact h.len, ?_, fun k s1 l1 hk hl1 => ?_, ?_⟩
  · have ho := h.outer.chg hc (fun b hb hm => hn3 b hb b (List.mem_flatMap.2 ⟨s, hs, hm⟩) rfl)
    have := ho.set_ (j := 0) (y := s') (u := .slice s'.a s'.len s'.cap) hi (by decide) rfl
    rw [show i * FS.n + 0 = i by simp [FS]] at this
    exact this
  · by_cases hki : i = k
    · subst hki
      rw [List.getElem?_set_self hik] at hk
      rw [List.getElem?_set_self (by rw [← h.len]; exact hik)] at hl1
      cases hk
      cases hl1
      exact hl.keep fun b hb => hkeep b fun e => hg' (by rw [hb, e])
    · rw [List.getElem?_set_ne hki] at hk hl1
      have ho := h.inner k s1 l1 hk hl1
      refine (ho.chg hc (fun b hb hm => nodup_rows hn2 hi hk hki (mem_foot1.1 hm) (mem_foot1.1 hb))).keep fun b hb => hkeep b fun e => hgs s1 (List.mem_of_getElem? hk) (by rw [hb, e])
  · have hfr : s'.val.ownBlock = some w.heap.size → ∀ b ∈ foot1 s'.val, b ∉ foot2 (.slice (some ⟨g, 0, none⟩) n c) svs := by
      intro h1 b hb hm
      rw [mem_foot1, h1] at hb
      injection hb with hb
      have := hlt b hm
      omega
    unfold foot2
    rw [List.nodup_append]
    rcases hat with h1 | h1
    · have hff : foot1 s'.val = foot1 s.val := by unfold foot1; rw [h1]
      rw [flatMap_set_same hi hff]
      exact ⟨hn1, hn2, hn3⟩
    · refine ⟨hn1, nodup_set hn2 (fun b hb hm => hfr h1 b hb (List.mem_append.2 (.inr hm))), fun a ha b hb e => ?_⟩
      subst e
      obtain ⟨y, hy, hm⟩ := List.mem_flatMap.1 hb
      rcases List.mem_or_eq_of_mem_set hy with hy | rfl
      · exact hn3 a ha a (List.mem_flatMap.2 ⟨y, hy, hm⟩) rfl
      · exact hfr h1 a hm (List.mem_append.2 (.inl ha))

theorem app_foot {svs : List SV} {v : Value} {i : Nat} {s s' : SV} {w : World} {B : Nat} (hi : svs[i]? = some s) (hat : s'.val.ownBlock = s.val.ownBlock ∨ s'.val.ownBlock = some w.heap.size) (hB : B ≤ w.heap.size) (h : ∀ b ∈ foot2 v svs, B ≤ b) : ∀ b ∈ foot2 v (svs.set i s'), B ≤ b := by
  intro b hb
  rcases foot2_set hb with hb | hb
  · exact h b hb
  · rw [mem_foot1] at hb
    rcases hat with h1 | h1
    · exact h b (mem_foot2.2 (.inr ⟨s, List.mem_of_getElem? hi, by rw [← h1]; exact hb⟩))
    · rw [h1] at hb
      injection hb with hb
      omega
theorem szLL_set_le {α : Type} (ll : List (List α)) (i : Nat) (l : List α) : szLL (ll.set i l) ≤ szLL ll + l.length := by
  have : ∀ (ll : List (List α)) i, ((ll.set i l).map List.length).sum ≤ (ll.map List.length).sum + l.length := by
    intro ll
    induction ll with
    | nil => intro i; simp
    | cons x xs ih =>
      intro i
      cases i with
      | zero => simp; omega
      | succ i => have := ih i; simp at this ⊢; omega
  have := this ll i
  unfold szLL
  simp only [List.length_set]
  omega

def retired (ll : List (List LRow)) (k : Nat) (h e : Int) : List (List LRow) := ll.set k (ll.getD k [] ++ [⟨h, e⟩])
def retireL (ll : List (List LRow)) (wk h e : Int) : List (List LRow) × Bool :=
  if limboOkB ll = true ∧ inB 0 2 wk = true ∧ limboOkB (retired ll wk.toNat h e) = true then (retired ll wk.toNat h e, true) else (ll, false)
theorem retire_no1 {ll : List (List LRow)} {wk h e : Int} (c : limboOkB ll = false) : retireL ll wk h e = (ll, false) := if_neg (fun hh => by rw [c] at hh; exact absurd hh.1 (by decide))
theorem retire_no2 {ll : List (List LRow)} {wk h e : Int} (c : inB 0 2 wk = false) : retireL ll wk h e = (ll, false) := if_neg (fun hh => by rw [c] at hh; exact absurd hh.2.1 (by decide))
theorem retire_no3 {ll : List (List LRow)} {wk h e : Int} (c : limboOkB (retired ll wk.toNat h e) = false) : retireL ll wk h e = (ll, false) := if_neg (fun hh => by rw [c] at hh; exact absurd hh.2.2 (by decide))
theorem OwLL.at_form {α : Type} {T : FT α} {e E : TypeId} {w : World} {v : Value} {svs : List SV} {ll : List (List α)} (h : OwLL T e E w v svs ll) (hl : 0 < ll.length) : ∃ g cap, v = .slice (some ⟨g, 0, none⟩) ll.length cap ∧ g < w.heap.size := by
  have := h.outer.form_pos (by rw [h.len]; exact hl)
  rwa [h.len] at this

theorem cell_old (w : World) (o : Obj) (g i : Nat) (hg : g < w.heap.size) : (w.alloc o).cell? ⟨g, i, none⟩ = w.cell? ⟨g, i, none⟩ := by
  simp [World.cell?, Below.heap_alloc w o g hg]
theorem cell_old_frozen (w : World) (o : Obj) (g i : Nat) (hg : g < w.heap.size) : (w.alloc o).frozen? ⟨g, i, none⟩ = w.frozen? ⟨g, i, none⟩ := by
  simp [World.frozen?, Below.heap_alloc w o g hg]
theorem OwLL.head_ne {α : Type} {T : FT α} {e E : TypeId} {w : World} {g n c : Nat} {svs : List SV} {ll : List (List α)} (h : OwLL T e E w (.slice (some ⟨g, 0, none⟩) n c) svs ll) {i : Nat} {s : SV} (hi : svs[i]? = some s) : g ∉ foot1 s.val := by
  have hn := h.nodup
  unfold foot2 at hn
  rw [List.nodup_append] at hn
  exact fun hm => hn.2.2 g (mem_foot1.2 rfl) g (List.mem_flatMap.2 ⟨s, List.mem_of_getElem? hi, hm⟩) rfl
theorem retire_yes {ll : List (List LRow)} {k : Nat} {h e : Int} (c1 : limboOkB ll = true) (c2 : inB 0 2 (k : Int) = true) (c3 : limboOkB (retired ll k h e) = true) : retireL ll (k : Int) h e = (retired ll k h e, true) := by
  unfold retireL
  rw [Int.toNat_natCast]
  exact if_pos ⟨c1, c2, c3⟩

set_option maxRecDepth 100000 in
set_option maxHeartbeats 2000000 in
theorem RetireTo_impl (w : World) (v : Value) (t : List SV) (ll : List (List LRow)) (wk h0 e0 : Int) (h : RdLL FLRow w w.heap.size v t ll) (hs : szLL ll ≤ 1048576) :
    Calls Try.prog 46 #[v, .int .i64 wk, .int .i64 h0, .int .i64 e0] w fun e w' => ∃ v' t', e = .returned (.tuple #[v', .bool (retireL ll wk h0 e0).2]) ∧ OwLL FLRow 75 60 w' v' t' (retireL ll wk h0 e0).1 ∧ (∀ g ∈ foot2 v' t', w.heap.size ≤ g) ∧ Below w.heap.size w w' := by
  by_cases c1 : limboOkB ll = true
  case neg =>
    have c1' : limboOkB ll = false := (Bool.not_eq_true _).mp c1
    have HN := Hid.mk_ (retire_no1 (wk := wk) (h := h0) (e := e0) c1')
    clear c1
    go_enter Try.func46, Try.ntmps46
    go_wp2_with fail
    refine (LimboOk_impl _ _ t ll h (by omega)).mono ?_
    rintro e w1 ⟨rfl, hb1⟩
    go_wp2_with fail
    refine (copyLimbo_impl _ _ t ll (rdLL_up h hb1) (by omega)).mono ?_
    rintro e w2 ⟨v', t', rfl, ho, hfo, hb2⟩
    go_wp2_with fail
    go_ret2
    exact ⟨v', t', ret_pair (by rw [HN.out]), by rw [HN.out]; exact ho, fun g hg => Nat.le_trans hb1.size (hfo g hg), hb1.trans (hb2.mono hb1.size)⟩
  by_cases c2 : inB 0 2 wk = true
  case neg =>
    have c2' : inB 0 2 wk = false := (Bool.not_eq_true _).mp c2
    have HN := Hid.mk_ (retire_no2 (ll := ll) (h := h0) (e := e0) c2')
    clear c2
    go_enter Try.func46, Try.ntmps46
    go_wp2_with fail
    refine (LimboOk_impl _ _ t ll h (by omega)).mono ?_
    rintro e w1 ⟨rfl, hb1⟩
    go_wp2_with fail
    refine (isWorker_ct _ _).mono ?_
    rintro e w1' ⟨rfl, rfl⟩
    go_wp2_with fail
    refine (copyLimbo_impl _ _ t ll (rdLL_up h hb1) (by omega)).mono ?_
    rintro e w2 ⟨v', t', rfl, ho, hfo, hb2⟩
    go_wp2_with fail
    go_ret2
    exact ⟨v', t', ret_pair (by rw [HN.out]), by rw [HN.out]; exact ho, fun g hg => Nat.le_trans hb1.size (hfo g hg), hb1.trans (hb2.mono hb1.size)⟩
  obtain ⟨k0, rfl⟩ := Int.eq_ofNat_of_zero_le (inB_iff.1 c2).1
  have hk0 : k0 < ll.length := by rw [limboOk_len c1]; have := (inB_iff.1 c2).2; omega
  have hl0 : ll[k0].length ≤ 1048576 := Nat.le_trans (le_szLL (List.getElem_mem hk0)) hs
  have H3 : Hid (ll.length = 3) := limboOk_len c1
  have HR := Hid.mk_ (show retired ll k0 h0 e0 = ll.set k0 (ll[k0] ++ [⟨h0, e0⟩]) by unfold retired; rw [List.getD, List.getElem?_eq_getElem hk0]; rfl)
  have hsz := szLL_set_le ll k0 (ll[k0] ++ [(⟨h0, e0⟩ : LRow)])
  have HY := Hid.mk_ (fun c3 => retire_yes (ll := ll) (k := k0) (h := h0) (e := e0) c1 c2 c3)
  have HN := Hid.mk_ (fun c3 => retire_no3 (ll := ll) (wk := (k0 : Int)) (h := h0) (e := e0) c3)
  rw [Int.toNat_natCast] at HN
  have HI := Hid.mk_ (List.getElem?_eq_getElem hk0)
  generalize ll[k0] = l at hl0 HR hsz HI
  simp only [List.length_append, List.length_singleton] at hsz
  generalize retired ll k0 h0 e0 = rt at HR HY HN
  go_enter Try.func46, Try.ntmps46
  go_wp2_with fail
  refine (LimboOk_impl _ _ t ll h (by omega)).mono ?_
  rintro e w1 ⟨rfl, hb1⟩
  go_wp2_with fail
  refine (isWorker_ct _ _).mono ?_
  rintro e w1' ⟨rfl, rfl⟩
  go_wp2_with fail
  refine (copyLimbo_impl _ _ t ll (rdLL_up h hb1) (by omega)).mono ?_
  rintro e w2 ⟨v', t', rfl, ho, hfo, hb2⟩
  obtain ⟨g, cap, rfl, hg⟩ := ho.at_form (by rw [H3.out]; decide)
  obtain ⟨s, hsv⟩ : ∃ s, t'[k0]? = some s := ⟨_, List.getElem?_eq_getElem (by rw [ho.len]; exact hk0)⟩
  have hin := ho.inner k0 s _ hsv HI.out
  have p0 : w2.cell? ⟨g, k0, none⟩ = some (.slice s.a s.len s.cap) := by simpa [FS] using ho.outer.cell_ (j := 0) hsv (by decide)
  have f0 := ho.outer.frozen_ k0
  have HV := Hid.mk_ hsv
  clear hsv
  go_wp2_with (at_builtin; refine wpList_append_flat Try.stLRow rfl _ _ rfl (v := s.val) (y := .slice (some ⟨w2.heap.size, 0, none⟩) 1 1) (l := l) (m := [⟨h0, e0⟩]) rfl rfl (hin.alloc_ _) (OwL.lit FLRow [⟨h0, e0⟩] #[.int .i64 h0, .int .i64 e0] rfl (by simp [maxLen]) w2 75).rd' (by simp; omega) ?_; intro v4 w4 ho4 hg4 hat4; obtain ⟨A4, c4, hv4, _⟩ := ho4.rd'; simp only [List.length_append, List.length_singleton] at hv4; subst hv4; have hf4 := ((Chg.of_grown hg4).frozen g k0 (by simp; omega) (ho.head_ne HV.out)).trans ((cell_old_frozen w2 _ g k0 hg).trans f0); have hp4 := ((Chg.of_grown hg4).cell g k0 (by simp; omega) (ho.head_ne HV.out)).trans ((cell_old w2 _ g k0 hg).trans p0))
  have hN := OwLL.app_row (s' := ⟨A4, l.length + 1, c4⟩) (ho.alloc_ _) HV.out ho4 hg4 hat4
  have hfN := app_foot (B := w1.heap.size) (s' := ⟨A4, l.length + 1, c4⟩) HV.out hat4 (by simp; have := hb2.size; omega) hfo
  have hbN : Below w1.heap.size w1 (w4.setCell ⟨g, k0, none⟩ (.slice A4 (l.length + 1) c4)) := ((hb2.alloc hb2.size _).grown hg4 (by simp; have := hb2.size; omega) (fun b hb => hfo b (mem_foot2.2 (.inr ⟨s, List.mem_of_getElem? HV.out, hb⟩)))).setCell (hfo g (mem_foot2.2 (.inl rfl))) _
  rw [← HR.out] at hN
  clear hp4 hf4 p0 f0 hin hat4 hg4 ho4
  by_cases c3 : limboOkB rt = true
  · refine (LimboOk_impl _ _ _ rt hN.rd' (by rw [HR.out]; omega)).mono ?_
    rw [c3]
    rintro e w5 ⟨rfl, hb5⟩
    go_wp2_with fail
    go_ret2
    exact ⟨_, _, ret_pair (by rw [HY.out c3]), by rw [HY.out c3]; exact hN.keep (fun b hb => hb5.block b (hN.lt b hb)), fun b hb => Nat.le_trans hb1.size (hfN b hb), hb1.trans ((hbN.trans (hb5.mono hbN.size)).mono hb1.size)⟩
  · have c3' : limboOkB rt = false := (Bool.not_eq_true _).mp c3
    refine (LimboOk_impl _ _ _ rt hN.rd' (by rw [HR.out]; omega)).mono ?_
    rw [c3']
    rintro e w5 ⟨rfl, hb5⟩
    have hB5 : Below w.heap.size w w5 := hb1.trans ((hbN.trans (hb5.mono hbN.size)).mono hb1.size)
    go_wp2_with fail
    refine (copyLimbo_impl _ _ t ll (rdLL_up h hB5) (by omega)).mono ?_
    rintro e w6 ⟨v6, t6, rfl, ho6, hfo6, hb6⟩
    go_wp2_with fail
    go_ret2
    exact ⟨v6, t6, ret_pair (by rw [HN.out c3']), by rw [HN.out c3']; exact ho6, fun b hb => Nat.le_trans hB5.size (hfo6 b hb), hB5.trans (hb6.mono hB5.size)⟩

set_option maxRecDepth 100000 in
set_option maxHeartbeats 2000000 in
theorem RetireTo_spec (w : World) (v : Value) (t : List SV) (ll : List (List LRow)) (wk h0 e0 : Int) (h : RdLL FLRow w w.heap.size v t ll) (hs : szLL ll ≤ 1048576) :
    Calls Try.prog 45 #[v, .int .i64 wk, .int .i64 h0, .int .i64 e0] w fun e w' => ∃ v' t', e = .returned (.tuple #[v', .bool (retireL ll wk h0 e0).2]) ∧ OwLL FLRow 75 60 w' v' t' (retireL ll wk h0 e0).1 ∧ (∀ g ∈ foot2 v' t', w.heap.size ≤ g) ∧ Below w.heap.size w w' := by
  by_cases c1 : limboOkB ll = true
  case neg =>
    have c1' : limboOkB ll = false := (Bool.not_eq_true _).mp c1
    have HN := Hid.mk_ (retire_no1 (wk := wk) (h := h0) (e := e0) c1')
    clear c1
    go_enter Try.func45, Try.ntmps45
    go_wp2_with fail
    refine (copyLimbo_spec _ _ t ll h (by omega)).mono ?_
    rintro e w2 ⟨v', t', rfl, ho, hfo, hb2⟩
    go_wp2_with fail
    refine (LimboOk_spec _ _ t ll (rdLL_up h hb2) (by omega)).mono ?_
    rintro e w1 ⟨rfl, hb1⟩
    go_wp2_with fail
    go_ret2
    exact ⟨v', t', ret_pair (by rw [HN.out]), by rw [HN.out]; exact ho.keep (fun b hb => hb1.block b (ho.lt b hb)), hfo, hb2.trans (hb1.mono hb2.size)⟩
  by_cases c2 : inB 0 2 wk = true
  case neg =>
    have c2' : inB 0 2 wk = false := (Bool.not_eq_true _).mp c2
    have HN := Hid.mk_ (retire_no2 (ll := ll) (h := h0) (e := e0) c2')
    clear c2
    go_enter Try.func45, Try.ntmps45
    go_wp2_with fail
    refine (copyLimbo_spec _ _ t ll h (by omega)).mono ?_
    rintro e w2 ⟨v', t', rfl, ho, hfo, hb2⟩
    go_wp2_with fail
    refine (LimboOk_spec _ _ t ll (rdLL_up h hb2) (by omega)).mono ?_
    rintro e w1 ⟨rfl, hb1⟩
    go_wp2_with fail
    refine (l1In_ct _ _ _ _).mono ?_
    rintro e w1' ⟨rfl, rfl⟩
    go_wp2_with fail
    go_ret2
    exact ⟨v', t', ret_pair (by rw [HN.out]), by rw [HN.out]; exact ho.keep (fun b hb => hb1.block b (ho.lt b hb)), hfo, hb2.trans (hb1.mono hb2.size)⟩
  obtain ⟨k0, rfl⟩ := Int.eq_ofNat_of_zero_le (inB_iff.1 c2).1
  have hk0 : k0 < ll.length := by rw [limboOk_len c1]; have := (inB_iff.1 c2).2; omega
  have hl0 : ll[k0].length ≤ 1048576 := Nat.le_trans (le_szLL (List.getElem_mem hk0)) hs
  have H3 : Hid (ll.length = 3) := limboOk_len c1
  have HR := Hid.mk_ (show retired ll k0 h0 e0 = ll.set k0 (ll[k0] ++ [⟨h0, e0⟩]) by unfold retired; rw [List.getD, List.getElem?_eq_getElem hk0]; rfl)
  have hsz := szLL_set_le ll k0 (ll[k0] ++ [(⟨h0, e0⟩ : LRow)])
  have HY := Hid.mk_ (fun c3 => retire_yes (ll := ll) (k := k0) (h := h0) (e := e0) c1 c2 c3)
  have HN := Hid.mk_ (fun c3 => retire_no3 (ll := ll) (wk := (k0 : Int)) (h := h0) (e := e0) c3)
  rw [Int.toNat_natCast] at HN
  have HI := Hid.mk_ (List.getElem?_eq_getElem hk0)
  generalize ll[k0] = l at hl0 HR hsz HI
  simp only [List.length_append, List.length_singleton] at hsz
  generalize retired ll k0 h0 e0 = rt at HR HY HN
  go_enter Try.func45, Try.ntmps45
  go_wp2_with fail
  refine (copyLimbo_spec _ _ t ll h (by omega)).mono ?_
  rintro e wx ⟨v', t', rfl, ho, hfo, hb2⟩
  go_wp2_with fail
  refine (LimboOk_spec _ _ t ll (rdLL_up h hb2) (by omega)).mono ?_
  rintro e w2 ⟨rfl, hb1⟩
  replace ho := ho.keep (fun b hb => hb1.block b (ho.lt b hb))
  replace hb2 := hb2.trans (hb1.mono hb2.size)
  clear hb1
  go_wp2_with fail
  refine (l1In_ct _ _ _ _).mono ?_
  rintro e w1' ⟨rfl, rfl⟩
  obtain ⟨g, cap, rfl, hg⟩ := ho.at_form (by rw [H3.out]; decide)
  obtain ⟨s, hsv⟩ : ∃ s, t'[k0]? = some s := ⟨_, List.getElem?_eq_getElem (by rw [ho.len]; exact hk0)⟩
  have hin := ho.inner k0 s _ hsv HI.out
  have p0 : w2.cell? ⟨g, k0, none⟩ = some (.slice s.a s.len s.cap) := by simpa [FS] using ho.outer.cell_ (j := 0) hsv (by decide)
  have f0 := ho.outer.frozen_ k0
  have HV := Hid.mk_ hsv
  clear hsv
  go_wp2_with (at_builtin; refine wpList_append_flat Try.stLRow rfl _ _ rfl (v := s.val) (y := .slice (some ⟨w2.heap.size, 0, none⟩) 1 1) (l := l) (m := [⟨h0, e0⟩]) rfl rfl (hin.alloc_ _) (OwL.lit FLRow [⟨h0, e0⟩] #[.int .i64 h0, .int .i64 e0] rfl (by simp [maxLen]) w2 75).rd' (by simp; omega) ?_; intro v4 w4 ho4 hg4 hat4; obtain ⟨A4, c4, hv4, _⟩ := ho4.rd'; simp only [List.length_append, List.length_singleton] at hv4; subst hv4; have hf4 := ((Chg.of_grown hg4).frozen g k0 (by simp; omega) (ho.head_ne HV.out)).trans ((cell_old_frozen w2 _ g k0 hg).trans f0); have hp4 := ((Chg.of_grown hg4).cell g k0 (by simp; omega) (ho.head_ne HV.out)).trans ((cell_old w2 _ g k0 hg).trans p0))
  have hN := OwLL.app_row (s' := ⟨A4, l.length + 1, c4⟩) (ho.alloc_ _) HV.out ho4 hg4 hat4
  have hfN := app_foot (B := w.heap.size) (s' := ⟨A4, l.length + 1, c4⟩) HV.out hat4 (by simp; have := hb2.size; omega) hfo
  have hbN : Below w.heap.size w (w4.setCell ⟨g, k0, none⟩ (.slice A4 (l.length + 1) c4)) := ((hb2.alloc hb2.size _).grown hg4 (by simp; have := hb2.size; omega) (fun b hb => hfo b (mem_foot2.2 (.inr ⟨s, List.mem_of_getElem? HV.out, hb⟩)))).setCell (hfo g (mem_foot2.2 (.inl rfl))) _
  rw [← HR.out] at hN
  clear hp4 hf4 p0 f0 hin hat4 hg4 ho4
  by_cases c3 : limboOkB rt = true
  · refine (LimboOk_spec _ _ _ rt hN.rd' (by rw [HR.out]; omega)).mono ?_
    rw [c3]
    rintro e w5 ⟨rfl, hb5⟩
    go_wp2_with fail
    go_ret2
    exact ⟨_, _, ret_pair (by rw [HY.out c3]), by rw [HY.out c3]; exact hN.keep (fun b hb => hb5.block b (hN.lt b hb)), fun b hb => hfN b hb, hbN.trans (hb5.mono hbN.size)⟩
  · have c3' : limboOkB rt = false := (Bool.not_eq_true _).mp c3
    refine (LimboOk_spec _ _ _ rt hN.rd' (by rw [HR.out]; omega)).mono ?_
    rw [c3']
    rintro e w5 ⟨rfl, hb5⟩
    have hB5 : Below w.heap.size w w5 := hbN.trans (hb5.mono hbN.size)
    go_wp2_with fail
    refine (copyLimbo_spec _ _ t ll (rdLL_up h hB5) (by omega)).mono ?_
    rintro e w6 ⟨v6, t6, rfl, ho6, hfo6, hb6⟩
    go_wp2_with fail
    go_ret2
    exact ⟨v6, t6, ret_pair (by rw [HN.out c3']), by rw [HN.out c3']; exact ho6, fun b hb => Nat.le_trans hB5.size (hfo6 b hb), hB5.trans (hb6.mono hB5.size)⟩
end Go.Proofs.Ytobcdcfbhfoheaa
