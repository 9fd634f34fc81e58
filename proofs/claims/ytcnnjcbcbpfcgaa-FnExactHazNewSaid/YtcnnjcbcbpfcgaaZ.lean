/-
  Hazard pointers: the contracts of HandleOk, isLink, HazOk and HazAt.
-/
import Derived.Test.YtcnnjcbcbpfcgaaT
import Derived.Test.YtcnnjcbcbpfcgaaL
import Derived.Deep.QuietTactic
import Derived.BigQuiet
import Derived.Deep.LoopGhost
import Derived.Deep.RegionHeld3
import Derived.Test.YtcnnjcbcbpfcgaaN
import Derived.Test.YtcnnjcbcbpfcgaaA
import Derived.WalkSpells
import Derived.Laws.Cover3
import Derived.Test.YtcnnjcbcbpfcgaaI
namespace Go.Proofs.Ytcnnjcbcbpfcgaa
open Go.RowKit

theorem Try.stInt : ST Try.prog FI 30 3 := ⟨Try.underlying30, .int .i64 0, 8, by kernel_rfl, rfl, by decide⟩

def idxOf {α : Type} (p : α → Bool) (l : List α) : Int := match l.findIdx? p with | some i => i | none => -1
theorem idxOf_hit {α : Type} (p : α → Bool) (l : List α) (i : Nat) (hi : i < l.length) (h : (l.take i).any p = false) (hp : p l[i] = true) : idxOf p l = i := by
  have hf : l.findIdx? p = some i := by
    rw [List.findIdx?_eq_some_iff_getElem]
    refine ⟨hi, hp, fun j hj => ?_⟩
    rw [List.any_eq_false] at h
    exact h l[j] (List.mem_take_iff_getElem.2 ⟨j, by omega, rfl⟩)
  unfold idxOf
  rw [hf]
theorem idxOf_none {α : Type} (p : α → Bool) (l : List α) (h : l.any p = false) : idxOf p l = -1 := by
  have hf : l.findIdx? p = none := by
    rw [List.findIdx?_eq_none_iff]
    intro x hx
    rw [List.any_eq_false] at h
    simpa using h x hx
  unfold idxOf
  rw [hf]
theorem any_take_succ {α : Type} (p : α → Bool) (l : List α) (i : Nat) (hi : i < l.length) (h : (l.take i).any p = false) (hp : p l[i] = false) : (l.take (i + 1)).any p = false := by
  rw [List.take_succ_eq_append_getElem hi, List.any_append, h]
  simp [hp]
theorem idxOf_ge {α : Type} (p : α → Bool) (l : List α) : decide (0 ≤ idxOf p l) = l.any p := by
  unfold idxOf
  cases h : l.findIdx? p with
  | none =>
    rw [List.findIdx?_eq_none_iff] at h
    have : l.any p = false := by
      rw [List.any_eq_false]
      intro x hx
      simp [h x hx]
    rw [this]
    rfl
  | some i =>
    rw [List.findIdx?_eq_some_iff_getElem] at h
    obtain ⟨hi, hp, _⟩ := h
    have : l.any p = true := List.any_eq_true.2 ⟨l[i], List.getElem_mem hi, hp⟩
    rw [this]
    simp

set_option maxHeartbeats 1000000 in
theorem IndexFuncInt_ct (w : World) (v : Value) (l : List Int) (h : RdL FI w w.heap.size v l) (fid : FuncId) (cap : Array Value) (p : Int → Bool) (hent : ∀ (x : Int) (W : World), (callFunc fid (#[.int .i64 x] ++ cap)).run Try.prog W = .ok (.enter fid (#[.int .i64 x] ++ cap)) W)
    (hf : ∀ (x : Int) (W : World), x ∈ l → Below w.heap.size w W → Calls Try.prog fid (#[.int .i64 x] ++ cap) W fun e W' => e = .returned (.bool (p x)) ∧ Below W.heap.size W W') :
    Calls Try.prog 74 #[v, .func (.func fid) #[] cap] w fun e w' => e = .returned (.int .i64 (idxOf p l)) ∧ Below w.heap.size w w' := by
  obtain ⟨A, c, hv, q1, q2, _⟩ := id h
  have hlt0 : l.length ≤ 9223372036854775807 := by unfold maxLen at q2; omega
  subst hv
  have HF := Hid.mk_ hf
  clear hf q1 q2
  go_enter Try.func74, Try.ntmps74
  go_wp2
  go_loopw [5, 8] (fun _ i wr => ∃ i' : Nat, i' ≤ l.length ∧ i = .int .i64 i' ∧ Below w.heap.size w wr ∧ (l.take i').any p = false) (fun _ i _ => l.length - (intOf i).toNat)
  case atStart => exact ⟨0, Nat.zero_le _, rfl, Below.refl _ _, rfl⟩
  case round =>
    obtain ⟨i, hi, rfl, hb, hno⟩ := hrel
    have HN := Hid.mk_ hno
    clear hno
    by_cases hlt : i < l.length
    · obtain ⟨g, off, cap', he, hg, _, _, hc⟩ := (h.below hb).at_ (List.getElem?_eq_getElem hlt)
      injection he with he1 he2 he3
      clear he2
      subst he1 he3
      have p0 : wr.cell? ⟨g, off + i, none⟩ = some (.int .i64 l[i]) := by simpa [FI] using hc 0 _ rfl
      clear hc h
      go_wp2_with fail
      refine (HF.out l[i] wr (List.getElem_mem hlt) hb).mono ?_
      rintro e w1 ⟨rfl, hb1⟩
      have hb2 := hb.trans (hb1.mono hb.size)
      by_cases hp : p l[i] = true
      · have HP := Hid.mk_ (idxOf_hit p l i hlt HN.out hp)
        rw [hp]
        clear hp
        go_wp2
        go_ret
        exact ⟨ret_i64 HP.out.symm, hb2⟩
      · have hp' : p l[i] = false := by simpa using hp
        have HP := Hid.mk_ (any_take_succ p l i hlt HN.out hp')
        rw [hp']
        clear hp hp'
        go_wp2
        go_roundw
        case rel => exact ⟨i + 1, by omega, by go_num, hb2, HP.out⟩
        case measure => simp [intOf]; omega
    · go_wp2
      go_ret
      obtain rfl : i = l.length := by omega
      exact ⟨ret_i64 (idxOf_none p l (by simpa using HN.out)).symm, hb⟩
set_option maxHeartbeats 1000000 in
theorem ContainsFuncInt_ct (w : World) (v : Value) (l : List Int) (h : RdL FI w w.heap.size v l) (fid : FuncId) (cap : Array Value) (p : Int → Bool) (hent : ∀ (x : Int) (W : World), (callFunc fid (#[.int .i64 x] ++ cap)).run Try.prog W = .ok (.enter fid (#[.int .i64 x] ++ cap)) W)
    (hf : ∀ (x : Int) (W : World), x ∈ l → Below w.heap.size w W → Calls Try.prog fid (#[.int .i64 x] ++ cap) W fun e W' => e = .returned (.bool (p x)) ∧ Below W.heap.size W W') :
    Calls Try.prog 59 #[v, .func (.func fid) #[] cap] w fun e w' => e = .returned (.bool (l.any p)) ∧ Below w.heap.size w w' := by
  have HF := Hid.mk_ hf
  clear hf
  go_enter Try.func59, Try.ntmps59
  go_wp2_with fail
  refine (IndexFuncInt_ct w v l h fid cap p hent HF.out).mono ?_
  rintro e w1 ⟨rfl, hb1⟩
  have HP := Hid.mk_ (idxOf_ge p l)
  go_wp2
  go_ret
  exact ⟨ret_bool HP.out, hb1⟩

def handleOkB (h : Int) : Bool := decide (32 ≤ h) && decide (h ≤ 223) && decide (h % 32 < 24)
def linkB (h : Int) : Bool := (h == 0) || handleOkB h

set_option maxHeartbeats 400000 in
theorem HandleOk_spec (h : Int) (w : World) : Calls Try.prog 58 #[.int .i64 h] w fun e w' => e = .returned (.bool (handleOkB h)) ∧ w' = w := by
  by_cases h1 : 32 ≤ h
  · by_cases h2 : h ≤ 223
    · go_enter Try.func58, Try.ntmps58
      go_wp2
      go_ret
      exact ⟨ret_bool (by simp [handleOkB, h1, h2]), rfl⟩
    · go_enter Try.func58, Try.ntmps58
      go_wp2
      go_ret
      exact ⟨ret_bool (by simp [handleOkB]; omega), rfl⟩
  · go_enter Try.func58, Try.ntmps58
    go_wp2
    go_ret
    exact ⟨ret_bool (by simp [handleOkB]; omega), rfl⟩

set_option maxHeartbeats 400000 in
theorem HandleOk_impl (h : Int) (w : World) : Calls Try.prog 75 #[.int .i64 h] w fun e w' => e = .returned (.bool (handleOkB h)) ∧ w' = w := by
  by_cases h1 : 32 ≤ h
  · by_cases h2 : h ≤ 223
    · go_enter Try.func75, Try.ntmps75
      go_wp2
      go_ret
      exact ⟨ret_bool (by simp [handleOkB, h1, h2]), rfl⟩
    · go_enter Try.func75, Try.ntmps75
      go_wp2
      go_ret
      exact ⟨ret_bool (by simp [handleOkB]; omega), rfl⟩
  · go_enter Try.func75, Try.ntmps75
    go_wp2
    go_ret
    exact ⟨ret_bool (by simp [handleOkB]; omega), rfl⟩

set_option maxHeartbeats 400000 in
theorem isLink_impl (h : Int) (w : World) : Calls Try.prog 61 #[.int .i64 h] w fun e w' => e = .returned (.bool (linkB h)) ∧ w' = w := by
  by_cases h1 : h = 0
  · subst h1
    go_enter Try.func61, Try.ntmps61
    go_wp2
    go_ret
    exact ⟨rfl, rfl⟩
  · have h2 : (h == 0) = false := by simpa using h1
    go_enter Try.func61, Try.ntmps61
    go_wp2_with (go_at_call 75; refine (HandleOk_impl _ _).mono ?_; rintro e w1 ⟨rfl, rfl⟩)
    go_ret
    exact ⟨ret_bool (by simp [linkB, h2]), rfl⟩
set_option maxHeartbeats 400000 in
theorem HazOk1_impl (h : Int) (w : World) : Calls Try.prog 60 #[.int .i64 h] w fun e w' => e = .returned (.bool (!linkB h)) ∧ w' = w := by
  go_enter Try.func60, Try.ntmps60
  go_wp2_with (go_at_call 61; refine (isLink_impl _ _).mono ?_; rintro e w1 ⟨rfl, rfl⟩)
  go_ret
  exact ⟨rfl, rfl⟩
def hazOkB (z : List Int) : Bool := (z.length == 3) && !(z.any fun h => !linkB h)
set_option maxHeartbeats 400000 in
theorem HazOk_impl (w : World) (v : Value) (z : List Int) (h : RdL FI w w.heap.size v z) : Calls Try.prog 37 #[v] w fun e w' => e = .returned (.bool (hazOkB z)) ∧ Below w.heap.size w w' := by
  obtain ⟨A, c, hv, _⟩ := id h
  subst hv
  by_cases h3 : z.length = 3
  · have h4 : ((z.length : Int) == 3) = true := by simp; omega
    have H3 := Hid.mk_ h3
    clear h3
    go_enter Try.func37, Try.ntmps37
    go_wp2_with fail
    refine (ContainsFuncInt_ct w _ z h 60 #[] (fun h => !linkB h) (fun _ _ => by kernel_rfl) (fun x W _ _ => (HazOk1_impl x W).mono fun e W' hh => ⟨hh.1, by rw [hh.2]; exact Below.refl _ _⟩)).mono ?_
    rintro e w1 ⟨rfl, hb1⟩
    go_wp2
    go_ret
    exact ⟨ret_bool (by simp [hazOkB, H3.out]), hb1⟩
  · have h4 : ((z.length : Int) == 3) = false := by simp; omega
    go_enter Try.func37, Try.ntmps37
    go_wp2
    go_ret
    exact ⟨ret_bool (by simp [hazOkB, h3]), Below.refl _ _⟩

set_option maxHeartbeats 1000000 in
theorem HazOk_spec (w : World) (v : Value) (z : List Int) (h : RdL FI w w.heap.size v z) : Calls Try.prog 35 #[v] w fun e w' => e = .returned (.bool (hazOkB z)) ∧ Below w.heap.size w w' := by
  obtain ⟨A, c, hv, q1, q2, _⟩ := id h
  have hlt0 : z.length ≤ 9223372036854775807 := by unfold maxLen at q2; omega
  subst hv
  clear q1 q2
  go_enter Try.func35, Try.ntmps35
  go_wp2
  go_loopw [3] (fun i wr => ∃ i' : Nat, i' ≤ z.length ∧ i = .int .i64 i' ∧ Below w.heap.size w wr ∧ Hid ((z.take i').any (fun h => !linkB h) = false)) (fun i _ => z.length - (intOf i).toNat)
  case atStart => exact ⟨0, Nat.zero_le _, rfl, Below.refl _ _, rfl⟩
  case round =>
    obtain ⟨i, hi, rfl, hb, HN⟩ := hrel
    by_cases hlt : i < z.length
    · obtain ⟨g, off, cap', he, hg, _, _, hc⟩ := (h.below hb).at_ (List.getElem?_eq_getElem hlt)
      injection he with he1 he2 he3
      clear he2
      subst he1 he3
      have p0 : wr.cell? ⟨g, off + i, none⟩ = some (.int .i64 z[i]) := by simpa [FI] using hc 0 _ rfl
      clear hc h
      by_cases hz : z[i] = 0
      · have hz1 : (z[i] != 0) = false := by simpa using hz
        have HS := Hid.mk_ (any_take_succ (fun h => !linkB h) z i hlt HN.out (by simp [linkB, hz]))
        clear hz
        go_wp2_with (go_at_call 58; refine (HandleOk_spec _ _).mono ?_; rintro e w1 ⟨rfl, rfl⟩)
        go_roundw
        case rel => exact ⟨i + 1, by omega, by go_num, hb, HS⟩
        case measure => simp [intOf]; omega
      · have hz1 : (z[i] != 0) = true := by simpa using hz
        by_cases hh : handleOkB z[i] = true
        · have HS := Hid.mk_ (any_take_succ (fun h => !linkB h) z i hlt HN.out (by simp [linkB, hh]))
          clear hz
          go_wp2_with (go_at_call 58; refine (HandleOk_spec _ _).mono ?_; rintro e w1 ⟨rfl, rfl⟩)
          go_roundw
          case rel => exact ⟨i + 1, by omega, by go_num, hb, HS⟩
          case measure => simp [intOf]; omega
        · have hh' : handleOkB z[i] = false := by simpa using hh
          have HS := Hid.mk_ (show hazOkB z = false from by
            have : (z.any fun h => !linkB h) = true := List.any_eq_true.2 ⟨z[i], List.getElem_mem hlt, by simp [linkB, hh', hz]⟩
            simp [hazOkB, this])
          clear hz hh
          go_wp2_with (go_at_call 58; refine (HandleOk_spec _ _).mono ?_; rintro e w1 ⟨rfl, rfl⟩)
          go_ret
          exact ⟨ret_bool HS.out.symm, hb⟩
    · go_wp2
      go_ret
      obtain rfl : i = z.length := by omega
      refine ⟨ret_bool ?_, hb⟩
      have := HN.out
      rw [List.take_length] at this
      simp only [hazOkB, this]
      rw [Bool.eq_iff_iff]; simp; try omega

def publishL (z : List Int) (wk h : Int) : List Int × Bool := if hazOkB z = true ∧ 0 ≤ wk ∧ wk ≤ 2 ∧ handleOkB h = true then (z.set wk.toNat h, true) else (z, false)
theorem ret_pair {v : Value} {a b : Bool} (h : a = b) : Ending.returned (.tuple #[v, .bool a]) = .returned (.tuple #[v, .bool b]) := by rw [h]
theorem hazOk_len {z : List Int} (h : hazOkB z = true) : z.length = 3 := by
  simp [hazOkB] at h
  exact h.1
theorem OwL.cellI {e : TypeId} {w : World} {g n c k : Nat} {l : List Int} {x : Int} (h : OwL FI e w (.slice (some ⟨g, 0, none⟩) n c) l) (hx : l[k]? = some x) : w.cell? ⟨g, k, none⟩ = some (.int .i64 x) := by simpa [FI] using h.cell_ (k := k) (j := 0) hx (by decide)
theorem OwL.form_pos {α : Type} {T : FT α} {e : TypeId} {w : World} {v : Value} {l : List α} (h : OwL T e w v l) (hl : 0 < l.length) : ∃ g cap, v = .slice (some ⟨g, 0, none⟩) l.length cap ∧ g < w.heap.size := by
  rcases h.form with ⟨_, rfl⟩ | ⟨g, cap, hv, hg, _, _⟩
  · simp at hl
  · exact ⟨g, cap, hv, hg⟩

def clearL (z : List Int) (wk : Int) : List Int × Bool := if hazOkB z = true ∧ 0 ≤ wk ∧ wk ≤ 2 ∧ z[wk.toNat]? ≠ some 0 then (z.set wk.toNat 0, true) else (z, false)
def hazAtI (z : List Int) (wk : Int) : Int := if hazOkB z = true ∧ 0 ≤ wk ∧ wk ≤ 2 then z.getD wk.toNat 0 else 0

set_option maxRecDepth 100000 in
set_option maxHeartbeats 1000000 in
theorem HazAt_impl (w : World) (v : Value) (z : List Int) (wk : Int) (h : RdL FI w w.heap.size v z) :
    Calls Try.prog 39 #[v, .int .i64 wk] w fun e w' => e = .returned (.int .i64 (hazAtI z wk)) ∧ Below w.heap.size w w' := by
  by_cases c1 : hazOkB z = true
  case neg =>
    have HN := Hid.mk_ (show hazAtI z wk = 0 from if_neg (fun hh => c1 hh.1))
    have c1' : hazOkB z = false := by simpa using c1
    clear c1
    go_enter Try.func39, Try.ntmps39
    go_wp2_with (first | (go_at_call 37; refine (HazOk_impl _ _ z h).mono ?_; rintro e w2 ⟨rfl, hb2⟩) | go_in)
    go_ret
    exact ⟨ret_i64 HN.out.symm, hb2⟩
  by_cases c2 : 0 ≤ wk ∧ wk ≤ 2
  case neg =>
    have HN := Hid.mk_ (show hazAtI z wk = 0 from if_neg (fun hh => c2 hh.2))
    by_cases c3 : 0 ≤ wk
    · have c4 : decide (wk ≤ 2) = false := by simp; omega
      clear c2
      go_enter Try.func39, Try.ntmps39
      go_wp2_with (first | (go_at_call 37; refine (HazOk_impl _ _ z h).mono ?_; rintro e w2 ⟨rfl, hb2⟩) | go_in)
      go_ret
      exact ⟨ret_i64 HN.out.symm, hb2⟩
    · clear c2
      go_enter Try.func39, Try.ntmps39
      go_wp2_with (first | (go_at_call 37; refine (HazOk_impl _ _ z h).mono ?_; rintro e w2 ⟨rfl, hb2⟩) | go_in)
      go_ret
      exact ⟨ret_i64 HN.out.symm, hb2⟩
  obtain ⟨c3, c4⟩ := c2
  have HZ := Hid.mk_ (hazOk_len c1)
  obtain ⟨k, rfl⟩ := Int.eq_ofNat_of_zero_le c3
  have hk : k < 3 := by omega
  obtain ⟨x, hx⟩ : ∃ x, z[k]? = some x := ⟨_, List.getElem?_eq_getElem (by rw [HZ.out]; exact hk)⟩
  obtain ⟨g0, off, cap0, hv, hg0, _, _, hq⟩ := h.at_ hx
  subst hv
  have q0 : w.cell? ⟨g0, off + k, none⟩ = some (.int .i64 x) := by simpa [FI] using hq 0 _ rfl
  have HN := Hid.mk_ (show hazAtI z (k : Int) = x from by unfold hazAtI; rw [if_pos ⟨c1, c3, c4⟩, Int.toNat_natCast, List.getD_eq_getElem?_getD, hx]; rfl)
  clear hx hq
  go_enter Try.func39, Try.ntmps39
  go_wp2_with (first | (go_at_call 37; refine (HazOk_impl _ _ z h).mono ?_; rintro e w2 ⟨rfl, hb2⟩; have hq2 := (hb2.cell (p := ⟨g0, off + k, none⟩) hg0).trans q0; rw [HZ.out]) | go_in)
  go_ret
  exact ⟨ret_i64 HN.out.symm, hb2⟩

set_option maxRecDepth 100000 in
set_option maxHeartbeats 1000000 in
theorem HazAt_spec (w : World) (v : Value) (z : List Int) (wk : Int) (h : RdL FI w w.heap.size v z) :
    Calls Try.prog 38 #[v, .int .i64 wk] w fun e w' => e = .returned (.int .i64 (hazAtI z wk)) ∧ Below w.heap.size w w' := by
  by_cases c1 : hazOkB z = true
  case neg =>
    have HN := Hid.mk_ (show hazAtI z wk = 0 from if_neg (fun hh => c1 hh.1))
    have c1' : hazOkB z = false := by simpa using c1
    clear c1
    go_enter Try.func38, Try.ntmps38
    go_wp2_with (first | (go_at_call 35; refine (HazOk_spec _ _ z h).mono ?_; rintro e w2 ⟨rfl, hb2⟩) | go_in)
    go_ret
    exact ⟨ret_i64 HN.out.symm, hb2⟩
  by_cases c2 : 0 ≤ wk ∧ wk ≤ 2
  case neg =>
    have HN := Hid.mk_ (show hazAtI z wk = 0 from if_neg (fun hh => c2 hh.2))
    by_cases c3 : 0 ≤ wk
    · have c4 : decide (wk ≤ 2) = false := by simp; omega
      clear c2
      go_enter Try.func38, Try.ntmps38
      go_wp2_with (first | (go_at_call 35; refine (HazOk_spec _ _ z h).mono ?_; rintro e w2 ⟨rfl, hb2⟩) | go_in)
      go_ret
      exact ⟨ret_i64 HN.out.symm, hb2⟩
    · clear c2
      go_enter Try.func38, Try.ntmps38
      go_wp2_with (first | (go_at_call 35; refine (HazOk_spec _ _ z h).mono ?_; rintro e w2 ⟨rfl, hb2⟩) | go_in)
      go_ret
      exact ⟨ret_i64 HN.out.symm, hb2⟩
  obtain ⟨c3, c4⟩ := c2
  have HZ := Hid.mk_ (hazOk_len c1)
  obtain ⟨k, rfl⟩ := Int.eq_ofNat_of_zero_le c3
  have hk : k < 3 := by omega
  obtain ⟨x, hx⟩ : ∃ x, z[k]? = some x := ⟨_, List.getElem?_eq_getElem (by rw [HZ.out]; exact hk)⟩
  obtain ⟨g0, off, cap0, hv, hg0, _, _, hq⟩ := h.at_ hx
  subst hv
  have q0 : w.cell? ⟨g0, off + k, none⟩ = some (.int .i64 x) := by simpa [FI] using hq 0 _ rfl
  have HN := Hid.mk_ (show hazAtI z (k : Int) = x from by unfold hazAtI; rw [if_pos ⟨c1, c3, c4⟩, Int.toNat_natCast, List.getD_eq_getElem?_getD, hx]; rfl)
  clear hx hq
  go_enter Try.func38, Try.ntmps38
  go_wp2_with (first | (go_at_call 35; refine (HazOk_spec _ _ z h).mono ?_; rintro e w2 ⟨rfl, hb2⟩; have hq2 := (hb2.cell (p := ⟨g0, off + k, none⟩) hg0).trans q0; rw [HZ.out]) | go_in)
  go_ret
  exact ⟨ret_i64 HN.out.symm, hb2⟩
end Go.Proofs.Ytcnnjcbcbpfcgaa
