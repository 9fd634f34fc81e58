/-
  Hazard pointers: the contracts of the program and of the reference.
-/
import Derived.Test.YtkldapdpaldbgaaGreatT
import Derived.Test.YtkldapdpaldbgaaGreatL
import Derived.Deep.QuietTactic
import Derived.BigQuiet
import Derived.Deep.LoopGhost
import Derived.Deep.RegionHeld3
import Derived.Test.YtkldapdpaldbgaaGreatN
import Derived.Test.YtkldapdpaldbgaaGreatA
import Derived.WalkSpells
import Derived.Laws.Cover3
import Derived.Test.YtkldapdpaldbgaaGreatI
namespace Go.Proofs.YtkldapdpaldbgaaGreat.Lim
open Go.RowKit

theorem Tryz.stInt : ST Tryz.prog FI 24 3 := ⟨Tryz.underlying24, .int .i64 0, 8, by kernel_rfl, rfl, by decide⟩

def idxOf {α : Type} (p : α → Bool) (l : List α) : Int := match l.findIdx? p with | some i => i | none => -1
theorem idxOf_hit {α : Type} (p : α → Bool) (l : List α) (i : Nat) (hi : i < l.length) (h : (l.take i).any p = false) (hp : p l[i] = true) : idxOf p l = i := by
  have hf : l.findIdx? p = some i := by
    rw [List.findIdx?_eq_some_iff_getElem]
    refine ⟨hi, hp, fun j hj => ?_⟩
    rw [List.any_eq_false] at h
    exact h l[j] (List.mem_take_iff_getElem.2 ⟨j, by omega, rfl⟩)
  unfold idxOf
  rw [hf]
theorem idxOf_none {α : Type} (p : α → Bool) (l : List α) (h : l.any p = false) : idxOf p l = -1 := by
  have hf : l.findIdx? p = none := by
    rw [List.findIdx?_eq_none_iff]
    intro x hx
    rw [List.any_eq_false] at h
    simpa using h x hx
  unfold idxOf
  rw [hf]
theorem any_take_succ {α : Type} (p : α → Bool) (l : List α) (i : Nat) (hi : i < l.length) (h : (l.take i).any p = false) (hp : p l[i] = false) : (l.take (i + 1)).any p = false := by
  rw [List.take_succ_eq_append_getElem hi, List.any_append, h]
  simp [hp]
theorem idxOf_ge {α : Type} (p : α → Bool) (l : List α) : decide (0 ≤ idxOf p l) = l.any p := by
  unfold idxOf
  cases h : l.findIdx? p with
  | none =>
    rw [List.findIdx?_eq_none_iff] at h
    have : l.any p = false := by
      rw [List.any_eq_false]
      intro x hx
      simp [h x hx]
    rw [this]
    rfl
  | some i =>
    rw [List.findIdx?_eq_some_iff_getElem] at h
    obtain ⟨hi, hp, _⟩ := h
    have : l.any p = true := List.any_eq_true.2 ⟨l[i], List.getElem_mem hi, hp⟩
    rw [this]
    simp

set_option maxHeartbeats 1000000 in
theorem IndexFuncInt_ct (w : World) (v : Value) (l : List Int) (h : RdL FI w w.heap.size v l) (fid : FuncId) (cap : Array Value) (p : Int → Bool) (hent : ∀ (x : Int) (W : World), (callFunc fid (#[.int .i64 x] ++ cap)).run Tryz.prog W = .ok (.enter fid (#[.int .i64 x] ++ cap)) W)
    (hf : ∀ (x : Int) (W : World), x ∈ l → Below w.heap.size w W → Calls Tryz.prog fid (#[.int .i64 x] ++ cap) W fun e W' => e = .returned (.bool (p x)) ∧ Below W.heap.size W W') :
    Calls Tryz.prog 145 #[v, .func (.func fid) #[] cap] w fun e w' => e = .returned (.int .i64 (idxOf p l)) ∧ Below w.heap.size w w' := by
  obtain ⟨A, c, hv, q1, q2, _⟩ := id h
  have hlt0 : l.length ≤ 9223372036854775807 := by unfold maxLen at q2; omega
  subst hv
  have HF := Hid.mk_ hf
  clear hf q1 q2
  go_enter Tryz.func145, Tryz.ntmps145
  go_wp2
  go_loopw [5, 8] (fun _ i wr => ∃ i' : Nat, i' ≤ l.length ∧ i = .int .i64 i' ∧ Below w.heap.size w wr ∧ (l.take i').any p = false) (fun _ i _ => l.length - (intOf i).toNat)
  case atStart => exact ⟨0, Nat.zero_le _, rfl, Below.refl _ _, rfl⟩
  case round =>
    obtain ⟨i, hi, rfl, hb, hno⟩ := hrel
    have HN := Hid.mk_ hno
    clear hno
    by_cases hlt : i < l.length
    · obtain ⟨g, off, cap', he, hg, _, _, hc⟩ := (h.below hb).at_ (List.getElem?_eq_getElem hlt)
      injection he with he1 he2 he3
      clear he2
      subst he1 he3
      have p0 : wr.cell? ⟨g, off + i, none⟩ = some (.int .i64 l[i]) := by simpa [FI] using hc 0 _ rfl
      clear hc h
      go_wp2_with fail
      refine (HF.out l[i] wr (List.getElem_mem hlt) hb).mono ?_
      rintro e w1 ⟨rfl, hb1⟩
      have hb2 := hb.trans (hb1.mono hb.size)
      by_cases hp : p l[i] = true
      · have HP := Hid.mk_ (idxOf_hit p l i hlt HN.out hp)
        rw [hp]
        clear hp
        go_wp2
        go_ret
        exact ⟨ret_i64 HP.out.symm, hb2⟩
      · have hp' : p l[i] = false := by simpa using hp
        have HP := Hid.mk_ (any_take_succ p l i hlt HN.out hp')
        rw [hp']
        clear hp hp'
        go_wp2
        go_roundw
        case rel => exact ⟨i + 1, by omega, by go_num, hb2, HP.out⟩
        case measure => simp [intOf]; omega
    · go_wp2
      go_ret
      obtain rfl : i = l.length := by omega
      exact ⟨ret_i64 (idxOf_none p l (by simpa using HN.out)).symm, hb⟩
set_option maxHeartbeats 1000000 in
theorem ContainsFuncInt_ct (w : World) (v : Value) (l : List Int) (h : RdL FI w w.heap.size v l) (fid : FuncId) (cap : Array Value) (p : Int → Bool) (hent : ∀ (x : Int) (W : World), (callFunc fid (#[.int .i64 x] ++ cap)).run Tryz.prog W = .ok (.enter fid (#[.int .i64 x] ++ cap)) W)
    (hf : ∀ (x : Int) (W : World), x ∈ l → Below w.heap.size w W → Calls Tryz.prog fid (#[.int .i64 x] ++ cap) W fun e W' => e = .returned (.bool (p x)) ∧ Below W.heap.size W W') :
    Calls Tryz.prog 70 #[v, .func (.func fid) #[] cap] w fun e w' => e = .returned (.bool (l.any p)) ∧ Below w.heap.size w w' := by
  have HF := Hid.mk_ hf
  clear hf
  go_enter Tryz.func70, Tryz.ntmps70
  go_wp2_with fail
  refine (IndexFuncInt_ct w v l h fid cap p hent HF.out).mono ?_
  rintro e w1 ⟨rfl, hb1⟩
  have HP := Hid.mk_ (idxOf_ge p l)
  go_wp2
  go_ret
  exact ⟨ret_bool HP.out, hb1⟩

def handleOkB (h : Int) : Bool := decide (32 ≤ h) && decide (h ≤ 223) && decide (h % 32 < 24)
def linkB (h : Int) : Bool := (h == 0) || handleOkB h

set_option maxHeartbeats 400000 in
theorem HandleOk_spec (h : Int) (w : World) : Calls Tryz.prog 131 #[.int .i64 h] w fun e w' => e = .returned (.bool (handleOkB h)) ∧ w' = w := by
  by_cases h1 : 32 ≤ h
  · by_cases h2 : h ≤ 223
    · go_enter Tryz.func131, Tryz.ntmps131
      go_wp2
      go_ret
      exact ⟨ret_bool (by simp [handleOkB, h1, h2]), rfl⟩
    · go_enter Tryz.func131, Tryz.ntmps131
      go_wp2
      go_ret
      exact ⟨ret_bool (by simp [handleOkB]; omega), rfl⟩
  · go_enter Tryz.func131, Tryz.ntmps131
    go_wp2
    go_ret
    exact ⟨ret_bool (by simp [handleOkB]; omega), rfl⟩

set_option maxHeartbeats 400000 in
theorem HandleOk_impl (h : Int) (w : World) : Calls Tryz.prog 148 #[.int .i64 h] w fun e w' => e = .returned (.bool (handleOkB h)) ∧ w' = w := by
  by_cases h1 : 32 ≤ h
  · by_cases h2 : h ≤ 223
    · go_enter Tryz.func148, Tryz.ntmps148
      go_wp2
      go_ret
      exact ⟨ret_bool (by simp [handleOkB, h1, h2]), rfl⟩
    · go_enter Tryz.func148, Tryz.ntmps148
      go_wp2
      go_ret
      exact ⟨ret_bool (by simp [handleOkB]; omega), rfl⟩
  · go_enter Tryz.func148, Tryz.ntmps148
    go_wp2
    go_ret
    exact ⟨ret_bool (by simp [handleOkB]; omega), rfl⟩

set_option maxHeartbeats 400000 in
theorem isLink_impl (h : Int) (w : World) : Calls Tryz.prog 113 #[.int .i64 h] w fun e w' => e = .returned (.bool (linkB h)) ∧ w' = w := by
  by_cases h1 : h = 0
  · subst h1
    go_enter Tryz.func113, Tryz.ntmps113
    go_wp2
    go_ret
    exact ⟨rfl, rfl⟩
  · have h2 : (h == 0) = false := by simpa using h1
    go_enter Tryz.func113, Tryz.ntmps113
    go_wp2_with (go_at_call 148; refine (HandleOk_impl _ _).mono ?_; rintro e w1 ⟨rfl, rfl⟩)
    go_ret
    exact ⟨ret_bool (by simp [linkB, h2]), rfl⟩
set_option maxHeartbeats 400000 in
theorem HazOk1_impl (h : Int) (w : World) : Calls Tryz.prog 169 #[.int .i64 h] w fun e w' => e = .returned (.bool (!linkB h)) ∧ w' = w := by
  go_enter Tryz.func169, Tryz.ntmps169
  go_wp2_with (go_at_call 113; refine (isLink_impl _ _).mono ?_; rintro e w1 ⟨rfl, rfl⟩)
  go_ret
  exact ⟨rfl, rfl⟩
def hazOkB (z : List Int) : Bool := (z.length == 3) && !(z.any fun h => !linkB h)
set_option maxHeartbeats 400000 in
theorem HazOk_impl (w : World) (v : Value) (z : List Int) (h : RdL FI w w.heap.size v z) : Calls Tryz.prog 91 #[v] w fun e w' => e = .returned (.bool (hazOkB z)) ∧ Below w.heap.size w w' := by
  obtain ⟨A, c, hv, _⟩ := id h
  subst hv
  by_cases h3 : z.length = 3
  · have h4 : ((z.length : Int) == 3) = true := by simp; omega
    have H3 := Hid.mk_ h3
    clear h3
    go_enter Tryz.func91, Tryz.ntmps91
    go_wp2_with fail
    refine (ContainsFuncInt_ct w _ z h 169 #[] (fun h => !linkB h) (fun _ _ => by kernel_rfl) (fun x W _ _ => (HazOk1_impl x W).mono fun e W' hh => ⟨hh.1, by rw [hh.2]; exact Below.refl _ _⟩)).mono ?_
    rintro e w1 ⟨rfl, hb1⟩
    go_wp2
    go_ret
    exact ⟨ret_bool (by simp [hazOkB, H3.out]), hb1⟩
  · have h4 : ((z.length : Int) == 3) = false := by simp; omega
    go_enter Tryz.func91, Tryz.ntmps91
    go_wp2
    go_ret
    exact ⟨ret_bool (by simp [hazOkB, h3]), Below.refl _ _⟩

set_option maxHeartbeats 1000000 in
theorem HazOk_spec (w : World) (v : Value) (z : List Int) (h : RdL FI w w.heap.size v z) : Calls Tryz.prog 51 #[v] w fun e w' => e = .returned (.bool (hazOkB z)) ∧ Below w.heap.size w w' := by
  obtain ⟨A, c, hv, q1, q2, _⟩ := id h
  have hlt0 : z.length ≤ 9223372036854775807 := by unfold maxLen at q2; omega
  subst hv
  clear q1 q2
  go_enter Tryz.func51, Tryz.ntmps51
  go_wp2
  go_loopw [3] (fun i wr => ∃ i' : Nat, i' ≤ z.length ∧ i = .int .i64 i' ∧ Below w.heap.size w wr ∧ Hid ((z.take i').any (fun h => !linkB h) = false)) (fun i _ => z.length - (intOf i).toNat)
  case atStart => exact ⟨0, Nat.zero_le _, rfl, Below.refl _ _, rfl⟩
  case round =>
    obtain ⟨i, hi, rfl, hb, HN⟩ := hrel
    by_cases hlt : i < z.length
    · obtain ⟨g, off, cap', he, hg, _, _, hc⟩ := (h.below hb).at_ (List.getElem?_eq_getElem hlt)
      injection he with he1 he2 he3
      clear he2
      subst he1 he3
      have p0 : wr.cell? ⟨g, off + i, none⟩ = some (.int .i64 z[i]) := by simpa [FI] using hc 0 _ rfl
      clear hc h
      by_cases hz : z[i] = 0
      · have hz1 : (z[i] != 0) = false := by simpa using hz
        have HS := Hid.mk_ (any_take_succ (fun h => !linkB h) z i hlt HN.out (by simp [linkB, hz]))
        clear hz
        go_wp2_with (go_at_call 131; refine (HandleOk_spec _ _).mono ?_; rintro e w1 ⟨rfl, rfl⟩)
        go_roundw
        case rel => exact ⟨i + 1, by omega, by go_num, hb, HS⟩
        case measure => simp [intOf]; omega
      · have hz1 : (z[i] != 0) = true := by simpa using hz
        by_cases hh : handleOkB z[i] = true
        · have HS := Hid.mk_ (any_take_succ (fun h => !linkB h) z i hlt HN.out (by simp [linkB, hh]))
          clear hz
          go_wp2_with (go_at_call 131; refine (HandleOk_spec _ _).mono ?_; rintro e w1 ⟨rfl, rfl⟩)
          go_roundw
          case rel => exact ⟨i + 1, by omega, by go_num, hb, HS⟩
          case measure => simp [intOf]; omega
        · have hh' : handleOkB z[i] = false := by simpa using hh
          have HS := Hid.mk_ (show hazOkB z = false from by
            have : (z.any fun h => !linkB h) = true := List.any_eq_true.2 ⟨z[i], List.getElem_mem hlt, by simp [linkB, hh', hz]⟩
            simp [hazOkB, this])
          clear hz hh
          go_wp2_with (go_at_call 131; refine (HandleOk_spec _ _).mono ?_; rintro e w1 ⟨rfl, rfl⟩)
          go_ret
          exact ⟨ret_bool HS.out.symm, hb⟩
    · go_wp2
      go_ret
      obtain rfl : i = z.length := by omega
      refine ⟨ret_bool ?_, hb⟩
      have := HN.out
      rw [List.take_length] at this
      simp only [hazOkB, this]
      rw [Bool.eq_iff_iff]; simp; try omega

def publishL (z : List Int) (wk h : Int) : List Int × Bool := if hazOkB z = true ∧ 0 ≤ wk ∧ wk ≤ 2 ∧ handleOkB h = true then (z.set wk.toNat h, true) else (z, false)
theorem ret_pair {v : Value} {a b : Bool} (h : a = b) : Ending.returned (.tuple #[v, .bool a]) = .returned (.tuple #[v, .bool b]) := by rw [h]
theorem hazOk_len {z : List Int} (h : hazOkB z = true) : z.length = 3 := by
  simp [hazOkB] at h
  exact h.1
theorem OwL.cellI {e : TypeId} {w : World} {g n c k : Nat} {l : List Int} {x : Int} (h : OwL FI e w (.slice (some ⟨g, 0, none⟩) n c) l) (hx : l[k]? = some x) : w.cell? ⟨g, k, none⟩ = some (.int .i64 x) := by simpa [FI] using h.cell_ (k := k) (j := 0) hx (by decide)
theorem _root_.Go.Proofs.YtkldapdpaldbgaaGreat.OwL.form_pos {α : Type} {T : FT α} {e : TypeId} {w : World} {v : Value} {l : List α} (h : OwL T e w v l) (hl : 0 < l.length) : ∃ g cap, v = .slice (some ⟨g, 0, none⟩) l.length cap ∧ g < w.heap.size := by
  rcases h.form with ⟨_, rfl⟩ | ⟨g, cap, hv, hg, _, _⟩
  · simp at hl
  · exact ⟨g, cap, hv, hg⟩

set_option maxHeartbeats 400000 in
theorem CloneInt_ct (w : World) (v : Value) (l : List Int) (h : RdL FI w w.heap.size v l) (hs : l.length ≤ 1073741824) :
    Calls Tryz.prog 154 #[v] w fun e w' => ∃ v', e = .returned v' ∧ OwL FI 3 w' v' l ∧ (∀ g ∈ foot1 v', w.heap.size ≤ g) ∧ Below w.heap.size w w' := by
  obtain ⟨A, c, hv, _, _, q3⟩ := id h
  subst hv
  have heq := fun w => Lib.run_eql_slice_nil (P := Tryz.prog) w 24 3 A l.length c 0 0 Tryz.underlying24
  cases A with
  | none =>
    have hl : l = [] := by
      apply Classical.byContradiction
      intro hne
      obtain ⟨g, off, hA, _⟩ := q3 hne
      cases hA
    have HL := Hid.mk_ hl
    clear hl q3 h
    go_enter Tryz.func154, Tryz.ntmps154
    go_wp2
    go_ret
    exact ⟨_, rfl, by rw [HL.out]; exact World.ownsRow_nil _ _ _ _, by simp [foot1, Value.ownBlock], Below.refl _ _⟩
  | some a =>
    go_enter Tryz.func154, Tryz.ntmps154
    go_wp2_with (at_builtin; refine wpList_append_flat Tryz.stInt rfl _ _ rfl (v := .slice (some ⟨w.heap.size, 0, none⟩) 0 0) (y := .slice (some a) l.length c) (l := []) (m := l) rfl rfl (OwL.lit FI [] #[] rfl (by simp [maxLen]) _ _) (h.alloc_ (Nat.le_refl _) (Nat.le_succ _) _) (by simpa using hs) ?_; intro v' w1 ho hg hat)
    go_ret
    have hb : Below w.heap.size w w1 := ((Below.refl _ _).alloc (Nat.le_refl _) _).grown hg (by simp) (by simp [Value.ownBlock])
    exact ⟨v', rfl, by simpa using ho, fun g hg' => by rcases foot_app hat g hg' with h | h; (simp [foot1, Value.ownBlock] at h; omega); (simp at h; omega), hb⟩

set_option maxHeartbeats 400000 in
theorem l3Copy_ct (w : World) (v : Value) (l : List Int) (h : RdL FI w w.heap.size v l) (hs : l.length ≤ 1073741824) :
    Calls Tryz.prog 259 #[v] w fun e w' => ∃ v', e = .returned v' ∧ OwL FI 3 w' v' l ∧ (∀ g ∈ foot1 v', w.heap.size ≤ g) ∧ Below w.heap.size w w' := by
  obtain ⟨A, c, hv, _, _, q3⟩ := id h
  subst hv
  go_enter Tryz.func259, Tryz.ntmps259
  go_wp2_with (at_builtin; refine wpList_append_flat Tryz.stInt rfl _ _ rfl (v := .slice (some ⟨w.heap.size, 0, none⟩) 0 0) (y := .slice A l.length c) (l := []) (m := l) rfl rfl (OwL.lit FI [] #[] rfl (by simp [maxLen]) _ _) (h.alloc_ (Nat.le_refl _) (Nat.le_succ _) _) (by simpa using hs) ?_; intro v' w1 ho hg hat)
  go_ret
  have hb : Below w.heap.size w w1 := ((Below.refl _ _).alloc (Nat.le_refl _) _).grown hg (by simp) (by simp [Value.ownBlock])
  exact ⟨v', rfl, by simpa using ho, fun g hg' => by rcases foot_app hat g hg' with h | h; (simp [foot1, Value.ownBlock] at h; omega); (simp at h; omega), hb⟩

def clearL (z : List Int) (wk : Int) : List Int × Bool := if hazOkB z = true ∧ 0 ≤ wk ∧ wk ≤ 2 ∧ z[wk.toNat]? ≠ some 0 then (z.set wk.toNat 0, true) else (z, false)
def hazAtI (z : List Int) (wk : Int) : Int := if hazOkB z = true ∧ 0 ≤ wk ∧ wk ≤ 2 then z.getD wk.toNat 0 else 0

def heldTo (z : List Int) (h : Int) (k : Nat) : List Int := ((List.range k).filter fun j => z.getD j 0 == h).map fun (j : Nat) => (j : Int)
def heldL (z : List Int) (h : Int) : List Int := if hazOkB z = true ∧ h ≠ 0 then heldTo z h z.length else []
theorem heldTo_len (z : List Int) (h : Int) (k : Nat) : (heldTo z h k).length ≤ k := by
  unfold heldTo
  rw [List.length_map]
  exact Nat.le_trans (List.length_filter_le _ _) (by simp)
theorem heldTo_yes (z : List Int) (h : Int) (k : Nat) (he : z.getD k 0 = h) : heldTo z h (k + 1) = heldTo z h k ++ [(k : Int)] := by
  subst he
  simp [heldTo, List.range_succ, List.filter_append]
theorem heldTo_no (z : List Int) (h : Int) (k : Nat) (he : z.getD k 0 ≠ h) : heldTo z h (k + 1) = heldTo z h k := by
  simp only [heldTo, List.range_succ, List.filter_append, List.map_append]
  simp at he ⊢
  exact he

set_option maxHeartbeats 1000000 in
theorem Publish_spec (w : World) (v : Value) (z : List Int) (wk h0 : Int) (h : RdL FI w w.heap.size v z) (hs : z.length ≤ 1048576) :
    Calls Tryz.prog 197 #[v, .int .i64 wk, .int .i64 h0] w fun e w' => ∃ v', e = .returned (.tuple #[v', .bool (publishL z wk h0).2]) ∧ OwL FI 3 w' v' (publishL z wk h0).1 ∧ (∀ g ∈ foot1 v', w.heap.size ≤ g) ∧ Below w.heap.size w w' := by
  by_cases c1 : hazOkB z = true
  case neg =>
    have hn : publishL z wk h0 = (z, false) := if_neg (fun hh => c1 hh.1)
    have c1' : hazOkB z = false := by simpa using c1
    have HN := Hid.mk_ hn
    clear hn c1
    go_enter Tryz.func197, Tryz.ntmps197
    go_wp2_with (first | (go_at_call 259; refine (l3Copy_ct _ _ z h (by omega)).mono ?_; rintro e w1 ⟨v', rfl, ho, hf, hb⟩) | (go_at_call 51; refine (HazOk_spec _ _ z (rd_up h hb)).mono ?_; rintro e w2 ⟨rfl, hb2⟩) | go_in)
    go_ret2
    exact ⟨v', ret_pair (by rw [HN.out]), by rw [HN.out]; exact ho.keep (fun g hg => hb2.block g (foot_lt ho g (mem_foot1.2 hg))), hf, hb.trans (hb2.mono hb.size)⟩
  by_cases c2 : 0 ≤ wk ∧ wk ≤ 2
  case neg =>
    have hn : publishL z wk h0 = (z, false) := if_neg (fun hh => c2 ⟨hh.2.1, hh.2.2.1⟩)
    have HN := Hid.mk_ hn
    clear hn
    by_cases c3 : 0 ≤ wk
    · have c4 : decide (wk ≤ 2) = false := by simp; omega
      clear c2
      go_enter Tryz.func197, Tryz.ntmps197
      go_wp2_with (first | (go_at_call 259; refine (l3Copy_ct _ _ z h (by omega)).mono ?_; rintro e w1 ⟨v', rfl, ho, hf, hb⟩) | (go_at_call 51; refine (HazOk_spec _ _ z (rd_up h hb)).mono ?_; rintro e w2 ⟨rfl, hb2⟩) | go_in)
      go_ret2
      exact ⟨v', ret_pair (by rw [HN.out]), by rw [HN.out]; exact ho.keep (fun g hg => hb2.block g (foot_lt ho g (mem_foot1.2 hg))), hf, hb.trans (hb2.mono hb.size)⟩
    · clear c2
      go_enter Tryz.func197, Tryz.ntmps197
      go_wp2_with (first | (go_at_call 259; refine (l3Copy_ct _ _ z h (by omega)).mono ?_; rintro e w1 ⟨v', rfl, ho, hf, hb⟩) | (go_at_call 51; refine (HazOk_spec _ _ z (rd_up h hb)).mono ?_; rintro e w2 ⟨rfl, hb2⟩) | go_in)
      go_ret2
      exact ⟨v', ret_pair (by rw [HN.out]), by rw [HN.out]; exact ho.keep (fun g hg => hb2.block g (foot_lt ho g (mem_foot1.2 hg))), hf, hb.trans (hb2.mono hb.size)⟩
  obtain ⟨c3, c4⟩ := c2
  by_cases c5 : handleOkB h0 = true
  case neg =>
    have hn : publishL z wk h0 = (z, false) := if_neg (fun hh => c5 hh.2.2.2)
    have c5' : handleOkB h0 = false := by simpa using c5
    have HN := Hid.mk_ hn
    clear hn c5
    go_enter Tryz.func197, Tryz.ntmps197
    go_wp2_with (first | (go_at_call 259; refine (l3Copy_ct _ _ z h (by omega)).mono ?_; rintro e w1 ⟨v', rfl, ho, hf, hb⟩) | (go_at_call 51; refine (HazOk_spec _ _ z (rd_up h hb)).mono ?_; rintro e w2 ⟨rfl, hb2⟩) | (go_at_call 131; refine (HandleOk_spec _ _).mono ?_; rintro e w3 ⟨rfl, rfl⟩) | go_in)
    go_ret2
    exact ⟨v', ret_pair (by rw [HN.out]), by rw [HN.out]; exact ho.keep (fun g hg => hb2.block g (foot_lt ho g (mem_foot1.2 hg))), hf, hb.trans (hb2.mono hb.size)⟩
  have hn : publishL z wk h0 = (z.set wk.toNat h0, true) := if_pos ⟨c1, c3, c4, c5⟩
  have HN := Hid.mk_ hn
  have hz3 := hazOk_len c1
  have HZ := Hid.mk_ hz3
  clear hn hz3
  obtain ⟨k, rfl⟩ := Int.eq_ofNat_of_zero_le c3
  have hk : k < 3 := by omega
  have hz0 : 0 < z.length := by rw [HZ.out]; decide
  obtain ⟨x, hx⟩ : ∃ x, z[k]? = some x := ⟨_, List.getElem?_eq_getElem (by rw [HZ.out]; exact hk)⟩
  have HX := Hid.mk_ hx
  clear hx
  go_enter Tryz.func197, Tryz.ntmps197
  go_wp2_with (first | (go_at_call 259; refine (l3Copy_ct _ _ z h (by omega)).mono ?_; rintro e w1 ⟨v', rfl, ho, hf, hb⟩; obtain ⟨g, cap, hv, hg⟩ := ho.form_pos hz0; subst hv) | (go_at_call 51; refine (HazOk_spec _ _ z (rd_up h hb)).mono ?_; rintro e w2 ⟨rfl, hb2⟩; have ho2 := ho.keep (fun g hg => hb2.block g (foot_lt ho g (mem_foot1.2 hg))); have hf2 := ho2.frozen_ k; have hc2 := OwL.cellI ho2 HX.out; rw [HZ.out]) | (go_at_call 131; refine (HandleOk_spec _ _).mono ?_; rintro e w3 ⟨rfl, rfl⟩) | go_in)
  have hs2 := ho2.set_ (k := k) (j := 0) (y := h0) (u := .int .i64 h0) HX.out (by decide) rfl
  rw [show k * FI.n + 0 = k by simp [FI], HZ.out] at hs2
  go_ret2
  exact ⟨_, ret_pair (by rw [HN.out]), by rw [HN.out]; exact hs2, hf, (hb.trans (hb2.mono hb.size)).setCell (hf g (by simp [foot1, Value.ownBlock])) _⟩

set_option maxRecDepth 100000 in
set_option maxHeartbeats 1000000 in
theorem Clear_spec (w : World) (v : Value) (z : List Int) (wk : Int) (h : RdL FI w w.heap.size v z) (hs : z.length ≤ 1048576) :
    Calls Tryz.prog 199 #[v, .int .i64 wk] w fun e w' => ∃ v', e = .returned (.tuple #[v', .bool (clearL z wk).2]) ∧ OwL FI 3 w' v' (clearL z wk).1 ∧ (∀ g ∈ foot1 v', w.heap.size ≤ g) ∧ Below w.heap.size w w' := by
  by_cases c1 : hazOkB z = true
  case neg =>
    have HN := Hid.mk_ (show clearL z wk = (z, false) from if_neg (fun hh => c1 hh.1))
    have c1' : hazOkB z = false := by simpa using c1
    clear c1
    go_enter Tryz.func199, Tryz.ntmps199
    go_wp2_with (first | (go_at_call 259; refine (l3Copy_ct _ _ z h (by omega)).mono ?_; rintro e w1 ⟨v', rfl, ho, hf, hb⟩) | (go_at_call 51; refine (HazOk_spec _ _ z (rd_up h hb)).mono ?_; rintro e w2 ⟨rfl, hb2⟩) | go_in)
    go_ret2
    exact ⟨v', ret_pair (by rw [HN.out]), by rw [HN.out]; exact ho.keep (fun g hg => hb2.block g (foot_lt ho g (mem_foot1.2 hg))), hf, hb.trans (hb2.mono hb.size)⟩
  by_cases c2 : 0 ≤ wk ∧ wk ≤ 2
  case neg =>
    have HN := Hid.mk_ (show clearL z wk = (z, false) from if_neg (fun hh => c2 ⟨hh.2.1, hh.2.2.1⟩))
    by_cases c3 : 0 ≤ wk
    · have c4 : decide (wk ≤ 2) = false := by simp; omega
      clear c2
      go_enter Tryz.func199, Tryz.ntmps199
      go_wp2_with (first | (go_at_call 259; refine (l3Copy_ct _ _ z h (by omega)).mono ?_; rintro e w1 ⟨v', rfl, ho, hf, hb⟩) | (go_at_call 51; refine (HazOk_spec _ _ z (rd_up h hb)).mono ?_; rintro e w2 ⟨rfl, hb2⟩) | go_in)
      go_ret2
      exact ⟨v', ret_pair (by rw [HN.out]), by rw [HN.out]; exact ho.keep (fun g hg => hb2.block g (foot_lt ho g (mem_foot1.2 hg))), hf, hb.trans (hb2.mono hb.size)⟩
    · clear c2
      go_enter Tryz.func199, Tryz.ntmps199
      go_wp2_with (first | (go_at_call 259; refine (l3Copy_ct _ _ z h (by omega)).mono ?_; rintro e w1 ⟨v', rfl, ho, hf, hb⟩) | (go_at_call 51; refine (HazOk_spec _ _ z (rd_up h hb)).mono ?_; rintro e w2 ⟨rfl, hb2⟩) | go_in)
      go_ret2
      exact ⟨v', ret_pair (by rw [HN.out]), by rw [HN.out]; exact ho.keep (fun g hg => hb2.block g (foot_lt ho g (mem_foot1.2 hg))), hf, hb.trans (hb2.mono hb.size)⟩
  obtain ⟨c3, c4⟩ := c2
  have HZ := Hid.mk_ (hazOk_len c1)
  obtain ⟨k, rfl⟩ := Int.eq_ofNat_of_zero_le c3
  have hk : k < 3 := by omega
  have hz0 : 0 < z.length := by rw [HZ.out]; decide
  obtain ⟨x, hx⟩ : ∃ x, z[k]? = some x := ⟨_, List.getElem?_eq_getElem (by rw [HZ.out]; exact hk)⟩
  obtain ⟨g0, off, cap0, hv, hg0, _, _, hq⟩ := h.at_ hx
  subst hv
  have q0 : w.cell? ⟨g0, off + k, none⟩ = some (.int .i64 x) := by simpa [FI] using hq 0 _ rfl
  have HX := Hid.mk_ hx
  clear hx hq
  by_cases c5 : x = 0
  · have HN := Hid.mk_ (show clearL z (k : Int) = (z, false) from if_neg (fun hh => hh.2.2.2 (by rw [Int.toNat_natCast, HX.out, c5])))
    have c6 : (x == 0) = true := by simpa using c5
    clear c5
    go_enter Tryz.func199, Tryz.ntmps199
    go_wp2_with (first | (go_at_call 259; refine (l3Copy_ct _ _ z h (by omega)).mono ?_; rintro e w1 ⟨v', rfl, ho, hf, hb⟩) | (go_at_call 51; refine (HazOk_spec _ _ z (rd_up h hb)).mono ?_; rintro e w2 ⟨rfl, hb2⟩; have hq2 := ((hb.trans (hb2.mono hb.size)).cell (p := ⟨g0, off + k, none⟩) hg0).trans q0; rw [HZ.out]) | go_in)
    go_ret2
    exact ⟨v', ret_pair (by rw [HN.out]), by rw [HN.out]; exact ho.keep (fun g hg => hb2.block g (foot_lt ho g (mem_foot1.2 hg))), hf, hb.trans (hb2.mono hb.size)⟩
  · have HN := Hid.mk_ (show clearL z (k : Int) = (z.set (k : Int).toNat 0, true) from if_pos ⟨c1, c3, c4, by rw [Int.toNat_natCast, HX.out]; simpa using c5⟩)
    have c6 : (x == 0) = false := by simpa using c5
    clear c5
    go_enter Tryz.func199, Tryz.ntmps199
    go_wp2_with (first | (go_at_call 259; refine (l3Copy_ct _ _ z h (by omega)).mono ?_; rintro e w1 ⟨v', rfl, ho, hf, hb⟩; obtain ⟨g, cap, hv, hg⟩ := ho.form_pos hz0; subst hv) | (go_at_call 51; refine (HazOk_spec _ _ z (rd_up h hb)).mono ?_; rintro e w2 ⟨rfl, hb2⟩; have hq2 := ((hb.trans (hb2.mono hb.size)).cell (p := ⟨g0, off + k, none⟩) hg0).trans q0; have ho2 := ho.keep (fun g hg => hb2.block g (foot_lt ho g (mem_foot1.2 hg))); have hf2 := ho2.frozen_ k; have hc2 := OwL.cellI ho2 HX.out; rw [HZ.out]) | go_in)
    have hs2 := ho2.set_ (k := k) (j := 0) (y := 0) (u := .int .i64 0) HX.out (by decide) rfl
    rw [show k * FI.n + 0 = k by simp [FI], HZ.out] at hs2
    go_ret2
    exact ⟨_, ret_pair (by rw [HN.out]), by rw [HN.out]; exact hs2, hf, (hb.trans (hb2.mono hb.size)).setCell (hf g (by simp [foot1, Value.ownBlock])) _⟩
