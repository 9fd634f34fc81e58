/-
  Hazard pointers: the contracts of the program and of the reference. Limbo lists: size, all rows. Limbo lists: is a slot in limbo. Limbo lists valid: the contracts. Clocks: valid, copied: the contracts. Clocks valid: the contracts.
-/
import Derived.Test.YtkldapdpaldbgaaGreatT
import Derived.Test.YtkldapdpaldbgaaGreatL
import Derived.Deep.QuietTactic
import Derived.BigQuiet
import Derived.Deep.LoopGhost
import Derived.Deep.RegionHeld3
import Derived.Test.YtkldapdpaldbgaaGreatN
import Derived.Test.YtkldapdpaldbgaaGreatA
import Derived.WalkSpells
import Derived.Laws.Cover3
import Derived.Test.YtkldapdpaldbgaaGreatI
import Derived.Deep.WholeRow
import Derived.Test.YtkldapdpaldbgaaGreatP
import Derived.Test.YtkldapdpaldbgaaGreatVC
namespace Go.Proofs.YtkldapdpaldbgaaGreat.Lim
open Go.RowKit

theorem Tryz.stInt : ST Tryz.prog FI 24 3 := ⟨Tryz.underlying24, .int .i64 0, 8, by kernel_rfl, rfl, by decide⟩

def idxOf {α : Type} (p : α → Bool) (l : List α) : Int := match l.findIdx? p with | some i => i | none => -1
theorem idxOf_hit {α : Type} (p : α → Bool) (l : List α) (i : Nat) (hi : i < l.length) (h : (l.take i).any p = false) (hp : p l[i] = true) : idxOf p l = i := by
  have hf : l.findIdx? p = some i := by
    rw [List.findIdx?_eq_some_iff_getElem]
    refine ⟨hi, hp, fun j hj => ?_⟩
    rw [List.any_eq_false] at h
    exact h l[j] (List.mem_take_iff_getElem.2 ⟨j, by omega, rfl⟩)
  unfold idxOf
  rw [hf]
theorem idxOf_none {α : Type} (p : α → Bool) (l : List α) (h : l.any p = false) : idxOf p l = -1 := by
  have hf : l.findIdx? p = none := by
    rw [List.findIdx?_eq_none_iff]
    intro x hx
    rw [List.any_eq_false] at h
    simpa using h x hx
  unfold idxOf
  rw [hf]
theorem any_take_succ {α : Type} (p : α → Bool) (l : List α) (i : Nat) (hi : i < l.length) (h : (l.take i).any p = false) (hp : p l[i] = false) : (l.take (i + 1)).any p = false := by
  rw [List.take_succ_eq_append_getElem hi, List.any_append, h]
  simp [hp]
theorem idxOf_ge {α : Type} (p : α → Bool) (l : List α) : decide (0 ≤ idxOf p l) = l.any p := by
  unfold idxOf
  cases h : l.findIdx? p with
  | none =>
    rw [List.findIdx?_eq_none_iff] at h
    have : l.any p = false := by
      rw [List.any_eq_false]
      intro x hx
      simp [h x hx]
    rw [this]
    rfl
  | some i =>
    rw [List.findIdx?_eq_some_iff_getElem] at h
    obtain ⟨hi, hp, _⟩ := h
    have : l.any p = true := List.any_eq_true.2 ⟨l[i], List.getElem_mem hi, hp⟩
    rw [this]
    simp

set_option maxHeartbeats 1000000 in
theorem IndexFuncInt_ct (w : World) (v : Value) (l : List Int) (h : RdL FI w w.heap.size v l) (fid : FuncId) (cap : Array Value) (p : Int → Bool) (hent : ∀ (x : Int) (W : World), (callFunc fid (#[.int .i64 x] ++ cap)).run Tryz.prog W = .ok (.enter fid (#[.int .i64 x] ++ cap)) W)
    (hf : ∀ (x : Int) (W : World), x ∈ l → Below w.heap.size w W → Calls Tryz.prog fid (#[.int .i64 x] ++ cap) W fun e W' => e = .returned (.bool (p x)) ∧ Below W.heap.size W W') :
    Calls Tryz.prog 145 #[v, .func (.func fid) #[] cap] w fun e w' => e = .returned (.int .i64 (idxOf p l)) ∧ Below w.heap.size w w' := by
  obtain ⟨A, c, hv, q1, q2, _⟩ := id h
  have hlt0 : l.length ≤ 9223372036854775807 := by unfold maxLen at q2; omega
  subst hv
  have HF := Hid.mk_ hf
  clear hf q1 q2
  go_enter Tryz.func145, Tryz.ntmps145
  go_wp2
  go_loopw [5, 8] (fun _ i wr => ∃ i' : Nat, i' ≤ l.length ∧ i = .int .i64 i' ∧ Below w.heap.size w wr ∧ (l.take i').any p = false) (fun _ i _ => l.length - (intOf i).toNat)
  case atStart => exact ⟨0, Nat.zero_le _, rfl, Below.refl _ _, rfl⟩
  case round =>
    obtain ⟨i, hi, rfl, hb, hno⟩ := hrel
    have HN := Hid.mk_ hno
    clear hno
    by_cases hlt : i < l.length
    · obtain ⟨g, off, cap', he, hg, _, _, hc⟩ := (h.below hb).at_ (List.getElem?_eq_getElem hlt)
      injection he with he1 he2 he3
      clear he2
      subst he1 he3
      have p0 : wr.cell? ⟨g, off + i, none⟩ = some (.int .i64 l[i]) := by simpa [FI] using hc 0 _ rfl
      clear hc h
      go_wp2_with fail
      refine (HF.out l[i] wr (List.getElem_mem hlt) hb).mono ?_
      rintro e w1 ⟨rfl, hb1⟩
      have hb2 := hb.trans (hb1.mono hb.size)
      by_cases hp : p l[i] = true
      · have HP := Hid.mk_ (idxOf_hit p l i hlt HN.out hp)
        rw [hp]
        clear hp
        go_wp2
        go_ret
        exact ⟨ret_i64 HP.out.symm, hb2⟩
      · have hp' : p l[i] = false := by simpa using hp
        have HP := Hid.mk_ (any_take_succ p l i hlt HN.out hp')
        rw [hp']
        clear hp hp'
        go_wp2
        go_roundw
        case rel => exact ⟨i + 1, by omega, by go_num, hb2, HP.out⟩
        case measure => simp [intOf]; omega
    · go_wp2
      go_ret
      obtain rfl : i = l.length := by omega
      exact ⟨ret_i64 (idxOf_none p l (by simpa using HN.out)).symm, hb⟩
set_option maxHeartbeats 1000000 in
theorem ContainsFuncInt_ct (w : World) (v : Value) (l : List Int) (h : RdL FI w w.heap.size v l) (fid : FuncId) (cap : Array Value) (p : Int → Bool) (hent : ∀ (x : Int) (W : World), (callFunc fid (#[.int .i64 x] ++ cap)).run Tryz.prog W = .ok (.enter fid (#[.int .i64 x] ++ cap)) W)
    (hf : ∀ (x : Int) (W : World), x ∈ l → Below w.heap.size w W → Calls Tryz.prog fid (#[.int .i64 x] ++ cap) W fun e W' => e = .returned (.bool (p x)) ∧ Below W.heap.size W W') :
    Calls Tryz.prog 70 #[v, .func (.func fid) #[] cap] w fun e w' => e = .returned (.bool (l.any p)) ∧ Below w.heap.size w w' := by
  have HF := Hid.mk_ hf
  clear hf
  go_enter Tryz.func70, Tryz.ntmps70
  go_wp2_with fail
  refine (IndexFuncInt_ct w v l h fid cap p hent HF.out).mono ?_
  rintro e w1 ⟨rfl, hb1⟩
  have HP := Hid.mk_ (idxOf_ge p l)
  go_wp2
  go_ret
  exact ⟨ret_bool HP.out, hb1⟩

def handleOkB (h : Int) : Bool := decide (32 ≤ h) && decide (h ≤ 223) && decide (h % 32 < 24)
def linkB (h : Int) : Bool := (h == 0) || handleOkB h

set_option maxHeartbeats 400000 in
theorem HandleOk_spec (h : Int) (w : World) : Calls Tryz.prog 131 #[.int .i64 h] w fun e w' => e = .returned (.bool (handleOkB h)) ∧ w' = w := by
  by_cases h1 : 32 ≤ h
  · by_cases h2 : h ≤ 223
    · go_enter Tryz.func131, Tryz.ntmps131
      go_wp2
      go_ret
      exact ⟨ret_bool (by simp [handleOkB, h1, h2]), rfl⟩
    · go_enter Tryz.func131, Tryz.ntmps131
      go_wp2
      go_ret
      exact ⟨ret_bool (by simp [handleOkB]; omega), rfl⟩
  · go_enter Tryz.func131, Tryz.ntmps131
    go_wp2
    go_ret
    exact ⟨ret_bool (by simp [handleOkB]; omega), rfl⟩

set_option maxHeartbeats 400000 in
theorem HandleOk_impl (h : Int) (w : World) : Calls Tryz.prog 148 #[.int .i64 h] w fun e w' => e = .returned (.bool (handleOkB h)) ∧ w' = w := by
  by_cases h1 : 32 ≤ h
  · by_cases h2 : h ≤ 223
    · go_enter Tryz.func148, Tryz.ntmps148
      go_wp2
      go_ret
      exact ⟨ret_bool (by simp [handleOkB, h1, h2]), rfl⟩
    · go_enter Tryz.func148, Tryz.ntmps148
      go_wp2
      go_ret
      exact ⟨ret_bool (by simp [handleOkB]; omega), rfl⟩
  · go_enter Tryz.func148, Tryz.ntmps148
    go_wp2
    go_ret
    exact ⟨ret_bool (by simp [handleOkB]; omega), rfl⟩

set_option maxHeartbeats 400000 in
theorem isLink_impl (h : Int) (w : World) : Calls Tryz.prog 113 #[.int .i64 h] w fun e w' => e = .returned (.bool (linkB h)) ∧ w' = w := by
  by_cases h1 : h = 0
  · subst h1
    go_enter Tryz.func113, Tryz.ntmps113
    go_wp2
    go_ret
    exact ⟨rfl, rfl⟩
  · have h2 : (h == 0) = false := by simpa using h1
    go_enter Tryz.func113, Tryz.ntmps113
    go_wp2_with (go_at_call 148; refine (HandleOk_impl _ _).mono ?_; rintro e w1 ⟨rfl, rfl⟩)
    go_ret
    exact ⟨ret_bool (by simp [linkB, h2]), rfl⟩
set_option maxHeartbeats 400000 in
theorem HazOk1_impl (h : Int) (w : World) : Calls Tryz.prog 169 #[.int .i64 h] w fun e w' => e = .returned (.bool (!linkB h)) ∧ w' = w := by
  go_enter Tryz.func169, Tryz.ntmps169
  go_wp2_with (go_at_call 113; refine (isLink_impl _ _).mono ?_; rintro e w1 ⟨rfl, rfl⟩)
  go_ret
  exact ⟨rfl, rfl⟩
def hazOkB (z : List Int) : Bool := (z.length == 3) && !(z.any fun h => !linkB h)
set_option maxHeartbeats 400000 in
theorem HazOk_impl (w : World) (v : Value) (z : List Int) (h : RdL FI w w.heap.size v z) : Calls Tryz.prog 91 #[v] w fun e w' => e = .returned (.bool (hazOkB z)) ∧ Below w.heap.size w w' := by
  obtain ⟨A, c, hv, _⟩ := id h
  subst hv
  by_cases h3 : z.length = 3
  · have h4 : ((z.length : Int) == 3) = true := by simp; omega
    have H3 := Hid.mk_ h3
    clear h3
    go_enter Tryz.func91, Tryz.ntmps91
    go_wp2_with fail
    refine (ContainsFuncInt_ct w _ z h 169 #[] (fun h => !linkB h) (fun _ _ => by kernel_rfl) (fun x W _ _ => (HazOk1_impl x W).mono fun e W' hh => ⟨hh.1, by rw [hh.2]; exact Below.refl _ _⟩)).mono ?_
    rintro e w1 ⟨rfl, hb1⟩
    go_wp2
    go_ret
    exact ⟨ret_bool (by simp [hazOkB, H3.out]), hb1⟩
  · have h4 : ((z.length : Int) == 3) = false := by simp; omega
    go_enter Tryz.func91, Tryz.ntmps91
    go_wp2
    go_ret
    exact ⟨ret_bool (by simp [hazOkB, h3]), Below.refl _ _⟩

set_option maxHeartbeats 1000000 in
theorem HazOk_spec (w : World) (v : Value) (z : List Int) (h : RdL FI w w.heap.size v z) : Calls Tryz.prog 51 #[v] w fun e w' => e = .returned (.bool (hazOkB z)) ∧ Below w.heap.size w w' := by
  obtain ⟨A, c, hv, q1, q2, _⟩ := id h
  have hlt0 : z.length ≤ 9223372036854775807 := by unfold maxLen at q2; omega
  subst hv
  clear q1 q2
  go_enter Tryz.func51, Tryz.ntmps51
  go_wp2
  go_loopw [3] (fun i wr => ∃ i' : Nat, i' ≤ z.length ∧ i = .int .i64 i' ∧ Below w.heap.size w wr ∧ Hid ((z.take i').any (fun h => !linkB h) = false)) (fun i _ => z.length - (intOf i).toNat)
  case atStart => exact ⟨0, Nat.zero_le _, rfl, Below.refl _ _, rfl⟩
  case round =>
    obtain ⟨i, hi, rfl, hb, HN⟩ := hrel
    by_cases hlt : i < z.length
    · obtain ⟨g, off, cap', he, hg, _, _, hc⟩ := (h.below hb).at_ (List.getElem?_eq_getElem hlt)
      injection he with he1 he2 he3
      clear he2
      subst he1 he3
      have p0 : wr.cell? ⟨g, off + i, none⟩ = some (.int .i64 z[i]) := by simpa [FI] using hc 0 _ rfl
      clear hc h
      by_cases hz : z[i] = 0
      · have hz1 : (z[i] != 0) = false := by simpa using hz
        have HS := Hid.mk_ (any_take_succ (fun h => !linkB h) z i hlt HN.out (by simp [linkB, hz]))
        clear hz
        go_wp2_with (go_at_call 131; refine (HandleOk_spec _ _).mono ?_; rintro e w1 ⟨rfl, rfl⟩)
        go_roundw
        case rel => exact ⟨i + 1, by omega, by go_num, hb, HS⟩
        case measure => simp [intOf]; omega
      · have hz1 : (z[i] != 0) = true := by simpa using hz
        by_cases hh : handleOkB z[i] = true
        · have HS := Hid.mk_ (any_take_succ (fun h => !linkB h) z i hlt HN.out (by simp [linkB, hh]))
          clear hz
          go_wp2_with (go_at_call 131; refine (HandleOk_spec _ _).mono ?_; rintro e w1 ⟨rfl, rfl⟩)
          go_roundw
          case rel => exact ⟨i + 1, by omega, by go_num, hb, HS⟩
          case measure => simp [intOf]; omega
        · have hh' : handleOkB z[i] = false := by simpa using hh
          have HS := Hid.mk_ (show hazOkB z = false from by
            have : (z.any fun h => !linkB h) = true := List.any_eq_true.2 ⟨z[i], List.getElem_mem hlt, by simp [linkB, hh', hz]⟩
            simp [hazOkB, this])
          clear hz hh
          go_wp2_with (go_at_call 131; refine (HandleOk_spec _ _).mono ?_; rintro e w1 ⟨rfl, rfl⟩)
          go_ret
          exact ⟨ret_bool HS.out.symm, hb⟩
    · go_wp2
      go_ret
      obtain rfl : i = z.length := by omega
      refine ⟨ret_bool ?_, hb⟩
      have := HN.out
      rw [List.take_length] at this
      simp only [hazOkB, this]
      rw [Bool.eq_iff_iff]; simp; try omega

def publishL (z : List Int) (wk h : Int) : List Int × Bool := if hazOkB z = true ∧ 0 ≤ wk ∧ wk ≤ 2 ∧ handleOkB h = true then (z.set wk.toNat h, true) else (z, false)
theorem ret_pair {v : Value} {a b : Bool} (h : a = b) : Ending.returned (.tuple #[v, .bool a]) = .returned (.tuple #[v, .bool b]) := by rw [h]
theorem hazOk_len {z : List Int} (h : hazOkB z = true) : z.length = 3 := by
  simp [hazOkB] at h
  exact h.1
theorem OwL.cellI {e : TypeId} {w : World} {g n c k : Nat} {l : List Int} {x : Int} (h : OwL FI e w (.slice (some ⟨g, 0, none⟩) n c) l) (hx : l[k]? = some x) : w.cell? ⟨g, k, none⟩ = some (.int .i64 x) := by simpa [FI] using h.cell_ (k := k) (j := 0) hx (by decide)
theorem _root_.Go.Proofs.YtkldapdpaldbgaaGreat.OwL.form_pos {α : Type} {T : FT α} {e : TypeId} {w : World} {v : Value} {l : List α} (h : OwL T e w v l) (hl : 0 < l.length) : ∃ g cap, v = .slice (some ⟨g, 0, none⟩) l.length cap ∧ g < w.heap.size := by
  rcases h.form with ⟨_, rfl⟩ | ⟨g, cap, hv, hg, _, _⟩
  · simp at hl
  · exact ⟨g, cap, hv, hg⟩

set_option maxHeartbeats 400000 in
theorem CloneInt_ct (w : World) (v : Value) (l : List Int) (h : RdL FI w w.heap.size v l) (hs : l.length ≤ 1073741824) :
    Calls Tryz.prog 154 #[v] w fun e w' => ∃ v', e = .returned v' ∧ OwL FI 3 w' v' l ∧ (∀ g ∈ foot1 v', w.heap.size ≤ g) ∧ Below w.heap.size w w' := by
  obtain ⟨A, c, hv, _, _, q3⟩ := id h
  subst hv
  have heq := fun w => Lib.run_eql_slice_nil (P := Tryz.prog) w 24 3 A l.length c 0 0 Tryz.underlying24
  cases A with
  | none =>
    have hl : l = [] := by
      apply Classical.byContradiction
      intro hne
      obtain ⟨g, off, hA, _⟩ := q3 hne
      cases hA
    have HL := Hid.mk_ hl
    clear hl q3 h
    go_enter Tryz.func154, Tryz.ntmps154
    go_wp2
    go_ret
    exact ⟨_, rfl, by rw [HL.out]; exact World.ownsRow_nil _ _ _ _, by simp [foot1, Value.ownBlock], Below.refl _ _⟩
  | some a =>
    go_enter Tryz.func154, Tryz.ntmps154
    go_wp2_with (at_builtin; refine wpList_append_flat Tryz.stInt rfl _ _ rfl (v := .slice (some ⟨w.heap.size, 0, none⟩) 0 0) (y := .slice (some a) l.length c) (l := []) (m := l) rfl rfl (OwL.lit FI [] #[] rfl (by simp [maxLen]) _ _) (h.alloc_ (Nat.le_refl _) (Nat.le_succ _) _) (by simpa using hs) ?_; intro v' w1 ho hg hat)
    go_ret
    have hb : Below w.heap.size w w1 := ((Below.refl _ _).alloc (Nat.le_refl _) _).grown hg (by simp) (by simp [Value.ownBlock])
    exact ⟨v', rfl, by simpa using ho, fun g hg' => by rcases foot_app hat g hg' with h | h; (simp [foot1, Value.ownBlock] at h; omega); (simp at h; omega), hb⟩

set_option maxHeartbeats 400000 in
theorem l3Copy_ct (w : World) (v : Value) (l : List Int) (h : RdL FI w w.heap.size v l) (hs : l.length ≤ 1073741824) :
    Calls Tryz.prog 259 #[v] w fun e w' => ∃ v', e = .returned v' ∧ OwL FI 3 w' v' l ∧ (∀ g ∈ foot1 v', w.heap.size ≤ g) ∧ Below w.heap.size w w' := by
  obtain ⟨A, c, hv, _, _, q3⟩ := id h
  subst hv
  go_enter Tryz.func259, Tryz.ntmps259
  go_wp2_with (at_builtin; refine wpList_append_flat Tryz.stInt rfl _ _ rfl (v := .slice (some ⟨w.heap.size, 0, none⟩) 0 0) (y := .slice A l.length c) (l := []) (m := l) rfl rfl (OwL.lit FI [] #[] rfl (by simp [maxLen]) _ _) (h.alloc_ (Nat.le_refl _) (Nat.le_succ _) _) (by simpa using hs) ?_; intro v' w1 ho hg hat)
  go_ret
  have hb : Below w.heap.size w w1 := ((Below.refl _ _).alloc (Nat.le_refl _) _).grown hg (by simp) (by simp [Value.ownBlock])
  exact ⟨v', rfl, by simpa using ho, fun g hg' => by rcases foot_app hat g hg' with h | h; (simp [foot1, Value.ownBlock] at h; omega); (simp at h; omega), hb⟩

def clearL (z : List Int) (wk : Int) : List Int × Bool := if hazOkB z = true ∧ 0 ≤ wk ∧ wk ≤ 2 ∧ z[wk.toNat]? ≠ some 0 then (z.set wk.toNat 0, true) else (z, false)
def hazAtI (z : List Int) (wk : Int) : Int := if hazOkB z = true ∧ 0 ≤ wk ∧ wk ≤ 2 then z.getD wk.toNat 0 else 0

def heldTo (z : List Int) (h : Int) (k : Nat) : List Int := ((List.range k).filter fun j => z.getD j 0 == h).map fun (j : Nat) => (j : Int)
def heldL (z : List Int) (h : Int) : List Int := if hazOkB z = true ∧ h ≠ 0 then heldTo z h z.length else []
theorem heldTo_len (z : List Int) (h : Int) (k : Nat) : (heldTo z h k).length ≤ k := by
  unfold heldTo
  rw [List.length_map]
  exact Nat.le_trans (List.length_filter_le _ _) (by simp)
theorem heldTo_yes (z : List Int) (h : Int) (k : Nat) (he : z.getD k 0 = h) : heldTo z h (k + 1) = heldTo z h k ++ [(k : Int)] := by
  subst he
  simp [heldTo, List.range_succ, List.filter_append]
theorem heldTo_no (z : List Int) (h : Int) (k : Nat) (he : z.getD k 0 ≠ h) : heldTo z h (k + 1) = heldTo z h k := by
  simp only [heldTo, List.range_succ, List.filter_append, List.map_append]
  simp at he ⊢
  exact he

set_option maxHeartbeats 1000000 in
theorem Publish_spec (w : World) (v : Value) (z : List Int) (wk h0 : Int) (h : RdL FI w w.heap.size v z) (hs : z.length ≤ 1048576) :
    Calls Tryz.prog 197 #[v, .int .i64 wk, .int .i64 h0] w fun e w' => ∃ v', e = .returned (.tuple #[v', .bool (publishL z wk h0).2]) ∧ OwL FI 3 w' v' (publishL z wk h0).1 ∧ (∀ g ∈ foot1 v', w.heap.size ≤ g) ∧ Below w.heap.size w w' := by
  by_cases c1 : hazOkB z = true
  case neg =>
    have hn : publishL z wk h0 = (z, false) := if_neg (fun hh => c1 hh.1)
    have c1' : hazOkB z = false := by simpa using c1
    have HN := Hid.mk_ hn
    clear hn c1
    go_enter Tryz.func197, Tryz.ntmps197
    go_wp2_with (first | (go_at_call 259; refine (l3Copy_ct _ _ z h (by omega)).mono ?_; rintro e w1 ⟨v', rfl, ho, hf, hb⟩) | (go_at_call 51; refine (HazOk_spec _ _ z (rd_up h hb)).mono ?_; rintro e w2 ⟨rfl, hb2⟩) | go_in)
    go_ret2
    exact ⟨v', ret_pair (by rw [HN.out]), by rw [HN.out]; exact ho.keep (fun g hg => hb2.block g (foot_lt ho g (mem_foot1.2 hg))), hf, hb.trans (hb2.mono hb.size)⟩
  by_cases c2 : 0 ≤ wk ∧ wk ≤ 2
  case neg =>
    have hn : publishL z wk h0 = (z, false) := if_neg (fun hh => c2 ⟨hh.2.1, hh.2.2.1⟩)
    have HN := Hid.mk_ hn
    clear hn
    by_cases c3 : 0 ≤ wk
    · have c4 : decide (wk ≤ 2) = false := by simp; omega
      clear c2
      go_enter Tryz.func197, Tryz.ntmps197
      go_wp2_with (first | (go_at_call 259; refine (l3Copy_ct _ _ z h (by omega)).mono ?_; rintro e w1 ⟨v', rfl, ho, hf, hb⟩) | (go_at_call 51; refine (HazOk_spec _ _ z (rd_up h hb)).mono ?_; rintro e w2 ⟨rfl, hb2⟩) | go_in)
      go_ret2
      exact ⟨v', ret_pair (by rw [HN.out]), by rw [HN.out]; exact ho.keep (fun g hg => hb2.block g (foot_lt ho g (mem_foot1.2 hg))), hf, hb.trans (hb2.mono hb.size)⟩
    · clear c2
      go_enter Tryz.func197, Tryz.ntmps197
      go_wp2_with (first | (go_at_call 259; refine (l3Copy_ct _ _ z h (by omega)).mono ?_; rintro e w1 ⟨v', rfl, ho, hf, hb⟩) | (go_at_call 51; refine (HazOk_spec _ _ z (rd_up h hb)).mono ?_; rintro e w2 ⟨rfl, hb2⟩) | go_in)
      go_ret2
      exact ⟨v', ret_pair (by rw [HN.out]), by rw [HN.out]; exact ho.keep (fun g hg => hb2.block g (foot_lt ho g (mem_foot1.2 hg))), hf, hb.trans (hb2.mono hb.size)⟩
  obtain ⟨c3, c4⟩ := c2
  by_cases c5 : handleOkB h0 = true
  case neg =>
    have hn : publishL z wk h0 = (z, false) := if_neg (fun hh => c5 hh.2.2.2)
    have c5' : handleOkB h0 = false := by simpa using c5
    have HN := Hid.mk_ hn
    clear hn c5
    go_enter Tryz.func197, Tryz.ntmps197
    go_wp2_with (first | (go_at_call 259; refine (l3Copy_ct _ _ z h (by omega)).mono ?_; rintro e w1 ⟨v', rfl, ho, hf, hb⟩) | (go_at_call 51; refine (HazOk_spec _ _ z (rd_up h hb)).mono ?_; rintro e w2 ⟨rfl, hb2⟩) | (go_at_call 131; refine (HandleOk_spec _ _).mono ?_; rintro e w3 ⟨rfl, rfl⟩) | go_in)
    go_ret2
    exact ⟨v', ret_pair (by rw [HN.out]), by rw [HN.out]; exact ho.keep (fun g hg => hb2.block g (foot_lt ho g (mem_foot1.2 hg))), hf, hb.trans (hb2.mono hb.size)⟩
  have hn : publishL z wk h0 = (z.set wk.toNat h0, true) := if_pos ⟨c1, c3, c4, c5⟩
  have HN := Hid.mk_ hn
  have hz3 := hazOk_len c1
  have HZ := Hid.mk_ hz3
  clear hn hz3
  obtain ⟨k, rfl⟩ := Int.eq_ofNat_of_zero_le c3
  have hk : k < 3 := by omega
  have hz0 : 0 < z.length := by rw [HZ.out]; decide
  obtain ⟨x, hx⟩ : ∃ x, z[k]? = some x := ⟨_, List.getElem?_eq_getElem (by rw [HZ.out]; exact hk)⟩
  have HX := Hid.mk_ hx
  clear hx
  go_enter Tryz.func197, Tryz.ntmps197
  go_wp2_with (first | (go_at_call 259; refine (l3Copy_ct _ _ z h (by omega)).mono ?_; rintro e w1 ⟨v', rfl, ho, hf, hb⟩; obtain ⟨g, cap, hv, hg⟩ := ho.form_pos hz0; subst hv) | (go_at_call 51; refine (HazOk_spec _ _ z (rd_up h hb)).mono ?_; rintro e w2 ⟨rfl, hb2⟩; have ho2 := ho.keep (fun g hg => hb2.block g (foot_lt ho g (mem_foot1.2 hg))); have hf2 := ho2.frozen_ k; have hc2 := OwL.cellI ho2 HX.out; rw [HZ.out]) | (go_at_call 131; refine (HandleOk_spec _ _).mono ?_; rintro e w3 ⟨rfl, rfl⟩) | go_in)
  have hs2 := ho2.set_ (k := k) (j := 0) (y := h0) (u := .int .i64 h0) HX.out (by decide) rfl
  rw [show k * FI.n + 0 = k by simp [FI], HZ.out] at hs2
  go_ret2
  exact ⟨_, ret_pair (by rw [HN.out]), by rw [HN.out]; exact hs2, hf, (hb.trans (hb2.mono hb.size)).setCell (hf g (by simp [foot1, Value.ownBlock])) _⟩

set_option maxRecDepth 100000 in
set_option maxHeartbeats 1000000 in
theorem Clear_spec (w : World) (v : Value) (z : List Int) (wk : Int) (h : RdL FI w w.heap.size v z) (hs : z.length ≤ 1048576) :
    Calls Tryz.prog 199 #[v, .int .i64 wk] w fun e w' => ∃ v', e = .returned (.tuple #[v', .bool (clearL z wk).2]) ∧ OwL FI 3 w' v' (clearL z wk).1 ∧ (∀ g ∈ foot1 v', w.heap.size ≤ g) ∧ Below w.heap.size w w' := by
  by_cases c1 : hazOkB z = true
  case neg =>
    have HN := Hid.mk_ (show clearL z wk = (z, false) from if_neg (fun hh => c1 hh.1))
    have c1' : hazOkB z = false := by simpa using c1
    clear c1
    go_enter Tryz.func199, Tryz.ntmps199
    go_wp2_with (first | (go_at_call 259; refine (l3Copy_ct _ _ z h (by omega)).mono ?_; rintro e w1 ⟨v', rfl, ho, hf, hb⟩) | (go_at_call 51; refine (HazOk_spec _ _ z (rd_up h hb)).mono ?_; rintro e w2 ⟨rfl, hb2⟩) | go_in)
    go_ret2
    exact ⟨v', ret_pair (by rw [HN.out]), by rw [HN.out]; exact ho.keep (fun g hg => hb2.block g (foot_lt ho g (mem_foot1.2 hg))), hf, hb.trans (hb2.mono hb.size)⟩
  by_cases c2 : 0 ≤ wk ∧ wk ≤ 2
  case neg =>
    have HN := Hid.mk_ (show clearL z wk = (z, false) from if_neg (fun hh => c2 ⟨hh.2.1, hh.2.2.1⟩))
    by_cases c3 : 0 ≤ wk
    · have c4 : decide (wk ≤ 2) = false := by simp; omega
      clear c2
      go_enter Tryz.func199, Tryz.ntmps199
      go_wp2_with (first | (go_at_call 259; refine (l3Copy_ct _ _ z h (by omega)).mono ?_; rintro e w1 ⟨v', rfl, ho, hf, hb⟩) | (go_at_call 51; refine (HazOk_spec _ _ z (rd_up h hb)).mono ?_; rintro e w2 ⟨rfl, hb2⟩) | go_in)
      go_ret2
      exact ⟨v', ret_pair (by rw [HN.out]), by rw [HN.out]; exact ho.keep (fun g hg => hb2.block g (foot_lt ho g (mem_foot1.2 hg))), hf, hb.trans (hb2.mono hb.size)⟩
    · clear c2
      go_enter Tryz.func199, Tryz.ntmps199
      go_wp2_with (first | (go_at_call 259; refine (l3Copy_ct _ _ z h (by omega)).mono ?_; rintro e w1 ⟨v', rfl, ho, hf, hb⟩) | (go_at_call 51; refine (HazOk_spec _ _ z (rd_up h hb)).mono ?_; rintro e w2 ⟨rfl, hb2⟩) | go_in)
      go_ret2
      exact ⟨v', ret_pair (by rw [HN.out]), by rw [HN.out]; exact ho.keep (fun g hg => hb2.block g (foot_lt ho g (mem_foot1.2 hg))), hf, hb.trans (hb2.mono hb.size)⟩
  obtain ⟨c3, c4⟩ := c2
  have HZ := Hid.mk_ (hazOk_len c1)
  obtain ⟨k, rfl⟩ := Int.eq_ofNat_of_zero_le c3
  have hk : k < 3 := by omega
  have hz0 : 0 < z.length := by rw [HZ.out]; decide
  obtain ⟨x, hx⟩ : ∃ x, z[k]? = some x := ⟨_, List.getElem?_eq_getElem (by rw [HZ.out]; exact hk)⟩
  obtain ⟨g0, off, cap0, hv, hg0, _, _, hq⟩ := h.at_ hx
  subst hv
  have q0 : w.cell? ⟨g0, off + k, none⟩ = some (.int .i64 x) := by simpa [FI] using hq 0 _ rfl
  have HX := Hid.mk_ hx
  clear hx hq
  by_cases c5 : x = 0
  · have HN := Hid.mk_ (show clearL z (k : Int) = (z, false) from if_neg (fun hh => hh.2.2.2 (by rw [Int.toNat_natCast, HX.out, c5])))
    have c6 : (x == 0) = true := by simpa using c5
    clear c5
    go_enter Tryz.func199, Tryz.ntmps199
    go_wp2_with (first | (go_at_call 259; refine (l3Copy_ct _ _ z h (by omega)).mono ?_; rintro e w1 ⟨v', rfl, ho, hf, hb⟩) | (go_at_call 51; refine (HazOk_spec _ _ z (rd_up h hb)).mono ?_; rintro e w2 ⟨rfl, hb2⟩; have hq2 := ((hb.trans (hb2.mono hb.size)).cell (p := ⟨g0, off + k, none⟩) hg0).trans q0; rw [HZ.out]) | go_in)
    go_ret2
    exact ⟨v', ret_pair (by rw [HN.out]), by rw [HN.out]; exact ho.keep (fun g hg => hb2.block g (foot_lt ho g (mem_foot1.2 hg))), hf, hb.trans (hb2.mono hb.size)⟩
  · have HN := Hid.mk_ (show clearL z (k : Int) = (z.set (k : Int).toNat 0, true) from if_pos ⟨c1, c3, c4, by rw [Int.toNat_natCast, HX.out]; simpa using c5⟩)
    have c6 : (x == 0) = false := by simpa using c5
    clear c5
    go_enter Tryz.func199, Tryz.ntmps199
    go_wp2_with (first | (go_at_call 259; refine (l3Copy_ct _ _ z h (by omega)).mono ?_; rintro e w1 ⟨v', rfl, ho, hf, hb⟩; obtain ⟨g, cap, hv, hg⟩ := ho.form_pos hz0; subst hv) | (go_at_call 51; refine (HazOk_spec _ _ z (rd_up h hb)).mono ?_; rintro e w2 ⟨rfl, hb2⟩; have hq2 := ((hb.trans (hb2.mono hb.size)).cell (p := ⟨g0, off + k, none⟩) hg0).trans q0; have ho2 := ho.keep (fun g hg => hb2.block g (foot_lt ho g (mem_foot1.2 hg))); have hf2 := ho2.frozen_ k; have hc2 := OwL.cellI ho2 HX.out; rw [HZ.out]) | go_in)
    have hs2 := ho2.set_ (k := k) (j := 0) (y := 0) (u := .int .i64 0) HX.out (by decide) rfl
    rw [show k * FI.n + 0 = k by simp [FI], HZ.out] at hs2
    go_ret2
    exact ⟨_, ret_pair (by rw [HN.out]), by rw [HN.out]; exact hs2, hf, (hb.trans (hb2.mono hb.size)).setCell (hf g (by simp [foot1, Value.ownBlock])) _⟩
end Go.Proofs.YtkldapdpaldbgaaGreat.Lim
namespace Go.Proofs.YtkldapdpaldbgaaGreat.Lim
open Go.RowKit

theorem Tryz.stLRow : ST Tryz.prog FLRow 95 99 := ⟨Tryz.underlying95, .agg #[.int .i64 0, .int .i64 0], 16, by kernel_rfl, rfl, by decide⟩

set_option maxRecDepth 100000 in
set_option maxHeartbeats 1000000 in
theorem LimboSize_impl (w : World) (v : Value) (t : List SV) (ll : List (List LRow)) (h : RdLL FLRow w w.heap.size v t ll) (hs : szLL ll ≤ 1073741824) :
    Calls Tryz.prog 168 #[v] w fun e w' => e = .returned (.int .i64 (totLL ll : Nat)) ∧ Below w.heap.size w w' := by
  obtain ⟨A, c, hv, _⟩ := id h.outer
  subst hv
  obtain ⟨en, hcap, hmx⟩ := h.len'
  have hlt0 : ll.length ≤ 9223372036854775807 := by unfold maxLen at hmx; omega
  rw [en] at h ⊢
  clear en hcap hmx
  go_enter Tryz.func168, Tryz.ntmps168
  go_wp2
  go_loopw [3, 5, 8] (fun q _ i wr => ∃ k : Nat, k ≤ ll.length ∧ i = .int .i64 k ∧ q = .int .i64 (totLL (ll.take k) : Nat) ∧ Below w.heap.size w wr) (fun _ _ i _ => ll.length - (intOf i).toNat)
  case atStart => exact ⟨0, Nat.zero_le _, rfl, rfl, Below.refl _ _⟩
  case round =>
    obtain ⟨i, hi, rfl, rfl, hb⟩ := hrel
    by_cases hlt : i < ll.length
    · obtain ⟨g, o, A', c', rfl, hg, p0, r1⟩ := h.row hb hlt
      have ht1 := Hid.mk_ (totLL_take_succ ll i hlt)
      have ht2 := totLL_take_le ll i
      have ht3 : ll[i].length ≤ 1073741824 := Nat.le_trans (le_szLL (List.getElem_mem hlt)) hs
      have ht4 : totLL ll ≤ 1073741824 := Nat.le_trans (Nat.le_add_left _ _) hs
      clear h r1 hs
      go_wp2
      go_roundw
      case rel => exact ⟨i + 1, by omega, by go_num, by rw [ht1.out]; go_num, hb.alloc hb.size _⟩
      case measure => simp [intOf]; omega
    · go_wp2
      go_ret
      obtain rfl : i = ll.length := by omega
      exact ⟨ret_i64 (by rw [List.take_length]), hb⟩

set_option maxRecDepth 100000 in
set_option maxHeartbeats 1000000 in
theorem l11All_ct (w : World) (v : Value) (t : List SV) (ll : List (List LRow)) (h : RdLL FLRow w w.heap.size v t ll) (hs : szLL ll ≤ 536870912) :
    Calls Tryz.prog 52 #[v] w fun e w' => ∃ v', e = .returned v' ∧ OwL FLRow 99 w' v' ll.flatten ∧ (∀ g ∈ foot1 v', w.heap.size ≤ g) ∧ Below w.heap.size w w' := by
  obtain ⟨A, c, hv, _⟩ := id h.outer
  subst hv
  obtain ⟨en, hcap, hmx⟩ := h.len'
  have hlt0 : ll.length ≤ 9223372036854775807 := by unfold maxLen at hmx; omega
  rw [en] at h ⊢
  clear en hcap hmx
  go_enter Tryz.func52, Tryz.ntmps52
  go_wp2
  go_loopw [3, 4] (fun o i wr => ∃ k : Nat, k ≤ ll.length ∧ i = .int .i64 k ∧ OwL FLRow 99 wr o (ll.take k).flatten ∧ (∀ g ∈ foot1 o, w.heap.size ≤ g) ∧ Below w.heap.size w wr) (fun _ i _ => ll.length - (intOf i).toNat)
  case atStart => exact ⟨0, Nat.zero_le _, rfl, OwL.lit FLRow [] #[] rfl (by decide) w 99, by simp [foot1, Value.ownBlock], (Below.refl _ _).alloc (Nat.le_refl _) _⟩
  case round =>
    obtain ⟨i, hi, rfl, ho, hfo, hb⟩ := hrel
    by_cases hlt : i < ll.length
    · obtain ⟨g, o, A', c', rfl, hg, p0, r1⟩ := h.row hb hlt
      have hfl : (ll.take i).flatten.length + ll[i].length ≤ 1073741824 := by
        rw [← totLL_eq]
        have a := totLL_take_succ ll i hlt
        have b := totLL_take_le ll (i + 1)
        have c : totLL ll ≤ szLL ll := Nat.le_add_left _ _
        omega
      have HF := Hid.mk_ (show (ll.take (i + 1)).flatten = (ll.take i).flatten ++ ll[i] from by rw [List.take_succ_eq_append_getElem hlt, List.flatten_append, List.flatten_singleton])
      clear h
      go_wp2_with (at_builtin; refine wpList_append_flat Tryz.stLRow rfl _ _ rfl (v := u3) (y := .slice A' ll[i].length c') (l := (ll.take i).flatten) (m := ll[i]) rfl rfl ho (rd_up r1 hb) hfl ?_; intro v' w3 ho' hg' hat')
      have hb3 : Below w.heap.size w w3 := hb.grown hg' hb.size (fun k hk => hfo k (mem_foot1.2 hk))
      go_roundw
      case rel => exact ⟨i + 1, by omega, by go_num, by rw [HF.out]; exact ho', fun b hb' => by rcases foot_app hat' b hb' with h | h; (exact hfo b h); (have := hb.size; omega), hb3⟩
      case measure => simp [intOf]; omega
    · go_wp2
      go_ret
      obtain rfl : i = ll.length := by omega
      exact ⟨u3, rfl, by simpa using ho, hfo, hb⟩
end Go.Proofs.YtkldapdpaldbgaaGreat.Lim
namespace Go.Proofs.YtkldapdpaldbgaaGreat.Lim
open Go.RowKit

set_option maxHeartbeats 1000000 in
theorem IndexFuncLRow_ct (w : World) (v : Value) (l : List LRow) (h : RdL FLRow w w.heap.size v l) (fid : FuncId) (cap : Array Value) (p : LRow → Bool) (hent : ∀ (x : LRow) (W : World), (callFunc fid (#[.agg #[.int .i64 x.Handle, .int .i64 x.Epoch]] ++ cap)).run Tryz.prog W = .ok (.enter fid (#[.agg #[.int .i64 x.Handle, .int .i64 x.Epoch]] ++ cap)) W)
    (hf : ∀ (x : LRow) (W : World), x ∈ l → Below w.heap.size w W → Calls Tryz.prog fid (#[.agg #[.int .i64 x.Handle, .int .i64 x.Epoch]] ++ cap) W fun e W' => e = .returned (.bool (p x)) ∧ Below W.heap.size W W') :
    Calls Tryz.prog 171 #[v, .func (.func fid) #[] cap] w fun e w' => e = .returned (.int .i64 (idxOf p l)) ∧ Below w.heap.size w w' := by
  obtain ⟨A, c, hv, q1, q2, _⟩ := id h
  have hlt0 : l.length ≤ 9223372036854775807 := by unfold maxLen at q2; omega
  subst hv
  have HF := Hid.mk_ hf
  clear hf q1 q2
  go_enter Tryz.func171, Tryz.ntmps171
  go_wp2
  go_loopw [5, 8] (fun _ i wr => ∃ i' : Nat, i' ≤ l.length ∧ i = .int .i64 i' ∧ Below w.heap.size w wr ∧ (l.take i').any p = false) (fun _ i _ => l.length - (intOf i).toNat)
  case atStart => exact ⟨0, Nat.zero_le _, rfl, Below.refl _ _, rfl⟩
  case round =>
    obtain ⟨i, hi, rfl, hb, hno⟩ := hrel
    have HN := Hid.mk_ hno
    clear hno
    by_cases hlt : i < l.length
    · obtain ⟨g, off, cap', he, hg, _, _, hc⟩ := (h.below hb).at_ (List.getElem?_eq_getElem hlt)
      injection he with he1 he2 he3
      clear he2
      subst he1 he3
      have p0 : wr.cell? ⟨g, off + i * 2, none⟩ = some (.int .i64 l[i].Handle) := hc 0 _ rfl
      have p1 : wr.cell? ⟨g, off + i * 2 + 1, none⟩ = some (.int .i64 l[i].Epoch) := hc 1 _ rfl
      clear hc h
      go_wp2_with fail
      refine (HF.out l[i] wr (List.getElem_mem hlt) hb).mono ?_
      rintro e w1 ⟨rfl, hb1⟩
      have hb2 := hb.trans (hb1.mono hb.size)
      by_cases hp : p l[i] = true
      · have HP := Hid.mk_ (idxOf_hit p l i hlt HN.out hp)
        rw [hp]
        clear hp
        go_wp2
        go_ret
        exact ⟨ret_i64 HP.out.symm, hb2⟩
      · have hp' : p l[i] = false := by simpa using hp
        have HP := Hid.mk_ (any_take_succ p l i hlt HN.out hp')
        rw [hp']
        clear hp hp'
        go_wp2
        go_roundw
        case rel => exact ⟨i + 1, by omega, by go_num, hb2, HP.out⟩
        case measure => simp [intOf]; omega
    · go_wp2
      go_ret
      obtain rfl : i = l.length := by omega
      exact ⟨ret_i64 (idxOf_none p l (by simpa using HN.out)).symm, hb⟩
set_option maxHeartbeats 1000000 in
theorem ContainsFuncLRow_ct (w : World) (v : Value) (l : List LRow) (h : RdL FLRow w w.heap.size v l) (fid : FuncId) (cap : Array Value) (p : LRow → Bool) (hent : ∀ (x : LRow) (W : World), (callFunc fid (#[.agg #[.int .i64 x.Handle, .int .i64 x.Epoch]] ++ cap)).run Tryz.prog W = .ok (.enter fid (#[.agg #[.int .i64 x.Handle, .int .i64 x.Epoch]] ++ cap)) W)
    (hf : ∀ (x : LRow) (W : World), x ∈ l → Below w.heap.size w W → Calls Tryz.prog fid (#[.agg #[.int .i64 x.Handle, .int .i64 x.Epoch]] ++ cap) W fun e W' => e = .returned (.bool (p x)) ∧ Below W.heap.size W W') :
    Calls Tryz.prog 94 #[v, .func (.func fid) #[] cap] w fun e w' => e = .returned (.bool (l.any p)) ∧ Below w.heap.size w w' := by
  have HF := Hid.mk_ hf
  clear hf
  go_enter Tryz.func94, Tryz.ntmps94
  go_wp2_with fail
  refine (IndexFuncLRow_ct w v l h fid cap p hent HF.out).mono ?_
  rintro e w1 ⟨rfl, hb1⟩
  have HP := Hid.mk_ (idxOf_ge p l)
  go_wp2
  go_ret
  exact ⟨ret_bool HP.out, hb1⟩

set_option maxHeartbeats 1000000 in
theorem IndexFuncLL_ct (w : World) (v : Value) (t : List SV) (ll : List (List LRow)) (h : RdLL FLRow w w.heap.size v t ll) (fid : FuncId) (cap : Array Value) (p : List LRow → Bool) (hent : ∀ (A : Option Addr) (n c : Nat) (W : World), (callFunc fid (#[.agg #[.slice A n c]] ++ cap)).run Tryz.prog W = .ok (.enter fid (#[.agg #[.slice A n c]] ++ cap)) W) (hf : ∀ (A : Option Addr) (c : Nat) (l : List LRow) (W : World), Below w.heap.size w W → RdL FLRow W W.heap.size (.slice A l.length c) l → Calls Tryz.prog fid (#[.agg #[.slice A l.length c]] ++ cap) W fun e W' => e = .returned (.bool (p l)) ∧ Below W.heap.size W W') :
    Calls Tryz.prog 170 #[v, .func (.func fid) #[] cap] w fun e w' => e = .returned (.int .i64 (idxOf p ll)) ∧ Below w.heap.size w w' := by
  obtain ⟨A, c, hv, _⟩ := id h.outer
  subst hv
  obtain ⟨en, hcap, hmx⟩ := h.len'
  have hlt0 : ll.length ≤ 9223372036854775807 := by unfold maxLen at hmx; omega
  rw [en] at h ⊢
  clear en hcap hmx
  have HF := Hid.mk_ hf
  clear hf
  go_enter Tryz.func170, Tryz.ntmps170
  go_wp2
  go_loopw [5, 8] (fun _ i wr => ∃ i' : Nat, i' ≤ ll.length ∧ i = .int .i64 i' ∧ Below w.heap.size w wr ∧ (ll.take i').any p = false) (fun _ i _ => ll.length - (intOf i).toNat)
  case atStart => exact ⟨0, Nat.zero_le _, rfl, Below.refl _ _, rfl⟩
  case round =>
    obtain ⟨i, hi, rfl, hb, hno⟩ := hrel
    have HN := Hid.mk_ hno
    clear hno
    by_cases hlt : i < ll.length
    · obtain ⟨g, o, A', c', rfl, hg, p0, r1⟩ := h.row hb hlt
      clear h
      go_wp2_with fail
      refine (HF.out A' c' ll[i] wr hb (rd_up r1 hb)).mono ?_
      rintro e w1 ⟨rfl, hb1⟩
      have hb2 := hb.trans (hb1.mono hb.size)
      by_cases hp : p ll[i] = true
      · have HP := Hid.mk_ (idxOf_hit p ll i hlt HN.out hp)
        rw [hp]
        clear hp
        go_wp2
        go_ret
        exact ⟨ret_i64 HP.out.symm, hb2⟩
      · have hp' : p ll[i] = false := by simpa using hp
        have HP := Hid.mk_ (any_take_succ p ll i hlt HN.out hp')
        rw [hp']
        clear hp hp'
        go_wp2
        go_roundw
        case rel => exact ⟨i + 1, by omega, by go_num, hb2, HP.out⟩
        case measure => simp [intOf]; omega
    · go_wp2
      go_ret
      obtain rfl : i = ll.length := by omega
      exact ⟨ret_i64 (idxOf_none p ll (by simpa using HN.out)).symm, hb⟩
set_option maxHeartbeats 1000000 in
theorem ContainsFuncLL_ct (w : World) (v : Value) (t : List SV) (ll : List (List LRow)) (h : RdLL FLRow w w.heap.size v t ll) (fid : FuncId) (cap : Array Value) (p : List LRow → Bool) (hent : ∀ (A : Option Addr) (n c : Nat) (W : World), (callFunc fid (#[.agg #[.slice A n c]] ++ cap)).run Tryz.prog W = .ok (.enter fid (#[.agg #[.slice A n c]] ++ cap)) W) (hf : ∀ (A : Option Addr) (c : Nat) (l : List LRow) (W : World), Below w.heap.size w W → RdL FLRow W W.heap.size (.slice A l.length c) l → Calls Tryz.prog fid (#[.agg #[.slice A l.length c]] ++ cap) W fun e W' => e = .returned (.bool (p l)) ∧ Below W.heap.size W W') :
    Calls Tryz.prog 92 #[v, .func (.func fid) #[] cap] w fun e w' => e = .returned (.bool (ll.any p)) ∧ Below w.heap.size w w' := by
  have HF := Hid.mk_ hf
  clear hf
  go_enter Tryz.func92, Tryz.ntmps92
  go_wp2_with fail
  refine (IndexFuncLL_ct w v t ll h fid cap p hent HF.out).mono ?_
  rintro e w1 ⟨rfl, hb1⟩
  have HP := Hid.mk_ (idxOf_ge p ll)
  go_wp2
  go_ret
  exact ⟨ret_bool HP.out, hb1⟩

def inRowB (slot : Int) (r : LRow) : Bool := handleOkB r.Handle && (r.Handle % 32 == slot)
def inLimboB (ll : List (List LRow)) (slot : Int) : Bool := ll.any fun l => l.any (inRowB slot)
theorem any_flatten_ {α : Type} (p : α → Bool) (ll : List (List α)) : ll.flatten.any p = ll.any fun l => l.any p := by
  induction ll with
  | nil => rfl
  | cons a l ih => simp [ih]

set_option maxHeartbeats 1000000 in
theorem InLimbo2_impl (r : LRow) (slot : Int) (b : Nat) (w : World) (h0 : w.cell? ⟨b, 0, none⟩ = some (.int .i64 slot)) (hb : b < w.heap.size) :
    Calls Tryz.prog 219 #[.agg #[.int .i64 r.Handle, .int .i64 r.Epoch], .pointer (some ⟨b, 0, none⟩)] w fun e w' => e = .returned (.bool (inRowB slot r)) ∧ Below w.heap.size w w' := by
  by_cases c1 : handleOkB r.Handle = true
  · go_enter Tryz.func219, Tryz.ntmps219
    go_wp2_with (go_at_call 148; refine (HandleOk_impl _ _).mono ?_; rw [c1]; rintro e w1 ⟨rfl, rfl⟩)
    go_ret
    exact ⟨ret_bool (by have h0 : 0 ≤ r.Handle := (by simp [handleOkB] at c1; omega); simp [inRowB, c1, Int.tmod_eq_emod_of_nonneg h0]), by repeat (first | exact Below.refl _ _ | refine Below.alloc ?_ (by simp <;> omega) _ | refine below_grow_of ?_ (by simp <;> omega) _ _ | refine Below.drew ?_)⟩
  · have c1' : handleOkB r.Handle = false := by simpa using c1
    go_enter Tryz.func219, Tryz.ntmps219
    go_wp2_with (go_at_call 148; refine (HandleOk_impl _ _).mono ?_; rw [c1']; rintro e w1 ⟨rfl, rfl⟩)
    go_ret
    exact ⟨ret_bool (by simp [inRowB, c1']), by repeat (first | exact Below.refl _ _ | refine Below.alloc ?_ (by simp <;> omega) _ | refine below_grow_of ?_ (by simp <;> omega) _ _ | refine Below.drew ?_)⟩
set_option maxHeartbeats 1000000 in
theorem InLimbo1_impl (A : Option Addr) (c : Nat) (l : List LRow) (slot : Int) (b : Nat) (w : World) (h : RdL FLRow w w.heap.size (.slice A l.length c) l) (h0 : w.cell? ⟨b, 0, none⟩ = some (.int .i64 slot)) (hb : b < w.heap.size) :
    Calls Tryz.prog 218 #[.agg #[.slice A l.length c], .pointer (some ⟨b, 0, none⟩)] w fun e w' => e = .returned (.bool (l.any (inRowB slot))) ∧ Below w.heap.size w w' := by
  go_enter Tryz.func218, Tryz.ntmps218
  go_wp2_with fail
  refine (ContainsFuncLRow_ct _ _ l (rd_up h (by repeat (first | exact Below.refl _ _ | refine Below.alloc ?_ (by simp <;> omega) _ | refine below_grow_of ?_ (by simp <;> omega) _ _ | refine Below.drew ?_))) 219 #[.pointer (some ⟨b, 0, none⟩)] (inRowB slot) (fun _ _ => by kernel_rfl) (fun x W _ hW => InLimbo2_impl x slot b W ((hW.cell (p := ⟨b, 0, none⟩) (by simp; omega)).trans ((((Below.refl w.heap.size w).alloc (Nat.le_refl _) _).cell (p := ⟨b, 0, none⟩) hb).trans h0)) (by have := hW.size; simp at this; omega))).mono ?_
  rintro e w1 ⟨rfl, hb1⟩
  go_wp2
  go_ret
  exact ⟨rfl, ((Below.refl _ _).alloc (Nat.le_refl _) _).trans (hb1.mono (by simp))⟩
set_option maxHeartbeats 1000000 in
theorem InLimbo_impl (w : World) (v : Value) (t : List SV) (ll : List (List LRow)) (slot : Int) (h : RdLL FLRow w w.heap.size v t ll) (_hs : szLL ll ≤ 1073741824) :
    Calls Tryz.prog 136 #[v, .int .i64 slot] w fun e w' => e = .returned (.bool (inLimboB ll slot)) ∧ Below w.heap.size w w' := by
  obtain ⟨A, c, hv, _⟩ := id h.outer
  subst hv
  obtain ⟨en, hcap, hmx⟩ := h.len'
  have hlt0 : ll.length ≤ 9223372036854775807 := by unfold maxLen at hmx; omega
  rw [en] at h ⊢
  clear en hcap hmx
  go_enter Tryz.func136, Tryz.ntmps136
  go_wp2_with fail
  refine (ContainsFuncLL_ct _ _ t ll (h.alloc_ (Nat.le_refl _) (by simp) _) 218 #[.pointer (some ⟨w.heap.size, 0, none⟩)] (fun l => l.any (inRowB slot)) (fun _ _ _ _ => by kernel_rfl) (fun A c l W hW hr => InLimbo1_impl A c l slot w.heap.size W hr ((hW.cell (p := ⟨w.heap.size, 0, none⟩) (by simp)).trans (by simp)) (by have := hW.size; simp at this; omega))).mono ?_
  rintro e w1 ⟨rfl, hb1⟩
  go_wp2
  go_ret
  exact ⟨rfl, ((Below.refl _ _).alloc (Nat.le_refl _) _).trans (hb1.mono (by simp))⟩

def slotOf (h : Int) : Int := if handleOkB h = true then h % 32 else -1
set_option maxHeartbeats 400000 in
theorem HandleSlot_spec (h : Int) (w : World) : Calls Tryz.prog 79 #[.int .i64 h] w fun e w' => e = .returned (.int .i64 (slotOf h)) ∧ w' = w := by
  by_cases c1 : handleOkB h = true
  · have h0 : 0 ≤ h := by simp [handleOkB] at c1; omega
    have HS := Hid.mk_ (show slotOf h = h % 32 from if_pos c1)
    go_enter Tryz.func79, Tryz.ntmps79
    go_wp2_with (go_at_call 131; refine (HandleOk_spec _ _).mono ?_; rw [c1]; rintro e w1 ⟨rfl, rfl⟩)
    go_ret
    exact ⟨ret_i64 (by rw [HS.out]), rfl⟩
  · have HS := Hid.mk_ (show slotOf h = -1 from if_neg c1)
    have c1' : handleOkB h = false := by simpa using c1
    go_enter Tryz.func79, Tryz.ntmps79
    go_wp2_with (go_at_call 131; refine (HandleOk_spec _ _).mono ?_; rw [c1']; rintro e w1 ⟨rfl, rfl⟩)
    go_ret
    exact ⟨ret_i64 HS.out.symm, rfl⟩

set_option maxRecDepth 100000 in
set_option maxHeartbeats 1000000 in
theorem InLimbo_spec (w : World) (v : Value) (t : List SV) (ll : List (List LRow)) (slot : Int) (h : RdLL FLRow w w.heap.size v t ll) (hs : szLL ll ≤ 536870912) :
    Calls Tryz.prog 78 #[v, .int .i64 slot] w fun e w' => e = .returned (.bool (inLimboB ll slot)) ∧ Below w.heap.size w w' := by
  have HI := Hid.mk_ (any_flatten_ (inRowB slot) ll)
  go_enter Tryz.func78, Tryz.ntmps78
  go_wp2_with (first | (go_at_call 52; refine (l11All_ct _ _ t ll h hs).mono ?_; rintro e w1 ⟨v', rfl, ho, hf, hb0⟩; clear hf; generalize ll.flatten = L at ho HI; obtain ⟨A, c, hv, _, q2, _⟩ := ho.rd'; subst hv))
  have hlt0 : L.length ≤ 9223372036854775807 := by unfold maxLen at q2; omega
  clear q2 h
  go_loopw [6] (fun i wr => ∃ k : Nat, k ≤ L.length ∧ i = .int .i64 k ∧ Below w1.heap.size w1 wr ∧ (L.take k).any (inRowB slot) = false) (fun i _ => L.length - (intOf i).toNat)
  case atStart => exact ⟨0, Nat.zero_le _, rfl, Below.refl _ _, rfl⟩
  case round =>
    obtain ⟨i, hi, rfl, hb, hno⟩ := hrel
    have HN := Hid.mk_ hno
    clear hno
    by_cases hlt : i < L.length
    · obtain ⟨g, off, cap', he, hg, _, _, hc⟩ := (ho.rd'.below hb).at_ (List.getElem?_eq_getElem hlt)
      injection he with he1 he2 he3
      clear he2
      subst he1 he3
      have p0 : wr.cell? ⟨g, off + i * 2, none⟩ = some (.int .i64 L[i].Handle) := hc 0 _ rfl
      have p1 : wr.cell? ⟨g, off + i * 2 + 1, none⟩ = some (.int .i64 L[i].Epoch) := hc 1 _ rfl
      clear hc ho
      by_cases c1 : handleOkB L[i].Handle = true
      case neg =>
        have c1' : handleOkB L[i].Handle = false := by simpa using c1
        have HP := Hid.mk_ (any_take_succ (inRowB slot) L i hlt HN.out (by simp [inRowB, c1']))
        clear c1
        go_wp2_with (first | (go_at_call 131; refine (HandleOk_spec _ _).mono ?_; rw [c1']; rintro e w2 ⟨rfl, rfl⟩) | (go_at_call 79; refine (HandleSlot_spec _ _).mono ?_; rw [hsl]; rintro e w2 ⟨rfl, rfl⟩))
        go_roundw
        case rel => exact ⟨i + 1, by omega, by go_num, hb, HP.out⟩
        case measure => simp [intOf]; omega
      have hsl : slotOf L[i].Handle = L[i].Handle % 32 := if_pos c1
      by_cases c2 : L[i].Handle % 32 = slot
      · have c2' : (L[i].Handle % 32 == slot) = true := by simpa using c2
        have HP := Hid.mk_ (show L.any (inRowB slot) = true from List.any_eq_true.2 ⟨L[i], List.getElem_mem hlt, by simp [inRowB, c1, c2]⟩)
        clear c2
        go_wp2_with (first | (go_at_call 131; refine (HandleOk_spec _ _).mono ?_; rw [c1]; rintro e w2 ⟨rfl, rfl⟩) | (go_at_call 79; refine (HandleSlot_spec _ _).mono ?_; rw [hsl]; rintro e w2 ⟨rfl, rfl⟩))
        go_ret
        exact ⟨ret_bool (by rw [inLimboB, ← HI.out, HP.out]), hb0.trans (hb.mono hb0.size)⟩
      · have c2' : (L[i].Handle % 32 == slot) = false := by simpa using c2
        have HP := Hid.mk_ (any_take_succ (inRowB slot) L i hlt HN.out (by simp [inRowB, c2']))
        clear c2
        go_wp2_with (first | (go_at_call 131; refine (HandleOk_spec _ _).mono ?_; rw [c1]; rintro e w2 ⟨rfl, rfl⟩) | (go_at_call 79; refine (HandleSlot_spec _ _).mono ?_; rw [hsl]; rintro e w2 ⟨rfl, rfl⟩))
        go_roundw
        case rel => exact ⟨i + 1, by omega, by go_num, hb, HP.out⟩
        case measure => simp [intOf]; omega
    · go_wp2
      go_ret
      obtain rfl : i = L.length := by omega
      exact ⟨ret_bool (by rw [inLimboB, ← HI.out]; simpa using HN.out.symm), hb0.trans (hb.mono hb0.size)⟩
end Go.Proofs.YtkldapdpaldbgaaGreat.Lim
namespace Go.Proofs.YtkldapdpaldbgaaGreat.Lim
open Go.RowKit

def slotsTo (L : List LRow) (i : Nat) : List Int := (L.take i).map fun q => q.Handle % 32
def rowOkAt (L : List LRow) (i : Nat) (r : LRow) : Bool := handleOkB r.Handle && decide (0 ≤ r.Epoch) && decide (r.Epoch ≤ 100000) && !((slotsTo L i).any fun z => z == r.Handle % 32)
def rowsOkTo (L : List LRow) (k : Nat) : Bool := (List.range k).all fun i => match L[i]? with | some r => rowOkAt L i r | none => true
def limboOkB (ll : List (List LRow)) : Bool := (ll.length == 3) && decide (ll.flatten.length ≤ 24) && rowsOkTo ll.flatten ll.flatten.length
theorem rowsOk_step (L : List LRow) (k : Nat) (hk : k < L.length) (h : rowsOkTo L k = true) (hr : rowOkAt L k L[k] = true) : rowsOkTo L (k + 1) = true := by
  unfold rowsOkTo at h ⊢
  rw [List.range_succ, List.all_append, h, List.all_cons, List.getElem?_eq_getElem hk]
  simp [hr]
theorem rowsOk_false (L : List LRow) (k : Nat) (hk : k < L.length) (hr : rowOkAt L k L[k] = false) : rowsOkTo L L.length = false := by
  unfold rowsOkTo
  rw [List.all_eq_false]
  refine ⟨k, List.mem_range.2 hk, ?_⟩
  rw [List.getElem?_eq_getElem hk]
  simp [hr]
theorem slotsTo_succ (L : List LRow) (k : Nat) (hk : k < L.length) : slotsTo L (k + 1) = slotsTo L k ++ [L[k].Handle % 32] := by
  unfold slotsTo
  rw [List.take_succ_eq_append_getElem hk, List.map_append]
  rfl
theorem slotsTo_len (L : List LRow) (k : Nat) : (slotsTo L k).length ≤ k := by unfold slotsTo; simp; omega
theorem slotOf_ok {h : Int} (c : handleOkB h = true) : slotOf h = h % 32 ∧ 0 ≤ h % 32 ∧ h % 32 < 24 := by
  refine ⟨if_pos c, Int.emod_nonneg _ (by decide), ?_⟩
  simp [handleOkB] at c
  exact c.2

set_option maxHeartbeats 1000000 in
theorem l8Has_ct (w : World) (v : Value) (z : List Int) (x : Int) (h : RdL FI w w.heap.size v z) :
    Calls Tryz.prog 130 #[v, .int .i64 x] w fun e w' => e = .returned (.bool (z.any fun y => y == x)) ∧ Below w.heap.size w w' := by
  obtain ⟨A, c, hv, q1, q2, _⟩ := id h
  have hlt0 : z.length ≤ 9223372036854775807 := by unfold maxLen at q2; omega
  subst hv
  clear q1 q2
  go_enter Tryz.func130, Tryz.ntmps130
  go_wp2
  go_loopw [5] (fun i wr => ∃ k : Nat, k ≤ z.length ∧ i = .int .i64 k ∧ Below w.heap.size w wr ∧ (z.take k).any (fun y => y == x) = false) (fun i _ => z.length - (intOf i).toNat)
  case atStart => exact ⟨0, Nat.zero_le _, rfl, Below.refl _ _, rfl⟩
  case round =>
    obtain ⟨i, hi, rfl, hb, hno⟩ := hrel
    have HN := Hid.mk_ hno
    clear hno
    by_cases hlt : i < z.length
    · obtain ⟨g, off, cap', he, hg, _, _, hc⟩ := (h.below hb).at_ (List.getElem?_eq_getElem hlt)
      injection he with he1 he2 he3
      clear he2
      subst he1 he3
      have p0 : wr.cell? ⟨g, off + i, none⟩ = some (.int .i64 z[i]) := by simpa [FI] using hc 0 _ rfl
      clear hc h
      by_cases hz : z[i] = x
      · have hz1 : (z[i] == x) = true := by simpa using hz
        have HP := Hid.mk_ (show (z.any fun y => y == x) = true from List.any_eq_true.2 ⟨z[i], List.getElem_mem hlt, hz1⟩)
        clear hz
        go_wp2
        go_ret
        exact ⟨ret_bool HP.out.symm, hb⟩
      · have hz1 : (z[i] == x) = false := by simpa using hz
        have HP := Hid.mk_ (any_take_succ (fun y => y == x) z i hlt HN.out hz1)
        clear hz
        go_wp2
        go_roundw
        case rel => exact ⟨i + 1, by omega, by go_num, hb, HP.out⟩
        case measure => simp [intOf]; omega
    · go_wp2
      go_ret
      obtain rfl : i = z.length := by omega
      exact ⟨ret_bool (by simpa using HN.out.symm), hb⟩

set_option maxRecDepth 100000 in
set_option maxHeartbeats 300000 in
theorem LimboOk_spec (w : World) (v : Value) (t : List SV) (ll : List (List LRow)) (h : RdLL FLRow w w.heap.size v t ll) (hs : szLL ll ≤ 536870912) :
    Calls Tryz.prog 50 #[v] w fun e w' => e = .returned (.bool (limboOkB ll)) ∧ Below w.heap.size w w' := by
  obtain ⟨A, c, hv, _⟩ := id h.outer
  subst hv
  obtain ⟨en, hcap, hmx⟩ := h.len'
  have hlt0 : ll.length ≤ 9223372036854775807 := by unfold maxLen at hmx; omega
  rw [en] at h ⊢
  clear en hcap hmx
  have HI := Hid.mk_ (show limboOkB ll = ((ll.length == 3) && decide (ll.flatten.length ≤ 24) && rowsOkTo ll.flatten ll.flatten.length) from rfl)
  by_cases n3 : ll.length = 3
  case neg =>
    have hx : ((ll.length : Int) != 3) = true := by simp; omega
    have HF := Hid.mk_ (show limboOkB ll = false by rw [HI.out]; simp [n3])
    clear n3
    go_enter Tryz.func50, Tryz.ntmps50
    go_wp2_with (go_at_call 52; refine (l11All_ct _ _ t ll h hs).mono ?_; rintro e w1 ⟨v', rfl, ho, hf, hb0⟩; clear hf; generalize hL : ll.flatten = L at ho HI; obtain ⟨A, c, hv, _, q2, _⟩ := ho.rd'; subst hv)
    go_ret
    exact ⟨ret_bool HF.out.symm, hb0⟩
  have hx : ((ll.length : Int) != 3) = false := by simp; omega
  have N3 := Hid.mk_ n3
  clear n3
  by_cases n24 : ll.flatten.length ≤ 24
  case neg =>
    have HF := Hid.mk_ (show limboOkB ll = false by rw [HI.out]; simp only [n24, decide_false, Bool.and_false, Bool.false_and])
    go_enter Tryz.func50, Tryz.ntmps50
    go_wp2_with (go_at_call 52; refine (l11All_ct _ _ t ll h hs).mono ?_; rintro e w1 ⟨v', rfl, ho, hf, hb0⟩; clear hf; generalize hL : ll.flatten = L at ho HI n24; obtain ⟨A, c, hv, _, q2, _⟩ := ho.rd'; subst hv)
    go_ret
    exact ⟨ret_bool HF.out.symm, hb0⟩
  have HJ := Hid.mk_ (show limboOkB ll = rowsOkTo ll.flatten ll.flatten.length by rw [HI.out]; simp only [N3.out, n24, decide_true, Bool.and_true, Bool.true_and, beq_self_eq_true])
  clear HI
  go_enter Tryz.func50, Tryz.ntmps50
  go_wp2_with (go_at_call 52; refine (l11All_ct _ _ t ll h hs).mono ?_; rintro e w1 ⟨v', rfl, ho, hf, hb0⟩; clear hf; generalize hL : ll.flatten = L at ho HJ n24; obtain ⟨A, c, hv, _, q2, _⟩ := ho.rd'; subst hv)
  have hw0 : Below w1.heap.size w1 (w1.alloc (.cells #[] 3)) := (Below.refl _ _).alloc (Nat.le_refl _) _
  have ow0 := OwL.lit FI [] #[] rfl (by decide) w1 3
  go_loopw [4, 5, 6] (fun o i _ wr => ∃ k : Nat, k ≤ L.length ∧ i = .int .i64 k ∧ OwL FI 3 wr o (slotsTo L k) ∧ (∀ g ∈ foot1 o, w1.heap.size ≤ g) ∧ Below w1.heap.size w1 wr ∧ Hid (rowsOkTo L k = true)) (fun _ i _ _ => L.length - (intOf i).toNat)
  case atStart => exact ⟨0, Nat.zero_le _, rfl, ow0, by simp [foot1, Value.ownBlock], hw0, rfl⟩
  case round =>
    obtain ⟨i, hi, rfl, ow, hfo, hb, HR⟩ := hrel
    clear ow0 hw0
    by_cases hlt : i < L.length
    · obtain ⟨g, off, cap', he, hg, _, _, hc⟩ := (ho.rd'.below hb).at_ (List.getElem?_eq_getElem hlt)
      injection he with he1 he2 he3
      clear he2
      subst he1 he3
      have p0 : wr.cell? ⟨g, off + i * 2, none⟩ = some (.int .i64 L[i].Handle) := hc 0 _ rfl
      have p1 : wr.cell? ⟨g, off + i * 2 + 1, none⟩ = some (.int .i64 L[i].Epoch) := hc 1 _ rfl
      clear hc ho
      by_cases c1 : handleOkB L[i].Handle = true
      case neg =>
        have c1' : handleOkB L[i].Handle = false := by simpa using c1
        have hsl : slotOf L[i].Handle = -1 := if_neg c1
        have HN := Hid.mk_ (show limboOkB ll = false by rw [HJ.out]; exact rowsOk_false L i hlt (by simp [rowOkAt, c1']))
        clear c1
        go_wp2_with (go_at_call 79; refine (HandleSlot_spec _ _).mono ?_; rw [hsl]; rintro e w2 ⟨rfl, rfl⟩)
        go_ret
        exact ⟨ret_bool HN.out.symm, hb0.trans (hb.mono hb0.size)⟩
      obtain ⟨hsl, hs0, hs1⟩ := slotOf_ok c1
      by_cases c2 : 0 ≤ L[i].Epoch
      case neg =>
        have HN := Hid.mk_ (show limboOkB ll = false by rw [HJ.out]; exact rowsOk_false L i hlt (by simp [rowOkAt, c2]))
        go_wp2_with (first | (go_at_call 79; refine (HandleSlot_spec _ _).mono ?_; rw [hsl]; rintro e w2 ⟨rfl, rfl⟩) | go_in)
        go_ret
        exact ⟨ret_bool HN.out.symm, hb0.trans (hb.mono hb0.size)⟩
      by_cases c3 : L[i].Epoch ≤ 100000
      case neg =>
        have HN := Hid.mk_ (show limboOkB ll = false by rw [HJ.out]; exact rowsOk_false L i hlt (by simp [rowOkAt, c3]))
        go_wp2_with (first | (go_at_call 79; refine (HandleSlot_spec _ _).mono ?_; rw [hsl]; rintro e w2 ⟨rfl, rfl⟩) | go_in)
        go_ret
        exact ⟨ret_bool HN.out.symm, hb0.trans (hb.mono hb0.size)⟩
      by_cases c4 : ((slotsTo L i).any fun z => z == L[i].Handle % 32) = true
      · have HN := Hid.mk_ (show limboOkB ll = false by rw [HJ.out]; exact rowsOk_false L i hlt (by simp only [rowOkAt, c4]; simp))
        go_wp2_with (first | (go_at_call 79; refine (HandleSlot_spec _ _).mono ?_; rw [hsl]; rintro e w2 ⟨rfl, rfl⟩) | (go_at_call 130; refine (l8Has_ct _ _ (slotsTo L i) (L[i].Handle % 32) (ow.rd')).mono ?_; rw [c4]; rintro e w2 ⟨rfl, hb2⟩) | go_in)
        go_ret
        exact ⟨ret_bool HN.out.symm, hb0.trans ((hb.trans (hb2.mono hb.size)).mono hb0.size)⟩
      have c4' : ((slotsTo L i).any fun z => z == L[i].Handle % 32) = false := (Bool.not_eq_true _).mp c4
      have HN := Hid.mk_ (rowsOk_step L i hlt HR.out (by simp only [rowOkAt, c1, c4']; simp [c2, c3]))
      have HS := Hid.mk_ (slotsTo_succ L i hlt)
      clear c4
      go_wp2_with (first | (go_at_call 79; refine (HandleSlot_spec _ _).mono ?_; rw [hsl]; rintro e w2 ⟨rfl, rfl⟩) | (go_at_call 130; refine (l8Has_ct _ _ (slotsTo L i) (L[i].Handle % 32) (ow.rd')).mono ?_; rw [c4']; rintro e w2 ⟨rfl, hb2⟩; have hbb := hb.trans (hb2.mono hb.size); have ow2 := ow.keep (fun g hg => hb2.block g (foot_lt ow g (mem_foot1.2 hg)))) | (at_builtin; refine wpList_append_flat Tryz.stInt rfl _ _ rfl (v := u4) (y := .slice (some ⟨w2.heap.size, 0, none⟩) 1 1) (l := slotsTo L i) (m := [L[i].Handle % 32]) rfl rfl (ow2.alloc_ _) (OwL.lit FI [L[i].Handle % 32] #[.int .i64 (L[i].Handle % 32)] rfl (by simp [maxLen]) w2 3).rd' (by have := slotsTo_len L i; simp; omega) ?_; intro v' w3 ho' hg' hat') | go_in)
      have hb3 : Below w1.heap.size w1 w3 := (hbb.alloc hbb.size _).grown hg' (by simp; exact Nat.le_succ_of_le hbb.size) (fun k hk => hfo k (mem_foot1.2 hk))
      go_roundw
      case rel => exact ⟨i + 1, by omega, by go_num, by rw [HS.out]; exact ho', fun b hb' => by rcases foot_app hat' b hb' with h | h; (exact hfo b h); (have := hbb.size; simp at h; omega), hb3, HN.out⟩
      case measure => simp [intOf]; omega
    · go_wp2
      go_ret
      obtain rfl : i = L.length := by omega
      exact ⟨ret_bool (by rw [HJ.out]; exact HR.out.symm), hb0.trans (hb.mono hb0.size)⟩

def FB : FT Bool := { n := 1, enc := fun b => [.bool b], dflt := false, len := fun _ => rfl, one := by intro x u hu; simp at hu; subst hu; rfl, pos := by decide, small := by decide }
def metOf (L : List LRow) (p : Nat) : List Bool := (List.range 24).map fun (s : Nat) => (slotsTo L p).any fun z => z == (s : Int)
theorem metOf_len (L : List LRow) (p : Nat) : (metOf L p).length = 24 := by simp [metOf]
theorem metOf_zero (L : List LRow) : metOf L 0 = List.replicate 24 false := rfl
theorem metOf_get (L : List LRow) (p s : Nat) (hs : s < 24) : (metOf L p)[s]? = some ((slotsTo L p).any fun z => z == (s : Int)) := by simp [metOf, hs]
theorem metOf_set (L : List LRow) (p s : Nat) (hp : p < L.length) (hm : L[p].Handle % 32 = (s : Int)) : (metOf L p).set s true = metOf L (p + 1) := by
  apply List.ext_getElem?
  intro k
  by_cases hk : k < 24
  · rw [List.getElem?_set, metOf_get _ _ _ hk, metOf_get _ _ _ hk, slotsTo_succ L p hp, List.any_append, metOf_len]
    by_cases hks : s = k
    · subst hks
      simp [hm, hk]
    · have : ((s : Int) == (k : Int)) = false := by simp; omega
      simp only [if_neg hks, List.any_cons, List.any_nil, hm, this, Bool.or_false]
  · rw [List.getElem?_eq_none (by simp [metOf_len]; omega), List.getElem?_eq_none (by simp [metOf_len]; omega)]
theorem flat_at {α : Type} (ll : List (List α)) (i j : Nat) (hi : i < ll.length) (hj : j < ll[i].length) : ll.flatten[totLL (ll.take i) + j]? = some ll[i][j] := by
  have e : ll.flatten = (ll.take i).flatten ++ (ll[i] ++ (ll.drop (i + 1)).flatten) := by
    rw [← List.flatten_cons, ← List.flatten_append, ← List.drop_eq_getElem_cons hi, List.take_append_drop]
  rw [e, totLL_eq, List.getElem?_append_right (by omega), Nat.add_sub_cancel_left, List.getElem?_append_left hj, List.getElem?_eq_getElem hj]

theorem wpList_store_new {P : Program} {ops : Array Oper} {rest : List Oper} {o : Oper} {a : Act} {w : World} {Q : Exit → Act → World → Prop} (hgd : o.guard = none) (ty : TypeId) (x y : Operand) (ho : o.op = .store ty x y) (c : Array Value)
    (hx : a.eval x = .pointer (some ⟨w.heap.size, 0, none⟩)) (hy : a.eval y = .agg c) (hi : (P.info? ty).map (·.size) = some c.size) (h1 : c.all (·.oneCell') = true)
    (h : wpList P ops Q rest (a.put o.dst undef) (w.alloc (.cells c ty))) : wpList P ops Q (o :: rest) a (w.alloc (.cells c ty)) := by
  refine wpList_store_row hgd ty x y ho w.heap.size c hx hy ty c (heap_alloc_last w _) hi rfl h1 ?_
  rw [World.setRow_alloc_new]
  exact h
theorem z24_built : Tryz.prog.built 207 [] = some #[.bool false, .bool false, .bool false, .bool false, .bool false, .bool false, .bool false, .bool false, .bool false, .bool false, .bool false, .bool false, .bool false, .bool false, .bool false, .bool false, .bool false, .bool false, .bool false, .bool false, .bool false, .bool false, .bool false, .bool false] := by kernel_rfl
set_option maxRecDepth 100000 in
theorem wpList_build24 {ops : Array Oper} {rest : List Oper} {o : Oper} {a : Act} {w : World} {Q : Exit → Act → World → Prop} (hg : o.guard = none) (ho : o.op = .build 207 #[])
    (h : wpList Tryz.prog ops Q rest (a.put o.dst (.agg #[.bool false, .bool false, .bool false, .bool false, .bool false, .bool false, .bool false, .bool false, .bool false, .bool false, .bool false, .bool false, .bool false, .bool false, .bool false, .bool false, .bool false, .bool false, .bool false, .bool false, .bool false, .bool false, .bool false, .bool false])) w) : wpList Tryz.prog ops Q (o :: rest) a w := by
  exact wpList_build hg 207 #[] ho (by simp [z24_built]) (by simpa [z24_built] using h)
theorem met_start (w : World) (L : List LRow) : OwL FB 207 (w.alloc (.cells #[.bool false, .bool false, .bool false, .bool false, .bool false, .bool false, .bool false, .bool false, .bool false, .bool false, .bool false, .bool false, .bool false, .bool false, .bool false, .bool false, .bool false, .bool false, .bool false, .bool false, .bool false, .bool false, .bool false, .bool false] 207)) (.slice (some ⟨w.heap.size, 0, none⟩) 24 24) (metOf L 0) := by
  rw [metOf_zero]
  exact OwL.lit FB (List.replicate 24 false) #[.bool false, .bool false, .bool false, .bool false, .bool false, .bool false, .bool false, .bool false, .bool false, .bool false, .bool false, .bool false, .bool false, .bool false, .bool false, .bool false, .bool false, .bool false, .bool false, .bool false, .bool false, .bool false, .bool false, .bool false] rfl (by simp [maxLen]) w 207
set_option maxRecDepth 100000 in
set_option maxHeartbeats 2000000 in
theorem LimboOk_impl (w : World) (v : Value) (t : List SV) (ll : List (List LRow)) (h : RdLL FLRow w w.heap.size v t ll) (hs : szLL ll ≤ 536870912) :
    Calls Tryz.prog 90 #[v] w fun e w' => e = .returned (.bool (limboOkB ll)) ∧ Below w.heap.size w w' := by
  obtain ⟨A, c, hv, _⟩ := id h.outer
  subst hv
  obtain ⟨en, hcap, hmx⟩ := h.len'
  have hlt0 : ll.length ≤ 9223372036854775807 := by unfold maxLen at hmx; omega
  rw [en] at h ⊢
  clear en hcap hmx
  have HI := Hid.mk_ (show limboOkB ll = ((ll.length == 3) && decide (ll.flatten.length ≤ 24) && rowsOkTo ll.flatten ll.flatten.length) from rfl)
  by_cases n3 : ll.length = 3
  case neg =>
    have hx : ((ll.length : Int) != 3) = true := by simp; omega
    have HF := Hid.mk_ (show limboOkB ll = false by rw [HI.out]; simp [n3])
    clear n3
    go_enter Tryz.func90, Tryz.ntmps90
    go_wp2
    go_ret
    exact ⟨ret_bool HF.out.symm, Below.refl _ _⟩
  have hx : ((ll.length : Int) != 3) = false := by simp; omega
  have N3 := Hid.mk_ n3
  have HJ := Hid.mk_ (fun hr : rowsOkTo ll.flatten ll.flatten.length = false => (show limboOkB ll = false by rw [HI.out, hr]; simp))
  have HK := Hid.mk_ (fun hr : rowsOkTo ll.flatten ll.flatten.length = true => (show limboOkB ll = decide (totLL ll ≤ 24) by rw [HI.out, hr, totLL_eq]; simp [n3]))
  have HT0 := Hid.mk_ (totLL_eq ll)
  have HFA := Hid.mk_ (flat_at ll)
  have om0 := met_start w ll.flatten
  generalize ll.flatten = L at HJ HK HT0 HFA om0
  have hw0 : Below w.heap.size w (w.alloc (.cells #[.bool false, .bool false, .bool false, .bool false, .bool false, .bool false, .bool false, .bool false, .bool false, .bool false, .bool false, .bool false, .bool false, .bool false, .bool false, .bool false, .bool false, .bool false, .bool false, .bool false, .bool false, .bool false, .bool false, .bool false] 207)) := (Below.refl _ _).alloc (Nat.le_refl _) _
  clear n3
  go_enter Tryz.func90, Tryz.ntmps90
  go_wp2_with (first | (refine wpList_build24 rfl rfl ?_) | (refine wpList_store_new rfl 207 (.tmp 3) (.tmp 11) rfl _ rfl rfl (by kernel_rfl) (by simp [Value.oneCell']) ?_))
  go_loopw [5, 7, 14, 21] (fun _ _ i _ wr => ∃ k : Nat, k ≤ ll.length ∧ i = .int .i64 k ∧ Hid (rowsOkTo L (totLL (ll.take k)) = true) ∧ Below w.heap.size w wr ∧ OwL FB 207 wr (.slice (some ⟨w.heap.size, 0, none⟩) 24 24) (metOf L (totLL (ll.take k)))) (fun _ _ i _ _ => ll.length - (intOf i).toNat)
  case atStart => exact ⟨0, Nat.zero_le _, rfl, rfl, hw0, om0⟩
  case round =>
    obtain ⟨i, hi, rfl, HR, hb, om⟩ := hrel
    clear om0 hw0
    by_cases hlt : i < ll.length
    · obtain ⟨g, o, A', c', rfl, hg, p0, r1⟩ := h.row hb hlt
      have HP := Hid.mk_ (totLL_take_succ ll i hlt)
      have HFi := Hid.mk_ (fun j hj => HFA.out i j hlt hj)
      have hr0 : ll[i].length ≤ 9223372036854775807 := by
        obtain ⟨_, _, _, u1, u2, _⟩ := id r1
        unfold maxLen at u2; omega
      have htot : totLL (ll.take i) + ll[i].length ≤ L.length := by
        have a := totLL_take_le ll (i + 1)
        have b := HT0.out
        have d := HP.out
        omega
      generalize ll[i] = x at p0 r1 HP HFi hr0 htot
      generalize totLL (ll.take i) = p at HR om HP HFi htot
      clear h
      go_wp2
      obtain ⟨wo, rfl⟩ : ∃ wo : World, wo = wr := ⟨_, rfl⟩
      go_loopw [7, 21] (fun _ j wq => ∃ k : Nat, k ≤ x.length ∧ j = .int .i64 k ∧ Hid (rowsOkTo L (p + k) = true) ∧ Below w.heap.size w wq ∧ OwL FB 207 wq (.slice (some ⟨w.heap.size, 0, none⟩) 24 24) (metOf L (p + k))) (fun _ j _ => x.length - (intOf j).toNat)
      case atStart => exact ⟨0, Nat.zero_le _, rfl, HR, hb.alloc hb.size _, om.alloc_ _⟩
      case round =>
        obtain ⟨j, hj, rfl, HRj, hbq, omq⟩ := hrel
        clear om hb p0
        by_cases hlj : j < x.length
        · obtain ⟨g1, o1, cap1, he1, hg1, _, _, hc1⟩ := (r1.below hbq).at_ (List.getElem?_eq_getElem hlj)
          injection he1 with e11 e12 e13
          clear e12
          subst e11 e13
          have p0 : wr.cell? ⟨g1, o1 + j * 2, none⟩ = some (.int .i64 x[j].Handle) := hc1 0 _ rfl
          have p1 : wr.cell? ⟨g1, o1 + j * 2 + 1, none⟩ = some (.int .i64 x[j].Epoch) := hc1 1 _ rfl
          clear hc1
          have hLp : p + j < L.length := by omega
          have hLe : L[p + j] = x[j] := by
            have a := HFi.out j hlj
            rw [List.getElem?_eq_getElem hLp] at a
            exact Option.some.inj a
          have HSt := Hid.mk_ (rowsOk_step L (p + j) hLp HRj.out)
          have HFl := Hid.mk_ (fun hr => HJ.out (rowsOk_false L (p + j) hLp hr))
          have HMs := Hid.mk_ (fun s hm => metOf_set L (p + j) s hLp hm)
          rw [hLe] at HSt HFl HMs
          generalize x[j] = r at p0 p1 HSt HFl HMs
          clear hLe hLp r1
          by_cases c1 : handleOkB r.Handle = true
          case neg =>
            have c1' : handleOkB r.Handle = false := by simpa using c1
            have HN := Hid.mk_ (HFl.out (by simp [rowOkAt, c1']))
            clear c1
            go_wp2_with (first | (go_at_call 148; refine (HandleOk_impl _ _).mono ?_; rw [c1']; rintro e w2 ⟨rfl, rfl⟩) | go_in)
            go_ret
            exact ⟨ret_bool HN.out.symm, by first | exact hbq | exact hbq.alloc hbq.size _⟩
          obtain ⟨hsl, hs0, hs1⟩ := slotOf_ok c1
          have h0 : 0 ≤ r.Handle := by simp [handleOkB] at c1; omega
          obtain ⟨s, hs2⟩ := Int.eq_ofNat_of_zero_le hs0
          have hs3 : s < 24 := by omega
          have htm : r.Handle.tmod 32 = (s : Int) := by rw [Int.tmod_eq_emod_of_nonneg h0]; exact hs2
          by_cases c2 : 0 ≤ r.Epoch
          case neg =>
            have HN := Hid.mk_ (HFl.out (by simp [rowOkAt, c2]))
            clear hsl hs0 hs1 h0 hs2
            go_wp2_with (first | (go_at_call 148; refine (HandleOk_impl _ _).mono ?_; rw [c1]; rintro e w2 ⟨rfl, rfl⟩) | go_in)
            go_ret
            exact ⟨ret_bool HN.out.symm, by first | exact hbq | exact hbq.alloc hbq.size _⟩
          by_cases c3 : r.Epoch ≤ 100000
          case neg =>
            have HN := Hid.mk_ (HFl.out (by simp [rowOkAt, c3]))
            clear hsl hs0 hs1 h0 hs2
            go_wp2_with (first | (go_at_call 148; refine (HandleOk_impl _ _).mono ?_; rw [c1]; rintro e w2 ⟨rfl, rfl⟩) | go_in)
            go_ret
            exact ⟨ret_bool HN.out.symm, by first | exact hbq | exact hbq.alloc hbq.size _⟩
          have hgm := metOf_get L (p + j) s hs3
          have cm : wr.cell? ⟨w.heap.size, s, none⟩ = some (.bool ((slotsTo L (p + j)).any fun z => z == (s : Int))) := by simpa [FB] using omq.cell_ (k := s) (j := 0) hgm (by decide)
          have hfz := omq.frozen_ s
          have hzz : w.heap.size < wr.heap.size := (World.ownsRow.lt omq _ rfl).2
          by_cases c4 : ((slotsTo L (p + j)).any fun z => z == (s : Int)) = true
          · have HN := Hid.mk_ (HFl.out (by simp only [rowOkAt, hs2, c4]; simp))
            rw [c4] at cm
            clear hsl hs0 hs1 h0 hs2 c4 hgm omq
            go_wp2_with (first | (go_at_call 148; refine (HandleOk_impl _ _).mono ?_; rw [c1]; rintro e w2 ⟨rfl, rfl⟩) | go_in)
            go_ret
            exact ⟨ret_bool HN.out.symm, by first | exact hbq | exact hbq.alloc hbq.size _⟩
          have c4' : ((slotsTo L (p + j)).any fun z => z == (s : Int)) = false := (Bool.not_eq_true _).mp c4
          have HN := Hid.mk_ (HSt.out (by simp only [rowOkAt, hs2, c1, c4']; simp [c2, c3]))
          have HM := Hid.mk_ (HMs.out s hs2)
          rw [c4'] at cm
          clear hsl hs0 hs1 h0 hs2 c4
          go_wp2_with (first | (go_at_call 148; refine (HandleOk_impl _ _).mono ?_; rw [c1]; rintro e w2 ⟨rfl, rfl⟩) | go_in)
          go_roundw
          case rel =>
            have hset := omq.set_ (k := s) (j := 0) (y := true) (u := .bool true) hgm (by decide) rfl
            rw [HM.out] at hset
            have hset2 : OwL FB 207 (wr.setCell ⟨w.heap.size, s, none⟩ (.bool true)) (.slice (some ⟨w.heap.size, 0, none⟩) 24 24) (metOf L (p + j + 1)) := by simpa [FB] using hset
            exact ⟨j + 1, by omega, by go_num, HN.out, (Below.setCell hbq (Nat.le_refl _) _).alloc (by simp; exact hbq.size) _, hset2.alloc_ _⟩
          case measure => simp [intOf]; omega
        · go_wp2
          go_roundw
          case rel =>
            obtain rfl : j = x.length := by omega
            exact ⟨i + 1, by omega, by go_num, by rw [HP.out]; exact HRj, hbq, by rw [HP.out]; exact omq⟩
          case measure => simp [intOf]; omega
    · obtain rfl : i = ll.length := by omega
      rw [List.take_length] at HR om
      have hfin := HK.out (by rw [← HT0.out]; exact HR.out)
      have HFin := Hid.mk_ hfin
      have ht4 : totLL ll ≤ 536870912 := Nat.le_trans (Nat.le_add_left _ _) hs
      clear hfin
      go_wp2_with (go_at_call 168; refine (LimboSize_impl _ _ t ll (rdLL_up h hb) (by omega)).mono ?_; rintro e w2 ⟨rfl, hb2⟩)
      go_ret
      exact ⟨ret_bool (by rw [HFin.out, decide_eq_decide]; omega), hb.trans (hb2.mono hb.size)⟩
end Go.Proofs.YtkldapdpaldbgaaGreat.Lim
namespace Go.Proofs.YtkldapdpaldbgaaGreat.Clk
open Go.RowKit
instance : DecidableEq Pin := fun a b => decidable_of_iff (a.On = b.On ∧ a.Epoch = b.Epoch ∧ a.Marked = b.Marked ∧ a.Seen = b.Seen) (by cases a; cases b; simp)
def pin0 : Pin := ⟨false, 0, false, 0⟩
def pinB (ep : Int) (p : Pin) : Bool := inB 0 ep p.Epoch && inB 0 2 p.Seen && (p.On || decide (p = pin0))
def clockOkB (x : Clock) : Bool := inB 0 100000 x.Epoch && (x.Pins.length == 3) && x.Pins.all (pinB x.Epoch)
theorem clockOk_len {x : Clock} (h : clockOkB x = true) : x.Pins.length = 3 := by
  simp [clockOkB] at h
  exact h.1.2
set_option maxRecDepth 100000 in
theorem eqlRunPin (x y : Pin) (w : World) : (binOp .eql 165 (.agg #[.bool x.On, .int .i64 x.Epoch, .bool x.Marked, .int .i64 x.Seen]) (.agg #[.bool y.On, .int .i64 y.Epoch, .bool y.Marked, .int .i64 y.Seen])).run Tryz.prog w = .ok (.bool (decide (x = y))) w := by
  have hu := Tryz.underlying165
  obtain ⟨x0, x1, x2, x3⟩ := x
  obtain ⟨y0, y1, y2, y3⟩ := y
  by_cases h0 : x0 = y0
  · by_cases h1 : x1 = y1
    · by_cases h2 : x2 = y2
      · by_cases h3 : x3 = y3
        · go_simp
        · go_simp
      · go_simp
    · go_simp
  · go_simp
set_option maxRecDepth 100000 in
theorem neqRunPin (x y : Pin) (w : World) : (binOp .neq 165 (.agg #[.bool x.On, .int .i64 x.Epoch, .bool x.Marked, .int .i64 x.Seen]) (.agg #[.bool y.On, .int .i64 y.Epoch, .bool y.Marked, .int .i64 y.Seen])).run Tryz.prog w = .ok (.bool (! decide (x = y))) w := by
  have hu := Tryz.underlying165
  obtain ⟨x0, x1, x2, x3⟩ := x
  obtain ⟨y0, y1, y2, y3⟩ := y
  by_cases h0 : x0 = y0
  · by_cases h1 : x1 = y1
    · by_cases h2 : x2 = y2
      · by_cases h3 : x3 = y3
        · go_simp
        · go_simp
      · go_simp
    · go_simp
  · go_simp
set_option maxRecDepth 100000 in
set_option maxHeartbeats 1000000 in
theorem ClockOk1_impl (p : Pin) (ep : Int) (b : Nat) (w : World) (h0 : w.cell? ⟨b, 0, none⟩ = some (.int .i64 ep)) (hb : b < w.heap.size) :
    Calls Tryz.prog 167 #[.agg #[.bool p.On, .int .i64 p.Epoch, .bool p.Marked, .int .i64 p.Seen], .pointer (some ⟨b, 0, none⟩)] w fun e w' => e = .returned (.bool (!pinB ep p)) ∧ Below w.heap.size w w' := by
  obtain ⟨on, e1, mk, sn⟩ := p
  have HP := Hid.mk_ (show pinB ep ⟨on, e1, mk, sn⟩ = (inB 0 ep e1 && inB 0 2 sn && (on || decide ((⟨on, e1, mk, sn⟩ : Pin) = pin0))) from rfl)
  by_cases c1 : inB 0 ep e1 = true
  case neg =>
    have c1' : inB 0 ep e1 = false := (Bool.not_eq_true _).mp c1
    clear c1
    go_enter Tryz.func167, Tryz.ntmps167
    go_wp2_with (go_at_call 111; refine (within_ct _ _ _ _).mono ?_; rintro e w1 ⟨rfl, rfl⟩)
    go_ret
    exact ⟨ret_bool (by rw [HP.out, c1']; rfl), by repeat (first | exact Below.refl _ _ | refine Below.alloc ?_ (by simp <;> omega) _ | refine below_grow_of ?_ (by simp <;> omega) _ _ | refine Below.drew ?_)⟩
  by_cases c2 : inB 0 2 sn = true
  case neg =>
    have c2' : inB 0 2 sn = false := (Bool.not_eq_true _).mp c2
    clear c2
    go_enter Tryz.func167, Tryz.ntmps167
    go_wp2_with (go_at_call 111; refine (within_ct _ _ _ _).mono ?_; rintro e w1 ⟨rfl, rfl⟩)
    go_ret
    exact ⟨ret_bool (by rw [HP.out, c2']; simp), by repeat (first | exact Below.refl _ _ | refine Below.alloc ?_ (by simp <;> omega) _ | refine below_grow_of ?_ (by simp <;> omega) _ _ | refine Below.drew ?_)⟩
  cases on with
  | true =>
    go_enter Tryz.func167, Tryz.ntmps167
    go_wp2_with (go_at_call 111; refine (within_ct _ _ _ _).mono ?_; rintro e w1 ⟨rfl, rfl⟩)
    go_ret
    exact ⟨ret_bool (by rw [HP.out, c1, c2]; rfl), by repeat (first | exact Below.refl _ _ | refine Below.alloc ?_ (by simp <;> omega) _ | refine below_grow_of ?_ (by simp <;> omega) _ _ | refine Below.drew ?_)⟩
  | false =>
    have hq := neqRunPin ⟨false, e1, mk, sn⟩ pin0
    generalize decide ((⟨false, e1, mk, sn⟩ : Pin) = pin0) = z at hq HP
    simp only [pin0] at hq
    go_enter Tryz.func167, Tryz.ntmps167
    go_wp2_with (go_at_call 111; refine (within_ct _ _ _ _).mono ?_; rintro e w1 ⟨rfl, rfl⟩)
    go_ret
    exact ⟨ret_bool (by rw [HP.out, c1, c2]; rfl), by repeat (first | exact Below.refl _ _ | refine Below.alloc ?_ (by simp <;> omega) _ | refine below_grow_of ?_ (by simp <;> omega) _ _ | refine Below.drew ?_)⟩
end Go.Proofs.YtkldapdpaldbgaaGreat.Clk
namespace Go.Proofs.YtkldapdpaldbgaaGreat.Clk
open Go.RowKit

theorem Tryz.stPin : ST Tryz.prog FPin 32 165 := ⟨Tryz.underlying32, .agg #[.bool false, .int .i64 0, .bool false, .int .i64 0], 32, by kernel_rfl, rfl, by decide⟩
theorem cell_old (w : World) (o : Obj) (g i : Nat) (hg : g < w.heap.size) : (w.alloc o).cell? ⟨g, i, none⟩ = w.cell? ⟨g, i, none⟩ := by
  simp [World.cell?, Below.heap_alloc w o g hg]
theorem cell_old_frozen (w : World) (o : Obj) (g i : Nat) (hg : g < w.heap.size) : (w.alloc o).frozen? ⟨g, i, none⟩ = w.frozen? ⟨g, i, none⟩ := by
  simp [World.frozen?, Below.heap_alloc w o g hg]
theorem cell_up {w w' : World} {g i : Nat} {u : Value} (hb : Below w.heap.size w w') (hg : g < w.heap.size) (h : w.cell? ⟨g, i, none⟩ = some u) : w'.cell? ⟨g, i, none⟩ = some u := (hb.cell (p := ⟨g, i, none⟩) hg).trans h

def idxOf {α : Type} (p : α → Bool) (l : List α) : Int := match l.findIdx? p with | some i => i | none => -1
theorem idxOf_hit {α : Type} (p : α → Bool) (l : List α) (i : Nat) (hi : i < l.length) (h : (l.take i).any p = false) (hp : p l[i] = true) : idxOf p l = i := by
  have hf : l.findIdx? p = some i := by
    rw [List.findIdx?_eq_some_iff_getElem]
    refine ⟨hi, hp, fun j hj => ?_⟩
    rw [List.any_eq_false] at h
    exact h l[j] (List.mem_take_iff_getElem.2 ⟨j, by omega, rfl⟩)
  unfold idxOf
  rw [hf]
theorem idxOf_none {α : Type} (p : α → Bool) (l : List α) (h : l.any p = false) : idxOf p l = -1 := by
  have hf : l.findIdx? p = none := by
    rw [List.findIdx?_eq_none_iff]
    intro x hx
    rw [List.any_eq_false] at h
    simpa using h x hx
  unfold idxOf
  rw [hf]
theorem any_take_succ {α : Type} (p : α → Bool) (l : List α) (i : Nat) (hi : i < l.length) (h : (l.take i).any p = false) (hp : p l[i] = false) : (l.take (i + 1)).any p = false := by
  rw [List.take_succ_eq_append_getElem hi, List.any_append, h]
  simp [hp]
theorem idxOf_ge {α : Type} (p : α → Bool) (l : List α) : decide (0 ≤ idxOf p l) = l.any p := by
  unfold idxOf
  cases h : l.findIdx? p with
  | none =>
    rw [List.findIdx?_eq_none_iff] at h
    have : l.any p = false := by
      rw [List.any_eq_false]
      intro x hx
      simp [h x hx]
    rw [this]
    rfl
  | some i =>
    rw [List.findIdx?_eq_some_iff_getElem] at h
    obtain ⟨hi, hp, _⟩ := h
    have : l.any p = true := List.any_eq_true.2 ⟨l[i], List.getElem_mem hi, hp⟩
    rw [this]
    simp

set_option maxHeartbeats 1000000 in
theorem IndexFuncPin_ct (w : World) (v : Value) (l : List Pin) (h : RdL FPin w w.heap.size v l) (fid : FuncId) (cap : Array Value) (p : Pin → Bool) (hent : ∀ (x : Pin) (W : World), (callFunc fid (#[.agg #[.bool x.On, .int .i64 x.Epoch, .bool x.Marked, .int .i64 x.Seen]] ++ cap)).run Tryz.prog W = .ok (.enter fid (#[.agg #[.bool x.On, .int .i64 x.Epoch, .bool x.Marked, .int .i64 x.Seen]] ++ cap)) W)
    (hf : ∀ (x : Pin) (W : World), x ∈ l → Below w.heap.size w W → Calls Tryz.prog fid (#[.agg #[.bool x.On, .int .i64 x.Epoch, .bool x.Marked, .int .i64 x.Seen]] ++ cap) W fun e W' => e = .returned (.bool (p x)) ∧ Below W.heap.size W W') :
    Calls Tryz.prog 241 #[v, .func (.func fid) #[] cap] w fun e w' => e = .returned (.int .i64 (idxOf p l)) ∧ Below w.heap.size w w' := by
  obtain ⟨A, c, hv, q1, q2, _⟩ := id h
  have hlt0 : l.length ≤ 9223372036854775807 := by unfold maxLen at q2; omega
  subst hv
  have HF := Hid.mk_ hf
  clear hf q1 q2
  go_enter Tryz.func241, Tryz.ntmps241
  go_wp2
  go_loopw [5, 8] (fun _ i wr => ∃ i' : Nat, i' ≤ l.length ∧ i = .int .i64 i' ∧ Below w.heap.size w wr ∧ (l.take i').any p = false) (fun _ i _ => l.length - (intOf i).toNat)
  case atStart => exact ⟨0, Nat.zero_le _, rfl, Below.refl _ _, rfl⟩
  case round =>
    obtain ⟨i, hi, rfl, hb, hno⟩ := hrel
    have HN := Hid.mk_ hno
    clear hno
    by_cases hlt : i < l.length
    · obtain ⟨g, off, cap', he, hg, _, _, hc⟩ := (h.below hb).at_ (List.getElem?_eq_getElem hlt)
      injection he with he1 he2 he3
      clear he2
      subst he1 he3
      have p0 : wr.cell? ⟨g, off + i * 4, none⟩ = some (.bool l[i].On) := hc 0 _ rfl
      have p1 : wr.cell? ⟨g, off + i * 4 + 1, none⟩ = some (.int .i64 l[i].Epoch) := hc 1 _ rfl
      have p2 : wr.cell? ⟨g, off + i * 4 + 2, none⟩ = some (.bool l[i].Marked) := hc 2 _ rfl
      have p3 : wr.cell? ⟨g, off + i * 4 + 3, none⟩ = some (.int .i64 l[i].Seen) := hc 3 _ rfl
      clear hc h
      go_wp2_with fail
      refine (HF.out l[i] wr (List.getElem_mem hlt) hb).mono ?_
      rintro e w1 ⟨rfl, hb1⟩
      have hb2 := hb.trans (hb1.mono hb.size)
      by_cases hp : p l[i] = true
      · have HP := Hid.mk_ (idxOf_hit p l i hlt HN.out hp)
        rw [hp]
        clear hp
        go_wp2
        go_ret
        exact ⟨ret_i64 HP.out.symm, hb2⟩
      · have hp' : p l[i] = false := by simpa using hp
        have HP := Hid.mk_ (any_take_succ p l i hlt HN.out hp')
        rw [hp']
        clear hp hp'
        go_wp2
        go_roundw
        case rel => exact ⟨i + 1, by omega, by go_num, hb2, HP.out⟩
        case measure => simp [intOf]; omega
    · go_wp2
      go_ret
      obtain rfl : i = l.length := by omega
      exact ⟨ret_i64 (idxOf_none p l (by simpa using HN.out)).symm, hb⟩
set_option maxHeartbeats 1000000 in
theorem ContainsFuncPin_ct (w : World) (v : Value) (l : List Pin) (h : RdL FPin w w.heap.size v l) (fid : FuncId) (cap : Array Value) (p : Pin → Bool) (hent : ∀ (x : Pin) (W : World), (callFunc fid (#[.agg #[.bool x.On, .int .i64 x.Epoch, .bool x.Marked, .int .i64 x.Seen]] ++ cap)).run Tryz.prog W = .ok (.enter fid (#[.agg #[.bool x.On, .int .i64 x.Epoch, .bool x.Marked, .int .i64 x.Seen]] ++ cap)) W)
    (hf : ∀ (x : Pin) (W : World), x ∈ l → Below w.heap.size w W → Calls Tryz.prog fid (#[.agg #[.bool x.On, .int .i64 x.Epoch, .bool x.Marked, .int .i64 x.Seen]] ++ cap) W fun e W' => e = .returned (.bool (p x)) ∧ Below W.heap.size W W') :
    Calls Tryz.prog 166 #[v, .func (.func fid) #[] cap] w fun e w' => e = .returned (.bool (l.any p)) ∧ Below w.heap.size w w' := by
  have HF := Hid.mk_ hf
  clear hf
  go_enter Tryz.func166, Tryz.ntmps166
  go_wp2_with fail
  refine (IndexFuncPin_ct w v l h fid cap p hent HF.out).mono ?_
  rintro e w1 ⟨rfl, hb1⟩
  have HP := Hid.mk_ (idxOf_ge p l)
  go_wp2
  go_ret
  exact ⟨ret_bool HP.out, hb1⟩

theorem Clock.eta (ep : Int) (l : List Pin) : clockOkB ⟨ep, l⟩ = (inB 0 100000 ep && (l.length == 3) && l.all (pinB ep)) := rfl
theorem all_not_any {α : Type} (p : α → Bool) (l : List α) : l.all p = !(l.any fun x => !p x) := by
  induction l with
  | nil => rfl
  | cons x l ih => simp [ih]
set_option maxRecDepth 100000 in
set_option maxHeartbeats 1000000 in
theorem ClockOk_impl (w : World) (H : HClock) (x : Clock) (h : RdClock w w.heap.size H x) :
    Calls Tryz.prog 89 #[.agg #[.int .i64 x.Epoch, .slice H.Pins.a H.Pins.len H.Pins.cap]] w fun e w' => e = .returned (.bool (clockOkB x)) ∧ Below w.heap.size w w' := by
  obtain ⟨⟨A, n, c⟩⟩ := H
  obtain ⟨ep, l⟩ := x
  have hr : RdL FPin w w.heap.size (.slice A n c) l := h.Pins
  obtain ⟨_, _, hv, q1, q2, qx⟩ := id hr
  simp only [Value.slice.injEq] at hv
  obtain ⟨rfl, rfl, rfl⟩ := hv
  have hlt0 : l.length ≤ 9223372036854775807 := by unfold maxLen at q2; omega
  clear q1 q2 qx h
  have HE := Hid.mk_ (Clock.eta ep l)
  show Calls Tryz.prog 89 #[.agg #[.int .i64 ep, .slice A l.length c]] _ _
  by_cases c1 : inB 0 100000 ep = true
  case neg =>
    have c1' : inB 0 100000 ep = false := (Bool.not_eq_true _).mp c1
    clear c1
    go_enter Tryz.func89, Tryz.ntmps89
    go_wp2_with (go_at_call 111; refine (within_ct _ _ _ _).mono ?_; rintro e w1 ⟨rfl, rfl⟩)
    go_ret
    exact ⟨ret_bool (by rw [HE.out, c1']; rfl), by repeat (first | exact Below.refl _ _ | refine Below.alloc ?_ (by simp <;> omega) _ | refine below_grow_of ?_ (by simp <;> omega) _ _ | refine Below.drew ?_)⟩
  by_cases c2 : l.length = 3
  case neg =>
    have c2' : ((l.length : Int) == 3) = false := by simp; omega
    have HF := Hid.mk_ (show (l.length == 3) = false by simpa using c2)
    clear c2
    go_enter Tryz.func89, Tryz.ntmps89
    go_wp2_with (go_at_call 111; refine (within_ct _ _ _ _).mono ?_; rintro e w1 ⟨rfl, rfl⟩)
    go_ret
    exact ⟨ret_bool (by rw [HE.out, HF.out]; simp), by repeat (first | exact Below.refl _ _ | refine Below.alloc ?_ (by simp <;> omega) _ | refine below_grow_of ?_ (by simp <;> omega) _ _ | refine Below.drew ?_)⟩
  have c2' : ((l.length : Int) == 3) = true := by simp; omega
  have HF := Hid.mk_ (show (l.length == 3) = true by simpa using c2)
  clear c2
  have HA := Hid.mk_ (all_not_any (pinB ep) l)
  go_enter Tryz.func89, Tryz.ntmps89
  go_wp2_with (go_at_call 111; refine (within_ct _ _ _ _).mono ?_; rintro e w1 ⟨rfl, rfl⟩)
  refine (ContainsFuncPin_ct _ _ l (rd_up hr (by repeat (first | exact Below.refl _ _ | refine Below.alloc ?_ (by simp <;> omega) _ | refine below_grow_of ?_ (by simp <;> omega) _ _ | refine Below.drew ?_))) 167 #[.pointer (some ⟨w.heap.size, 0, none⟩)] (fun p => !pinB ep p) (fun _ _ => by kernel_rfl) (fun x W _ hW => ClockOk1_impl x ep w.heap.size W ((hW.cell (p := ⟨w.heap.size, 0, none⟩) (by simp)).trans (by simp [go_sem])) (by have := hW.size; simp at this; omega))).mono ?_
  rintro e w2 ⟨rfl, hb2⟩
  go_wp2
  go_ret
  exact ⟨ret_bool (by rw [HE.out, c1, HF.out, HA.out]; rfl), ((Below.refl _ _).alloc (Nat.le_refl _) _).trans (hb2.mono (by simp))⟩
set_option maxRecDepth 100000 in
set_option maxHeartbeats 2000000 in
theorem ClockOk_spec (w : World) (H : HClock) (x : Clock) (h : RdClock w w.heap.size H x) :
    Calls Tryz.prog 49 #[.agg #[.int .i64 x.Epoch, .slice H.Pins.a H.Pins.len H.Pins.cap]] w fun e w' => e = .returned (.bool (clockOkB x)) ∧ Below w.heap.size w w' := by
  obtain ⟨⟨A, n, c⟩⟩ := H
  obtain ⟨ep, l⟩ := x
  have hr : RdL FPin w w.heap.size (.slice A n c) l := h.Pins
  obtain ⟨_, _, hv, q1, q2, qx⟩ := id hr
  simp only [Value.slice.injEq] at hv
  obtain ⟨rfl, rfl, rfl⟩ := hv
  have hlt0 : l.length ≤ 9223372036854775807 := by unfold maxLen at q2; omega
  clear q1 q2 qx h
  have HE := Hid.mk_ (Clock.eta ep l)
  show Calls Tryz.prog 49 #[.agg #[.int .i64 ep, .slice A l.length c]] _ _
  by_cases c1 : inB 0 100000 ep = true
  case neg =>
    have c1' : inB 0 100000 ep = false := (Bool.not_eq_true _).mp c1
    clear c1
    go_enter Tryz.func49, Tryz.ntmps49
    go_wp2_with (go_at_call 107; refine (l1In_ct _ _ _ _).mono ?_; rintro e w1 ⟨rfl, rfl⟩)
    go_ret
    exact ⟨ret_bool (by rw [HE.out, c1']; rfl), by repeat (first | exact Below.refl _ _ | refine Below.alloc ?_ (by simp <;> omega) _ | refine below_grow_of ?_ (by simp <;> omega) _ _ | refine Below.drew ?_)⟩
  by_cases c2 : l.length = 3
  case neg =>
    have c2' : ((l.length : Int) != 3) = true := by simp; omega
    have HF := Hid.mk_ (show (l.length == 3) = false by simpa using c2)
    clear c2
    go_enter Tryz.func49, Tryz.ntmps49
    go_wp2_with (go_at_call 107; refine (l1In_ct _ _ _ _).mono ?_; rintro e w1 ⟨rfl, rfl⟩)
    go_ret
    exact ⟨ret_bool (by rw [HE.out, HF.out]; simp), by repeat (first | exact Below.refl _ _ | refine Below.alloc ?_ (by simp <;> omega) _ | refine below_grow_of ?_ (by simp <;> omega) _ _ | refine Below.drew ?_)⟩
  have c2' : ((l.length : Int) != 3) = false := by simp; omega
  have H3 := Hid.mk_ c2
  have HF := Hid.mk_ (show (l.length == 3) = true by simpa using c2)
  clear c2
  go_enter Tryz.func49, Tryz.ntmps49
  go_wp2_with (go_at_call 107; refine (l1In_ct _ _ _ _).mono ?_; rintro e w1 ⟨rfl, rfl⟩)
  have hW0 : Below w.heap.size w (w.alloc (.cells #[.int .i64 ep, .slice A l.length c] 34)) := (Below.refl _ _).alloc (Nat.le_refl _) _
  go_loopw [3, 4] (fun i _ wr => ∃ k : Nat, k ≤ 3 ∧ i = .int .i64 k ∧ Hid ((l.take k).all (pinB ep) = true) ∧ Below w.heap.size w wr ∧ wr.cell? ⟨w.heap.size, 0, none⟩ = some (.int .i64 ep) ∧ wr.cell? ⟨w.heap.size, 1, none⟩ = some (.slice A l.length c) ∧ w.heap.size < wr.heap.size) (fun i _ _ => 3 - (intOf i).toNat)
  case atStart => exact ⟨0, Nat.zero_le _, rfl, rfl, hW0, by simp [go_sem], by simp [go_sem], by simp⟩
  case round =>
    obtain ⟨i, hi, rfl, HT, hb, pc0, pc1, hz⟩ := hrel
    by_cases hl3 : i < 3
    · have hlt : i < l.length := by rw [H3.out]; exact hl3
      obtain ⟨g, off, cap', he, hg, _, _, hc⟩ := (hr.below hb).at_ (List.getElem?_eq_getElem hlt)
      injection he with he1 he2 he3
      clear he2
      subst he1 he3
      have p0 : wr.cell? ⟨g, off + i * 4, none⟩ = some (.bool l[i].On) := hc 0 _ rfl
      have p1 : wr.cell? ⟨g, off + i * 4 + 1, none⟩ = some (.int .i64 l[i].Epoch) := hc 1 _ rfl
      have p2 : wr.cell? ⟨g, off + i * 4 + 2, none⟩ = some (.bool l[i].Marked) := hc 2 _ rfl
      have p3 : wr.cell? ⟨g, off + i * 4 + 3, none⟩ = some (.int .i64 l[i].Seen) := hc 3 _ rfl
      clear hc hr hW0
      have HS := Hid.mk_ (show (l.take (i + 1)).all (pinB ep) = ((l.take i).all (pinB ep) && pinB ep l[i]) by rw [List.take_succ_eq_append_getElem hlt, List.all_append]; simp)
      have HX := Hid.mk_ (fun hp : pinB ep l[i] = false => (show l.all (pinB ep) = false from List.all_eq_false.2 ⟨l[i], List.getElem_mem hlt, by rw [hp]; decide⟩))
      generalize l[i] = p at p0 p1 p2 p3 HS HX
      obtain ⟨on, e1, mk, sn⟩ := p
      simp only at p0 p1 p2 p3
      have HP := Hid.mk_ (show pinB ep ⟨on, e1, mk, sn⟩ = (inB 0 ep e1 && inB 0 2 sn && (on || decide ((⟨on, e1, mk, sn⟩ : Pin) = pin0))) from rfl)
      have step : ∀ (b1 : Bool), (∀ W : World, (binOp .neq 165 (.agg #[.bool on, .int .i64 e1, .bool mk, .int .i64 sn]) (.agg #[.bool false, .int .i64 0, .bool false, .int .i64 0])).run Tryz.prog W = .ok (.bool (!b1)) W) → True := fun _ _ => trivial
      clear step
      by_cases c3 : (on || decide ((⟨on, e1, mk, sn⟩ : Pin) = pin0)) = true
      case neg =>
        have c3' : on = false ∧ decide ((⟨on, e1, mk, sn⟩ : Pin) = pin0) = false := by simpa using c3
        obtain ⟨rfl, c4⟩ := c3'
        have hq := neqRunPin ⟨false, e1, mk, sn⟩ pin0
        rw [c4] at hq
        simp only [pin0] at hq
        have HN := Hid.mk_ (HX.out (by rw [HP.out, c4]; simp))
        clear c3 c4
        go_wp2_with (go_at_call 107; refine (l1In_ct _ _ _ _).mono ?_; rintro e w1 ⟨rfl, rfl⟩)
        go_ret
        exact ⟨ret_bool (by rw [HE.out, HN.out]; simp), hb.alloc hb.size _⟩
      have hq : on = true ∨ (on = false ∧ ∀ W : World, (binOp .neq 165 (.agg #[.bool false, .int .i64 e1, .bool mk, .int .i64 sn]) (.agg #[.bool false, .int .i64 0, .bool false, .int .i64 0])).run Tryz.prog W = .ok (.bool false) W) := by
        cases on with
        | true => exact .inl rfl
        | false =>
          have c4 : decide ((⟨false, e1, mk, sn⟩ : Pin) = pin0) = true := by simpa using c3
          have hq := neqRunPin ⟨false, e1, mk, sn⟩ pin0
          rw [c4] at hq
          exact .inr ⟨rfl, hq⟩
      rw [c3, Bool.and_true] at HP
      clear c3
      by_cases c5 : inB 0 ep e1 = true
      case neg =>
        have c5' : inB 0 ep e1 = false := (Bool.not_eq_true _).mp c5
        have HN := Hid.mk_ (HX.out (by rw [HP.out, c5']; rfl))
        clear c5
        rcases hq with rfl | ⟨rfl, hq⟩
        all_goals
          go_wp2_with (go_at_call 107; refine (l1In_ct _ _ _ _).mono ?_; rintro e w1 ⟨rfl, rfl⟩)
          go_ret
          exact ⟨ret_bool (by rw [HE.out, HN.out]; simp), hb.alloc hb.size _⟩
      by_cases c6 : inB 0 2 sn = true
      case neg =>
        have c6' : inB 0 2 sn = false := (Bool.not_eq_true _).mp c6
        have HN := Hid.mk_ (HX.out (by rw [HP.out, c6']; simp))
        clear c6
        rcases hq with rfl | ⟨rfl, hq⟩
        all_goals
          go_wp2_with (go_at_call 107; refine (l1In_ct _ _ _ _).mono ?_; rintro e w1 ⟨rfl, rfl⟩)
          go_ret
          exact ⟨ret_bool (by rw [HE.out, HN.out]; simp), hb.alloc hb.size _⟩
      have HN := Hid.mk_ (show (l.take (i + 1)).all (pinB ep) = true by rw [HS.out, HT.out, HP.out, c5, c6]; rfl)
      clear HS HX HP
      rcases hq with rfl | ⟨rfl, hq⟩
      all_goals
        go_wp2_with (go_at_call 107; refine (l1In_ct _ _ _ _).mono ?_; rintro e w1 ⟨rfl, rfl⟩)
        go_roundw
        case rel => exact ⟨i + 1, by omega, by go_num, HN, hb.alloc hb.size _, (cell_old wr _ _ _ hz).trans pc0, (cell_old wr _ _ _ hz).trans pc1, by simp; omega⟩
        case measure => simp [intOf]; omega
    · obtain rfl : i = 3 := by omega
      have HN := Hid.mk_ (show l.all (pinB ep) = true by have a := HT.out; rwa [show (3 : Nat) = l.length from H3.out.symm, List.take_length] at a)
      go_wp2
      go_ret
      exact ⟨ret_bool (by rw [HE.out, c1, HF.out, HN.out]; rfl), hb⟩
end Go.Proofs.YtkldapdpaldbgaaGreat.Clk
