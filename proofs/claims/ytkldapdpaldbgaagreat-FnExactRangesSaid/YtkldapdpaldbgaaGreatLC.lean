/-
  Limbo lists: is a slot in limbo.
-/
import Derived.Test.YtkldapdpaldbgaaGreatT
import Derived.Test.YtkldapdpaldbgaaGreatL
import Derived.Deep.QuietTactic
import Derived.BigQuiet
import Derived.Deep.LoopGhost
import Derived.Deep.RegionHeld3
import Derived.Test.YtkldapdpaldbgaaGreatN
import Derived.Test.YtkldapdpaldbgaaGreatA
import Derived.WalkSpells
import Derived.Laws.Cover3
import Derived.Test.YtkldapdpaldbgaaGreatLG
namespace Go.Proofs.YtkldapdpaldbgaaGreat.Lim
open Go.RowKit

set_option maxHeartbeats 1000000 in
theorem IndexFuncLRow_ct (w : World) (v : Value) (l : List LRow) (h : RdL FLRow w w.heap.size v l) (fid : FuncId) (cap : Array Value) (p : LRow → Bool) (hent : ∀ (x : LRow) (W : World), (callFunc fid (#[.agg #[.int .i64 x.Handle, .int .i64 x.Epoch]] ++ cap)).run Tryz.prog W = .ok (.enter fid (#[.agg #[.int .i64 x.Handle, .int .i64 x.Epoch]] ++ cap)) W)
    (hf : ∀ (x : LRow) (W : World), x ∈ l → Below w.heap.size w W → Calls Tryz.prog fid (#[.agg #[.int .i64 x.Handle, .int .i64 x.Epoch]] ++ cap) W fun e W' => e = .returned (.bool (p x)) ∧ Below W.heap.size W W') :
    Calls Tryz.prog 171 #[v, .func (.func fid) #[] cap] w fun e w' => e = .returned (.int .i64 (idxOf p l)) ∧ Below w.heap.size w w' := by
  obtain ⟨A, c, hv, q1, q2, _⟩ := id h
  have hlt0 : l.length ≤ 9223372036854775807 := by unfold maxLen at q2; omega
  subst hv
  have HF := Hid.mk_ hf
  clear hf q1 q2
  go_enter Tryz.func171, Tryz.ntmps171
  go_wp2
  go_loopw [5, 8] (fun _ i wr => ∃ i' : Nat, i' ≤ l.length ∧ i = .int .i64 i' ∧ Below w.heap.size w wr ∧ (l.take i').any p = false) (fun _ i _ => l.length - (intOf i).toNat)
  case atStart => exact ⟨0, Nat.zero_le _, rfl, Below.refl _ _, rfl⟩
  case round =>
    obtain ⟨i, hi, rfl, hb, hno⟩ := hrel
    have HN := Hid.mk_ hno
    clear hno
    by_cases hlt : i < l.length
    · obtain ⟨g, off, cap', he, hg, _, _, hc⟩ := (h.below hb).at_ (List.getElem?_eq_getElem hlt)
      injection he with he1 he2 he3
      clear he2
      subst he1 he3
      have p0 : wr.cell? ⟨g, off + i * 2, none⟩ = some (.int .i64 l[i].Handle) := hc 0 _ rfl
      have p1 : wr.cell? ⟨g, off + i * 2 + 1, none⟩ = some (.int .i64 l[i].Epoch) := hc 1 _ rfl
      clear hc h
      go_wp2_with fail
      refine (HF.out l[i] wr (List.getElem_mem hlt) hb).mono ?_
      rintro e w1 ⟨rfl, hb1⟩
      have hb2 := hb.trans (hb1.mono hb.size)
      by_cases hp : p l[i] = true
      · have HP := Hid.mk_ (idxOf_hit p l i hlt HN.out hp)
        rw [hp]
        clear hp
        go_wp2
        go_ret
        exact ⟨ret_i64 HP.out.symm, hb2⟩
      · have hp' : p l[i] = false := by simpa using hp
        have HP := Hid.mk_ (any_take_succ p l i hlt HN.out hp')
        rw [hp']
        clear hp hp'
        go_wp2
        go_roundw
        case rel => exact ⟨i + 1, by omega, by go_num, hb2, HP.out⟩
        case measure => simp [intOf]; omega
    · go_wp2
      go_ret
      obtain rfl : i = l.length := by omega
      exact ⟨ret_i64 (idxOf_none p l (by simpa using HN.out)).symm, hb⟩
set_option maxHeartbeats 1000000 in
theorem ContainsFuncLRow_ct (w : World) (v : Value) (l : List LRow) (h : RdL FLRow w w.heap.size v l) (fid : FuncId) (cap : Array Value) (p : LRow → Bool) (hent : ∀ (x : LRow) (W : World), (callFunc fid (#[.agg #[.int .i64 x.Handle, .int .i64 x.Epoch]] ++ cap)).run Tryz.prog W = .ok (.enter fid (#[.agg #[.int .i64 x.Handle, .int .i64 x.Epoch]] ++ cap)) W)
    (hf : ∀ (x : LRow) (W : World), x ∈ l → Below w.heap.size w W → Calls Tryz.prog fid (#[.agg #[.int .i64 x.Handle, .int .i64 x.Epoch]] ++ cap) W fun e W' => e = .returned (.bool (p x)) ∧ Below W.heap.size W W') :
    Calls Tryz.prog 94 #[v, .func (.func fid) #[] cap] w fun e w' => e = .returned (.bool (l.any p)) ∧ Below w.heap.size w w' := by
  have HF := Hid.mk_ hf
  clear hf
  go_enter Tryz.func94, Tryz.ntmps94
  go_wp2_with fail
  refine (IndexFuncLRow_ct w v l h fid cap p hent HF.out).mono ?_
  rintro e w1 ⟨rfl, hb1⟩
  have HP := Hid.mk_ (idxOf_ge p l)
  go_wp2
  go_ret
  exact ⟨ret_bool HP.out, hb1⟩

set_option maxHeartbeats 1000000 in
theorem IndexFuncLL_ct (w : World) (v : Value) (t : List SV) (ll : List (List LRow)) (h : RdLL FLRow w w.heap.size v t ll) (fid : FuncId) (cap : Array Value) (p : List LRow → Bool) (hent : ∀ (A : Option Addr) (n c : Nat) (W : World), (callFunc fid (#[.agg #[.slice A n c]] ++ cap)).run Tryz.prog W = .ok (.enter fid (#[.agg #[.slice A n c]] ++ cap)) W) (hf : ∀ (A : Option Addr) (c : Nat) (l : List LRow) (W : World), Below w.heap.size w W → RdL FLRow W W.heap.size (.slice A l.length c) l → Calls Tryz.prog fid (#[.agg #[.slice A l.length c]] ++ cap) W fun e W' => e = .returned (.bool (p l)) ∧ Below W.heap.size W W') :
    Calls Tryz.prog 170 #[v, .func (.func fid) #[] cap] w fun e w' => e = .returned (.int .i64 (idxOf p ll)) ∧ Below w.heap.size w w' := by
  obtain ⟨A, c, hv, _⟩ := id h.outer
  subst hv
  obtain ⟨en, hcap, hmx⟩ := h.len'
  have hlt0 : ll.length ≤ 9223372036854775807 := by unfold maxLen at hmx; omega
  rw [en] at h ⊢
  clear en hcap hmx
  have HF := Hid.mk_ hf
  clear hf
  go_enter Tryz.func170, Tryz.ntmps170
  go_wp2
  go_loopw [5, 8] (fun _ i wr => ∃ i' : Nat, i' ≤ ll.length ∧ i = .int .i64 i' ∧ Below w.heap.size w wr ∧ (ll.take i').any p = false) (fun _ i _ => ll.length - (intOf i).toNat)
  case atStart => exact ⟨0, Nat.zero_le _, rfl, Below.refl _ _, rfl⟩
  case round =>
    obtain ⟨i, hi, rfl, hb, hno⟩ := hrel
    have HN := Hid.mk_ hno
    clear hno
    by_cases hlt : i < ll.length
    · obtain ⟨g, o, A', c', rfl, hg, p0, r1⟩ := h.row hb hlt
      clear h
      go_wp2_with fail
      refine (HF.out A' c' ll[i] wr hb (rd_up r1 hb)).mono ?_
      rintro e w1 ⟨rfl, hb1⟩
      have hb2 := hb.trans (hb1.mono hb.size)
      by_cases hp : p ll[i] = true
      · have HP := Hid.mk_ (idxOf_hit p ll i hlt HN.out hp)
        rw [hp]
        clear hp
        go_wp2
        go_ret
        exact ⟨ret_i64 HP.out.symm, hb2⟩
      · have hp' : p ll[i] = false := by simpa using hp
        have HP := Hid.mk_ (any_take_succ p ll i hlt HN.out hp')
        rw [hp']
        clear hp hp'
        go_wp2
        go_roundw
        case rel => exact ⟨i + 1, by omega, by go_num, hb2, HP.out⟩
        case measure => simp [intOf]; omega
    · go_wp2
      go_ret
      obtain rfl : i = ll.length := by omega
      exact ⟨ret_i64 (idxOf_none p ll (by simpa using HN.out)).symm, hb⟩
set_option maxHeartbeats 1000000 in
theorem ContainsFuncLL_ct (w : World) (v : Value) (t : List SV) (ll : List (List LRow)) (h : RdLL FLRow w w.heap.size v t ll) (fid : FuncId) (cap : Array Value) (p : List LRow → Bool) (hent : ∀ (A : Option Addr) (n c : Nat) (W : World), (callFunc fid (#[.agg #[.slice A n c]] ++ cap)).run Tryz.prog W = .ok (.enter fid (#[.agg #[.slice A n c]] ++ cap)) W) (hf : ∀ (A : Option Addr) (c : Nat) (l : List LRow) (W : World), Below w.heap.size w W → RdL FLRow W W.heap.size (.slice A l.length c) l → Calls Tryz.prog fid (#[.agg #[.slice A l.length c]] ++ cap) W fun e W' => e = .returned (.bool (p l)) ∧ Below W.heap.size W W') :
    Calls Tryz.prog 92 #[v, .func (.func fid) #[] cap] w fun e w' => e = .returned (.bool (ll.any p)) ∧ Below w.heap.size w w' := by
  have HF := Hid.mk_ hf
  clear hf
  go_enter Tryz.func92, Tryz.ntmps92
  go_wp2_with fail
  refine (IndexFuncLL_ct w v t ll h fid cap p hent HF.out).mono ?_
  rintro e w1 ⟨rfl, hb1⟩
  have HP := Hid.mk_ (idxOf_ge p ll)
  go_wp2
  go_ret
  exact ⟨ret_bool HP.out, hb1⟩

def inRowB (slot : Int) (r : LRow) : Bool := handleOkB r.Handle && (r.Handle % 32 == slot)
def inLimboB (ll : List (List LRow)) (slot : Int) : Bool := ll.any fun l => l.any (inRowB slot)
theorem any_flatten_ {α : Type} (p : α → Bool) (ll : List (List α)) : ll.flatten.any p = ll.any fun l => l.any p := by
  induction ll with
  | nil => rfl
  | cons a l ih => simp [ih]

set_option maxHeartbeats 1000000 in
theorem InLimbo2_impl (r : LRow) (slot : Int) (b : Nat) (w : World) (h0 : w.cell? ⟨b, 0, none⟩ = some (.int .i64 slot)) (hb : b < w.heap.size) :
    Calls Tryz.prog 219 #[.agg #[.int .i64 r.Handle, .int .i64 r.Epoch], .pointer (some ⟨b, 0, none⟩)] w fun e w' => e = .returned (.bool (inRowB slot r)) ∧ Below w.heap.size w w' := by
  by_cases c1 : handleOkB r.Handle = true
  · go_enter Tryz.func219, Tryz.ntmps219
    go_wp2_with (go_at_call 148; refine (HandleOk_impl _ _).mono ?_; rw [c1]; rintro e w1 ⟨rfl, rfl⟩)
    go_ret
    exact ⟨ret_bool (by have h0 : 0 ≤ r.Handle := (by simp [handleOkB] at c1; omega); simp [inRowB, c1, Int.tmod_eq_emod_of_nonneg h0]), by repeat (first | exact Below.refl _ _ | refine Below.alloc ?_ (by simp <;> omega) _ | refine below_grow_of ?_ (by simp <;> omega) _ _ | refine Below.drew ?_)⟩
  · have c1' : handleOkB r.Handle = false := by simpa using c1
    go_enter Tryz.func219, Tryz.ntmps219
    go_wp2_with (go_at_call 148; refine (HandleOk_impl _ _).mono ?_; rw [c1']; rintro e w1 ⟨rfl, rfl⟩)
    go_ret
    exact ⟨ret_bool (by simp [inRowB, c1']), by repeat (first | exact Below.refl _ _ | refine Below.alloc ?_ (by simp <;> omega) _ | refine below_grow_of ?_ (by simp <;> omega) _ _ | refine Below.drew ?_)⟩
set_option maxHeartbeats 1000000 in
theorem InLimbo1_impl (A : Option Addr) (c : Nat) (l : List LRow) (slot : Int) (b : Nat) (w : World) (h : RdL FLRow w w.heap.size (.slice A l.length c) l) (h0 : w.cell? ⟨b, 0, none⟩ = some (.int .i64 slot)) (hb : b < w.heap.size) :
    Calls Tryz.prog 218 #[.agg #[.slice A l.length c], .pointer (some ⟨b, 0, none⟩)] w fun e w' => e = .returned (.bool (l.any (inRowB slot))) ∧ Below w.heap.size w w' := by
  go_enter Tryz.func218, Tryz.ntmps218
  go_wp2_with fail
  refine (ContainsFuncLRow_ct _ _ l (rd_up h (by repeat (first | exact Below.refl _ _ | refine Below.alloc ?_ (by simp <;> omega) _ | refine below_grow_of ?_ (by simp <;> omega) _ _ | refine Below.drew ?_))) 219 #[.pointer (some ⟨b, 0, none⟩)] (inRowB slot) (fun _ _ => by kernel_rfl) (fun x W _ hW => InLimbo2_impl x slot b W ((hW.cell (p := ⟨b, 0, none⟩) (by simp; omega)).trans ((((Below.refl w.heap.size w).alloc (Nat.le_refl _) _).cell (p := ⟨b, 0, none⟩) hb).trans h0)) (by have := hW.size; simp at this; omega))).mono ?_
  rintro e w1 ⟨rfl, hb1⟩
  go_wp2
  go_ret
  exact ⟨rfl, ((Below.refl _ _).alloc (Nat.le_refl _) _).trans (hb1.mono (by simp))⟩
set_option maxHeartbeats 1000000 in
theorem InLimbo_impl (w : World) (v : Value) (t : List SV) (ll : List (List LRow)) (slot : Int) (h : RdLL FLRow w w.heap.size v t ll) (_hs : szLL ll ≤ 1073741824) :
    Calls Tryz.prog 136 #[v, .int .i64 slot] w fun e w' => e = .returned (.bool (inLimboB ll slot)) ∧ Below w.heap.size w w' := by
  obtain ⟨A, c, hv, _⟩ := id h.outer
  subst hv
  obtain ⟨en, hcap, hmx⟩ := h.len'
  have hlt0 : ll.length ≤ 9223372036854775807 := by unfold maxLen at hmx; omega
  rw [en] at h ⊢
  clear en hcap hmx
  go_enter Tryz.func136, Tryz.ntmps136
  go_wp2_with fail
  refine (ContainsFuncLL_ct _ _ t ll (h.alloc_ (Nat.le_refl _) (by simp) _) 218 #[.pointer (some ⟨w.heap.size, 0, none⟩)] (fun l => l.any (inRowB slot)) (fun _ _ _ _ => by kernel_rfl) (fun A c l W hW hr => InLimbo1_impl A c l slot w.heap.size W hr ((hW.cell (p := ⟨w.heap.size, 0, none⟩) (by simp)).trans (by simp)) (by have := hW.size; simp at this; omega))).mono ?_
  rintro e w1 ⟨rfl, hb1⟩
  go_wp2
  go_ret
  exact ⟨rfl, ((Below.refl _ _).alloc (Nat.le_refl _) _).trans (hb1.mono (by simp))⟩

def slotOf (h : Int) : Int := if handleOkB h = true then h % 32 else -1
set_option maxHeartbeats 400000 in
theorem HandleSlot_spec (h : Int) (w : World) : Calls Tryz.prog 79 #[.int .i64 h] w fun e w' => e = .returned (.int .i64 (slotOf h)) ∧ w' = w := by
  by_cases c1 : handleOkB h = true
  · have h0 : 0 ≤ h := by simp [handleOkB] at c1; omega
    have HS := Hid.mk_ (show slotOf h = h % 32 from if_pos c1)
    go_enter Tryz.func79, Tryz.ntmps79
    go_wp2_with (go_at_call 131; refine (HandleOk_spec _ _).mono ?_; rw [c1]; rintro e w1 ⟨rfl, rfl⟩)
    go_ret
    exact ⟨ret_i64 (by rw [HS.out]), rfl⟩
  · have HS := Hid.mk_ (show slotOf h = -1 from if_neg c1)
    have c1' : handleOkB h = false := by simpa using c1
    go_enter Tryz.func79, Tryz.ntmps79
    go_wp2_with (go_at_call 131; refine (HandleOk_spec _ _).mono ?_; rw [c1']; rintro e w1 ⟨rfl, rfl⟩)
    go_ret
    exact ⟨ret_i64 HS.out.symm, rfl⟩

set_option maxRecDepth 100000 in
set_option maxHeartbeats 1000000 in
theorem InLimbo_spec (w : World) (v : Value) (t : List SV) (ll : List (List LRow)) (slot : Int) (h : RdLL FLRow w w.heap.size v t ll) (hs : szLL ll ≤ 536870912) :
    Calls Tryz.prog 78 #[v, .int .i64 slot] w fun e w' => e = .returned (.bool (inLimboB ll slot)) ∧ Below w.heap.size w w' := by
  have HI := Hid.mk_ (any_flatten_ (inRowB slot) ll)
  go_enter Tryz.func78, Tryz.ntmps78
  go_wp2_with (first | (go_at_call 52; refine (l11All_ct _ _ t ll h hs).mono ?_; rintro e w1 ⟨v', rfl, ho, hf, hb0⟩; clear hf; generalize ll.flatten = L at ho HI; obtain ⟨A, c, hv, _, q2, _⟩ := ho.rd'; subst hv))
  have hlt0 : L.length ≤ 9223372036854775807 := by unfold maxLen at q2; omega
  clear q2 h
  go_loopw [6] (fun i wr => ∃ k : Nat, k ≤ L.length ∧ i = .int .i64 k ∧ Below w1.heap.size w1 wr ∧ (L.take k).any (inRowB slot) = false) (fun i _ => L.length - (intOf i).toNat)
  case atStart => exact ⟨0, Nat.zero_le _, rfl, Below.refl _ _, rfl⟩
  case round =>
    obtain ⟨i, hi, rfl, hb, hno⟩ := hrel
    have HN := Hid.mk_ hno
    clear hno
    by_cases hlt : i < L.length
    · obtain ⟨g, off, cap', he, hg, _, _, hc⟩ := (ho.rd'.below hb).at_ (List.getElem?_eq_getElem hlt)
      injection he with he1 he2 he3
      clear he2
      subst he1 he3
      have p0 : wr.cell? ⟨g, off + i * 2, none⟩ = some (.int .i64 L[i].Handle) := hc 0 _ rfl
      have p1 : wr.cell? ⟨g, off + i * 2 + 1, none⟩ = some (.int .i64 L[i].Epoch) := hc 1 _ rfl
      clear hc ho
      by_cases c1 : handleOkB L[i].Handle = true
      case neg =>
        have c1' : handleOkB L[i].Handle = false := by simpa using c1
        have HP := Hid.mk_ (any_take_succ (inRowB slot) L i hlt HN.out (by simp [inRowB, c1']))
        clear c1
        go_wp2_with (first | (go_at_call 131; refine (HandleOk_spec _ _).mono ?_; rw [c1']; rintro e w2 ⟨rfl, rfl⟩) | (go_at_call 79; refine (HandleSlot_spec _ _).mono ?_; rw [hsl]; rintro e w2 ⟨rfl, rfl⟩))
        go_roundw
        case rel => exact ⟨i + 1, by omega, by go_num, hb, HP.out⟩
        case measure => simp [intOf]; omega
      have hsl : slotOf L[i].Handle = L[i].Handle % 32 := if_pos c1
      by_cases c2 : L[i].Handle % 32 = slot
      · have c2' : (L[i].Handle % 32 == slot) = true := by simpa using c2
        have HP := Hid.mk_ (show L.any (inRowB slot) = true from List.any_eq_true.2 ⟨L[i], List.getElem_mem hlt, by simp [inRowB, c1, c2]⟩)
        clear c2
        go_wp2_with (first | (go_at_call 131; refine (HandleOk_spec _ _).mono ?_; rw [c1]; rintro e w2 ⟨rfl, rfl⟩) | (go_at_call 79; refine (HandleSlot_spec _ _).mono ?_; rw [hsl]; rintro e w2 ⟨rfl, rfl⟩))
        go_ret
        exact ⟨ret_bool (by rw [inLimboB, ← HI.out, HP.out]), hb0.trans (hb.mono hb0.size)⟩
      · have c2' : (L[i].Handle % 32 == slot) = false := by simpa using c2
        have HP := Hid.mk_ (any_take_succ (inRowB slot) L i hlt HN.out (by simp [inRowB, c2']))
        clear c2
        go_wp2_with (first | (go_at_call 131; refine (HandleOk_spec _ _).mono ?_; rw [c1]; rintro e w2 ⟨rfl, rfl⟩) | (go_at_call 79; refine (HandleSlot_spec _ _).mono ?_; rw [hsl]; rintro e w2 ⟨rfl, rfl⟩))
        go_roundw
        case rel => exact ⟨i + 1, by omega, by go_num, hb, HP.out⟩
        case measure => simp [intOf]; omega
    · go_wp2
      go_ret
      obtain rfl : i = L.length := by omega
      exact ⟨ret_bool (by rw [inLimboB, ← HI.out]; simpa using HN.out.symm), hb0.trans (hb.mono hb0.size)⟩
end Go.Proofs.YtkldapdpaldbgaaGreat.Lim
