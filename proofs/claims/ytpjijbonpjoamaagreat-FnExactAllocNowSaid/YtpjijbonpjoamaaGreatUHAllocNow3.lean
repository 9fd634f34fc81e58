/-
  Several texts in one: lemmas and contracts that the claim rests on.
-/
import Derived.Test.YtpjijbonpjoamaaGreatUHAllocNow1
import Derived.Deep.QuietTactic
import Derived.BigQuiet
import Derived.Deep.LoopGhost
import Derived.Deep.RegionHeld3
import Derived.WalkSpells
import Derived.Laws.Cover3
import Derived.Test.YtpjijbonpjoamaaGreatUHAllocNow2
/-
  What a value still holds of its marks.
-/
namespace Go.Proofs.YtpjijbonpjoamaaGreat
open Go.RowKit

set_option maxHeartbeats 1000000 in
theorem heldSListS_ct (w : World) (v : Value) (t : List SV) (ll : List (List Int)) (k : Int) (h : RdLL FI w w.heap.size v t (markLL mkInt 1 ll k)) (hk0 : 0 ≤ k) (hk1 : (k + (totLL ll : Int)) ≤ 4611686018427387904) :
    Calls Tryz.prog 89 #[v, .int .i64 k] w fun e w' => e = .returned (.int .i64 (k + (totLL ll : Int))) ∧ Below w.heap.size w w' := by
  obtain ⟨A, c, hv, q1, q2, _⟩ := id h.outer
  have hlen : t.length = ll.length := h.len.trans (length_markLL _ _ _ _)
  rw [hlen] at hv q1
  have hlt0 : ll.length ≤ 9223372036854775807 := by
    unfold maxLen at q2
    omega
  subst hv
  have hT : Hid (t.length = ll.length) := hlen
  clear hlen
  go_enter Tryz.func89, Tryz.ntmps89
  go_wp2
  go_loopw [1, 5] (fun q i wr => ∃ i' : Nat, i' ≤ ll.length ∧ i = .int .i64 i' ∧ q = .int .i64 (k + (totLL (ll.take i') : Int)) ∧ Below w.heap.size w wr) (fun _ i _ => ll.length - (intOf i).toNat)
  case atStart => exact ⟨0, Nat.zero_le _, rfl, by simp [totLL], Below.refl _ _⟩
  case round =>
    obtain ⟨i, hi, rfl, rfl, hb⟩ := hrel
    by_cases hlt : i < ll.length
    · have m1 : t[i]? = some (t[i]'(by rw [hT.out]; exact hlt)) := List.getElem?_eq_getElem _
      generalize t[i]'(by rw [hT.out]; exact hlt) = s at m1
      have ro := rd_up (h.inner i s _ m1 (markLL_get mkInt 1 ll i k hlt)) hb
      obtain ⟨g, o1, cap1, e1, b1, _, _, q1⟩ := (h.outer.below hb).at_ m1
      injection e1 with e11 e12 e13
      clear e12
      subst e11 e13
      have p0 : wr.cell? ⟨g, o1 + i, none⟩ = some (.slice s.a s.len s.cap) := by simpa [FS] using q1 0 _ rfl
      have ht1 := totLL_take_succ ll i hlt
      have ht2 := totLL_take_le ll (i + 1)
      have HT : Hid (totLL (ll.take (i + 1)) = totLL (ll.take i) + ll[i].length) := ht1
      have kb : k + (totLL (ll.take i) : Int) * 1 + (ll[i].length : Int) * 1 ≤ 4611686018427387904 := by omega
      have k0 : 0 ≤ k + (totLL (ll.take i) : Int) * 1 := by omega
      clear q1 ht1 h
      go_wp2_with (go_at_call 88; refine (heldIntS_ct _ s.val ll[i] _ (by simpa using ro) (by omega) (by omega)).mono ?_; rintro e w1 ⟨rfl, hb1⟩; obtain ⟨os1, d1, rfl⟩ := below_grows hb1; clear hb1)
      go_roundw
      case rel => exact ⟨i + 1, by omega, by go_num, by rw [HT.out]; go_num, below_grow_of hb hb.size _ _⟩
      case measure => simp [intOf]; omega
    · go_wp2
      go_ret
      obtain rfl : i = ll.length := by omega
      exact ⟨by simp, hb⟩
theorem heldSListS_w (w : World) (K : SV) (t : List SV) (ll : List (List Int)) (k : Int) (h : RdLL FI w w.heap.size K.val t (markLL mkInt 1 ll k)) (hk0 : 0 ≤ k) (hk1 : k + ((totLL ll : Nat) : Int) ≤ 4611686018427387904) :
    Calls Tryz.prog 89 #[.slice K.a K.len K.cap, .int .i64 k] w fun e w' => e = .returned (.int .i64 (k + ((totLL ll : Nat) : Int))) ∧ Below w.heap.size w w' :=
  (heldSListS_ct w _ t ll k h hk0 (by omega)).mono fun _ _ ⟨a, b⟩ => ⟨a.trans (ret_i64 (by omega)), b⟩

set_option maxRecDepth 100000 in
set_option maxHeartbeats 4000000 in
theorem heldHeap_ct (w : World) (H : HHeap) (x : Heap) (k : Int) (h : RdHeap w w.heap.size H (markHeap x k)) (hk0 : 0 ≤ k) (hk1 : k + (nMarkHeap x : Int) ≤ 4611686018427387904) :
    Calls Tryz.prog 36 #[.agg #[.slice H.Bytes.a H.Bytes.len H.Bytes.cap, .slice H.Class.a H.Class.len H.Class.cap], .int .i64 k] w fun e w' => e = .returned (.int .i64 (k + (nMarkHeap x : Int))) ∧ Below w.heap.size w w' := by
  have ba0 : Box (w.alloc (.cells #[.slice H.Bytes.a H.Bytes.len H.Bytes.cap, .slice H.Class.a H.Class.len H.Class.cap] 31)) w.heap.size [.slice H.Bytes.a H.Bytes.len H.Bytes.cap, .slice H.Class.a H.Class.len H.Class.cap] := Box.new w #[.slice H.Bytes.a H.Bytes.len H.Bytes.cap, .slice H.Class.a H.Class.len H.Class.cap] 31
  have hB0 : Below w.heap.size w (w.alloc (.cells #[.slice H.Bytes.a H.Bytes.len H.Bytes.cap, .slice H.Class.a H.Class.len H.Class.cap] 31)) := by repeat (first | exact Below.refl _ _ | refine Below.alloc ?_ (by simp <;> omega) _ | refine below_grow_of ?_ (by simp <;> omega) _ _ | refine Below.drew ?_ | refine below_drewN ?_ _)
  have HE := Hid.mk_ (show nMarkHeap x = x.Bytes.length + x.Class.length from rfl)
  have HK := Hid.mk_ hk1
  clear hk1
  go_enter Tryz.func36, Tryz.ntmps36
  go_wp2_with fail
  refine (heldIntS_w _ H.Bytes x.Bytes (k) (rd_up h.Bytes hB0) (by omega) (by have := HK.out; rw [HE.out] at this; omega)).mono ?_
  rintro e w1 ⟨rfl, hb0⟩
  have ba1 := ba0.below hb0
  have hB1 := hB0.trans (hb0.mono hB0.size)
  have hn0 : ¬ k + ((x.Bytes.length : Nat) : Int) < 0 := by omega
  clear ba0 hb0 hB0
  have qa0 := ba1.cell 0 _ rfl
  have qa1 := ba1.cell 1 _ rfl
  go_wp2_with fail
  refine (heldIntS_w _ H.Class x.Class (k + ((x.Bytes.length : Nat) : Int)) (rd_up h.Class hB1) (by omega) (by have := HK.out; rw [HE.out] at this; omega)).mono ?_
  rintro e w2 ⟨rfl, hb1⟩
  have ba2 := ba1.below hb1
  have hB2 := hB1.trans (hb1.mono hB1.size)
  have hn1 : ¬ k + ((x.Bytes.length : Nat) : Int) + ((x.Class.length : Nat) : Int) < 0 := by omega
  clear ba1 hb1 hB1 qa0 qa1
  have qa0 := ba2.cell 0 _ rfl
  have qa1 := ba2.cell 1 _ rfl
  go_wp2
  go_ret
  exact ⟨ret_i64 (by rw [HE.out]; omega), hB2⟩

set_option maxRecDepth 100000 in
set_option maxHeartbeats 4000000 in
theorem heldLists_ct (w : World) (H : HLists) (x : Lists) (k : Int) (h : RdLists w w.heap.size H (markLists x k)) (hk0 : 0 ≤ k) (hk1 : k + (nMarkLists x : Int) ≤ 4611686018427387904) :
    Calls Tryz.prog 37 #[.agg #[.slice H.Global.a H.Global.len H.Global.cap, .slice H.Own.a H.Own.len H.Own.cap], .int .i64 k] w fun e w' => e = .returned (.int .i64 (k + (nMarkLists x : Int))) ∧ Below w.heap.size w w' := by
  have ba0 : Box (w.alloc (.cells #[.slice H.Global.a H.Global.len H.Global.cap, .slice H.Own.a H.Own.len H.Own.cap] 34)) w.heap.size [.slice H.Global.a H.Global.len H.Global.cap, .slice H.Own.a H.Own.len H.Own.cap] := Box.new w #[.slice H.Global.a H.Global.len H.Global.cap, .slice H.Own.a H.Own.len H.Own.cap] 34
  have hB0 : Below w.heap.size w (w.alloc (.cells #[.slice H.Global.a H.Global.len H.Global.cap, .slice H.Own.a H.Own.len H.Own.cap] 34)) := by repeat (first | exact Below.refl _ _ | refine Below.alloc ?_ (by simp <;> omega) _ | refine below_grow_of ?_ (by simp <;> omega) _ _ | refine Below.drew ?_ | refine below_drewN ?_ _)
  have HE := Hid.mk_ (show nMarkLists x = totLL x.Global + totLL x.Own from rfl)
  have HK := Hid.mk_ hk1
  clear hk1
  go_enter Tryz.func37, Tryz.ntmps37
  go_wp2_with fail
  refine (heldSListS_w _ H.Global H.GlobalT x.Global (k) (rdLL_up h.Global hB0) (by omega) (by have := HK.out; rw [HE.out] at this; omega)).mono ?_
  rintro e w1 ⟨rfl, hb0⟩
  have ba1 := ba0.below hb0
  have hB1 := hB0.trans (hb0.mono hB0.size)
  have hn0 : ¬ k + ((totLL x.Global : Nat) : Int) < 0 := by omega
  clear ba0 hb0 hB0
  have qa0 := ba1.cell 0 _ rfl
  have qa1 := ba1.cell 1 _ rfl
  go_wp2_with fail
  refine (heldSListS_w _ H.Own H.OwnT x.Own (k + ((totLL x.Global : Nat) : Int)) (rdLL_up h.Own hB1) (by omega) (by have := HK.out; rw [HE.out] at this; omega)).mono ?_
  rintro e w2 ⟨rfl, hb1⟩
  have ba2 := ba1.below hb1
  have hB2 := hB1.trans (hb1.mono hB1.size)
  have hn1 : ¬ k + ((totLL x.Global : Nat) : Int) + ((totLL x.Own : Nat) : Int) < 0 := by omega
  clear ba1 hb1 hB1 qa0 qa1
  have qa0 := ba2.cell 0 _ rfl
  have qa1 := ba2.cell 1 _ rfl
  go_wp2
  go_ret
  exact ⟨ret_i64 (by rw [HE.out]; omega), hB2⟩

set_option maxRecDepth 100000 in
set_option maxHeartbeats 4000000 in
theorem heldMem_ct (w : World) (H : HMem) (x : Mem) (k : Int) (h : RdMem w w.heap.size H (markMem x k)) (hk0 : 0 ≤ k) (hk1 : k + (nMarkMem x : Int) ≤ 4611686018427387904) :
    Calls Tryz.prog 12 #[.agg #[.slice H.Heap.Bytes.a H.Heap.Bytes.len H.Heap.Bytes.cap, .slice H.Heap.Class.a H.Heap.Class.len H.Heap.Class.cap, .slice H.Lists.Global.a H.Lists.Global.len H.Lists.Global.cap, .slice H.Lists.Own.a H.Lists.Own.len H.Lists.Own.cap], .int .i64 k] w fun e w' => e = .returned (.int .i64 (k + (nMarkMem x : Int))) ∧ Below w.heap.size w w' := by
  have ba0 : Box (w.alloc (.cells #[.slice H.Heap.Bytes.a H.Heap.Bytes.len H.Heap.Bytes.cap, .slice H.Heap.Class.a H.Heap.Class.len H.Heap.Class.cap, .slice H.Lists.Global.a H.Lists.Global.len H.Lists.Global.cap, .slice H.Lists.Own.a H.Lists.Own.len H.Lists.Own.cap] 36)) w.heap.size [.slice H.Heap.Bytes.a H.Heap.Bytes.len H.Heap.Bytes.cap, .slice H.Heap.Class.a H.Heap.Class.len H.Heap.Class.cap, .slice H.Lists.Global.a H.Lists.Global.len H.Lists.Global.cap, .slice H.Lists.Own.a H.Lists.Own.len H.Lists.Own.cap] := Box.new w #[.slice H.Heap.Bytes.a H.Heap.Bytes.len H.Heap.Bytes.cap, .slice H.Heap.Class.a H.Heap.Class.len H.Heap.Class.cap, .slice H.Lists.Global.a H.Lists.Global.len H.Lists.Global.cap, .slice H.Lists.Own.a H.Lists.Own.len H.Lists.Own.cap] 36
  have hB0 : Below w.heap.size w (w.alloc (.cells #[.slice H.Heap.Bytes.a H.Heap.Bytes.len H.Heap.Bytes.cap, .slice H.Heap.Class.a H.Heap.Class.len H.Heap.Class.cap, .slice H.Lists.Global.a H.Lists.Global.len H.Lists.Global.cap, .slice H.Lists.Own.a H.Lists.Own.len H.Lists.Own.cap] 36)) := by repeat (first | exact Below.refl _ _ | refine Below.alloc ?_ (by simp <;> omega) _ | refine below_grow_of ?_ (by simp <;> omega) _ _ | refine Below.drew ?_ | refine below_drewN ?_ _)
  have HE := Hid.mk_ (show nMarkMem x = nMarkHeap x.Heap + nMarkLists x.Lists from rfl)
  have HK := Hid.mk_ hk1
  clear hk1
  go_enter Tryz.func12, Tryz.ntmps12
  go_wp2_with fail
  refine (heldHeap_ct _ H.Heap x.Heap (k) (rdHeap_up h.Heap hB0) (by omega) (by have := HK.out; rw [HE.out] at this; omega)).mono ?_
  rintro e w1 ⟨rfl, hb0⟩
  have ba1 := ba0.below hb0
  have hB1 := hB0.trans (hb0.mono hB0.size)
  have hn0 : ¬ k + ((nMarkHeap x.Heap : Nat) : Int) < 0 := by omega
  clear ba0 hb0 hB0
  have qa0 := ba1.cell 0 _ rfl
  have qa1 := ba1.cell 1 _ rfl
  have qa2 := ba1.cell 2 _ rfl
  have qa3 := ba1.cell 3 _ rfl
  go_wp2_with fail
  refine (heldLists_ct _ H.Lists x.Lists (k + ((nMarkHeap x.Heap : Nat) : Int)) (rdLists_up h.Lists hB1) (by omega) (by have := HK.out; rw [HE.out] at this; omega)).mono ?_
  rintro e w2 ⟨rfl, hb1⟩
  have ba2 := ba1.below hb1
  have hB2 := hB1.trans (hb1.mono hB1.size)
  have hn1 : ¬ k + ((nMarkHeap x.Heap : Nat) : Int) + ((nMarkLists x.Lists : Nat) : Int) < 0 := by omega
  clear ba1 hb1 hB1 qa0 qa1 qa2 qa3
  have qa0 := ba2.cell 0 _ rfl
  have qa1 := ba2.cell 1 _ rfl
  have qa2 := ba2.cell 2 _ rfl
  have qa3 := ba2.cell 3 _ rfl
  go_wp2
  go_ret
  exact ⟨ret_i64 (by rw [HE.out]; omega), hB2⟩
end Go.Proofs.YtpjijbonpjoamaaGreat

/-
  Places in the arena: sizes, strides, slots, ranges: plain definitions and facts.
-/
namespace Go.Proofs.YtpjijbonpjoamaaGreat
open Go.RowKit
def perPage (c : Int) : Int := if c = 0 then 4 else if c = 1 then 2 else if c = 2 then 1 else 0
def strideOf (c : Int) : Int := if c = 0 then 12 else if c = 1 then 20 else if c = 2 then 44 else 0
def sizeOfC (c : Int) : Int := if c = 0 then 8 else if c = 1 then 16 else if c = 2 then 40 else 0
def classOfS (n : Int) : Int := if n < 1 then -1 else if n ≤ 8 then 0 else if n ≤ 16 then 1 else if n ≤ 40 then 2 else -1
def pageOfS (s : Int) : Int := if inB 0 23 s = true then s / 4 else -1
def indexOfS (s : Int) : Int := if inB 0 23 s = true then s % 4 else -1
def slotAtP (p i : Int) : Int := if inB 0 5 p = true ∧ inB 0 3 i = true then p * 4 + i else -1
def genAt (s c : Int) : Int := if inB 0 23 s = true ∧ inB 0 2 c = true ∧ s % 4 < perPage c then s / 4 * 64 + 8 + s % 4 * strideOf c else -1
theorem cls {c : Int} (h : inB 0 2 c = true) : c = 0 ∨ c = 1 ∨ c = 2 := by
  have := inB_iff.1 h
  omega
theorem perPage_no {c : Int} (h : inB 0 2 c = false) : perPage c = 0 := by
  have := inB_not h
  unfold perPage
  rw [if_neg (by omega), if_neg (by omega), if_neg (by omega)]
theorem strideOf_no {c : Int} (h : inB 0 2 c = false) : strideOf c = 0 := by
  have := inB_not h
  unfold strideOf
  rw [if_neg (by omega), if_neg (by omega), if_neg (by omega)]
theorem sizeOfC_no {c : Int} (h : inB 0 2 c = false) : sizeOfC c = 0 := by
  have := inB_not h
  unfold sizeOfC
  rw [if_neg (by omega), if_neg (by omega), if_neg (by omega)]
theorem perPage_bd (c : Int) : 0 ≤ perPage c ∧ perPage c ≤ 4 := by
  unfold perPage
  repeat' split
  all_goals omega
theorem strideOf_bd (c : Int) : 0 ≤ strideOf c ∧ strideOf c ≤ 44 := by
  unfold strideOf
  repeat' split
  all_goals omega
theorem sizeOfC_bd (c : Int) : 0 ≤ sizeOfC c ∧ sizeOfC c ≤ 40 := by
  unfold sizeOfC
  repeat' split
  all_goals omega
theorem genAt_yes {s c : Int} (h1 : inB 0 23 s = true) (h2 : inB 0 2 c = true) (h3 : s % 4 < perPage c) : genAt s c = s / 4 * 64 + 8 + s % 4 * strideOf c := if_pos ⟨h1, h2, h3⟩
theorem genAt_no1 {s c : Int} (h1 : inB 0 23 s = false) : genAt s c = -1 := if_neg (by rw [h1]; simp)
theorem genAt_no2 {s c : Int} (h1 : inB 0 2 c = false) : genAt s c = -1 := if_neg (by rw [h1]; simp)
theorem genAt_no3 {s c : Int} (h1 : ¬ s % 4 < perPage c) : genAt s c = -1 := if_neg (fun h => h1 h.2.2)
theorem genAt_bd (s c : Int) : genAt s c = -1 ∨ (8 ≤ genAt s c ∧ genAt s c + 4 + sizeOfC c ≤ 384) := by
  by_cases h : inB 0 23 s = true ∧ inB 0 2 c = true ∧ s % 4 < perPage c
  · right
    obtain ⟨h1, h2, h3⟩ := h
    rw [genAt_yes h1 h2 h3]
    have a := inB_iff.1 h1
    rcases cls h2 with rfl | rfl | rfl
    · simp [perPage, strideOf, sizeOfC] at *; omega
    · simp [perPage, strideOf, sizeOfC] at *; omega
    · simp [perPage, strideOf, sizeOfC] at *; omega
  · exact .inl (if_neg h)
theorem genAt_iff {s c : Int} : 0 ≤ genAt s c ↔ inB 0 23 s = true ∧ inB 0 2 c = true ∧ s % 4 < perPage c := by
  constructor
  · intro h
    by_cases k : inB 0 23 s = true ∧ inB 0 2 c = true ∧ s % 4 < perPage c
    · exact k
    · unfold genAt at h
      rw [if_neg k] at h
      omega
  · rintro ⟨h1, h2, h3⟩
    rcases genAt_bd s c with h | h
    · rw [genAt_yes h1 h2 h3] at h
      have a := inB_iff.1 h1
      have b := strideOf_bd c
      have d : 0 ≤ s % 4 * strideOf c := Int.mul_nonneg (by omega) b.1
      omega
    · omega
end Go.Proofs.YtpjijbonpjoamaaGreat

/-
  Places in the arena: the contracts of the small functions.
-/
namespace Go.Proofs.YtpjijbonpjoamaaGreat
open Go.RowKit
theorem isWidth_ct (n : Int) (w : World) : Calls Tryz.prog 92 #[.int .i64 n] w fun e w' => e = .returned (.bool (inB 1 7 n)) ∧ w = w' := by
  go_enter Tryz.func92, Tryz.ntmps92
  go_wp2_with (go_at_call 75; refine (within_ct _ _ _ _).mono ?_; rintro e w1 ⟨rfl, rfl⟩)
  go_ret
  exact ⟨rfl, rfl⟩
theorem isByte_ct (n : Int) (w : World) : Calls Tryz.prog 143 #[.int .i64 n] w fun e w' => e = .returned (.bool (inB 0 255 n)) ∧ w = w' := by
  go_enter Tryz.func143, Tryz.ntmps143
  go_wp2_with (go_at_call 75; refine (within_ct _ _ _ _).mono ?_; rintro e w1 ⟨rfl, rfl⟩)
  go_ret
  exact ⟨rfl, rfl⟩
theorem isClass_ct (n : Int) (w : World) : Calls Tryz.prog 101 #[.int .i64 n] w fun e w' => e = .returned (.bool (inB 0 2 n)) ∧ w = w' := by
  go_enter Tryz.func101, Tryz.ntmps101
  go_wp2_with (go_at_call 75; refine (within_ct _ _ _ _).mono ?_; rintro e w1 ⟨rfl, rfl⟩)
  go_ret
  exact ⟨rfl, rfl⟩
theorem isSlot_ct (n : Int) (w : World) : Calls Tryz.prog 121 #[.int .i64 n] w fun e w' => e = .returned (.bool (inB 0 23 n)) ∧ w = w' := by
  go_enter Tryz.func121, Tryz.ntmps121
  go_wp2_with (go_at_call 75; refine (within_ct _ _ _ _).mono ?_; rintro e w1 ⟨rfl, rfl⟩)
  go_ret
  exact ⟨rfl, rfl⟩
set_option maxHeartbeats 1000000 in
theorem SizeOf_impl (c : Int) (w : World) : Calls Tryz.prog 98 #[.int .i64 c] w fun e w' => e = .returned (.int .i64 (sizeOfC c)) ∧ w = w' := by
  have hix := @run_index_one Tryz.prog _ _ _ Tryz.underlying116 (fun _ => by kernel_rfl) (by kernel_rfl)
  by_cases h : inB 0 2 c = true
  · rcases cls h with rfl | rfl | rfl <;>
      (go_enter Tryz.func98, Tryz.ntmps98; go_wp2; go_ret; exact ⟨rfl, rfl⟩)
  · have h' : inB 0 2 c = false := (Bool.not_eq_true _).mp h
    have hn := inB_not h'
    have HS := Hid.mk_ (sizeOfC_no h')
    have n0 : (c == 0) = false := by simp; omega
    have n1 : (c == 1) = false := by simp; omega
    have n2 : (c == 2) = false := by simp; omega
    clear h
    rcases (show c < 0 ∨ 2 < c by omega) with h1 | h1
    · have h0 : ¬ 0 ≤ c := by omega
      go_enter Tryz.func98, Tryz.ntmps98
      go_wp2
      go_ret
      exact ⟨ret_i64 HS.out.symm, rfl⟩
    · have h0 : ¬ c ≤ 2 := by omega
      go_enter Tryz.func98, Tryz.ntmps98
      go_wp2
      go_ret
      exact ⟨ret_i64 HS.out.symm, rfl⟩
set_option maxHeartbeats 1000000 in
theorem StrideOf_impl (c : Int) (w : World) : Calls Tryz.prog 137 #[.int .i64 c] w fun e w' => e = .returned (.int .i64 (strideOf c)) ∧ w = w' := by
  have hix := @run_index_one Tryz.prog _ _ _ Tryz.underlying116 (fun _ => by kernel_rfl) (by kernel_rfl)
  by_cases h : inB 0 2 c = true
  · rcases cls h with rfl | rfl | rfl <;>
      (go_enter Tryz.func137, Tryz.ntmps137; go_wp2; go_ret; exact ⟨rfl, rfl⟩)
  · have h' : inB 0 2 c = false := (Bool.not_eq_true _).mp h
    have hn := inB_not h'
    have HS := Hid.mk_ (strideOf_no h')
    have n0 : (c == 0) = false := by simp; omega
    have n1 : (c == 1) = false := by simp; omega
    have n2 : (c == 2) = false := by simp; omega
    clear h
    rcases (show c < 0 ∨ 2 < c by omega) with h1 | h1
    · have h0 : ¬ 0 ≤ c := by omega
      go_enter Tryz.func137, Tryz.ntmps137
      go_wp2
      go_ret
      exact ⟨ret_i64 HS.out.symm, rfl⟩
    · have h0 : ¬ c ≤ 2 := by omega
      go_enter Tryz.func137, Tryz.ntmps137
      go_wp2
      go_ret
      exact ⟨ret_i64 HS.out.symm, rfl⟩
set_option maxHeartbeats 1000000 in
theorem PerPage_impl (c : Int) (w : World) : Calls Tryz.prog 130 #[.int .i64 c] w fun e w' => e = .returned (.int .i64 (perPage c)) ∧ w = w' := by
  have hix := @run_index_one Tryz.prog _ _ _ Tryz.underlying116 (fun _ => by kernel_rfl) (by kernel_rfl)
  by_cases h : inB 0 2 c = true
  · rcases cls h with rfl | rfl | rfl <;>
      (go_enter Tryz.func130, Tryz.ntmps130; go_wp2; go_ret; exact ⟨rfl, rfl⟩)
  · have h' : inB 0 2 c = false := (Bool.not_eq_true _).mp h
    have hn := inB_not h'
    have HS := Hid.mk_ (perPage_no h')
    have n0 : (c == 0) = false := by simp; omega
    have n1 : (c == 1) = false := by simp; omega
    have n2 : (c == 2) = false := by simp; omega
    clear h
    rcases (show c < 0 ∨ 2 < c by omega) with h1 | h1
    · have h0 : ¬ 0 ≤ c := by omega
      go_enter Tryz.func130, Tryz.ntmps130
      go_wp2
      go_ret
      exact ⟨ret_i64 HS.out.symm, rfl⟩
    · have h0 : ¬ c ≤ 2 := by omega
      go_enter Tryz.func130, Tryz.ntmps130
      go_wp2
      go_ret
      exact ⟨ret_i64 HS.out.symm, rfl⟩
set_option maxHeartbeats 1000000 in
theorem SizeOf_spec (c : Int) (w : World) : Calls Tryz.prog 90 #[.int .i64 c] w fun e w' => e = .returned (.int .i64 (sizeOfC c)) ∧ w = w' := by
  by_cases h : inB 0 2 c = true
  · rcases cls h with rfl | rfl | rfl <;>
      (go_enter Tryz.func90, Tryz.ntmps90; go_wp2; go_ret; exact ⟨rfl, rfl⟩)
  · have h' : inB 0 2 c = false := (Bool.not_eq_true _).mp h
    have hn := inB_not h'
    have HS := Hid.mk_ (sizeOfC_no h')
    have n0 : (c == 0) = false := by simp; omega
    have n1 : (c == 1) = false := by simp; omega
    have n2 : (c == 2) = false := by simp; omega
    clear h
    rcases (show c < 0 ∨ 2 < c by omega) with h1 | h1
    · have h0 : ¬ 0 ≤ c := by omega
      go_enter Tryz.func90, Tryz.ntmps90
      go_wp2
      go_ret
      exact ⟨ret_i64 HS.out.symm, rfl⟩
    · have h0 : ¬ c ≤ 2 := by omega
      go_enter Tryz.func90, Tryz.ntmps90
      go_wp2
      go_ret
      exact ⟨ret_i64 HS.out.symm, rfl⟩
set_option maxHeartbeats 1000000 in
theorem PerPage_spec (c : Int) (w : World) : Calls Tryz.prog 115 #[.int .i64 c] w fun e w' => e = .returned (.int .i64 (perPage c)) ∧ w = w' := by
  by_cases h : inB 0 2 c = true
  · rcases cls h with rfl | rfl | rfl <;>
      (go_enter Tryz.func115, Tryz.ntmps115; go_wp2; go_ret; exact ⟨rfl, rfl⟩)
  · have h' : inB 0 2 c = false := (Bool.not_eq_true _).mp h
    have hn := inB_not h'
    have HS := Hid.mk_ (perPage_no h')
    have n0 : (c == 0) = false := by simp; omega
    have n1 : (c == 1) = false := by simp; omega
    have n2 : (c == 2) = false := by simp; omega
    clear h
    rcases (show c < 0 ∨ 2 < c by omega) with h1 | h1
    · have h0 : ¬ 0 ≤ c := by omega
      go_enter Tryz.func115, Tryz.ntmps115
      go_wp2
      go_ret
      exact ⟨ret_i64 HS.out.symm, rfl⟩
    · have h0 : ¬ c ≤ 2 := by omega
      go_enter Tryz.func115, Tryz.ntmps115
      go_wp2
      go_ret
      exact ⟨ret_i64 HS.out.symm, rfl⟩
set_option maxHeartbeats 1000000 in
theorem PageOf_spec (s : Int) (w : World) : Calls Tryz.prog 113 #[.int .i64 s] w fun e w' => e = .returned (.int .i64 (pageOfS s)) ∧ w = w' := by
  by_cases h : inB 0 23 s = true
  · have hb := inB_iff.1 h
    obtain ⟨b1, b2⟩ := hb
    have HS := Hid.mk_ (show pageOfS s = s / 4 from if_pos h)
    go_enter Tryz.func113, Tryz.ntmps113
    go_wp2_with (go_at_call 21; refine (l1In_ct _ _ _ _).mono ?_; rintro e w1 ⟨rfl, rfl⟩)
    go_ret
    exact ⟨ret_i64 HS.out.symm, rfl⟩
  · have HS := Hid.mk_ (show pageOfS s = -1 from if_neg h)
    have h' : inB 0 23 s = false := (Bool.not_eq_true _).mp h
    clear h
    go_enter Tryz.func113, Tryz.ntmps113
    go_wp2_with (go_at_call 21; refine (l1In_ct _ _ _ _).mono ?_; rintro e w1 ⟨rfl, rfl⟩)
    go_ret
    exact ⟨ret_i64 HS.out.symm, rfl⟩
set_option maxHeartbeats 1000000 in
theorem IndexOf_spec (s : Int) (w : World) : Calls Tryz.prog 114 #[.int .i64 s] w fun e w' => e = .returned (.int .i64 (indexOfS s)) ∧ w = w' := by
  by_cases h : inB 0 23 s = true
  · have hb := inB_iff.1 h
    obtain ⟨b1, b2⟩ := hb
    have HS := Hid.mk_ (show indexOfS s = s % 4 from if_pos h)
    go_enter Tryz.func114, Tryz.ntmps114
    go_wp2_with (go_at_call 21; refine (l1In_ct _ _ _ _).mono ?_; rintro e w1 ⟨rfl, rfl⟩)
    go_ret
    exact ⟨ret_i64 HS.out.symm, rfl⟩
  · have HS := Hid.mk_ (show indexOfS s = -1 from if_neg h)
    have h' : inB 0 23 s = false := (Bool.not_eq_true _).mp h
    clear h
    go_enter Tryz.func114, Tryz.ntmps114
    go_wp2_with (go_at_call 21; refine (l1In_ct _ _ _ _).mono ?_; rintro e w1 ⟨rfl, rfl⟩)
    go_ret
    exact ⟨ret_i64 HS.out.symm, rfl⟩
set_option maxHeartbeats 2000000 in
theorem GenAt_impl (s c : Int) (w : World) : Calls Tryz.prog 125 #[.int .i64 s, .int .i64 c] w fun e w' => e = .returned (.int .i64 (genAt s c)) ∧ w = w' := by
  have hix := @run_index_one Tryz.prog _ _ _ Tryz.underlying116 (fun _ => by kernel_rfl) (by kernel_rfl)
  by_cases h : inB 0 23 s = true
  case neg =>
    have h' : inB 0 23 s = false := (Bool.not_eq_true _).mp h
    have HS := Hid.mk_ (genAt_no1 (c := c) h')
    have hn := inB_not h'
    rcases (show s < 0 ∨ 23 < s by omega) with h1 | h1
    · have h0 : ¬ 0 ≤ s := by omega
      go_enter Tryz.func125, Tryz.ntmps125
      go_wp2
      go_ret
      exact ⟨ret_i64 HS.out.symm, rfl⟩
    · have h0 : ¬ s ≤ 23 := by omega
      go_enter Tryz.func125, Tryz.ntmps125
      go_wp2
      go_ret
      exact ⟨ret_i64 HS.out.symm, rfl⟩
  obtain ⟨b1, b2⟩ := inB_iff.1 h
  by_cases hc : inB 0 2 c = true
  case neg =>
    have hc' : inB 0 2 c = false := (Bool.not_eq_true _).mp hc
    have HS := Hid.mk_ (genAt_no2 (s := s) hc')
    have hn := inB_not hc'
    have n0 : (c == 0) = false := by simp; omega
    have n1 : (c == 1) = false := by simp; omega
    have n2 : (c == 2) = false := by simp; omega
    clear h hc hc'
    rcases (show c < 0 ∨ 2 < c by omega) with h1 | h1
    · have h0 : ¬ 0 ≤ c := by omega
      go_enter Tryz.func125, Tryz.ntmps125
      go_wp2
      go_ret
      exact ⟨ret_i64 HS.out.symm, rfl⟩
    · have h0 : ¬ c ≤ 2 := by omega
      go_enter Tryz.func125, Tryz.ntmps125
      go_wp2
      go_ret
      exact ⟨ret_i64 HS.out.symm, rfl⟩
  by_cases hp : s % 4 < perPage c
  · have HS := Hid.mk_ (genAt_yes h hc hp)
    rcases cls hc with rfl | rfl | rfl <;>
      (simp [perPage] at hp; clear h hc; go_enter Tryz.func125, Tryz.ntmps125; go_wp2; go_ret; exact ⟨ret_i64 (by rw [HS.out]; simp [strideOf]), rfl⟩)
  · have HS := Hid.mk_ (genAt_no3 (s := s) (c := c) hp)
    rcases cls hc with rfl | rfl | rfl
    · exact absurd (show s % 4 < perPage 0 by show s % 4 < 4; omega) hp
    · (simp [perPage] at hp; clear h hc; go_enter Tryz.func125, Tryz.ntmps125; go_wp2; go_ret; exact ⟨ret_i64 (by rw [HS.out]), rfl⟩)
    · (simp [perPage] at hp; clear h hc; go_enter Tryz.func125, Tryz.ntmps125; go_wp2; go_ret; exact ⟨ret_i64 (by rw [HS.out]), rfl⟩)
set_option maxHeartbeats 2000000 in
theorem GenAt_spec (s c : Int) (w : World) : Calls Tryz.prog 68 #[.int .i64 s, .int .i64 c] w fun e w' => e = .returned (.int .i64 (genAt s c)) ∧ w = w' := by
  by_cases h : inB 0 23 s = true
  case neg =>
    have h' : inB 0 23 s = false := (Bool.not_eq_true _).mp h
    have HS := Hid.mk_ (genAt_no1 (c := c) h')
    have hn := inB_not h'
    rcases (show s < 0 ∨ 23 < s by omega) with h1 | h1
    · have h0 : ¬ 0 ≤ s := by omega
      go_enter Tryz.func68, Tryz.ntmps68
      go_wp2
      go_ret
      exact ⟨ret_i64 HS.out.symm, rfl⟩
    · have h0 : ¬ s ≤ 23 := by omega
      go_enter Tryz.func68, Tryz.ntmps68
      go_wp2
      go_ret
      exact ⟨ret_i64 HS.out.symm, rfl⟩
  obtain ⟨b1, b2⟩ := inB_iff.1 h
  by_cases hc : inB 0 2 c = true
  case neg =>
    have hc' : inB 0 2 c = false := (Bool.not_eq_true _).mp hc
    have HS := Hid.mk_ (genAt_no2 (s := s) hc')
    have hn := inB_not hc'
    have k1 : ¬ s / 4 < 0 := by omega
    have k2 : ¬ s % 4 ≤ -1 := by omega
    have n0 : (c == 0) = false := by simp; omega
    have n1 : (c == 1) = false := by simp; omega
    have n2 : (c == 2) = false := by simp; omega
    clear h hc hc'
    rcases (show c < 0 ∨ 2 < c by omega) with h1 | h1
    · have h0 : ¬ 0 ≤ c := by omega
      go_enter Tryz.func68, Tryz.ntmps68
      go_wp2
      go_ret
      exact ⟨ret_i64 HS.out.symm, rfl⟩
    · have h0 : ¬ c ≤ 2 := by omega
      go_enter Tryz.func68, Tryz.ntmps68
      go_wp2
      go_ret
      exact ⟨ret_i64 HS.out.symm, rfl⟩
  have k1 : ¬ s / 4 < 0 := by omega
  by_cases hp : s % 4 < perPage c
  · have hp' : s % 4 ≤ perPage c - 1 := by omega
    have HS := Hid.mk_ (genAt_yes h hc hp)
    rcases cls hc with rfl | rfl | rfl <;>
      (simp [perPage] at hp hp'; clear hp; clear h hc; go_enter Tryz.func68, Tryz.ntmps68; go_wp2; go_ret; exact ⟨ret_i64 (by rw [HS.out]; simp [strideOf]), rfl⟩)
  · have hp' : ¬ s % 4 ≤ perPage c - 1 := by omega
    have HS := Hid.mk_ (genAt_no3 (s := s) (c := c) hp)
    rcases cls hc with rfl | rfl | rfl
    · exact absurd (show s % 4 < perPage 0 by show s % 4 < 4; omega) hp
    · (simp [perPage] at hp hp'; clear hp; rw [← Int.not_le] at hp'; clear h hc; go_enter Tryz.func68, Tryz.ntmps68; go_wp2; go_ret; exact ⟨ret_i64 (by rw [HS.out]), rfl⟩)
    · (simp [perPage] at hp hp'; clear hp; rw [← Int.not_le] at hp'; clear h hc; go_enter Tryz.func68, Tryz.ntmps68; go_wp2; go_ret; exact ⟨ret_i64 (by rw [HS.out]), rfl⟩)
end Go.Proofs.YtpjijbonpjoamaaGreat

/-
  Lists of ints searched; bytes: the contracts.
-/
namespace Go.Proofs.YtpjijbonpjoamaaGreat
open Go.RowKit

def idxOf {α : Type} (p : α → Bool) (l : List α) : Int := match l.findIdx? p with | some i => i | none => -1
theorem idxOf_hit {α : Type} (p : α → Bool) (l : List α) (i : Nat) (hi : i < l.length) (h : (l.take i).any p = false) (hp : p l[i] = true) : idxOf p l = i := by
  have hf : l.findIdx? p = some i := by
    rw [List.findIdx?_eq_some_iff_getElem]
    refine ⟨hi, hp, fun j hj => ?_⟩
    rw [List.any_eq_false] at h
    exact h l[j] (List.mem_take_iff_getElem.2 ⟨j, by omega, rfl⟩)
  unfold idxOf
  rw [hf]
theorem idxOf_none {α : Type} (p : α → Bool) (l : List α) (h : l.any p = false) : idxOf p l = -1 := by
  have hf : l.findIdx? p = none := by
    rw [List.findIdx?_eq_none_iff]
    intro x hx
    rw [List.any_eq_false] at h
    simpa using h x hx
  unfold idxOf
  rw [hf]
theorem any_take_succ {α : Type} (p : α → Bool) (l : List α) (i : Nat) (hi : i < l.length) (h : (l.take i).any p = false) (hp : p l[i] = false) : (l.take (i + 1)).any p = false := by
  rw [List.take_succ_eq_append_getElem hi, List.any_append, h]
  simp [hp]
theorem idxOf_ge {α : Type} (p : α → Bool) (l : List α) : decide (0 ≤ idxOf p l) = l.any p := by
  unfold idxOf
  cases h : l.findIdx? p with
  | none =>
    rw [List.findIdx?_eq_none_iff] at h
    have : l.any p = false := by
      rw [List.any_eq_false]
      intro x hx
      simp [h x hx]
    rw [this]
    rfl
  | some i =>
    rw [List.findIdx?_eq_some_iff_getElem] at h
    obtain ⟨hi, hp, _⟩ := h
    have : l.any p = true := List.any_eq_true.2 ⟨l[i], List.getElem_mem hi, hp⟩
    rw [this]
    simp

theorem all_not_any {α : Type} (p : α → Bool) (l : List α) : l.all p = !(l.any fun x => !p x) := by
  induction l with
  | nil => rfl
  | cons x l ih => simp [ih]
def bytesOkB (b : List Int) : Bool := decide (b.length ≤ 1000) && b.all (inB 0 255)
def loadTo (b : List Int) (a : Nat) : Nat → Int
  | 0 => 0
  | k + 1 => loadTo b a k * 256 + b.getD (a + k) 0
def loadN (b : List Int) (a k : Int) : Int := loadTo b a.toNat k.toNat
theorem getD_at {α : Type} {b : List α} {d : α} {i : Nat} (h : i < b.length) : b.getD i d = b[i] := by simp [List.getD, h]
theorem getD_off {α : Type} {b : List α} {d : α} {i : Nat} (h : b.length ≤ i) : b.getD i d = d := by simp [List.getD, h]
theorem byte_at {b : List Int} (hb : b.all (inB 0 255) = true) (i : Nat) : 0 ≤ b.getD i 0 ∧ b.getD i 0 ≤ 255 := by
  by_cases h : i < b.length
  · rw [getD_at h]
    exact inB_iff.1 (List.all_eq_true.1 hb _ (List.getElem_mem h))
  · rw [getD_off (by omega)]
    omega
theorem loadTo_bd {b : List Int} (hb : b.all (inB 0 255) = true) (a k : Nat) : 0 ≤ loadTo b a k ∧ loadTo b a k < 256 ^ k := by
  induction k with
  | zero => exact ⟨Int.le_refl _, by show (0 : Int) < 1; omega⟩
  | succ k ih =>
    have h1 := byte_at hb (a + k)
    show 0 ≤ loadTo b a k * 256 + b.getD (a + k) 0 ∧ loadTo b a k * 256 + b.getD (a + k) 0 < 256 ^ (k + 1)
    rw [Int.pow_succ]
    omega
theorem loadTo_small {b : List Int} (hb : b.all (inB 0 255) = true) (a k : Nat) (hk : k ≤ 6) : 0 ≤ loadTo b a k ∧ loadTo b a k ≤ 281474976710656 := by
  have h1 := loadTo_bd hb a k
  have h2 : (256 : Int) ^ k ≤ 281474976710656 := by
    rcases (show k = 0 ∨ k = 1 ∨ k = 2 ∨ k = 3 ∨ k = 4 ∨ k = 5 ∨ k = 6 by omega) with rfl | rfl | rfl | rfl | rfl | rfl | rfl <;> decide
  omega

set_option maxHeartbeats 400000 in
theorem BytesOk_spec (w : World) (v : Value) (b : List Int) (h : RdL FI w w.heap.size v b) :
    Calls Tryz.prog 132 #[v] w fun e w' => e = .returned (.bool (bytesOkB b)) ∧ w = w' := by
  obtain ⟨A, c, hv, q1, q2, _⟩ := id h
  have hlt0 : b.length ≤ 9223372036854775807 := by unfold maxLen at q2; omega
  subst hv
  clear q1 q2
  have HE := Hid.mk_ (show bytesOkB b = (decide (b.length ≤ 1000) && b.all (inB 0 255)) from rfl)
  go_enter Tryz.func132, Tryz.ntmps132
  go_wp2
  go_loop [3] (fun i => ∃ k : Nat, k ≤ b.length ∧ i = .int .i64 k ∧ Hid ((b.take k).all (inB 0 255) = true)) (fun i => b.length - (intOf i).toNat)
  case atStart => exact ⟨0, Nat.zero_le _, rfl, rfl⟩
  case round =>
    obtain ⟨i, hi, rfl, HT⟩ := hrel
    by_cases hlt : i < b.length
    · obtain ⟨g, off, cap', he, hg, _, _, hc⟩ := h.at_ (List.getElem?_eq_getElem hlt)
      injection he with he1 he2 he3
      clear he2
      subst he1 he3
      have p0 : w.cell? ⟨g, off + i, none⟩ = some (.int .i64 b[i]) := by simpa [FI] using hc 0 _ rfl
      clear hc h
      by_cases c1 : inB 0 255 b[i] = true
      · have HN := Hid.mk_ (show (b.take (i + 1)).all (inB 0 255) = true by rw [List.take_succ_eq_append_getElem hlt, List.all_append, HT.out]; simp [c1])
        go_wp2_with (go_at_call 21; refine (l1In_ct _ _ _ _).mono ?_; rintro e w1 ⟨rfl, rfl⟩)
        go_round
        case rel => exact ⟨i + 1, by omega, by go_num, HN⟩
        case measure => simp [intOf]; omega
      · have c1' : inB 0 255 b[i] = false := (Bool.not_eq_true _).mp c1
        have HN := Hid.mk_ (show b.all (inB 0 255) = false from List.all_eq_false.2 ⟨b[i], List.getElem_mem hlt, by rw [c1']; decide⟩)
        clear c1
        go_wp2_with (go_at_call 21; refine (l1In_ct _ _ _ _).mono ?_; rintro e w1 ⟨rfl, rfl⟩)
        go_ret
        exact ⟨ret_bool (by rw [HE.out, HN.out]; simp), rfl⟩
    · obtain rfl : i = b.length := by omega
      have HN := Hid.mk_ (show b.all (inB 0 255) = true by have a := HT.out; rwa [List.take_length] at a)
      by_cases hl : b.length ≤ 1000
      · go_wp2
        go_ret
        exact ⟨ret_bool (by rw [HE.out, HN.out]; simp; omega), rfl⟩
      · go_wp2
        go_ret
        exact ⟨ret_bool (by rw [HE.out]; simp [hl]; omega), rfl⟩

set_option maxHeartbeats 1000000 in
theorem loadNum_impl (w : World) (v : Value) (b : List Int) (a k : Int) (h : RdL FI w w.heap.size v b) (ha : 0 ≤ a) (hk1 : 1 ≤ k) (hk7 : k ≤ 7) (hl : a + k ≤ b.length) (hb : b.all (inB 0 255) = true) :
    Calls Tryz.prog 93 #[v, .int .i64 a, .int .i64 k] w fun e w' => e = .returned (.int .i64 (loadN b a k)) ∧ w = w' := by
  obtain ⟨A, c, hv, q1, q2, _⟩ := id h
  have hlt0 : b.length ≤ 9223372036854775807 := by unfold maxLen at q2; omega
  subst hv
  obtain ⟨a, rfl⟩ := Int.eq_ofNat_of_zero_le ha
  obtain ⟨k, rfl⟩ := Int.eq_ofNat_of_zero_le (Int.le_trans (by decide) hk1)
  have HB := Hid.mk_ (loadTo_small hb a)
  have HY := Hid.mk_ (fun i => byte_at hb i)
  have hl' : a + k ≤ b.length := by omega
  have hk7' : k ≤ 7 := by omega
  have hk1' : 1 ≤ k := by omega
  clear q2 ha hb hl hk7 hk1
  have HE := Hid.mk_ (show loadN b (a : Int) (k : Int) = loadTo b a k from rfl)
  have HS := Hid.mk_ (fun i => (show loadTo b a (i + 1) = loadTo b a i * 256 + b.getD (a + i) 0 from rfl))
  have H0 := Hid.mk_ (show loadTo b a 0 = 0 from rfl)
  obtain ⟨g, off, cap', he, hg, _, _, _⟩ := h.at_ (List.getElem?_eq_getElem (show a < b.length by omega))
  injection he with he1 he2 he3
  clear he2
  subst he1 he3
  have hac : ¬ c = a := by omega
  go_enter Tryz.func93, Tryz.ntmps93
  go_wp2
  go_loop [7, 17] (fun n i => ∃ j : Nat, j ≤ k ∧ i = .int .i64 j ∧ n = .int .i64 (loadTo b a j)) (fun _ i => k - (intOf i).toNat)
  case atStart => exact ⟨0, Nat.zero_le _, rfl, by rw [H0.out]⟩
  case round =>
    obtain ⟨i, hi, rfl, rfl⟩ := hrel
    by_cases hlt : i < k
    · have hai : a + i < b.length := by omega
      obtain ⟨g1, off1, cap1, he, hg1, _, _, hc⟩ := h.at_ (List.getElem?_eq_getElem hai)
      injection he with he1 he2 he3
      injection he1 with he1
      injection he1 with he1 he4
      clear he2
      subst he1 he3 he4
      obtain ⟨y1, y2⟩ := HY.out (a + i)
      obtain ⟨x1, x2⟩ := HB.out i (by omega)
      have HX := Hid.mk_ (HS.out i)
      have e1 : b.getD (a + i) 0 = b[a + i] := getD_at hai
      rw [e1] at y1 y2 HX
      have p0 : w.cell? ⟨g, off + (a + i), none⟩ = some (.int .i64 b[a + i]) := by simpa [FI] using hc 0 _ rfl
      have p1 : w.cell? ⟨g, off + a + i, none⟩ = some (.int .i64 b[a + i]) := by rw [Nat.add_assoc]; exact p0
      generalize b[a + i] = y at p0 p1 y1 y2 HX
      generalize loadTo b a i = x at x1 x2 HX
      clear hc e1 h
      go_wp2
      go_round
      case rel => exact ⟨i + 1, by omega, by go_num, by rw [HX.out]; first | done | go_num⟩
      case measure => simp [intOf]; omega
    · obtain rfl : i = k := by omega
      go_wp2
      go_ret
      exact ⟨ret_i64 HE.out.symm, rfl⟩

set_option maxHeartbeats 1000000 in
theorem l3Load_spec (w : World) (v : Value) (b : List Int) (a k : Int) (h : RdL FI w w.heap.size v b) (ha : 0 ≤ a) (hk1 : 1 ≤ k) (hk7 : k ≤ 7) (hl : a + k ≤ b.length) (hb : b.all (inB 0 255) = true) :
    Calls Tryz.prog 112 #[v, .int .i64 a, .int .i64 k] w fun e w' => e = .returned (.int .i64 (loadN b a k)) ∧ w = w' := by
  obtain ⟨A, c, hv, q1, q2, _⟩ := id h
  have hlt0 : b.length ≤ 9223372036854775807 := by unfold maxLen at q2; omega
  subst hv
  obtain ⟨a, rfl⟩ := Int.eq_ofNat_of_zero_le ha
  obtain ⟨k, rfl⟩ := Int.eq_ofNat_of_zero_le (Int.le_trans (by decide) hk1)
  have HB := Hid.mk_ (loadTo_small hb a)
  have HY := Hid.mk_ (fun i => byte_at hb i)
  have hl' : a + k ≤ b.length := by omega
  have hk7' : k ≤ 7 := by omega
  have hk1' : 1 ≤ k := by omega
  clear q2 ha hb hl hk7 hk1
  have HE := Hid.mk_ (show loadN b (a : Int) (k : Int) = loadTo b a k from rfl)
  have HS := Hid.mk_ (fun i => (show loadTo b a (i + 1) = loadTo b a i * 256 + b.getD (a + i) 0 from rfl))
  have H0 := Hid.mk_ (show loadTo b a 0 = 0 from rfl)
  obtain ⟨g, off, cap', he, hg, _, _, _⟩ := h.at_ (List.getElem?_eq_getElem (show a < b.length by omega))
  injection he with he1 he2 he3
  clear he2
  subst he1 he3
  have hac : ¬ c = a := by omega
  go_enter Tryz.func112, Tryz.ntmps112
  go_wp2
  go_loop [7, 8] (fun n i => ∃ j : Nat, j ≤ k ∧ i = .int .i64 j ∧ n = .int .i64 (loadTo b a j)) (fun _ i => k - (intOf i).toNat)
  case atStart => exact ⟨0, Nat.zero_le _, rfl, by rw [H0.out]⟩
  case round =>
    obtain ⟨i, hi, rfl, rfl⟩ := hrel
    by_cases hlt : i < k
    · have hai : a + i < b.length := by omega
      obtain ⟨g1, off1, cap1, he, hg1, _, _, hc⟩ := h.at_ (List.getElem?_eq_getElem hai)
      injection he with he1 he2 he3
      injection he1 with he1
      injection he1 with he1 he4
      clear he2
      subst he1 he3 he4
      obtain ⟨y1, y2⟩ := HY.out (a + i)
      obtain ⟨x1, x2⟩ := HB.out i (by omega)
      have HX := Hid.mk_ (HS.out i)
      have e1 : b.getD (a + i) 0 = b[a + i] := getD_at hai
      rw [e1] at y1 y2 HX
      have p0 : w.cell? ⟨g, off + (a + i), none⟩ = some (.int .i64 b[a + i]) := by simpa [FI] using hc 0 _ rfl
      have p1 : w.cell? ⟨g, off + a + i, none⟩ = some (.int .i64 b[a + i]) := by rw [Nat.add_assoc]; exact p0
      generalize b[a + i] = y at p0 p1 y1 y2 HX
      generalize loadTo b a i = x at x1 x2 HX
      clear hc e1 h
      go_wp2
      go_round
      case rel => exact ⟨i + 1, by omega, by go_num, by rw [HX.out]; first | done | go_num⟩
      case measure => simp [intOf]; omega
    · obtain rfl : i = k := by omega
      go_wp2
      go_ret
      exact ⟨ret_i64 HE.out.symm, rfl⟩
end Go.Proofs.YtpjijbonpjoamaaGreat

/-
  Heaps: the shape: the contracts.
-/
namespace Go.Proofs.YtpjijbonpjoamaaGreat
open Go.RowKit

set_option maxHeartbeats 1000000 in
theorem IndexFuncIntQ_ct (w : World) (v : Value) (l : List Int) (h : RdL FI w w.heap.size v l) (fid : FuncId) (cap : Array Value) (p : Int → Bool) (hent : ∀ (x : Int) (W : World), (callFunc fid (#[.int .i64 x] ++ cap)).run Tryz.prog W = .ok (.enter fid (#[.int .i64 x] ++ cap)) W) (hf : ∀ (x : Int), x ∈ l → Calls Tryz.prog fid (#[.int .i64 x] ++ cap) w fun e W' => e = .returned (.bool (p x)) ∧ w = W') :
    Calls Tryz.prog 144 #[v, .func (.func fid) #[] cap] w fun e w' => e = .returned (.int .i64 (idxOf p l)) ∧ w = w' := by
  obtain ⟨A, c, hv, q1, q2, _⟩ := id h
  have hlt0 : l.length ≤ 9223372036854775807 := by unfold maxLen at q2; omega
  subst hv
  have HF := Hid.mk_ hf
  clear hf q1 q2
  go_enter Tryz.func144, Tryz.ntmps144
  go_wp2
  go_loop [5, 8] (fun _ i => ∃ i' : Nat, i' ≤ l.length ∧ i = .int .i64 i' ∧ Hid ((l.take i').any p = false)) (fun _ i => l.length - (intOf i).toNat)
  case atStart => exact ⟨0, Nat.zero_le _, rfl, rfl⟩
  case round =>
    obtain ⟨i, hi, rfl, HN⟩ := hrel
    by_cases hlt : i < l.length
    · obtain ⟨g, off, cap', he, hg, _, _, hc⟩ := h.at_ (List.getElem?_eq_getElem hlt)
      injection he with he1 he2 he3
      clear he2
      subst he1 he3
      have p0 : w.cell? ⟨g, off + i, none⟩ = some (.int .i64 l[i]) := by simpa [FI] using hc 0 _ rfl
      clear hc h
      go_wp2_with fail
      refine (HF.out l[i] (List.getElem_mem hlt)).mono ?_
      rintro e w1 ⟨rfl, rfl⟩
      by_cases hp : p l[i] = true
      · have HP := Hid.mk_ (idxOf_hit p l i hlt HN.out hp)
        rw [hp]
        clear hp
        go_wp2
        go_ret
        exact ⟨ret_i64 HP.out.symm, rfl⟩
      · have hp' : p l[i] = false := by simpa using hp
        have HP := Hid.mk_ (any_take_succ p l i hlt HN.out hp')
        rw [hp']
        clear hp hp'
        go_wp2
        go_round
        case rel => exact ⟨i + 1, by omega, by go_num, HP⟩
        case measure => simp [intOf]; omega
    · go_wp2
      go_ret
      obtain rfl : i = l.length := by omega
      exact ⟨ret_i64 (idxOf_none p l (by simpa using HN.out)).symm, rfl⟩
set_option maxHeartbeats 1000000 in
theorem ContainsFuncIntQ_ct (w : World) (v : Value) (l : List Int) (h : RdL FI w w.heap.size v l) (fid : FuncId) (cap : Array Value) (p : Int → Bool) (hent : ∀ (x : Int) (W : World), (callFunc fid (#[.int .i64 x] ++ cap)).run Tryz.prog W = .ok (.enter fid (#[.int .i64 x] ++ cap)) W) (hf : ∀ (x : Int), x ∈ l → Calls Tryz.prog fid (#[.int .i64 x] ++ cap) w fun e W' => e = .returned (.bool (p x)) ∧ w = W') :
    Calls Tryz.prog 134 #[v, .func (.func fid) #[] cap] w fun e w' => e = .returned (.bool (l.any p)) ∧ w = w' := by
  have HF := Hid.mk_ hf
  clear hf
  go_enter Tryz.func134, Tryz.ntmps134
  go_wp2_with fail
  refine (IndexFuncIntQ_ct w v l h fid cap p hent HF.out).mono ?_
  rintro e w1 ⟨rfl, rfl⟩
  have HP := Hid.mk_ (idxOf_ge p l)
  go_wp2
  go_ret
  exact ⟨ret_bool HP.out, rfl⟩
theorem isZero1_impl (x : Int) (w : World) : Calls Tryz.prog 145 #[.int .i64 x] w fun e w' => e = .returned (.bool (x != 0)) ∧ w = w' := by
  go_enter Tryz.func145, Tryz.ntmps145
  go_wp2
  go_ret
  exact ⟨rfl, rfl⟩
def zerosB (b : List Int) : Bool := b.all fun x => x == 0
theorem isZero_impl (w : World) (v : Value) (b : List Int) (h : RdL FI w w.heap.size v b) :
    Calls Tryz.prog 136 #[v] w fun e w' => e = .returned (.bool (zerosB b)) ∧ w = w' := by
  have HA := Hid.mk_ (show zerosB b = !(b.any fun x => x != 0) by unfold zerosB; rw [all_not_any]; rfl)
  go_enter Tryz.func136, Tryz.ntmps136
  go_wp2_with fail
  refine (ContainsFuncIntQ_ct w _ b h 145 #[] (fun x => x != 0) (fun _ _ => by kernel_rfl) (fun x _ => isZero1_impl x w)).mono ?_
  rintro e w1 ⟨rfl, rfl⟩
  go_wp2
  go_ret
  exact ⟨ret_bool HA.out.symm, rfl⟩
theorem BytesOk1_implQ (x : Int) (w : World) : Calls Tryz.prog 142 #[.int .i64 x] w fun e w' => e = .returned (.bool (!inB 0 255 x)) ∧ w = w' := by
  go_enter Tryz.func142, Tryz.ntmps142
  go_wp2_with (go_at_call 143; refine (isByte_ct _ _).mono ?_; rintro e w1 ⟨rfl, rfl⟩)
  go_ret
  exact ⟨rfl, rfl⟩
set_option maxHeartbeats 400000 in
theorem BytesOk_implQ (w : World) (v : Value) (b : List Int) (h : RdL FI w w.heap.size v b) :
    Calls Tryz.prog 133 #[v] w fun e w' => e = .returned (.bool (bytesOkB b)) ∧ w = w' := by
  obtain ⟨A, c, hv, q1, q2, _⟩ := id h
  have hlt0 : b.length ≤ 9223372036854775807 := by unfold maxLen at q2; omega
  subst hv
  clear q1 q2
  have HA := Hid.mk_ (all_not_any (inB 0 255) b)
  by_cases hl : b.length ≤ 1000
  · have HE := Hid.mk_ (show bytesOkB b = b.all (inB 0 255) by simp [bytesOkB, hl])
    go_enter Tryz.func133, Tryz.ntmps133
    go_wp2_with fail
    refine (ContainsFuncIntQ_ct w _ b h 142 #[] (fun x => !inB 0 255 x) (fun _ _ => by kernel_rfl) (fun x _ => BytesOk1_implQ x w)).mono ?_
    rintro e w1 ⟨rfl, rfl⟩
    go_wp2
    go_ret
    exact ⟨ret_bool (by rw [HE.out, HA.out]), rfl⟩
  · have HE := Hid.mk_ (show bytesOkB b = false by simp [bytesOkB, hl])
    go_enter Tryz.func133, Tryz.ntmps133
    go_wp2
    go_ret
    exact ⟨ret_bool HE.out.symm, rfl⟩
theorem shaped1_impl (x : Int) (w : World) : Calls Tryz.prog 135 #[.int .i64 x] w fun e w' => e = .returned (.bool (!inB (-1) 2 x)) ∧ w = w' := by
  go_enter Tryz.func135, Tryz.ntmps135
  go_wp2_with (go_at_call 75; refine (within_ct _ _ _ _).mono ?_; rintro e w1 ⟨rfl, rfl⟩)
  go_ret
  exact ⟨rfl, rfl⟩

def shapeB (h : Heap) : Bool := (h.Bytes.length == 384) && (h.Class.length == 6) && bytesOkB h.Bytes && h.Class.all (inB (-1) 2)
structure Shape (h : Heap) : Prop where
  bl : h.Bytes.length = 384
  cl : h.Class.length = 6
  by_ : h.Bytes.all (inB 0 255) = true
  cs : ∀ i, -1 ≤ h.Class.getD i (-1) ∧ h.Class.getD i (-1) ≤ 2
theorem shape_of {h : Heap} (k : shapeB h = true) : Shape h := by
  simp only [shapeB, bytesOkB, Bool.and_eq_true, beq_iff_eq] at k
  obtain ⟨⟨⟨k1, k2⟩, k3, k4⟩, k5⟩ := k
  refine ⟨k1, k2, k4, fun i => ?_⟩
  by_cases hi : i < h.Class.length
  · rw [getD_at hi]
    exact inB_iff.1 (List.all_eq_true.1 k5 _ (List.getElem_mem hi))
  · rw [getD_off (by omega)]
    omega
def clAt (h : Heap) (s : Int) : Int := h.Class.getD (s / 4).toNat (-1)
def classInB (h : Heap) (s : Int) : Int := if genAt s (clAt h s) < 0 then -1 else clAt h s
def genInB (h : Heap) (s : Int) : Int := if classInB h s < 0 then 0 else loadN h.Bytes (genAt s (classInB h s)) 4

set_option maxRecDepth 100000 in
set_option maxHeartbeats 1000000 in
theorem shaped_impl (w : World) (H : HHeap) (x : Heap) (h : RdHeap w w.heap.size H x) :
    Calls Tryz.prog 118 #[.agg #[.slice H.Bytes.a H.Bytes.len H.Bytes.cap, .slice H.Class.a H.Class.len H.Class.cap]] w fun e w' => e = .returned (.bool (shapeB x)) ∧ Below w.heap.size w w' := by
  obtain ⟨⟨A1, n1, c1⟩, ⟨A2, n2, c2⟩⟩ := H
  obtain ⟨bs, cs⟩ := x
  have hr1 : RdL FI w w.heap.size (.slice A1 n1 c1) bs := h.Bytes
  have hr2 : RdL FI w w.heap.size (.slice A2 n2 c2) cs := h.Class
  obtain ⟨_, _, hv, q1, q2, qx⟩ := id hr1
  simp only [Value.slice.injEq] at hv
  obtain ⟨rfl, rfl, rfl⟩ := hv
  have hlt1 : bs.length ≤ 9223372036854775807 := by unfold maxLen at q2; omega
  clear q1 q2 qx
  obtain ⟨_, _, hv, q1, q2, qx⟩ := id hr2
  simp only [Value.slice.injEq] at hv
  obtain ⟨rfl, rfl, rfl⟩ := hv
  have hlt2 : cs.length ≤ 9223372036854775807 := by unfold maxLen at q2; omega
  clear q1 q2 qx h
  have HE := Hid.mk_ (show shapeB ⟨bs, cs⟩ = ((bs.length == 384) && (cs.length == 6) && bytesOkB bs && cs.all (inB (-1) 2)) from rfl)
  show Calls Tryz.prog 118 #[.agg #[.slice A1 bs.length c1, .slice A2 cs.length c2]] _ _
  by_cases k1 : (bs.length == 384) = true
  case neg =>
    have k1' : (bs.length == 384) = false := (Bool.not_eq_true _).mp k1
    clear k1
    have k1x : (((bs.length : Nat) : Int) == 384) = false := by simp at k1' ⊢; omega
    have HF := Hid.mk_ k1'
    clear k1'
    go_enter Tryz.func118, Tryz.ntmps118
    go_wp2_with (go_at_call 133; refine (BytesOk_implQ _ _ bs (rd_up hr1 (by repeat (first | exact Below.refl _ _ | refine Below.alloc ?_ (by simp <;> omega) _ | refine below_grow_of ?_ (by simp <;> omega) _ _ | refine Below.drew ?_)))).mono ?_; rintro e w1 ⟨rfl, rfl⟩)
    go_ret
    exact ⟨ret_bool (by rw [HE.out, HF.out]; simp), by repeat (first | exact Below.refl _ _ | refine Below.alloc ?_ (by simp <;> omega) _ | refine below_grow_of ?_ (by simp <;> omega) _ _ | refine Below.drew ?_)⟩
  have k1x : (((bs.length : Nat) : Int) == 384) = true := by simp at k1 ⊢; omega
  have k1h := Hid.mk_ k1
  clear k1
  by_cases k3 : bytesOkB bs = true
  case neg =>
    have k3' : bytesOkB bs = false := (Bool.not_eq_true _).mp k3
    clear k3
    go_enter Tryz.func118, Tryz.ntmps118
    go_wp2_with (go_at_call 133; refine (BytesOk_implQ _ _ bs (rd_up hr1 (by repeat (first | exact Below.refl _ _ | refine Below.alloc ?_ (by simp <;> omega) _ | refine below_grow_of ?_ (by simp <;> omega) _ _ | refine Below.drew ?_)))).mono ?_; rintro e w1 ⟨rfl, rfl⟩)
    go_ret
    exact ⟨ret_bool (by rw [HE.out, k3']; simp), by repeat (first | exact Below.refl _ _ | refine Below.alloc ?_ (by simp <;> omega) _ | refine below_grow_of ?_ (by simp <;> omega) _ _ | refine Below.drew ?_)⟩
  by_cases k2 : (cs.length == 6) = true
  case neg =>
    have k2' : (cs.length == 6) = false := (Bool.not_eq_true _).mp k2
    clear k2
    have k2x : (((cs.length : Nat) : Int) == 6) = false := by simp at k2' ⊢; omega
    have HF := Hid.mk_ k2'
    clear k2'
    go_enter Tryz.func118, Tryz.ntmps118
    go_wp2_with (go_at_call 133; refine (BytesOk_implQ _ _ bs (rd_up hr1 (by repeat (first | exact Below.refl _ _ | refine Below.alloc ?_ (by simp <;> omega) _ | refine below_grow_of ?_ (by simp <;> omega) _ _ | refine Below.drew ?_)))).mono ?_; rintro e w1 ⟨rfl, rfl⟩)
    go_ret
    exact ⟨ret_bool (by rw [HE.out, HF.out]; simp), by repeat (first | exact Below.refl _ _ | refine Below.alloc ?_ (by simp <;> omega) _ | refine below_grow_of ?_ (by simp <;> omega) _ _ | refine Below.drew ?_)⟩
  have k2x : (((cs.length : Nat) : Int) == 6) = true := by simp at k2 ⊢; omega
  have k2h := Hid.mk_ k2
  clear k2
  have HA := Hid.mk_ (all_not_any (inB (-1) 2) cs)
  go_enter Tryz.func118, Tryz.ntmps118
  go_wp2_with (go_at_call 133; refine (BytesOk_implQ _ _ bs (rd_up hr1 (by repeat (first | exact Below.refl _ _ | refine Below.alloc ?_ (by simp <;> omega) _ | refine below_grow_of ?_ (by simp <;> omega) _ _ | refine Below.drew ?_)))).mono ?_; rintro e w1 ⟨rfl, rfl⟩)
  refine (ContainsFuncIntQ_ct _ _ cs (rd_up hr2 (by repeat (first | exact Below.refl _ _ | refine Below.alloc ?_ (by simp <;> omega) _ | refine below_grow_of ?_ (by simp <;> omega) _ _ | refine Below.drew ?_))) 135 #[] (fun x => !inB (-1) 2 x) (fun _ _ => by kernel_rfl) (fun x _ => shaped1_impl x _)).mono ?_
  rintro e w2 ⟨rfl, rfl⟩
  go_wp2
  go_ret
  exact ⟨ret_bool (by rw [HE.out, k1h.out, k2h.out, k3, HA.out]; rfl), by repeat (first | exact Below.refl _ _ | refine Below.alloc ?_ (by simp <;> omega) _ | refine below_grow_of ?_ (by simp <;> omega) _ _ | refine Below.drew ?_)⟩

set_option maxRecDepth 100000 in
set_option maxHeartbeats 1000000 in
theorem l7Shape_spec (w : World) (H : HHeap) (x : Heap) (h : RdHeap w w.heap.size H x) :
    Calls Tryz.prog 107 #[.agg #[.slice H.Bytes.a H.Bytes.len H.Bytes.cap, .slice H.Class.a H.Class.len H.Class.cap]] w fun e w' => e = .returned (.bool (shapeB x)) ∧ Below w.heap.size w w' := by
  obtain ⟨⟨A1, n1, c1⟩, ⟨A2, n2, c2⟩⟩ := H
  obtain ⟨bs, cs⟩ := x
  have hr1 : RdL FI w w.heap.size (.slice A1 n1 c1) bs := h.Bytes
  have hr2 : RdL FI w w.heap.size (.slice A2 n2 c2) cs := h.Class
  obtain ⟨_, _, hv, q1, q2, qx⟩ := id hr1
  simp only [Value.slice.injEq] at hv
  obtain ⟨rfl, rfl, rfl⟩ := hv
  have hlt1 : bs.length ≤ 9223372036854775807 := by unfold maxLen at q2; omega
  clear q1 q2 qx
  obtain ⟨_, _, hv, q1, q2, qx⟩ := id hr2
  simp only [Value.slice.injEq] at hv
  obtain ⟨rfl, rfl, rfl⟩ := hv
  have hlt2 : cs.length ≤ 9223372036854775807 := by unfold maxLen at q2; omega
  clear q1 q2 qx h
  have HE := Hid.mk_ (show shapeB ⟨bs, cs⟩ = ((bs.length == 384) && (cs.length == 6) && bytesOkB bs && cs.all (inB (-1) 2)) from rfl)
  show Calls Tryz.prog 107 #[.agg #[.slice A1 bs.length c1, .slice A2 cs.length c2]] _ _
  by_cases k1 : (bs.length == 384) = true
  case neg =>
    have k1' : (bs.length == 384) = false := (Bool.not_eq_true _).mp k1
    clear k1
    have k1x : (((bs.length : Nat) : Int) != 384) = true := by simp at k1' ⊢; omega
    have HF := Hid.mk_ k1'
    clear k1'
    go_enter Tryz.func107, Tryz.ntmps107
    go_wp2_with (go_at_call 132; refine (BytesOk_spec _ _ bs (rd_up hr1 (by repeat (first | exact Below.refl _ _ | refine Below.alloc ?_ (by simp <;> omega) _ | refine below_grow_of ?_ (by simp <;> omega) _ _ | refine Below.drew ?_)))).mono ?_; rintro e w1 ⟨rfl, rfl⟩)
    go_ret
    exact ⟨ret_bool (by rw [HE.out, HF.out]; simp), by repeat (first | exact Below.refl _ _ | refine Below.alloc ?_ (by simp <;> omega) _ | refine below_grow_of ?_ (by simp <;> omega) _ _ | refine Below.drew ?_)⟩
  have k1x : (((bs.length : Nat) : Int) != 384) = false := by simp at k1 ⊢; omega
  have k1h := Hid.mk_ k1
  clear k1
  by_cases k2 : (cs.length == 6) = true
  case neg =>
    have k2' : (cs.length == 6) = false := (Bool.not_eq_true _).mp k2
    clear k2
    have k2x : (((cs.length : Nat) : Int) != 6) = true := by simp at k2' ⊢; omega
    have HF := Hid.mk_ k2'
    clear k2'
    go_enter Tryz.func107, Tryz.ntmps107
    go_wp2_with (go_at_call 132; refine (BytesOk_spec _ _ bs (rd_up hr1 (by repeat (first | exact Below.refl _ _ | refine Below.alloc ?_ (by simp <;> omega) _ | refine below_grow_of ?_ (by simp <;> omega) _ _ | refine Below.drew ?_)))).mono ?_; rintro e w1 ⟨rfl, rfl⟩)
    go_ret
    exact ⟨ret_bool (by rw [HE.out, HF.out]; simp), by repeat (first | exact Below.refl _ _ | refine Below.alloc ?_ (by simp <;> omega) _ | refine below_grow_of ?_ (by simp <;> omega) _ _ | refine Below.drew ?_)⟩
  have k2x : (((cs.length : Nat) : Int) != 6) = false := by simp at k2 ⊢; omega
  have k2h := Hid.mk_ k2
  clear k2
  by_cases k3 : bytesOkB bs = true
  case neg =>
    have k3' : bytesOkB bs = false := (Bool.not_eq_true _).mp k3
    clear k3
    go_enter Tryz.func107, Tryz.ntmps107
    go_wp2_with (go_at_call 132; refine (BytesOk_spec _ _ bs (rd_up hr1 (by repeat (first | exact Below.refl _ _ | refine Below.alloc ?_ (by simp <;> omega) _ | refine below_grow_of ?_ (by simp <;> omega) _ _ | refine Below.drew ?_)))).mono ?_; rintro e w1 ⟨rfl, rfl⟩)
    go_ret
    exact ⟨ret_bool (by rw [HE.out, k3']; simp), by repeat (first | exact Below.refl _ _ | refine Below.alloc ?_ (by simp <;> omega) _ | refine below_grow_of ?_ (by simp <;> omega) _ _ | refine Below.drew ?_)⟩
  have hl6 : cs.length = 6 := by simpa using k2h.out
  have HB0 : Below w.heap.size w (w.alloc (.cells #[.slice A1 bs.length c1, .slice A2 cs.length c2] 31)) := by repeat (first | exact Below.refl _ _ | refine Below.alloc ?_ (by simp <;> omega) _ | refine below_grow_of ?_ (by simp <;> omega) _ _ | refine Below.drew ?_)
  have L6 := Hid.mk_ hl6
  clear hl6
  go_enter Tryz.func107, Tryz.ntmps107
  go_wp2_with (go_at_call 132; refine (BytesOk_spec _ _ bs (rd_up hr1 (by repeat (first | exact Below.refl _ _ | refine Below.alloc ?_ (by simp <;> omega) _ | refine below_grow_of ?_ (by simp <;> omega) _ _ | refine Below.drew ?_)))).mono ?_; rintro e w1 ⟨rfl, rfl⟩)
  have q1 : (w.alloc (.cells #[.slice A1 bs.length c1, .slice A2 cs.length c2] 31)).cell? ⟨w.heap.size, 1, none⟩ = some (.slice A2 cs.length c2) := by simp [go_sem]
  generalize (w.alloc (.cells #[.slice A1 bs.length c1, .slice A2 cs.length c2] 31)) = w0 at HB0 q1
  go_loop [3] (fun i => ∃ k : Nat, k ≤ 6 ∧ i = .int .i64 k ∧ Hid ((cs.take k).all (inB (-1) 2) = true)) (fun i => 6 - (intOf i).toNat)
  case atStart => exact ⟨0, Nat.zero_le _, rfl, rfl⟩
  case round =>
    obtain ⟨i, hi, rfl, HT⟩ := hrel
    by_cases hl6 : i < 6
    · have hlt : i < cs.length := by rw [L6.out]; exact hl6
      obtain ⟨g, off, cap', he, hg, _, _, hc⟩ := (hr2.below HB0).at_ (List.getElem?_eq_getElem hlt)
      injection he with he1 he2 he3
      clear he2
      subst he1 he3
      have p0 : w0.cell? ⟨g, off + i, none⟩ = some (.int .i64 cs[i]) := by simpa [FI] using hc 0 _ rfl
      clear hc hr1 hr2
      by_cases c1 : inB (-1) 2 cs[i] = true
      · have HN := Hid.mk_ (show (cs.take (i + 1)).all (inB (-1) 2) = true by rw [List.take_succ_eq_append_getElem hlt, List.all_append, HT.out]; simp [c1])
        go_wp2_with (go_at_call 21; refine (l1In_ct _ _ _ _).mono ?_; rintro e w1 ⟨rfl, rfl⟩)
        go_round
        case rel => exact ⟨i + 1, by omega, by go_num, HN⟩
        case measure => simp [intOf]; omega
      · have c1' : inB (-1) 2 cs[i] = false := (Bool.not_eq_true _).mp c1
        have HN := Hid.mk_ (show cs.all (inB (-1) 2) = false from List.all_eq_false.2 ⟨cs[i], List.getElem_mem hlt, by rw [c1']; decide⟩)
        clear c1
        go_wp2_with (go_at_call 21; refine (l1In_ct _ _ _ _).mono ?_; rintro e w1 ⟨rfl, rfl⟩)
        go_ret
        exact ⟨ret_bool (by rw [HE.out, HN.out]; simp), HB0⟩
    · obtain rfl : i = 6 := by omega
      have HN := Hid.mk_ (show cs.all (inB (-1) 2) = true by have a := HT.out; rwa [← L6.out, List.take_length] at a)
      go_wp2
      go_ret
      exact ⟨ret_bool (by rw [HE.out, HN.out, k1h.out, k2h.out, k3]; rfl), HB0⟩
end Go.Proofs.YtpjijbonpjoamaaGreat

/-
  Heaps: the class of a slot.
-/
namespace Go.Proofs.YtpjijbonpjoamaaGreat
open Go.RowKit

theorem clAt_get {h : Heap} (sh : Shape h) {s : Int} (h1 : inB 0 23 s = true) : h.Class[(s / 4).toNat]? = some (clAt h s) := by
  have a := inB_iff.1 h1
  have b := sh.cl
  have hlt : (s / 4).toNat < h.Class.length := by omega
  unfold clAt
  rw [getD_at hlt, List.getElem?_eq_getElem hlt]
theorem clAt_bd {h : Heap} (sh : Shape h) (s : Int) : -1 ≤ clAt h s ∧ clAt h s ≤ 2 := sh.cs _
theorem classInB_cases (h : Heap) (s : Int) : (classInB h s = -1 ∧ genAt s (clAt h s) = -1) ∨ (classInB h s = clAt h s ∧ 8 ≤ genAt s (clAt h s) ∧ genAt s (clAt h s) + 4 + sizeOfC (clAt h s) ≤ 384 ∧ inB 0 23 s = true ∧ inB 0 2 (clAt h s) = true) := by
  rcases genAt_bd s (clAt h s) with k | ⟨k1, k2⟩
  · left
    exact ⟨if_pos (by omega), k⟩
  · right
    have := genAt_iff.1 (show 0 ≤ genAt s (clAt h s) by omega)
    exact ⟨if_neg (by omega), k1, k2, this.1, this.2.1⟩
theorem classInB_out {h : Heap} {s : Int} (h1 : inB 0 23 s = false) : classInB h s = -1 := if_pos (by rw [genAt_no1 h1]; decide)

set_option maxRecDepth 100000 in
set_option maxHeartbeats 1000000 in
theorem classIn_impl (w : World) (H : HHeap) (x : Heap) (s : Int) (h : RdHeap w w.heap.size H x) (hs : shapeB x = true) :
    Calls Tryz.prog 83 #[.agg #[.slice H.Bytes.a H.Bytes.len H.Bytes.cap, .slice H.Class.a H.Class.len H.Class.cap], .int .i64 s] w fun e w' => e = .returned (.int .i64 (classInB x s)) ∧ Below w.heap.size w w' := by
  obtain ⟨⟨A1, n1, c1⟩, ⟨A2, n2, c2⟩⟩ := H
  obtain ⟨bs, cs⟩ := x
  have hr1 : RdL FI w w.heap.size (.slice A1 n1 c1) bs := h.Bytes
  have hr2 : RdL FI w w.heap.size (.slice A2 n2 c2) cs := h.Class
  obtain ⟨_, _, hv, q1, q2, qx⟩ := id hr1
  simp only [Value.slice.injEq] at hv
  obtain ⟨rfl, rfl, rfl⟩ := hv
  have hlt1 : bs.length ≤ 9223372036854775807 := by unfold maxLen at q2; omega
  clear q1 q2 qx
  obtain ⟨_, _, hv, q1, q2, qx⟩ := id hr2
  simp only [Value.slice.injEq] at hv
  obtain ⟨rfl, rfl, rfl⟩ := hv
  have hlt2 : cs.length ≤ 9223372036854775807 := by unfold maxLen at q2; omega
  clear q1 q2 qx h
  have sh := shape_of hs
  have hl6 := Hid.mk_ sh.cl
  have hcb := clAt_bd sh s
  clear hs
  show Calls Tryz.prog 83 #[.agg #[.slice A1 bs.length c1, .slice A2 cs.length c2], .int .i64 s] _ _
  by_cases k1 : inB 0 23 s = true
  case neg =>
    have k1' : inB 0 23 s = false := (Bool.not_eq_true _).mp k1
    have HE := Hid.mk_ (classInB_out (h := ⟨bs, cs⟩) k1')
    clear k1 sh hcb
    go_enter Tryz.func83, Tryz.ntmps83
    go_wp2_with (first | (go_at_call 121; refine (isSlot_ct _ _).mono ?_; rintro e w1 ⟨rfl, rfl⟩) | (go_at_call 125; refine (GenAt_impl _ _ _).mono ?_; rintro e w1 ⟨rfl, rfl⟩))
    go_ret
    exact ⟨ret_i64 HE.out.symm, by repeat (first | exact Below.refl _ _ | refine Below.alloc ?_ (by simp <;> omega) _ | refine below_grow_of ?_ (by simp <;> omega) _ _ | refine Below.drew ?_ | refine below_drewN ?_ _)⟩
  obtain ⟨b1, b2⟩ := inB_iff.1 k1
  have d1 : 0 ≤ s / 4 := by omega
  have d2 : s / 4 < (cs.length : Int) := by rw [hl6.out]; omega
  obtain ⟨g2, off2, cap2, he, hg2, _, _, hc2⟩ := hr2.at_ (clAt_get sh k1)
  injection he with he1 he2 he3
  clear he2
  subst he1 he3
  have p0 : w.cell? ⟨g2, off2 + (s / 4).toNat, none⟩ = some (.int .i64 (clAt ⟨bs, cs⟩ s)) := by simpa [FI] using hc2 0 _ rfl
  clear hc2
  have KC := Hid.mk_ (classInB_cases ⟨bs, cs⟩ s)
  generalize clAt ⟨bs, cs⟩ s = c at p0 hcb KC
  clear sh k1 hr2
  by_cases k2 : genAt s c < 0
  · have HE := Hid.mk_ (show classInB ⟨bs, cs⟩ s = -1 by rcases KC.out with a | a <;> omega)
    have k1 : inB 0 23 s = true := inB_iff.2 ⟨b1, b2⟩
    go_enter Tryz.func83, Tryz.ntmps83
    go_wp2_with (first | (go_at_call 121; refine (isSlot_ct _ _).mono ?_; rintro e w1 ⟨rfl, rfl⟩) | (go_at_call 125; refine (GenAt_impl _ _ _).mono ?_; rintro e w1 ⟨rfl, rfl⟩))
    go_ret
    exact ⟨ret_i64 HE.out.symm, by repeat (first | exact Below.refl _ _ | refine Below.alloc ?_ (by simp <;> omega) _ | refine below_grow_of ?_ (by simp <;> omega) _ _ | refine Below.drew ?_ | refine below_drewN ?_ _)⟩
  · have HE := Hid.mk_ (show classInB ⟨bs, cs⟩ s = c by rcases KC.out with a | a <;> omega)
    have k1 : inB 0 23 s = true := inB_iff.2 ⟨b1, b2⟩
    go_enter Tryz.func83, Tryz.ntmps83
    go_wp2_with (first | (go_at_call 121; refine (isSlot_ct _ _).mono ?_; rintro e w1 ⟨rfl, rfl⟩) | (go_at_call 125; refine (GenAt_impl _ _ _).mono ?_; rintro e w1 ⟨rfl, rfl⟩))
    go_ret
    exact ⟨ret_i64 HE.out.symm, by repeat (first | exact Below.refl _ _ | refine Below.alloc ?_ (by simp <;> omega) _ | refine below_grow_of ?_ (by simp <;> omega) _ _ | refine Below.drew ?_ | refine below_drewN ?_ _)⟩

set_option maxRecDepth 100000 in
set_option maxHeartbeats 1000000 in
theorem l7Class_spec (w : World) (H : HHeap) (x : Heap) (s : Int) (h : RdHeap w w.heap.size H x) (hs : shapeB x = true) :
    Calls Tryz.prog 67 #[.agg #[.slice H.Bytes.a H.Bytes.len H.Bytes.cap, .slice H.Class.a H.Class.len H.Class.cap], .int .i64 s] w fun e w' => e = .returned (.int .i64 (classInB x s)) ∧ Below w.heap.size w w' := by
  obtain ⟨⟨A1, n1, c1⟩, ⟨A2, n2, c2⟩⟩ := H
  obtain ⟨bs, cs⟩ := x
  have hr1 : RdL FI w w.heap.size (.slice A1 n1 c1) bs := h.Bytes
  have hr2 : RdL FI w w.heap.size (.slice A2 n2 c2) cs := h.Class
  obtain ⟨_, _, hv, q1, q2, qx⟩ := id hr1
  simp only [Value.slice.injEq] at hv
  obtain ⟨rfl, rfl, rfl⟩ := hv
  have hlt1 : bs.length ≤ 9223372036854775807 := by unfold maxLen at q2; omega
  clear q1 q2 qx
  obtain ⟨_, _, hv, q1, q2, qx⟩ := id hr2
  simp only [Value.slice.injEq] at hv
  obtain ⟨rfl, rfl, rfl⟩ := hv
  have hlt2 : cs.length ≤ 9223372036854775807 := by unfold maxLen at q2; omega
  clear q1 q2 qx h
  have sh := shape_of hs
  have hl6 := Hid.mk_ sh.cl
  have hcb := clAt_bd sh s
  clear hs
  show Calls Tryz.prog 67 #[.agg #[.slice A1 bs.length c1, .slice A2 cs.length c2], .int .i64 s] _ _
  by_cases k1 : inB 0 23 s = true
  case neg =>
    have k1' : inB 0 23 s = false := (Bool.not_eq_true _).mp k1
    have HE := Hid.mk_ (classInB_out (h := ⟨bs, cs⟩) k1')
    clear k1 sh hcb
    have kp : pageOfS s = -1 := if_neg (by rw [k1']; decide)
    go_enter Tryz.func67, Tryz.ntmps67
    go_wp2_with (first | (go_at_call 113; refine (PageOf_spec _ _).mono ?_; rw [kp]; rintro e w1 ⟨rfl, rfl⟩))
    go_quiet (fail)
    all_goals go_wp2
    all_goals go_ret
    all_goals exact ⟨ret_i64 HE.out.symm, by repeat (first | exact Below.refl _ _ | refine Below.alloc ?_ (by simp <;> omega) _ | refine below_grow_of ?_ (by simp <;> omega) _ _ | refine Below.drew ?_ | refine below_drewN ?_ _)⟩
  obtain ⟨b1, b2⟩ := inB_iff.1 k1
  have d1 : 0 ≤ s / 4 := by omega
  have d2 : s / 4 < (cs.length : Int) := by rw [hl6.out]; omega
  obtain ⟨g2, off2, cap2, he, hg2, _, _, hc2⟩ := hr2.at_ (clAt_get sh k1)
  injection he with he1 he2 he3
  clear he2
  subst he1 he3
  have p0 : w.cell? ⟨g2, off2 + (s / 4).toNat, none⟩ = some (.int .i64 (clAt ⟨bs, cs⟩ s)) := by simpa [FI] using hc2 0 _ rfl
  clear hc2
  have KC := Hid.mk_ (classInB_cases ⟨bs, cs⟩ s)
  have kp : pageOfS s = s / 4 := if_pos k1
  have ki : indexOfS s = s % 4 := if_pos k1
  have HG := Hid.mk_ (fun c (h1 : inB 0 2 c = true) (h2 : s % 4 < perPage c) => (show 0 ≤ genAt s c from genAt_iff.2 ⟨k1, h1, h2⟩))
  have HG2 := Hid.mk_ (fun c (h2 : ¬ s % 4 < perPage c) => genAt_no3 (s := s) (c := c) h2)
  have HG3 := Hid.mk_ (fun c (h2 : c < 0) => genAt_no2 (s := s) (c := c) (inB_no (lo := 0) (hi := 2) (by omega)))
  generalize clAt ⟨bs, cs⟩ s = c at p0 hcb KC
  clear sh k1 hr2
  obtain ⟨p, hp⟩ := Int.eq_ofNat_of_zero_le d1
  rw [hp] at kp p0 d2
  simp only [Int.toNat_natCast, Int.ofNat_lt] at p0 d2
  clear hp d1
  have hd0 : decide ((p : Int) < 0) = false := by simp
  by_cases k2 : c < 0
  · have HE := Hid.mk_ (show classInB ⟨bs, cs⟩ s = -1 by rcases KC.out with a | a; exact a.1; have := HG3.out c k2; omega)
    obtain rfl : c = -1 := by omega
    clear hcb k2 HG HG2 HG3 KC
    go_enter Tryz.func67, Tryz.ntmps67
    go_wp2_with (first | (go_at_call 113; refine (PageOf_spec _ _).mono ?_; rw [kp]; rintro e w1 ⟨rfl, rfl⟩))
    go_quiet (fail)
    all_goals go_wp2
    all_goals go_ret
    all_goals exact ⟨ret_i64 HE.out.symm, by repeat (first | exact Below.refl _ _ | refine Below.alloc ?_ (by simp <;> omega) _ | refine below_grow_of ?_ (by simp <;> omega) _ _ | refine Below.drew ?_ | refine below_drewN ?_ _)⟩
  have k2' : 0 ≤ c := by omega
  have hq1 : ∀ W : World, Calls Tryz.prog 114 #[.int .i64 s] W fun e w' => e = .returned (.int .i64 (s % 4)) ∧ w' = W := fun W => (IndexOf_spec s W).mono fun e w' ⟨a, b⟩ => ⟨by rw [a, ki], b.symm⟩
  have hq2 : ∀ W : World, Calls Tryz.prog 115 #[.int .i64 c] W fun e w' => e = .returned (.int .i64 (perPage c)) ∧ w' = W := fun W => (PerPage_spec c W).mono fun e w' ⟨a, b⟩ => ⟨a, b.symm⟩
  clear ki
  by_cases k3 : perPage c ≤ s % 4
  · have HE := Hid.mk_ (show classInB ⟨bs, cs⟩ s = -1 by rcases KC.out with a | a; exact a.1; have := HG2.out c (by omega); omega)
    go_enter Tryz.func67, Tryz.ntmps67
    go_wp2_with (first | (go_at_call 113; refine (PageOf_spec _ _).mono ?_; rw [kp]; rintro e w1 ⟨rfl, rfl⟩))
    go_quiet ((first | (go_at_call 114; exact Calls.quiet_of_same (hq1 _)) | (go_at_call 115; exact Calls.quiet_of_same (hq2 _))))
    all_goals go_wp2
    all_goals go_ret
    all_goals exact ⟨ret_i64 HE.out.symm, by repeat (first | exact Below.refl _ _ | refine Below.alloc ?_ (by simp <;> omega) _ | refine below_grow_of ?_ (by simp <;> omega) _ _ | refine Below.drew ?_ | refine below_drewN ?_ _)⟩
  · have HE := Hid.mk_ (show classInB ⟨bs, cs⟩ s = c by rcases KC.out with a | a; have := HG.out c (inB_iff.2 ⟨k2', hcb.2⟩) (by omega); omega; exact a.1)
    go_enter Tryz.func67, Tryz.ntmps67
    go_wp2_with (first | (go_at_call 113; refine (PageOf_spec _ _).mono ?_; rw [kp]; rintro e w1 ⟨rfl, rfl⟩))
    go_quiet ((first | (go_at_call 114; exact Calls.quiet_of_same (hq1 _)) | (go_at_call 115; exact Calls.quiet_of_same (hq2 _))))
    all_goals go_wp2
    all_goals go_ret
    all_goals exact ⟨ret_i64 HE.out.symm, by repeat (first | exact Below.refl _ _ | refine Below.alloc ?_ (by simp <;> omega) _ | refine below_grow_of ?_ (by simp <;> omega) _ _ | refine Below.drew ?_ | refine below_drewN ?_ _)⟩
end Go.Proofs.YtpjijbonpjoamaaGreat

/-
  Heaps: the generation of a slot.
-/
namespace Go.Proofs.YtpjijbonpjoamaaGreat
open Go.RowKit
theorem cell_old (w : World) (o : Obj) (g i : Nat) (hg : g < w.heap.size) : (w.alloc o).cell? ⟨g, i, none⟩ = w.cell? ⟨g, i, none⟩ := by
  simp [World.cell?, Below.heap_alloc w o g hg]
theorem cell_up {w w' : World} {g i : Nat} {u : Value} (hb : Below w.heap.size w w') (hg : g < w.heap.size) (h : w.cell? ⟨g, i, none⟩ = some u) : w'.cell? ⟨g, i, none⟩ = some u := (hb.cell (p := ⟨g, i, none⟩) hg).trans h

def classAtB (h : Heap) (s : Int) : Int := if shapeB h = true then classInB h s else -1
theorem quietc {P : Program} {f : FuncId} {args : Array Value} {W : World} {v : Ending} (h : Calls P f args W fun e w' => e = v ∧ W = w') : Calls P f args W fun e w' => e = v ∧ w' = W := h.mono fun _ _ ⟨a, b⟩ => ⟨a, b.symm⟩
theorem genIn_bd {h : Heap} (sh : Shape h) {s : Int} (k : ¬ classInB h s < 0) : 0 ≤ genAt s (classInB h s) ∧ genAt s (classInB h s) + 4 ≤ h.Bytes.length := by
  have a := sizeOfC_bd (clAt h s)
  have b := sh.bl
  rcases classInB_cases h s with ⟨c, _⟩ | ⟨c, d, e, _⟩
  · omega
  · rw [c]; omega

set_option maxRecDepth 100000 in
set_option maxHeartbeats 1000000 in
theorem ClassAt_impl (w : World) (H : HHeap) (x : Heap) (s : Int) (h : RdHeap w w.heap.size H x) :
    Calls Tryz.prog 124 #[.agg #[.slice H.Bytes.a H.Bytes.len H.Bytes.cap, .slice H.Class.a H.Class.len H.Class.cap], .int .i64 s] w fun e w' => e = .returned (.int .i64 (classAtB x s)) ∧ Below w.heap.size w w' := by
  obtain ⟨⟨A1, n1, c1⟩, ⟨A2, n2, c2⟩⟩ := H
  obtain ⟨bs, cs⟩ := x
  have hr1 : RdL FI w w.heap.size (.slice A1 n1 c1) bs := h.Bytes
  have hr2 : RdL FI w w.heap.size (.slice A2 n2 c2) cs := h.Class
  obtain ⟨_, _, hv, q1, q2, qx⟩ := id hr1
  simp only [Value.slice.injEq] at hv
  obtain ⟨rfl, rfl, rfl⟩ := hv
  have hlt1 : bs.length ≤ 9223372036854775807 := by unfold maxLen at q2; omega
  clear q1 q2 qx
  obtain ⟨_, _, hv, q1, q2, qx⟩ := id hr2
  simp only [Value.slice.injEq] at hv
  obtain ⟨rfl, rfl, rfl⟩ := hv
  have hlt2 : cs.length ≤ 9223372036854775807 := by unfold maxLen at q2; omega
  clear q1 q2 qx h
  show Calls Tryz.prog 124 #[.agg #[.slice A1 bs.length c1, .slice A2 cs.length c2], .int .i64 s] _ _
  by_cases hs : shapeB ⟨bs, cs⟩ = true
  · have HE := Hid.mk_ (show classAtB ⟨bs, cs⟩ s = classInB ⟨bs, cs⟩ s from if_pos hs)
    have HT := Hid.mk_ hs
    clear hs
    go_enter Tryz.func124, Tryz.ntmps124
    go_wp2_with (first | (go_at_call 118; refine (shaped_impl _ ⟨⟨A1, bs.length, c1⟩, ⟨A2, cs.length, c2⟩⟩ ⟨bs, cs⟩ ⟨rd_up hr1 (by repeat (first | exact Below.refl _ _ | refine Below.alloc ?_ (by simp <;> omega) _ | refine below_grow_of ?_ (by simp <;> omega) _ _ | refine Below.drew ?_ | refine below_drewN ?_ _)), rd_up hr2 (by repeat (first | exact Below.refl _ _ | refine Below.alloc ?_ (by simp <;> omega) _ | refine below_grow_of ?_ (by simp <;> omega) _ _ | refine Below.drew ?_ | refine below_drewN ?_ _))⟩).mono ?_; rw [HT.out]; rintro e w1 ⟨rfl, hb1⟩; obtain ⟨os1, d1, rfl⟩ := below_grows hb1; clear hb1) | (go_at_call 83; refine (classIn_impl _ ⟨⟨A1, bs.length, c1⟩, ⟨A2, cs.length, c2⟩⟩ ⟨bs, cs⟩ s ⟨rd_up hr1 (by repeat (first | exact Below.refl _ _ | refine Below.alloc ?_ (by simp <;> omega) _ | refine below_grow_of ?_ (by simp <;> omega) _ _ | refine Below.drew ?_ | refine below_drewN ?_ _)), rd_up hr2 (by repeat (first | exact Below.refl _ _ | refine Below.alloc ?_ (by simp <;> omega) _ | refine below_grow_of ?_ (by simp <;> omega) _ _ | refine Below.drew ?_ | refine below_drewN ?_ _))⟩ HT.out).mono ?_; rintro e w2 ⟨rfl, hb2⟩; obtain ⟨os2, d2, rfl⟩ := below_grows hb2; clear hb2))
    go_ret
    exact ⟨ret_i64 HE.out.symm, by repeat (first | exact Below.refl _ _ | refine Below.alloc ?_ (by simp <;> omega) _ | refine below_grow_of ?_ (by simp <;> omega) _ _ | refine Below.drew ?_ | refine below_drewN ?_ _)⟩
  · have HE := Hid.mk_ (show classAtB ⟨bs, cs⟩ s = -1 from if_neg hs)
    have HT := Hid.mk_ ((Bool.not_eq_true _).mp hs)
    clear hs
    go_enter Tryz.func124, Tryz.ntmps124
    go_wp2_with (go_at_call 118; refine (shaped_impl _ ⟨⟨A1, bs.length, c1⟩, ⟨A2, cs.length, c2⟩⟩ ⟨bs, cs⟩ ⟨rd_up hr1 (by repeat (first | exact Below.refl _ _ | refine Below.alloc ?_ (by simp <;> omega) _ | refine below_grow_of ?_ (by simp <;> omega) _ _ | refine Below.drew ?_ | refine below_drewN ?_ _)), rd_up hr2 (by repeat (first | exact Below.refl _ _ | refine Below.alloc ?_ (by simp <;> omega) _ | refine below_grow_of ?_ (by simp <;> omega) _ _ | refine Below.drew ?_ | refine below_drewN ?_ _))⟩).mono ?_; rw [HT.out]; rintro e w1 ⟨rfl, hb1⟩; obtain ⟨os1, d1, rfl⟩ := below_grows hb1; clear hb1)
    go_ret
    exact ⟨ret_i64 HE.out.symm, by repeat (first | exact Below.refl _ _ | refine Below.alloc ?_ (by simp <;> omega) _ | refine below_grow_of ?_ (by simp <;> omega) _ _ | refine Below.drew ?_ | refine below_drewN ?_ _)⟩

set_option maxRecDepth 100000 in
set_option maxHeartbeats 1000000 in
theorem GenIn_impl (w : World) (H : HHeap) (x : Heap) (s : Int) (h : RdHeap w w.heap.size H x) (hs : shapeB x = true) :
    Calls Tryz.prog 80 #[.agg #[.slice H.Bytes.a H.Bytes.len H.Bytes.cap, .slice H.Class.a H.Class.len H.Class.cap], .int .i64 s] w fun e w' => e = .returned (.int .i64 (genInB x s)) ∧ Below w.heap.size w w' := by
  obtain ⟨⟨A1, n1, c1⟩, ⟨A2, n2, c2⟩⟩ := H
  obtain ⟨bs, cs⟩ := x
  have hr1 : RdL FI w w.heap.size (.slice A1 n1 c1) bs := h.Bytes
  have hr2 : RdL FI w w.heap.size (.slice A2 n2 c2) cs := h.Class
  obtain ⟨_, _, hv, q1, q2, qx⟩ := id hr1
  simp only [Value.slice.injEq] at hv
  obtain ⟨rfl, rfl, rfl⟩ := hv
  have hlt1 : bs.length ≤ 9223372036854775807 := by unfold maxLen at q2; omega
  clear q1 q2 qx
  obtain ⟨_, _, hv, q1, q2, qx⟩ := id hr2
  simp only [Value.slice.injEq] at hv
  obtain ⟨rfl, rfl, rfl⟩ := hv
  have hlt2 : cs.length ≤ 9223372036854775807 := by unfold maxLen at q2; omega
  clear q1 q2 qx h
  have sh := shape_of hs
  have HC := Hid.mk_ (show classAtB ⟨bs, cs⟩ s = classInB ⟨bs, cs⟩ s from if_pos hs)
  clear hs
  show Calls Tryz.prog 80 #[.agg #[.slice A1 bs.length c1, .slice A2 cs.length c2], .int .i64 s] _ _
  by_cases k1 : classInB ⟨bs, cs⟩ s < 0
  · have HE := Hid.mk_ (show genInB ⟨bs, cs⟩ s = 0 from if_pos k1)
    clear sh
    go_enter Tryz.func80, Tryz.ntmps80
    go_wp2_with (go_at_call 124; refine (ClassAt_impl _ ⟨⟨A1, bs.length, c1⟩, ⟨A2, cs.length, c2⟩⟩ ⟨bs, cs⟩ s ⟨rd_up hr1 (by repeat (first | exact Below.refl _ _ | refine Below.alloc ?_ (by simp <;> omega) _ | refine below_grow_of ?_ (by simp <;> omega) _ _ | refine Below.drew ?_ | refine below_drewN ?_ _)), rd_up hr2 (by repeat (first | exact Below.refl _ _ | refine Below.alloc ?_ (by simp <;> omega) _ | refine below_grow_of ?_ (by simp <;> omega) _ _ | refine Below.drew ?_ | refine below_drewN ?_ _))⟩).mono ?_; rw [HC.out]; rintro e w1 ⟨rfl, hb1⟩; obtain ⟨os1, d1, rfl⟩ := below_grows hb1; clear hb1)
    go_ret
    exact ⟨ret_i64 HE.out.symm, by repeat (first | exact Below.refl _ _ | refine Below.alloc ?_ (by simp <;> omega) _ | refine below_grow_of ?_ (by simp <;> omega) _ _ | refine Below.drew ?_ | refine below_drewN ?_ _)⟩
  · have HE := Hid.mk_ (show genInB ⟨bs, cs⟩ s = loadN bs (genAt s (classInB ⟨bs, cs⟩ s)) 4 from if_neg k1)
    obtain ⟨g1, g2⟩ := genIn_bd sh k1
    simp only at g2
    have hby := sh.by_
    simp only at hby
    generalize classInB ⟨bs, cs⟩ s = c at k1 HE HC g1 g2
    clear sh
    have HQ1 : ∀ W : World, Calls Tryz.prog 125 #[.int .i64 s, .int .i64 c] W fun e w' => e = .returned (.int .i64 (genAt s c)) ∧ w' = W := fun W => quietc (GenAt_impl s c W)
    generalize genAt s c = a at g1 g2 HE HQ1
    go_enter Tryz.func80, Tryz.ntmps80
    go_wp2_with fail
    refine (ClassAt_impl _ ⟨⟨A1, bs.length, c1⟩, ⟨A2, cs.length, c2⟩⟩ ⟨bs, cs⟩ s ⟨rd_up hr1 (by repeat (first | exact Below.refl _ _ | refine Below.alloc ?_ (by simp <;> omega) _ | refine below_grow_of ?_ (by simp <;> omega) _ _ | refine Below.drew ?_ | refine below_drewN ?_ _)), rd_up hr2 (by repeat (first | exact Below.refl _ _ | refine Below.alloc ?_ (by simp <;> omega) _ | refine below_grow_of ?_ (by simp <;> omega) _ _ | refine Below.drew ?_ | refine below_drewN ?_ _))⟩).mono ?_
    rw [HC.out]
    rintro e w1 ⟨rfl, hb1⟩
    have q0 : w1.cell? ⟨w.heap.size, 0, none⟩ = some (.slice A1 bs.length c1) := cell_up hb1 (by simp <;> omega) (by simp [go_sem])
    have q1 : w1.cell? ⟨w.heap.size, 1, none⟩ = some (.slice A2 cs.length c2) := cell_up hb1 (by simp <;> omega) (by simp [go_sem])
    have hB1 : Below w.heap.size w w1 := Below.trans (by repeat (first | exact Below.refl _ _ | refine Below.alloc ?_ (by simp <;> omega) _ | refine below_grow_of ?_ (by simp <;> omega) _ _ | refine Below.drew ?_ | refine below_drewN ?_ _)) (hb1.mono (by simp))
    clear hb1
    go_wp2
    go_quiet ((first | (go_at_call 125; exact Calls.quiet_of_same (HQ1 _)) | (go_at_call 93; exact Calls.quiet_of_same (quietc (loadNum_impl _ _ bs a 4 (rd_up hr1 (by first | exact hB1 | exact hB1.drew | exact below_drewN hB1 _)) g1 (by decide) (by decide) g2 hby)))))
    go_wp2
    go_ret
    exact ⟨ret_i64 HE.out.symm, by first | exact hB1 | exact hB1.drew | exact below_drewN hB1 _⟩

set_option maxRecDepth 100000 in
set_option maxHeartbeats 1000000 in
theorem l7Gen_spec (w : World) (H : HHeap) (x : Heap) (s : Int) (h : RdHeap w w.heap.size H x) (hs : shapeB x = true) (k1 : ¬ classInB x s < 0) :
    Calls Tryz.prog 65 #[.agg #[.slice H.Bytes.a H.Bytes.len H.Bytes.cap, .slice H.Class.a H.Class.len H.Class.cap], .int .i64 s] w fun e w' => e = .returned (.int .i64 (genInB x s)) ∧ Below w.heap.size w w' := by
  obtain ⟨⟨A1, n1, c1⟩, ⟨A2, n2, c2⟩⟩ := H
  obtain ⟨bs, cs⟩ := x
  have hr1 : RdL FI w w.heap.size (.slice A1 n1 c1) bs := h.Bytes
  have hr2 : RdL FI w w.heap.size (.slice A2 n2 c2) cs := h.Class
  obtain ⟨_, _, hv, q1, q2, qx⟩ := id hr1
  simp only [Value.slice.injEq] at hv
  obtain ⟨rfl, rfl, rfl⟩ := hv
  have hlt1 : bs.length ≤ 9223372036854775807 := by unfold maxLen at q2; omega
  clear q1 q2 qx
  obtain ⟨_, _, hv, q1, q2, qx⟩ := id hr2
  simp only [Value.slice.injEq] at hv
  obtain ⟨rfl, rfl, rfl⟩ := hv
  have hlt2 : cs.length ≤ 9223372036854775807 := by unfold maxLen at q2; omega
  clear q1 q2 qx h
  have sh := shape_of hs
  show Calls Tryz.prog 65 #[.agg #[.slice A1 bs.length c1, .slice A2 cs.length c2], .int .i64 s] _ _
  have HE := Hid.mk_ (show genInB ⟨bs, cs⟩ s = loadN bs (genAt s (classInB ⟨bs, cs⟩ s)) 4 from if_neg k1)
  obtain ⟨g1, g2⟩ := genIn_bd sh k1
  simp only at g2
  have hby := sh.by_
  simp only at hby
  have HQ1 : ∀ W : World, Calls Tryz.prog 68 #[.int .i64 s, .int .i64 (classInB ⟨bs, cs⟩ s)] W fun e w' => e = .returned (.int .i64 (genAt s (classInB ⟨bs, cs⟩ s))) ∧ W = w' := fun W => GenAt_spec s _ W
  generalize genAt s (classInB ⟨bs, cs⟩ s) = a at g1 g2 HE HQ1
  clear sh k1
  go_enter Tryz.func65, Tryz.ntmps65
  go_wp2
  have hB0 : Below w.heap.size w (w.alloc (.cells #[.slice A1 bs.length c1, .slice A2 cs.length c2] 31)) := by repeat (first | exact Below.refl _ _ | refine Below.alloc ?_ (by simp <;> omega) _ | refine below_grow_of ?_ (by simp <;> omega) _ _ | refine Below.drew ?_ | refine below_drewN ?_ _)
  have q0 : (w.alloc (.cells #[.slice A1 bs.length c1, .slice A2 cs.length c2] 31)).cell? ⟨w.heap.size, 0, none⟩ = some (.slice A1 bs.length c1) := by simp [go_sem]
  have q1 : (w.alloc (.cells #[.slice A1 bs.length c1, .slice A2 cs.length c2] 31)).cell? ⟨w.heap.size, 1, none⟩ = some (.slice A2 cs.length c2) := by simp [go_sem]
  have z0 : w.heap.size < (w.alloc (.cells #[.slice A1 bs.length c1, .slice A2 cs.length c2] 31)).heap.size := by simp
  generalize (w.alloc (.cells #[.slice A1 bs.length c1, .slice A2 cs.length c2] 31)) = w0 at hB0 q0 q1 z0 ⊢
  go_region_held3 (fun w' => w'.cell? ⟨w.heap.size, 0, none⟩ = some (.slice A1 bs.length c1) ∧ w'.cell? ⟨w.heap.size, 1, none⟩ = some (.slice A2 cs.length c2) ∧ w.heap.size < w'.heap.size ∧ Below w.heap.size w w') (first | (go_keep; done) | ((try go_split_ands); refine ⟨?_, ?_, ?_, ?_⟩; all_goals first | assumption | exact Below.drew (by assumption) | (simp [go_sem, *]; done) | exact below_grow_of (by assumption) (by omega) _ _ | (rw [size_grow]; omega) | (repeat (first | exact Below.refl _ _ | refine Below.alloc ?_ (by simp <;> omega) _ | refine below_grow_of ?_ (by simp <;> omega) _ _ | refine Below.drew ?_ | refine below_drewN ?_ _); done) | (simp <;> omega))) ((first | (go_at_call 67; refine (l7Class_spec _ ⟨⟨A1, bs.length, c1⟩, ⟨A2, cs.length, c2⟩⟩ ⟨bs, cs⟩ s ⟨rd_up hr1 (by go_split_ands; assumption), rd_up hr2 (by go_split_ands; assumption)⟩ hs).mono ?_; rintro e w1 ⟨rfl, hb1⟩; obtain ⟨os1, d1, rfl⟩ := below_grows hb1; clear hb1) | (go_at_call 68; refine (HQ1 _).mono ?_; rintro e w2 ⟨rfl, rfl⟩) | (go_at_call 112; refine (l3Load_spec _ _ bs a 4 (rd_up hr1 (by go_split_ands; assumption)) g1 (by decide) (by decide) g2 hby).mono ?_; rintro e w3 ⟨rfl, rfl⟩)))
  go_wp2
  go_ret
  exact ⟨ret_i64 HE.out.symm, by first | assumption | (go_split_ands; assumption)⟩
end Go.Proofs.YtpjijbonpjoamaaGreat

