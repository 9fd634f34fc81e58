/-
  What is loaded through a handle: the contracts.
-/
import Derived.Test.YtcligoicoeklfaaGreatT
import Derived.Test.YtcligoicoeklfaaGreatL
import Derived.Deep.QuietTactic
import Derived.BigQuiet
import Derived.Deep.LoopGhost
import Derived.Deep.RegionHeld3
import Derived.Test.YtcligoicoeklfaaGreatN
import Derived.Test.YtcligoicoeklfaaGreatA
import Derived.WalkSpells
import Derived.Laws.Cover3
import Derived.Test.YtcligoicoeklfaaGreatBH
namespace Go.Proofs.YtcligoicoeklfaaGreat
open Go.RowKit
def spotB (m : Mem) (h a k : Int) : Int × Int :=
  if memOkB m = false ∨ inB 1 7 k = false then (0, 1) else if liveB m h = false then (0, 4)
  else if inB 0 (sizeOfC (classInB m.Heap (h % 32)) - k) a = true then (startAt (h % 32) (classInB m.Heap (h % 32)) + a, 0) else (0, 2)
def loadInP (m : Mem) (h a k : Int) : Int × Int := if (spotB m h a k).2 = 0 then (loadN m.Heap.Bytes (spotB m h a k).1 k, 0) else (0, (spotB m h a k).2)
theorem spot_no1 {m : Mem} {h a k : Int} (c : memOkB m = false) : spotB m h a k = (0, 1) := if_pos (.inl c)
theorem spot_no2 {m : Mem} {h a k : Int} (c : inB 1 7 k = false) : spotB m h a k = (0, 1) := if_pos (.inr c)
theorem spot_no3 {m : Mem} {h a k : Int} (c : memOkB m = true) (c2 : inB 1 7 k = true) (c3 : liveB m h = false) : spotB m h a k = (0, 4) := by
  unfold spotB
  rw [if_neg (by rw [c, c2]; decide), if_pos c3]
theorem spot_no4 {m : Mem} {h a k : Int} (c : memOkB m = true) (c2 : inB 1 7 k = true) (c3 : liveB m h = true) (c4 : inB 0 (sizeOfC (classInB m.Heap (h % 32)) - k) a = false) : spotB m h a k = (0, 2) := by
  unfold spotB
  rw [if_neg (by rw [c, c2]; decide), if_neg (by rw [c3]; decide), if_neg (by rw [c4]; decide)]
theorem spot_yes {m : Mem} {h a k : Int} (c : memOkB m = true) (c2 : inB 1 7 k = true) (c3 : liveB m h = true) (c4 : inB 0 (sizeOfC (classInB m.Heap (h % 32)) - k) a = true) : spotB m h a k = (startAt (h % 32) (classInB m.Heap (h % 32)) + a, 0) := by
  unfold spotB
  rw [if_neg (by rw [c, c2]; decide), if_neg (by rw [c3]; decide), if_pos c4]
theorem live_parts {m : Mem} {h : Int} (c : liveB m h = true) : handleOkB h = true ∧ stateB m (h % 32) = 3 ∧ genInB m.Heap (h % 32) = h / 32 := by
  unfold liveB at c
  simp only [Bool.and_eq_true, beq_iff_eq] at c
  exact ⟨c.1.1, c.1.2, c.2⟩
theorem live_cls {m : Mem} {h : Int} (c : liveB m h = true) : ¬ classInB m.Heap (h % 32) < 0 := state_cls (by rw [(live_parts c).2.1]; decide)
theorem cls_start {h : Heap} {s : Int} (c : ¬ classInB h s < 0) : 12 ≤ startAt s (classInB h s) ∧ startAt s (classInB h s) + sizeOfC (classInB h s) ≤ 384 ∧ rngF s (classInB h s) = startAt s (classInB h s) ∧ rngT s (classInB h s) = startAt s (classInB h s) + sizeOfC (classInB h s) := by
  rcases classInB_cases h s with ⟨e, _⟩ | ⟨e, h1, h2, _, _⟩
  · omega
  · rw [← e] at h1 h2
    rcases rng_cases s (classInB h s) with ⟨k1, _⟩ | ⟨k1, k2, k3, k4⟩
    · rcases startAt_cases s (classInB h s) with ⟨j, _⟩ | ⟨_, _, j⟩ <;> omega
    · exact ⟨k1, by omega, k2, k3⟩
theorem inRange_live {h : Heap} {s a k : Int} (c : ¬ classInB h s < 0) : inRangeB h s a k = if inB 0 (sizeOfC (classInB h s) - k) a = true then startAt s (classInB h s) + a else -1 := by
  obtain ⟨_, _, e1, e2⟩ := cls_start c
  unfold inRangeB
  rw [e1, e2, show startAt s (classInB h s) + sizeOfC (classInB h s) - startAt s (classInB h s) - k = sizeOfC (classInB h s) - k by omega]
theorem load_no {m : Mem} {h a k c : Int} (e : spotB m h a k = (0, c)) (hc : c ≠ 0) : loadInP m h a k = (0, c) := by
  unfold loadInP
  rw [e]
  exact if_neg hc
theorem load_yes {m : Mem} {h a k p : Int} (e : spotB m h a k = (p, 0)) : loadInP m h a k = (loadN m.Heap.Bytes p k, 0) := by
  unfold loadInP
  rw [e]
  exact if_pos rfl
theorem ret_pair {a b : Int} {p : Int × Int} (h : p = (a, b)) : Ending.returned (.tuple #[.int .i64 a, .int .i64 b]) = .returned (.tuple #[.int .i64 p.1, .int .i64 p.2]) := by rw [h]
set_option maxRecDepth 100000 in
set_option maxHeartbeats 2000000 in
theorem LoadIn_impl (w : World) (H : HMem) (x : Mem) (s a k : Int) (h : RdMem w w.heap.size H x) :
    Calls Tryz.prog 42 #[.agg #[.slice H.Heap.Bytes.a H.Heap.Bytes.len H.Heap.Bytes.cap, .slice H.Heap.Class.a H.Heap.Class.len H.Heap.Class.cap, .slice H.Lists.Global.a H.Lists.Global.len H.Lists.Global.cap, .slice H.Lists.Own.a H.Lists.Own.len H.Lists.Own.cap], .int .i64 s, .int .i64 a, .int .i64 k] w fun e w' => e = .returned (.tuple #[.int .i64 (loadInP x s a k).1, .int .i64 (loadInP x s a k).2]) ∧ Below w.heap.size w w' := by
  have ba0 : Box (w.alloc (.cells #[.slice H.Heap.Bytes.a H.Heap.Bytes.len H.Heap.Bytes.cap, .slice H.Heap.Class.a H.Heap.Class.len H.Heap.Class.cap, .slice H.Lists.Global.a H.Lists.Global.len H.Lists.Global.cap, .slice H.Lists.Own.a H.Lists.Own.len H.Lists.Own.cap] 36)) w.heap.size [.slice H.Heap.Bytes.a H.Heap.Bytes.len H.Heap.Bytes.cap, .slice H.Heap.Class.a H.Heap.Class.len H.Heap.Class.cap, .slice H.Lists.Global.a H.Lists.Global.len H.Lists.Global.cap, .slice H.Lists.Own.a H.Lists.Own.len H.Lists.Own.cap] := Box.new w #[.slice H.Heap.Bytes.a H.Heap.Bytes.len H.Heap.Bytes.cap, .slice H.Heap.Class.a H.Heap.Class.len H.Heap.Class.cap, .slice H.Lists.Global.a H.Lists.Global.len H.Lists.Global.cap, .slice H.Lists.Own.a H.Lists.Own.len H.Lists.Own.cap] _
  have hB0 : Below w.heap.size w (w.alloc (.cells #[.slice H.Heap.Bytes.a H.Heap.Bytes.len H.Heap.Bytes.cap, .slice H.Heap.Class.a H.Heap.Class.len H.Heap.Class.cap, .slice H.Lists.Global.a H.Lists.Global.len H.Lists.Global.cap, .slice H.Lists.Own.a H.Lists.Own.len H.Lists.Own.cap] 36)) := by repeat (first | exact Below.refl _ _ | refine Below.alloc ?_ (by simp <;> omega) _ | refine below_grow_of ?_ (by simp <;> omega) _ _ | refine Below.drew ?_ | refine below_drewN ?_ _)
  by_cases c1 : memOkB x = true
  case neg =>
    have c1' : memOkB x = false := (Bool.not_eq_true _).mp c1
    have HN := Hid.mk_ (load_no (spot_no1 (h := s) (a := a) (k := k) c1') (by decide))
    clear c1
    go_enter Tryz.func42, Tryz.ntmps42
    go_wp2_with fail
    refine (MemOk_impl _ H x (rdMem_up h hB0)).mono ?_
    rw [c1']
    rintro e w1 ⟨rfl, hb⟩
    have ba1 := ba0.below hb
    have hB1 := hB0.trans (hb.mono hB0.size)
    clear hb ba0 hB0
    go_wp2
    go_ret2
    exact ⟨ret_pair HN.out, hB1⟩
  by_cases c2 : inB 1 7 k = true
  case neg =>
    have c2' : inB 1 7 k = false := (Bool.not_eq_true _).mp c2
    have HN := Hid.mk_ (load_no (spot_no2 (m := x) (h := s) (a := a) c2') (by decide))
    clear c2
    go_enter Tryz.func42, Tryz.ntmps42
    go_wp2_with fail
    refine (MemOk_impl _ H x (rdMem_up h hB0)).mono ?_
    rw [c1]
    rintro e w1 ⟨rfl, hb⟩
    have ba1 := ba0.below hb
    have hB1 := hB0.trans (hb.mono hB0.size)
    clear hb ba0 hB0
    clear c1
    go_wp2_with (go_at_call 92; refine (isWidth_ct _ _).mono ?_; rw [c2']; rintro e w2 ⟨rfl, rfl⟩)
    go_ret2
    exact ⟨ret_pair HN.out, hB1⟩
  have HS := Hid.mk_ (mem_shape c1)
  by_cases c3 : liveB x s = true
  case neg =>
    have c3' : liveB x s = false := (Bool.not_eq_true _).mp c3
    have HN := Hid.mk_ (load_no (spot_no3 (a := a) c1 c2 c3') (by decide))
    clear c3
    go_enter Tryz.func42, Tryz.ntmps42
    go_wp2_with fail
    refine (MemOk_impl _ H x (rdMem_up h hB0)).mono ?_
    rw [c1]
    rintro e w1 ⟨rfl, hb⟩
    have ba1 := ba0.below hb
    have hB1 := hB0.trans (hb.mono hB0.size)
    clear hb ba0 hB0
    clear c1
    have qa0 := ba1.cell 0 _ rfl
    have qa1 := ba1.cell 1 _ rfl
    have qa2 := ba1.cell 2 _ rfl
    have qa3 := ba1.cell 3 _ rfl
    go_wp2_with (go_at_call 92; refine (isWidth_ct _ _).mono ?_; rw [c2]; rintro e w2 ⟨rfl, rfl⟩)
    clear c2
    refine (isLive_impl _ H x s (rdMem_up h hB1) HS.out).mono ?_
    rw [c3']
    rintro e w2 ⟨rfl, hb⟩
    have ba2 := ba1.below hb
    have hB2 := hB1.trans (hb.mono hB1.size)
    clear hb ba1 hB1
    clear qa0 qa1 qa2 qa3
    go_wp2
    go_ret2
    exact ⟨ret_pair HN.out, hB2⟩
  obtain ⟨b1, b2⟩ := inB_iff.1 c2
  obtain ⟨e1, e2, e3, e4, e5, e6⟩ := handleOk_bd (live_parts c3).1
  have kc := live_cls c3
  obtain ⟨f1, f2, _, _⟩ := cls_start kc
  have hir := inRange_live (a := a) (k := k) kc
  have hsz := sizeOfC_bd (classInB x.Heap (s % 32))
  have HKC := Hid.mk_ kc
  have hq := fun (W : World) (hW : Below w.heap.size w W) => inRange_impl W H.Heap x.Heap (s % 32) a k (rdHeap_up h.Heap hW) HS.out b1 b2
  have sh := shape_of HS.out
  by_cases c4 : inB 0 (sizeOfC (classInB x.Heap (s % 32)) - k) a = true
  case neg =>
    have c4' : inB 0 (sizeOfC (classInB x.Heap (s % 32)) - k) a = false := (Bool.not_eq_true _).mp c4
    have HN := Hid.mk_ (load_no (spot_no4 c1 c2 c3 c4') (by decide))
    rw [if_neg c4] at hir
    rw [hir] at hq
    clear c4 c4' hir e3 e4 e5 e6 kc f1 f2 hsz sh
    go_enter Tryz.func42, Tryz.ntmps42
    go_wp2_with fail
    refine (MemOk_impl _ H x (rdMem_up h hB0)).mono ?_
    rw [c1]
    rintro e w1 ⟨rfl, hb⟩
    have ba1 := ba0.below hb
    have hB1 := hB0.trans (hb.mono hB0.size)
    clear hb ba0 hB0
    clear c1
    have qa0 := ba1.cell 0 _ rfl
    have qa1 := ba1.cell 1 _ rfl
    have qa2 := ba1.cell 2 _ rfl
    have qa3 := ba1.cell 3 _ rfl
    go_wp2_with (go_at_call 92; refine (isWidth_ct _ _).mono ?_; rw [c2]; rintro e w2 ⟨rfl, rfl⟩)
    clear c2
    refine (isLive_impl _ H x s (rdMem_up h hB1) HS.out).mono ?_
    rw [c3]
    rintro e w2 ⟨rfl, hb⟩
    have ba2 := ba1.below hb
    have hB2 := hB1.trans (hb.mono hB1.size)
    clear hb ba1 hB1
    clear qa0 qa1 qa2 qa3 c3
    have qa0 := ba2.cell 0 _ rfl
    have qa1 := ba2.cell 1 _ rfl
    have qa2 := ba2.cell 2 _ rfl
    have qa3 := ba2.cell 3 _ rfl
    go_wp2_with fail
    refine (hq _ hB2).mono ?_
    rintro e w3 ⟨rfl, hb⟩
    have ba3 := ba2.below hb
    have hB3 := hB2.trans (hb.mono hB2.size)
    clear hb ba2 hB2
    clear qa0 qa1 qa2 qa3 hq
    go_wp2
    go_ret2
    exact ⟨ret_pair HN.out, hB3⟩
  have HN := Hid.mk_ (load_yes (spot_yes c1 c2 c3 c4))
  rw [if_pos c4] at hir
  rw [hir] at hq
  obtain ⟨g1, g2⟩ := inB_iff.1 c4
  have hn : (x.Heap.Bytes.length : Int) = 384 := by rw [sh.bl]; rfl
  have p1 : 0 ≤ startAt (s % 32) (classInB x.Heap (s % 32)) + a := by omega
  have p2 : startAt (s % 32) (classInB x.Heap (s % 32)) + a + k ≤ x.Heap.Bytes.length := by omega
  have hq2 := fun (W : World) (hW : Below w.heap.size w W) => loadNum_impl W H.Heap.Bytes.val x.Heap.Bytes _ k (rd_up h.Heap.Bytes hW) p1 b1 b2 p2 sh.by_
  clear c4 hir e3 e4 e5 e6 kc f1 f2 hsz sh g1 g2 hn p2
  generalize startAt (s % 32) (classInB x.Heap (s % 32)) + a = p at *
  have p3 : ¬ p < 0 := by omega
  go_enter Tryz.func42, Tryz.ntmps42
  go_wp2_with fail
  refine (MemOk_impl _ H x (rdMem_up h hB0)).mono ?_
  rw [c1]
  rintro e w1 ⟨rfl, hb⟩
  have ba1 := ba0.below hb
  have hB1 := hB0.trans (hb.mono hB0.size)
  clear hb ba0 hB0
  clear c1
  have qa0 := ba1.cell 0 _ rfl
  have qa1 := ba1.cell 1 _ rfl
  have qa2 := ba1.cell 2 _ rfl
  have qa3 := ba1.cell 3 _ rfl
  go_wp2_with (go_at_call 92; refine (isWidth_ct _ _).mono ?_; rw [c2]; rintro e w2 ⟨rfl, rfl⟩)
  clear c2
  refine (isLive_impl _ H x s (rdMem_up h hB1) HS.out).mono ?_
  rw [c3]
  rintro e w2 ⟨rfl, hb⟩
  have ba2 := ba1.below hb
  have hB2 := hB1.trans (hb.mono hB1.size)
  clear hb ba1 hB1
  clear qa0 qa1 qa2 qa3 c3
  have qa0 := ba2.cell 0 _ rfl
  have qa1 := ba2.cell 1 _ rfl
  have qa2 := ba2.cell 2 _ rfl
  have qa3 := ba2.cell 3 _ rfl
  go_wp2_with fail
  refine (hq _ hB2).mono ?_
  rintro e w3 ⟨rfl, hb⟩
  have ba3 := ba2.below hb
  have hB3 := hB2.trans (hb.mono hB2.size)
  clear hb ba2 hB2
  clear qa0 qa1 qa2 qa3 hq
  have qa0 := ba3.cell 0 _ rfl
  have qa1 := ba3.cell 1 _ rfl
  have qa2 := ba3.cell 2 _ rfl
  have qa3 := ba3.cell 3 _ rfl
  go_wp2_with (go_at_call 93; refine (hq2 _ hB3).mono ?_; rintro e w4 ⟨rfl, rfl⟩)
  go_ret2
  exact ⟨ret_pair HN.out, hB3⟩
set_option maxRecDepth 100000 in
set_option maxHeartbeats 2000000 in
theorem l9Spot_spec (w : World) (H : HMem) (x : Mem) (s a k : Int) (h : RdMem w w.heap.size H x) (hs1 : szLL x.Lists.Global ≤ 536870912) (hs2 : szLL x.Lists.Own ≤ 536870912) :
    Calls Tryz.prog 38 #[.agg #[.slice H.Heap.Bytes.a H.Heap.Bytes.len H.Heap.Bytes.cap, .slice H.Heap.Class.a H.Heap.Class.len H.Heap.Class.cap, .slice H.Lists.Global.a H.Lists.Global.len H.Lists.Global.cap, .slice H.Lists.Own.a H.Lists.Own.len H.Lists.Own.cap], .int .i64 s, .int .i64 a, .int .i64 k] w fun e w' => e = .returned (.tuple #[.int .i64 (spotB x s a k).1, .int .i64 (spotB x s a k).2]) ∧ Below w.heap.size w w' := by
  have ba0 : Box (w.alloc (.cells #[.slice H.Heap.Bytes.a H.Heap.Bytes.len H.Heap.Bytes.cap, .slice H.Heap.Class.a H.Heap.Class.len H.Heap.Class.cap, .slice H.Lists.Global.a H.Lists.Global.len H.Lists.Global.cap, .slice H.Lists.Own.a H.Lists.Own.len H.Lists.Own.cap] 36)) w.heap.size [.slice H.Heap.Bytes.a H.Heap.Bytes.len H.Heap.Bytes.cap, .slice H.Heap.Class.a H.Heap.Class.len H.Heap.Class.cap, .slice H.Lists.Global.a H.Lists.Global.len H.Lists.Global.cap, .slice H.Lists.Own.a H.Lists.Own.len H.Lists.Own.cap] := Box.new w #[.slice H.Heap.Bytes.a H.Heap.Bytes.len H.Heap.Bytes.cap, .slice H.Heap.Class.a H.Heap.Class.len H.Heap.Class.cap, .slice H.Lists.Global.a H.Lists.Global.len H.Lists.Global.cap, .slice H.Lists.Own.a H.Lists.Own.len H.Lists.Own.cap] _
  have hB0 : Below w.heap.size w (w.alloc (.cells #[.slice H.Heap.Bytes.a H.Heap.Bytes.len H.Heap.Bytes.cap, .slice H.Heap.Class.a H.Heap.Class.len H.Heap.Class.cap, .slice H.Lists.Global.a H.Lists.Global.len H.Lists.Global.cap, .slice H.Lists.Own.a H.Lists.Own.len H.Lists.Own.cap] 36)) := by repeat (first | exact Below.refl _ _ | refine Below.alloc ?_ (by simp <;> omega) _ | refine below_grow_of ?_ (by simp <;> omega) _ _ | refine Below.drew ?_ | refine below_drewN ?_ _)
  by_cases c1 : memOkB x = true
  case neg =>
    have c1' : memOkB x = false := (Bool.not_eq_true _).mp c1
    have HN := Hid.mk_ (spot_no1 (h := s) (a := a) (k := k) c1')
    clear c1
    go_enter Tryz.func38, Tryz.ntmps38
    go_wp2_with fail
    refine (MemOk_spec _ H x (rdMem_up h hB0) hs1 hs2).mono ?_
    rw [c1']
    rintro e w1 ⟨rfl, hb⟩
    have ba1 := ba0.below hb
    have hB1 := hB0.trans (hb.mono hB0.size)
    clear hb ba0 hB0
    go_wp2
    go_ret2
    exact ⟨ret_pair HN.out, hB1⟩
  by_cases c2 : inB 1 7 k = true
  case neg =>
    have c2' : inB 1 7 k = false := (Bool.not_eq_true _).mp c2
    have HN := Hid.mk_ (spot_no2 (m := x) (h := s) (a := a) c2')
    clear c2
    go_enter Tryz.func38, Tryz.ntmps38
    go_wp2_with fail
    refine (MemOk_spec _ H x (rdMem_up h hB0) hs1 hs2).mono ?_
    rw [c1]
    rintro e w1 ⟨rfl, hb⟩
    have ba1 := ba0.below hb
    have hB1 := hB0.trans (hb.mono hB0.size)
    clear hb ba0 hB0
    clear c1
    go_wp2_with (go_at_call 21; refine (l1In_ct _ _ _ _).mono ?_; rw [c2']; rintro e w2 ⟨rfl, rfl⟩)
    go_ret2
    exact ⟨ret_pair HN.out, hB1⟩
  have HS := Hid.mk_ (mem_shape c1)
  by_cases c3 : liveB x s = true
  case neg =>
    have c3' : liveB x s = false := (Bool.not_eq_true _).mp c3
    have HN := Hid.mk_ (spot_no3 (a := a) c1 c2 c3')
    clear c3
    go_enter Tryz.func38, Tryz.ntmps38
    go_wp2_with fail
    refine (MemOk_spec _ H x (rdMem_up h hB0) hs1 hs2).mono ?_
    rw [c1]
    rintro e w1 ⟨rfl, hb⟩
    have ba1 := ba0.below hb
    have hB1 := hB0.trans (hb.mono hB0.size)
    clear hb ba0 hB0
    clear c1
    have qa0 := ba1.cell 0 _ rfl
    have qa1 := ba1.cell 1 _ rfl
    have qa2 := ba1.cell 2 _ rfl
    have qa3 := ba1.cell 3 _ rfl
    go_wp2_with (go_at_call 21; refine (l1In_ct _ _ _ _).mono ?_; rw [c2]; rintro e w2 ⟨rfl, rfl⟩)
    clear c2
    refine (l9Valid_spec _ H x s (rdMem_up h hB1) HS.out hs1 hs2).mono ?_
    rw [c3']
    rintro e w2 ⟨rfl, hb⟩
    have ba2 := ba1.below hb
    have hB2 := hB1.trans (hb.mono hB1.size)
    clear hb ba1 hB1
    clear qa0 qa1 qa2 qa3
    go_wp2
    go_ret2
    exact ⟨ret_pair HN.out, hB2⟩
  obtain ⟨b1, b2⟩ := inB_iff.1 c2
  have hh := (live_parts c3).1
  have kc := live_cls c3
  obtain ⟨f1, f2, _, _⟩ := cls_start kc
  have hsz := sizeOfC_bd (classInB x.Heap (s % 32))
  have hq1 := fun W => HandleSlot_spec s W hh
  have hq2 := fun (W : World) (hW : Below w.heap.size w W) => l7Class_spec W H.Heap x.Heap (s % 32) (rdHeap_up h.Heap hW) HS.out
  have hq3 := fun W => StartOf_spec (s % 32) (classInB x.Heap (s % 32)) W
  have hq4 := fun W => SizeOf_spec (classInB x.Heap (s % 32)) W
  have HP := Hid.mk_ (spot_yes (a := a) c1 c2 c3)
  have HR := Hid.mk_ (spot_no4 (a := a) c1 c2 c3)
  clear hh kc
  generalize startAt (s % 32) (classInB x.Heap (s % 32)) = st at *
  generalize sizeOfC (classInB x.Heap (s % 32)) = sz at *
  generalize classInB x.Heap (s % 32) = cl at *
  go_enter Tryz.func38, Tryz.ntmps38
  go_wp2_with fail
  refine (MemOk_spec _ H x (rdMem_up h hB0) hs1 hs2).mono ?_
  rw [c1]
  rintro e w1 ⟨rfl, hb⟩
  have ba1 := ba0.below hb
  have hB1 := hB0.trans (hb.mono hB0.size)
  clear hb ba0 hB0
  clear c1
  have qa0 := ba1.cell 0 _ rfl
  have qa1 := ba1.cell 1 _ rfl
  have qa2 := ba1.cell 2 _ rfl
  have qa3 := ba1.cell 3 _ rfl
  go_wp2_with (go_at_call 21; refine (l1In_ct _ _ _ _).mono ?_; rw [c2]; rintro e w2 ⟨rfl, rfl⟩)
  clear c2
  refine (l9Valid_spec _ H x s (rdMem_up h hB1) HS.out hs1 hs2).mono ?_
  rw [c3]
  rintro e w2 ⟨rfl, hb⟩
  have ba2 := ba1.below hb
  have hB2 := hB1.trans (hb.mono hB1.size)
  clear hb ba1 hB1
  clear qa0 qa1 qa2 qa3 c3
  have qa0 := ba2.cell 0 _ rfl
  have qa1 := ba2.cell 1 _ rfl
  have qa2 := ba2.cell 2 _ rfl
  have qa3 := ba2.cell 3 _ rfl
  go_wp2_with (go_at_call 24; refine (hq1 _).mono ?_; rintro e w3 ⟨rfl, rfl⟩)
  refine (hq2 _ hB2).mono ?_
  rintro e w3 ⟨rfl, hb⟩
  have ba3 := ba2.below hb
  have hB3 := hB2.trans (hb.mono hB2.size)
  clear hb ba2 hB2
  clear qa0 qa1 qa2 qa3 hq1 hq2
  by_cases d1 : inB 0 (sz - 1) a = true
  case neg =>
    have d1' := (Bool.not_eq_true _).mp d1
    have HN := Hid.mk_ (HR.out (inB_no (by have := inB_not d1'; omega)))
    clear d1
    go_wp2_with (first | (go_at_call 90; refine (hq4 _).mono ?_; rintro e w4 ⟨rfl, rfl⟩) | (go_at_call 21; refine (l1In_ct _ _ _ _).mono ?_; rw [d1']; rintro e w2 ⟨rfl, rfl⟩))
    go_ret2
    exact ⟨ret_pair HN.out, hB3⟩
  obtain ⟨g1, g2⟩ := inB_iff.1 d1
  by_cases d2 : sz - a < k
  · have HN := Hid.mk_ (HR.out (inB_no (by omega)))
    go_wp2_with (first | (go_at_call 90; refine (hq4 _).mono ?_; rintro e w4 ⟨rfl, rfl⟩) | (go_at_call 21; refine (l1In_ct _ _ _ _).mono ?_; rw [d1]; rintro e w2 ⟨rfl, rfl⟩))
    go_ret2
    exact ⟨ret_pair HN.out, hB3⟩
  · have HN := Hid.mk_ (HP.out (inB_iff.2 ⟨by omega, by omega⟩))
    go_wp2_with (first | (go_at_call 90; refine (hq4 _).mono ?_; rintro e w4 ⟨rfl, rfl⟩) | (go_at_call 21; refine (l1In_ct _ _ _ _).mono ?_; rw [d1]; rintro e w2 ⟨rfl, rfl⟩) | (go_at_call 91; refine (hq3 _).mono ?_; rintro e w4 ⟨rfl, rfl⟩))
    go_ret2
    exact ⟨ret_pair HN.out, hB3⟩
theorem spot_code (m : Mem) (h a k : Int) : (spotB m h a k).2 = 0 ∨ ((spotB m h a k).1 = 0 ∧ (spotB m h a k).2 ≠ 0) := by
  unfold spotB
  repeat' split
  all_goals simp
theorem spot_zero {m : Mem} {h a k : Int} (c : (spotB m h a k).2 = 0) : memOkB m = true ∧ 1 ≤ k ∧ k ≤ 7 ∧ liveB m h = true ∧ 12 ≤ (spotB m h a k).1 ∧ (spotB m h a k).1 + k ≤ 384 ∧ inB 0 (sizeOfC (classInB m.Heap (h % 32)) - k) a = true ∧ (spotB m h a k).1 = startAt (h % 32) (classInB m.Heap (h % 32)) + a := by
  by_cases c1 : memOkB m = false
  · rw [spot_no1 c1] at c
    exact absurd c (by decide)
  by_cases c2 : inB 1 7 k = false
  · rw [spot_no2 c2] at c
    exact absurd c (by decide)
  have c1' : memOkB m = true := by simpa using c1
  have c2' : inB 1 7 k = true := by simpa using c2
  by_cases c3 : liveB m h = false
  · rw [spot_no3 c1' c2' c3] at c
    exact absurd c (by decide)
  have c3' : liveB m h = true := by simpa using c3
  by_cases c4 : inB 0 (sizeOfC (classInB m.Heap (h % 32)) - k) a = false
  · rw [spot_no4 c1' c2' c3' c4] at c
    exact absurd c (by decide)
  have c4' : inB 0 (sizeOfC (classInB m.Heap (h % 32)) - k) a = true := by simpa using c4
  obtain ⟨b1, b2⟩ := inB_iff.1 c2'
  obtain ⟨g1, g2⟩ := inB_iff.1 c4'
  obtain ⟨f1, f2, _, _⟩ := cls_start (live_cls c3')
  rw [spot_yes c1' c2' c3' c4']
  exact ⟨c1', b1, b2, c3', by simp only; omega, by simp only; omega, c4', rfl⟩