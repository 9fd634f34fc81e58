/-
  Several texts in one: lemmas and contracts that the claim rests on.
-/
import Derived.Test.YtdepckmjgpkjmaaUHShelfNew1
import Derived.Deep.QuietTactic
import Derived.BigQuiet
import Derived.Deep.LoopGhost
import Derived.Deep.RegionHeld3
import Derived.WalkSpells
import Derived.Laws.Cover3
import Derived.Test.YtdepckmjgpkjmaaUHShelfNew5
import Derived.Test.YtdepckmjgpkjmaaUHShelfNew2
import Derived.Test.YtdepckmjgpkjmaaUHShelfNew3
/-
  Bases: compared, made, measured, marked.
-/
namespace Go.Proofs.Ytdepckmjgpkjmaa
open Go.RowKit

set_option maxRecDepth 100000 in
set_option maxHeartbeats 4000000 in
theorem eqBase_ct (w : World) (H1 H2 : HBase) (x : Base) (h1 : RdBase w w.heap.size H1 x) (h2 : RdBase w w.heap.size H2 x) (hs : sizeBase x ≤ 1073741824) :
    Calls Try.prog 49 #[.agg #[.slice H1.Mem.Heap.Bytes.a H1.Mem.Heap.Bytes.len H1.Mem.Heap.Bytes.cap, .slice H1.Mem.Heap.Class.a H1.Mem.Heap.Class.len H1.Mem.Heap.Class.cap, .slice H1.Mem.Lists.Global.a H1.Mem.Lists.Global.len H1.Mem.Lists.Global.cap, .slice H1.Mem.Lists.Own.a H1.Mem.Lists.Own.len H1.Mem.Lists.Own.cap, .int .i64 x.Clock.Epoch, .slice H1.Clock.Pins.a H1.Clock.Pins.len H1.Clock.Pins.cap, .slice H1.Limbo.a H1.Limbo.len H1.Limbo.cap, .slice H1.Haz.a H1.Haz.len H1.Haz.cap], .agg #[.slice H2.Mem.Heap.Bytes.a H2.Mem.Heap.Bytes.len H2.Mem.Heap.Bytes.cap, .slice H2.Mem.Heap.Class.a H2.Mem.Heap.Class.len H2.Mem.Heap.Class.cap, .slice H2.Mem.Lists.Global.a H2.Mem.Lists.Global.len H2.Mem.Lists.Global.cap, .slice H2.Mem.Lists.Own.a H2.Mem.Lists.Own.len H2.Mem.Lists.Own.cap, .int .i64 x.Clock.Epoch, .slice H2.Clock.Pins.a H2.Clock.Pins.len H2.Clock.Pins.cap, .slice H2.Limbo.a H2.Limbo.len H2.Limbo.cap, .slice H2.Haz.a H2.Haz.len H2.Haz.cap]] w fun e w' => e = .returned (.bool true) ∧ Below w.heap.size w w' := by
  have hs0 : sizeMem x.Mem ≤ 1073741824 := by unfold sizeBase at hs; omega
  have hs1 : sizeClock x.Clock ≤ 1073741824 := by unfold sizeBase at hs; omega
  have hs2 : szLL x.Limbo ≤ 1073741824 := by unfold sizeBase at hs; omega
  have hs3 : x.Haz.length ≤ 1073741824 := by unfold sizeBase at hs; omega
  clear hs
  have ba0 : Box ((w.alloc (.cells #[.slice H1.Mem.Heap.Bytes.a H1.Mem.Heap.Bytes.len H1.Mem.Heap.Bytes.cap, .slice H1.Mem.Heap.Class.a H1.Mem.Heap.Class.len H1.Mem.Heap.Class.cap, .slice H1.Mem.Lists.Global.a H1.Mem.Lists.Global.len H1.Mem.Lists.Global.cap, .slice H1.Mem.Lists.Own.a H1.Mem.Lists.Own.len H1.Mem.Lists.Own.cap, .int .i64 x.Clock.Epoch, .slice H1.Clock.Pins.a H1.Clock.Pins.len H1.Clock.Pins.cap, .slice H1.Limbo.a H1.Limbo.len H1.Limbo.cap, .slice H1.Haz.a H1.Haz.len H1.Haz.cap] 65)).alloc (.cells #[.slice H2.Mem.Heap.Bytes.a H2.Mem.Heap.Bytes.len H2.Mem.Heap.Bytes.cap, .slice H2.Mem.Heap.Class.a H2.Mem.Heap.Class.len H2.Mem.Heap.Class.cap, .slice H2.Mem.Lists.Global.a H2.Mem.Lists.Global.len H2.Mem.Lists.Global.cap, .slice H2.Mem.Lists.Own.a H2.Mem.Lists.Own.len H2.Mem.Lists.Own.cap, .int .i64 x.Clock.Epoch, .slice H2.Clock.Pins.a H2.Clock.Pins.len H2.Clock.Pins.cap, .slice H2.Limbo.a H2.Limbo.len H2.Limbo.cap, .slice H2.Haz.a H2.Haz.len H2.Haz.cap] 65)) w.heap.size [.slice H1.Mem.Heap.Bytes.a H1.Mem.Heap.Bytes.len H1.Mem.Heap.Bytes.cap, .slice H1.Mem.Heap.Class.a H1.Mem.Heap.Class.len H1.Mem.Heap.Class.cap, .slice H1.Mem.Lists.Global.a H1.Mem.Lists.Global.len H1.Mem.Lists.Global.cap, .slice H1.Mem.Lists.Own.a H1.Mem.Lists.Own.len H1.Mem.Lists.Own.cap, .int .i64 x.Clock.Epoch, .slice H1.Clock.Pins.a H1.Clock.Pins.len H1.Clock.Pins.cap, .slice H1.Limbo.a H1.Limbo.len H1.Limbo.cap, .slice H1.Haz.a H1.Haz.len H1.Haz.cap] := (Box.new w #[.slice H1.Mem.Heap.Bytes.a H1.Mem.Heap.Bytes.len H1.Mem.Heap.Bytes.cap, .slice H1.Mem.Heap.Class.a H1.Mem.Heap.Class.len H1.Mem.Heap.Class.cap, .slice H1.Mem.Lists.Global.a H1.Mem.Lists.Global.len H1.Mem.Lists.Global.cap, .slice H1.Mem.Lists.Own.a H1.Mem.Lists.Own.len H1.Mem.Lists.Own.cap, .int .i64 x.Clock.Epoch, .slice H1.Clock.Pins.a H1.Clock.Pins.len H1.Clock.Pins.cap, .slice H1.Limbo.a H1.Limbo.len H1.Limbo.cap, .slice H1.Haz.a H1.Haz.len H1.Haz.cap] 65).alloc _
  have bb0 : Box ((w.alloc (.cells #[.slice H1.Mem.Heap.Bytes.a H1.Mem.Heap.Bytes.len H1.Mem.Heap.Bytes.cap, .slice H1.Mem.Heap.Class.a H1.Mem.Heap.Class.len H1.Mem.Heap.Class.cap, .slice H1.Mem.Lists.Global.a H1.Mem.Lists.Global.len H1.Mem.Lists.Global.cap, .slice H1.Mem.Lists.Own.a H1.Mem.Lists.Own.len H1.Mem.Lists.Own.cap, .int .i64 x.Clock.Epoch, .slice H1.Clock.Pins.a H1.Clock.Pins.len H1.Clock.Pins.cap, .slice H1.Limbo.a H1.Limbo.len H1.Limbo.cap, .slice H1.Haz.a H1.Haz.len H1.Haz.cap] 65)).alloc (.cells #[.slice H2.Mem.Heap.Bytes.a H2.Mem.Heap.Bytes.len H2.Mem.Heap.Bytes.cap, .slice H2.Mem.Heap.Class.a H2.Mem.Heap.Class.len H2.Mem.Heap.Class.cap, .slice H2.Mem.Lists.Global.a H2.Mem.Lists.Global.len H2.Mem.Lists.Global.cap, .slice H2.Mem.Lists.Own.a H2.Mem.Lists.Own.len H2.Mem.Lists.Own.cap, .int .i64 x.Clock.Epoch, .slice H2.Clock.Pins.a H2.Clock.Pins.len H2.Clock.Pins.cap, .slice H2.Limbo.a H2.Limbo.len H2.Limbo.cap, .slice H2.Haz.a H2.Haz.len H2.Haz.cap] 65)) (w.heap.size + 1) [.slice H2.Mem.Heap.Bytes.a H2.Mem.Heap.Bytes.len H2.Mem.Heap.Bytes.cap, .slice H2.Mem.Heap.Class.a H2.Mem.Heap.Class.len H2.Mem.Heap.Class.cap, .slice H2.Mem.Lists.Global.a H2.Mem.Lists.Global.len H2.Mem.Lists.Global.cap, .slice H2.Mem.Lists.Own.a H2.Mem.Lists.Own.len H2.Mem.Lists.Own.cap, .int .i64 x.Clock.Epoch, .slice H2.Clock.Pins.a H2.Clock.Pins.len H2.Clock.Pins.cap, .slice H2.Limbo.a H2.Limbo.len H2.Limbo.cap, .slice H2.Haz.a H2.Haz.len H2.Haz.cap] := by have a := Box.new (w.alloc (.cells #[.slice H1.Mem.Heap.Bytes.a H1.Mem.Heap.Bytes.len H1.Mem.Heap.Bytes.cap, .slice H1.Mem.Heap.Class.a H1.Mem.Heap.Class.len H1.Mem.Heap.Class.cap, .slice H1.Mem.Lists.Global.a H1.Mem.Lists.Global.len H1.Mem.Lists.Global.cap, .slice H1.Mem.Lists.Own.a H1.Mem.Lists.Own.len H1.Mem.Lists.Own.cap, .int .i64 x.Clock.Epoch, .slice H1.Clock.Pins.a H1.Clock.Pins.len H1.Clock.Pins.cap, .slice H1.Limbo.a H1.Limbo.len H1.Limbo.cap, .slice H1.Haz.a H1.Haz.len H1.Haz.cap] 65)) #[.slice H2.Mem.Heap.Bytes.a H2.Mem.Heap.Bytes.len H2.Mem.Heap.Bytes.cap, .slice H2.Mem.Heap.Class.a H2.Mem.Heap.Class.len H2.Mem.Heap.Class.cap, .slice H2.Mem.Lists.Global.a H2.Mem.Lists.Global.len H2.Mem.Lists.Global.cap, .slice H2.Mem.Lists.Own.a H2.Mem.Lists.Own.len H2.Mem.Lists.Own.cap, .int .i64 x.Clock.Epoch, .slice H2.Clock.Pins.a H2.Clock.Pins.len H2.Clock.Pins.cap, .slice H2.Limbo.a H2.Limbo.len H2.Limbo.cap, .slice H2.Haz.a H2.Haz.len H2.Haz.cap] 65; simpa using a
  have hB0 : Below w.heap.size w ((w.alloc (.cells #[.slice H1.Mem.Heap.Bytes.a H1.Mem.Heap.Bytes.len H1.Mem.Heap.Bytes.cap, .slice H1.Mem.Heap.Class.a H1.Mem.Heap.Class.len H1.Mem.Heap.Class.cap, .slice H1.Mem.Lists.Global.a H1.Mem.Lists.Global.len H1.Mem.Lists.Global.cap, .slice H1.Mem.Lists.Own.a H1.Mem.Lists.Own.len H1.Mem.Lists.Own.cap, .int .i64 x.Clock.Epoch, .slice H1.Clock.Pins.a H1.Clock.Pins.len H1.Clock.Pins.cap, .slice H1.Limbo.a H1.Limbo.len H1.Limbo.cap, .slice H1.Haz.a H1.Haz.len H1.Haz.cap] 65)).alloc (.cells #[.slice H2.Mem.Heap.Bytes.a H2.Mem.Heap.Bytes.len H2.Mem.Heap.Bytes.cap, .slice H2.Mem.Heap.Class.a H2.Mem.Heap.Class.len H2.Mem.Heap.Class.cap, .slice H2.Mem.Lists.Global.a H2.Mem.Lists.Global.len H2.Mem.Lists.Global.cap, .slice H2.Mem.Lists.Own.a H2.Mem.Lists.Own.len H2.Mem.Lists.Own.cap, .int .i64 x.Clock.Epoch, .slice H2.Clock.Pins.a H2.Clock.Pins.len H2.Clock.Pins.cap, .slice H2.Limbo.a H2.Limbo.len H2.Limbo.cap, .slice H2.Haz.a H2.Haz.len H2.Haz.cap] 65)) := by repeat (first | exact Below.refl _ _ | refine Below.alloc ?_ (by simp <;> omega) _ | refine below_grow_of ?_ (by simp <;> omega) _ _ | refine Below.drew ?_ | refine below_drewN ?_ _)
  go_enter Try.func49, Try.ntmps49
  go_wp2_with fail
  refine (eqMem_ct _ H1.Mem H2.Mem x.Mem (rdMem_up h1.Mem hB0) (rdMem_up h2.Mem hB0) hs0).mono ?_
  rintro e w1 ⟨rfl, hb0⟩
  have ba1 := ba0.below hb0
  have bb1 := bb0.below hb0
  have hB1 := hB0.trans (hb0.mono hB0.size)
  clear ba0 bb0 hb0 hB0
  have qa0 := ba1.cell 0 _ rfl
  have qb0 := bb1.cell 0 _ rfl
  have qa1 := ba1.cell 1 _ rfl
  have qb1 := bb1.cell 1 _ rfl
  have qa2 := ba1.cell 2 _ rfl
  have qb2 := bb1.cell 2 _ rfl
  have qa3 := ba1.cell 3 _ rfl
  have qb3 := bb1.cell 3 _ rfl
  have qa4 := ba1.cell 4 _ rfl
  have qb4 := bb1.cell 4 _ rfl
  have qa5 := ba1.cell 5 _ rfl
  have qb5 := bb1.cell 5 _ rfl
  have qa6 := ba1.cell 6 _ rfl
  have qb6 := bb1.cell 6 _ rfl
  have qa7 := ba1.cell 7 _ rfl
  have qb7 := bb1.cell 7 _ rfl
  go_wp2_with fail
  refine (eqClock_ct _ H1.Clock H2.Clock x.Clock (rdClock_up h1.Clock hB1) (rdClock_up h2.Clock hB1) hs1).mono ?_
  rintro e w2 ⟨rfl, hb1⟩
  have ba2 := ba1.below hb1
  have bb2 := bb1.below hb1
  have hB2 := hB1.trans (hb1.mono hB1.size)
  clear ba1 bb1 hb1 hB1 qa0 qb0 qa1 qb1 qa2 qb2 qa3 qb3 qa4 qb4 qa5 qb5 qa6 qb6 qa7 qb7
  have qa0 := ba2.cell 0 _ rfl
  have qb0 := bb2.cell 0 _ rfl
  have qa1 := ba2.cell 1 _ rfl
  have qb1 := bb2.cell 1 _ rfl
  have qa2 := ba2.cell 2 _ rfl
  have qb2 := bb2.cell 2 _ rfl
  have qa3 := ba2.cell 3 _ rfl
  have qb3 := bb2.cell 3 _ rfl
  have qa4 := ba2.cell 4 _ rfl
  have qb4 := bb2.cell 4 _ rfl
  have qa5 := ba2.cell 5 _ rfl
  have qb5 := bb2.cell 5 _ rfl
  have qa6 := ba2.cell 6 _ rfl
  have qb6 := bb2.cell 6 _ rfl
  have qa7 := ba2.cell 7 _ rfl
  have qb7 := bb2.cell 7 _ rfl
  go_wp2_with fail
  refine (eqLListS_w _ H1.Limbo H1.LimboT H2.Limbo H2.LimboT x.Limbo (rdLL_up h1.Limbo hB2) (rdLL_up h2.Limbo hB2) hs2).mono ?_
  rintro e w3 ⟨rfl, hb2⟩
  have ba3 := ba2.below hb2
  have bb3 := bb2.below hb2
  have hB3 := hB2.trans (hb2.mono hB2.size)
  clear ba2 bb2 hb2 hB2 qa0 qb0 qa1 qb1 qa2 qb2 qa3 qb3 qa4 qb4 qa5 qb5 qa6 qb6 qa7 qb7
  have qa0 := ba3.cell 0 _ rfl
  have qb0 := bb3.cell 0 _ rfl
  have qa1 := ba3.cell 1 _ rfl
  have qb1 := bb3.cell 1 _ rfl
  have qa2 := ba3.cell 2 _ rfl
  have qb2 := bb3.cell 2 _ rfl
  have qa3 := ba3.cell 3 _ rfl
  have qb3 := bb3.cell 3 _ rfl
  have qa4 := ba3.cell 4 _ rfl
  have qb4 := bb3.cell 4 _ rfl
  have qa5 := ba3.cell 5 _ rfl
  have qb5 := bb3.cell 5 _ rfl
  have qa6 := ba3.cell 6 _ rfl
  have qb6 := bb3.cell 6 _ rfl
  have qa7 := ba3.cell 7 _ rfl
  have qb7 := bb3.cell 7 _ rfl
  go_wp2_with fail
  refine (eqIntS_w _ H1.Haz H2.Haz x.Haz (rd_up h1.Haz hB3) (rd_up h2.Haz hB3) hs3).mono ?_
  rintro e w4 ⟨rfl, hb3⟩
  have ba4 := ba3.below hb3
  have bb4 := bb3.below hb3
  have hB4 := hB3.trans (hb3.mono hB3.size)
  clear ba3 bb3 hb3 hB3 qa0 qb0 qa1 qb1 qa2 qb2 qa3 qb3 qa4 qb4 qa5 qb5 qa6 qb6 qa7 qb7
  have qa0 := ba4.cell 0 _ rfl
  have qb0 := bb4.cell 0 _ rfl
  have qa1 := ba4.cell 1 _ rfl
  have qb1 := bb4.cell 1 _ rfl
  have qa2 := ba4.cell 2 _ rfl
  have qb2 := bb4.cell 2 _ rfl
  have qa3 := ba4.cell 3 _ rfl
  have qb3 := bb4.cell 3 _ rfl
  have qa4 := ba4.cell 4 _ rfl
  have qb4 := bb4.cell 4 _ rfl
  have qa5 := ba4.cell 5 _ rfl
  have qb5 := bb4.cell 5 _ rfl
  have qa6 := ba4.cell 6 _ rfl
  have qb6 := bb4.cell 6 _ rfl
  have qa7 := ba4.cell 7 _ rfl
  have qb7 := bb4.cell 7 _ rfl
  go_wp2
  go_ret
  exact ⟨rfl, hB4⟩

set_option maxRecDepth 100000 in
set_option maxHeartbeats 4000000 in
theorem markBase_ct (w : World) (H : HBase) (x : Base) (k : Int) (h : OwBase w H x) (hk0 : 0 ≤ k) (hk1 : k + (nMarkBase x : Int) ≤ 4611686018427387904) :
    Calls Try.prog 61 #[.agg #[.slice H.Mem.Heap.Bytes.a H.Mem.Heap.Bytes.len H.Mem.Heap.Bytes.cap, .slice H.Mem.Heap.Class.a H.Mem.Heap.Class.len H.Mem.Heap.Class.cap, .slice H.Mem.Lists.Global.a H.Mem.Lists.Global.len H.Mem.Lists.Global.cap, .slice H.Mem.Lists.Own.a H.Mem.Lists.Own.len H.Mem.Lists.Own.cap, .int .i64 x.Clock.Epoch, .slice H.Clock.Pins.a H.Clock.Pins.len H.Clock.Pins.cap, .slice H.Limbo.a H.Limbo.len H.Limbo.cap, .slice H.Haz.a H.Haz.len H.Haz.cap], .int .i64 k] w fun e w' => e = .returned (.int .i64 (k + (nMarkBase x : Int))) ∧ OwBase w' H (markBase x k) ∧ Chg H.foot w w' := by
  have ba0 : Box (w.alloc (.cells #[.slice H.Mem.Heap.Bytes.a H.Mem.Heap.Bytes.len H.Mem.Heap.Bytes.cap, .slice H.Mem.Heap.Class.a H.Mem.Heap.Class.len H.Mem.Heap.Class.cap, .slice H.Mem.Lists.Global.a H.Mem.Lists.Global.len H.Mem.Lists.Global.cap, .slice H.Mem.Lists.Own.a H.Mem.Lists.Own.len H.Mem.Lists.Own.cap, .int .i64 x.Clock.Epoch, .slice H.Clock.Pins.a H.Clock.Pins.len H.Clock.Pins.cap, .slice H.Limbo.a H.Limbo.len H.Limbo.cap, .slice H.Haz.a H.Haz.len H.Haz.cap] 65)) w.heap.size [.slice H.Mem.Heap.Bytes.a H.Mem.Heap.Bytes.len H.Mem.Heap.Bytes.cap, .slice H.Mem.Heap.Class.a H.Mem.Heap.Class.len H.Mem.Heap.Class.cap, .slice H.Mem.Lists.Global.a H.Mem.Lists.Global.len H.Mem.Lists.Global.cap, .slice H.Mem.Lists.Own.a H.Mem.Lists.Own.len H.Mem.Lists.Own.cap, .int .i64 x.Clock.Epoch, .slice H.Clock.Pins.a H.Clock.Pins.len H.Clock.Pins.cap, .slice H.Limbo.a H.Limbo.len H.Limbo.cap, .slice H.Haz.a H.Haz.len H.Haz.cap] := Box.new w #[.slice H.Mem.Heap.Bytes.a H.Mem.Heap.Bytes.len H.Mem.Heap.Bytes.cap, .slice H.Mem.Heap.Class.a H.Mem.Heap.Class.len H.Mem.Heap.Class.cap, .slice H.Mem.Lists.Global.a H.Mem.Lists.Global.len H.Mem.Lists.Global.cap, .slice H.Mem.Lists.Own.a H.Mem.Lists.Own.len H.Mem.Lists.Own.cap, .int .i64 x.Clock.Epoch, .slice H.Clock.Pins.a H.Clock.Pins.len H.Clock.Pins.cap, .slice H.Limbo.a H.Limbo.len H.Limbo.cap, .slice H.Haz.a H.Haz.len H.Haz.cap] 65
  have HE := Hid.mk_ (show nMarkBase x = nMarkMem x.Mem + nMarkClock x.Clock + totLL x.Limbo * 2 + x.Haz.length from rfl)
  have HK := Hid.mk_ hk1
  clear hk1
  have hlt := h.lt
  have hl0 : ∀ g ∈ H.Mem.foot, g < w.heap.size := h.Mem.lt
  have ho0 := h.Mem.keep (w' := (w.alloc (.cells #[.slice H.Mem.Heap.Bytes.a H.Mem.Heap.Bytes.len H.Mem.Heap.Bytes.cap, .slice H.Mem.Heap.Class.a H.Mem.Heap.Class.len H.Mem.Heap.Class.cap, .slice H.Mem.Lists.Global.a H.Mem.Lists.Global.len H.Mem.Lists.Global.cap, .slice H.Mem.Lists.Own.a H.Mem.Lists.Own.len H.Mem.Lists.Own.cap, .int .i64 x.Clock.Epoch, .slice H.Clock.Pins.a H.Clock.Pins.len H.Clock.Pins.cap, .slice H.Limbo.a H.Limbo.len H.Limbo.cap, .slice H.Haz.a H.Haz.len H.Haz.cap] 65))) (fun g hg => Below.heap_alloc w _ g (hl0 g hg))
  have hl1 : ∀ g ∈ H.Clock.foot, g < w.heap.size := h.Clock.lt
  have ho1 := h.Clock.keep (w' := (w.alloc (.cells #[.slice H.Mem.Heap.Bytes.a H.Mem.Heap.Bytes.len H.Mem.Heap.Bytes.cap, .slice H.Mem.Heap.Class.a H.Mem.Heap.Class.len H.Mem.Heap.Class.cap, .slice H.Mem.Lists.Global.a H.Mem.Lists.Global.len H.Mem.Lists.Global.cap, .slice H.Mem.Lists.Own.a H.Mem.Lists.Own.len H.Mem.Lists.Own.cap, .int .i64 x.Clock.Epoch, .slice H.Clock.Pins.a H.Clock.Pins.len H.Clock.Pins.cap, .slice H.Limbo.a H.Limbo.len H.Limbo.cap, .slice H.Haz.a H.Haz.len H.Haz.cap] 65))) (fun g hg => Below.heap_alloc w _ g (hl1 g hg))
  have hl2 : ∀ g ∈ foot2 H.Limbo.val H.LimboT, g < w.heap.size := h.Limbo.lt
  have ho2 := h.Limbo.keep (w' := (w.alloc (.cells #[.slice H.Mem.Heap.Bytes.a H.Mem.Heap.Bytes.len H.Mem.Heap.Bytes.cap, .slice H.Mem.Heap.Class.a H.Mem.Heap.Class.len H.Mem.Heap.Class.cap, .slice H.Mem.Lists.Global.a H.Mem.Lists.Global.len H.Mem.Lists.Global.cap, .slice H.Mem.Lists.Own.a H.Mem.Lists.Own.len H.Mem.Lists.Own.cap, .int .i64 x.Clock.Epoch, .slice H.Clock.Pins.a H.Clock.Pins.len H.Clock.Pins.cap, .slice H.Limbo.a H.Limbo.len H.Limbo.cap, .slice H.Haz.a H.Haz.len H.Haz.cap] 65))) (fun g hg => Below.heap_alloc w _ g (hl2 g hg))
  have hl3 : ∀ g ∈ foot1 H.Haz.val, g < w.heap.size := (foot_lt h.Haz)
  have ho3 := h.Haz.keep (w' := (w.alloc (.cells #[.slice H.Mem.Heap.Bytes.a H.Mem.Heap.Bytes.len H.Mem.Heap.Bytes.cap, .slice H.Mem.Heap.Class.a H.Mem.Heap.Class.len H.Mem.Heap.Class.cap, .slice H.Mem.Lists.Global.a H.Mem.Lists.Global.len H.Mem.Lists.Global.cap, .slice H.Mem.Lists.Own.a H.Mem.Lists.Own.len H.Mem.Lists.Own.cap, .int .i64 x.Clock.Epoch, .slice H.Clock.Pins.a H.Clock.Pins.len H.Clock.Pins.cap, .slice H.Limbo.a H.Limbo.len H.Limbo.cap, .slice H.Haz.a H.Haz.len H.Haz.cap] 65))) (fun g hg => Below.heap_alloc w _ g (hl3 g (mem_foot1.2 hg)))
  have hC0 : Chg H.foot w (w.alloc (.cells #[.slice H.Mem.Heap.Bytes.a H.Mem.Heap.Bytes.len H.Mem.Heap.Bytes.cap, .slice H.Mem.Heap.Class.a H.Mem.Heap.Class.len H.Mem.Heap.Class.cap, .slice H.Mem.Lists.Global.a H.Mem.Lists.Global.len H.Mem.Lists.Global.cap, .slice H.Mem.Lists.Own.a H.Mem.Lists.Own.len H.Mem.Lists.Own.cap, .int .i64 x.Clock.Epoch, .slice H.Clock.Pins.a H.Clock.Pins.len H.Clock.Pins.cap, .slice H.Limbo.a H.Limbo.len H.Limbo.cap, .slice H.Haz.a H.Haz.len H.Haz.cap] 65)) := (Chg.refl _ w).alloc_ _
  go_enter Try.func61, Try.ntmps61
  go_wp2_with fail
  refine (markMem_ct _ H.Mem x.Mem (k) ho0 (by omega) (by have := HK.out; rw [HE.out] at this; omega)).mono ?_
  clear ho0
  rintro e w1 ⟨rfl, ho0, hc⟩
  have ba1 := ba0.chg hc (fun hm => Nat.lt_irrefl _ (hl0 _ hm))
  have hC1 : Chg H.foot w w1 := hC0.trans (hc.mono fun g hg => HBase.mem_foot.2 (.inl hg))
  replace ho1 := ho1.chg hc (fun g hg hm => h.d01 g hm hg)
  replace ho2 := ho2.chg hc (fun g hg hm => h.d02 g hm hg)
  replace ho3 := ho3.chg hc (fun g hg hm => h.d03 g hm hg)
  clear ba0 hc hC0
  have qa0 := ba1.cell 0 _ rfl
  have qa1 := ba1.cell 1 _ rfl
  have qa2 := ba1.cell 2 _ rfl
  have qa3 := ba1.cell 3 _ rfl
  have qa4 := ba1.cell 4 _ rfl
  have qa5 := ba1.cell 5 _ rfl
  have qa6 := ba1.cell 6 _ rfl
  have qa7 := ba1.cell 7 _ rfl
  go_wp2_with fail
  refine (markClock_ct _ H.Clock x.Clock (k + ((nMarkMem x.Mem : Nat) : Int)) ho1 (by omega) (by have := HK.out; rw [HE.out] at this; omega)).mono ?_
  clear ho1
  rintro e w2 ⟨rfl, ho1, hc⟩
  have ba2 := ba1.chg hc (fun hm => Nat.lt_irrefl _ (hl1 _ hm))
  have hC2 : Chg H.foot w w2 := hC1.trans (hc.mono fun g hg => HBase.mem_foot.2 (.inr (.inl hg)))
  replace ho0 := ho0.chg hc (fun g hg hm => h.d01 g hg hm)
  replace ho2 := ho2.chg hc (fun g hg hm => h.d12 g hm hg)
  replace ho3 := ho3.chg hc (fun g hg hm => h.d13 g hm hg)
  clear ba1 hc hC1 qa0 qa1 qa2 qa3 qa4 qa5 qa6 qa7
  have qa0 := ba2.cell 0 _ rfl
  have qa1 := ba2.cell 1 _ rfl
  have qa2 := ba2.cell 2 _ rfl
  have qa3 := ba2.cell 3 _ rfl
  have qa4 := ba2.cell 4 _ rfl
  have qa5 := ba2.cell 5 _ rfl
  have qa6 := ba2.cell 6 _ rfl
  have qa7 := ba2.cell 7 _ rfl
  go_wp2_with fail
  refine (markLListS_w _ H.Limbo H.LimboT x.Limbo (k + ((nMarkMem x.Mem : Nat) : Int) + ((nMarkClock x.Clock : Nat) : Int)) ho2 (by omega) (by have := HK.out; rw [HE.out] at this; omega)).mono ?_
  clear ho2
  rintro e w3 ⟨rfl, ho2, hc⟩
  have ba3 := ba2.chg hc (fun hm => Nat.lt_irrefl _ (hl2 _ hm))
  have hC3 : Chg H.foot w w3 := hC2.trans (hc.mono fun g hg => HBase.mem_foot.2 (.inr (.inr (.inl hg))))
  replace ho0 := ho0.chg hc (fun g hg hm => h.d02 g hg hm)
  replace ho1 := ho1.chg hc (fun g hg hm => h.d12 g hg hm)
  replace ho3 := ho3.chg hc (fun g hg hm => h.d23 g hm hg)
  clear ba2 hc hC2 qa0 qa1 qa2 qa3 qa4 qa5 qa6 qa7
  have qa0 := ba3.cell 0 _ rfl
  have qa1 := ba3.cell 1 _ rfl
  have qa2 := ba3.cell 2 _ rfl
  have qa3 := ba3.cell 3 _ rfl
  have qa4 := ba3.cell 4 _ rfl
  have qa5 := ba3.cell 5 _ rfl
  have qa6 := ba3.cell 6 _ rfl
  have qa7 := ba3.cell 7 _ rfl
  go_wp2_with fail
  refine (markIntS_w _ H.Haz x.Haz (k + ((nMarkMem x.Mem : Nat) : Int) + ((nMarkClock x.Clock : Nat) : Int) + ((totLL x.Limbo * 2 : Nat) : Int)) ho3 (by omega) (by have := HK.out; rw [HE.out] at this; omega)).mono ?_
  clear ho3
  rintro e w4 ⟨rfl, ho3, hc⟩
  have ba4 := ba3.chg hc (fun hm => Nat.lt_irrefl _ (hl3 _ hm))
  have hC4 : Chg H.foot w w4 := hC3.trans (hc.mono fun g hg => HBase.mem_foot.2 (.inr (.inr (.inr (hg)))))
  replace ho0 := ho0.chg hc (fun g hg hm => h.d03 g hg hm)
  replace ho1 := ho1.chg hc (fun g hg hm => h.d13 g hg hm)
  replace ho2 := ho2.chg hc (fun g hg hm => h.d23 g hg hm)
  clear ba3 hc hC3 qa0 qa1 qa2 qa3 qa4 qa5 qa6 qa7
  have qa0 := ba4.cell 0 _ rfl
  have qa1 := ba4.cell 1 _ rfl
  have qa2 := ba4.cell 2 _ rfl
  have qa3 := ba4.cell 3 _ rfl
  have qa4 := ba4.cell 4 _ rfl
  have qa5 := ba4.cell 5 _ rfl
  have qa6 := ba4.cell 6 _ rfl
  have qa7 := ba4.cell 7 _ rfl
  go_wp2
  go_ret
  exact ⟨ret_i64 (by rw [HE.out]; omega), ⟨ho0, ho1, ho2, ho3, h.d01, h.d02, h.d03, h.d12, h.d13, h.d23⟩, hC4⟩

set_option maxRecDepth 100000 in
set_option maxHeartbeats 4000000 in
theorem heldBase_ct (w : World) (H : HBase) (x : Base) (k : Int) (h : RdBase w w.heap.size H (markBase x k)) (hk0 : 0 ≤ k) (hk1 : k + (nMarkBase x : Int) ≤ 4611686018427387904) :
    Calls Try.prog 74 #[.agg #[.slice H.Mem.Heap.Bytes.a H.Mem.Heap.Bytes.len H.Mem.Heap.Bytes.cap, .slice H.Mem.Heap.Class.a H.Mem.Heap.Class.len H.Mem.Heap.Class.cap, .slice H.Mem.Lists.Global.a H.Mem.Lists.Global.len H.Mem.Lists.Global.cap, .slice H.Mem.Lists.Own.a H.Mem.Lists.Own.len H.Mem.Lists.Own.cap, .int .i64 x.Clock.Epoch, .slice H.Clock.Pins.a H.Clock.Pins.len H.Clock.Pins.cap, .slice H.Limbo.a H.Limbo.len H.Limbo.cap, .slice H.Haz.a H.Haz.len H.Haz.cap], .int .i64 k] w fun e w' => e = .returned (.int .i64 (k + (nMarkBase x : Int))) ∧ Below w.heap.size w w' := by
  have ba0 : Box (w.alloc (.cells #[.slice H.Mem.Heap.Bytes.a H.Mem.Heap.Bytes.len H.Mem.Heap.Bytes.cap, .slice H.Mem.Heap.Class.a H.Mem.Heap.Class.len H.Mem.Heap.Class.cap, .slice H.Mem.Lists.Global.a H.Mem.Lists.Global.len H.Mem.Lists.Global.cap, .slice H.Mem.Lists.Own.a H.Mem.Lists.Own.len H.Mem.Lists.Own.cap, .int .i64 x.Clock.Epoch, .slice H.Clock.Pins.a H.Clock.Pins.len H.Clock.Pins.cap, .slice H.Limbo.a H.Limbo.len H.Limbo.cap, .slice H.Haz.a H.Haz.len H.Haz.cap] 65)) w.heap.size [.slice H.Mem.Heap.Bytes.a H.Mem.Heap.Bytes.len H.Mem.Heap.Bytes.cap, .slice H.Mem.Heap.Class.a H.Mem.Heap.Class.len H.Mem.Heap.Class.cap, .slice H.Mem.Lists.Global.a H.Mem.Lists.Global.len H.Mem.Lists.Global.cap, .slice H.Mem.Lists.Own.a H.Mem.Lists.Own.len H.Mem.Lists.Own.cap, .int .i64 x.Clock.Epoch, .slice H.Clock.Pins.a H.Clock.Pins.len H.Clock.Pins.cap, .slice H.Limbo.a H.Limbo.len H.Limbo.cap, .slice H.Haz.a H.Haz.len H.Haz.cap] := Box.new w #[.slice H.Mem.Heap.Bytes.a H.Mem.Heap.Bytes.len H.Mem.Heap.Bytes.cap, .slice H.Mem.Heap.Class.a H.Mem.Heap.Class.len H.Mem.Heap.Class.cap, .slice H.Mem.Lists.Global.a H.Mem.Lists.Global.len H.Mem.Lists.Global.cap, .slice H.Mem.Lists.Own.a H.Mem.Lists.Own.len H.Mem.Lists.Own.cap, .int .i64 x.Clock.Epoch, .slice H.Clock.Pins.a H.Clock.Pins.len H.Clock.Pins.cap, .slice H.Limbo.a H.Limbo.len H.Limbo.cap, .slice H.Haz.a H.Haz.len H.Haz.cap] 65
  have hB0 : Below w.heap.size w (w.alloc (.cells #[.slice H.Mem.Heap.Bytes.a H.Mem.Heap.Bytes.len H.Mem.Heap.Bytes.cap, .slice H.Mem.Heap.Class.a H.Mem.Heap.Class.len H.Mem.Heap.Class.cap, .slice H.Mem.Lists.Global.a H.Mem.Lists.Global.len H.Mem.Lists.Global.cap, .slice H.Mem.Lists.Own.a H.Mem.Lists.Own.len H.Mem.Lists.Own.cap, .int .i64 x.Clock.Epoch, .slice H.Clock.Pins.a H.Clock.Pins.len H.Clock.Pins.cap, .slice H.Limbo.a H.Limbo.len H.Limbo.cap, .slice H.Haz.a H.Haz.len H.Haz.cap] 65)) := by repeat (first | exact Below.refl _ _ | refine Below.alloc ?_ (by simp <;> omega) _ | refine below_grow_of ?_ (by simp <;> omega) _ _ | refine Below.drew ?_ | refine below_drewN ?_ _)
  have HE := Hid.mk_ (show nMarkBase x = nMarkMem x.Mem + nMarkClock x.Clock + totLL x.Limbo * 2 + x.Haz.length from rfl)
  have HK := Hid.mk_ hk1
  clear hk1
  go_enter Try.func74, Try.ntmps74
  go_wp2_with fail
  refine (heldMem_ct _ H.Mem x.Mem (k) (rdMem_up h.Mem hB0) (by omega) (by have := HK.out; rw [HE.out] at this; omega)).mono ?_
  rintro e w1 ⟨rfl, hb0⟩
  have ba1 := ba0.below hb0
  have hB1 := hB0.trans (hb0.mono hB0.size)
  have hn0 : ¬ k + ((nMarkMem x.Mem : Nat) : Int) < 0 := by omega
  clear ba0 hb0 hB0
  have qa0 := ba1.cell 0 _ rfl
  have qa1 := ba1.cell 1 _ rfl
  have qa2 := ba1.cell 2 _ rfl
  have qa3 := ba1.cell 3 _ rfl
  have qa4 := ba1.cell 4 _ rfl
  have qa5 := ba1.cell 5 _ rfl
  have qa6 := ba1.cell 6 _ rfl
  have qa7 := ba1.cell 7 _ rfl
  go_wp2_with fail
  refine (heldClock_ct _ H.Clock x.Clock (k + ((nMarkMem x.Mem : Nat) : Int)) (rdClock_up h.Clock hB1) (by omega) (by have := HK.out; rw [HE.out] at this; omega)).mono ?_
  rintro e w2 ⟨rfl, hb1⟩
  have ba2 := ba1.below hb1
  have hB2 := hB1.trans (hb1.mono hB1.size)
  have hn1 : ¬ k + ((nMarkMem x.Mem : Nat) : Int) + ((nMarkClock x.Clock : Nat) : Int) < 0 := by omega
  clear ba1 hb1 hB1 qa0 qa1 qa2 qa3 qa4 qa5 qa6 qa7
  have qa0 := ba2.cell 0 _ rfl
  have qa1 := ba2.cell 1 _ rfl
  have qa2 := ba2.cell 2 _ rfl
  have qa3 := ba2.cell 3 _ rfl
  have qa4 := ba2.cell 4 _ rfl
  have qa5 := ba2.cell 5 _ rfl
  have qa6 := ba2.cell 6 _ rfl
  have qa7 := ba2.cell 7 _ rfl
  go_wp2_with fail
  refine (heldLListS_w _ H.Limbo H.LimboT x.Limbo (k + ((nMarkMem x.Mem : Nat) : Int) + ((nMarkClock x.Clock : Nat) : Int)) (rdLL_up h.Limbo hB2) (by omega) (by have := HK.out; rw [HE.out] at this; omega)).mono ?_
  rintro e w3 ⟨rfl, hb2⟩
  have ba3 := ba2.below hb2
  have hB3 := hB2.trans (hb2.mono hB2.size)
  have hn2 : ¬ k + ((nMarkMem x.Mem : Nat) : Int) + ((nMarkClock x.Clock : Nat) : Int) + ((totLL x.Limbo * 2 : Nat) : Int) < 0 := by omega
  clear ba2 hb2 hB2 qa0 qa1 qa2 qa3 qa4 qa5 qa6 qa7
  have qa0 := ba3.cell 0 _ rfl
  have qa1 := ba3.cell 1 _ rfl
  have qa2 := ba3.cell 2 _ rfl
  have qa3 := ba3.cell 3 _ rfl
  have qa4 := ba3.cell 4 _ rfl
  have qa5 := ba3.cell 5 _ rfl
  have qa6 := ba3.cell 6 _ rfl
  have qa7 := ba3.cell 7 _ rfl
  go_wp2_with fail
  refine (heldIntS_w _ H.Haz x.Haz (k + ((nMarkMem x.Mem : Nat) : Int) + ((nMarkClock x.Clock : Nat) : Int) + ((totLL x.Limbo * 2 : Nat) : Int)) (rd_up h.Haz hB3) (by omega) (by have := HK.out; rw [HE.out] at this; omega)).mono ?_
  rintro e w4 ⟨rfl, hb3⟩
  have ba4 := ba3.below hb3
  have hB4 := hB3.trans (hb3.mono hB3.size)
  have hn3 : ¬ k + ((nMarkMem x.Mem : Nat) : Int) + ((nMarkClock x.Clock : Nat) : Int) + ((totLL x.Limbo * 2 : Nat) : Int) + ((x.Haz.length : Nat) : Int) < 0 := by omega
  clear ba3 hb3 hB3 qa0 qa1 qa2 qa3 qa4 qa5 qa6 qa7
  have qa0 := ba4.cell 0 _ rfl
  have qa1 := ba4.cell 1 _ rfl
  have qa2 := ba4.cell 2 _ rfl
  have qa3 := ba4.cell 3 _ rfl
  have qa4 := ba4.cell 4 _ rfl
  have qa5 := ba4.cell 5 _ rfl
  have qa6 := ba4.cell 6 _ rfl
  have qa7 := ba4.cell 7 _ rfl
  go_wp2
  go_ret
  exact ⟨ret_i64 (by rw [HE.out]; omega), hB4⟩
end Go.Proofs.Ytdepckmjgpkjmaa

/-
  Shelves: compared, made, measured, marked.
-/
namespace Go.Proofs.Ytdepckmjgpkjmaa
open Go.RowKit

set_option maxRecDepth 100000 in
set_option maxHeartbeats 4000000 in
theorem eqShelf_ct (w : World) (H1 H2 : HShelf) (x : Shelf) (h1 : RdShelf w w.heap.size H1 x) (h2 : RdShelf w w.heap.size H2 x) (hs : sizeShelf x ≤ 1073741824) :
    Calls Try.prog 21 #[.agg #[.slice H1.Base.Mem.Heap.Bytes.a H1.Base.Mem.Heap.Bytes.len H1.Base.Mem.Heap.Bytes.cap, .slice H1.Base.Mem.Heap.Class.a H1.Base.Mem.Heap.Class.len H1.Base.Mem.Heap.Class.cap, .slice H1.Base.Mem.Lists.Global.a H1.Base.Mem.Lists.Global.len H1.Base.Mem.Lists.Global.cap, .slice H1.Base.Mem.Lists.Own.a H1.Base.Mem.Lists.Own.len H1.Base.Mem.Lists.Own.cap, .int .i64 x.Base.Clock.Epoch, .slice H1.Base.Clock.Pins.a H1.Base.Clock.Pins.len H1.Base.Clock.Pins.cap, .slice H1.Base.Limbo.a H1.Base.Limbo.len H1.Base.Limbo.cap, .slice H1.Base.Haz.a H1.Base.Haz.len H1.Base.Haz.cap, .slice H1.Cells.a H1.Cells.len H1.Cells.cap, .slice H1.Jobs.a H1.Jobs.len H1.Jobs.cap, .slice H1.Todo.a H1.Todo.len H1.Todo.cap, .slice H1.Log.a H1.Log.len H1.Log.cap, .int .i64 x.Serial], .agg #[.slice H2.Base.Mem.Heap.Bytes.a H2.Base.Mem.Heap.Bytes.len H2.Base.Mem.Heap.Bytes.cap, .slice H2.Base.Mem.Heap.Class.a H2.Base.Mem.Heap.Class.len H2.Base.Mem.Heap.Class.cap, .slice H2.Base.Mem.Lists.Global.a H2.Base.Mem.Lists.Global.len H2.Base.Mem.Lists.Global.cap, .slice H2.Base.Mem.Lists.Own.a H2.Base.Mem.Lists.Own.len H2.Base.Mem.Lists.Own.cap, .int .i64 x.Base.Clock.Epoch, .slice H2.Base.Clock.Pins.a H2.Base.Clock.Pins.len H2.Base.Clock.Pins.cap, .slice H2.Base.Limbo.a H2.Base.Limbo.len H2.Base.Limbo.cap, .slice H2.Base.Haz.a H2.Base.Haz.len H2.Base.Haz.cap, .slice H2.Cells.a H2.Cells.len H2.Cells.cap, .slice H2.Jobs.a H2.Jobs.len H2.Jobs.cap, .slice H2.Todo.a H2.Todo.len H2.Todo.cap, .slice H2.Log.a H2.Log.len H2.Log.cap, .int .i64 x.Serial]] w fun e w' => e = .returned (.bool true) ∧ Below w.heap.size w w' := by
  have hs0 : sizeBase x.Base ≤ 1073741824 := by unfold sizeShelf at hs; omega
  have hs1 : x.Cells.length ≤ 1073741824 := by unfold sizeShelf at hs; omega
  have hs2 : x.Jobs.length ≤ 1073741824 := by unfold sizeShelf at hs; omega
  have hs3 : szLL x.Todo ≤ 1073741824 := by unfold sizeShelf at hs; omega
  have hs4 : x.Log.length ≤ 1073741824 := by unfold sizeShelf at hs; omega
  clear hs
  have ba0 : Box ((w.alloc (.cells #[.slice H1.Base.Mem.Heap.Bytes.a H1.Base.Mem.Heap.Bytes.len H1.Base.Mem.Heap.Bytes.cap, .slice H1.Base.Mem.Heap.Class.a H1.Base.Mem.Heap.Class.len H1.Base.Mem.Heap.Class.cap, .slice H1.Base.Mem.Lists.Global.a H1.Base.Mem.Lists.Global.len H1.Base.Mem.Lists.Global.cap, .slice H1.Base.Mem.Lists.Own.a H1.Base.Mem.Lists.Own.len H1.Base.Mem.Lists.Own.cap, .int .i64 x.Base.Clock.Epoch, .slice H1.Base.Clock.Pins.a H1.Base.Clock.Pins.len H1.Base.Clock.Pins.cap, .slice H1.Base.Limbo.a H1.Base.Limbo.len H1.Base.Limbo.cap, .slice H1.Base.Haz.a H1.Base.Haz.len H1.Base.Haz.cap, .slice H1.Cells.a H1.Cells.len H1.Cells.cap, .slice H1.Jobs.a H1.Jobs.len H1.Jobs.cap, .slice H1.Todo.a H1.Todo.len H1.Todo.cap, .slice H1.Log.a H1.Log.len H1.Log.cap, .int .i64 x.Serial] 69)).alloc (.cells #[.slice H2.Base.Mem.Heap.Bytes.a H2.Base.Mem.Heap.Bytes.len H2.Base.Mem.Heap.Bytes.cap, .slice H2.Base.Mem.Heap.Class.a H2.Base.Mem.Heap.Class.len H2.Base.Mem.Heap.Class.cap, .slice H2.Base.Mem.Lists.Global.a H2.Base.Mem.Lists.Global.len H2.Base.Mem.Lists.Global.cap, .slice H2.Base.Mem.Lists.Own.a H2.Base.Mem.Lists.Own.len H2.Base.Mem.Lists.Own.cap, .int .i64 x.Base.Clock.Epoch, .slice H2.Base.Clock.Pins.a H2.Base.Clock.Pins.len H2.Base.Clock.Pins.cap, .slice H2.Base.Limbo.a H2.Base.Limbo.len H2.Base.Limbo.cap, .slice H2.Base.Haz.a H2.Base.Haz.len H2.Base.Haz.cap, .slice H2.Cells.a H2.Cells.len H2.Cells.cap, .slice H2.Jobs.a H2.Jobs.len H2.Jobs.cap, .slice H2.Todo.a H2.Todo.len H2.Todo.cap, .slice H2.Log.a H2.Log.len H2.Log.cap, .int .i64 x.Serial] 69)) w.heap.size [.slice H1.Base.Mem.Heap.Bytes.a H1.Base.Mem.Heap.Bytes.len H1.Base.Mem.Heap.Bytes.cap, .slice H1.Base.Mem.Heap.Class.a H1.Base.Mem.Heap.Class.len H1.Base.Mem.Heap.Class.cap, .slice H1.Base.Mem.Lists.Global.a H1.Base.Mem.Lists.Global.len H1.Base.Mem.Lists.Global.cap, .slice H1.Base.Mem.Lists.Own.a H1.Base.Mem.Lists.Own.len H1.Base.Mem.Lists.Own.cap, .int .i64 x.Base.Clock.Epoch, .slice H1.Base.Clock.Pins.a H1.Base.Clock.Pins.len H1.Base.Clock.Pins.cap, .slice H1.Base.Limbo.a H1.Base.Limbo.len H1.Base.Limbo.cap, .slice H1.Base.Haz.a H1.Base.Haz.len H1.Base.Haz.cap, .slice H1.Cells.a H1.Cells.len H1.Cells.cap, .slice H1.Jobs.a H1.Jobs.len H1.Jobs.cap, .slice H1.Todo.a H1.Todo.len H1.Todo.cap, .slice H1.Log.a H1.Log.len H1.Log.cap, .int .i64 x.Serial] := (Box.new w #[.slice H1.Base.Mem.Heap.Bytes.a H1.Base.Mem.Heap.Bytes.len H1.Base.Mem.Heap.Bytes.cap, .slice H1.Base.Mem.Heap.Class.a H1.Base.Mem.Heap.Class.len H1.Base.Mem.Heap.Class.cap, .slice H1.Base.Mem.Lists.Global.a H1.Base.Mem.Lists.Global.len H1.Base.Mem.Lists.Global.cap, .slice H1.Base.Mem.Lists.Own.a H1.Base.Mem.Lists.Own.len H1.Base.Mem.Lists.Own.cap, .int .i64 x.Base.Clock.Epoch, .slice H1.Base.Clock.Pins.a H1.Base.Clock.Pins.len H1.Base.Clock.Pins.cap, .slice H1.Base.Limbo.a H1.Base.Limbo.len H1.Base.Limbo.cap, .slice H1.Base.Haz.a H1.Base.Haz.len H1.Base.Haz.cap, .slice H1.Cells.a H1.Cells.len H1.Cells.cap, .slice H1.Jobs.a H1.Jobs.len H1.Jobs.cap, .slice H1.Todo.a H1.Todo.len H1.Todo.cap, .slice H1.Log.a H1.Log.len H1.Log.cap, .int .i64 x.Serial] 69).alloc _
  have bb0 : Box ((w.alloc (.cells #[.slice H1.Base.Mem.Heap.Bytes.a H1.Base.Mem.Heap.Bytes.len H1.Base.Mem.Heap.Bytes.cap, .slice H1.Base.Mem.Heap.Class.a H1.Base.Mem.Heap.Class.len H1.Base.Mem.Heap.Class.cap, .slice H1.Base.Mem.Lists.Global.a H1.Base.Mem.Lists.Global.len H1.Base.Mem.Lists.Global.cap, .slice H1.Base.Mem.Lists.Own.a H1.Base.Mem.Lists.Own.len H1.Base.Mem.Lists.Own.cap, .int .i64 x.Base.Clock.Epoch, .slice H1.Base.Clock.Pins.a H1.Base.Clock.Pins.len H1.Base.Clock.Pins.cap, .slice H1.Base.Limbo.a H1.Base.Limbo.len H1.Base.Limbo.cap, .slice H1.Base.Haz.a H1.Base.Haz.len H1.Base.Haz.cap, .slice H1.Cells.a H1.Cells.len H1.Cells.cap, .slice H1.Jobs.a H1.Jobs.len H1.Jobs.cap, .slice H1.Todo.a H1.Todo.len H1.Todo.cap, .slice H1.Log.a H1.Log.len H1.Log.cap, .int .i64 x.Serial] 69)).alloc (.cells #[.slice H2.Base.Mem.Heap.Bytes.a H2.Base.Mem.Heap.Bytes.len H2.Base.Mem.Heap.Bytes.cap, .slice H2.Base.Mem.Heap.Class.a H2.Base.Mem.Heap.Class.len H2.Base.Mem.Heap.Class.cap, .slice H2.Base.Mem.Lists.Global.a H2.Base.Mem.Lists.Global.len H2.Base.Mem.Lists.Global.cap, .slice H2.Base.Mem.Lists.Own.a H2.Base.Mem.Lists.Own.len H2.Base.Mem.Lists.Own.cap, .int .i64 x.Base.Clock.Epoch, .slice H2.Base.Clock.Pins.a H2.Base.Clock.Pins.len H2.Base.Clock.Pins.cap, .slice H2.Base.Limbo.a H2.Base.Limbo.len H2.Base.Limbo.cap, .slice H2.Base.Haz.a H2.Base.Haz.len H2.Base.Haz.cap, .slice H2.Cells.a H2.Cells.len H2.Cells.cap, .slice H2.Jobs.a H2.Jobs.len H2.Jobs.cap, .slice H2.Todo.a H2.Todo.len H2.Todo.cap, .slice H2.Log.a H2.Log.len H2.Log.cap, .int .i64 x.Serial] 69)) (w.heap.size + 1) [.slice H2.Base.Mem.Heap.Bytes.a H2.Base.Mem.Heap.Bytes.len H2.Base.Mem.Heap.Bytes.cap, .slice H2.Base.Mem.Heap.Class.a H2.Base.Mem.Heap.Class.len H2.Base.Mem.Heap.Class.cap, .slice H2.Base.Mem.Lists.Global.a H2.Base.Mem.Lists.Global.len H2.Base.Mem.Lists.Global.cap, .slice H2.Base.Mem.Lists.Own.a H2.Base.Mem.Lists.Own.len H2.Base.Mem.Lists.Own.cap, .int .i64 x.Base.Clock.Epoch, .slice H2.Base.Clock.Pins.a H2.Base.Clock.Pins.len H2.Base.Clock.Pins.cap, .slice H2.Base.Limbo.a H2.Base.Limbo.len H2.Base.Limbo.cap, .slice H2.Base.Haz.a H2.Base.Haz.len H2.Base.Haz.cap, .slice H2.Cells.a H2.Cells.len H2.Cells.cap, .slice H2.Jobs.a H2.Jobs.len H2.Jobs.cap, .slice H2.Todo.a H2.Todo.len H2.Todo.cap, .slice H2.Log.a H2.Log.len H2.Log.cap, .int .i64 x.Serial] := by have a := Box.new (w.alloc (.cells #[.slice H1.Base.Mem.Heap.Bytes.a H1.Base.Mem.Heap.Bytes.len H1.Base.Mem.Heap.Bytes.cap, .slice H1.Base.Mem.Heap.Class.a H1.Base.Mem.Heap.Class.len H1.Base.Mem.Heap.Class.cap, .slice H1.Base.Mem.Lists.Global.a H1.Base.Mem.Lists.Global.len H1.Base.Mem.Lists.Global.cap, .slice H1.Base.Mem.Lists.Own.a H1.Base.Mem.Lists.Own.len H1.Base.Mem.Lists.Own.cap, .int .i64 x.Base.Clock.Epoch, .slice H1.Base.Clock.Pins.a H1.Base.Clock.Pins.len H1.Base.Clock.Pins.cap, .slice H1.Base.Limbo.a H1.Base.Limbo.len H1.Base.Limbo.cap, .slice H1.Base.Haz.a H1.Base.Haz.len H1.Base.Haz.cap, .slice H1.Cells.a H1.Cells.len H1.Cells.cap, .slice H1.Jobs.a H1.Jobs.len H1.Jobs.cap, .slice H1.Todo.a H1.Todo.len H1.Todo.cap, .slice H1.Log.a H1.Log.len H1.Log.cap, .int .i64 x.Serial] 69)) #[.slice H2.Base.Mem.Heap.Bytes.a H2.Base.Mem.Heap.Bytes.len H2.Base.Mem.Heap.Bytes.cap, .slice H2.Base.Mem.Heap.Class.a H2.Base.Mem.Heap.Class.len H2.Base.Mem.Heap.Class.cap, .slice H2.Base.Mem.Lists.Global.a H2.Base.Mem.Lists.Global.len H2.Base.Mem.Lists.Global.cap, .slice H2.Base.Mem.Lists.Own.a H2.Base.Mem.Lists.Own.len H2.Base.Mem.Lists.Own.cap, .int .i64 x.Base.Clock.Epoch, .slice H2.Base.Clock.Pins.a H2.Base.Clock.Pins.len H2.Base.Clock.Pins.cap, .slice H2.Base.Limbo.a H2.Base.Limbo.len H2.Base.Limbo.cap, .slice H2.Base.Haz.a H2.Base.Haz.len H2.Base.Haz.cap, .slice H2.Cells.a H2.Cells.len H2.Cells.cap, .slice H2.Jobs.a H2.Jobs.len H2.Jobs.cap, .slice H2.Todo.a H2.Todo.len H2.Todo.cap, .slice H2.Log.a H2.Log.len H2.Log.cap, .int .i64 x.Serial] 69; simpa using a
  have hB0 : Below w.heap.size w ((w.alloc (.cells #[.slice H1.Base.Mem.Heap.Bytes.a H1.Base.Mem.Heap.Bytes.len H1.Base.Mem.Heap.Bytes.cap, .slice H1.Base.Mem.Heap.Class.a H1.Base.Mem.Heap.Class.len H1.Base.Mem.Heap.Class.cap, .slice H1.Base.Mem.Lists.Global.a H1.Base.Mem.Lists.Global.len H1.Base.Mem.Lists.Global.cap, .slice H1.Base.Mem.Lists.Own.a H1.Base.Mem.Lists.Own.len H1.Base.Mem.Lists.Own.cap, .int .i64 x.Base.Clock.Epoch, .slice H1.Base.Clock.Pins.a H1.Base.Clock.Pins.len H1.Base.Clock.Pins.cap, .slice H1.Base.Limbo.a H1.Base.Limbo.len H1.Base.Limbo.cap, .slice H1.Base.Haz.a H1.Base.Haz.len H1.Base.Haz.cap, .slice H1.Cells.a H1.Cells.len H1.Cells.cap, .slice H1.Jobs.a H1.Jobs.len H1.Jobs.cap, .slice H1.Todo.a H1.Todo.len H1.Todo.cap, .slice H1.Log.a H1.Log.len H1.Log.cap, .int .i64 x.Serial] 69)).alloc (.cells #[.slice H2.Base.Mem.Heap.Bytes.a H2.Base.Mem.Heap.Bytes.len H2.Base.Mem.Heap.Bytes.cap, .slice H2.Base.Mem.Heap.Class.a H2.Base.Mem.Heap.Class.len H2.Base.Mem.Heap.Class.cap, .slice H2.Base.Mem.Lists.Global.a H2.Base.Mem.Lists.Global.len H2.Base.Mem.Lists.Global.cap, .slice H2.Base.Mem.Lists.Own.a H2.Base.Mem.Lists.Own.len H2.Base.Mem.Lists.Own.cap, .int .i64 x.Base.Clock.Epoch, .slice H2.Base.Clock.Pins.a H2.Base.Clock.Pins.len H2.Base.Clock.Pins.cap, .slice H2.Base.Limbo.a H2.Base.Limbo.len H2.Base.Limbo.cap, .slice H2.Base.Haz.a H2.Base.Haz.len H2.Base.Haz.cap, .slice H2.Cells.a H2.Cells.len H2.Cells.cap, .slice H2.Jobs.a H2.Jobs.len H2.Jobs.cap, .slice H2.Todo.a H2.Todo.len H2.Todo.cap, .slice H2.Log.a H2.Log.len H2.Log.cap, .int .i64 x.Serial] 69)) := by repeat (first | exact Below.refl _ _ | refine Below.alloc ?_ (by simp <;> omega) _ | refine below_grow_of ?_ (by simp <;> omega) _ _ | refine Below.drew ?_ | refine below_drewN ?_ _)
  go_enter Try.func21, Try.ntmps21
  go_wp2_with fail
  refine (eqBase_ct _ H1.Base H2.Base x.Base (rdBase_up h1.Base hB0) (rdBase_up h2.Base hB0) hs0).mono ?_
  rintro e w1 ⟨rfl, hb0⟩
  have ba1 := ba0.below hb0
  have bb1 := bb0.below hb0
  have hB1 := hB0.trans (hb0.mono hB0.size)
  clear ba0 bb0 hb0 hB0
  have qa0 := ba1.cell 0 _ rfl
  have qb0 := bb1.cell 0 _ rfl
  have qa1 := ba1.cell 1 _ rfl
  have qb1 := bb1.cell 1 _ rfl
  have qa2 := ba1.cell 2 _ rfl
  have qb2 := bb1.cell 2 _ rfl
  have qa3 := ba1.cell 3 _ rfl
  have qb3 := bb1.cell 3 _ rfl
  have qa4 := ba1.cell 4 _ rfl
  have qb4 := bb1.cell 4 _ rfl
  have qa5 := ba1.cell 5 _ rfl
  have qb5 := bb1.cell 5 _ rfl
  have qa6 := ba1.cell 6 _ rfl
  have qb6 := bb1.cell 6 _ rfl
  have qa7 := ba1.cell 7 _ rfl
  have qb7 := bb1.cell 7 _ rfl
  have qa8 := ba1.cell 8 _ rfl
  have qb8 := bb1.cell 8 _ rfl
  have qa9 := ba1.cell 9 _ rfl
  have qb9 := bb1.cell 9 _ rfl
  have qa10 := ba1.cell 10 _ rfl
  have qb10 := bb1.cell 10 _ rfl
  have qa11 := ba1.cell 11 _ rfl
  have qb11 := bb1.cell 11 _ rfl
  have qa12 := ba1.cell 12 _ rfl
  have qb12 := bb1.cell 12 _ rfl
  go_wp2_with fail
  refine (eqIntS_w _ H1.Cells H2.Cells x.Cells (rd_up h1.Cells hB1) (rd_up h2.Cells hB1) hs1).mono ?_
  rintro e w2 ⟨rfl, hb1⟩
  have ba2 := ba1.below hb1
  have bb2 := bb1.below hb1
  have hB2 := hB1.trans (hb1.mono hB1.size)
  clear ba1 bb1 hb1 hB1 qa0 qb0 qa1 qb1 qa2 qb2 qa3 qb3 qa4 qb4 qa5 qb5 qa6 qb6 qa7 qb7 qa8 qb8 qa9 qb9 qa10 qb10 qa11 qb11 qa12 qb12
  have qa0 := ba2.cell 0 _ rfl
  have qb0 := bb2.cell 0 _ rfl
  have qa1 := ba2.cell 1 _ rfl
  have qb1 := bb2.cell 1 _ rfl
  have qa2 := ba2.cell 2 _ rfl
  have qb2 := bb2.cell 2 _ rfl
  have qa3 := ba2.cell 3 _ rfl
  have qb3 := bb2.cell 3 _ rfl
  have qa4 := ba2.cell 4 _ rfl
  have qb4 := bb2.cell 4 _ rfl
  have qa5 := ba2.cell 5 _ rfl
  have qb5 := bb2.cell 5 _ rfl
  have qa6 := ba2.cell 6 _ rfl
  have qb6 := bb2.cell 6 _ rfl
  have qa7 := ba2.cell 7 _ rfl
  have qb7 := bb2.cell 7 _ rfl
  have qa8 := ba2.cell 8 _ rfl
  have qb8 := bb2.cell 8 _ rfl
  have qa9 := ba2.cell 9 _ rfl
  have qb9 := bb2.cell 9 _ rfl
  have qa10 := ba2.cell 10 _ rfl
  have qb10 := bb2.cell 10 _ rfl
  have qa11 := ba2.cell 11 _ rfl
  have qb11 := bb2.cell 11 _ rfl
  have qa12 := ba2.cell 12 _ rfl
  have qb12 := bb2.cell 12 _ rfl
  go_wp2_with fail
  refine (eqJobS_w _ H1.Jobs H2.Jobs x.Jobs (rd_up h1.Jobs hB2) (rd_up h2.Jobs hB2) hs2).mono ?_
  rintro e w3 ⟨rfl, hb2⟩
  have ba3 := ba2.below hb2
  have bb3 := bb2.below hb2
  have hB3 := hB2.trans (hb2.mono hB2.size)
  clear ba2 bb2 hb2 hB2 qa0 qb0 qa1 qb1 qa2 qb2 qa3 qb3 qa4 qb4 qa5 qb5 qa6 qb6 qa7 qb7 qa8 qb8 qa9 qb9 qa10 qb10 qa11 qb11 qa12 qb12
  have qa0 := ba3.cell 0 _ rfl
  have qb0 := bb3.cell 0 _ rfl
  have qa1 := ba3.cell 1 _ rfl
  have qb1 := bb3.cell 1 _ rfl
  have qa2 := ba3.cell 2 _ rfl
  have qb2 := bb3.cell 2 _ rfl
  have qa3 := ba3.cell 3 _ rfl
  have qb3 := bb3.cell 3 _ rfl
  have qa4 := ba3.cell 4 _ rfl
  have qb4 := bb3.cell 4 _ rfl
  have qa5 := ba3.cell 5 _ rfl
  have qb5 := bb3.cell 5 _ rfl
  have qa6 := ba3.cell 6 _ rfl
  have qb6 := bb3.cell 6 _ rfl
  have qa7 := ba3.cell 7 _ rfl
  have qb7 := bb3.cell 7 _ rfl
  have qa8 := ba3.cell 8 _ rfl
  have qb8 := bb3.cell 8 _ rfl
  have qa9 := ba3.cell 9 _ rfl
  have qb9 := bb3.cell 9 _ rfl
  have qa10 := ba3.cell 10 _ rfl
  have qb10 := bb3.cell 10 _ rfl
  have qa11 := ba3.cell 11 _ rfl
  have qb11 := bb3.cell 11 _ rfl
  have qa12 := ba3.cell 12 _ rfl
  have qb12 := bb3.cell 12 _ rfl
  go_wp2_with fail
  refine (eqQueueS_w _ H1.Todo H1.TodoT H2.Todo H2.TodoT x.Todo (rdLL_up h1.Todo hB3) (rdLL_up h2.Todo hB3) hs3).mono ?_
  rintro e w4 ⟨rfl, hb3⟩
  have ba4 := ba3.below hb3
  have bb4 := bb3.below hb3
  have hB4 := hB3.trans (hb3.mono hB3.size)
  clear ba3 bb3 hb3 hB3 qa0 qb0 qa1 qb1 qa2 qb2 qa3 qb3 qa4 qb4 qa5 qb5 qa6 qb6 qa7 qb7 qa8 qb8 qa9 qb9 qa10 qb10 qa11 qb11 qa12 qb12
  have qa0 := ba4.cell 0 _ rfl
  have qb0 := bb4.cell 0 _ rfl
  have qa1 := ba4.cell 1 _ rfl
  have qb1 := bb4.cell 1 _ rfl
  have qa2 := ba4.cell 2 _ rfl
  have qb2 := bb4.cell 2 _ rfl
  have qa3 := ba4.cell 3 _ rfl
  have qb3 := bb4.cell 3 _ rfl
  have qa4 := ba4.cell 4 _ rfl
  have qb4 := bb4.cell 4 _ rfl
  have qa5 := ba4.cell 5 _ rfl
  have qb5 := bb4.cell 5 _ rfl
  have qa6 := ba4.cell 6 _ rfl
  have qb6 := bb4.cell 6 _ rfl
  have qa7 := ba4.cell 7 _ rfl
  have qb7 := bb4.cell 7 _ rfl
  have qa8 := ba4.cell 8 _ rfl
  have qb8 := bb4.cell 8 _ rfl
  have qa9 := ba4.cell 9 _ rfl
  have qb9 := bb4.cell 9 _ rfl
  have qa10 := ba4.cell 10 _ rfl
  have qb10 := bb4.cell 10 _ rfl
  have qa11 := ba4.cell 11 _ rfl
  have qb11 := bb4.cell 11 _ rfl
  have qa12 := ba4.cell 12 _ rfl
  have qb12 := bb4.cell 12 _ rfl
  go_wp2_with fail
  refine (eqEvS_w _ H1.Log H2.Log x.Log (rd_up h1.Log hB4) (rd_up h2.Log hB4) hs4).mono ?_
  rintro e w5 ⟨rfl, hb4⟩
  have ba5 := ba4.below hb4
  have bb5 := bb4.below hb4
  have hB5 := hB4.trans (hb4.mono hB4.size)
  clear ba4 bb4 hb4 hB4 qa0 qb0 qa1 qb1 qa2 qb2 qa3 qb3 qa4 qb4 qa5 qb5 qa6 qb6 qa7 qb7 qa8 qb8 qa9 qb9 qa10 qb10 qa11 qb11 qa12 qb12
  have qa0 := ba5.cell 0 _ rfl
  have qb0 := bb5.cell 0 _ rfl
  have qa1 := ba5.cell 1 _ rfl
  have qb1 := bb5.cell 1 _ rfl
  have qa2 := ba5.cell 2 _ rfl
  have qb2 := bb5.cell 2 _ rfl
  have qa3 := ba5.cell 3 _ rfl
  have qb3 := bb5.cell 3 _ rfl
  have qa4 := ba5.cell 4 _ rfl
  have qb4 := bb5.cell 4 _ rfl
  have qa5 := ba5.cell 5 _ rfl
  have qb5 := bb5.cell 5 _ rfl
  have qa6 := ba5.cell 6 _ rfl
  have qb6 := bb5.cell 6 _ rfl
  have qa7 := ba5.cell 7 _ rfl
  have qb7 := bb5.cell 7 _ rfl
  have qa8 := ba5.cell 8 _ rfl
  have qb8 := bb5.cell 8 _ rfl
  have qa9 := ba5.cell 9 _ rfl
  have qb9 := bb5.cell 9 _ rfl
  have qa10 := ba5.cell 10 _ rfl
  have qb10 := bb5.cell 10 _ rfl
  have qa11 := ba5.cell 11 _ rfl
  have qb11 := bb5.cell 11 _ rfl
  have qa12 := ba5.cell 12 _ rfl
  have qb12 := bb5.cell 12 _ rfl
  go_wp2
  go_ret
  exact ⟨rfl, hB5⟩

set_option maxRecDepth 100000 in
set_option maxHeartbeats 4000000 in
theorem markShelf_ct (w : World) (H : HShelf) (x : Shelf) (k : Int) (h : OwShelf w H x) (hk0 : 0 ≤ k) (hk1 : k + (nMarkShelf x : Int) ≤ 4611686018427387904) :
    Calls Try.prog 26 #[.agg #[.slice H.Base.Mem.Heap.Bytes.a H.Base.Mem.Heap.Bytes.len H.Base.Mem.Heap.Bytes.cap, .slice H.Base.Mem.Heap.Class.a H.Base.Mem.Heap.Class.len H.Base.Mem.Heap.Class.cap, .slice H.Base.Mem.Lists.Global.a H.Base.Mem.Lists.Global.len H.Base.Mem.Lists.Global.cap, .slice H.Base.Mem.Lists.Own.a H.Base.Mem.Lists.Own.len H.Base.Mem.Lists.Own.cap, .int .i64 x.Base.Clock.Epoch, .slice H.Base.Clock.Pins.a H.Base.Clock.Pins.len H.Base.Clock.Pins.cap, .slice H.Base.Limbo.a H.Base.Limbo.len H.Base.Limbo.cap, .slice H.Base.Haz.a H.Base.Haz.len H.Base.Haz.cap, .slice H.Cells.a H.Cells.len H.Cells.cap, .slice H.Jobs.a H.Jobs.len H.Jobs.cap, .slice H.Todo.a H.Todo.len H.Todo.cap, .slice H.Log.a H.Log.len H.Log.cap, .int .i64 x.Serial], .int .i64 k] w fun e w' => e = .returned (.int .i64 (k + (nMarkShelf x : Int))) ∧ OwShelf w' H (markShelf x k) ∧ Chg H.foot w w' := by
  have ba0 : Box (w.alloc (.cells #[.slice H.Base.Mem.Heap.Bytes.a H.Base.Mem.Heap.Bytes.len H.Base.Mem.Heap.Bytes.cap, .slice H.Base.Mem.Heap.Class.a H.Base.Mem.Heap.Class.len H.Base.Mem.Heap.Class.cap, .slice H.Base.Mem.Lists.Global.a H.Base.Mem.Lists.Global.len H.Base.Mem.Lists.Global.cap, .slice H.Base.Mem.Lists.Own.a H.Base.Mem.Lists.Own.len H.Base.Mem.Lists.Own.cap, .int .i64 x.Base.Clock.Epoch, .slice H.Base.Clock.Pins.a H.Base.Clock.Pins.len H.Base.Clock.Pins.cap, .slice H.Base.Limbo.a H.Base.Limbo.len H.Base.Limbo.cap, .slice H.Base.Haz.a H.Base.Haz.len H.Base.Haz.cap, .slice H.Cells.a H.Cells.len H.Cells.cap, .slice H.Jobs.a H.Jobs.len H.Jobs.cap, .slice H.Todo.a H.Todo.len H.Todo.cap, .slice H.Log.a H.Log.len H.Log.cap, .int .i64 x.Serial] 69)) w.heap.size [.slice H.Base.Mem.Heap.Bytes.a H.Base.Mem.Heap.Bytes.len H.Base.Mem.Heap.Bytes.cap, .slice H.Base.Mem.Heap.Class.a H.Base.Mem.Heap.Class.len H.Base.Mem.Heap.Class.cap, .slice H.Base.Mem.Lists.Global.a H.Base.Mem.Lists.Global.len H.Base.Mem.Lists.Global.cap, .slice H.Base.Mem.Lists.Own.a H.Base.Mem.Lists.Own.len H.Base.Mem.Lists.Own.cap, .int .i64 x.Base.Clock.Epoch, .slice H.Base.Clock.Pins.a H.Base.Clock.Pins.len H.Base.Clock.Pins.cap, .slice H.Base.Limbo.a H.Base.Limbo.len H.Base.Limbo.cap, .slice H.Base.Haz.a H.Base.Haz.len H.Base.Haz.cap, .slice H.Cells.a H.Cells.len H.Cells.cap, .slice H.Jobs.a H.Jobs.len H.Jobs.cap, .slice H.Todo.a H.Todo.len H.Todo.cap, .slice H.Log.a H.Log.len H.Log.cap, .int .i64 x.Serial] := Box.new w #[.slice H.Base.Mem.Heap.Bytes.a H.Base.Mem.Heap.Bytes.len H.Base.Mem.Heap.Bytes.cap, .slice H.Base.Mem.Heap.Class.a H.Base.Mem.Heap.Class.len H.Base.Mem.Heap.Class.cap, .slice H.Base.Mem.Lists.Global.a H.Base.Mem.Lists.Global.len H.Base.Mem.Lists.Global.cap, .slice H.Base.Mem.Lists.Own.a H.Base.Mem.Lists.Own.len H.Base.Mem.Lists.Own.cap, .int .i64 x.Base.Clock.Epoch, .slice H.Base.Clock.Pins.a H.Base.Clock.Pins.len H.Base.Clock.Pins.cap, .slice H.Base.Limbo.a H.Base.Limbo.len H.Base.Limbo.cap, .slice H.Base.Haz.a H.Base.Haz.len H.Base.Haz.cap, .slice H.Cells.a H.Cells.len H.Cells.cap, .slice H.Jobs.a H.Jobs.len H.Jobs.cap, .slice H.Todo.a H.Todo.len H.Todo.cap, .slice H.Log.a H.Log.len H.Log.cap, .int .i64 x.Serial] 69
  have HE := Hid.mk_ (show nMarkShelf x = nMarkBase x.Base + x.Cells.length + x.Jobs.length * 21 + totLL x.Todo * 4 + x.Log.length * 7 from rfl)
  have HK := Hid.mk_ hk1
  clear hk1
  have hlt := h.lt
  have hl0 : ∀ g ∈ H.Base.foot, g < w.heap.size := h.Base.lt
  have ho0 := h.Base.keep (w' := (w.alloc (.cells #[.slice H.Base.Mem.Heap.Bytes.a H.Base.Mem.Heap.Bytes.len H.Base.Mem.Heap.Bytes.cap, .slice H.Base.Mem.Heap.Class.a H.Base.Mem.Heap.Class.len H.Base.Mem.Heap.Class.cap, .slice H.Base.Mem.Lists.Global.a H.Base.Mem.Lists.Global.len H.Base.Mem.Lists.Global.cap, .slice H.Base.Mem.Lists.Own.a H.Base.Mem.Lists.Own.len H.Base.Mem.Lists.Own.cap, .int .i64 x.Base.Clock.Epoch, .slice H.Base.Clock.Pins.a H.Base.Clock.Pins.len H.Base.Clock.Pins.cap, .slice H.Base.Limbo.a H.Base.Limbo.len H.Base.Limbo.cap, .slice H.Base.Haz.a H.Base.Haz.len H.Base.Haz.cap, .slice H.Cells.a H.Cells.len H.Cells.cap, .slice H.Jobs.a H.Jobs.len H.Jobs.cap, .slice H.Todo.a H.Todo.len H.Todo.cap, .slice H.Log.a H.Log.len H.Log.cap, .int .i64 x.Serial] 69))) (fun g hg => Below.heap_alloc w _ g (hl0 g hg))
  have hl1 : ∀ g ∈ foot1 H.Cells.val, g < w.heap.size := (foot_lt h.Cells)
  have ho1 := h.Cells.keep (w' := (w.alloc (.cells #[.slice H.Base.Mem.Heap.Bytes.a H.Base.Mem.Heap.Bytes.len H.Base.Mem.Heap.Bytes.cap, .slice H.Base.Mem.Heap.Class.a H.Base.Mem.Heap.Class.len H.Base.Mem.Heap.Class.cap, .slice H.Base.Mem.Lists.Global.a H.Base.Mem.Lists.Global.len H.Base.Mem.Lists.Global.cap, .slice H.Base.Mem.Lists.Own.a H.Base.Mem.Lists.Own.len H.Base.Mem.Lists.Own.cap, .int .i64 x.Base.Clock.Epoch, .slice H.Base.Clock.Pins.a H.Base.Clock.Pins.len H.Base.Clock.Pins.cap, .slice H.Base.Limbo.a H.Base.Limbo.len H.Base.Limbo.cap, .slice H.Base.Haz.a H.Base.Haz.len H.Base.Haz.cap, .slice H.Cells.a H.Cells.len H.Cells.cap, .slice H.Jobs.a H.Jobs.len H.Jobs.cap, .slice H.Todo.a H.Todo.len H.Todo.cap, .slice H.Log.a H.Log.len H.Log.cap, .int .i64 x.Serial] 69))) (fun g hg => Below.heap_alloc w _ g (hl1 g (mem_foot1.2 hg)))
  have hl2 : ∀ g ∈ foot1 H.Jobs.val, g < w.heap.size := (foot_lt h.Jobs)
  have ho2 := h.Jobs.keep (w' := (w.alloc (.cells #[.slice H.Base.Mem.Heap.Bytes.a H.Base.Mem.Heap.Bytes.len H.Base.Mem.Heap.Bytes.cap, .slice H.Base.Mem.Heap.Class.a H.Base.Mem.Heap.Class.len H.Base.Mem.Heap.Class.cap, .slice H.Base.Mem.Lists.Global.a H.Base.Mem.Lists.Global.len H.Base.Mem.Lists.Global.cap, .slice H.Base.Mem.Lists.Own.a H.Base.Mem.Lists.Own.len H.Base.Mem.Lists.Own.cap, .int .i64 x.Base.Clock.Epoch, .slice H.Base.Clock.Pins.a H.Base.Clock.Pins.len H.Base.Clock.Pins.cap, .slice H.Base.Limbo.a H.Base.Limbo.len H.Base.Limbo.cap, .slice H.Base.Haz.a H.Base.Haz.len H.Base.Haz.cap, .slice H.Cells.a H.Cells.len H.Cells.cap, .slice H.Jobs.a H.Jobs.len H.Jobs.cap, .slice H.Todo.a H.Todo.len H.Todo.cap, .slice H.Log.a H.Log.len H.Log.cap, .int .i64 x.Serial] 69))) (fun g hg => Below.heap_alloc w _ g (hl2 g (mem_foot1.2 hg)))
  have hl3 : ∀ g ∈ foot2 H.Todo.val H.TodoT, g < w.heap.size := h.Todo.lt
  have ho3 := h.Todo.keep (w' := (w.alloc (.cells #[.slice H.Base.Mem.Heap.Bytes.a H.Base.Mem.Heap.Bytes.len H.Base.Mem.Heap.Bytes.cap, .slice H.Base.Mem.Heap.Class.a H.Base.Mem.Heap.Class.len H.Base.Mem.Heap.Class.cap, .slice H.Base.Mem.Lists.Global.a H.Base.Mem.Lists.Global.len H.Base.Mem.Lists.Global.cap, .slice H.Base.Mem.Lists.Own.a H.Base.Mem.Lists.Own.len H.Base.Mem.Lists.Own.cap, .int .i64 x.Base.Clock.Epoch, .slice H.Base.Clock.Pins.a H.Base.Clock.Pins.len H.Base.Clock.Pins.cap, .slice H.Base.Limbo.a H.Base.Limbo.len H.Base.Limbo.cap, .slice H.Base.Haz.a H.Base.Haz.len H.Base.Haz.cap, .slice H.Cells.a H.Cells.len H.Cells.cap, .slice H.Jobs.a H.Jobs.len H.Jobs.cap, .slice H.Todo.a H.Todo.len H.Todo.cap, .slice H.Log.a H.Log.len H.Log.cap, .int .i64 x.Serial] 69))) (fun g hg => Below.heap_alloc w _ g (hl3 g hg))
  have hl4 : ∀ g ∈ foot1 H.Log.val, g < w.heap.size := (foot_lt h.Log)
  have ho4 := h.Log.keep (w' := (w.alloc (.cells #[.slice H.Base.Mem.Heap.Bytes.a H.Base.Mem.Heap.Bytes.len H.Base.Mem.Heap.Bytes.cap, .slice H.Base.Mem.Heap.Class.a H.Base.Mem.Heap.Class.len H.Base.Mem.Heap.Class.cap, .slice H.Base.Mem.Lists.Global.a H.Base.Mem.Lists.Global.len H.Base.Mem.Lists.Global.cap, .slice H.Base.Mem.Lists.Own.a H.Base.Mem.Lists.Own.len H.Base.Mem.Lists.Own.cap, .int .i64 x.Base.Clock.Epoch, .slice H.Base.Clock.Pins.a H.Base.Clock.Pins.len H.Base.Clock.Pins.cap, .slice H.Base.Limbo.a H.Base.Limbo.len H.Base.Limbo.cap, .slice H.Base.Haz.a H.Base.Haz.len H.Base.Haz.cap, .slice H.Cells.a H.Cells.len H.Cells.cap, .slice H.Jobs.a H.Jobs.len H.Jobs.cap, .slice H.Todo.a H.Todo.len H.Todo.cap, .slice H.Log.a H.Log.len H.Log.cap, .int .i64 x.Serial] 69))) (fun g hg => Below.heap_alloc w _ g (hl4 g (mem_foot1.2 hg)))
  have hC0 : Chg H.foot w (w.alloc (.cells #[.slice H.Base.Mem.Heap.Bytes.a H.Base.Mem.Heap.Bytes.len H.Base.Mem.Heap.Bytes.cap, .slice H.Base.Mem.Heap.Class.a H.Base.Mem.Heap.Class.len H.Base.Mem.Heap.Class.cap, .slice H.Base.Mem.Lists.Global.a H.Base.Mem.Lists.Global.len H.Base.Mem.Lists.Global.cap, .slice H.Base.Mem.Lists.Own.a H.Base.Mem.Lists.Own.len H.Base.Mem.Lists.Own.cap, .int .i64 x.Base.Clock.Epoch, .slice H.Base.Clock.Pins.a H.Base.Clock.Pins.len H.Base.Clock.Pins.cap, .slice H.Base.Limbo.a H.Base.Limbo.len H.Base.Limbo.cap, .slice H.Base.Haz.a H.Base.Haz.len H.Base.Haz.cap, .slice H.Cells.a H.Cells.len H.Cells.cap, .slice H.Jobs.a H.Jobs.len H.Jobs.cap, .slice H.Todo.a H.Todo.len H.Todo.cap, .slice H.Log.a H.Log.len H.Log.cap, .int .i64 x.Serial] 69)) := (Chg.refl _ w).alloc_ _
  go_enter Try.func26, Try.ntmps26
  go_wp2_with fail
  refine (markBase_ct _ H.Base x.Base (k) ho0 (by omega) (by have := HK.out; rw [HE.out] at this; omega)).mono ?_
  clear ho0
  rintro e w1 ⟨rfl, ho0, hc⟩
  have ba1 := ba0.chg hc (fun hm => Nat.lt_irrefl _ (hl0 _ hm))
  have hC1 : Chg H.foot w w1 := hC0.trans (hc.mono fun g hg => HShelf.mem_foot.2 (.inl hg))
  replace ho1 := ho1.chg hc (fun g hg hm => h.d01 g hm hg)
  replace ho2 := ho2.chg hc (fun g hg hm => h.d02 g hm hg)
  replace ho3 := ho3.chg hc (fun g hg hm => h.d03 g hm hg)
  replace ho4 := ho4.chg hc (fun g hg hm => h.d04 g hm hg)
  clear ba0 hc hC0
  have qa0 := ba1.cell 0 _ rfl
  have qa1 := ba1.cell 1 _ rfl
  have qa2 := ba1.cell 2 _ rfl
  have qa3 := ba1.cell 3 _ rfl
  have qa4 := ba1.cell 4 _ rfl
  have qa5 := ba1.cell 5 _ rfl
  have qa6 := ba1.cell 6 _ rfl
  have qa7 := ba1.cell 7 _ rfl
  have qa8 := ba1.cell 8 _ rfl
  have qa9 := ba1.cell 9 _ rfl
  have qa10 := ba1.cell 10 _ rfl
  have qa11 := ba1.cell 11 _ rfl
  have qa12 := ba1.cell 12 _ rfl
  go_wp2_with fail
  refine (markIntS_w _ H.Cells x.Cells (k + ((nMarkBase x.Base : Nat) : Int)) ho1 (by omega) (by have := HK.out; rw [HE.out] at this; omega)).mono ?_
  clear ho1
  rintro e w2 ⟨rfl, ho1, hc⟩
  have ba2 := ba1.chg hc (fun hm => Nat.lt_irrefl _ (hl1 _ hm))
  have hC2 : Chg H.foot w w2 := hC1.trans (hc.mono fun g hg => HShelf.mem_foot.2 (.inr (.inl hg)))
  replace ho0 := ho0.chg hc (fun g hg hm => h.d01 g hg hm)
  replace ho2 := ho2.chg hc (fun g hg hm => h.d12 g hm hg)
  replace ho3 := ho3.chg hc (fun g hg hm => h.d13 g hm hg)
  replace ho4 := ho4.chg hc (fun g hg hm => h.d14 g hm hg)
  clear ba1 hc hC1 qa0 qa1 qa2 qa3 qa4 qa5 qa6 qa7 qa8 qa9 qa10 qa11 qa12
  have qa0 := ba2.cell 0 _ rfl
  have qa1 := ba2.cell 1 _ rfl
  have qa2 := ba2.cell 2 _ rfl
  have qa3 := ba2.cell 3 _ rfl
  have qa4 := ba2.cell 4 _ rfl
  have qa5 := ba2.cell 5 _ rfl
  have qa6 := ba2.cell 6 _ rfl
  have qa7 := ba2.cell 7 _ rfl
  have qa8 := ba2.cell 8 _ rfl
  have qa9 := ba2.cell 9 _ rfl
  have qa10 := ba2.cell 10 _ rfl
  have qa11 := ba2.cell 11 _ rfl
  have qa12 := ba2.cell 12 _ rfl
  go_wp2_with fail
  refine (markJobS_w _ H.Jobs x.Jobs (k + ((nMarkBase x.Base : Nat) : Int) + ((x.Cells.length : Nat) : Int)) ho2 (by omega) (by have := HK.out; rw [HE.out] at this; omega)).mono ?_
  clear ho2
  rintro e w3 ⟨rfl, ho2, hc⟩
  have ba3 := ba2.chg hc (fun hm => Nat.lt_irrefl _ (hl2 _ hm))
  have hC3 : Chg H.foot w w3 := hC2.trans (hc.mono fun g hg => HShelf.mem_foot.2 (.inr (.inr (.inl hg))))
  replace ho0 := ho0.chg hc (fun g hg hm => h.d02 g hg hm)
  replace ho1 := ho1.chg hc (fun g hg hm => h.d12 g hg hm)
  replace ho3 := ho3.chg hc (fun g hg hm => h.d23 g hm hg)
  replace ho4 := ho4.chg hc (fun g hg hm => h.d24 g hm hg)
  clear ba2 hc hC2 qa0 qa1 qa2 qa3 qa4 qa5 qa6 qa7 qa8 qa9 qa10 qa11 qa12
  have qa0 := ba3.cell 0 _ rfl
  have qa1 := ba3.cell 1 _ rfl
  have qa2 := ba3.cell 2 _ rfl
  have qa3 := ba3.cell 3 _ rfl
  have qa4 := ba3.cell 4 _ rfl
  have qa5 := ba3.cell 5 _ rfl
  have qa6 := ba3.cell 6 _ rfl
  have qa7 := ba3.cell 7 _ rfl
  have qa8 := ba3.cell 8 _ rfl
  have qa9 := ba3.cell 9 _ rfl
  have qa10 := ba3.cell 10 _ rfl
  have qa11 := ba3.cell 11 _ rfl
  have qa12 := ba3.cell 12 _ rfl
  go_wp2_with fail
  refine (markQueueS_w _ H.Todo H.TodoT x.Todo (k + ((nMarkBase x.Base : Nat) : Int) + ((x.Cells.length : Nat) : Int) + ((x.Jobs.length * 21 : Nat) : Int)) ho3 (by omega) (by have := HK.out; rw [HE.out] at this; omega)).mono ?_
  clear ho3
  rintro e w4 ⟨rfl, ho3, hc⟩
  have ba4 := ba3.chg hc (fun hm => Nat.lt_irrefl _ (hl3 _ hm))
  have hC4 : Chg H.foot w w4 := hC3.trans (hc.mono fun g hg => HShelf.mem_foot.2 (.inr (.inr (.inr (.inl hg)))))
  replace ho0 := ho0.chg hc (fun g hg hm => h.d03 g hg hm)
  replace ho1 := ho1.chg hc (fun g hg hm => h.d13 g hg hm)
  replace ho2 := ho2.chg hc (fun g hg hm => h.d23 g hg hm)
  replace ho4 := ho4.chg hc (fun g hg hm => h.d34 g hm hg)
  clear ba3 hc hC3 qa0 qa1 qa2 qa3 qa4 qa5 qa6 qa7 qa8 qa9 qa10 qa11 qa12
  have qa0 := ba4.cell 0 _ rfl
  have qa1 := ba4.cell 1 _ rfl
  have qa2 := ba4.cell 2 _ rfl
  have qa3 := ba4.cell 3 _ rfl
  have qa4 := ba4.cell 4 _ rfl
  have qa5 := ba4.cell 5 _ rfl
  have qa6 := ba4.cell 6 _ rfl
  have qa7 := ba4.cell 7 _ rfl
  have qa8 := ba4.cell 8 _ rfl
  have qa9 := ba4.cell 9 _ rfl
  have qa10 := ba4.cell 10 _ rfl
  have qa11 := ba4.cell 11 _ rfl
  have qa12 := ba4.cell 12 _ rfl
  go_wp2_with fail
  refine (markEvS_w _ H.Log x.Log (k + ((nMarkBase x.Base : Nat) : Int) + ((x.Cells.length : Nat) : Int) + ((x.Jobs.length * 21 : Nat) : Int) + ((totLL x.Todo * 4 : Nat) : Int)) ho4 (by omega) (by have := HK.out; rw [HE.out] at this; omega)).mono ?_
  clear ho4
  rintro e w5 ⟨rfl, ho4, hc⟩
  have ba5 := ba4.chg hc (fun hm => Nat.lt_irrefl _ (hl4 _ hm))
  have hC5 : Chg H.foot w w5 := hC4.trans (hc.mono fun g hg => HShelf.mem_foot.2 (.inr (.inr (.inr (.inr (hg))))))
  replace ho0 := ho0.chg hc (fun g hg hm => h.d04 g hg hm)
  replace ho1 := ho1.chg hc (fun g hg hm => h.d14 g hg hm)
  replace ho2 := ho2.chg hc (fun g hg hm => h.d24 g hg hm)
  replace ho3 := ho3.chg hc (fun g hg hm => h.d34 g hg hm)
  clear ba4 hc hC4 qa0 qa1 qa2 qa3 qa4 qa5 qa6 qa7 qa8 qa9 qa10 qa11 qa12
  have qa0 := ba5.cell 0 _ rfl
  have qa1 := ba5.cell 1 _ rfl
  have qa2 := ba5.cell 2 _ rfl
  have qa3 := ba5.cell 3 _ rfl
  have qa4 := ba5.cell 4 _ rfl
  have qa5 := ba5.cell 5 _ rfl
  have qa6 := ba5.cell 6 _ rfl
  have qa7 := ba5.cell 7 _ rfl
  have qa8 := ba5.cell 8 _ rfl
  have qa9 := ba5.cell 9 _ rfl
  have qa10 := ba5.cell 10 _ rfl
  have qa11 := ba5.cell 11 _ rfl
  have qa12 := ba5.cell 12 _ rfl
  go_wp2
  go_ret
  exact ⟨ret_i64 (by rw [HE.out]; omega), ⟨ho0, ho1, ho2, ho3, ho4, h.d01, h.d02, h.d03, h.d04, h.d12, h.d13, h.d14, h.d23, h.d24, h.d34⟩, hC5⟩

set_option maxRecDepth 100000 in
set_option maxHeartbeats 4000000 in
theorem heldShelf_ct (w : World) (H : HShelf) (x : Shelf) (k : Int) (h : RdShelf w w.heap.size H (markShelf x k)) (hk0 : 0 ≤ k) (hk1 : k + (nMarkShelf x : Int) ≤ 4611686018427387904) :
    Calls Try.prog 35 #[.agg #[.slice H.Base.Mem.Heap.Bytes.a H.Base.Mem.Heap.Bytes.len H.Base.Mem.Heap.Bytes.cap, .slice H.Base.Mem.Heap.Class.a H.Base.Mem.Heap.Class.len H.Base.Mem.Heap.Class.cap, .slice H.Base.Mem.Lists.Global.a H.Base.Mem.Lists.Global.len H.Base.Mem.Lists.Global.cap, .slice H.Base.Mem.Lists.Own.a H.Base.Mem.Lists.Own.len H.Base.Mem.Lists.Own.cap, .int .i64 x.Base.Clock.Epoch, .slice H.Base.Clock.Pins.a H.Base.Clock.Pins.len H.Base.Clock.Pins.cap, .slice H.Base.Limbo.a H.Base.Limbo.len H.Base.Limbo.cap, .slice H.Base.Haz.a H.Base.Haz.len H.Base.Haz.cap, .slice H.Cells.a H.Cells.len H.Cells.cap, .slice H.Jobs.a H.Jobs.len H.Jobs.cap, .slice H.Todo.a H.Todo.len H.Todo.cap, .slice H.Log.a H.Log.len H.Log.cap, .int .i64 x.Serial], .int .i64 k] w fun e w' => e = .returned (.int .i64 (k + (nMarkShelf x : Int))) ∧ Below w.heap.size w w' := by
  have ba0 : Box (w.alloc (.cells #[.slice H.Base.Mem.Heap.Bytes.a H.Base.Mem.Heap.Bytes.len H.Base.Mem.Heap.Bytes.cap, .slice H.Base.Mem.Heap.Class.a H.Base.Mem.Heap.Class.len H.Base.Mem.Heap.Class.cap, .slice H.Base.Mem.Lists.Global.a H.Base.Mem.Lists.Global.len H.Base.Mem.Lists.Global.cap, .slice H.Base.Mem.Lists.Own.a H.Base.Mem.Lists.Own.len H.Base.Mem.Lists.Own.cap, .int .i64 x.Base.Clock.Epoch, .slice H.Base.Clock.Pins.a H.Base.Clock.Pins.len H.Base.Clock.Pins.cap, .slice H.Base.Limbo.a H.Base.Limbo.len H.Base.Limbo.cap, .slice H.Base.Haz.a H.Base.Haz.len H.Base.Haz.cap, .slice H.Cells.a H.Cells.len H.Cells.cap, .slice H.Jobs.a H.Jobs.len H.Jobs.cap, .slice H.Todo.a H.Todo.len H.Todo.cap, .slice H.Log.a H.Log.len H.Log.cap, .int .i64 x.Serial] 69)) w.heap.size [.slice H.Base.Mem.Heap.Bytes.a H.Base.Mem.Heap.Bytes.len H.Base.Mem.Heap.Bytes.cap, .slice H.Base.Mem.Heap.Class.a H.Base.Mem.Heap.Class.len H.Base.Mem.Heap.Class.cap, .slice H.Base.Mem.Lists.Global.a H.Base.Mem.Lists.Global.len H.Base.Mem.Lists.Global.cap, .slice H.Base.Mem.Lists.Own.a H.Base.Mem.Lists.Own.len H.Base.Mem.Lists.Own.cap, .int .i64 x.Base.Clock.Epoch, .slice H.Base.Clock.Pins.a H.Base.Clock.Pins.len H.Base.Clock.Pins.cap, .slice H.Base.Limbo.a H.Base.Limbo.len H.Base.Limbo.cap, .slice H.Base.Haz.a H.Base.Haz.len H.Base.Haz.cap, .slice H.Cells.a H.Cells.len H.Cells.cap, .slice H.Jobs.a H.Jobs.len H.Jobs.cap, .slice H.Todo.a H.Todo.len H.Todo.cap, .slice H.Log.a H.Log.len H.Log.cap, .int .i64 x.Serial] := Box.new w #[.slice H.Base.Mem.Heap.Bytes.a H.Base.Mem.Heap.Bytes.len H.Base.Mem.Heap.Bytes.cap, .slice H.Base.Mem.Heap.Class.a H.Base.Mem.Heap.Class.len H.Base.Mem.Heap.Class.cap, .slice H.Base.Mem.Lists.Global.a H.Base.Mem.Lists.Global.len H.Base.Mem.Lists.Global.cap, .slice H.Base.Mem.Lists.Own.a H.Base.Mem.Lists.Own.len H.Base.Mem.Lists.Own.cap, .int .i64 x.Base.Clock.Epoch, .slice H.Base.Clock.Pins.a H.Base.Clock.Pins.len H.Base.Clock.Pins.cap, .slice H.Base.Limbo.a H.Base.Limbo.len H.Base.Limbo.cap, .slice H.Base.Haz.a H.Base.Haz.len H.Base.Haz.cap, .slice H.Cells.a H.Cells.len H.Cells.cap, .slice H.Jobs.a H.Jobs.len H.Jobs.cap, .slice H.Todo.a H.Todo.len H.Todo.cap, .slice H.Log.a H.Log.len H.Log.cap, .int .i64 x.Serial] 69
  have hB0 : Below w.heap.size w (w.alloc (.cells #[.slice H.Base.Mem.Heap.Bytes.a H.Base.Mem.Heap.Bytes.len H.Base.Mem.Heap.Bytes.cap, .slice H.Base.Mem.Heap.Class.a H.Base.Mem.Heap.Class.len H.Base.Mem.Heap.Class.cap, .slice H.Base.Mem.Lists.Global.a H.Base.Mem.Lists.Global.len H.Base.Mem.Lists.Global.cap, .slice H.Base.Mem.Lists.Own.a H.Base.Mem.Lists.Own.len H.Base.Mem.Lists.Own.cap, .int .i64 x.Base.Clock.Epoch, .slice H.Base.Clock.Pins.a H.Base.Clock.Pins.len H.Base.Clock.Pins.cap, .slice H.Base.Limbo.a H.Base.Limbo.len H.Base.Limbo.cap, .slice H.Base.Haz.a H.Base.Haz.len H.Base.Haz.cap, .slice H.Cells.a H.Cells.len H.Cells.cap, .slice H.Jobs.a H.Jobs.len H.Jobs.cap, .slice H.Todo.a H.Todo.len H.Todo.cap, .slice H.Log.a H.Log.len H.Log.cap, .int .i64 x.Serial] 69)) := by repeat (first | exact Below.refl _ _ | refine Below.alloc ?_ (by simp <;> omega) _ | refine below_grow_of ?_ (by simp <;> omega) _ _ | refine Below.drew ?_ | refine below_drewN ?_ _)
  have HE := Hid.mk_ (show nMarkShelf x = nMarkBase x.Base + x.Cells.length + x.Jobs.length * 21 + totLL x.Todo * 4 + x.Log.length * 7 from rfl)
  have HK := Hid.mk_ hk1
  clear hk1
  go_enter Try.func35, Try.ntmps35
  go_wp2_with fail
  refine (heldBase_ct _ H.Base x.Base (k) (rdBase_up h.Base hB0) (by omega) (by have := HK.out; rw [HE.out] at this; omega)).mono ?_
  rintro e w1 ⟨rfl, hb0⟩
  have ba1 := ba0.below hb0
  have hB1 := hB0.trans (hb0.mono hB0.size)
  have hn0 : ¬ k + ((nMarkBase x.Base : Nat) : Int) < 0 := by omega
  clear ba0 hb0 hB0
  have qa0 := ba1.cell 0 _ rfl
  have qa1 := ba1.cell 1 _ rfl
  have qa2 := ba1.cell 2 _ rfl
  have qa3 := ba1.cell 3 _ rfl
  have qa4 := ba1.cell 4 _ rfl
  have qa5 := ba1.cell 5 _ rfl
  have qa6 := ba1.cell 6 _ rfl
  have qa7 := ba1.cell 7 _ rfl
  have qa8 := ba1.cell 8 _ rfl
  have qa9 := ba1.cell 9 _ rfl
  have qa10 := ba1.cell 10 _ rfl
  have qa11 := ba1.cell 11 _ rfl
  have qa12 := ba1.cell 12 _ rfl
  go_wp2_with fail
  refine (heldIntS_w _ H.Cells x.Cells (k + ((nMarkBase x.Base : Nat) : Int)) (rd_up h.Cells hB1) (by omega) (by have := HK.out; rw [HE.out] at this; omega)).mono ?_
  rintro e w2 ⟨rfl, hb1⟩
  have ba2 := ba1.below hb1
  have hB2 := hB1.trans (hb1.mono hB1.size)
  have hn1 : ¬ k + ((nMarkBase x.Base : Nat) : Int) + ((x.Cells.length : Nat) : Int) < 0 := by omega
  clear ba1 hb1 hB1 qa0 qa1 qa2 qa3 qa4 qa5 qa6 qa7 qa8 qa9 qa10 qa11 qa12
  have qa0 := ba2.cell 0 _ rfl
  have qa1 := ba2.cell 1 _ rfl
  have qa2 := ba2.cell 2 _ rfl
  have qa3 := ba2.cell 3 _ rfl
  have qa4 := ba2.cell 4 _ rfl
  have qa5 := ba2.cell 5 _ rfl
  have qa6 := ba2.cell 6 _ rfl
  have qa7 := ba2.cell 7 _ rfl
  have qa8 := ba2.cell 8 _ rfl
  have qa9 := ba2.cell 9 _ rfl
  have qa10 := ba2.cell 10 _ rfl
  have qa11 := ba2.cell 11 _ rfl
  have qa12 := ba2.cell 12 _ rfl
  go_wp2_with fail
  refine (heldJobS_w _ H.Jobs x.Jobs (k + ((nMarkBase x.Base : Nat) : Int) + ((x.Cells.length : Nat) : Int)) (rd_up h.Jobs hB2) (by omega) (by have := HK.out; rw [HE.out] at this; omega)).mono ?_
  rintro e w3 ⟨rfl, hb2⟩
  have ba3 := ba2.below hb2
  have hB3 := hB2.trans (hb2.mono hB2.size)
  have hn2 : ¬ k + ((nMarkBase x.Base : Nat) : Int) + ((x.Cells.length : Nat) : Int) + ((x.Jobs.length * 21 : Nat) : Int) < 0 := by omega
  clear ba2 hb2 hB2 qa0 qa1 qa2 qa3 qa4 qa5 qa6 qa7 qa8 qa9 qa10 qa11 qa12
  have qa0 := ba3.cell 0 _ rfl
  have qa1 := ba3.cell 1 _ rfl
  have qa2 := ba3.cell 2 _ rfl
  have qa3 := ba3.cell 3 _ rfl
  have qa4 := ba3.cell 4 _ rfl
  have qa5 := ba3.cell 5 _ rfl
  have qa6 := ba3.cell 6 _ rfl
  have qa7 := ba3.cell 7 _ rfl
  have qa8 := ba3.cell 8 _ rfl
  have qa9 := ba3.cell 9 _ rfl
  have qa10 := ba3.cell 10 _ rfl
  have qa11 := ba3.cell 11 _ rfl
  have qa12 := ba3.cell 12 _ rfl
  go_wp2_with fail
  refine (heldQueueS_w _ H.Todo H.TodoT x.Todo (k + ((nMarkBase x.Base : Nat) : Int) + ((x.Cells.length : Nat) : Int) + ((x.Jobs.length * 21 : Nat) : Int)) (rdLL_up h.Todo hB3) (by omega) (by have := HK.out; rw [HE.out] at this; omega)).mono ?_
  rintro e w4 ⟨rfl, hb3⟩
  have ba4 := ba3.below hb3
  have hB4 := hB3.trans (hb3.mono hB3.size)
  have hn3 : ¬ k + ((nMarkBase x.Base : Nat) : Int) + ((x.Cells.length : Nat) : Int) + ((x.Jobs.length * 21 : Nat) : Int) + ((totLL x.Todo * 4 : Nat) : Int) < 0 := by omega
  clear ba3 hb3 hB3 qa0 qa1 qa2 qa3 qa4 qa5 qa6 qa7 qa8 qa9 qa10 qa11 qa12
  have qa0 := ba4.cell 0 _ rfl
  have qa1 := ba4.cell 1 _ rfl
  have qa2 := ba4.cell 2 _ rfl
  have qa3 := ba4.cell 3 _ rfl
  have qa4 := ba4.cell 4 _ rfl
  have qa5 := ba4.cell 5 _ rfl
  have qa6 := ba4.cell 6 _ rfl
  have qa7 := ba4.cell 7 _ rfl
  have qa8 := ba4.cell 8 _ rfl
  have qa9 := ba4.cell 9 _ rfl
  have qa10 := ba4.cell 10 _ rfl
  have qa11 := ba4.cell 11 _ rfl
  have qa12 := ba4.cell 12 _ rfl
  go_wp2_with fail
  refine (heldEvS_w _ H.Log x.Log (k + ((nMarkBase x.Base : Nat) : Int) + ((x.Cells.length : Nat) : Int) + ((x.Jobs.length * 21 : Nat) : Int) + ((totLL x.Todo * 4 : Nat) : Int)) (rd_up h.Log hB4) (by omega) (by have := HK.out; rw [HE.out] at this; omega)).mono ?_
  rintro e w5 ⟨rfl, hb4⟩
  have ba5 := ba4.below hb4
  have hB5 := hB4.trans (hb4.mono hB4.size)
  have hn4 : ¬ k + ((nMarkBase x.Base : Nat) : Int) + ((x.Cells.length : Nat) : Int) + ((x.Jobs.length * 21 : Nat) : Int) + ((totLL x.Todo * 4 : Nat) : Int) + ((x.Log.length * 7 : Nat) : Int) < 0 := by omega
  clear ba4 hb4 hB4 qa0 qa1 qa2 qa3 qa4 qa5 qa6 qa7 qa8 qa9 qa10 qa11 qa12
  have qa0 := ba5.cell 0 _ rfl
  have qa1 := ba5.cell 1 _ rfl
  have qa2 := ba5.cell 2 _ rfl
  have qa3 := ba5.cell 3 _ rfl
  have qa4 := ba5.cell 4 _ rfl
  have qa5 := ba5.cell 5 _ rfl
  have qa6 := ba5.cell 6 _ rfl
  have qa7 := ba5.cell 7 _ rfl
  have qa8 := ba5.cell 8 _ rfl
  have qa9 := ba5.cell 9 _ rfl
  have qa10 := ba5.cell 10 _ rfl
  have qa11 := ba5.cell 11 _ rfl
  have qa12 := ba5.cell 12 _ rfl
  go_wp2
  go_ret
  exact ⟨ret_i64 (by rw [HE.out]; omega), hB5⟩
end Go.Proofs.Ytdepckmjgpkjmaa

/-
  Places in the arena: sizes, strides, slots, ranges: plain definitions and facts.
-/
namespace Go.Proofs.Ytdepckmjgpkjmaa
open Go.RowKit
end Go.Proofs.Ytdepckmjgpkjmaa

/-
  Places in the arena: the contracts of the small functions.
-/
namespace Go.Proofs.Ytdepckmjgpkjmaa
open Go.RowKit
end Go.Proofs.Ytdepckmjgpkjmaa
/-
  Lists of ints searched; bytes: the contracts.
-/
namespace Go.Proofs.Ytdepckmjgpkjmaa
open Go.RowKit

def idxOf {α : Type} (p : α → Bool) (l : List α) : Int := match l.findIdx? p with | some i => i | none => -1
theorem idxOf_hit {α : Type} (p : α → Bool) (l : List α) (i : Nat) (hi : i < l.length) (h : (l.take i).any p = false) (hp : p l[i] = true) : idxOf p l = i := by
  have hf : l.findIdx? p = some i := by
    rw [List.findIdx?_eq_some_iff_getElem]
    refine ⟨hi, hp, fun j hj => ?_⟩
    rw [List.any_eq_false] at h
    exact h l[j] (List.mem_take_iff_getElem.2 ⟨j, by omega, rfl⟩)
  unfold idxOf
  rw [hf]
theorem idxOf_none {α : Type} (p : α → Bool) (l : List α) (h : l.any p = false) : idxOf p l = -1 := by
  have hf : l.findIdx? p = none := by
    rw [List.findIdx?_eq_none_iff]
    intro x hx
    rw [List.any_eq_false] at h
    simpa using h x hx
  unfold idxOf
  rw [hf]
theorem any_take_succ {α : Type} (p : α → Bool) (l : List α) (i : Nat) (hi : i < l.length) (h : (l.take i).any p = false) (hp : p l[i] = false) : (l.take (i + 1)).any p = false := by
  rw [List.take_succ_eq_append_getElem hi, List.any_append, h]
  simp [hp]
theorem idxOf_ge {α : Type} (p : α → Bool) (l : List α) : decide (0 ≤ idxOf p l) = l.any p := by
  unfold idxOf
  cases h : l.findIdx? p with
  | none =>
    rw [List.findIdx?_eq_none_iff] at h
    have : l.any p = false := by
      rw [List.any_eq_false]
      intro x hx
      simp [h x hx]
    rw [this]
    rfl
  | some i =>
    rw [List.findIdx?_eq_some_iff_getElem] at h
    obtain ⟨hi, hp, _⟩ := h
    have : l.any p = true := List.any_eq_true.2 ⟨l[i], List.getElem_mem hi, hp⟩
    rw [this]
    simp

theorem all_not_any {α : Type} (p : α → Bool) (l : List α) : l.all p = !(l.any fun x => !p x) := by
  induction l with
  | nil => rfl
  | cons x l ih => simp [ih]
end Go.Proofs.Ytdepckmjgpkjmaa
/-
  Heaps: the shape: the contracts.
-/
namespace Go.Proofs.Ytdepckmjgpkjmaa
open Go.RowKit
end Go.Proofs.Ytdepckmjgpkjmaa
/-
  Heaps: the class of a slot.
-/
namespace Go.Proofs.Ytdepckmjgpkjmaa
open Go.RowKit
end Go.Proofs.Ytdepckmjgpkjmaa
/-
  Heaps: the generation of a slot.
-/
namespace Go.Proofs.Ytdepckmjgpkjmaa
open Go.RowKit
theorem cell_old (w : World) (o : Obj) (g i : Nat) (hg : g < w.heap.size) : (w.alloc o).cell? ⟨g, i, none⟩ = w.cell? ⟨g, i, none⟩ := by
  simp [World.cell?, Below.heap_alloc w o g hg]
theorem cell_up {w w' : World} {g i : Nat} {u : Value} (hb : Below w.heap.size w w') (hg : g < w.heap.size) (h : w.cell? ⟨g, i, none⟩ = some u) : w'.cell? ⟨g, i, none⟩ = some u := (hb.cell (p := ⟨g, i, none⟩) hg).trans h
end Go.Proofs.Ytdepckmjgpkjmaa
/-
  Words for the laws on shelves.
-/
namespace Go.Proofs.Ytdepckmjgpkjmaa
open Go.RowKit
theorem up2 {w1 w2 : World} {o : Obj} {g i : Nat} {u : Value} (hb : Below (w1.alloc o).heap.size (w1.alloc o) w2) (hg : g < w1.heap.size) (h : w1.cell? ⟨g, i, none⟩ = some u) : w2.cell? ⟨g, i, none⟩ = some u := cell_up hb (by simp; omega) ((cell_old w1 o g i hg).trans h)

theorem below_step {B : Nat} {w0 w w' : World} {o : Obj} (hB : Below B w0 w) (hb : Below (w.alloc o).heap.size (w.alloc o) w') (h : B ≤ w.heap.size) : Below B w0 w' := (hB.alloc h o).trans (hb.mono (by simp; omega))
theorem below_step0 {B : Nat} {w0 w w' : World} (hB : Below B w0 w) (hb : Below w.heap.size w w') (h : B ≤ w.heap.size) : Below B w0 w' := hB.trans (hb.mono h)
theorem new_cell {w w' : World} {cs : Array Value} {t : TypeId} {j : Nat} {v : Value} (hb : Below (w.alloc (.cells cs t)).heap.size (w.alloc (.cells cs t)) w') (h : cs[j]? = some v) : w'.cell? ⟨w.heap.size, j, none⟩ = some v := by
  refine cell_up hb (by simp) ?_
  rw [cell_of_row _ _ _ _ _ _ (heap_alloc_new w _)]
  exact h
theorem OwL.step {α : Type} {T : FT α} {e : TypeId} {w w' : World} {o : Obj} {v : Value} {l : List α} (h : OwL T e w v l) (hb : Below (w.alloc o).heap.size (w.alloc o) w') : OwL T e w' v l := (h.alloc_ o).keep (fun g hg => hb.block g (foot_lt (h.alloc_ o) g (mem_foot1.2 hg)))
theorem OwL.step0 {α : Type} {T : FT α} {e : TypeId} {w w' : World} {v : Value} {l : List α} (h : OwL T e w v l) (hb : Below w.heap.size w w') : OwL T e w' v l := h.keep (fun g hg => hb.block g (foot_lt h g (mem_foot1.2 hg)))
theorem OwLL.step {α : Type} {T : FT α} {e E : TypeId} {w w' : World} {o : Obj} {v : Value} {s : List SV} {l : List (List α)} (h : OwLL T e E w v s l) (hb : Below (w.alloc o).heap.size (w.alloc o) w') : OwLL T e E w' v s l := (h.alloc_ o).keep (fun g hg => hb.block g ((h.alloc_ o).lt g hg))
theorem OwLL.step0 {α : Type} {T : FT α} {e E : TypeId} {w w' : World} {v : Value} {s : List SV} {l : List (List α)} (h : OwLL T e E w v s l) (hb : Below w.heap.size w w') : OwLL T e E w' v s l := h.keep (fun g hg => hb.block g (h.lt g hg))

theorem lt_step {w w' : World} {o : Obj} {a : Nat} (z : a < w.heap.size) (hb : Below (w.alloc o).heap.size (w.alloc o) w') : a < w'.heap.size := by
  have := hb.size
  simp at this
  omega
theorem lt_step0 {w w' : World} {a : Nat} (z : a < w.heap.size) (hb : Below w.heap.size w w') : a < w'.heap.size := Nat.lt_of_lt_of_le z hb.size
theorem new_lt {w w' : World} {o : Obj} (hb : Below (w.alloc o).heap.size (w.alloc o) w') : w.heap.size < w'.heap.size := by
  have := hb.size
  simp at this
  omega

theorem OwHeap.alloc_ {w : World} {H : HHeap} {x : Heap} (h : OwHeap w H x) (o : Obj) : OwHeap (w.alloc o) H x := h.keep fun g hg => Below.heap_alloc w o g (h.lt g hg)
theorem OwHeap.step {w w' : World} {o : Obj} {H : HHeap} {x : Heap} (h : OwHeap w H x) (hb : Below (w.alloc o).heap.size (w.alloc o) w') : OwHeap w' H x := (h.alloc_ o).keep (fun g hg => hb.block g ((h.alloc_ o).lt g hg))
theorem OwHeap.step0 {w w' : World} {H : HHeap} {x : Heap} (h : OwHeap w H x) (hb : Below w.heap.size w w') : OwHeap w' H x := h.keep (fun g hg => hb.block g (h.lt g hg))

theorem OwLists.alloc_ {w : World} {H : HLists} {x : Lists} (h : OwLists w H x) (o : Obj) : OwLists (w.alloc o) H x := h.keep fun g hg => Below.heap_alloc w o g (h.lt g hg)
theorem OwLists.step {w w' : World} {o : Obj} {H : HLists} {x : Lists} (h : OwLists w H x) (hb : Below (w.alloc o).heap.size (w.alloc o) w') : OwLists w' H x := (h.alloc_ o).keep (fun g hg => hb.block g ((h.alloc_ o).lt g hg))
theorem OwLists.step0 {w w' : World} {H : HLists} {x : Lists} (h : OwLists w H x) (hb : Below w.heap.size w w') : OwLists w' H x := h.keep (fun g hg => hb.block g (h.lt g hg))

theorem OwMem.alloc_ {w : World} {H : HMem} {x : Mem} (h : OwMem w H x) (o : Obj) : OwMem (w.alloc o) H x := h.keep fun g hg => Below.heap_alloc w o g (h.lt g hg)
theorem OwMem.step {w w' : World} {o : Obj} {H : HMem} {x : Mem} (h : OwMem w H x) (hb : Below (w.alloc o).heap.size (w.alloc o) w') : OwMem w' H x := (h.alloc_ o).keep (fun g hg => hb.block g ((h.alloc_ o).lt g hg))
theorem OwMem.step0 {w w' : World} {H : HMem} {x : Mem} (h : OwMem w H x) (hb : Below w.heap.size w w') : OwMem w' H x := h.keep (fun g hg => hb.block g (h.lt g hg))

theorem OwClock.alloc_ {w : World} {H : HClock} {x : Clock} (h : OwClock w H x) (o : Obj) : OwClock (w.alloc o) H x := h.keep fun g hg => Below.heap_alloc w o g (h.lt g hg)
theorem OwClock.step {w w' : World} {o : Obj} {H : HClock} {x : Clock} (h : OwClock w H x) (hb : Below (w.alloc o).heap.size (w.alloc o) w') : OwClock w' H x := (h.alloc_ o).keep (fun g hg => hb.block g ((h.alloc_ o).lt g hg))
theorem OwClock.step0 {w w' : World} {H : HClock} {x : Clock} (h : OwClock w H x) (hb : Below w.heap.size w w') : OwClock w' H x := h.keep (fun g hg => hb.block g (h.lt g hg))

theorem OwBase.alloc_ {w : World} {H : HBase} {x : Base} (h : OwBase w H x) (o : Obj) : OwBase (w.alloc o) H x := h.keep fun g hg => Below.heap_alloc w o g (h.lt g hg)
theorem OwBase.step {w w' : World} {o : Obj} {H : HBase} {x : Base} (h : OwBase w H x) (hb : Below (w.alloc o).heap.size (w.alloc o) w') : OwBase w' H x := (h.alloc_ o).keep (fun g hg => hb.block g ((h.alloc_ o).lt g hg))
theorem OwBase.step0 {w w' : World} {H : HBase} {x : Base} (h : OwBase w H x) (hb : Below w.heap.size w w') : OwBase w' H x := h.keep (fun g hg => hb.block g (h.lt g hg))

theorem OwShelf.alloc_ {w : World} {H : HShelf} {x : Shelf} (h : OwShelf w H x) (o : Obj) : OwShelf (w.alloc o) H x := h.keep fun g hg => Below.heap_alloc w o g (h.lt g hg)
theorem OwShelf.step {w w' : World} {o : Obj} {H : HShelf} {x : Shelf} (h : OwShelf w H x) (hb : Below (w.alloc o).heap.size (w.alloc o) w') : OwShelf w' H x := (h.alloc_ o).keep (fun g hg => hb.block g ((h.alloc_ o).lt g hg))
theorem OwShelf.step0 {w w' : World} {H : HShelf} {x : Shelf} (h : OwShelf w H x) (hb : Below w.heap.size w w') : OwShelf w' H x := h.keep (fun g hg => hb.block g (h.lt g hg))

theorem nMark_size_Heap (x : Heap) : nMarkHeap x ≤ sizeHeap x := Nat.le_refl _
theorem nMark_size_Lists (x : Lists) : nMarkLists x ≤ sizeLists x := Nat.add_le_add (Nat.le_add_left _ _) (Nat.le_add_left _ _)
theorem nMark_size_Mem (x : Mem) : nMarkMem x ≤ sizeMem x := Nat.add_le_add (nMark_size_Heap _) (nMark_size_Lists _)
theorem nMark_size_Base (x : Base) : nMarkBase x ≤ 4 * sizeBase x := by
  have h1 := nMark_size_Mem x.Mem
  have h2 : nMarkClock x.Clock = x.Clock.Pins.length * 4 := rfl
  have h3 : sizeClock x.Clock = x.Clock.Pins.length := rfl
  have h4 : totLL x.Limbo ≤ szLL x.Limbo := Nat.le_add_left _ _
  unfold nMarkBase sizeBase
  omega

theorem nMark_size_Shelf (x : Shelf) : nMarkShelf x ≤ 21 * sizeShelf x := by
  have h1 := nMark_size_Base x.Base
  have h4 : totLL x.Todo ≤ szLL x.Todo := Nat.le_add_left _ _
  unfold nMarkShelf sizeShelf
  omega
end Go.Proofs.Ytdepckmjgpkjmaa

