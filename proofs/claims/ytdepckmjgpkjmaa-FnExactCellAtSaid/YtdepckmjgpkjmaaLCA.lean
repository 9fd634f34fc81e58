/-
  FnExactCellAt, walked.
-/
import Derived.Test.YtdepckmjgpkjmaaT
import Derived.Test.YtdepckmjgpkjmaaL
import Derived.Deep.QuietTactic
import Derived.BigQuiet
import Derived.Deep.LoopGhost
import Derived.Deep.RegionHeld3
import Derived.Test.YtdepckmjgpkjmaaN
import Derived.Test.YtdepckmjgpkjmaaA
import Derived.WalkSpells
import Derived.Laws.Cover3
import Derived.Test.YtdepckmjgpkjmaaCS
namespace Go.Proofs.Ytdepckmjgpkjmaa
open Go.RowKit

set_option maxRecDepth 100000 in
set_option maxHeartbeats 400000 in
theorem FnExactCellAt_law (w : World) (v : Value) (l : List Ev) (i cell : Int) (h : RdL FEv w w.heap.size v l) :
    Calls Try.prog 3 #[v, .int .i64 i, .int .i64 cell] w fun e w' => e = .returned (.bool true) ∧ Below w.heap.size w w' := by
  obtain ⟨A, c, hv, q1, q2, _⟩ := id h
  have hlt0 : l.length ≤ 9223372036854775807 := by unfold maxLen at q2; omega
  subst hv
  clear q1 q2
  by_cases hs : l.length ≤ 1048576
  case neg =>
    have HL := Hid.mk_ (leftOf_neg hs)
    go_enter Try.func3, Try.ntmps3
    go_wp2_with (go_at_call 9; refine (szEvS_ct _ A l.length c 1048576 hlt0 (by decide)).mono ?_; rw [HL.out]; rintro e w1 ⟨rfl, hb1⟩)
    go_ret
    exact ⟨rfl, hb1⟩
  have HL := Hid.mk_ (leftOf_pos hs)
  have ks := fun (W : World) (u : Value) (hr : RdL FEv W W.heap.size u l) => CellAt_spec W u l i cell hr
  have ki := fun (W : World) (u : Value) (hr : RdL FEv W W.heap.size u l) => CellAt_impl W u l i cell hr
  generalize cellAtP l i cell = o at ks ki
  go_enter Try.func3, Try.ntmps3
  have hB : Below w.heap.size w w := Below.refl _ _
  go_wp2_with fail
  refine (szEvS_ct _ A l.length c 1048576 hlt0 (by decide)).mono ?_
  rw [HL.out]
  rintro e w1 ⟨rfl, hb⟩
  replace hB := hB.trans (hb.mono hB.size)
  have sz := hb.size
  clear hb
  go_wp2_with fail
  refine (toEvS_ct _ _ l (rd_up h hB) hs).mono ?_
  rintro e w2 ⟨rfl, o_t, hb⟩
  replace hB := hB.trans (hb.mono hB.size)
  have sz := hb.size
  clear hb
  go_wp2_with fail
  refine (ks _ _ o_t.rd').mono ?_
  rintro e w3 ⟨rfl, hb⟩
  have o_t := o_t.step0 hb
  replace hB := hB.trans (hb.mono hB.size)
  have sz := hb.size
  clear hb
  go_wp2_with fail
  refine (toEvS_ct _ _ l (rd_up h (hB.alloc hB.size _)) hs).mono ?_
  rintro e w4 ⟨rfl, o_x, hb⟩
  replace o_t := o_t.step hb
  replace hB := below_step hB hb hB.size
  have sz := hb.size
  simp only [World.size_alloc] at sz
  have B_W := (Box.new w3 #[.int .i64 o.Kind, .int .i64 o.Who, .int .i64 o.Serial, .int .i64 o.Cell, .int .i64 o.Handle, .int .i64 o.Val, .int .i64 o.Code] 25).below hb
  have zz_W := B_W.lt
  clear hb
  have q_W_0 := B_W.cell 0 _ rfl
  have q_W_1 := B_W.cell 1 _ rfl
  have q_W_2 := B_W.cell 2 _ rfl
  have q_W_3 := B_W.cell 3 _ rfl
  have q_W_4 := B_W.cell 4 _ rfl
  have q_W_5 := B_W.cell 5 _ rfl
  have q_W_6 := B_W.cell 6 _ rfl
  have fr_W := B_W.fro
  have z_W := B_W.lt
  simp only [World.size_alloc] at o_x
  go_wp2_with fail
  refine (ki _ _ o_x.rd').mono ?_
  rintro e w5 ⟨rfl, hb⟩
  replace B_W := B_W.below hb
  replace o_t := o_t.step0 hb
  have o_x := o_x.step0 hb
  replace hB := hB.trans (hb.mono hB.size)
  have sz := hb.size
  clear hb
  replace q_W_0 := B_W.cell 0 _ rfl
  replace q_W_1 := B_W.cell 1 _ rfl
  replace q_W_2 := B_W.cell 2 _ rfl
  replace q_W_3 := B_W.cell 3 _ rfl
  replace q_W_4 := B_W.cell 4 _ rfl
  replace q_W_5 := B_W.cell 5 _ rfl
  replace q_W_6 := B_W.cell 6 _ rfl
  replace fr_W := B_W.fro
  replace z_W := B_W.lt
  go_wp2_with fail
  refine (eqEv_ct o.Kind o.Who o.Serial o.Cell o.Handle o.Val o.Code _).mono ?_
  rintro e w6 ⟨rfl, hb⟩
  replace B_W := (B_W.alloc _).below hb
  replace o_t := o_t.step hb
  replace o_x := o_x.step hb
  replace hB := below_step hB hb hB.size
  have sz := hb.size
  simp only [World.size_alloc] at sz
  have B_G := (Box.new w5 #[.int .i64 o.Kind, .int .i64 o.Who, .int .i64 o.Serial, .int .i64 o.Cell, .int .i64 o.Handle, .int .i64 o.Val, .int .i64 o.Code] 25).below hb
  have zz_G := B_G.lt
  clear hb
  replace q_W_0 := B_W.cell 0 _ rfl
  replace q_W_1 := B_W.cell 1 _ rfl
  replace q_W_2 := B_W.cell 2 _ rfl
  replace q_W_3 := B_W.cell 3 _ rfl
  replace q_W_4 := B_W.cell 4 _ rfl
  replace q_W_5 := B_W.cell 5 _ rfl
  replace q_W_6 := B_W.cell 6 _ rfl
  replace fr_W := B_W.fro
  replace z_W := B_W.lt
  have q_G_0 := B_G.cell 0 _ rfl
  have q_G_1 := B_G.cell 1 _ rfl
  have q_G_2 := B_G.cell 2 _ rfl
  have q_G_3 := B_G.cell 3 _ rfl
  have q_G_4 := B_G.cell 4 _ rfl
  have q_G_5 := B_G.cell 5 _ rfl
  have q_G_6 := B_G.cell 6 _ rfl
  have fr_G := B_G.fro
  have z_G := B_G.lt
  go_wp2_with fail
  refine (toEvS_ct _ _ l (rd_up h hB) hs).mono ?_
  rintro e w7 ⟨rfl, o_y, hb⟩
  replace B_W := B_W.below hb
  replace B_G := B_G.below hb
  replace o_t := o_t.step0 hb
  replace o_x := o_x.step0 hb
  replace hB := hB.trans (hb.mono hB.size)
  have sz := hb.size
  clear hb
  replace q_W_0 := B_W.cell 0 _ rfl
  replace q_W_1 := B_W.cell 1 _ rfl
  replace q_W_2 := B_W.cell 2 _ rfl
  replace q_W_3 := B_W.cell 3 _ rfl
  replace q_W_4 := B_W.cell 4 _ rfl
  replace q_W_5 := B_W.cell 5 _ rfl
  replace q_W_6 := B_W.cell 6 _ rfl
  replace fr_W := B_W.fro
  replace z_W := B_W.lt
  replace q_G_0 := B_G.cell 0 _ rfl
  replace q_G_1 := B_G.cell 1 _ rfl
  replace q_G_2 := B_G.cell 2 _ rfl
  replace q_G_3 := B_G.cell 3 _ rfl
  replace q_G_4 := B_G.cell 4 _ rfl
  replace q_G_5 := B_G.cell 5 _ rfl
  replace q_G_6 := B_G.cell 6 _ rfl
  replace fr_G := B_G.fro
  replace z_G := B_G.lt
  go_wp2_with fail
  refine (eqEvS_ct _ _ _ l o_x.rd' o_y.rd' (by omega)).mono ?_
  rintro e w8 ⟨rfl, hb⟩
  replace B_W := B_W.below hb
  replace B_G := B_G.below hb
  replace o_t := o_t.step0 hb
  replace o_x := o_x.step0 hb
  have o_y := o_y.step0 hb
  replace hB := hB.trans (hb.mono hB.size)
  have sz := hb.size
  clear hb
  replace q_W_0 := B_W.cell 0 _ rfl
  replace q_W_1 := B_W.cell 1 _ rfl
  replace q_W_2 := B_W.cell 2 _ rfl
  replace q_W_3 := B_W.cell 3 _ rfl
  replace q_W_4 := B_W.cell 4 _ rfl
  replace q_W_5 := B_W.cell 5 _ rfl
  replace q_W_6 := B_W.cell 6 _ rfl
  replace fr_W := B_W.fro
  replace z_W := B_W.lt
  replace q_G_0 := B_G.cell 0 _ rfl
  replace q_G_1 := B_G.cell 1 _ rfl
  replace q_G_2 := B_G.cell 2 _ rfl
  replace q_G_3 := B_G.cell 3 _ rfl
  replace q_G_4 := B_G.cell 4 _ rfl
  replace q_G_5 := B_G.cell 5 _ rfl
  replace q_G_6 := B_G.cell 6 _ rfl
  replace fr_G := B_G.fro
  replace z_G := B_G.lt
  go_wp2_with fail
  go_ret
  exact ⟨rfl, hB⟩
end Go.Proofs.Ytdepckmjgpkjmaa
