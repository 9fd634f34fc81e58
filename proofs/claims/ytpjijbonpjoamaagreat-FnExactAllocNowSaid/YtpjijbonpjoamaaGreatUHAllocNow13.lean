/-
  Several texts in one: lemmas and contracts that the claim rests on.
-/
import Derived.Test.YtpjijbonpjoamaaGreatUHAllocNow1
import Derived.Deep.QuietTactic
import Derived.BigQuiet
import Derived.Deep.LoopGhost
import Derived.Deep.RegionHeld3
import Derived.WalkSpells
import Derived.Laws.Cover3
import Derived.Test.YtpjijbonpjoamaaGreatUHAllocNow12
import Derived.Test.YtpjijbonpjoamaaGreatUHAllocNow10
import Derived.Test.YtpjijbonpjoamaaGreatUHAllocNow11
/-
  AllocNow from a row of its own, the reference: the contract.
-/
namespace Go.Proofs.YtpjijbonpjoamaaGreat
open Go.RowKit

set_option maxRecDepth 100000 in
set_option maxHeartbeats 8000000 in
theorem AllocNow_spec_own (w : World) (H : HMem) (x : Mem) (wk c : Nat) (n : Int) (l : List Int) (s : Int) (h : RdMem w w.heap.size H x) (hs : sizeMem x ≤ 536870912) (c1 : memOkB x = true) (hw : wk < 3) (c3 : classOfS n = (c : Int)) (hc : c < 3) (hrow : x.Lists.Own[wk * 3 + c]? = some (l ++ [s])) :
    Calls Tryz.prog 15 #[.agg #[.slice H.Heap.Bytes.a H.Heap.Bytes.len H.Heap.Bytes.cap, .slice H.Heap.Class.a H.Heap.Class.len H.Heap.Class.cap, .slice H.Lists.Global.a H.Lists.Global.len H.Lists.Global.cap, .slice H.Lists.Own.a H.Lists.Own.len H.Lists.Own.cap], .int .i64 wk, .int .i64 n] w fun e w' => ∃ H' : HMem, e = .returned (.tuple #[.agg #[.slice H'.Heap.Bytes.a H'.Heap.Bytes.len H'.Heap.Bytes.cap, .slice H'.Heap.Class.a H'.Heap.Class.len H'.Heap.Class.cap, .slice H'.Lists.Global.a H'.Lists.Global.len H'.Lists.Global.cap, .slice H'.Lists.Own.a H'.Lists.Own.len H'.Lists.Own.cap], .int .i64 (genInB x.Heap s * 32 + s), .int .i64 0]) ∧ OwMem w' H' { x with Lists := { x.Lists with Own := x.Lists.Own.set (wk * 3 + c) l } } ∧ (∀ g ∈ H'.foot, w.heap.size ≤ g) ∧ Below w.heap.size w w' := by
  have hcl : inB 0 2 (c : Int) = true := inB_iff.2 ⟨by omega, by omega⟩
  have c2 : inB 0 2 (wk : Int) = true := inB_iff.2 ⟨by omega, by omega⟩
  have hfit := own_fits c1 (by omega) hrow (List.mem_append_right l (List.mem_singleton.2 rfl))
  rw [show (wk * 3 + c) % 3 = c by omega] at hfit
  obtain ⟨f1, f2, f3⟩ := fit_facts (mem_heap c1) hfit hcl
  have hsh := mem_shape c1
  have hs0 : 0 ≤ s := (inB_iff.1 f1).1
  have hsh2 : sizeHeap x.Heap ≤ 536870912 ∧ sizeLists x.Lists ≤ 536870912 := by unfold sizeMem at hs; omega
  have hcp := fun (W : World) (hW : Below w.heap.size w W) => l9Copy_spec W H x (rdMem_up h hW) hs
  have hmo := fun (W : World) (hW : Below w.heap.size w W) => MemOk_spec W H x (rdMem_up h hW) (by unfold sizeMem sizeLists at hs; omega) (by unfold sizeMem sizeLists at hs; omega)
  have hto := fun (W : World) (K : HLists) (hK : RdLists W W.heap.size K x.Lists) => TakeOwn_spec_yes W K x.Lists wk c l s hK hsh2.2 (mem_lists c1) hw hc hrow
  have k1 : ¬ classInB x.Heap s < 0 := by rw [f2]; omega
  rw [c1] at hmo
  have hco := fun W => ClassOf_spec n W
  rw [c3] at hco
  clear c3 hfit f2 hrow c1 hsh2 hs
  have B_a : Box ((w.alloc (.cells #[.slice H.Heap.Bytes.a H.Heap.Bytes.len H.Heap.Bytes.cap, .slice H.Heap.Class.a H.Heap.Class.len H.Heap.Class.cap, .slice H.Lists.Global.a H.Lists.Global.len H.Lists.Global.cap, .slice H.Lists.Own.a H.Lists.Own.len H.Lists.Own.cap] 36)).alloc (.cells #[.slice none 0 0, .slice none 0 0, .slice none 0 0, .slice none 0 0] 36)) (w.heap.size) [.slice H.Heap.Bytes.a H.Heap.Bytes.len H.Heap.Bytes.cap, .slice H.Heap.Class.a H.Heap.Class.len H.Heap.Class.cap, .slice H.Lists.Global.a H.Lists.Global.len H.Lists.Global.cap, .slice H.Lists.Own.a H.Lists.Own.len H.Lists.Own.cap] := by
    have hbx := Box.new w #[.slice H.Heap.Bytes.a H.Heap.Bytes.len H.Heap.Bytes.cap, .slice H.Heap.Class.a H.Heap.Class.len H.Heap.Class.cap, .slice H.Lists.Global.a H.Lists.Global.len H.Lists.Global.cap, .slice H.Lists.Own.a H.Lists.Own.len H.Lists.Own.cap] 36
    exact (hbx).alloc _
  have B_r : Box ((w.alloc (.cells #[.slice H.Heap.Bytes.a H.Heap.Bytes.len H.Heap.Bytes.cap, .slice H.Heap.Class.a H.Heap.Class.len H.Heap.Class.cap, .slice H.Lists.Global.a H.Lists.Global.len H.Lists.Global.cap, .slice H.Lists.Own.a H.Lists.Own.len H.Lists.Own.cap] 36)).alloc (.cells #[.slice none 0 0, .slice none 0 0, .slice none 0 0, .slice none 0 0] 36)) (w.heap.size + 1) [.slice none 0 0, .slice none 0 0, .slice none 0 0, .slice none 0 0] := by
    have hbx := Box.new (w.alloc (.cells #[.slice H.Heap.Bytes.a H.Heap.Bytes.len H.Heap.Bytes.cap, .slice H.Heap.Class.a H.Heap.Class.len H.Heap.Class.cap, .slice H.Lists.Global.a H.Lists.Global.len H.Lists.Global.cap, .slice H.Lists.Own.a H.Lists.Own.len H.Lists.Own.cap] 36)) #[.slice none 0 0, .slice none 0 0, .slice none 0 0, .slice none 0 0] 36
    simp only [World.size_alloc] at hbx
    exact hbx
  have hB : Below w.heap.size w ((w.alloc (.cells #[.slice H.Heap.Bytes.a H.Heap.Bytes.len H.Heap.Bytes.cap, .slice H.Heap.Class.a H.Heap.Class.len H.Heap.Class.cap, .slice H.Lists.Global.a H.Lists.Global.len H.Lists.Global.cap, .slice H.Lists.Own.a H.Lists.Own.len H.Lists.Own.cap] 36)).alloc (.cells #[.slice none 0 0, .slice none 0 0, .slice none 0 0, .slice none 0 0] 36)) := by repeat (first | exact Below.refl _ _ | refine Below.alloc ?_ (by simp <;> omega) _ | refine below_grow_of ?_ (by simp <;> omega) _ _ | refine Below.drew ?_ | refine below_drewN ?_ _)
  go_enter Tryz.func15, Tryz.ntmps15
  go_wp2_with fail
  generalize hW0 : ((w.alloc (.cells #[.slice H.Heap.Bytes.a H.Heap.Bytes.len H.Heap.Bytes.cap, .slice H.Heap.Class.a H.Heap.Class.len H.Heap.Class.cap, .slice H.Lists.Global.a H.Lists.Global.len H.Lists.Global.cap, .slice H.Lists.Own.a H.Lists.Own.len H.Lists.Own.cap] 36)).alloc (.cells #[.slice none 0 0, .slice none 0 0, .slice none 0 0, .slice none 0 0] 36)) = w0 at B_a B_r hB ⊢
  clear hW0
  have zz_a := B_a.lt
  have zz_r := B_r.lt
  have q_a_0 := B_a.cell 0 _ rfl
  have q_a_1 := B_a.cell 1 _ rfl
  have q_a_2 := B_a.cell 2 _ rfl
  have q_a_3 := B_a.cell 3 _ rfl
  have fr_a := B_a.fro
  have z_a := B_a.lt
  have q_r_0 := B_r.cell 0 _ rfl
  have q_r_1 := B_r.cell 1 _ rfl
  have q_r_2 := B_r.cell 2 _ rfl
  have q_r_3 := B_r.cell 3 _ rfl
  have fr_r := B_r.fro
  have z_r := B_r.lt
  refine (hcp _ hB).mono ?_
  rintro e w1 ⟨K_c, rfl, o_c, l_c, hb⟩
  have u_c := o_c.lt
  replace B_a := B_a.below hb
  replace B_r := B_r.below hb
  replace hB := hB.trans (hb.mono hB.size)
  have sz := hb.size
  clear hb
  replace q_a_0 := B_a.cell 0 _ rfl
  replace q_a_1 := B_a.cell 1 _ rfl
  replace q_a_2 := B_a.cell 2 _ rfl
  replace q_a_3 := B_a.cell 3 _ rfl
  replace fr_a := B_a.fro
  replace z_a := B_a.lt
  replace q_r_0 := B_r.cell 0 _ rfl
  replace q_r_1 := B_r.cell 1 _ rfl
  replace q_r_2 := B_r.cell 2 _ rfl
  replace q_r_3 := B_r.cell 3 _ rfl
  replace fr_r := B_r.fro
  replace z_r := B_r.lt
  clear hcp
  go_wp2_with (go_at_call 45; refine (hco _).mono ?_; rintro e wv ⟨rfl, rfl⟩)
  replace B_a := B_a.alloc (.cells #[.slice K_c.Heap.Bytes.a K_c.Heap.Bytes.len K_c.Heap.Bytes.cap, .slice K_c.Heap.Class.a K_c.Heap.Class.len K_c.Heap.Class.cap, .slice K_c.Lists.Global.a K_c.Lists.Global.len K_c.Lists.Global.cap, .slice K_c.Lists.Own.a K_c.Lists.Own.len K_c.Lists.Own.cap] 36)
  replace B_r := B_r.alloc (.cells #[.slice K_c.Heap.Bytes.a K_c.Heap.Bytes.len K_c.Heap.Bytes.cap, .slice K_c.Heap.Class.a K_c.Heap.Class.len K_c.Heap.Class.cap, .slice K_c.Lists.Global.a K_c.Lists.Global.len K_c.Lists.Global.cap, .slice K_c.Lists.Own.a K_c.Lists.Own.len K_c.Lists.Own.cap] 36)
  replace o_c := o_c.alloc_ (.cells #[.slice K_c.Heap.Bytes.a K_c.Heap.Bytes.len K_c.Heap.Bytes.cap, .slice K_c.Heap.Class.a K_c.Heap.Class.len K_c.Heap.Class.cap, .slice K_c.Lists.Global.a K_c.Lists.Global.len K_c.Lists.Global.cap, .slice K_c.Lists.Own.a K_c.Lists.Own.len K_c.Lists.Own.cap] 36)
  replace hB := hB.alloc hB.size (.cells #[.slice K_c.Heap.Bytes.a K_c.Heap.Bytes.len K_c.Heap.Bytes.cap, .slice K_c.Heap.Class.a K_c.Heap.Class.len K_c.Heap.Class.cap, .slice K_c.Lists.Global.a K_c.Lists.Global.len K_c.Lists.Global.cap, .slice K_c.Lists.Own.a K_c.Lists.Own.len K_c.Lists.Own.cap] 36)
  have B_o : Box (w1.alloc (.cells #[.slice K_c.Heap.Bytes.a K_c.Heap.Bytes.len K_c.Heap.Bytes.cap, .slice K_c.Heap.Class.a K_c.Heap.Class.len K_c.Heap.Class.cap, .slice K_c.Lists.Global.a K_c.Lists.Global.len K_c.Lists.Global.cap, .slice K_c.Lists.Own.a K_c.Lists.Own.len K_c.Lists.Own.cap] 36)) w1.heap.size [.slice K_c.Heap.Bytes.a K_c.Heap.Bytes.len K_c.Heap.Bytes.cap, .slice K_c.Heap.Class.a K_c.Heap.Class.len K_c.Heap.Class.cap, .slice K_c.Lists.Global.a K_c.Lists.Global.len K_c.Lists.Global.cap, .slice K_c.Lists.Own.a K_c.Lists.Own.len K_c.Lists.Own.cap] := Box.new w1 #[.slice K_c.Heap.Bytes.a K_c.Heap.Bytes.len K_c.Heap.Bytes.cap, .slice K_c.Heap.Class.a K_c.Heap.Class.len K_c.Heap.Class.cap, .slice K_c.Lists.Global.a K_c.Lists.Global.len K_c.Lists.Global.cap, .slice K_c.Lists.Own.a K_c.Lists.Own.len K_c.Lists.Own.cap] 36
  have zz_o := B_o.lt
  have sz : w1.heap.size ≤ (w1.alloc (.cells #[.slice K_c.Heap.Bytes.a K_c.Heap.Bytes.len K_c.Heap.Bytes.cap, .slice K_c.Heap.Class.a K_c.Heap.Class.len K_c.Heap.Class.cap, .slice K_c.Lists.Global.a K_c.Lists.Global.len K_c.Lists.Global.cap, .slice K_c.Lists.Own.a K_c.Lists.Own.len K_c.Lists.Own.cap] 36)).heap.size := Nat.le_of_lt B_o.lt
  generalize hG : (w1.alloc (.cells #[.slice K_c.Heap.Bytes.a K_c.Heap.Bytes.len K_c.Heap.Bytes.cap, .slice K_c.Heap.Class.a K_c.Heap.Class.len K_c.Heap.Class.cap, .slice K_c.Lists.Global.a K_c.Lists.Global.len K_c.Lists.Global.cap, .slice K_c.Lists.Own.a K_c.Lists.Own.len K_c.Lists.Own.cap] 36)) = w2 at B_a B_r o_c hB B_o zz_o sz ⊢
  clear hG
  replace q_a_0 := B_a.cell 0 _ rfl
  replace q_a_1 := B_a.cell 1 _ rfl
  replace q_a_2 := B_a.cell 2 _ rfl
  replace q_a_3 := B_a.cell 3 _ rfl
  replace fr_a := B_a.fro
  replace z_a := B_a.lt
  replace q_r_0 := B_r.cell 0 _ rfl
  replace q_r_1 := B_r.cell 1 _ rfl
  replace q_r_2 := B_r.cell 2 _ rfl
  replace q_r_3 := B_r.cell 3 _ rfl
  replace fr_r := B_r.fro
  replace z_r := B_r.lt
  have q_o_0 := B_o.cell 0 _ rfl
  have q_o_1 := B_o.cell 1 _ rfl
  have q_o_2 := B_o.cell 2 _ rfl
  have q_o_3 := B_o.cell 3 _ rfl
  have fr_o := B_o.fro
  have z_o := B_o.lt
  refine (hmo _ hB).mono ?_
  rintro e w3 ⟨rfl, hb⟩
  replace B_a := B_a.below hb
  replace B_r := B_r.below hb
  replace B_o := B_o.below hb
  have o_c := o_c.step0 hb
  replace hB := hB.trans (hb.mono hB.size)
  have sz := hb.size
  clear hb
  replace q_a_0 := B_a.cell 0 _ rfl
  replace q_a_1 := B_a.cell 1 _ rfl
  replace q_a_2 := B_a.cell 2 _ rfl
  replace q_a_3 := B_a.cell 3 _ rfl
  replace fr_a := B_a.fro
  replace z_a := B_a.lt
  replace q_r_0 := B_r.cell 0 _ rfl
  replace q_r_1 := B_r.cell 1 _ rfl
  replace q_r_2 := B_r.cell 2 _ rfl
  replace q_r_3 := B_r.cell 3 _ rfl
  replace fr_r := B_r.fro
  replace z_r := B_r.lt
  replace q_o_0 := B_o.cell 0 _ rfl
  replace q_o_1 := B_o.cell 1 _ rfl
  replace q_o_2 := B_o.cell 2 _ rfl
  replace q_o_3 := B_o.cell 3 _ rfl
  replace fr_o := B_o.fro
  replace z_o := B_o.lt
  clear hmo
  go_wp2_with (go_at_call 21; refine (l1In_ct _ _ _ _).mono ?_; rw [c2]; rintro e wv ⟨rfl, rfl⟩)
  refine (hto _ K_c.Lists o_c.Lists.rd').mono ?_
  rintro e w4 ⟨K_t, rfl, o_t, l_t, hb⟩
  have u_t := o_t.lt
  replace B_a := B_a.below hb
  replace B_r := B_r.below hb
  replace B_o := B_o.below hb
  replace o_c := o_c.step0 hb
  replace hB := hB.trans (hb.mono hB.size)
  have sz := hb.size
  clear hb
  replace q_a_0 := B_a.cell 0 _ rfl
  replace q_a_1 := B_a.cell 1 _ rfl
  replace q_a_2 := B_a.cell 2 _ rfl
  replace q_a_3 := B_a.cell 3 _ rfl
  replace fr_a := B_a.fro
  replace z_a := B_a.lt
  replace q_r_0 := B_r.cell 0 _ rfl
  replace q_r_1 := B_r.cell 1 _ rfl
  replace q_r_2 := B_r.cell 2 _ rfl
  replace q_r_3 := B_r.cell 3 _ rfl
  replace fr_r := B_r.fro
  replace z_r := B_r.lt
  replace q_o_0 := B_o.cell 0 _ rfl
  replace q_o_1 := B_o.cell 1 _ rfl
  replace q_o_2 := B_o.cell 2 _ rfl
  replace q_o_3 := B_o.cell 3 _ rfl
  replace fr_o := B_o.fro
  replace z_o := B_o.lt
  clear hto
  go_upto_region 10 with (fail)
  replace B_a := B_a.alloc (.cells #[.slice K_t.Global.a K_t.Global.len K_t.Global.cap, .slice K_t.Own.a K_t.Own.len K_t.Own.cap] 34)
  replace B_r := B_r.alloc (.cells #[.slice K_t.Global.a K_t.Global.len K_t.Global.cap, .slice K_t.Own.a K_t.Own.len K_t.Own.cap] 34)
  replace B_o := B_o.alloc (.cells #[.slice K_t.Global.a K_t.Global.len K_t.Global.cap, .slice K_t.Own.a K_t.Own.len K_t.Own.cap] 34)
  replace o_c := o_c.alloc_ (.cells #[.slice K_t.Global.a K_t.Global.len K_t.Global.cap, .slice K_t.Own.a K_t.Own.len K_t.Own.cap] 34)
  replace o_t := o_t.alloc_ (.cells #[.slice K_t.Global.a K_t.Global.len K_t.Global.cap, .slice K_t.Own.a K_t.Own.len K_t.Own.cap] 34)
  replace hB := hB.alloc hB.size (.cells #[.slice K_t.Global.a K_t.Global.len K_t.Global.cap, .slice K_t.Own.a K_t.Own.len K_t.Own.cap] 34)
  have B_p : Box (w4.alloc (.cells #[.slice K_t.Global.a K_t.Global.len K_t.Global.cap, .slice K_t.Own.a K_t.Own.len K_t.Own.cap] 34)) w4.heap.size [.slice K_t.Global.a K_t.Global.len K_t.Global.cap, .slice K_t.Own.a K_t.Own.len K_t.Own.cap] := Box.new w4 #[.slice K_t.Global.a K_t.Global.len K_t.Global.cap, .slice K_t.Own.a K_t.Own.len K_t.Own.cap] 34
  have zz_p := B_p.lt
  have sz : w4.heap.size ≤ (w4.alloc (.cells #[.slice K_t.Global.a K_t.Global.len K_t.Global.cap, .slice K_t.Own.a K_t.Own.len K_t.Own.cap] 34)).heap.size := Nat.le_of_lt B_p.lt
  generalize hG : (w4.alloc (.cells #[.slice K_t.Global.a K_t.Global.len K_t.Global.cap, .slice K_t.Own.a K_t.Own.len K_t.Own.cap] 34)) = w5 at B_a B_r B_o o_c o_t hB B_p zz_p sz ⊢
  clear hG
  replace q_a_0 := B_a.cell 0 _ rfl
  replace q_a_1 := B_a.cell 1 _ rfl
  replace q_a_2 := B_a.cell 2 _ rfl
  replace q_a_3 := B_a.cell 3 _ rfl
  replace fr_a := B_a.fro
  replace z_a := B_a.lt
  replace q_r_0 := B_r.cell 0 _ rfl
  replace q_r_1 := B_r.cell 1 _ rfl
  replace q_r_2 := B_r.cell 2 _ rfl
  replace q_r_3 := B_r.cell 3 _ rfl
  replace fr_r := B_r.fro
  replace z_r := B_r.lt
  replace q_o_0 := B_o.cell 0 _ rfl
  replace q_o_1 := B_o.cell 1 _ rfl
  replace q_o_2 := B_o.cell 2 _ rfl
  replace q_o_3 := B_o.cell 3 _ rfl
  replace fr_o := B_o.fro
  replace z_o := B_o.lt
  have q_p_0 := B_p.cell 0 _ rfl
  have q_p_1 := B_p.cell 1 _ rfl
  have fr_p := B_p.fro
  have z_p := B_p.lt
  go_upto_region 15 with (fail)
  replace B_a : Box ((w5.setCell ⟨w1.heap.size, 2, none⟩ (.slice K_t.Global.a K_t.Global.len K_t.Global.cap)).setCell ⟨w1.heap.size, 3, none⟩ (.slice K_t.Own.a K_t.Own.len K_t.Own.cap)) (w.heap.size) [.slice H.Heap.Bytes.a H.Heap.Bytes.len H.Heap.Bytes.cap, .slice H.Heap.Class.a H.Heap.Class.len H.Heap.Class.cap, .slice H.Lists.Global.a H.Lists.Global.len H.Lists.Global.cap, .slice H.Lists.Own.a H.Lists.Own.len H.Lists.Own.cap] := ((B_a.other (by omega) _).other (by omega) _)
  replace B_r : Box ((w5.setCell ⟨w1.heap.size, 2, none⟩ (.slice K_t.Global.a K_t.Global.len K_t.Global.cap)).setCell ⟨w1.heap.size, 3, none⟩ (.slice K_t.Own.a K_t.Own.len K_t.Own.cap)) (w.heap.size + 1) [.slice none 0 0, .slice none 0 0, .slice none 0 0, .slice none 0 0] := ((B_r.other (by omega) _).other (by omega) _)
  replace B_o : Box ((w5.setCell ⟨w1.heap.size, 2, none⟩ (.slice K_t.Global.a K_t.Global.len K_t.Global.cap)).setCell ⟨w1.heap.size, 3, none⟩ (.slice K_t.Own.a K_t.Own.len K_t.Own.cap)) (w1.heap.size) [.slice K_c.Heap.Bytes.a K_c.Heap.Bytes.len K_c.Heap.Bytes.cap, .slice K_c.Heap.Class.a K_c.Heap.Class.len K_c.Heap.Class.cap, .slice K_t.Global.a K_t.Global.len K_t.Global.cap, .slice K_t.Own.a K_t.Own.len K_t.Own.cap] := ((B_o.set 2 (.slice K_t.Global.a K_t.Global.len K_t.Global.cap)).set 3 (.slice K_t.Own.a K_t.Own.len K_t.Own.cap))
  replace B_p : Box ((w5.setCell ⟨w1.heap.size, 2, none⟩ (.slice K_t.Global.a K_t.Global.len K_t.Global.cap)).setCell ⟨w1.heap.size, 3, none⟩ (.slice K_t.Own.a K_t.Own.len K_t.Own.cap)) (w4.heap.size) [.slice K_t.Global.a K_t.Global.len K_t.Global.cap, .slice K_t.Own.a K_t.Own.len K_t.Own.cap] := ((B_p.other (by omega) _).other (by omega) _)
  replace o_c := o_c.chg (F := [w1.heap.size]) (w' := ((w5.setCell ⟨w1.heap.size, 2, none⟩ (.slice K_t.Global.a K_t.Global.len K_t.Global.cap)).setCell ⟨w1.heap.size, 3, none⟩ (.slice K_t.Own.a K_t.Own.len K_t.Own.cap))) (by repeat (first | with_reducible exact Chg.refl _ _ | with_reducible refine Chg.set_ ?_ (by simp) _ | with_reducible refine Chg.alloc_ ?_ _ | with_reducible refine Chg.drew_ ?_)) (fun g hg hm => by simp only [List.mem_cons, List.not_mem_nil, or_false] at hm; have := l_c g hg; have := u_c g hg; omega)
  replace o_t := o_t.chg (F := [w1.heap.size]) (w' := ((w5.setCell ⟨w1.heap.size, 2, none⟩ (.slice K_t.Global.a K_t.Global.len K_t.Global.cap)).setCell ⟨w1.heap.size, 3, none⟩ (.slice K_t.Own.a K_t.Own.len K_t.Own.cap))) (by repeat (first | with_reducible exact Chg.refl _ _ | with_reducible refine Chg.set_ ?_ (by simp) _ | with_reducible refine Chg.alloc_ ?_ _ | with_reducible refine Chg.drew_ ?_)) (fun g hg hm => by simp only [List.mem_cons, List.not_mem_nil, or_false] at hm; have := l_t g hg; have := u_t g hg; omega)
  replace hB : Below w.heap.size w ((w5.setCell ⟨w1.heap.size, 2, none⟩ (.slice K_t.Global.a K_t.Global.len K_t.Global.cap)).setCell ⟨w1.heap.size, 3, none⟩ (.slice K_t.Own.a K_t.Own.len K_t.Own.cap)) := Below.trans hB (by repeat (first | with_reducible exact Below.refl _ _ | with_reducible refine Below.setCell ?_ (by simp <;> omega) _ | with_reducible refine Below.alloc ?_ (by simp <;> omega) _ | with_reducible refine Below.drew ?_))
  have sz : w5.heap.size ≤ ((w5.setCell ⟨w1.heap.size, 2, none⟩ (.slice K_t.Global.a K_t.Global.len K_t.Global.cap)).setCell ⟨w1.heap.size, 3, none⟩ (.slice K_t.Own.a K_t.Own.len K_t.Own.cap)).heap.size := by simp
  generalize hG : ((w5.setCell ⟨w1.heap.size, 2, none⟩ (.slice K_t.Global.a K_t.Global.len K_t.Global.cap)).setCell ⟨w1.heap.size, 3, none⟩ (.slice K_t.Own.a K_t.Own.len K_t.Own.cap)) = w6 at B_a B_r B_o B_p o_c o_t hB sz ⊢
  clear hG
  replace q_a_0 := B_a.cell 0 _ rfl
  replace q_a_1 := B_a.cell 1 _ rfl
  replace q_a_2 := B_a.cell 2 _ rfl
  replace q_a_3 := B_a.cell 3 _ rfl
  replace fr_a := B_a.fro
  replace z_a := B_a.lt
  replace q_r_0 := B_r.cell 0 _ rfl
  replace q_r_1 := B_r.cell 1 _ rfl
  replace q_r_2 := B_r.cell 2 _ rfl
  replace q_r_3 := B_r.cell 3 _ rfl
  replace fr_r := B_r.fro
  replace z_r := B_r.lt
  replace q_o_0 := B_o.cell 0 _ rfl
  replace q_o_1 := B_o.cell 1 _ rfl
  replace q_o_2 := B_o.cell 2 _ rfl
  replace q_o_3 := B_o.cell 3 _ rfl
  replace fr_o := B_o.fro
  replace z_o := B_o.lt
  replace q_p_0 := B_p.cell 0 _ rfl
  replace q_p_1 := B_p.cell 1 _ rfl
  replace fr_p := B_p.fro
  replace z_p := B_p.lt
  have hhi := fun (W : World) (hW : Below w6.heap.size w6 W) => handleIn_spec W ⟨K_c.Heap, K_t⟩ x x.Heap s (rdHeap_up o_c.Heap.rd' hW) hsh f1 f3 (Int.not_lt.2 k1)
  go_region_with (first | (go_at_call 49; (first | ((with_reducible refine (hhi _ (Below.refl _ _)).mono ?_); rintro e wq ⟨rfl, hb⟩; replace B_a := B_a.below hb; replace B_r := B_r.below hb; replace B_o := B_o.below hb; replace B_p := B_p.below hb; replace o_c := o_c.step0 hb; replace o_t := o_t.step0 hb; replace hB := hB.trans (hb.mono hB.size); have sz := hb.size; clear hb; replace q_a_0 := B_a.cell 0 _ rfl; replace q_a_1 := B_a.cell 1 _ rfl; replace q_a_2 := B_a.cell 2 _ rfl; replace q_a_3 := B_a.cell 3 _ rfl; replace fr_a := B_a.fro; replace z_a := B_a.lt; replace q_r_0 := B_r.cell 0 _ rfl; replace q_r_1 := B_r.cell 1 _ rfl; replace q_r_2 := B_r.cell 2 _ rfl; replace q_r_3 := B_r.cell 3 _ rfl; replace fr_r := B_r.fro; replace z_r := B_r.lt; replace q_o_0 := B_o.cell 0 _ rfl; replace q_o_1 := B_o.cell 1 _ rfl; replace q_o_2 := B_o.cell 2 _ rfl; replace q_o_3 := B_o.cell 3 _ rfl; replace fr_o := B_o.fro; replace z_o := B_o.lt; replace q_p_0 := B_p.cell 0 _ rfl; replace q_p_1 := B_p.cell 1 _ rfl; replace fr_p := B_p.fro; replace z_p := B_p.lt) | ((with_reducible refine (hhi _ (Below.refl _ _).drew).mono ?_); rintro e wq ⟨rfl, hb⟩; replace hb := undrew hb; replace B_a := B_a.below hb; replace B_r := B_r.below hb; replace B_o := B_o.below hb; replace B_p := B_p.below hb; replace o_c := o_c.step0 hb; replace o_t := o_t.step0 hb; replace hB := hB.trans (hb.mono hB.size); have sz := hb.size; clear hb; replace q_a_0 := B_a.cell 0 _ rfl; replace q_a_1 := B_a.cell 1 _ rfl; replace q_a_2 := B_a.cell 2 _ rfl; replace q_a_3 := B_a.cell 3 _ rfl; replace fr_a := B_a.fro; replace z_a := B_a.lt; replace q_r_0 := B_r.cell 0 _ rfl; replace q_r_1 := B_r.cell 1 _ rfl; replace q_r_2 := B_r.cell 2 _ rfl; replace q_r_3 := B_r.cell 3 _ rfl; replace fr_r := B_r.fro; replace z_r := B_r.lt; replace q_o_0 := B_o.cell 0 _ rfl; replace q_o_1 := B_o.cell 1 _ rfl; replace q_o_2 := B_o.cell 2 _ rfl; replace q_o_3 := B_o.cell 3 _ rfl; replace fr_o := B_o.fro; replace z_o := B_o.lt; replace q_p_0 := B_p.cell 0 _ rfl; replace q_p_1 := B_p.cell 1 _ rfl; replace fr_p := B_p.fro; replace z_p := B_p.lt))))
  all_goals
    go_wp2_with fail
    refine bodyPost_ret (v := .tuple #[.agg #[.slice K_c.Heap.Bytes.a K_c.Heap.Bytes.len K_c.Heap.Bytes.cap, .slice K_c.Heap.Class.a K_c.Heap.Class.len K_c.Heap.Class.cap, .slice K_t.Global.a K_t.Global.len K_t.Global.cap, .slice K_t.Own.a K_t.Own.len K_t.Own.cap], .int .i64 (genInB x.Heap s * 32 + s), .int .i64 0]) (by simp [results, Tryz.results15, go_sem, q_r_0, q_r_1, q_r_2, q_r_3]) rfl ⟨⟨K_c.Heap, K_t⟩, rfl, ⟨(o_c.chg (F := [w.heap.size + 1]) (by repeat (first | with_reducible exact Chg.refl _ _ | with_reducible refine Chg.set_ ?_ (by simp) _ | with_reducible refine Chg.alloc_ ?_ _ | with_reducible refine Chg.drew_ ?_)) (fun g hg hm => by simp only [List.mem_cons, List.not_mem_nil, or_false] at hm; have := l_c g hg; have := u_c g hg; omega)).Heap, o_t.chg (F := [w.heap.size + 1]) (by repeat (first | with_reducible exact Chg.refl _ _ | with_reducible refine Chg.set_ ?_ (by simp) _ | with_reducible refine Chg.alloc_ ?_ _ | with_reducible refine Chg.drew_ ?_)) (fun g hg hm => by simp only [List.mem_cons, List.not_mem_nil, or_false] at hm; have := l_t g hg; have := u_t g hg; omega), fun b hb hm => by have := u_c b (HMem.mem_foot.2 (.inl hb)); have := l_t b hm; omega⟩, fun b hb => by rcases HMem.mem_foot.1 hb with hb | hb; (have := l_c b (HMem.mem_foot.2 (.inl hb)); omega); (have := l_t b hb; omega), Below.trans hB (by repeat (first | with_reducible exact Below.refl _ _ | with_reducible refine Below.setCell ?_ (by simp <;> omega) _ | with_reducible refine Below.alloc ?_ (by simp <;> omega) _ | with_reducible refine Below.drew ?_))⟩
end Go.Proofs.YtpjijbonpjoamaaGreat

/-
  AllocNow from a row of all, the reference: the contract.
-/
namespace Go.Proofs.YtpjijbonpjoamaaGreat
open Go.RowKit

set_option maxRecDepth 100000 in
set_option maxHeartbeats 8000000 in
theorem AllocNow_spec_global (w : World) (H : HMem) (x : Mem) (wk c : Nat) (n : Int) (l : List Int) (s : Int) (h : RdMem w w.heap.size H x) (hs : sizeMem x ≤ 536870912) (c1 : memOkB x = true) (hw : wk < 3) (c3 : classOfS n = (c : Int)) (hc : c < 3) (hrow0 : x.Lists.Own[wk * 3 + c]? = some []) (hrow : x.Lists.Global[c]? = some (l ++ [s])) :
    Calls Tryz.prog 15 #[.agg #[.slice H.Heap.Bytes.a H.Heap.Bytes.len H.Heap.Bytes.cap, .slice H.Heap.Class.a H.Heap.Class.len H.Heap.Class.cap, .slice H.Lists.Global.a H.Lists.Global.len H.Lists.Global.cap, .slice H.Lists.Own.a H.Lists.Own.len H.Lists.Own.cap], .int .i64 wk, .int .i64 n] w fun e w' => ∃ H' : HMem, e = .returned (.tuple #[.agg #[.slice H'.Heap.Bytes.a H'.Heap.Bytes.len H'.Heap.Bytes.cap, .slice H'.Heap.Class.a H'.Heap.Class.len H'.Heap.Class.cap, .slice H'.Lists.Global.a H'.Lists.Global.len H'.Lists.Global.cap, .slice H'.Lists.Own.a H'.Lists.Own.len H'.Lists.Own.cap], .int .i64 (genInB x.Heap s * 32 + s), .int .i64 0]) ∧ OwMem w' H' { x with Lists := { x.Lists with Global := x.Lists.Global.set c l } } ∧ (∀ g ∈ H'.foot, w.heap.size ≤ g) ∧ Below w.heap.size w w' := by
  have hcl : inB 0 2 (c : Int) = true := inB_iff.2 ⟨by omega, by omega⟩
  have c2 : inB 0 2 (wk : Int) = true := inB_iff.2 ⟨by omega, by omega⟩
  have hfit := global_fits c1 hc hrow (List.mem_append_right l (List.mem_singleton.2 rfl))
  obtain ⟨f1, f2, f3⟩ := fit_facts (mem_heap c1) hfit hcl
  have hsh := mem_shape c1
  have hs0 : 0 ≤ s := (inB_iff.1 f1).1
  have hsh2 : sizeHeap x.Heap ≤ 536870912 ∧ sizeLists x.Lists ≤ 536870912 := by unfold sizeMem at hs; omega
  have hcp := fun (W : World) (hW : Below w.heap.size w W) => l9Copy_spec W H x (rdMem_up h hW) hs
  have hmo := fun (W : World) (hW : Below w.heap.size w W) => MemOk_spec W H x (rdMem_up h hW) (by unfold sizeMem sizeLists at hs; omega) (by unfold sizeMem sizeLists at hs; omega)
  have k1 : ¬ classInB x.Heap s < 0 := by rw [f2]; omega
  have hto := fun (W : World) (K : HLists) (hK : RdLists W W.heap.size K x.Lists) => TakeOwn_spec_nil W K x.Lists wk c hK hsh2.2 (mem_lists c1) hw hc hrow0
  have htg := fun (W : World) (K : HLists) (hK : RdLists W W.heap.size K x.Lists) => TakeGlobal_spec_yes W K x.Lists c l s hK hsh2.2 (mem_lists c1) hc hrow
  rw [c1] at hmo
  have hco := fun W => ClassOf_spec n W
  rw [c3] at hco
  clear c3 hfit f2 hrow hrow0 c1 hsh2 hs
  have B_a : Box ((w.alloc (.cells #[.slice H.Heap.Bytes.a H.Heap.Bytes.len H.Heap.Bytes.cap, .slice H.Heap.Class.a H.Heap.Class.len H.Heap.Class.cap, .slice H.Lists.Global.a H.Lists.Global.len H.Lists.Global.cap, .slice H.Lists.Own.a H.Lists.Own.len H.Lists.Own.cap] 36)).alloc (.cells #[.slice none 0 0, .slice none 0 0, .slice none 0 0, .slice none 0 0] 36)) (w.heap.size) [.slice H.Heap.Bytes.a H.Heap.Bytes.len H.Heap.Bytes.cap, .slice H.Heap.Class.a H.Heap.Class.len H.Heap.Class.cap, .slice H.Lists.Global.a H.Lists.Global.len H.Lists.Global.cap, .slice H.Lists.Own.a H.Lists.Own.len H.Lists.Own.cap] := by
    have hbx := Box.new w #[.slice H.Heap.Bytes.a H.Heap.Bytes.len H.Heap.Bytes.cap, .slice H.Heap.Class.a H.Heap.Class.len H.Heap.Class.cap, .slice H.Lists.Global.a H.Lists.Global.len H.Lists.Global.cap, .slice H.Lists.Own.a H.Lists.Own.len H.Lists.Own.cap] 36
    exact (hbx).alloc _
  have B_r : Box ((w.alloc (.cells #[.slice H.Heap.Bytes.a H.Heap.Bytes.len H.Heap.Bytes.cap, .slice H.Heap.Class.a H.Heap.Class.len H.Heap.Class.cap, .slice H.Lists.Global.a H.Lists.Global.len H.Lists.Global.cap, .slice H.Lists.Own.a H.Lists.Own.len H.Lists.Own.cap] 36)).alloc (.cells #[.slice none 0 0, .slice none 0 0, .slice none 0 0, .slice none 0 0] 36)) (w.heap.size + 1) [.slice none 0 0, .slice none 0 0, .slice none 0 0, .slice none 0 0] := by
    have hbx := Box.new (w.alloc (.cells #[.slice H.Heap.Bytes.a H.Heap.Bytes.len H.Heap.Bytes.cap, .slice H.Heap.Class.a H.Heap.Class.len H.Heap.Class.cap, .slice H.Lists.Global.a H.Lists.Global.len H.Lists.Global.cap, .slice H.Lists.Own.a H.Lists.Own.len H.Lists.Own.cap] 36)) #[.slice none 0 0, .slice none 0 0, .slice none 0 0, .slice none 0 0] 36
    simp only [World.size_alloc] at hbx
    exact hbx
  have hB : Below w.heap.size w ((w.alloc (.cells #[.slice H.Heap.Bytes.a H.Heap.Bytes.len H.Heap.Bytes.cap, .slice H.Heap.Class.a H.Heap.Class.len H.Heap.Class.cap, .slice H.Lists.Global.a H.Lists.Global.len H.Lists.Global.cap, .slice H.Lists.Own.a H.Lists.Own.len H.Lists.Own.cap] 36)).alloc (.cells #[.slice none 0 0, .slice none 0 0, .slice none 0 0, .slice none 0 0] 36)) := by repeat (first | exact Below.refl _ _ | refine Below.alloc ?_ (by simp <;> omega) _ | refine below_grow_of ?_ (by simp <;> omega) _ _ | refine Below.drew ?_ | refine below_drewN ?_ _)
  go_enter Tryz.func15, Tryz.ntmps15
  go_wp2_with fail
  generalize hW0 : ((w.alloc (.cells #[.slice H.Heap.Bytes.a H.Heap.Bytes.len H.Heap.Bytes.cap, .slice H.Heap.Class.a H.Heap.Class.len H.Heap.Class.cap, .slice H.Lists.Global.a H.Lists.Global.len H.Lists.Global.cap, .slice H.Lists.Own.a H.Lists.Own.len H.Lists.Own.cap] 36)).alloc (.cells #[.slice none 0 0, .slice none 0 0, .slice none 0 0, .slice none 0 0] 36)) = w0 at B_a B_r hB ⊢
  clear hW0
  have zz_a := B_a.lt
  have zz_r := B_r.lt
  have q_a_0 := B_a.cell 0 _ rfl
  have q_a_1 := B_a.cell 1 _ rfl
  have q_a_2 := B_a.cell 2 _ rfl
  have q_a_3 := B_a.cell 3 _ rfl
  have fr_a := B_a.fro
  have z_a := B_a.lt
  have q_r_0 := B_r.cell 0 _ rfl
  have q_r_1 := B_r.cell 1 _ rfl
  have q_r_2 := B_r.cell 2 _ rfl
  have q_r_3 := B_r.cell 3 _ rfl
  have fr_r := B_r.fro
  have z_r := B_r.lt
  refine (hcp _ hB).mono ?_
  rintro e w1 ⟨K_c, rfl, o_c, l_c, hb⟩
  have u_c := o_c.lt
  replace B_a := B_a.below hb
  replace B_r := B_r.below hb
  replace hB := hB.trans (hb.mono hB.size)
  have sz := hb.size
  clear hb
  replace q_a_0 := B_a.cell 0 _ rfl
  replace q_a_1 := B_a.cell 1 _ rfl
  replace q_a_2 := B_a.cell 2 _ rfl
  replace q_a_3 := B_a.cell 3 _ rfl
  replace fr_a := B_a.fro
  replace z_a := B_a.lt
  replace q_r_0 := B_r.cell 0 _ rfl
  replace q_r_1 := B_r.cell 1 _ rfl
  replace q_r_2 := B_r.cell 2 _ rfl
  replace q_r_3 := B_r.cell 3 _ rfl
  replace fr_r := B_r.fro
  replace z_r := B_r.lt
  clear hcp
  go_wp2_with (go_at_call 45; refine (hco _).mono ?_; rintro e wv ⟨rfl, rfl⟩)
  replace B_a := B_a.alloc (.cells #[.slice K_c.Heap.Bytes.a K_c.Heap.Bytes.len K_c.Heap.Bytes.cap, .slice K_c.Heap.Class.a K_c.Heap.Class.len K_c.Heap.Class.cap, .slice K_c.Lists.Global.a K_c.Lists.Global.len K_c.Lists.Global.cap, .slice K_c.Lists.Own.a K_c.Lists.Own.len K_c.Lists.Own.cap] 36)
  replace B_r := B_r.alloc (.cells #[.slice K_c.Heap.Bytes.a K_c.Heap.Bytes.len K_c.Heap.Bytes.cap, .slice K_c.Heap.Class.a K_c.Heap.Class.len K_c.Heap.Class.cap, .slice K_c.Lists.Global.a K_c.Lists.Global.len K_c.Lists.Global.cap, .slice K_c.Lists.Own.a K_c.Lists.Own.len K_c.Lists.Own.cap] 36)
  replace o_c := o_c.alloc_ (.cells #[.slice K_c.Heap.Bytes.a K_c.Heap.Bytes.len K_c.Heap.Bytes.cap, .slice K_c.Heap.Class.a K_c.Heap.Class.len K_c.Heap.Class.cap, .slice K_c.Lists.Global.a K_c.Lists.Global.len K_c.Lists.Global.cap, .slice K_c.Lists.Own.a K_c.Lists.Own.len K_c.Lists.Own.cap] 36)
  replace hB := hB.alloc hB.size (.cells #[.slice K_c.Heap.Bytes.a K_c.Heap.Bytes.len K_c.Heap.Bytes.cap, .slice K_c.Heap.Class.a K_c.Heap.Class.len K_c.Heap.Class.cap, .slice K_c.Lists.Global.a K_c.Lists.Global.len K_c.Lists.Global.cap, .slice K_c.Lists.Own.a K_c.Lists.Own.len K_c.Lists.Own.cap] 36)
  have B_o : Box (w1.alloc (.cells #[.slice K_c.Heap.Bytes.a K_c.Heap.Bytes.len K_c.Heap.Bytes.cap, .slice K_c.Heap.Class.a K_c.Heap.Class.len K_c.Heap.Class.cap, .slice K_c.Lists.Global.a K_c.Lists.Global.len K_c.Lists.Global.cap, .slice K_c.Lists.Own.a K_c.Lists.Own.len K_c.Lists.Own.cap] 36)) w1.heap.size [.slice K_c.Heap.Bytes.a K_c.Heap.Bytes.len K_c.Heap.Bytes.cap, .slice K_c.Heap.Class.a K_c.Heap.Class.len K_c.Heap.Class.cap, .slice K_c.Lists.Global.a K_c.Lists.Global.len K_c.Lists.Global.cap, .slice K_c.Lists.Own.a K_c.Lists.Own.len K_c.Lists.Own.cap] := Box.new w1 #[.slice K_c.Heap.Bytes.a K_c.Heap.Bytes.len K_c.Heap.Bytes.cap, .slice K_c.Heap.Class.a K_c.Heap.Class.len K_c.Heap.Class.cap, .slice K_c.Lists.Global.a K_c.Lists.Global.len K_c.Lists.Global.cap, .slice K_c.Lists.Own.a K_c.Lists.Own.len K_c.Lists.Own.cap] 36
  have zz_o := B_o.lt
  have sz : w1.heap.size ≤ (w1.alloc (.cells #[.slice K_c.Heap.Bytes.a K_c.Heap.Bytes.len K_c.Heap.Bytes.cap, .slice K_c.Heap.Class.a K_c.Heap.Class.len K_c.Heap.Class.cap, .slice K_c.Lists.Global.a K_c.Lists.Global.len K_c.Lists.Global.cap, .slice K_c.Lists.Own.a K_c.Lists.Own.len K_c.Lists.Own.cap] 36)).heap.size := Nat.le_of_lt B_o.lt
  generalize hG : (w1.alloc (.cells #[.slice K_c.Heap.Bytes.a K_c.Heap.Bytes.len K_c.Heap.Bytes.cap, .slice K_c.Heap.Class.a K_c.Heap.Class.len K_c.Heap.Class.cap, .slice K_c.Lists.Global.a K_c.Lists.Global.len K_c.Lists.Global.cap, .slice K_c.Lists.Own.a K_c.Lists.Own.len K_c.Lists.Own.cap] 36)) = w2 at B_a B_r o_c hB B_o zz_o sz ⊢
  clear hG
  replace q_a_0 := B_a.cell 0 _ rfl
  replace q_a_1 := B_a.cell 1 _ rfl
  replace q_a_2 := B_a.cell 2 _ rfl
  replace q_a_3 := B_a.cell 3 _ rfl
  replace fr_a := B_a.fro
  replace z_a := B_a.lt
  replace q_r_0 := B_r.cell 0 _ rfl
  replace q_r_1 := B_r.cell 1 _ rfl
  replace q_r_2 := B_r.cell 2 _ rfl
  replace q_r_3 := B_r.cell 3 _ rfl
  replace fr_r := B_r.fro
  replace z_r := B_r.lt
  have q_o_0 := B_o.cell 0 _ rfl
  have q_o_1 := B_o.cell 1 _ rfl
  have q_o_2 := B_o.cell 2 _ rfl
  have q_o_3 := B_o.cell 3 _ rfl
  have fr_o := B_o.fro
  have z_o := B_o.lt
  refine (hmo _ hB).mono ?_
  rintro e w3 ⟨rfl, hb⟩
  replace B_a := B_a.below hb
  replace B_r := B_r.below hb
  replace B_o := B_o.below hb
  have o_c := o_c.step0 hb
  replace hB := hB.trans (hb.mono hB.size)
  have sz := hb.size
  clear hb
  replace q_a_0 := B_a.cell 0 _ rfl
  replace q_a_1 := B_a.cell 1 _ rfl
  replace q_a_2 := B_a.cell 2 _ rfl
  replace q_a_3 := B_a.cell 3 _ rfl
  replace fr_a := B_a.fro
  replace z_a := B_a.lt
  replace q_r_0 := B_r.cell 0 _ rfl
  replace q_r_1 := B_r.cell 1 _ rfl
  replace q_r_2 := B_r.cell 2 _ rfl
  replace q_r_3 := B_r.cell 3 _ rfl
  replace fr_r := B_r.fro
  replace z_r := B_r.lt
  replace q_o_0 := B_o.cell 0 _ rfl
  replace q_o_1 := B_o.cell 1 _ rfl
  replace q_o_2 := B_o.cell 2 _ rfl
  replace q_o_3 := B_o.cell 3 _ rfl
  replace fr_o := B_o.fro
  replace z_o := B_o.lt
  clear hmo
  go_wp2_with (go_at_call 21; refine (l1In_ct _ _ _ _).mono ?_; rw [c2]; rintro e wv ⟨rfl, rfl⟩)
  refine (hto _ K_c.Lists o_c.Lists.rd').mono ?_
  rintro e w4 ⟨K_u, rfl, o_u, l_u, hb⟩
  have u_u := o_u.lt
  replace B_a := B_a.below hb
  replace B_r := B_r.below hb
  replace B_o := B_o.below hb
  replace o_c := o_c.step0 hb
  replace hB := hB.trans (hb.mono hB.size)
  have sz := hb.size
  clear hb
  replace q_a_0 := B_a.cell 0 _ rfl
  replace q_a_1 := B_a.cell 1 _ rfl
  replace q_a_2 := B_a.cell 2 _ rfl
  replace q_a_3 := B_a.cell 3 _ rfl
  replace fr_a := B_a.fro
  replace z_a := B_a.lt
  replace q_r_0 := B_r.cell 0 _ rfl
  replace q_r_1 := B_r.cell 1 _ rfl
  replace q_r_2 := B_r.cell 2 _ rfl
  replace q_r_3 := B_r.cell 3 _ rfl
  replace fr_r := B_r.fro
  replace z_r := B_r.lt
  replace q_o_0 := B_o.cell 0 _ rfl
  replace q_o_1 := B_o.cell 1 _ rfl
  replace q_o_2 := B_o.cell 2 _ rfl
  replace q_o_3 := B_o.cell 3 _ rfl
  replace fr_o := B_o.fro
  replace z_o := B_o.lt
  clear hto
  go_wp2_with fail
  replace B_a := B_a.alloc (.cells #[.slice K_u.Global.a K_u.Global.len K_u.Global.cap, .slice K_u.Own.a K_u.Own.len K_u.Own.cap] 34)
  replace B_r := B_r.alloc (.cells #[.slice K_u.Global.a K_u.Global.len K_u.Global.cap, .slice K_u.Own.a K_u.Own.len K_u.Own.cap] 34)
  replace B_o := B_o.alloc (.cells #[.slice K_u.Global.a K_u.Global.len K_u.Global.cap, .slice K_u.Own.a K_u.Own.len K_u.Own.cap] 34)
  replace o_c := o_c.alloc_ (.cells #[.slice K_u.Global.a K_u.Global.len K_u.Global.cap, .slice K_u.Own.a K_u.Own.len K_u.Own.cap] 34)
  replace o_u := o_u.alloc_ (.cells #[.slice K_u.Global.a K_u.Global.len K_u.Global.cap, .slice K_u.Own.a K_u.Own.len K_u.Own.cap] 34)
  replace hB := hB.alloc hB.size (.cells #[.slice K_u.Global.a K_u.Global.len K_u.Global.cap, .slice K_u.Own.a K_u.Own.len K_u.Own.cap] 34)
  have B_p : Box (w4.alloc (.cells #[.slice K_u.Global.a K_u.Global.len K_u.Global.cap, .slice K_u.Own.a K_u.Own.len K_u.Own.cap] 34)) w4.heap.size [.slice K_u.Global.a K_u.Global.len K_u.Global.cap, .slice K_u.Own.a K_u.Own.len K_u.Own.cap] := Box.new w4 #[.slice K_u.Global.a K_u.Global.len K_u.Global.cap, .slice K_u.Own.a K_u.Own.len K_u.Own.cap] 34
  have zz_p := B_p.lt
  have sz : w4.heap.size ≤ (w4.alloc (.cells #[.slice K_u.Global.a K_u.Global.len K_u.Global.cap, .slice K_u.Own.a K_u.Own.len K_u.Own.cap] 34)).heap.size := Nat.le_of_lt B_p.lt
  generalize hG : (w4.alloc (.cells #[.slice K_u.Global.a K_u.Global.len K_u.Global.cap, .slice K_u.Own.a K_u.Own.len K_u.Own.cap] 34)) = w5 at B_a B_r B_o o_c o_u hB B_p zz_p sz ⊢
  clear hG
  replace q_a_0 := B_a.cell 0 _ rfl
  replace q_a_1 := B_a.cell 1 _ rfl
  replace q_a_2 := B_a.cell 2 _ rfl
  replace q_a_3 := B_a.cell 3 _ rfl
  replace fr_a := B_a.fro
  replace z_a := B_a.lt
  replace q_r_0 := B_r.cell 0 _ rfl
  replace q_r_1 := B_r.cell 1 _ rfl
  replace q_r_2 := B_r.cell 2 _ rfl
  replace q_r_3 := B_r.cell 3 _ rfl
  replace fr_r := B_r.fro
  replace z_r := B_r.lt
  replace q_o_0 := B_o.cell 0 _ rfl
  replace q_o_1 := B_o.cell 1 _ rfl
  replace q_o_2 := B_o.cell 2 _ rfl
  replace q_o_3 := B_o.cell 3 _ rfl
  replace fr_o := B_o.fro
  replace z_o := B_o.lt
  have q_p_0 := B_p.cell 0 _ rfl
  have q_p_1 := B_p.cell 1 _ rfl
  have fr_p := B_p.fro
  have z_p := B_p.lt
  refine (htg _ K_u o_u.rd').mono ?_
  rintro e w6 ⟨K_t, rfl, o_t, l_t, hb⟩
  have u_t := o_t.lt
  replace B_a := B_a.below hb
  replace B_r := B_r.below hb
  replace B_o := B_o.below hb
  replace B_p := B_p.below hb
  replace o_c := o_c.step0 hb
  have o_u := o_u.step0 hb
  replace hB := hB.trans (hb.mono hB.size)
  have sz := hb.size
  clear hb
  replace q_a_0 := B_a.cell 0 _ rfl
  replace q_a_1 := B_a.cell 1 _ rfl
  replace q_a_2 := B_a.cell 2 _ rfl
  replace q_a_3 := B_a.cell 3 _ rfl
  replace fr_a := B_a.fro
  replace z_a := B_a.lt
  replace q_r_0 := B_r.cell 0 _ rfl
  replace q_r_1 := B_r.cell 1 _ rfl
  replace q_r_2 := B_r.cell 2 _ rfl
  replace q_r_3 := B_r.cell 3 _ rfl
  replace fr_r := B_r.fro
  replace z_r := B_r.lt
  replace q_o_0 := B_o.cell 0 _ rfl
  replace q_o_1 := B_o.cell 1 _ rfl
  replace q_o_2 := B_o.cell 2 _ rfl
  replace q_o_3 := B_o.cell 3 _ rfl
  replace fr_o := B_o.fro
  replace z_o := B_o.lt
  replace q_p_0 := B_p.cell 0 _ rfl
  replace q_p_1 := B_p.cell 1 _ rfl
  replace fr_p := B_p.fro
  replace z_p := B_p.lt
  clear htg
  go_upto_region 10 with (fail)
  replace B_a : Box ((w6.setCell ⟨w4.heap.size, 0, none⟩ (.slice K_t.Global.a K_t.Global.len K_t.Global.cap)).setCell ⟨w4.heap.size, 1, none⟩ (.slice K_t.Own.a K_t.Own.len K_t.Own.cap)) (w.heap.size) [.slice H.Heap.Bytes.a H.Heap.Bytes.len H.Heap.Bytes.cap, .slice H.Heap.Class.a H.Heap.Class.len H.Heap.Class.cap, .slice H.Lists.Global.a H.Lists.Global.len H.Lists.Global.cap, .slice H.Lists.Own.a H.Lists.Own.len H.Lists.Own.cap] := ((B_a.other (by omega) _).other (by omega) _)
  replace B_r : Box ((w6.setCell ⟨w4.heap.size, 0, none⟩ (.slice K_t.Global.a K_t.Global.len K_t.Global.cap)).setCell ⟨w4.heap.size, 1, none⟩ (.slice K_t.Own.a K_t.Own.len K_t.Own.cap)) (w.heap.size + 1) [.slice none 0 0, .slice none 0 0, .slice none 0 0, .slice none 0 0] := ((B_r.other (by omega) _).other (by omega) _)
  replace B_o : Box ((w6.setCell ⟨w4.heap.size, 0, none⟩ (.slice K_t.Global.a K_t.Global.len K_t.Global.cap)).setCell ⟨w4.heap.size, 1, none⟩ (.slice K_t.Own.a K_t.Own.len K_t.Own.cap)) (w1.heap.size) [.slice K_c.Heap.Bytes.a K_c.Heap.Bytes.len K_c.Heap.Bytes.cap, .slice K_c.Heap.Class.a K_c.Heap.Class.len K_c.Heap.Class.cap, .slice K_c.Lists.Global.a K_c.Lists.Global.len K_c.Lists.Global.cap, .slice K_c.Lists.Own.a K_c.Lists.Own.len K_c.Lists.Own.cap] := ((B_o.other (by omega) _).other (by omega) _)
  replace B_p : Box ((w6.setCell ⟨w4.heap.size, 0, none⟩ (.slice K_t.Global.a K_t.Global.len K_t.Global.cap)).setCell ⟨w4.heap.size, 1, none⟩ (.slice K_t.Own.a K_t.Own.len K_t.Own.cap)) (w4.heap.size) [.slice K_t.Global.a K_t.Global.len K_t.Global.cap, .slice K_t.Own.a K_t.Own.len K_t.Own.cap] := ((B_p.set 0 (.slice K_t.Global.a K_t.Global.len K_t.Global.cap)).set 1 (.slice K_t.Own.a K_t.Own.len K_t.Own.cap))
  replace o_c := o_c.chg (F := [w4.heap.size]) (w' := ((w6.setCell ⟨w4.heap.size, 0, none⟩ (.slice K_t.Global.a K_t.Global.len K_t.Global.cap)).setCell ⟨w4.heap.size, 1, none⟩ (.slice K_t.Own.a K_t.Own.len K_t.Own.cap))) (by repeat (first | with_reducible exact Chg.refl _ _ | with_reducible refine Chg.set_ ?_ (by simp) _ | with_reducible refine Chg.alloc_ ?_ _ | with_reducible refine Chg.drew_ ?_)) (fun g hg hm => by simp only [List.mem_cons, List.not_mem_nil, or_false] at hm; have := l_c g hg; have := u_c g hg; omega)
  replace o_u := o_u.chg (F := [w4.heap.size]) (w' := ((w6.setCell ⟨w4.heap.size, 0, none⟩ (.slice K_t.Global.a K_t.Global.len K_t.Global.cap)).setCell ⟨w4.heap.size, 1, none⟩ (.slice K_t.Own.a K_t.Own.len K_t.Own.cap))) (by repeat (first | with_reducible exact Chg.refl _ _ | with_reducible refine Chg.set_ ?_ (by simp) _ | with_reducible refine Chg.alloc_ ?_ _ | with_reducible refine Chg.drew_ ?_)) (fun g hg hm => by simp only [List.mem_cons, List.not_mem_nil, or_false] at hm; have := l_u g hg; have := u_u g hg; omega)
  replace o_t := o_t.chg (F := [w4.heap.size]) (w' := ((w6.setCell ⟨w4.heap.size, 0, none⟩ (.slice K_t.Global.a K_t.Global.len K_t.Global.cap)).setCell ⟨w4.heap.size, 1, none⟩ (.slice K_t.Own.a K_t.Own.len K_t.Own.cap))) (by repeat (first | with_reducible exact Chg.refl _ _ | with_reducible refine Chg.set_ ?_ (by simp) _ | with_reducible refine Chg.alloc_ ?_ _ | with_reducible refine Chg.drew_ ?_)) (fun g hg hm => by simp only [List.mem_cons, List.not_mem_nil, or_false] at hm; have := l_t g hg; have := u_t g hg; omega)
  replace hB : Below w.heap.size w ((w6.setCell ⟨w4.heap.size, 0, none⟩ (.slice K_t.Global.a K_t.Global.len K_t.Global.cap)).setCell ⟨w4.heap.size, 1, none⟩ (.slice K_t.Own.a K_t.Own.len K_t.Own.cap)) := Below.trans hB (by repeat (first | with_reducible exact Below.refl _ _ | with_reducible refine Below.setCell ?_ (by simp <;> omega) _ | with_reducible refine Below.alloc ?_ (by simp <;> omega) _ | with_reducible refine Below.drew ?_))
  have sz : w6.heap.size ≤ ((w6.setCell ⟨w4.heap.size, 0, none⟩ (.slice K_t.Global.a K_t.Global.len K_t.Global.cap)).setCell ⟨w4.heap.size, 1, none⟩ (.slice K_t.Own.a K_t.Own.len K_t.Own.cap)).heap.size := by simp
  generalize hG : ((w6.setCell ⟨w4.heap.size, 0, none⟩ (.slice K_t.Global.a K_t.Global.len K_t.Global.cap)).setCell ⟨w4.heap.size, 1, none⟩ (.slice K_t.Own.a K_t.Own.len K_t.Own.cap)) = w7 at B_a B_r B_o B_p o_c o_u o_t hB sz ⊢
  clear hG
  replace q_a_0 := B_a.cell 0 _ rfl
  replace q_a_1 := B_a.cell 1 _ rfl
  replace q_a_2 := B_a.cell 2 _ rfl
  replace q_a_3 := B_a.cell 3 _ rfl
  replace fr_a := B_a.fro
  replace z_a := B_a.lt
  replace q_r_0 := B_r.cell 0 _ rfl
  replace q_r_1 := B_r.cell 1 _ rfl
  replace q_r_2 := B_r.cell 2 _ rfl
  replace q_r_3 := B_r.cell 3 _ rfl
  replace fr_r := B_r.fro
  replace z_r := B_r.lt
  replace q_o_0 := B_o.cell 0 _ rfl
  replace q_o_1 := B_o.cell 1 _ rfl
  replace q_o_2 := B_o.cell 2 _ rfl
  replace q_o_3 := B_o.cell 3 _ rfl
  replace fr_o := B_o.fro
  replace z_o := B_o.lt
  replace q_p_0 := B_p.cell 0 _ rfl
  replace q_p_1 := B_p.cell 1 _ rfl
  replace fr_p := B_p.fro
  replace z_p := B_p.lt
  go_upto_region 15 with (fail)
  replace B_a : Box ((w7.setCell ⟨w1.heap.size, 2, none⟩ (.slice K_t.Global.a K_t.Global.len K_t.Global.cap)).setCell ⟨w1.heap.size, 3, none⟩ (.slice K_t.Own.a K_t.Own.len K_t.Own.cap)) (w.heap.size) [.slice H.Heap.Bytes.a H.Heap.Bytes.len H.Heap.Bytes.cap, .slice H.Heap.Class.a H.Heap.Class.len H.Heap.Class.cap, .slice H.Lists.Global.a H.Lists.Global.len H.Lists.Global.cap, .slice H.Lists.Own.a H.Lists.Own.len H.Lists.Own.cap] := ((B_a.other (by omega) _).other (by omega) _)
  replace B_r : Box ((w7.setCell ⟨w1.heap.size, 2, none⟩ (.slice K_t.Global.a K_t.Global.len K_t.Global.cap)).setCell ⟨w1.heap.size, 3, none⟩ (.slice K_t.Own.a K_t.Own.len K_t.Own.cap)) (w.heap.size + 1) [.slice none 0 0, .slice none 0 0, .slice none 0 0, .slice none 0 0] := ((B_r.other (by omega) _).other (by omega) _)
  replace B_o : Box ((w7.setCell ⟨w1.heap.size, 2, none⟩ (.slice K_t.Global.a K_t.Global.len K_t.Global.cap)).setCell ⟨w1.heap.size, 3, none⟩ (.slice K_t.Own.a K_t.Own.len K_t.Own.cap)) (w1.heap.size) [.slice K_c.Heap.Bytes.a K_c.Heap.Bytes.len K_c.Heap.Bytes.cap, .slice K_c.Heap.Class.a K_c.Heap.Class.len K_c.Heap.Class.cap, .slice K_t.Global.a K_t.Global.len K_t.Global.cap, .slice K_t.Own.a K_t.Own.len K_t.Own.cap] := ((B_o.set 2 (.slice K_t.Global.a K_t.Global.len K_t.Global.cap)).set 3 (.slice K_t.Own.a K_t.Own.len K_t.Own.cap))
  replace B_p : Box ((w7.setCell ⟨w1.heap.size, 2, none⟩ (.slice K_t.Global.a K_t.Global.len K_t.Global.cap)).setCell ⟨w1.heap.size, 3, none⟩ (.slice K_t.Own.a K_t.Own.len K_t.Own.cap)) (w4.heap.size) [.slice K_t.Global.a K_t.Global.len K_t.Global.cap, .slice K_t.Own.a K_t.Own.len K_t.Own.cap] := ((B_p.other (by omega) _).other (by omega) _)
  replace o_c := o_c.chg (F := [w1.heap.size]) (w' := ((w7.setCell ⟨w1.heap.size, 2, none⟩ (.slice K_t.Global.a K_t.Global.len K_t.Global.cap)).setCell ⟨w1.heap.size, 3, none⟩ (.slice K_t.Own.a K_t.Own.len K_t.Own.cap))) (by repeat (first | with_reducible exact Chg.refl _ _ | with_reducible refine Chg.set_ ?_ (by simp) _ | with_reducible refine Chg.alloc_ ?_ _ | with_reducible refine Chg.drew_ ?_)) (fun g hg hm => by simp only [List.mem_cons, List.not_mem_nil, or_false] at hm; have := l_c g hg; have := u_c g hg; omega)
  replace o_u := o_u.chg (F := [w1.heap.size]) (w' := ((w7.setCell ⟨w1.heap.size, 2, none⟩ (.slice K_t.Global.a K_t.Global.len K_t.Global.cap)).setCell ⟨w1.heap.size, 3, none⟩ (.slice K_t.Own.a K_t.Own.len K_t.Own.cap))) (by repeat (first | with_reducible exact Chg.refl _ _ | with_reducible refine Chg.set_ ?_ (by simp) _ | with_reducible refine Chg.alloc_ ?_ _ | with_reducible refine Chg.drew_ ?_)) (fun g hg hm => by simp only [List.mem_cons, List.not_mem_nil, or_false] at hm; have := l_u g hg; have := u_u g hg; omega)
  replace o_t := o_t.chg (F := [w1.heap.size]) (w' := ((w7.setCell ⟨w1.heap.size, 2, none⟩ (.slice K_t.Global.a K_t.Global.len K_t.Global.cap)).setCell ⟨w1.heap.size, 3, none⟩ (.slice K_t.Own.a K_t.Own.len K_t.Own.cap))) (by repeat (first | with_reducible exact Chg.refl _ _ | with_reducible refine Chg.set_ ?_ (by simp) _ | with_reducible refine Chg.alloc_ ?_ _ | with_reducible refine Chg.drew_ ?_)) (fun g hg hm => by simp only [List.mem_cons, List.not_mem_nil, or_false] at hm; have := l_t g hg; have := u_t g hg; omega)
  replace hB : Below w.heap.size w ((w7.setCell ⟨w1.heap.size, 2, none⟩ (.slice K_t.Global.a K_t.Global.len K_t.Global.cap)).setCell ⟨w1.heap.size, 3, none⟩ (.slice K_t.Own.a K_t.Own.len K_t.Own.cap)) := Below.trans hB (by repeat (first | with_reducible exact Below.refl _ _ | with_reducible refine Below.setCell ?_ (by simp <;> omega) _ | with_reducible refine Below.alloc ?_ (by simp <;> omega) _ | with_reducible refine Below.drew ?_))
  have sz : w7.heap.size ≤ ((w7.setCell ⟨w1.heap.size, 2, none⟩ (.slice K_t.Global.a K_t.Global.len K_t.Global.cap)).setCell ⟨w1.heap.size, 3, none⟩ (.slice K_t.Own.a K_t.Own.len K_t.Own.cap)).heap.size := by simp
  generalize hG : ((w7.setCell ⟨w1.heap.size, 2, none⟩ (.slice K_t.Global.a K_t.Global.len K_t.Global.cap)).setCell ⟨w1.heap.size, 3, none⟩ (.slice K_t.Own.a K_t.Own.len K_t.Own.cap)) = w8 at B_a B_r B_o B_p o_c o_u o_t hB sz ⊢
  clear hG
  replace q_a_0 := B_a.cell 0 _ rfl
  replace q_a_1 := B_a.cell 1 _ rfl
  replace q_a_2 := B_a.cell 2 _ rfl
  replace q_a_3 := B_a.cell 3 _ rfl
  replace fr_a := B_a.fro
  replace z_a := B_a.lt
  replace q_r_0 := B_r.cell 0 _ rfl
  replace q_r_1 := B_r.cell 1 _ rfl
  replace q_r_2 := B_r.cell 2 _ rfl
  replace q_r_3 := B_r.cell 3 _ rfl
  replace fr_r := B_r.fro
  replace z_r := B_r.lt
  replace q_o_0 := B_o.cell 0 _ rfl
  replace q_o_1 := B_o.cell 1 _ rfl
  replace q_o_2 := B_o.cell 2 _ rfl
  replace q_o_3 := B_o.cell 3 _ rfl
  replace fr_o := B_o.fro
  replace z_o := B_o.lt
  replace q_p_0 := B_p.cell 0 _ rfl
  replace q_p_1 := B_p.cell 1 _ rfl
  replace fr_p := B_p.fro
  replace z_p := B_p.lt
  have hhi := fun (W : World) (hW : Below w8.heap.size w8 W) => handleIn_spec W ⟨K_c.Heap, K_t⟩ x x.Heap s (rdHeap_up o_c.Heap.rd' hW) hsh f1 f3 (Int.not_lt.2 k1)
  go_region_with (first | (go_at_call 49; (first | ((with_reducible refine (hhi _ (Below.refl _ _)).mono ?_); rintro e wq ⟨rfl, hb⟩; replace B_a := B_a.below hb; replace B_r := B_r.below hb; replace B_o := B_o.below hb; replace B_p := B_p.below hb; replace o_c := o_c.step0 hb; replace o_u := o_u.step0 hb; replace o_t := o_t.step0 hb; replace hB := hB.trans (hb.mono hB.size); have sz := hb.size; clear hb; replace q_a_0 := B_a.cell 0 _ rfl; replace q_a_1 := B_a.cell 1 _ rfl; replace q_a_2 := B_a.cell 2 _ rfl; replace q_a_3 := B_a.cell 3 _ rfl; replace fr_a := B_a.fro; replace z_a := B_a.lt; replace q_r_0 := B_r.cell 0 _ rfl; replace q_r_1 := B_r.cell 1 _ rfl; replace q_r_2 := B_r.cell 2 _ rfl; replace q_r_3 := B_r.cell 3 _ rfl; replace fr_r := B_r.fro; replace z_r := B_r.lt; replace q_o_0 := B_o.cell 0 _ rfl; replace q_o_1 := B_o.cell 1 _ rfl; replace q_o_2 := B_o.cell 2 _ rfl; replace q_o_3 := B_o.cell 3 _ rfl; replace fr_o := B_o.fro; replace z_o := B_o.lt; replace q_p_0 := B_p.cell 0 _ rfl; replace q_p_1 := B_p.cell 1 _ rfl; replace fr_p := B_p.fro; replace z_p := B_p.lt) | ((with_reducible refine (hhi _ (Below.refl _ _).drew).mono ?_); rintro e wq ⟨rfl, hb⟩; replace hb := undrew hb; replace B_a := B_a.below hb; replace B_r := B_r.below hb; replace B_o := B_o.below hb; replace B_p := B_p.below hb; replace o_c := o_c.step0 hb; replace o_u := o_u.step0 hb; replace o_t := o_t.step0 hb; replace hB := hB.trans (hb.mono hB.size); have sz := hb.size; clear hb; replace q_a_0 := B_a.cell 0 _ rfl; replace q_a_1 := B_a.cell 1 _ rfl; replace q_a_2 := B_a.cell 2 _ rfl; replace q_a_3 := B_a.cell 3 _ rfl; replace fr_a := B_a.fro; replace z_a := B_a.lt; replace q_r_0 := B_r.cell 0 _ rfl; replace q_r_1 := B_r.cell 1 _ rfl; replace q_r_2 := B_r.cell 2 _ rfl; replace q_r_3 := B_r.cell 3 _ rfl; replace fr_r := B_r.fro; replace z_r := B_r.lt; replace q_o_0 := B_o.cell 0 _ rfl; replace q_o_1 := B_o.cell 1 _ rfl; replace q_o_2 := B_o.cell 2 _ rfl; replace q_o_3 := B_o.cell 3 _ rfl; replace fr_o := B_o.fro; replace z_o := B_o.lt; replace q_p_0 := B_p.cell 0 _ rfl; replace q_p_1 := B_p.cell 1 _ rfl; replace fr_p := B_p.fro; replace z_p := B_p.lt))))
  all_goals
    go_wp2_with fail
    refine bodyPost_ret (v := .tuple #[.agg #[.slice K_c.Heap.Bytes.a K_c.Heap.Bytes.len K_c.Heap.Bytes.cap, .slice K_c.Heap.Class.a K_c.Heap.Class.len K_c.Heap.Class.cap, .slice K_t.Global.a K_t.Global.len K_t.Global.cap, .slice K_t.Own.a K_t.Own.len K_t.Own.cap], .int .i64 (genInB x.Heap s * 32 + s), .int .i64 0]) (by simp [results, Tryz.results15, go_sem, q_r_0, q_r_1, q_r_2, q_r_3]) rfl ⟨⟨K_c.Heap, K_t⟩, rfl, ⟨(o_c.chg (F := [w.heap.size + 1]) (by repeat (first | with_reducible exact Chg.refl _ _ | with_reducible refine Chg.set_ ?_ (by simp) _ | with_reducible refine Chg.alloc_ ?_ _ | with_reducible refine Chg.drew_ ?_)) (fun g hg hm => by simp only [List.mem_cons, List.not_mem_nil, or_false] at hm; have := l_c g hg; have := u_c g hg; omega)).Heap, o_t.chg (F := [w.heap.size + 1]) (by repeat (first | with_reducible exact Chg.refl _ _ | with_reducible refine Chg.set_ ?_ (by simp) _ | with_reducible refine Chg.alloc_ ?_ _ | with_reducible refine Chg.drew_ ?_)) (fun g hg hm => by simp only [List.mem_cons, List.not_mem_nil, or_false] at hm; have := l_t g hg; have := u_t g hg; omega), fun b hb hm => by have := u_c b (HMem.mem_foot.2 (.inl hb)); have := l_t b hm; omega⟩, fun b hb => by rcases HMem.mem_foot.1 hb with hb | hb; (have := l_c b (HMem.mem_foot.2 (.inl hb)); omega); (have := l_t b hb; omega), Below.trans hB (by repeat (first | with_reducible exact Below.refl _ _ | with_reducible refine Below.setCell ?_ (by simp <;> omega) _ | with_reducible refine Below.alloc ?_ (by simp <;> omega) _ | with_reducible refine Below.drew ?_))⟩
end Go.Proofs.YtpjijbonpjoamaaGreat

/-
  No page left to grant, the other package: the contract.
-/
namespace Go.Proofs.YtpjijbonpjoamaaGreat
open Go.RowKit

theorem idx_none {l : List Int} {x : Int} (h : idxOf (fun y => y == x) l = -1) {k : Nat} (hk : k < l.length) : ¬ l[k] = x := by
  intro he
  unfold idxOf at h
  cases hx : l.findIdx? (fun y => y == x) with
  | none =>
    have := List.findIdx?_eq_none_iff.1 hx l[k] (List.getElem_mem hk)
    simp [he] at this
  | some i =>
    rw [hx] at h
    simp at h
set_option maxRecDepth 100000 in
set_option maxHeartbeats 4000000 in
theorem l7Grant_no (w : World) (H : HHeap) (x : Heap) (c : Nat) (h : RdHeap w w.heap.size H x) (hs : shapeB x = true) (hp : idxOf (fun y => y == -1) x.Class = -1) :
    Calls Tryz.prog 96 #[.agg #[.slice H.Bytes.a H.Bytes.len H.Bytes.cap, .slice H.Class.a H.Class.len H.Class.cap], .int .i64 c] w fun e w' => ∃ (A : Option Addr) (cp : Nat), e = .returned (.tuple #[.agg #[.slice H.Bytes.a H.Bytes.len H.Bytes.cap, .slice H.Class.a H.Class.len H.Class.cap], .slice A 0 cp]) ∧ Below w.heap.size w w' := by
  obtain ⟨⟨A1, n1, c1⟩, ⟨A2, n2, c2⟩⟩ := H
  have hr2 : RdL FI w w.heap.size (.slice A2 n2 c2) x.Class := h.Class
  have hcl := (shape_of hs).cl
  have HN := Hid.mk_ (fun k (hk : k < x.Class.length) => idx_none hp hk)
  clear h hs hp
  have B_a : Box ((w.alloc (.cells #[.slice A1 n1 c1, .slice A2 n2 c2] 31)).alloc (.cells #[.slice none 0 0, .slice none 0 0] 31)) (w.heap.size) [.slice A1 n1 c1, .slice A2 n2 c2] := by
    have hbx := Box.new w #[.slice A1 n1 c1, .slice A2 n2 c2] 31
    exact (hbx).alloc _
  have B_r : Box ((w.alloc (.cells #[.slice A1 n1 c1, .slice A2 n2 c2] 31)).alloc (.cells #[.slice none 0 0, .slice none 0 0] 31)) (w.heap.size + 1) [.slice none 0 0, .slice none 0 0] := by
    have hbx := Box.new (w.alloc (.cells #[.slice A1 n1 c1, .slice A2 n2 c2] 31)) #[.slice none 0 0, .slice none 0 0] 31
    simp only [World.size_alloc] at hbx
    exact hbx
  have hB : Below w.heap.size w ((w.alloc (.cells #[.slice A1 n1 c1, .slice A2 n2 c2] 31)).alloc (.cells #[.slice none 0 0, .slice none 0 0] 31)) := by repeat (first | exact Below.refl _ _ | refine Below.alloc ?_ (by simp <;> omega) _ | refine below_grow_of ?_ (by simp <;> omega) _ _ | refine Below.drew ?_ | refine below_drewN ?_ _)
  go_enter Tryz.func96, Tryz.ntmps96
  go_wp2_with fail
  generalize hW0 : ((w.alloc (.cells #[.slice A1 n1 c1, .slice A2 n2 c2] 31)).alloc (.cells #[.slice none 0 0, .slice none 0 0] 31)) = w0 at B_a B_r hB ⊢
  clear hW0
  have zz_a := B_a.lt
  have zz_r := B_r.lt
  have q_a_0 := B_a.cell 0 _ rfl
  have q_a_1 := B_a.cell 1 _ rfl
  have fr_a := B_a.fro
  have z_a := B_a.lt
  have q_r_0 := B_r.cell 0 _ rfl
  have q_r_1 := B_r.cell 1 _ rfl
  have fr_r := B_r.fro
  have z_r := B_r.lt
  replace q_a_0 := B_a.cell 0 _ rfl
  replace q_a_1 := B_a.cell 1 _ rfl
  replace fr_a := B_a.fro
  replace z_a := B_a.lt
  replace q_r_0 := B_r.cell 0 _ rfl
  replace q_r_1 := B_r.cell 1 _ rfl
  replace fr_r := B_r.fro
  replace z_r := B_r.lt
  go_loop [6] (fun i => ∃ k : Nat, k ≤ 6 ∧ i = .int .i64 k) (fun i => 6 - (intOf i).toNat)
  case atStart => exact ⟨0, by omega, rfl⟩
  case round =>
    obtain ⟨k, hk, rfl⟩ := hrel
    by_cases hlt : k < 6
    · have hkl : k < x.Class.length := by omega
      obtain ⟨g, off, cap2, he, hg, _, _, hc⟩ := (rd_up hr2 hB).at_ (List.getElem?_eq_getElem hkl)
      injection he with e1 e2 e3
      subst e1 e2 e3
      have p0 : w0.cell? ⟨g, off + k, none⟩ = some (.int .i64 x.Class[k]) := by simpa [FI] using hc 0 _ rfl
      have hne := HN.out k hkl
      clear hc hr2
      have hkl2 : (k : Int) < (x.Class.length : Int) := by omega
      generalize x.Class[k] = y at p0 hne
      go_wp2_with fail
      go_round
      · exact ⟨k + 1, by omega, by go_num⟩
      · simp [intOf]; omega
    · obtain rfl : k = 6 := by omega
      go_wp2_with fail
      have hbx := ((B_r.set 0 (.slice A1 n1 c1)).set 1 (.slice A2 n2 c2)).alloc (.cells #[] 3)
      have qx0 := hbx.cell 0 _ rfl
      have qx1 := hbx.cell 1 _ rfl
      refine bodyPost_ret (v := .tuple #[.agg #[.slice A1 n1 c1, .slice A2 n2 c2], .slice (some ⟨w0.heap.size, 0, none⟩) 0 0]) (by simp [results, Tryz.results96, go_sem, qx0, qx1]) rfl ⟨⟨_, _, rfl⟩, Below.trans hB (by repeat (first | with_reducible exact Below.refl _ _ | with_reducible refine Below.setCell ?_ (by simp <;> omega) _ | with_reducible refine Below.alloc ?_ (by simp <;> omega) _ | with_reducible refine Below.drew ?_))⟩
end Go.Proofs.YtpjijbonpjoamaaGreat

/-
  No page left to grant, in a memory, the other package: the contract.
-/
namespace Go.Proofs.YtpjijbonpjoamaaGreat
open Go.RowKit

set_option maxRecDepth 100000 in
set_option maxHeartbeats 4000000 in
theorem l9Grant_no (w : World) (H : HMem) (_y : Mem) (x : Heap) (c : Nat) (h : RdHeap w w.heap.size H.Heap x) (hs : shapeB x = true) (hp : idxOf (fun y => y == -1) x.Class = -1) :
    Calls Tryz.prog 48 #[.agg #[.slice H.Heap.Bytes.a H.Heap.Bytes.len H.Heap.Bytes.cap, .slice H.Heap.Class.a H.Heap.Class.len H.Heap.Class.cap, .slice H.Lists.Global.a H.Lists.Global.len H.Lists.Global.cap, .slice H.Lists.Own.a H.Lists.Own.len H.Lists.Own.cap], .int .i64 c] w fun e w' => e = .returned (.tuple #[.agg #[.slice H.Heap.Bytes.a H.Heap.Bytes.len H.Heap.Bytes.cap, .slice H.Heap.Class.a H.Heap.Class.len H.Heap.Class.cap, .slice H.Lists.Global.a H.Lists.Global.len H.Lists.Global.cap, .slice H.Lists.Own.a H.Lists.Own.len H.Lists.Own.cap], .int .i64 (-1)]) ∧ Below w.heap.size w w' := by
  have hgr := fun (W : World) (hW : Below w.heap.size w W) => l7Grant_no W H.Heap x c (rdHeap_up h hW) hs hp
  have B_a : Box ((w.alloc (.cells #[.slice H.Heap.Bytes.a H.Heap.Bytes.len H.Heap.Bytes.cap, .slice H.Heap.Class.a H.Heap.Class.len H.Heap.Class.cap, .slice H.Lists.Global.a H.Lists.Global.len H.Lists.Global.cap, .slice H.Lists.Own.a H.Lists.Own.len H.Lists.Own.cap] 36)).alloc (.cells #[.slice none 0 0, .slice none 0 0, .slice none 0 0, .slice none 0 0] 36)) (w.heap.size) [.slice H.Heap.Bytes.a H.Heap.Bytes.len H.Heap.Bytes.cap, .slice H.Heap.Class.a H.Heap.Class.len H.Heap.Class.cap, .slice H.Lists.Global.a H.Lists.Global.len H.Lists.Global.cap, .slice H.Lists.Own.a H.Lists.Own.len H.Lists.Own.cap] := by
    have hbx := Box.new w #[.slice H.Heap.Bytes.a H.Heap.Bytes.len H.Heap.Bytes.cap, .slice H.Heap.Class.a H.Heap.Class.len H.Heap.Class.cap, .slice H.Lists.Global.a H.Lists.Global.len H.Lists.Global.cap, .slice H.Lists.Own.a H.Lists.Own.len H.Lists.Own.cap] 36
    exact (hbx).alloc _
  have B_r : Box ((w.alloc (.cells #[.slice H.Heap.Bytes.a H.Heap.Bytes.len H.Heap.Bytes.cap, .slice H.Heap.Class.a H.Heap.Class.len H.Heap.Class.cap, .slice H.Lists.Global.a H.Lists.Global.len H.Lists.Global.cap, .slice H.Lists.Own.a H.Lists.Own.len H.Lists.Own.cap] 36)).alloc (.cells #[.slice none 0 0, .slice none 0 0, .slice none 0 0, .slice none 0 0] 36)) (w.heap.size + 1) [.slice none 0 0, .slice none 0 0, .slice none 0 0, .slice none 0 0] := by
    have hbx := Box.new (w.alloc (.cells #[.slice H.Heap.Bytes.a H.Heap.Bytes.len H.Heap.Bytes.cap, .slice H.Heap.Class.a H.Heap.Class.len H.Heap.Class.cap, .slice H.Lists.Global.a H.Lists.Global.len H.Lists.Global.cap, .slice H.Lists.Own.a H.Lists.Own.len H.Lists.Own.cap] 36)) #[.slice none 0 0, .slice none 0 0, .slice none 0 0, .slice none 0 0] 36
    simp only [World.size_alloc] at hbx
    exact hbx
  have hB : Below w.heap.size w ((w.alloc (.cells #[.slice H.Heap.Bytes.a H.Heap.Bytes.len H.Heap.Bytes.cap, .slice H.Heap.Class.a H.Heap.Class.len H.Heap.Class.cap, .slice H.Lists.Global.a H.Lists.Global.len H.Lists.Global.cap, .slice H.Lists.Own.a H.Lists.Own.len H.Lists.Own.cap] 36)).alloc (.cells #[.slice none 0 0, .slice none 0 0, .slice none 0 0, .slice none 0 0] 36)) := by repeat (first | exact Below.refl _ _ | refine Below.alloc ?_ (by simp <;> omega) _ | refine below_grow_of ?_ (by simp <;> omega) _ _ | refine Below.drew ?_ | refine below_drewN ?_ _)
  go_enter Tryz.func48, Tryz.ntmps48
  go_wp2_with fail
  generalize hW0 : ((w.alloc (.cells #[.slice H.Heap.Bytes.a H.Heap.Bytes.len H.Heap.Bytes.cap, .slice H.Heap.Class.a H.Heap.Class.len H.Heap.Class.cap, .slice H.Lists.Global.a H.Lists.Global.len H.Lists.Global.cap, .slice H.Lists.Own.a H.Lists.Own.len H.Lists.Own.cap] 36)).alloc (.cells #[.slice none 0 0, .slice none 0 0, .slice none 0 0, .slice none 0 0] 36)) = w0 at B_a B_r hB ⊢
  clear hW0
  have zz_a := B_a.lt
  have zz_r := B_r.lt
  have q_a_0 := B_a.cell 0 _ rfl
  have q_a_1 := B_a.cell 1 _ rfl
  have q_a_2 := B_a.cell 2 _ rfl
  have q_a_3 := B_a.cell 3 _ rfl
  have fr_a := B_a.fro
  have z_a := B_a.lt
  have q_r_0 := B_r.cell 0 _ rfl
  have q_r_1 := B_r.cell 1 _ rfl
  have q_r_2 := B_r.cell 2 _ rfl
  have q_r_3 := B_r.cell 3 _ rfl
  have fr_r := B_r.fro
  have z_r := B_r.lt
  refine (hgr _ hB).mono ?_
  rintro e w1 ⟨A_s, c_s, rfl, hb⟩
  replace B_a := B_a.below hb
  replace B_r := B_r.below hb
  replace hB := hB.trans (hb.mono hB.size)
  have sz := hb.size
  clear hb
  replace q_a_0 := B_a.cell 0 _ rfl
  replace q_a_1 := B_a.cell 1 _ rfl
  replace q_a_2 := B_a.cell 2 _ rfl
  replace q_a_3 := B_a.cell 3 _ rfl
  replace fr_a := B_a.fro
  replace z_a := B_a.lt
  replace q_r_0 := B_r.cell 0 _ rfl
  replace q_r_1 := B_r.cell 1 _ rfl
  replace q_r_2 := B_r.cell 2 _ rfl
  replace q_r_3 := B_r.cell 3 _ rfl
  replace fr_r := B_r.fro
  replace z_r := B_r.lt
  clear hgr h hs hp
  replace B_a := B_a.alloc (.cells #[.slice H.Heap.Bytes.a H.Heap.Bytes.len H.Heap.Bytes.cap, .slice H.Heap.Class.a H.Heap.Class.len H.Heap.Class.cap] 31)
  replace B_r := B_r.alloc (.cells #[.slice H.Heap.Bytes.a H.Heap.Bytes.len H.Heap.Bytes.cap, .slice H.Heap.Class.a H.Heap.Class.len H.Heap.Class.cap] 31)
  replace hB := hB.alloc hB.size (.cells #[.slice H.Heap.Bytes.a H.Heap.Bytes.len H.Heap.Bytes.cap, .slice H.Heap.Class.a H.Heap.Class.len H.Heap.Class.cap] 31)
  have sz3 : w1.heap.size ≤ (w1.alloc (.cells #[.slice H.Heap.Bytes.a H.Heap.Bytes.len H.Heap.Bytes.cap, .slice H.Heap.Class.a H.Heap.Class.len H.Heap.Class.cap] 31)).heap.size := by simp
  replace q_a_0 := B_a.cell 0 _ rfl
  replace q_a_1 := B_a.cell 1 _ rfl
  replace q_a_2 := B_a.cell 2 _ rfl
  replace q_a_3 := B_a.cell 3 _ rfl
  replace fr_a := B_a.fro
  replace z_a := B_a.lt
  replace q_r_0 := B_r.cell 0 _ rfl
  replace q_r_1 := B_r.cell 1 _ rfl
  replace q_r_2 := B_r.cell 2 _ rfl
  replace q_r_3 := B_r.cell 3 _ rfl
  replace fr_r := B_r.fro
  replace z_r := B_r.lt
  go_wp2_with fail
  refine bodyPost_ret (v := .tuple #[.agg #[.slice H.Heap.Bytes.a H.Heap.Bytes.len H.Heap.Bytes.cap, .slice H.Heap.Class.a H.Heap.Class.len H.Heap.Class.cap, .slice H.Lists.Global.a H.Lists.Global.len H.Lists.Global.cap, .slice H.Lists.Own.a H.Lists.Own.len H.Lists.Own.cap], .int .i64 (-1)]) (by simp [results, Tryz.results48, go_sem, q_r_0, q_r_1, q_r_2, q_r_3]) rfl ⟨rfl, Below.trans hB (by repeat (first | with_reducible exact Below.refl _ _ | with_reducible refine Below.setCell ?_ (by simp <;> omega) _ | with_reducible refine Below.alloc ?_ (by simp <;> omega) _ | with_reducible refine Below.drew ?_))⟩
end Go.Proofs.YtpjijbonpjoamaaGreat

