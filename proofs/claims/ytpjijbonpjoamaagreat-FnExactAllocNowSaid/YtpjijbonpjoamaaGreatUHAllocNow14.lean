/-
  Several texts in one: lemmas and contracts that the claim rests on.
-/
import Derived.Test.YtpjijbonpjoamaaGreatUHAllocNow1
import Derived.Deep.QuietTactic
import Derived.BigQuiet
import Derived.Deep.LoopGhost
import Derived.Deep.RegionHeld3
import Derived.WalkSpells
import Derived.Laws.Cover3
import Derived.Test.YtpjijbonpjoamaaGreatUHAllocNow12
import Derived.Test.YtpjijbonpjoamaaGreatUHAllocNow10
import Derived.Test.YtpjijbonpjoamaaGreatUHAllocNow13
import Derived.Test.YtpjijbonpjoamaaGreatUHAllocNow11
import Derived.Test.YtpjijbonpjoamaaGreatUHAllocNow7
import Derived.IntWalk
import Derived.Deep.RegionLaw
import Derived.Deep.CutRange
/-
  AllocNow that finds no page, the reference: the contract.
-/
namespace Go.Proofs.YtpjijbonpjoamaaGreat
open Go.RowKit

set_option maxRecDepth 100000 in
set_option maxHeartbeats 8000000 in
theorem AllocNow_spec_none (w : World) (H : HMem) (x : Mem) (wk c : Nat) (n : Int) (h : RdMem w w.heap.size H x) (hs : sizeMem x ≤ 536870912) (c1 : memOkB x = true) (hw : wk < 3) (c3 : classOfS n = (c : Int)) (hc : c < 3) (hrow0 : x.Lists.Own[wk * 3 + c]? = some []) (hrow : x.Lists.Global[c]? = some []) (hp : idxOf (fun y => y == -1) x.Heap.Class = -1) :
    Calls Tryz.prog 15 #[.agg #[.slice H.Heap.Bytes.a H.Heap.Bytes.len H.Heap.Bytes.cap, .slice H.Heap.Class.a H.Heap.Class.len H.Heap.Class.cap, .slice H.Lists.Global.a H.Lists.Global.len H.Lists.Global.cap, .slice H.Lists.Own.a H.Lists.Own.len H.Lists.Own.cap], .int .i64 wk, .int .i64 n] w fun e w' => ∃ H' : HMem, e = .returned (.tuple #[.agg #[.slice H'.Heap.Bytes.a H'.Heap.Bytes.len H'.Heap.Bytes.cap, .slice H'.Heap.Class.a H'.Heap.Class.len H'.Heap.Class.cap, .slice H'.Lists.Global.a H'.Lists.Global.len H'.Lists.Global.cap, .slice H'.Lists.Own.a H'.Lists.Own.len H'.Lists.Own.cap], .int .i64 0, .int .i64 3]) ∧ OwMem w' H' x ∧ (∀ g ∈ H'.foot, w.heap.size ≤ g) ∧ Below w.heap.size w w' := by
  have hcl : inB 0 2 (c : Int) = true := inB_iff.2 ⟨by omega, by omega⟩
  have c2 : inB 0 2 (wk : Int) = true := inB_iff.2 ⟨by omega, by omega⟩
  have hsh := mem_shape c1
  have hsh2 : sizeHeap x.Heap ≤ 536870912 ∧ sizeLists x.Lists ≤ 536870912 := by unfold sizeMem at hs; omega
  have hcp := fun (W : World) (hW : Below w.heap.size w W) => l9Copy_spec W H x (rdMem_up h hW) hs
  have hmo := fun (W : World) (hW : Below w.heap.size w W) => MemOk_spec W H x (rdMem_up h hW) (by unfold sizeMem sizeLists at hs; omega) (by unfold sizeMem sizeLists at hs; omega)
  have hto := fun (W : World) (K : HLists) (hK : RdLists W W.heap.size K x.Lists) => TakeOwn_spec_nil W K x.Lists wk c hK hsh2.2 (mem_lists c1) hw hc hrow0
  have htg := fun (W : World) (K : HLists) (hK : RdLists W W.heap.size K x.Lists) => TakeGlobal_spec_nil W K x.Lists c hK hsh2.2 (mem_lists c1) hc hrow
  rw [c1] at hmo
  have hco := fun W => ClassOf_spec n W
  rw [c3] at hco
  clear c3 hrow hrow0 c1 hsh2 hs
  have B_a : Box ((w.alloc (.cells #[.slice H.Heap.Bytes.a H.Heap.Bytes.len H.Heap.Bytes.cap, .slice H.Heap.Class.a H.Heap.Class.len H.Heap.Class.cap, .slice H.Lists.Global.a H.Lists.Global.len H.Lists.Global.cap, .slice H.Lists.Own.a H.Lists.Own.len H.Lists.Own.cap] 36)).alloc (.cells #[.slice none 0 0, .slice none 0 0, .slice none 0 0, .slice none 0 0] 36)) (w.heap.size) [.slice H.Heap.Bytes.a H.Heap.Bytes.len H.Heap.Bytes.cap, .slice H.Heap.Class.a H.Heap.Class.len H.Heap.Class.cap, .slice H.Lists.Global.a H.Lists.Global.len H.Lists.Global.cap, .slice H.Lists.Own.a H.Lists.Own.len H.Lists.Own.cap] := by
    have hbx := Box.new w #[.slice H.Heap.Bytes.a H.Heap.Bytes.len H.Heap.Bytes.cap, .slice H.Heap.Class.a H.Heap.Class.len H.Heap.Class.cap, .slice H.Lists.Global.a H.Lists.Global.len H.Lists.Global.cap, .slice H.Lists.Own.a H.Lists.Own.len H.Lists.Own.cap] 36
    exact (hbx).alloc _
  have B_r : Box ((w.alloc (.cells #[.slice H.Heap.Bytes.a H.Heap.Bytes.len H.Heap.Bytes.cap, .slice H.Heap.Class.a H.Heap.Class.len H.Heap.Class.cap, .slice H.Lists.Global.a H.Lists.Global.len H.Lists.Global.cap, .slice H.Lists.Own.a H.Lists.Own.len H.Lists.Own.cap] 36)).alloc (.cells #[.slice none 0 0, .slice none 0 0, .slice none 0 0, .slice none 0 0] 36)) (w.heap.size + 1) [.slice none 0 0, .slice none 0 0, .slice none 0 0, .slice none 0 0] := by
    have hbx := Box.new (w.alloc (.cells #[.slice H.Heap.Bytes.a H.Heap.Bytes.len H.Heap.Bytes.cap, .slice H.Heap.Class.a H.Heap.Class.len H.Heap.Class.cap, .slice H.Lists.Global.a H.Lists.Global.len H.Lists.Global.cap, .slice H.Lists.Own.a H.Lists.Own.len H.Lists.Own.cap] 36)) #[.slice none 0 0, .slice none 0 0, .slice none 0 0, .slice none 0 0] 36
    simp only [World.size_alloc] at hbx
    exact hbx
  have hB : Below w.heap.size w ((w.alloc (.cells #[.slice H.Heap.Bytes.a H.Heap.Bytes.len H.Heap.Bytes.cap, .slice H.Heap.Class.a H.Heap.Class.len H.Heap.Class.cap, .slice H.Lists.Global.a H.Lists.Global.len H.Lists.Global.cap, .slice H.Lists.Own.a H.Lists.Own.len H.Lists.Own.cap] 36)).alloc (.cells #[.slice none 0 0, .slice none 0 0, .slice none 0 0, .slice none 0 0] 36)) := by repeat (first | exact Below.refl _ _ | refine Below.alloc ?_ (by simp <;> omega) _ | refine below_grow_of ?_ (by simp <;> omega) _ _ | refine Below.drew ?_ | refine below_drewN ?_ _)
  go_enter Tryz.func15, Tryz.ntmps15
  go_wp2_with fail
  generalize hW0 : ((w.alloc (.cells #[.slice H.Heap.Bytes.a H.Heap.Bytes.len H.Heap.Bytes.cap, .slice H.Heap.Class.a H.Heap.Class.len H.Heap.Class.cap, .slice H.Lists.Global.a H.Lists.Global.len H.Lists.Global.cap, .slice H.Lists.Own.a H.Lists.Own.len H.Lists.Own.cap] 36)).alloc (.cells #[.slice none 0 0, .slice none 0 0, .slice none 0 0, .slice none 0 0] 36)) = w0 at B_a B_r hB ⊢
  clear hW0
  have zz_a := B_a.lt
  have zz_r := B_r.lt
  have q_a_0 := B_a.cell 0 _ rfl
  have q_a_1 := B_a.cell 1 _ rfl
  have q_a_2 := B_a.cell 2 _ rfl
  have q_a_3 := B_a.cell 3 _ rfl
  have fr_a := B_a.fro
  have z_a := B_a.lt
  have q_r_0 := B_r.cell 0 _ rfl
  have q_r_1 := B_r.cell 1 _ rfl
  have q_r_2 := B_r.cell 2 _ rfl
  have q_r_3 := B_r.cell 3 _ rfl
  have fr_r := B_r.fro
  have z_r := B_r.lt
  refine (hcp _ hB).mono ?_
  rintro e w1 ⟨K_c, rfl, o_c, l_c, hb⟩
  have u_c := o_c.lt
  replace B_a := B_a.below hb
  replace B_r := B_r.below hb
  replace hB := hB.trans (hb.mono hB.size)
  have sz := hb.size
  clear hb
  replace q_a_0 := B_a.cell 0 _ rfl
  replace q_a_1 := B_a.cell 1 _ rfl
  replace q_a_2 := B_a.cell 2 _ rfl
  replace q_a_3 := B_a.cell 3 _ rfl
  replace fr_a := B_a.fro
  replace z_a := B_a.lt
  replace q_r_0 := B_r.cell 0 _ rfl
  replace q_r_1 := B_r.cell 1 _ rfl
  replace q_r_2 := B_r.cell 2 _ rfl
  replace q_r_3 := B_r.cell 3 _ rfl
  replace fr_r := B_r.fro
  replace z_r := B_r.lt
  clear hcp
  go_wp2_with (go_at_call 45; refine (hco _).mono ?_; rintro e wv ⟨rfl, rfl⟩)
  replace B_a := B_a.alloc (.cells #[.slice K_c.Heap.Bytes.a K_c.Heap.Bytes.len K_c.Heap.Bytes.cap, .slice K_c.Heap.Class.a K_c.Heap.Class.len K_c.Heap.Class.cap, .slice K_c.Lists.Global.a K_c.Lists.Global.len K_c.Lists.Global.cap, .slice K_c.Lists.Own.a K_c.Lists.Own.len K_c.Lists.Own.cap] 36)
  replace B_r := B_r.alloc (.cells #[.slice K_c.Heap.Bytes.a K_c.Heap.Bytes.len K_c.Heap.Bytes.cap, .slice K_c.Heap.Class.a K_c.Heap.Class.len K_c.Heap.Class.cap, .slice K_c.Lists.Global.a K_c.Lists.Global.len K_c.Lists.Global.cap, .slice K_c.Lists.Own.a K_c.Lists.Own.len K_c.Lists.Own.cap] 36)
  replace o_c := o_c.alloc_ (.cells #[.slice K_c.Heap.Bytes.a K_c.Heap.Bytes.len K_c.Heap.Bytes.cap, .slice K_c.Heap.Class.a K_c.Heap.Class.len K_c.Heap.Class.cap, .slice K_c.Lists.Global.a K_c.Lists.Global.len K_c.Lists.Global.cap, .slice K_c.Lists.Own.a K_c.Lists.Own.len K_c.Lists.Own.cap] 36)
  replace hB := hB.alloc hB.size (.cells #[.slice K_c.Heap.Bytes.a K_c.Heap.Bytes.len K_c.Heap.Bytes.cap, .slice K_c.Heap.Class.a K_c.Heap.Class.len K_c.Heap.Class.cap, .slice K_c.Lists.Global.a K_c.Lists.Global.len K_c.Lists.Global.cap, .slice K_c.Lists.Own.a K_c.Lists.Own.len K_c.Lists.Own.cap] 36)
  have B_o : Box (w1.alloc (.cells #[.slice K_c.Heap.Bytes.a K_c.Heap.Bytes.len K_c.Heap.Bytes.cap, .slice K_c.Heap.Class.a K_c.Heap.Class.len K_c.Heap.Class.cap, .slice K_c.Lists.Global.a K_c.Lists.Global.len K_c.Lists.Global.cap, .slice K_c.Lists.Own.a K_c.Lists.Own.len K_c.Lists.Own.cap] 36)) w1.heap.size [.slice K_c.Heap.Bytes.a K_c.Heap.Bytes.len K_c.Heap.Bytes.cap, .slice K_c.Heap.Class.a K_c.Heap.Class.len K_c.Heap.Class.cap, .slice K_c.Lists.Global.a K_c.Lists.Global.len K_c.Lists.Global.cap, .slice K_c.Lists.Own.a K_c.Lists.Own.len K_c.Lists.Own.cap] := Box.new w1 #[.slice K_c.Heap.Bytes.a K_c.Heap.Bytes.len K_c.Heap.Bytes.cap, .slice K_c.Heap.Class.a K_c.Heap.Class.len K_c.Heap.Class.cap, .slice K_c.Lists.Global.a K_c.Lists.Global.len K_c.Lists.Global.cap, .slice K_c.Lists.Own.a K_c.Lists.Own.len K_c.Lists.Own.cap] 36
  have zz_o := B_o.lt
  have sz : w1.heap.size ≤ (w1.alloc (.cells #[.slice K_c.Heap.Bytes.a K_c.Heap.Bytes.len K_c.Heap.Bytes.cap, .slice K_c.Heap.Class.a K_c.Heap.Class.len K_c.Heap.Class.cap, .slice K_c.Lists.Global.a K_c.Lists.Global.len K_c.Lists.Global.cap, .slice K_c.Lists.Own.a K_c.Lists.Own.len K_c.Lists.Own.cap] 36)).heap.size := Nat.le_of_lt B_o.lt
  generalize hG : (w1.alloc (.cells #[.slice K_c.Heap.Bytes.a K_c.Heap.Bytes.len K_c.Heap.Bytes.cap, .slice K_c.Heap.Class.a K_c.Heap.Class.len K_c.Heap.Class.cap, .slice K_c.Lists.Global.a K_c.Lists.Global.len K_c.Lists.Global.cap, .slice K_c.Lists.Own.a K_c.Lists.Own.len K_c.Lists.Own.cap] 36)) = w2 at B_a B_r o_c hB B_o zz_o sz ⊢
  clear hG
  replace q_a_0 := B_a.cell 0 _ rfl
  replace q_a_1 := B_a.cell 1 _ rfl
  replace q_a_2 := B_a.cell 2 _ rfl
  replace q_a_3 := B_a.cell 3 _ rfl
  replace fr_a := B_a.fro
  replace z_a := B_a.lt
  replace q_r_0 := B_r.cell 0 _ rfl
  replace q_r_1 := B_r.cell 1 _ rfl
  replace q_r_2 := B_r.cell 2 _ rfl
  replace q_r_3 := B_r.cell 3 _ rfl
  replace fr_r := B_r.fro
  replace z_r := B_r.lt
  have q_o_0 := B_o.cell 0 _ rfl
  have q_o_1 := B_o.cell 1 _ rfl
  have q_o_2 := B_o.cell 2 _ rfl
  have q_o_3 := B_o.cell 3 _ rfl
  have fr_o := B_o.fro
  have z_o := B_o.lt
  refine (hmo _ hB).mono ?_
  rintro e w3 ⟨rfl, hb⟩
  replace B_a := B_a.below hb
  replace B_r := B_r.below hb
  replace B_o := B_o.below hb
  have o_c := o_c.step0 hb
  replace hB := hB.trans (hb.mono hB.size)
  have sz := hb.size
  clear hb
  replace q_a_0 := B_a.cell 0 _ rfl
  replace q_a_1 := B_a.cell 1 _ rfl
  replace q_a_2 := B_a.cell 2 _ rfl
  replace q_a_3 := B_a.cell 3 _ rfl
  replace fr_a := B_a.fro
  replace z_a := B_a.lt
  replace q_r_0 := B_r.cell 0 _ rfl
  replace q_r_1 := B_r.cell 1 _ rfl
  replace q_r_2 := B_r.cell 2 _ rfl
  replace q_r_3 := B_r.cell 3 _ rfl
  replace fr_r := B_r.fro
  replace z_r := B_r.lt
  replace q_o_0 := B_o.cell 0 _ rfl
  replace q_o_1 := B_o.cell 1 _ rfl
  replace q_o_2 := B_o.cell 2 _ rfl
  replace q_o_3 := B_o.cell 3 _ rfl
  replace fr_o := B_o.fro
  replace z_o := B_o.lt
  clear hmo
  go_wp2_with (go_at_call 21; refine (l1In_ct _ _ _ _).mono ?_; rw [c2]; rintro e wv ⟨rfl, rfl⟩)
  refine (hto _ K_c.Lists o_c.Lists.rd').mono ?_
  rintro e w4 ⟨K_u, rfl, o_u, l_u, hb⟩
  have u_u := o_u.lt
  replace B_a := B_a.below hb
  replace B_r := B_r.below hb
  replace B_o := B_o.below hb
  replace o_c := o_c.step0 hb
  replace hB := hB.trans (hb.mono hB.size)
  have sz := hb.size
  clear hb
  replace q_a_0 := B_a.cell 0 _ rfl
  replace q_a_1 := B_a.cell 1 _ rfl
  replace q_a_2 := B_a.cell 2 _ rfl
  replace q_a_3 := B_a.cell 3 _ rfl
  replace fr_a := B_a.fro
  replace z_a := B_a.lt
  replace q_r_0 := B_r.cell 0 _ rfl
  replace q_r_1 := B_r.cell 1 _ rfl
  replace q_r_2 := B_r.cell 2 _ rfl
  replace q_r_3 := B_r.cell 3 _ rfl
  replace fr_r := B_r.fro
  replace z_r := B_r.lt
  replace q_o_0 := B_o.cell 0 _ rfl
  replace q_o_1 := B_o.cell 1 _ rfl
  replace q_o_2 := B_o.cell 2 _ rfl
  replace q_o_3 := B_o.cell 3 _ rfl
  replace fr_o := B_o.fro
  replace z_o := B_o.lt
  clear hto
  go_wp2_with fail
  replace B_a := B_a.alloc (.cells #[.slice K_u.Global.a K_u.Global.len K_u.Global.cap, .slice K_u.Own.a K_u.Own.len K_u.Own.cap] 34)
  replace B_r := B_r.alloc (.cells #[.slice K_u.Global.a K_u.Global.len K_u.Global.cap, .slice K_u.Own.a K_u.Own.len K_u.Own.cap] 34)
  replace B_o := B_o.alloc (.cells #[.slice K_u.Global.a K_u.Global.len K_u.Global.cap, .slice K_u.Own.a K_u.Own.len K_u.Own.cap] 34)
  replace o_c := o_c.alloc_ (.cells #[.slice K_u.Global.a K_u.Global.len K_u.Global.cap, .slice K_u.Own.a K_u.Own.len K_u.Own.cap] 34)
  replace o_u := o_u.alloc_ (.cells #[.slice K_u.Global.a K_u.Global.len K_u.Global.cap, .slice K_u.Own.a K_u.Own.len K_u.Own.cap] 34)
  replace hB := hB.alloc hB.size (.cells #[.slice K_u.Global.a K_u.Global.len K_u.Global.cap, .slice K_u.Own.a K_u.Own.len K_u.Own.cap] 34)
  have B_p : Box (w4.alloc (.cells #[.slice K_u.Global.a K_u.Global.len K_u.Global.cap, .slice K_u.Own.a K_u.Own.len K_u.Own.cap] 34)) w4.heap.size [.slice K_u.Global.a K_u.Global.len K_u.Global.cap, .slice K_u.Own.a K_u.Own.len K_u.Own.cap] := Box.new w4 #[.slice K_u.Global.a K_u.Global.len K_u.Global.cap, .slice K_u.Own.a K_u.Own.len K_u.Own.cap] 34
  have zz_p := B_p.lt
  have sz : w4.heap.size ≤ (w4.alloc (.cells #[.slice K_u.Global.a K_u.Global.len K_u.Global.cap, .slice K_u.Own.a K_u.Own.len K_u.Own.cap] 34)).heap.size := Nat.le_of_lt B_p.lt
  generalize hG : (w4.alloc (.cells #[.slice K_u.Global.a K_u.Global.len K_u.Global.cap, .slice K_u.Own.a K_u.Own.len K_u.Own.cap] 34)) = w5 at B_a B_r B_o o_c o_u hB B_p zz_p sz ⊢
  clear hG
  replace q_a_0 := B_a.cell 0 _ rfl
  replace q_a_1 := B_a.cell 1 _ rfl
  replace q_a_2 := B_a.cell 2 _ rfl
  replace q_a_3 := B_a.cell 3 _ rfl
  replace fr_a := B_a.fro
  replace z_a := B_a.lt
  replace q_r_0 := B_r.cell 0 _ rfl
  replace q_r_1 := B_r.cell 1 _ rfl
  replace q_r_2 := B_r.cell 2 _ rfl
  replace q_r_3 := B_r.cell 3 _ rfl
  replace fr_r := B_r.fro
  replace z_r := B_r.lt
  replace q_o_0 := B_o.cell 0 _ rfl
  replace q_o_1 := B_o.cell 1 _ rfl
  replace q_o_2 := B_o.cell 2 _ rfl
  replace q_o_3 := B_o.cell 3 _ rfl
  replace fr_o := B_o.fro
  replace z_o := B_o.lt
  have q_p_0 := B_p.cell 0 _ rfl
  have q_p_1 := B_p.cell 1 _ rfl
  have fr_p := B_p.fro
  have z_p := B_p.lt
  refine (htg _ K_u o_u.rd').mono ?_
  rintro e w6 ⟨K_t, rfl, o_t, l_t, hb⟩
  have u_t := o_t.lt
  replace B_a := B_a.below hb
  replace B_r := B_r.below hb
  replace B_o := B_o.below hb
  replace B_p := B_p.below hb
  replace o_c := o_c.step0 hb
  have o_u := o_u.step0 hb
  replace hB := hB.trans (hb.mono hB.size)
  have sz := hb.size
  clear hb
  replace q_a_0 := B_a.cell 0 _ rfl
  replace q_a_1 := B_a.cell 1 _ rfl
  replace q_a_2 := B_a.cell 2 _ rfl
  replace q_a_3 := B_a.cell 3 _ rfl
  replace fr_a := B_a.fro
  replace z_a := B_a.lt
  replace q_r_0 := B_r.cell 0 _ rfl
  replace q_r_1 := B_r.cell 1 _ rfl
  replace q_r_2 := B_r.cell 2 _ rfl
  replace q_r_3 := B_r.cell 3 _ rfl
  replace fr_r := B_r.fro
  replace z_r := B_r.lt
  replace q_o_0 := B_o.cell 0 _ rfl
  replace q_o_1 := B_o.cell 1 _ rfl
  replace q_o_2 := B_o.cell 2 _ rfl
  replace q_o_3 := B_o.cell 3 _ rfl
  replace fr_o := B_o.fro
  replace z_o := B_o.lt
  replace q_p_0 := B_p.cell 0 _ rfl
  replace q_p_1 := B_p.cell 1 _ rfl
  replace fr_p := B_p.fro
  replace z_p := B_p.lt
  clear htg
  go_upto_region 10 with (fail)
  replace B_a : Box ((w6.setCell ⟨w4.heap.size, 0, none⟩ (.slice K_t.Global.a K_t.Global.len K_t.Global.cap)).setCell ⟨w4.heap.size, 1, none⟩ (.slice K_t.Own.a K_t.Own.len K_t.Own.cap)) (w.heap.size) [.slice H.Heap.Bytes.a H.Heap.Bytes.len H.Heap.Bytes.cap, .slice H.Heap.Class.a H.Heap.Class.len H.Heap.Class.cap, .slice H.Lists.Global.a H.Lists.Global.len H.Lists.Global.cap, .slice H.Lists.Own.a H.Lists.Own.len H.Lists.Own.cap] := ((B_a.other (by omega) _).other (by omega) _)
  replace B_r : Box ((w6.setCell ⟨w4.heap.size, 0, none⟩ (.slice K_t.Global.a K_t.Global.len K_t.Global.cap)).setCell ⟨w4.heap.size, 1, none⟩ (.slice K_t.Own.a K_t.Own.len K_t.Own.cap)) (w.heap.size + 1) [.slice none 0 0, .slice none 0 0, .slice none 0 0, .slice none 0 0] := ((B_r.other (by omega) _).other (by omega) _)
  replace B_o : Box ((w6.setCell ⟨w4.heap.size, 0, none⟩ (.slice K_t.Global.a K_t.Global.len K_t.Global.cap)).setCell ⟨w4.heap.size, 1, none⟩ (.slice K_t.Own.a K_t.Own.len K_t.Own.cap)) (w1.heap.size) [.slice K_c.Heap.Bytes.a K_c.Heap.Bytes.len K_c.Heap.Bytes.cap, .slice K_c.Heap.Class.a K_c.Heap.Class.len K_c.Heap.Class.cap, .slice K_c.Lists.Global.a K_c.Lists.Global.len K_c.Lists.Global.cap, .slice K_c.Lists.Own.a K_c.Lists.Own.len K_c.Lists.Own.cap] := ((B_o.other (by omega) _).other (by omega) _)
  replace B_p : Box ((w6.setCell ⟨w4.heap.size, 0, none⟩ (.slice K_t.Global.a K_t.Global.len K_t.Global.cap)).setCell ⟨w4.heap.size, 1, none⟩ (.slice K_t.Own.a K_t.Own.len K_t.Own.cap)) (w4.heap.size) [.slice K_t.Global.a K_t.Global.len K_t.Global.cap, .slice K_t.Own.a K_t.Own.len K_t.Own.cap] := ((B_p.set 0 (.slice K_t.Global.a K_t.Global.len K_t.Global.cap)).set 1 (.slice K_t.Own.a K_t.Own.len K_t.Own.cap))
  replace o_c := o_c.chg (F := [w4.heap.size]) (w' := ((w6.setCell ⟨w4.heap.size, 0, none⟩ (.slice K_t.Global.a K_t.Global.len K_t.Global.cap)).setCell ⟨w4.heap.size, 1, none⟩ (.slice K_t.Own.a K_t.Own.len K_t.Own.cap))) (by repeat (first | with_reducible exact Chg.refl _ _ | with_reducible refine Chg.set_ ?_ (by simp) _ | with_reducible refine Chg.alloc_ ?_ _ | with_reducible refine Chg.drew_ ?_)) (fun g hg hm => by simp only [List.mem_cons, List.not_mem_nil, or_false] at hm; have := l_c g hg; have := u_c g hg; omega)
  replace o_u := o_u.chg (F := [w4.heap.size]) (w' := ((w6.setCell ⟨w4.heap.size, 0, none⟩ (.slice K_t.Global.a K_t.Global.len K_t.Global.cap)).setCell ⟨w4.heap.size, 1, none⟩ (.slice K_t.Own.a K_t.Own.len K_t.Own.cap))) (by repeat (first | with_reducible exact Chg.refl _ _ | with_reducible refine Chg.set_ ?_ (by simp) _ | with_reducible refine Chg.alloc_ ?_ _ | with_reducible refine Chg.drew_ ?_)) (fun g hg hm => by simp only [List.mem_cons, List.not_mem_nil, or_false] at hm; have := l_u g hg; have := u_u g hg; omega)
  replace o_t := o_t.chg (F := [w4.heap.size]) (w' := ((w6.setCell ⟨w4.heap.size, 0, none⟩ (.slice K_t.Global.a K_t.Global.len K_t.Global.cap)).setCell ⟨w4.heap.size, 1, none⟩ (.slice K_t.Own.a K_t.Own.len K_t.Own.cap))) (by repeat (first | with_reducible exact Chg.refl _ _ | with_reducible refine Chg.set_ ?_ (by simp) _ | with_reducible refine Chg.alloc_ ?_ _ | with_reducible refine Chg.drew_ ?_)) (fun g hg hm => by simp only [List.mem_cons, List.not_mem_nil, or_false] at hm; have := l_t g hg; have := u_t g hg; omega)
  replace hB : Below w.heap.size w ((w6.setCell ⟨w4.heap.size, 0, none⟩ (.slice K_t.Global.a K_t.Global.len K_t.Global.cap)).setCell ⟨w4.heap.size, 1, none⟩ (.slice K_t.Own.a K_t.Own.len K_t.Own.cap)) := Below.trans hB (by repeat (first | with_reducible exact Below.refl _ _ | with_reducible refine Below.setCell ?_ (by simp <;> omega) _ | with_reducible refine Below.alloc ?_ (by simp <;> omega) _ | with_reducible refine Below.drew ?_))
  have sz : w6.heap.size ≤ ((w6.setCell ⟨w4.heap.size, 0, none⟩ (.slice K_t.Global.a K_t.Global.len K_t.Global.cap)).setCell ⟨w4.heap.size, 1, none⟩ (.slice K_t.Own.a K_t.Own.len K_t.Own.cap)).heap.size := by simp
  generalize hG : ((w6.setCell ⟨w4.heap.size, 0, none⟩ (.slice K_t.Global.a K_t.Global.len K_t.Global.cap)).setCell ⟨w4.heap.size, 1, none⟩ (.slice K_t.Own.a K_t.Own.len K_t.Own.cap)) = w7 at B_a B_r B_o B_p o_c o_u o_t hB sz ⊢
  clear hG
  replace q_a_0 := B_a.cell 0 _ rfl
  replace q_a_1 := B_a.cell 1 _ rfl
  replace q_a_2 := B_a.cell 2 _ rfl
  replace q_a_3 := B_a.cell 3 _ rfl
  replace fr_a := B_a.fro
  replace z_a := B_a.lt
  replace q_r_0 := B_r.cell 0 _ rfl
  replace q_r_1 := B_r.cell 1 _ rfl
  replace q_r_2 := B_r.cell 2 _ rfl
  replace q_r_3 := B_r.cell 3 _ rfl
  replace fr_r := B_r.fro
  replace z_r := B_r.lt
  replace q_o_0 := B_o.cell 0 _ rfl
  replace q_o_1 := B_o.cell 1 _ rfl
  replace q_o_2 := B_o.cell 2 _ rfl
  replace q_o_3 := B_o.cell 3 _ rfl
  replace fr_o := B_o.fro
  replace z_o := B_o.lt
  replace q_p_0 := B_p.cell 0 _ rfl
  replace q_p_1 := B_p.cell 1 _ rfl
  replace fr_p := B_p.fro
  replace z_p := B_p.lt
  go_upto_region 12 with (fail)
  replace B_a : Box ((w7.setCell ⟨w1.heap.size, 2, none⟩ (.slice K_t.Global.a K_t.Global.len K_t.Global.cap)).setCell ⟨w1.heap.size, 3, none⟩ (.slice K_t.Own.a K_t.Own.len K_t.Own.cap)) (w.heap.size) [.slice H.Heap.Bytes.a H.Heap.Bytes.len H.Heap.Bytes.cap, .slice H.Heap.Class.a H.Heap.Class.len H.Heap.Class.cap, .slice H.Lists.Global.a H.Lists.Global.len H.Lists.Global.cap, .slice H.Lists.Own.a H.Lists.Own.len H.Lists.Own.cap] := ((B_a.other (by omega) _).other (by omega) _)
  replace B_r : Box ((w7.setCell ⟨w1.heap.size, 2, none⟩ (.slice K_t.Global.a K_t.Global.len K_t.Global.cap)).setCell ⟨w1.heap.size, 3, none⟩ (.slice K_t.Own.a K_t.Own.len K_t.Own.cap)) (w.heap.size + 1) [.slice none 0 0, .slice none 0 0, .slice none 0 0, .slice none 0 0] := ((B_r.other (by omega) _).other (by omega) _)
  replace B_o : Box ((w7.setCell ⟨w1.heap.size, 2, none⟩ (.slice K_t.Global.a K_t.Global.len K_t.Global.cap)).setCell ⟨w1.heap.size, 3, none⟩ (.slice K_t.Own.a K_t.Own.len K_t.Own.cap)) (w1.heap.size) [.slice K_c.Heap.Bytes.a K_c.Heap.Bytes.len K_c.Heap.Bytes.cap, .slice K_c.Heap.Class.a K_c.Heap.Class.len K_c.Heap.Class.cap, .slice K_t.Global.a K_t.Global.len K_t.Global.cap, .slice K_t.Own.a K_t.Own.len K_t.Own.cap] := ((B_o.set 2 (.slice K_t.Global.a K_t.Global.len K_t.Global.cap)).set 3 (.slice K_t.Own.a K_t.Own.len K_t.Own.cap))
  replace B_p : Box ((w7.setCell ⟨w1.heap.size, 2, none⟩ (.slice K_t.Global.a K_t.Global.len K_t.Global.cap)).setCell ⟨w1.heap.size, 3, none⟩ (.slice K_t.Own.a K_t.Own.len K_t.Own.cap)) (w4.heap.size) [.slice K_t.Global.a K_t.Global.len K_t.Global.cap, .slice K_t.Own.a K_t.Own.len K_t.Own.cap] := ((B_p.other (by omega) _).other (by omega) _)
  replace o_c := o_c.chg (F := [w1.heap.size]) (w' := ((w7.setCell ⟨w1.heap.size, 2, none⟩ (.slice K_t.Global.a K_t.Global.len K_t.Global.cap)).setCell ⟨w1.heap.size, 3, none⟩ (.slice K_t.Own.a K_t.Own.len K_t.Own.cap))) (by repeat (first | with_reducible exact Chg.refl _ _ | with_reducible refine Chg.set_ ?_ (by simp) _ | with_reducible refine Chg.alloc_ ?_ _ | with_reducible refine Chg.drew_ ?_)) (fun g hg hm => by simp only [List.mem_cons, List.not_mem_nil, or_false] at hm; have := l_c g hg; have := u_c g hg; omega)
  replace o_u := o_u.chg (F := [w1.heap.size]) (w' := ((w7.setCell ⟨w1.heap.size, 2, none⟩ (.slice K_t.Global.a K_t.Global.len K_t.Global.cap)).setCell ⟨w1.heap.size, 3, none⟩ (.slice K_t.Own.a K_t.Own.len K_t.Own.cap))) (by repeat (first | with_reducible exact Chg.refl _ _ | with_reducible refine Chg.set_ ?_ (by simp) _ | with_reducible refine Chg.alloc_ ?_ _ | with_reducible refine Chg.drew_ ?_)) (fun g hg hm => by simp only [List.mem_cons, List.not_mem_nil, or_false] at hm; have := l_u g hg; have := u_u g hg; omega)
  replace o_t := o_t.chg (F := [w1.heap.size]) (w' := ((w7.setCell ⟨w1.heap.size, 2, none⟩ (.slice K_t.Global.a K_t.Global.len K_t.Global.cap)).setCell ⟨w1.heap.size, 3, none⟩ (.slice K_t.Own.a K_t.Own.len K_t.Own.cap))) (by repeat (first | with_reducible exact Chg.refl _ _ | with_reducible refine Chg.set_ ?_ (by simp) _ | with_reducible refine Chg.alloc_ ?_ _ | with_reducible refine Chg.drew_ ?_)) (fun g hg hm => by simp only [List.mem_cons, List.not_mem_nil, or_false] at hm; have := l_t g hg; have := u_t g hg; omega)
  replace hB : Below w.heap.size w ((w7.setCell ⟨w1.heap.size, 2, none⟩ (.slice K_t.Global.a K_t.Global.len K_t.Global.cap)).setCell ⟨w1.heap.size, 3, none⟩ (.slice K_t.Own.a K_t.Own.len K_t.Own.cap)) := Below.trans hB (by repeat (first | with_reducible exact Below.refl _ _ | with_reducible refine Below.setCell ?_ (by simp <;> omega) _ | with_reducible refine Below.alloc ?_ (by simp <;> omega) _ | with_reducible refine Below.drew ?_))
  have sz : w7.heap.size ≤ ((w7.setCell ⟨w1.heap.size, 2, none⟩ (.slice K_t.Global.a K_t.Global.len K_t.Global.cap)).setCell ⟨w1.heap.size, 3, none⟩ (.slice K_t.Own.a K_t.Own.len K_t.Own.cap)).heap.size := by simp
  generalize hG : ((w7.setCell ⟨w1.heap.size, 2, none⟩ (.slice K_t.Global.a K_t.Global.len K_t.Global.cap)).setCell ⟨w1.heap.size, 3, none⟩ (.slice K_t.Own.a K_t.Own.len K_t.Own.cap)) = w8 at B_a B_r B_o B_p o_c o_u o_t hB sz ⊢
  clear hG
  replace q_a_0 := B_a.cell 0 _ rfl
  replace q_a_1 := B_a.cell 1 _ rfl
  replace q_a_2 := B_a.cell 2 _ rfl
  replace q_a_3 := B_a.cell 3 _ rfl
  replace fr_a := B_a.fro
  replace z_a := B_a.lt
  replace q_r_0 := B_r.cell 0 _ rfl
  replace q_r_1 := B_r.cell 1 _ rfl
  replace q_r_2 := B_r.cell 2 _ rfl
  replace q_r_3 := B_r.cell 3 _ rfl
  replace fr_r := B_r.fro
  replace z_r := B_r.lt
  replace q_o_0 := B_o.cell 0 _ rfl
  replace q_o_1 := B_o.cell 1 _ rfl
  replace q_o_2 := B_o.cell 2 _ rfl
  replace q_o_3 := B_o.cell 3 _ rfl
  replace fr_o := B_o.fro
  replace z_o := B_o.lt
  replace q_p_0 := B_p.cell 0 _ rfl
  replace q_p_1 := B_p.cell 1 _ rfl
  replace fr_p := B_p.fro
  replace z_p := B_p.lt
  go_wp2_with fail
  refine (l9Grant_no _ ⟨K_c.Heap, K_t⟩ x x.Heap c o_c.Heap.rd' hsh hp).mono ?_
  rintro e w9 ⟨rfl, hb⟩
  replace B_a := B_a.below hb
  replace B_r := B_r.below hb
  replace B_o := B_o.below hb
  replace B_p := B_p.below hb
  replace o_c := o_c.step0 hb
  replace o_u := o_u.step0 hb
  have o_t := o_t.step0 hb
  replace hB := hB.trans (hb.mono hB.size)
  have sz := hb.size
  clear hb
  replace q_a_0 := B_a.cell 0 _ rfl
  replace q_a_1 := B_a.cell 1 _ rfl
  replace q_a_2 := B_a.cell 2 _ rfl
  replace q_a_3 := B_a.cell 3 _ rfl
  replace fr_a := B_a.fro
  replace z_a := B_a.lt
  replace q_r_0 := B_r.cell 0 _ rfl
  replace q_r_1 := B_r.cell 1 _ rfl
  replace q_r_2 := B_r.cell 2 _ rfl
  replace q_r_3 := B_r.cell 3 _ rfl
  replace fr_r := B_r.fro
  replace z_r := B_r.lt
  replace q_o_0 := B_o.cell 0 _ rfl
  replace q_o_1 := B_o.cell 1 _ rfl
  replace q_o_2 := B_o.cell 2 _ rfl
  replace q_o_3 := B_o.cell 3 _ rfl
  replace fr_o := B_o.fro
  replace z_o := B_o.lt
  replace q_p_0 := B_p.cell 0 _ rfl
  replace q_p_1 := B_p.cell 1 _ rfl
  replace fr_p := B_p.fro
  replace z_p := B_p.lt
  go_wp2_with fail
  refine bodyPost_ret (v := .tuple #[.agg #[.slice K_c.Heap.Bytes.a K_c.Heap.Bytes.len K_c.Heap.Bytes.cap, .slice K_c.Heap.Class.a K_c.Heap.Class.len K_c.Heap.Class.cap, .slice K_t.Global.a K_t.Global.len K_t.Global.cap, .slice K_t.Own.a K_t.Own.len K_t.Own.cap], .int .i64 0, .int .i64 3]) (by simp [results, Tryz.results15, go_sem, q_r_0, q_r_1, q_r_2, q_r_3]) rfl ⟨⟨K_c.Heap, K_t⟩, rfl, ⟨(o_c.chg (F := [w.heap.size + 1, w1.heap.size]) (by repeat (first | with_reducible exact Chg.refl _ _ | with_reducible refine Chg.set_ ?_ (by simp) _ | with_reducible refine Chg.alloc_ ?_ _ | with_reducible refine Chg.drew_ ?_)) (fun g hg hm => by simp only [List.mem_cons, List.not_mem_nil, or_false] at hm; have := l_c g hg; have := u_c g hg; omega)).Heap, o_t.chg (F := [w.heap.size + 1, w1.heap.size]) (by repeat (first | with_reducible exact Chg.refl _ _ | with_reducible refine Chg.set_ ?_ (by simp) _ | with_reducible refine Chg.alloc_ ?_ _ | with_reducible refine Chg.drew_ ?_)) (fun g hg hm => by simp only [List.mem_cons, List.not_mem_nil, or_false] at hm; have := l_t g hg; have := u_t g hg; omega), fun b hb hm => by have := u_c b (HMem.mem_foot.2 (.inl hb)); have := l_t b hm; omega⟩, fun b hb => by rcases HMem.mem_foot.1 hb with hb | hb; (have := l_c b (HMem.mem_foot.2 (.inl hb)); omega); (have := l_t b hb; omega), Below.trans hB (by repeat (first | with_reducible exact Below.refl _ _ | with_reducible refine Below.setCell ?_ (by simp <;> omega) _ | with_reducible refine Below.alloc ?_ (by simp <;> omega) _ | with_reducible refine Below.drew ?_))⟩
end Go.Proofs.YtpjijbonpjoamaaGreat

/-
  A page granted, the other package: the contract.
-/
namespace Go.Proofs.YtpjijbonpjoamaaGreat
open Go.RowKit

theorem Chg.trans_fr {F G : List Nat} {a c d : World} (h : Chg F a c) (h3 : Chg G c d) (hr : ∀ g ∈ G, g ∈ F ∨ a.heap.size ≤ g) : Chg F a d :=
  ⟨h3.os.trans h.os, h3.tape.trans h.tape, h3.output.trans h.output, Nat.le_trans h.size h3.size, fun k hk hn => by
    rw [h3.block k (Nat.lt_of_lt_of_le hk h.size) (fun hm => by rcases hr k hm with hh | hh; (exact hn hh); omega), h.block k hk hn]⟩
theorem idx_before {l : List Int} {x : Int} {p : Nat} (h : idxOf (fun y => y == x) l = (p : Int)) {k : Nat} (hk : k < p) (hl : k < l.length) : ¬ l[k] = x := by
  intro he
  unfold idxOf at h
  cases hx : l.findIdx? (fun y => y == x) with
  | none => rw [hx] at h; simp at h
  | some i =>
    rw [hx] at h
    simp at h
    obtain rfl : i = p := by omega
    have := (List.findIdx?_eq_some_iff_getElem.1 hx).2.2 k hk
    simp [he] at this
theorem idx_at {l : List Int} {x : Int} {p : Nat} (h : idxOf (fun y => y == x) l = (p : Int)) (hl : p < l.length) : l[p] = x := by
  unfold idxOf at h
  cases hx : l.findIdx? (fun y => y == x) with
  | none => rw [hx] at h; simp at h
  | some i =>
    rw [hx] at h
    simp at h
    obtain rfl : i = p := by omega
    have := (List.findIdx?_eq_some_iff_getElem.1 hx).2.1
    simpa using this
set_option maxHeartbeats 400000 in
theorem SlotAtN_spec (p i : Nat) (hp : p < 6) (hi : i < 4) (w : World) : Calls Tryz.prog 128 #[.int .i64 p, .int .i64 i] w fun e w' => e = .returned (.int .i64 ((p * 4 + i : Nat) : Int)) ∧ w = w' := by
  have k1 : inB 0 5 (p : Int) = true := inB_iff.2 ⟨by omega, by omega⟩
  have k2 : inB 0 3 (i : Int) = true := inB_iff.2 ⟨by omega, by omega⟩
  go_enter Tryz.func128, Tryz.ntmps128
  go_wp2_with (go_at_call 21; refine (l1In_ct _ _ _ _).mono ?_; (first | rw [k1] | rw [k2]); rintro e w1 ⟨rfl, rfl⟩)
  go_ret
  exact ⟨ret_i64 (by omega), rfl⟩
theorem OwL.setI {w : World} {g n c : Nat} {l : List Int} (h : OwL FI 3 w (.slice (some ⟨g, 0, none⟩) n c) l) {k : Nat} (hk : k < l.length) (y : Int) : OwL FI 3 (w.setCell ⟨g, k, none⟩ (.int .i64 y)) (.slice (some ⟨g, 0, none⟩) n c) (l.set k y) := by
  have := h.set_ (y := y) (u := .int .i64 y) (List.getElem?_eq_getElem hk) FI.pos rfl
  rw [show k * FI.n + 0 = k by simp [FI]] at this
  exact this
theorem OwL.setO {α : Type} {T : FT α} {e : TypeId} {w : World} {g n c : Nat} {l : List α} (h : OwL T e w (.slice (some ⟨g, 0, none⟩) n c) l) {g' : Nat} (hn : g' ≠ g) (i : Nat) (v : Value) : OwL T e (w.setCell ⟨g', i, none⟩ v) (.slice (some ⟨g, 0, none⟩) n c) l :=
  h.keep fun b hb => heap_set_other w _ (fun e => by simp only [Value.ownBlock, Option.some.injEq] at hb; subst hb; exact hn e)
theorem putAt3 {b : List Int} {q : Nat} {u v t : Int} (hq : q + 3 ≤ b.length) : ((b.set q u).set (q + 1) v).set (q + 2) t = putAt b q [u, v, t] := by
  refine List.ext_getElem? fun j => ?_
  by_cases h : q ≤ j ∧ j < q + 3
  · obtain ⟨i, rfl⟩ : ∃ i, j = q + i := ⟨j - q, by omega⟩
    rw [putAt_get_in (by simp; omega) (by simp; omega)]
    obtain rfl | rfl | rfl : i = 0 ∨ i = 1 ∨ i = 2 := by omega
    · rw [List.getElem?_set_ne (by omega), List.getElem?_set_ne (by omega), Nat.add_zero, List.getElem?_set_self (by omega)]; rfl
    · rw [List.getElem?_set_ne (by omega), List.getElem?_set_self (by simp; omega)]; rfl
    · rw [List.getElem?_set_self (by simp; omega)]; rfl
  · rw [putAt_get_out (by simp; omega) (by simp; omega), List.getElem?_set_ne (by omega), List.getElem?_set_ne (by omega), List.getElem?_set_ne (by omega)]

set_option maxRecDepth 100000 in
set_option maxHeartbeats 8000000 in
theorem l7Grant_yes (w : World) (H : HHeap) (x : Heap) (p c : Nat) (h : OwHeap w H x) (hs : shapeB x = true) (hc : c < 3) (hp : idxOf (fun y => y == -1) x.Class = (p : Int)) :
    Calls Tryz.prog 96 #[.agg #[.slice H.Bytes.a H.Bytes.len H.Bytes.cap, .slice H.Class.a H.Class.len H.Class.cap], .int .i64 c] w fun e w' => ∃ v : SV, e = .returned (.tuple #[.agg #[.slice H.Bytes.a H.Bytes.len H.Bytes.cap, .slice H.Class.a H.Class.len H.Class.cap], .slice v.a v.len v.cap]) ∧ OwHeap w' H (grantH x p c) ∧ OwL FI 3 w' v.val (slotsTo p (perPage (c : Int)).toNat) ∧ (∀ g ∈ foot1 v.val, w.heap.size ≤ g) ∧ Chg H.foot w w' := by
  have sh := shape_of hs
  have hpl := idx_lt hp
  have HBL := Hid.mk_ sh.bl
  have HCL := Hid.mk_ sh.cl
  have hp6 : p < 6 := by rw [sh.cl] at hpl; exact hpl
  have hcl : inB 0 2 (c : Int) = true := inB_iff.2 ⟨by omega, by omega⟩
  obtain ⟨n, hn, hn4, hnn⟩ := perPage_nat hc
  have HGL := Hid.mk_ (fun i (hi : i ≤ n) => grTo_len (b := x.Bytes) (p := p) (c := (c : Int)) sh.bl hp6 hcl i (by omega))
  have HRM := Hid.mk_ (fun i (hi : i < n) => gens_room hcl (i := i) (by omega))
  have HNE := Hid.mk_ (fun k (hk : k < p) => idx_before hp hk (show k < x.Class.length by omega))
  have HAT := Hid.mk_ (idx_at hp hpl)
  have hpp := fun W => PerPage_spec (c : Int) W
  rw [hn] at hpp
  have hsa := fun i (hi : i < n) W => SlotAtN_spec p i hp6 (by omega) W
  have hga : ∀ i, i < n → ∀ W : World, Calls Tryz.prog 68 #[.int .i64 ((p * 4 + i : Nat) : Int), .int .i64 c] W fun e w' => e = .returned (.int .i64 ((p * 64 + 8 + i * (strideOf c).toNat : Nat) : Int)) ∧ W = w' := fun i hi W => by
    have := GenAt_spec (slotAtP p i) (c : Int) W
    rw [genAt_page hp6 hcl (by omega)] at this
    rw [show slotAtP (p : Int) (i : Int) = ((p * 4 + i : Nat) : Int) by unfold slotAtP; rw [if_pos ⟨inB_iff.2 ⟨by omega, by omega⟩, inB_iff.2 ⟨by omega, by omega⟩⟩]; omega] at this
    exact this
  have HGR : Hid (grantH x p c = ⟨grTo x.Bytes p c n, x.Class.set p c⟩) := by
    show _ = _
    unfold grantH
    rw [hnn]
  have HGS := Hid.mk_ (fun i => show grTo x.Bytes p c (i + 1) = putAt (grTo x.Bytes p c i) (p * 64 + 8 + i * (strideOf c).toNat) (digs 4 1) from rfl)
  have HG0 : Hid (((x.Bytes.set (p * 64) 171).set (p * 64 + 1) (c : Int)).set (p * 64 + 2) (n : Int) = grTo x.Bytes p c 0) := by
    show _ = _
    rw [putAt3 (by rw [sh.bl]; omega)]
    unfold grTo
    rw [hn]
  rw [hnn]
  have hlb : p * 64 + 2 < x.Bytes.length := by rw [sh.bl]; omega
  clear sh hs hp hn hnn
  obtain ⟨⟨A1, n1, pB⟩, ⟨A2, n2, pC⟩⟩ := H
  obtain ⟨gB, c1, hv1, hg1⟩ := OwL.form_pos (v := .slice A1 n1 pB) h.Bytes (by rw [HBL.out]; decide)
  obtain ⟨gC, c2, hv2, hg2⟩ := OwL.form_pos (v := .slice A2 n2 pC) h.Class (by rw [HCL.out]; decide)
  injection hv1 with i1 i2 i3
  injection hv2 with j1 j2 j3
  subst i1 i2 i3 j1 j2 j3
  have hBC : gB ≠ gC := fun e => h.d01 gB (foot1_some.2 rfl) (foot1_some.2 e)
  have hCB := hBC.symm
  have oB := (show OwL FI 3 w (.slice (some ⟨gB, 0, none⟩) x.Bytes.length pB) x.Bytes from h.Bytes).alloc_ (.cells #[.slice (some ⟨gB, 0, none⟩) x.Bytes.length pB, .slice (some ⟨gC, 0, none⟩) x.Class.length pC] 31) |>.alloc_ (.cells #[.slice none 0 0, .slice none 0 0] 31)
  have oC := (show OwL FI 3 w (.slice (some ⟨gC, 0, none⟩) x.Class.length pC) x.Class from h.Class).alloc_ (.cells #[.slice (some ⟨gB, 0, none⟩) x.Bytes.length pB, .slice (some ⟨gC, 0, none⟩) x.Class.length pC] 31) |>.alloc_ (.cells #[.slice none 0 0, .slice none 0 0] 31)
  clear h
  have B_a : Box ((w.alloc (.cells #[.slice (some ⟨gB, 0, none⟩) x.Bytes.length pB, .slice (some ⟨gC, 0, none⟩) x.Class.length pC] 31)).alloc (.cells #[.slice none 0 0, .slice none 0 0] 31)) w.heap.size [.slice (some ⟨gB, 0, none⟩) x.Bytes.length pB, .slice (some ⟨gC, 0, none⟩) x.Class.length pC] := (Box.new w #[.slice (some ⟨gB, 0, none⟩) x.Bytes.length pB, .slice (some ⟨gC, 0, none⟩) x.Class.length pC] _).alloc _
  have B_r : Box ((w.alloc (.cells #[.slice (some ⟨gB, 0, none⟩) x.Bytes.length pB, .slice (some ⟨gC, 0, none⟩) x.Class.length pC] 31)).alloc (.cells #[.slice none 0 0, .slice none 0 0] 31)) (w.heap.size + 1) [.slice none 0 0, .slice none 0 0] := by
    have hb := Box.new (w.alloc (.cells #[.slice (some ⟨gB, 0, none⟩) x.Bytes.length pB, .slice (some ⟨gC, 0, none⟩) x.Class.length pC] 31)) #[.slice none 0 0, .slice none 0 0] 31
    rw [World.size_alloc] at hb
    exact hb
  have hFB : gB ∈ HHeap.foot ⟨⟨some ⟨gB, 0, none⟩, x.Bytes.length, pB⟩, ⟨some ⟨gC, 0, none⟩, x.Class.length, pC⟩⟩ := HHeap.mem_foot.2 (.inl (foot1_some.2 rfl))
  have hFC : gC ∈ HHeap.foot ⟨⟨some ⟨gB, 0, none⟩, x.Bytes.length, pB⟩, ⟨some ⟨gC, 0, none⟩, x.Class.length, pC⟩⟩ := HHeap.mem_foot.2 (.inr (foot1_some.2 rfl))
  have hB : Chg (HHeap.foot ⟨⟨some ⟨gB, 0, none⟩, x.Bytes.length, pB⟩, ⟨some ⟨gC, 0, none⟩, x.Class.length, pC⟩⟩) w ((w.alloc (.cells #[.slice (some ⟨gB, 0, none⟩) x.Bytes.length pB, .slice (some ⟨gC, 0, none⟩) x.Class.length pC] 31)).alloc (.cells #[.slice none 0 0, .slice none 0 0] 31)) := ((Chg.refl _ _).alloc_ _).alloc_ _
  show Calls Tryz.prog 96 #[.agg #[.slice (some ⟨gB, 0, none⟩) x.Bytes.length pB, .slice (some ⟨gC, 0, none⟩) x.Class.length pC], .int .i64 c] w _
  go_enter Tryz.func96, Tryz.ntmps96
  go_wp2_with fail
  generalize hW0 : ((w.alloc (.cells #[.slice (some ⟨gB, 0, none⟩) x.Bytes.length pB, .slice (some ⟨gC, 0, none⟩) x.Class.length pC] 31)).alloc (.cells #[.slice none 0 0, .slice none 0 0] 31)) = w0 at oB oC B_a B_r hB ⊢
  clear hW0
  have q_a_0 := B_a.cell 0 _ rfl
  have q_a_1 := B_a.cell 1 _ rfl
  have q_r_0 := B_r.cell 0 _ rfl
  have q_r_1 := B_r.cell 1 _ rfl
  have fr_a := B_a.fro
  have fr_r := B_r.fro
  have z_a := B_a.lt
  have z_r := B_r.lt
  go_loop [6] (fun i => ∃ k : Nat, k ≤ p ∧ i = .int .i64 k) (fun i => p - (intOf i).toNat)
  case atStart => exact ⟨0, Nat.zero_le _, rfl⟩
  case round =>
    obtain ⟨k, hk, rfl⟩ := hrel
    by_cases hlt : k < p
    · have hkl : k < x.Class.length := by omega
      have p0 := oC.cell_ (List.getElem?_eq_getElem hkl) FI.pos
      simp only [FI, Nat.mul_one, Nat.add_zero] at p0
      have hne := HNE.out k hlt
      have hkl2 : (k : Int) < (x.Class.length : Int) := by omega
      generalize x.Class[k] = y at p0 hne
      replace p0 : w0.cell? ⟨gC, k, none⟩ = some (.int .i64 y) := p0
      go_wp2_with fail
      go_round
      · exact ⟨k + 1, by omega, by go_num⟩
      · simp [intOf]; omega
    · obtain rfl : k = p := by omega
      clear HNE hlt hk
      have p0 := oC.cell_ (List.getElem?_eq_getElem hpl) FI.pos
      simp only [FI, Nat.mul_one, Nat.add_zero] at p0
      rw [HAT.out] at p0
      replace p0 : w0.cell? ⟨gC, k, none⟩ = some (.int .i64 (-1)) := p0
      have fC := oC.frozen_ k
      have hkl2 : (k : Int) < (x.Class.length : Int) := by omega
      have fB0 := oB.frozen_ (k * 64)
      have fB1 := oB.frozen_ (k * 64 + 1)
      obtain ⟨y0, hy0⟩ : ∃ y, x.Bytes[k * 64]? = some y := ⟨_, List.getElem?_eq_getElem (by omega)⟩
      have cB0 := oB.cell_ hy0 FI.pos
      simp only [FI, Nat.mul_one, Nat.add_zero] at cB0
      replace cB0 : w0.cell? ⟨gB, k * 64, none⟩ = some (.int .i64 y0) := cB0
      obtain ⟨y1, hy1⟩ : ∃ y, x.Bytes[k * 64 + 1]? = some y := ⟨_, List.getElem?_eq_getElem (by omega)⟩
      have cB1 := oB.cell_ hy1 FI.pos
      simp only [FI, Nat.mul_one, Nat.add_zero] at cB1
      replace cB1 : w0.cell? ⟨gB, k * 64 + 1, none⟩ = some (.int .i64 y1) := cB1
      obtain ⟨q, hq⟩ : ∃ q : Nat, q = k * 64 := ⟨_, rfl⟩
      have hwr : IntKind.i64.wrap ((k : Int) * 64) = (q : Int) := by rw [IntWalk.i64_in _ ⟨by omega, by omega⟩]; omega
      have HLB := Hid.mk_ hlb
      have t0 : (q : Int) < (x.Bytes.length : Int) := by omega
      have t1 : (q : Int) + 1 < (x.Bytes.length : Int) := by omega
      have u0 : (0 : Int) ≤ (q : Int) := by omega
      have u1 : (0 : Int) ≤ (q : Int) + 1 := by omega
      have v1 : ((q : Int) + 1).toNat = q + 1 := by omega
      have r1 : IntKind.i64.wrap ((q : Int) + 1) = (q : Int) + 1 := IntWalk.i64_in _ ⟨by omega, by omega⟩
      have HQ := Hid.mk_ hq
      rw [← hq] at fB0 fB1 cB0 cB1 HG0 hy0 hy1
      clear hq hlb
      have nCa : gC ≠ w.heap.size := by omega
      have naC := nCa.symm
      have nBa : gB ≠ w.heap.size := by omega
      have naB := nBa.symm
      go_upto_region 9 with (fail)
      have oC3 : OwL FI 3 (((w0.setCell ⟨gC, k, none⟩ (.int .i64 c)).setCell ⟨gB, q, none⟩ (.int .i64 171)).setCell ⟨gB, q + 1, none⟩ (.int .i64 c)) (.slice (some ⟨gC, 0, none⟩) x.Class.length pC) (x.Class.set k c) := ((oC.setI hpl c).setO hBC _ _).setO hBC _ _
      have oB3 : OwL FI 3 (((w0.setCell ⟨gC, k, none⟩ (.int .i64 c)).setCell ⟨gB, q, none⟩ (.int .i64 171)).setCell ⟨gB, q + 1, none⟩ (.int .i64 c)) (.slice (some ⟨gB, 0, none⟩) x.Bytes.length pB) ((x.Bytes.set q 171).set (q + 1) c) := by
        have h1 := HQ.out
        have h2 := HLB.out
        exact ((oB.setO hCB _ _).setI (by omega) 171).setI (by rw [List.length_set]; omega) c
      replace hB : Chg (HHeap.foot ⟨⟨some ⟨gB, 0, none⟩, x.Bytes.length, pB⟩, ⟨some ⟨gC, 0, none⟩, x.Class.length, pC⟩⟩) w (((w0.setCell ⟨gC, k, none⟩ (.int .i64 c)).setCell ⟨gB, q, none⟩ (.int .i64 171)).setCell ⟨gB, q + 1, none⟩ (.int .i64 c)) := ((hB.set_ hFC _).set_ hFB _).set_ hFB _
      replace B_a := ((B_a.other (g' := gC) (i := k) (by omega) (.int .i64 c)).other (g' := gB) (i := q) (by omega) (.int .i64 171)).other (g' := gB) (i := q + 1) (by omega) (.int .i64 c)
      replace B_r := ((B_r.other (g' := gC) (i := k) (by omega) (.int .i64 c)).other (g' := gB) (i := q) (by omega) (.int .i64 171)).other (g' := gB) (i := q + 1) (by omega) (.int .i64 c)
      have sz3 : w0.heap.size ≤ (((w0.setCell ⟨gC, k, none⟩ (.int .i64 c)).setCell ⟨gB, q, none⟩ (.int .i64 171)).setCell ⟨gB, q + 1, none⟩ (.int .i64 c)).heap.size := by simp
      clear oB oC p0 fC fB0 fB1 cB0 cB1
      generalize hW3 : (((w0.setCell ⟨gC, k, none⟩ (.int .i64 c)).setCell ⟨gB, q, none⟩ (.int .i64 171)).setCell ⟨gB, q + 1, none⟩ (.int .i64 c)) = w3 at oC3 oB3 hB B_a B_r sz3 ⊢
      clear hW3
      replace q_a_0 := B_a.cell 0 _ rfl
      replace q_a_1 := B_a.cell 1 _ rfl
      replace q_r_0 := B_r.cell 0 _ rfl
      replace q_r_1 := B_r.cell 1 _ rfl
      replace fr_a := B_a.fro
      replace fr_r := B_r.fro
      replace z_a := B_a.lt
      replace z_r := B_r.lt
      obtain ⟨y2, hy2⟩ : ∃ y, ((x.Bytes.set q 171).set (q + 1) (c : Int))[q + 2]? = some y := ⟨_, List.getElem?_eq_getElem (by rw [List.length_set, List.length_set]; have h1 := HQ.out; have h2 := HLB.out; omega)⟩
      have cB2 := oB3.cell_ hy2 FI.pos
      simp only [FI, Nat.mul_one, Nat.add_zero] at cB2
      replace cB2 : w3.cell? ⟨gB, q + 2, none⟩ = some (.int .i64 y2) := cB2
      have fB2 := oB3.frozen_ (q + 2)
      have h1 := HQ.out
      have h2 := HLB.out
      have t2 : (q : Int) + 2 < (x.Bytes.length : Int) := by omega
      have u2 : (0 : Int) ≤ (q : Int) + 2 := by omega
      have v2 : ((q : Int) + 2).toNat = q + 2 := by omega
      have r2 : IntKind.i64.wrap ((q : Int) + 2) = (q : Int) + 2 := IntWalk.i64_in _ ⟨by omega, by omega⟩
      clear h1 h2 hy0 hy1 hy2
      have HY := Hid.mk_ (show q + 2 < ((x.Bytes.set q 171).set (q + 1) (c : Int)).length by rw [List.length_set, List.length_set]; have h1 := HQ.out; have h2 := HLB.out; omega)
      go_cut [] from 10 to 67 (fun wx => OwL FI 3 wx (.slice (some ⟨gB, 0, none⟩) x.Bytes.length pB) (grTo x.Bytes k c 0) ∧ OwL FI 3 wx (.slice (some ⟨gC, 0, none⟩) x.Class.length pC) (x.Class.set k c) ∧ Box wx w.heap.size [.slice (some ⟨gB, 0, none⟩) x.Bytes.length pB, .slice (some ⟨gC, 0, none⟩) x.Class.length pC] ∧ Box wx (w.heap.size + 1) [.slice none 0 0, .slice none 0 0] ∧ Chg (HHeap.foot ⟨⟨some ⟨gB, 0, none⟩, x.Bytes.length, pB⟩, ⟨some ⟨gC, 0, none⟩, x.Class.length, pC⟩⟩) w wx)
      case first =>
        rename_i J9 K9 hJ9 hK9
        go_region_with (go_at_call 115; refine (hpp _).mono ?_; rintro e wv ⟨rfl, rfl⟩)
        all_goals
          refine hK9 _ _ (Met.intro (hJ9 _ _ ?_))
          (repeat apply Exists.intro)
          refine ⟨?_, rfl⟩
          refine ⟨by rw [← HG0.out]; exact (OwL.keep (w' := w3.drew) oB3 (fun _ _ => rfl)).setI HY.out _, (OwL.keep (w' := w3.drew) oC3 (fun _ _ => rfl)).setO hBC _ _, B_a.drew.other (by omega) _, B_r.drew.other (by omega) _, (Chg.drew_ hB).set_ hFB _⟩
      case rest =>
        clear oB3 oC3 B_a B_r hB cB2 fB2 sz3 q_a_0 q_a_1 q_r_0 q_r_1 fr_a fr_r z_a z_r HG0
        obtain ⟨oB, oC, B_a, B_r, hB⟩ := hcut
        have q_a_0 := B_a.cell 0 _ rfl
        have q_a_1 := B_a.cell 1 _ rfl
        have q_r_0 := B_r.cell 0 _ rfl
        have q_r_1 := B_r.cell 1 _ rfl
        have fr_a := B_a.fro
        have fr_r := B_r.fro
        have z_a := B_a.lt
        have z_r := B_r.lt
        have zz := B_r.lt
        have oS : OwL FI 3 (wc.alloc (.cells #[] 3)) (.slice (some ⟨wc.heap.size, 0, none⟩) 0 0) [] := OwL.lit FI [] #[] rfl (by simp [maxLen]) wc 3
        replace oB := oB.alloc_ (.cells #[] 3)
        replace oC := oC.alloc_ (.cells #[] 3)
        replace B_a := B_a.alloc (.cells #[] 3)
        replace B_r := B_r.alloc (.cells #[] 3)
        replace hB := hB.alloc_ (.cells #[] 3)
        go_wp2_with fail
        go_loopw [8, 9] (fun s i wr => ∃ j : Nat, j ≤ n ∧ i = .int .i64 j ∧ OwL FI 3 wr (.slice (some ⟨gB, 0, none⟩) x.Bytes.length pB) (grTo x.Bytes k c j) ∧ OwL FI 3 wr (.slice (some ⟨gC, 0, none⟩) x.Class.length pC) (x.Class.set k c) ∧ OwL FI 3 wr s (slotsTo k j) ∧ (∀ b ∈ foot1 s, w.heap.size + 1 < b) ∧ Box wr w.heap.size [.slice (some ⟨gB, 0, none⟩) x.Bytes.length pB, .slice (some ⟨gC, 0, none⟩) x.Class.length pC] ∧ Box wr (w.heap.size + 1) [.slice none 0 0, .slice none 0 0] ∧ Chg (HHeap.foot ⟨⟨some ⟨gB, 0, none⟩, x.Bytes.length, pB⟩, ⟨some ⟨gC, 0, none⟩, x.Class.length, pC⟩⟩) w wr) (fun _ i _ => n - (intOf i).toNat)
        case atStart => exact ⟨0, Nat.zero_le _, rfl, oB, oC, oS, fun b hb => by have := foot1_some.1 hb; omega, B_a, B_r, hB⟩
        case round =>
          clear oB oC oS B_a B_r hB zz q_a_0 q_a_1 q_r_0 q_r_1 fr_a fr_r z_a z_r
          obtain ⟨j, hj, rfl, o_B, o_C, o_S, fS, B_a, B_r, hB⟩ := hrel
          have q_a_0 := B_a.cell 0 _ rfl
          have q_a_1 := B_a.cell 1 _ rfl
          have q_r_0 := B_r.cell 0 _ rfl
          have q_r_1 := B_r.cell 1 _ rfl
          have fr_a := B_a.fro
          have fr_r := B_r.fro
          have z_a := B_a.lt
          have z_r := B_r.lt
          have zz := B_r.lt
          have HSL := Hid.mk_ (slotsTo_len k j)
          by_cases hlt : j < n
          · have hrm := HRM.out j hlt
            have hgl := HGL.out j hj
            have HGK := Hid.mk_ (HGS.out j)
            have HST := Hid.mk_ (slotsTo_succ k j)
            have hsk := fun W => hsa j hlt W
            have hgk := fun W => hga j hlt W
            have hrm2 : k * 64 + 8 + j * (strideOf (c : Int)).toNat + 4 ≤ (grTo x.Bytes k c j).length := by rw [hgl]; omega
            clear hrm hgl hsa hga HRM HGL HGS
            obtain ⟨P, hP⟩ : ∃ P, P = k * 64 + 8 + j * (strideOf (c : Int)).toNat := ⟨_, rfl⟩
            rw [← hP] at hgk HGK hrm2
            clear hP
            have hst : ∀ W : World, OwL FI 3 W (.slice (some ⟨gB, 0, none⟩) x.Bytes.length pB) (grTo x.Bytes k c j) → Calls Tryz.prog 40 #[.slice (some ⟨gB, 0, none⟩) x.Bytes.length pB, .int .i64 (P : Int), .int .i64 4, .int .i64 1] W fun e w' => e = .returned (.slice (some ⟨gB, 0, none⟩) x.Bytes.length pB) ∧ OwL FI 3 w' (.slice (some ⟨gB, 0, none⟩) x.Bytes.length pB) (putAt (grTo x.Bytes k c j) P (digs 4 1)) ∧ Chg (foot1 (.slice (some ⟨gB, 0, none⟩) x.Bytes.length pB)) W w' := fun W o => l3Store_spec W _ (grTo x.Bytes k c j) P 4 1 o (by decide) (by decide) (by decide) (by decide) hrm2
            clear hrm2
            obtain ⟨sl, hsl⟩ : ∃ q, q = k * 4 + j := ⟨_, rfl⟩
            rw [← hsl] at hsk hgk HST
            clear hsl
            have obd : OwL FI 3 wr.drew (.slice (some ⟨gB, 0, none⟩) x.Bytes.length pB) (grTo x.Bytes k c j) := o_B.keep (fun _ _ => rfl)
            have ob : OwL FI 3 wr (.slice (some ⟨gB, 0, none⟩) x.Bytes.length pB) (grTo x.Bytes k c j) := o_B
            go_upto_region 14 with (go_at_call 115; refine (hpp _).mono ?_; rintro e wv ⟨rfl, rfl⟩)
            go_region_with (first | (go_at_call 128; refine (hsk _).mono ?_; rintro e wv ⟨rfl, rfl⟩) | (go_at_call 68; refine (hgk _).mono ?_; rintro e wv ⟨rfl, rfl⟩) | (go_at_call 40; (first | ((with_reducible refine (hst _ ob).mono ?_); rintro e wq ⟨rfl, hbN, hx⟩; replace hx : Chg (foot1 (.slice (some ⟨gB, 0, none⟩) x.Bytes.length pB)) wr wq := ⟨hx.os, hx.tape, hx.output, hx.size, hx.block⟩; replace B_a := B_a.chg hx (fun hm => by have := foot1_some.1 hm; omega); replace B_r := B_r.chg hx (fun hm => by have := foot1_some.1 hm; omega); replace o_B := hbN; replace o_C := o_C.chg hx (fun b hb hm => by have e1 := foot1_some.1 hb; have e2 := foot1_some.1 hm; omega); replace o_S := o_S.chg hx (fun b hb hm => by have e2 := foot1_some.1 hm; have := fS b hb; omega); replace hB := hB.trans (hx.mono (fun b hb => by rw [foot1_some.1 hb]; exact hFB)); replace q_a_0 := B_a.cell 0 _ rfl; replace q_a_1 := B_a.cell 1 _ rfl; replace q_r_0 := B_r.cell 0 _ rfl; replace q_r_1 := B_r.cell 1 _ rfl; replace fr_a := B_a.fro; replace fr_r := B_r.fro; replace z_a := B_a.lt; replace z_r := B_r.lt) | ((with_reducible refine (hst _ obd).mono ?_); rintro e wq ⟨rfl, hbN, hx⟩; replace hx : Chg (foot1 (.slice (some ⟨gB, 0, none⟩) x.Bytes.length pB)) wr wq := ⟨hx.os, hx.tape, hx.output, hx.size, hx.block⟩; replace B_a := B_a.chg hx (fun hm => by have := foot1_some.1 hm; omega); replace B_r := B_r.chg hx (fun hm => by have := foot1_some.1 hm; omega); replace o_B := hbN; replace o_C := o_C.chg hx (fun b hb hm => by have e1 := foot1_some.1 hb; have e2 := foot1_some.1 hm; omega); replace o_S := o_S.chg hx (fun b hb hm => by have e2 := foot1_some.1 hm; have := fS b hb; omega); replace hB := hB.trans (hx.mono (fun b hb => by rw [foot1_some.1 hb]; exact hFB)); replace q_a_0 := B_a.cell 0 _ rfl; replace q_a_1 := B_a.cell 1 _ rfl; replace q_r_0 := B_r.cell 0 _ rfl; replace q_r_1 := B_r.cell 1 _ rfl; replace fr_a := B_a.fro; replace fr_r := B_r.fro; replace z_a := B_a.lt; replace z_r := B_r.lt))))
            all_goals
              clear hgk hst ob obd
              rw [← HGK.out] at o_B
              replace B_a : Box (wq.setCell ⟨w.heap.size, 0, none⟩ (.slice (some ⟨gB, 0, none⟩) x.Bytes.length pB)) w.heap.size [.slice (some ⟨gB, 0, none⟩) x.Bytes.length pB, .slice (some ⟨gC, 0, none⟩) x.Class.length pC] := B_a.set 0 (.slice (some ⟨gB, 0, none⟩) x.Bytes.length pB)
              replace B_r := B_r.other (g' := w.heap.size) (i := 0) (by omega) (.slice (some ⟨gB, 0, none⟩) x.Bytes.length pB)
              replace o_B := o_B.setO (g' := w.heap.size) (by omega) 0 (.slice (some ⟨gB, 0, none⟩) x.Bytes.length pB)
              replace o_C := o_C.setO (g' := w.heap.size) (by omega) 0 (.slice (some ⟨gB, 0, none⟩) x.Bytes.length pB)
              replace o_S := o_S.keep (w' := wq.setCell ⟨w.heap.size, 0, none⟩ (.slice (some ⟨gB, 0, none⟩) x.Bytes.length pB)) (fun b hb => heap_set_other wq _ (fun e => by have h2 := fS b (mem_foot1.2 hb); have h3 : b = w.heap.size := e.symm; omega))
              replace hB := hB.set_new (g := w.heap.size) (i := 0) (Nat.le_refl _) (.slice (some ⟨gB, 0, none⟩) x.Bytes.length pB)
              clear q_a_0 q_a_1 q_r_0 q_r_1 fr_a fr_r z_a z_r
              generalize hW5 : wq.setCell ⟨w.heap.size, 0, none⟩ (.slice (some ⟨gB, 0, none⟩) x.Bytes.length pB) = w5 at o_B o_C o_S B_a B_r hB ⊢
              clear hW5
              have q_a_0 := B_a.cell 0 _ rfl
              have q_a_1 := B_a.cell 1 _ rfl
              have q_r_0 := B_r.cell 0 _ rfl
              have q_r_1 := B_r.cell 1 _ rfl
              have fr_a := B_a.fro
              have fr_r := B_r.fro
              have z_a := B_a.lt
              have z_r := B_r.lt
              go_wp2_with (first | (go_at_call 128; refine (hsk _).mono ?_; rintro e wv ⟨rfl, rfl⟩) | (at_builtin; refine wpList_append_flat Tryz.stInt rfl _ _ rfl (v := u8) (y := .slice (some ⟨w5.heap.size, 0, none⟩) 1 1) (l := slotsTo k j) (m := [(sl : Int)]) rfl rfl (o_S.alloc_ _) (OwL.lit FI [(sl : Int)] #[.int .i64 (sl : Int)] rfl (by simp [maxLen]) w5 3).rd' (by rw [HSL.out]; simp; omega) ?_; intro v' w7 ho' hg' hat'))
              have hx7 := Chg.of_grown hg'
              have hB7 := (hB.alloc_ (.cells #[.int .i64 (sl : Int)] 3)).trans_fr hx7 (fun b hb => .inr (by have := fS b hb; omega))
              go_roundw
              case rel =>
                refine ⟨j + 1, by omega, by go_num, (o_B.alloc_ (.cells #[.int .i64 (sl : Int)] 3)).chg hx7 (fun b hb hm => by have e1 := foot1_some.1 hb; have := fS b hm; omega), (o_C.alloc_ (.cells #[.int .i64 (sl : Int)] 3)).chg hx7 (fun b hb hm => by have e1 := foot1_some.1 hb; have := fS b hm; omega), by rw [HST.out]; exact ho', fun b hb => ?_, (B_a.alloc (.cells #[.int .i64 (sl : Int)] 3)).chg hx7 (fun hm => by have := fS _ hm; omega), (B_r.alloc (.cells #[.int .i64 (sl : Int)] 3)).chg hx7 (fun hm => by have := fS _ hm; omega), hB7⟩
                rcases foot_app hat' b hb with hh | hh
                · exact fS b hh
                · simp at hh
                  omega
              case measure => simp [intOf]; omega
          · obtain rfl : j = n := by omega
            obtain ⟨A, c', hv, _⟩ := o_S.rd'
            subst hv
            go_wp2_with (go_at_call 115; refine (hpp _).mono ?_; rintro e wv ⟨rfl, rfl⟩)
            refine bodyPost_ret (v := .tuple #[.agg #[.slice (some ⟨gB, 0, none⟩) x.Bytes.length pB, .slice (some ⟨gC, 0, none⟩) x.Class.length pC], .slice A (slotsTo k j).length c']) (by simp [results, Tryz.results96, go_sem, q_r_0, q_r_1]) rfl ⟨⟨A, (slotsTo k j).length, c'⟩, rfl, by rw [HGR.out]; exact ⟨o_B.chg (F := [w.heap.size + 1]) (by repeat (first | with_reducible exact Chg.refl _ _ | with_reducible refine Chg.set_ ?_ (by simp) _ | with_reducible refine Chg.alloc_ ?_ _ | with_reducible refine Chg.drew_ ?_)) (fun b hb hm => by simp only [List.mem_cons, List.not_mem_nil, or_false] at hm; have := foot1_some.1 hb; omega), o_C.chg (F := [w.heap.size + 1]) (by repeat (first | with_reducible exact Chg.refl _ _ | with_reducible refine Chg.set_ ?_ (by simp) _ | with_reducible refine Chg.alloc_ ?_ _ | with_reducible refine Chg.drew_ ?_)) (fun b hb hm => by simp only [List.mem_cons, List.not_mem_nil, or_false] at hm; have := foot1_some.1 hb; omega), fun b hb hm => by have e1 := foot1_some.1 hb; have e2 := foot1_some.1 hm; omega⟩, o_S.chg (F := [w.heap.size + 1]) (by repeat (first | with_reducible exact Chg.refl _ _ | with_reducible refine Chg.set_ ?_ (by simp) _ | with_reducible refine Chg.alloc_ ?_ _ | with_reducible refine Chg.drew_ ?_)) (fun b hb hm => by simp only [List.mem_cons, List.not_mem_nil, or_false] at hm; have := fS b hb; omega), fun b hb => by have := fS b hb; omega, hB.trans_fr (G := [w.heap.size + 1]) (by repeat (first | with_reducible exact Chg.refl _ _ | with_reducible refine Chg.set_ ?_ (by simp) _ | with_reducible refine Chg.alloc_ ?_ _ | with_reducible refine Chg.drew_ ?_)) (fun b hb => .inr (by simp only [List.mem_cons, List.not_mem_nil, or_false] at hb; omega))⟩
end Go.Proofs.YtpjijbonpjoamaaGreat

/-
  A page granted in a memory, the other package: the contract.
-/
namespace Go.Proofs.YtpjijbonpjoamaaGreat
open Go.RowKit

set_option maxRecDepth 100000 in
set_option maxHeartbeats 8000000 in
theorem l9Grant_yes (w : World) (H : HMem) (x : Mem) (p c : Nat) (h : OwMem w H x) (hs : sizeLists x.Lists ≤ 536870912) (hsh : shapeB x.Heap = true) (hll : x.Lists.Global.length = 3) (hc : c < 3) (hp : idxOf (fun y => y == -1) x.Heap.Class = (p : Int)) :
    Calls Tryz.prog 48 #[.agg #[.slice H.Heap.Bytes.a H.Heap.Bytes.len H.Heap.Bytes.cap, .slice H.Heap.Class.a H.Heap.Class.len H.Heap.Class.cap, .slice H.Lists.Global.a H.Lists.Global.len H.Lists.Global.cap, .slice H.Lists.Own.a H.Lists.Own.len H.Lists.Own.cap], .int .i64 c] w fun e w' => ∃ H' : HMem, e = .returned (.tuple #[.agg #[.slice H'.Heap.Bytes.a H'.Heap.Bytes.len H'.Heap.Bytes.cap, .slice H'.Heap.Class.a H'.Heap.Class.len H'.Heap.Class.cap, .slice H'.Lists.Global.a H'.Lists.Global.len H'.Lists.Global.cap, .slice H'.Lists.Own.a H'.Lists.Own.len H'.Lists.Own.cap], .int .i64 ((p * 4 : Nat) : Int)]) ∧ OwMem w' H' (grantM x p c) ∧ (∀ g ∈ H'.foot, g ∈ H.foot ∨ w.heap.size ≤ g) ∧ Chg H.foot w w' := by
  have H3 := Hid.mk_ hll
  have HPP := Hid.mk_ (perPage_ge (c := (c : Int)) (inB_iff.2 ⟨by omega, by omega⟩))
  obtain ⟨n, hn, hn4, hnn⟩ := perPage_nat hc
  have hgr := fun (W : World) (oH : OwHeap W H.Heap x.Heap) => l7Grant_yes W H.Heap x.Heap p c oH hsh hc hp
  rw [hnn] at hgr
  have HS1 := Hid.mk_ (show szLL x.Lists.Global ≤ 536870912 by unfold sizeLists at hs; omega)
  obtain ⟨lg, hlg⟩ : ∃ q, x.Lists.Global[c]? = some q := ⟨_, List.getElem?_eq_getElem (by rw [hll]; exact hc)⟩
  have HG := Hid.mk_ hlg
  have hszl : lg.length ≤ 536870912 := Nat.le_trans (le_szLL (List.mem_of_getElem? hlg)) HS1.out
  have hn1 : 1 ≤ n := by have := HPP.out; omega
  have hsl := slotsTo_len p n
  have hv0 : (slotsTo p n)[0]? = some ((p * 4 : Nat) : Int) := by unfold slotsTo; rw [List.getElem?_map, List.getElem?_range (by omega)]; rfl
  have HV0 := Hid.mk_ hv0
  have HD : Hid ((grantM x p c).Lists = { x.Lists with Global := x.Lists.Global.set c (lg ++ (slotsTo p n).drop 1) }) := by show _ = _; unfold grantM; simp only []; rw [hnn, List.getD_eq_getElem?_getD, HG.out]; rfl
  have hkk : c < x.Lists.Global.length := by rw [H3.out]; exact hc
  clear hs hsh hll hp hlg hv0 HPP hn hnn
  obtain ⟨HB, ⟨A1, n1, p1⟩, T1, ⟨A2, n2, p2⟩, T2⟩ := H
  obtain ⟨g1, c1, hv1, hg1⟩ := OwLL.at_form (v := .slice A1 n1 p1) h.Lists.Global (by rw [H3.out]; decide)
  injection hv1 with i1 i2 i3
  subst i1 i2 i3
  have hf := h.lt
  have o := (h.alloc_ (.cells #[.slice HB.Bytes.a HB.Bytes.len HB.Bytes.cap, .slice HB.Class.a HB.Class.len HB.Class.cap, .slice (some ⟨g1, 0, none⟩) x.Lists.Global.length p1, .slice A2 n2 p2] 36)).alloc_ (.cells #[.slice none 0 0, .slice none 0 0, .slice none 0 0, .slice none 0 0] 36)
  have HD0 := Hid.mk_ h.d01
  clear h
  have B_a : Box ((w.alloc (.cells #[.slice HB.Bytes.a HB.Bytes.len HB.Bytes.cap, .slice HB.Class.a HB.Class.len HB.Class.cap, .slice (some ⟨g1, 0, none⟩) x.Lists.Global.length p1, .slice A2 n2 p2] 36)).alloc (.cells #[.slice none 0 0, .slice none 0 0, .slice none 0 0, .slice none 0 0] 36)) w.heap.size [.slice HB.Bytes.a HB.Bytes.len HB.Bytes.cap, .slice HB.Class.a HB.Class.len HB.Class.cap, .slice (some ⟨g1, 0, none⟩) x.Lists.Global.length p1, .slice A2 n2 p2] := (Box.new w #[.slice HB.Bytes.a HB.Bytes.len HB.Bytes.cap, .slice HB.Class.a HB.Class.len HB.Class.cap, .slice (some ⟨g1, 0, none⟩) x.Lists.Global.length p1, .slice A2 n2 p2] _).alloc _
  have B_r : Box ((w.alloc (.cells #[.slice HB.Bytes.a HB.Bytes.len HB.Bytes.cap, .slice HB.Class.a HB.Class.len HB.Class.cap, .slice (some ⟨g1, 0, none⟩) x.Lists.Global.length p1, .slice A2 n2 p2] 36)).alloc (.cells #[.slice none 0 0, .slice none 0 0, .slice none 0 0, .slice none 0 0] 36)) (w.heap.size + 1) [.slice none 0 0, .slice none 0 0, .slice none 0 0, .slice none 0 0] := by
    have hb := Box.new (w.alloc (.cells #[.slice HB.Bytes.a HB.Bytes.len HB.Bytes.cap, .slice HB.Class.a HB.Class.len HB.Class.cap, .slice (some ⟨g1, 0, none⟩) x.Lists.Global.length p1, .slice A2 n2 p2] 36)) #[.slice none 0 0, .slice none 0 0, .slice none 0 0, .slice none 0 0] 36
    rw [World.size_alloc] at hb
    exact hb
  have hB : Chg (HMem.foot ⟨HB, ⟨⟨some ⟨g1, 0, none⟩, x.Lists.Global.length, p1⟩, T1, ⟨A2, n2, p2⟩, T2⟩⟩) w ((w.alloc (.cells #[.slice HB.Bytes.a HB.Bytes.len HB.Bytes.cap, .slice HB.Class.a HB.Class.len HB.Class.cap, .slice (some ⟨g1, 0, none⟩) x.Lists.Global.length p1, .slice A2 n2 p2] 36)).alloc (.cells #[.slice none 0 0, .slice none 0 0, .slice none 0 0, .slice none 0 0] 36)) := ((Chg.refl _ _).alloc_ _).alloc_ _
  show Calls Tryz.prog 48 #[.agg #[.slice HB.Bytes.a HB.Bytes.len HB.Bytes.cap, .slice HB.Class.a HB.Class.len HB.Class.cap, .slice (some ⟨g1, 0, none⟩) x.Lists.Global.length p1, .slice A2 n2 p2], .int .i64 c] w _
  go_enter Tryz.func48, Tryz.ntmps48
  go_wp2_with fail
  generalize hW0 : ((w.alloc (.cells #[.slice HB.Bytes.a HB.Bytes.len HB.Bytes.cap, .slice HB.Class.a HB.Class.len HB.Class.cap, .slice (some ⟨g1, 0, none⟩) x.Lists.Global.length p1, .slice A2 n2 p2] 36)).alloc (.cells #[.slice none 0 0, .slice none 0 0, .slice none 0 0, .slice none 0 0] 36)) = w0 at o B_a B_r hB ⊢
  clear hW0
  have hFH : ∀ g ∈ HB.foot, g ∈ HMem.foot ⟨HB, ⟨⟨some ⟨g1, 0, none⟩, x.Lists.Global.length, p1⟩, T1, ⟨A2, n2, p2⟩, T2⟩⟩ := fun g hg => HMem.mem_foot.2 (.inl hg)
  have hFL : ∀ g ∈ HLists.foot ⟨⟨some ⟨g1, 0, none⟩, x.Lists.Global.length, p1⟩, T1, ⟨A2, n2, p2⟩, T2⟩, g ∈ HMem.foot ⟨HB, ⟨⟨some ⟨g1, 0, none⟩, x.Lists.Global.length, p1⟩, T1, ⟨A2, n2, p2⟩, T2⟩⟩ := fun g hg => HMem.mem_foot.2 (.inr hg)
  refine (hgr _ o.Heap).mono ?_
  clear hgr
  rintro e w1 ⟨⟨A3, n3, bv⟩, rfl, o_g, o_v, l_v, hx⟩
  have z0 := B_r.lt
  replace B_a := B_a.chg hx (fun hm => by have := hf _ (hFH _ hm); omega)
  replace B_r := B_r.chg hx (fun hm => by have := hf _ (hFH _ hm); omega)
  have o_l := o.Lists.chg hx (fun g hg hm => HD0.out g hm hg)
  replace hB := hB.trans (hx.mono hFH)
  have sz1 := hx.size
  clear hx o
  have hln := RdL.len_ (a := A3) (n := n3) (c := bv) o_v.rd'
  rw [hsl] at hln
  obtain rfl : n3 = n := hln.1
  clear hln
  obtain ⟨gv, cv, hvv, hgv⟩ := OwL.form_pos (v := .slice A3 n3 bv) o_v (by rw [hsl]; omega)
  injection hvv with i1 i2 i3
  subst i1
  clear i2 i3 cv
  have hnb : n3 ≤ bv := by
    obtain ⟨_, cq, hvq, hnb, _⟩ := o_v.rd'
    injection hvq with _ _ i3
    subst i3
    rw [hsl] at hnb
    exact hnb
  have lv0 : w0.heap.size ≤ gv := l_v gv (foot1_some.2 rfl)
  have lv1 : ∀ g ∈ foot1 (.slice (some ⟨gv, 0, none⟩) n3 bv), w0.heap.size ≤ g := l_v
  have B_p := Box.new w1 #[.slice HB.Bytes.a HB.Bytes.len HB.Bytes.cap, .slice HB.Class.a HB.Class.len HB.Class.cap] 31
  replace B_a := B_a.alloc (.cells #[.slice HB.Bytes.a HB.Bytes.len HB.Bytes.cap, .slice HB.Class.a HB.Class.len HB.Class.cap] 31)
  replace B_r := B_r.alloc (.cells #[.slice HB.Bytes.a HB.Bytes.len HB.Bytes.cap, .slice HB.Class.a HB.Class.len HB.Class.cap] 31)
  replace o_g := o_g.alloc_ (.cells #[.slice HB.Bytes.a HB.Bytes.len HB.Bytes.cap, .slice HB.Class.a HB.Class.len HB.Class.cap] 31)
  replace o_l := o_l.alloc_ (.cells #[.slice HB.Bytes.a HB.Bytes.len HB.Bytes.cap, .slice HB.Class.a HB.Class.len HB.Class.cap] 31)
  replace o_v := o_v.alloc_ (.cells #[.slice HB.Bytes.a HB.Bytes.len HB.Bytes.cap, .slice HB.Class.a HB.Class.len HB.Class.cap] 31)
  replace hB := hB.alloc_ (.cells #[.slice HB.Bytes.a HB.Bytes.len HB.Bytes.cap, .slice HB.Class.a HB.Class.len HB.Class.cap] 31)
  have ul : ∀ g ∈ HLists.foot ⟨⟨some ⟨g1, 0, none⟩, x.Lists.Global.length, p1⟩, T1, ⟨A2, n2, p2⟩, T2⟩, g < w.heap.size := fun g hg => hf g (hFL g hg)
  have ug : ∀ g ∈ HB.foot, g < w.heap.size := fun g hg => hf g (hFH g hg)
  have q_a_0 := B_a.cell 0 _ rfl
  have q_a_1 := B_a.cell 1 _ rfl
  have q_a_2 := B_a.cell 2 _ rfl
  have q_a_3 := B_a.cell 3 _ rfl
  have q_r_0 := B_r.cell 0 _ rfl
  have q_r_1 := B_r.cell 1 _ rfl
  have q_r_2 := B_r.cell 2 _ rfl
  have q_r_3 := B_r.cell 3 _ rfl
  have fr_a := B_a.fro
  have fr_r := B_r.fro
  have z_a := B_a.lt
  have z_r := B_r.lt
  have q_p_0 := B_p.cell 0 _ rfl
  have q_p_1 := B_p.cell 1 _ rfl
  go_upto_region 3 with (fail)
  replace B_a : Box (((w1.alloc (.cells #[.slice HB.Bytes.a HB.Bytes.len HB.Bytes.cap, .slice HB.Class.a HB.Class.len HB.Class.cap] 31)).setCell ⟨w.heap.size, 0, none⟩ (.slice HB.Bytes.a HB.Bytes.len HB.Bytes.cap)).setCell ⟨w.heap.size, 1, none⟩ (.slice HB.Class.a HB.Class.len HB.Class.cap)) w.heap.size [.slice HB.Bytes.a HB.Bytes.len HB.Bytes.cap, .slice HB.Class.a HB.Class.len HB.Class.cap, .slice (some ⟨g1, 0, none⟩) x.Lists.Global.length p1, .slice A2 n2 p2] := (B_a.set 0 (.slice HB.Bytes.a HB.Bytes.len HB.Bytes.cap)).set 1 (.slice HB.Class.a HB.Class.len HB.Class.cap)
  replace B_r : Box (((w1.alloc (.cells #[.slice HB.Bytes.a HB.Bytes.len HB.Bytes.cap, .slice HB.Class.a HB.Class.len HB.Class.cap] 31)).setCell ⟨w.heap.size, 0, none⟩ (.slice HB.Bytes.a HB.Bytes.len HB.Bytes.cap)).setCell ⟨w.heap.size, 1, none⟩ (.slice HB.Class.a HB.Class.len HB.Class.cap)) (w.heap.size + 1) [.slice none 0 0, .slice none 0 0, .slice none 0 0, .slice none 0 0] := (B_r.other (by omega) _).other (by omega) _
  replace o_g : OwHeap (((w1.alloc (.cells #[.slice HB.Bytes.a HB.Bytes.len HB.Bytes.cap, .slice HB.Class.a HB.Class.len HB.Class.cap] 31)).setCell ⟨w.heap.size, 0, none⟩ (.slice HB.Bytes.a HB.Bytes.len HB.Bytes.cap)).setCell ⟨w.heap.size, 1, none⟩ (.slice HB.Class.a HB.Class.len HB.Class.cap)) HB (grantH x.Heap p c) := o_g.chg (((Chg.refl [w.heap.size] _).set_ (by simp) _).set_ (by simp) _) (fun g hg hm => by simp only [List.mem_cons, List.not_mem_nil, or_false] at hm; have := ug g hg; omega)
  replace o_l : OwLists (((w1.alloc (.cells #[.slice HB.Bytes.a HB.Bytes.len HB.Bytes.cap, .slice HB.Class.a HB.Class.len HB.Class.cap] 31)).setCell ⟨w.heap.size, 0, none⟩ (.slice HB.Bytes.a HB.Bytes.len HB.Bytes.cap)).setCell ⟨w.heap.size, 1, none⟩ (.slice HB.Class.a HB.Class.len HB.Class.cap)) ⟨⟨some ⟨g1, 0, none⟩, x.Lists.Global.length, p1⟩, T1, ⟨A2, n2, p2⟩, T2⟩ x.Lists := o_l.chg (((Chg.refl [w.heap.size] _).set_ (by simp) _).set_ (by simp) _) (fun g hg hm => by simp only [List.mem_cons, List.not_mem_nil, or_false] at hm; have := ul g hg; omega)
  replace o_v : OwL FI 3 (((w1.alloc (.cells #[.slice HB.Bytes.a HB.Bytes.len HB.Bytes.cap, .slice HB.Class.a HB.Class.len HB.Class.cap] 31)).setCell ⟨w.heap.size, 0, none⟩ (.slice HB.Bytes.a HB.Bytes.len HB.Bytes.cap)).setCell ⟨w.heap.size, 1, none⟩ (.slice HB.Class.a HB.Class.len HB.Class.cap)) (.slice (some ⟨gv, 0, none⟩) n3 bv) (slotsTo p n3) := OwL.chg o_v (((Chg.refl [w.heap.size] _).set_ (by simp) _).set_ (by simp) _) (fun g hg hm => by simp only [List.mem_cons, List.not_mem_nil, or_false] at hm; have := lv1 g hg; omega)
  replace hB : Chg (HMem.foot ⟨HB, ⟨⟨some ⟨g1, 0, none⟩, x.Lists.Global.length, p1⟩, T1, ⟨A2, n2, p2⟩, T2⟩⟩) w (((w1.alloc (.cells #[.slice HB.Bytes.a HB.Bytes.len HB.Bytes.cap, .slice HB.Class.a HB.Class.len HB.Class.cap] 31)).setCell ⟨w.heap.size, 0, none⟩ (.slice HB.Bytes.a HB.Bytes.len HB.Bytes.cap)).setCell ⟨w.heap.size, 1, none⟩ (.slice HB.Class.a HB.Class.len HB.Class.cap)) := (hB.set_new (Nat.le_refl _) _).set_new (Nat.le_refl _) _
  have sz2 : w1.heap.size ≤ (((w1.alloc (.cells #[.slice HB.Bytes.a HB.Bytes.len HB.Bytes.cap, .slice HB.Class.a HB.Class.len HB.Class.cap] 31)).setCell ⟨w.heap.size, 0, none⟩ (.slice HB.Bytes.a HB.Bytes.len HB.Bytes.cap)).setCell ⟨w.heap.size, 1, none⟩ (.slice HB.Class.a HB.Class.len HB.Class.cap)).heap.size := by simp
  have hgv2 : gv < (((w1.alloc (.cells #[.slice HB.Bytes.a HB.Bytes.len HB.Bytes.cap, .slice HB.Class.a HB.Class.len HB.Class.cap] 31)).setCell ⟨w.heap.size, 0, none⟩ (.slice HB.Bytes.a HB.Bytes.len HB.Bytes.cap)).setCell ⟨w.heap.size, 1, none⟩ (.slice HB.Class.a HB.Class.len HB.Class.cap)).heap.size := by simp; omega
  clear q_a_0 q_a_1 q_a_2 q_a_3 q_r_0 q_r_1 q_r_2 q_r_3 fr_a fr_r z_a z_r q_p_0 q_p_1 B_p
  generalize hW3 : (((w1.alloc (.cells #[.slice HB.Bytes.a HB.Bytes.len HB.Bytes.cap, .slice HB.Class.a HB.Class.len HB.Class.cap] 31)).setCell ⟨w.heap.size, 0, none⟩ (.slice HB.Bytes.a HB.Bytes.len HB.Bytes.cap)).setCell ⟨w.heap.size, 1, none⟩ (.slice HB.Class.a HB.Class.len HB.Class.cap)) = wo at B_a B_r o_g o_l o_v hB sz2 hgv2 ⊢
  clear hW3
  have q_a_0 := B_a.cell 0 _ rfl
  have q_a_1 := B_a.cell 1 _ rfl
  have q_a_2 := B_a.cell 2 _ rfl
  have q_a_3 := B_a.cell 3 _ rfl
  have q_r_0 := B_r.cell 0 _ rfl
  have q_r_1 := B_r.cell 1 _ rfl
  have q_r_2 := B_r.cell 2 _ rfl
  have q_r_3 := B_r.cell 3 _ rfl
  have fr_a := B_a.fro
  have fr_r := B_r.fro
  have z_a := B_a.lt
  have z_r := B_r.lt
  obtain ⟨sg, hsg2⟩ : ∃ q, T1[c]? = some q := ⟨_, List.getElem?_eq_getElem (by rw [o_l.Global.len]; exact hkk)⟩
  have ing := o_l.Global.inner c sg _ hsg2 HG.out
  have pg := o_l.Global.outer.cell_ (j := 0) hsg2 (by decide)
  simp only [FS, Nat.mul_one, Nat.add_zero] at pg
  obtain ⟨Ag, cg, hvg, _⟩ := ing.rd'
  obtain ⟨ag, ng, bg⟩ := sg
  injection hvg with k1 k2 k3
  subst k1 k2 k3
  have pg2 : _ = some (Value.slice ag lg.length bg) := pg
  clear pg
  have ff := o_l.Global.outer.frozen_ c
  have HV := Hid.mk_ hsg2
  have HNE := Hid.mk_ (OwLL.head_ne (g := g1) (n := x.Lists.Global.length) (c := p1) o_l.Global hsg2)
  have z_g : g1 < wo.heap.size := by omega
  have HSF := Hid.mk_ (show ∀ b ∈ foot1 (SV.val ⟨ag, lg.length, bg⟩), b ∈ foot2 (.slice (some ⟨g1, 0, none⟩) x.Lists.Global.length p1) T1 from fun b hb => mem_foot2.2 (.inr ⟨_, List.mem_of_getElem? HV.out, mem_foot1.1 hb⟩))
  have HFT := Hid.mk_ (show ∀ b ∈ foot1 (SV.val ⟨ag, lg.length, bg⟩), b ∈ HLists.foot ⟨⟨some ⟨g1, 0, none⟩, x.Lists.Global.length, p1⟩, T1, ⟨A2, n2, p2⟩, T2⟩ from fun b hb => HLists.mem_foot.2 (.inl (HSF.out b hb)))
  have HG1 := Hid.mk_ (show g1 ∈ HLists.foot ⟨⟨some ⟨g1, 0, none⟩, x.Lists.Global.length, p1⟩, T1, ⟨A2, n2, p2⟩, T2⟩ from HLists.mem_foot.2 (.inl (mem_foot2.2 (.inl rfl))))
  have n_a : g1 ≠ w.heap.size := by omega
  have m_a : w.heap.size ≠ g1 := by omega
  have n_r : g1 ≠ w.heap.size + 1 := by omega
  have m_r : w.heap.size + 1 ≠ g1 := by omega
  have n_gv : g1 ≠ gv := by omega
  have m_gv : gv ≠ g1 := by omega
  have hro : OwL FI 3 wo.drew (.slice ag lg.length bg) lg := OwL.keep (show OwL FI 3 wo (.slice ag lg.length bg) lg from ing) (fun _ _ => rfl)
  have hbq : ((n3 : Int) == 0) = false := by simp; omega
  go_upto_region 5 with (fail)
  go_cut [] from 15 to 36 (fun wx => ∃ S9 : SV, Box wx w.heap.size [.slice HB.Bytes.a HB.Bytes.len HB.Bytes.cap, .slice HB.Class.a HB.Class.len HB.Class.cap, .slice (some ⟨g1, 0, none⟩) x.Lists.Global.length p1, .slice A2 n2 p2] ∧ Box wx (w.heap.size + 1) [.slice none 0 0, .slice none 0 0, .slice none 0 0, .slice none 0 0] ∧ OwHeap wx HB (grantH x.Heap p c) ∧ OwLists wx ⟨⟨some ⟨g1, 0, none⟩, x.Lists.Global.length, p1⟩, T1.set c S9, ⟨A2, n2, p2⟩, T2⟩ (grantM x p c).Lists ∧ wx.cell? ⟨gv, 0, none⟩ = some (.int .i64 ((p * 4 : Nat) : Int)) ∧ (∀ g ∈ HLists.foot ⟨⟨some ⟨g1, 0, none⟩, x.Lists.Global.length, p1⟩, T1.set c S9, ⟨A2, n2, p2⟩, T2⟩, g ∈ HLists.foot ⟨⟨some ⟨g1, 0, none⟩, x.Lists.Global.length, p1⟩, T1, ⟨A2, n2, p2⟩, T2⟩ ∨ w.heap.size + 1 < g) ∧ (∀ g ∈ HLists.foot ⟨⟨some ⟨g1, 0, none⟩, x.Lists.Global.length, p1⟩, T1.set c S9, ⟨A2, n2, p2⟩, T2⟩, g ∉ HB.foot) ∧ Chg (HMem.foot ⟨HB, ⟨⟨some ⟨g1, 0, none⟩, x.Lists.Global.length, p1⟩, T1, ⟨A2, n2, p2⟩, T2⟩⟩) w wx)
  case first =>
    rename_i J9 K9 hJ9 hK9
    by_cases hb1 : bv = 1
    · subst hb1
      obtain rfl : n3 = 1 := by omega
      have hlit : RdL FI wo.drew wo.drew.heap.size (.slice (some ⟨gv, 0, none⟩) (1 - 1) (1 - 1)) ((slotsTo p 1).drop 1) := ⟨_, 0, rfl, by simp [slotsTo], by simp [maxLen], fun h => absurd (by simp [slotsTo]) h⟩
      have hn0 : ¬ ((1 : Int) = 0) := by omega
      have hdl : ((slotsTo p 1).drop 1).length = 1 - 1 := by rw [List.length_drop, hsl]
      have hsz : lg.length + ((slotsTo p 1).drop 1).length ≤ 1073741824 := by rw [hdl]; omega
      go_region_law (refine step_append_flat Tryz.stInt rfl (.tmp 31) (.tmp 33) rfl (v := .slice ag lg.length bg) (y := .slice (some ⟨gv, 0, none⟩) (1 - 1) (1 - 1)) (l := lg) (m := (slotsTo p 1).drop 1) (by simp [Act.eval]) (by simp [Act.eval]) hro hlit hsz ?_; intro v9 w9 ho9 hg9 hat9; obtain ⟨A9, c9, hv9, _⟩ := ho9.rd'; rw [List.length_append, hdl] at hv9; subst hv9; have hx := Chg.of_grown hg9; have ff9 : w9.frozen? ⟨g1, c, none⟩ = false := (hx.frozen g1 c z_g HNE.out).trans ff; have pp9 : w9.cell? ⟨g1, c, none⟩ = some (Value.slice ag lg.length bg) := (hx.cell g1 c z_g HNE.out).trans pg2; replace B_a := B_a.drew.chg hx (fun hm => by have := ul _ (HFT.out _ hm); omega); replace q_a_0 := B_a.cell 0 _ rfl; replace q_a_1 := B_a.cell 1 _ rfl; replace q_a_2 := B_a.cell 2 _ rfl; replace q_a_3 := B_a.cell 3 _ rfl; replace fr_a := B_a.fro; replace z_a := B_a.lt; replace B_r := B_r.drew.chg hx (fun hm => by have := ul _ (HFT.out _ hm); omega); replace q_r_0 := B_r.cell 0 _ rfl; replace q_r_1 := B_r.cell 1 _ rfl; replace q_r_2 := B_r.cell 2 _ rfl; replace q_r_3 := B_r.cell 3 _ rfl; replace fr_r := B_r.fro; replace z_r := B_r.lt; replace o_v := (OwL.keep (w' := wo.drew) o_v (fun _ _ => rfl)).chg hx (fun g hg hm => by have := ul _ (HFT.out _ hm); have := foot1_some.1 hg; omega); have pv9 := o_v.cell_ HV0.out FI.pos; simp only [FI, Nat.mul_one, Nat.add_zero] at pv9)
      all_goals
        refine hK9 _ _ (Met.intro (hJ9 _ _ ?_))
        (repeat apply Exists.intro)
        refine ⟨?_, rfl⟩
        have oD : OwLists wo.drew ⟨⟨some ⟨g1, 0, none⟩, x.Lists.Global.length, p1⟩, T1, ⟨A2, n2, p2⟩, T2⟩ x.Lists := o_l.keep (fun _ _ => rfl)
        have hN := OwLL.app_row (s' := ⟨A9, lg.length + (1 - 1), c9⟩) oD.Global HV.out ho9 hg9 hat9
        change OwLL _ _ _ (World.setCell _ _ (.slice A9 (lg.length + (1 - 1)) c9)) _ _ _ at hN
        have hO : OwLL FI 3 80 _ _ _ x.Lists.Own := (oD.Own.chg hx (fun b hb hm => o_l.d01 b (HSF.out b hm) hb)).chg (F := [g1]) ((Chg.refl _ w9).set_ (g := g1) (i := c) (by simp) (.slice A9 (lg.length + (1 - 1)) c9)) (fun b hb hm => by simp only [List.mem_cons, List.not_mem_nil, or_false] at hm; subst hm; exact o_l.d01 b (mem_foot2.2 (.inl rfl)) hb)
        have uO := (oD.Own).lt
        have hB9 : Chg (HMem.foot ⟨HB, ⟨⟨some ⟨g1, 0, none⟩, x.Lists.Global.length, p1⟩, T1, ⟨A2, n2, p2⟩, T2⟩⟩) w (w9.setCell ⟨g1, c, none⟩ (.slice A9 (lg.length + (1 - 1)) c9)) := ((Chg.drew_ hB).trans (hx.mono (fun g hg => hFL g (HFT.out g hg)))).set_ (hFL _ HG1.out) _
        have hG9 : OwHeap (w9.setCell ⟨g1, c, none⟩ (.slice A9 (lg.length + (1 - 1)) c9)) HB (grantH x.Heap p c) := ((o_g.keep (w' := wo.drew) (fun _ _ => rfl)).chg hx (fun g hg hm => HD0.out g hg (HFT.out g hm))).chg (F := [g1]) ((Chg.refl _ w9).set_ (g := g1) (i := c) (by simp) (.slice A9 (lg.length + (1 - 1)) c9)) (fun g hg hm => by simp only [List.mem_cons, List.not_mem_nil, or_false] at hm; subst hm; exact HD0.out g hg HG1.out)
        have h2 : wo.drew.heap.size = wo.heap.size := rfl
        have hfN : ∀ g ∈ HLists.foot ⟨⟨some ⟨g1, 0, none⟩, x.Lists.Global.length, p1⟩, T1.set c ⟨A9, lg.length + (1 - 1), c9⟩, ⟨A2, n2, p2⟩, T2⟩, g ∈ HLists.foot ⟨⟨some ⟨g1, 0, none⟩, x.Lists.Global.length, p1⟩, T1, ⟨A2, n2, p2⟩, T2⟩ ∨ g = wo.heap.size := by
          intro g hg
          rcases HLists.mem_foot.1 hg with hg | hg
          · rcases foot2_set hg with hg | hg
            · exact .inl (HLists.mem_foot.2 (.inl hg))
            · rcases foot_app hat9 g hg with hg | hg
              · exact .inl (HFT.out g hg)
              · exact .inr hg
          · exact .inl (HLists.mem_foot.2 (.inr hg))
        exact ⟨⟨A9, lg.length + (1 - 1), c9⟩, B_a.other (by omega) _, B_r.other (by omega) _, hG9, by rw [HD.out]; exact ⟨hN, hO, fun b hb hm => by rcases foot2_set hb with hb | hb; (exact o_l.d01 b hb hm); (rcases foot_app hat9 b hb with hb | hb; (exact o_l.d01 b (HSF.out b hb) hm); (have := uO b hm; omega))⟩, by simp [pv9, go_sem], fun g hg => by rcases hfN g hg with hh | hh; (exact .inl hh); (right; omega), fun g hg hm => by rcases hfN g hg with hh | hh; (exact HD0.out g hm hh); (have := ug g hm; omega), hB9⟩
    · have hi1 : (1 : Int) ≤ (n3 : Int) := by omega
      have hlit : RdL FI wo.drew wo.drew.heap.size (.slice (some ⟨gv, 1, none⟩) (n3 - 1) (bv - 1)) ((slotsTo p n3).drop 1) := by
        have := RdL.subI (OwL.keep (w' := wo.drew) o_v (fun _ _ => rfl)).rd' 1 (n3 - 1) (by rw [hsl]; omega)
        rw [List.take_of_length_le (by rw [List.length_drop, hsl]; exact Nat.le_refl _)] at this
        simpa using this
      have hn0 : ¬ ((n3 : Int) = 0) := by omega
      have hdl : ((slotsTo p n3).drop 1).length = n3 - 1 := by rw [List.length_drop, hsl]
      have hsz : lg.length + ((slotsTo p n3).drop 1).length ≤ 1073741824 := by rw [hdl]; omega
      go_region_law (refine step_append_flat Tryz.stInt rfl (.tmp 31) (.tmp 33) rfl (v := .slice ag lg.length bg) (y := .slice (some ⟨gv, 1, none⟩) (n3 - 1) (bv - 1)) (l := lg) (m := (slotsTo p n3).drop 1) (by simp [Act.eval]) (by simp [Act.eval]) hro hlit hsz ?_; intro v9 w9 ho9 hg9 hat9; obtain ⟨A9, c9, hv9, _⟩ := ho9.rd'; rw [List.length_append, hdl] at hv9; subst hv9; have hx := Chg.of_grown hg9; have ff9 : w9.frozen? ⟨g1, c, none⟩ = false := (hx.frozen g1 c z_g HNE.out).trans ff; have pp9 : w9.cell? ⟨g1, c, none⟩ = some (Value.slice ag lg.length bg) := (hx.cell g1 c z_g HNE.out).trans pg2; replace B_a := B_a.drew.chg hx (fun hm => by have := ul _ (HFT.out _ hm); omega); replace q_a_0 := B_a.cell 0 _ rfl; replace q_a_1 := B_a.cell 1 _ rfl; replace q_a_2 := B_a.cell 2 _ rfl; replace q_a_3 := B_a.cell 3 _ rfl; replace fr_a := B_a.fro; replace z_a := B_a.lt; replace B_r := B_r.drew.chg hx (fun hm => by have := ul _ (HFT.out _ hm); omega); replace q_r_0 := B_r.cell 0 _ rfl; replace q_r_1 := B_r.cell 1 _ rfl; replace q_r_2 := B_r.cell 2 _ rfl; replace q_r_3 := B_r.cell 3 _ rfl; replace fr_r := B_r.fro; replace z_r := B_r.lt; replace o_v := (OwL.keep (w' := wo.drew) o_v (fun _ _ => rfl)).chg hx (fun g hg hm => by have := ul _ (HFT.out _ hm); have := foot1_some.1 hg; omega); have pv9 := o_v.cell_ HV0.out FI.pos; simp only [FI, Nat.mul_one, Nat.add_zero] at pv9)
      all_goals
        refine hK9 _ _ (Met.intro (hJ9 _ _ ?_))
        (repeat apply Exists.intro)
        refine ⟨?_, rfl⟩
        have oD : OwLists wo.drew ⟨⟨some ⟨g1, 0, none⟩, x.Lists.Global.length, p1⟩, T1, ⟨A2, n2, p2⟩, T2⟩ x.Lists := o_l.keep (fun _ _ => rfl)
        have hN := OwLL.app_row (s' := ⟨A9, lg.length + (n3 - 1), c9⟩) oD.Global HV.out ho9 hg9 hat9
        change OwLL _ _ _ (World.setCell _ _ (.slice A9 (lg.length + (n3 - 1)) c9)) _ _ _ at hN
        have hO : OwLL FI 3 80 _ _ _ x.Lists.Own := (oD.Own.chg hx (fun b hb hm => o_l.d01 b (HSF.out b hm) hb)).chg (F := [g1]) ((Chg.refl _ w9).set_ (g := g1) (i := c) (by simp) (.slice A9 (lg.length + (n3 - 1)) c9)) (fun b hb hm => by simp only [List.mem_cons, List.not_mem_nil, or_false] at hm; subst hm; exact o_l.d01 b (mem_foot2.2 (.inl rfl)) hb)
        have uO := (oD.Own).lt
        have hB9 : Chg (HMem.foot ⟨HB, ⟨⟨some ⟨g1, 0, none⟩, x.Lists.Global.length, p1⟩, T1, ⟨A2, n2, p2⟩, T2⟩⟩) w (w9.setCell ⟨g1, c, none⟩ (.slice A9 (lg.length + (n3 - 1)) c9)) := ((Chg.drew_ hB).trans (hx.mono (fun g hg => hFL g (HFT.out g hg)))).set_ (hFL _ HG1.out) _
        have hG9 : OwHeap (w9.setCell ⟨g1, c, none⟩ (.slice A9 (lg.length + (n3 - 1)) c9)) HB (grantH x.Heap p c) := ((o_g.keep (w' := wo.drew) (fun _ _ => rfl)).chg hx (fun g hg hm => HD0.out g hg (HFT.out g hm))).chg (F := [g1]) ((Chg.refl _ w9).set_ (g := g1) (i := c) (by simp) (.slice A9 (lg.length + (n3 - 1)) c9)) (fun g hg hm => by simp only [List.mem_cons, List.not_mem_nil, or_false] at hm; subst hm; exact HD0.out g hg HG1.out)
        have h2 : wo.drew.heap.size = wo.heap.size := rfl
        have hfN : ∀ g ∈ HLists.foot ⟨⟨some ⟨g1, 0, none⟩, x.Lists.Global.length, p1⟩, T1.set c ⟨A9, lg.length + (n3 - 1), c9⟩, ⟨A2, n2, p2⟩, T2⟩, g ∈ HLists.foot ⟨⟨some ⟨g1, 0, none⟩, x.Lists.Global.length, p1⟩, T1, ⟨A2, n2, p2⟩, T2⟩ ∨ g = wo.heap.size := by
          intro g hg
          rcases HLists.mem_foot.1 hg with hg | hg
          · rcases foot2_set hg with hg | hg
            · exact .inl (HLists.mem_foot.2 (.inl hg))
            · rcases foot_app hat9 g hg with hg | hg
              · exact .inl (HFT.out g hg)
              · exact .inr hg
          · exact .inl (HLists.mem_foot.2 (.inr hg))
        exact ⟨⟨A9, lg.length + (n3 - 1), c9⟩, B_a.other (by omega) _, B_r.other (by omega) _, hG9, by rw [HD.out]; exact ⟨hN, hO, fun b hb hm => by rcases foot2_set hb with hb | hb; (exact o_l.d01 b hb hm); (rcases foot_app hat9 b hb with hb | hb; (exact o_l.d01 b (HSF.out b hb) hm); (have := uO b hm; omega))⟩, by simp [pv9, go_sem], fun g hg => by rcases hfN g hg with hh | hh; (exact .inl hh); (right; omega), fun g hg hm => by rcases hfN g hg with hh | hh; (exact HD0.out g hm hh); (have := ug g hm; omega), hB9⟩
  case rest =>
    clear B_a B_r o_g o_l hB hro ing pg2 ff q_a_0 q_a_1 q_a_2 q_a_3 q_r_0 q_r_1 q_r_2 q_r_3 fr_a fr_r z_a z_r
    obtain ⟨S9, B_a, B_r, o_g, o_l, pv, fl, fd, hB⟩ := hcut
    have q_a_0 := B_a.cell 0 _ rfl
    have q_a_1 := B_a.cell 1 _ rfl
    have q_a_2 := B_a.cell 2 _ rfl
    have q_a_3 := B_a.cell 3 _ rfl
    have q_r_0 := B_r.cell 0 _ rfl
    have q_r_1 := B_r.cell 1 _ rfl
    have q_r_2 := B_r.cell 2 _ rfl
    have q_r_3 := B_r.cell 3 _ rfl
    have fr_a := B_a.fro
    have fr_r := B_r.fro
    have z_a := B_a.lt
    have z_r := B_r.lt
    have hi0 : 0 < n3 := hn1
    have n_vr : gv ≠ w.heap.size + 1 := by omega
    have n_rv : w.heap.size + 1 ≠ gv := by omega
    go_wp2_with fail
    go_region
    all_goals
      go_wp2_with fail
      refine bodyPost_ret (v := .tuple #[.agg #[.slice HB.Bytes.a HB.Bytes.len HB.Bytes.cap, .slice HB.Class.a HB.Class.len HB.Class.cap, .slice (some ⟨g1, 0, none⟩) x.Lists.Global.length p1, .slice A2 n2 p2], .int .i64 ((p * 4 : Nat) : Int)]) (by simp [results, Tryz.results48, go_sem, q_r_0, q_r_1, q_r_2, q_r_3]) rfl ⟨⟨HB, ⟨⟨some ⟨g1, 0, none⟩, x.Lists.Global.length, p1⟩, T1.set c S9, ⟨A2, n2, p2⟩, T2⟩⟩, rfl, ⟨o_g.chg (F := [w.heap.size + 1]) (by repeat (first | with_reducible exact Chg.refl _ _ | with_reducible refine Chg.set_ ?_ (by simp) _ | with_reducible refine Chg.alloc_ ?_ _ | with_reducible refine Chg.drew_ ?_)) (fun g hg hm => by simp only [List.mem_cons, List.not_mem_nil, or_false] at hm; have := ug g hg; omega), o_l.chg (F := [w.heap.size + 1]) (by repeat (first | with_reducible exact Chg.refl _ _ | with_reducible refine Chg.set_ ?_ (by simp) _ | with_reducible refine Chg.alloc_ ?_ _ | with_reducible refine Chg.drew_ ?_)) (fun g hg hm => by simp only [List.mem_cons, List.not_mem_nil, or_false] at hm; rcases fl g hg with hh | hh; (have := ul g hh; omega); omega), fun b hb hm => fd b hm hb⟩, fun b hb => by rcases HMem.mem_foot.1 hb with hb | hb; (exact .inl (hFH b hb)); (rcases fl b hb with hh | hh; (exact .inl (hFL b hh)); (right; omega)), hB.trans_fr (G := [w.heap.size + 1]) (by repeat (first | with_reducible exact Chg.refl _ _ | with_reducible refine Chg.set_ ?_ (by simp) _ | with_reducible refine Chg.alloc_ ?_ _ | with_reducible refine Chg.drew_ ?_)) (fun b hb => .inr (by simp only [List.mem_cons, List.not_mem_nil, or_false] at hb; omega))⟩
end Go.Proofs.YtpjijbonpjoamaaGreat

