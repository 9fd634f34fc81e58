/-
  Several texts in one: lemmas and contracts that the claim rests on.
-/
import Derived.Test.YtpjijbonpjoamaaGreatUHAllocNow1
import Derived.Deep.QuietTactic
import Derived.BigQuiet
import Derived.Deep.LoopGhost
import Derived.Deep.RegionHeld3
import Derived.WalkSpells
import Derived.Laws.Cover3
import Derived.Test.YtpjijbonpjoamaaGreatUHAllocNow12
import Derived.Test.YtpjijbonpjoamaaGreatUHAllocNow10
import Derived.Test.YtpjijbonpjoamaaGreatUHAllocNow14
import Derived.Test.YtpjijbonpjoamaaGreatUHAllocNow11
import Derived.Test.YtpjijbonpjoamaaGreatUHAllocNow13
import Derived.Test.YtpjijbonpjoamaaGreatUHAllocNow3
import Derived.Test.YtpjijbonpjoamaaGreatUHAllocNow7
import Derived.Deep.CutRange
/-
  AllocNow that grants a page, the reference: the contract.
-/
namespace Go.Proofs.YtpjijbonpjoamaaGreat
open Go.RowKit

set_option maxRecDepth 100000 in
set_option maxHeartbeats 8000000 in
theorem AllocNow_spec_grant (w : World) (H : HMem) (x : Mem) (wk c p : Nat) (n : Int) (h : RdMem w w.heap.size H x) (hs : sizeMem x ≤ 536870912) (c1 : memOkB x = true) (hw : wk < 3) (c3 : classOfS n = (c : Int)) (hc : c < 3) (hrow0 : x.Lists.Own[wk * 3 + c]? = some []) (hrow : x.Lists.Global[c]? = some []) (hp : idxOf (fun y => y == -1) x.Heap.Class = (p : Int)) :
    Calls Tryz.prog 15 #[.agg #[.slice H.Heap.Bytes.a H.Heap.Bytes.len H.Heap.Bytes.cap, .slice H.Heap.Class.a H.Heap.Class.len H.Heap.Class.cap, .slice H.Lists.Global.a H.Lists.Global.len H.Lists.Global.cap, .slice H.Lists.Own.a H.Lists.Own.len H.Lists.Own.cap], .int .i64 wk, .int .i64 n] w fun e w' => ∃ H' : HMem, e = .returned (.tuple #[.agg #[.slice H'.Heap.Bytes.a H'.Heap.Bytes.len H'.Heap.Bytes.cap, .slice H'.Heap.Class.a H'.Heap.Class.len H'.Heap.Class.cap, .slice H'.Lists.Global.a H'.Lists.Global.len H'.Lists.Global.cap, .slice H'.Lists.Own.a H'.Lists.Own.len H'.Lists.Own.cap], .int .i64 (genInB (grantH x.Heap p c) ((p * 4 : Nat) : Int) * 32 + ((p * 4 : Nat) : Int)), .int .i64 0]) ∧ OwMem w' H' (grantM x p c) ∧ (∀ g ∈ H'.foot, w.heap.size ≤ g) ∧ Below w.heap.size w w' := by
  have hcl : inB 0 2 (c : Int) = true := inB_iff.2 ⟨by omega, by omega⟩
  have c2 : inB 0 2 (wk : Int) = true := inB_iff.2 ⟨by omega, by omega⟩
  have hsh := mem_shape c1
  have hpl := idx_lt hp
  have hp6 : p < 6 := by rw [(shape_of (mem_shape c1)).cl] at hpl; exact hpl
  obtain ⟨gf1, gf2, gf3⟩ := grant_facts (mem_shape c1) hp6 hc
  have f1 : inB 0 23 ((p * 4 : Nat) : Int) = true := inB_iff.2 ⟨by omega, by omega⟩
  have f3 : inB 1 6 (genInB (grantH x.Heap p c) ((p * 4 : Nat) : Int)) = true := by rw [gf3]; decide
  have k1 : 0 ≤ classInB (grantH x.Heap p c) ((p * 4 : Nat) : Int) := by rw [gf2]; omega
  have hs0 : 0 ≤ ((p * 4 : Nat) : Int) := by omega
  have hsh2 : sizeHeap x.Heap ≤ 536870912 ∧ sizeLists x.Lists ≤ 536870912 := by unfold sizeMem at hs; omega
  have hcp := fun (W : World) (hW : Below w.heap.size w W) => l9Copy_spec W H x (rdMem_up h hW) hs
  have hmo := fun (W : World) (hW : Below w.heap.size w W) => MemOk_spec W H x (rdMem_up h hW) (by unfold sizeMem sizeLists at hs; omega) (by unfold sizeMem sizeLists at hs; omega)
  have hto := fun (W : World) (K : HLists) (hK : RdLists W W.heap.size K x.Lists) => TakeOwn_spec_nil W K x.Lists wk c hK hsh2.2 (mem_lists c1) hw hc hrow0
  have htg := fun (W : World) (K : HLists) (hK : RdLists W W.heap.size K x.Lists) => TakeGlobal_spec_nil W K x.Lists c hK hsh2.2 (mem_lists c1) hc hrow
  have hgr := fun (W : World) (K : HMem) (hK : OwMem W K x) => l9Grant_yes W K x p c hK hsh2.2 hsh (lists_len (mem_lists c1)).1 hc hp
  rw [c1] at hmo
  have hco := fun W => ClassOf_spec n W
  rw [c3] at hco
  clear c3 hrow hrow0 c1 hsh2 hs gf2 gf3 hpl hp hsh
  generalize ((p * 4 : Nat) : Int) = s at f1 f3 hs0 hgr k1 ⊢
  have B_a : Box ((w.alloc (.cells #[.slice H.Heap.Bytes.a H.Heap.Bytes.len H.Heap.Bytes.cap, .slice H.Heap.Class.a H.Heap.Class.len H.Heap.Class.cap, .slice H.Lists.Global.a H.Lists.Global.len H.Lists.Global.cap, .slice H.Lists.Own.a H.Lists.Own.len H.Lists.Own.cap] 36)).alloc (.cells #[.slice none 0 0, .slice none 0 0, .slice none 0 0, .slice none 0 0] 36)) (w.heap.size) [.slice H.Heap.Bytes.a H.Heap.Bytes.len H.Heap.Bytes.cap, .slice H.Heap.Class.a H.Heap.Class.len H.Heap.Class.cap, .slice H.Lists.Global.a H.Lists.Global.len H.Lists.Global.cap, .slice H.Lists.Own.a H.Lists.Own.len H.Lists.Own.cap] := by
    have hbx := Box.new w #[.slice H.Heap.Bytes.a H.Heap.Bytes.len H.Heap.Bytes.cap, .slice H.Heap.Class.a H.Heap.Class.len H.Heap.Class.cap, .slice H.Lists.Global.a H.Lists.Global.len H.Lists.Global.cap, .slice H.Lists.Own.a H.Lists.Own.len H.Lists.Own.cap] 36
    exact (hbx).alloc _
  have B_r : Box ((w.alloc (.cells #[.slice H.Heap.Bytes.a H.Heap.Bytes.len H.Heap.Bytes.cap, .slice H.Heap.Class.a H.Heap.Class.len H.Heap.Class.cap, .slice H.Lists.Global.a H.Lists.Global.len H.Lists.Global.cap, .slice H.Lists.Own.a H.Lists.Own.len H.Lists.Own.cap] 36)).alloc (.cells #[.slice none 0 0, .slice none 0 0, .slice none 0 0, .slice none 0 0] 36)) (w.heap.size + 1) [.slice none 0 0, .slice none 0 0, .slice none 0 0, .slice none 0 0] := by
    have hbx := Box.new (w.alloc (.cells #[.slice H.Heap.Bytes.a H.Heap.Bytes.len H.Heap.Bytes.cap, .slice H.Heap.Class.a H.Heap.Class.len H.Heap.Class.cap, .slice H.Lists.Global.a H.Lists.Global.len H.Lists.Global.cap, .slice H.Lists.Own.a H.Lists.Own.len H.Lists.Own.cap] 36)) #[.slice none 0 0, .slice none 0 0, .slice none 0 0, .slice none 0 0] 36
    simp only [World.size_alloc] at hbx
    exact hbx
  have hB : Below w.heap.size w ((w.alloc (.cells #[.slice H.Heap.Bytes.a H.Heap.Bytes.len H.Heap.Bytes.cap, .slice H.Heap.Class.a H.Heap.Class.len H.Heap.Class.cap, .slice H.Lists.Global.a H.Lists.Global.len H.Lists.Global.cap, .slice H.Lists.Own.a H.Lists.Own.len H.Lists.Own.cap] 36)).alloc (.cells #[.slice none 0 0, .slice none 0 0, .slice none 0 0, .slice none 0 0] 36)) := by repeat (first | exact Below.refl _ _ | refine Below.alloc ?_ (by simp <;> omega) _ | refine below_grow_of ?_ (by simp <;> omega) _ _ | refine Below.drew ?_ | refine below_drewN ?_ _)
  go_enter Tryz.func15, Tryz.ntmps15
  go_wp2_with fail
  generalize hW0 : ((w.alloc (.cells #[.slice H.Heap.Bytes.a H.Heap.Bytes.len H.Heap.Bytes.cap, .slice H.Heap.Class.a H.Heap.Class.len H.Heap.Class.cap, .slice H.Lists.Global.a H.Lists.Global.len H.Lists.Global.cap, .slice H.Lists.Own.a H.Lists.Own.len H.Lists.Own.cap] 36)).alloc (.cells #[.slice none 0 0, .slice none 0 0, .slice none 0 0, .slice none 0 0] 36)) = w0 at B_a B_r hB ⊢
  clear hW0
  have zz_a := B_a.lt
  have zz_r := B_r.lt
  have q_a_0 := B_a.cell 0 _ rfl
  have q_a_1 := B_a.cell 1 _ rfl
  have q_a_2 := B_a.cell 2 _ rfl
  have q_a_3 := B_a.cell 3 _ rfl
  have fr_a := B_a.fro
  have z_a := B_a.lt
  have q_r_0 := B_r.cell 0 _ rfl
  have q_r_1 := B_r.cell 1 _ rfl
  have q_r_2 := B_r.cell 2 _ rfl
  have q_r_3 := B_r.cell 3 _ rfl
  have fr_r := B_r.fro
  have z_r := B_r.lt
  refine (hcp _ hB).mono ?_
  rintro e w1 ⟨K_c, rfl, o_c, l_c, hb⟩
  have u_c := o_c.lt
  replace B_a := B_a.below hb
  replace B_r := B_r.below hb
  replace hB := hB.trans (hb.mono hB.size)
  have sz := hb.size
  clear hb
  replace q_a_0 := B_a.cell 0 _ rfl
  replace q_a_1 := B_a.cell 1 _ rfl
  replace q_a_2 := B_a.cell 2 _ rfl
  replace q_a_3 := B_a.cell 3 _ rfl
  replace fr_a := B_a.fro
  replace z_a := B_a.lt
  replace q_r_0 := B_r.cell 0 _ rfl
  replace q_r_1 := B_r.cell 1 _ rfl
  replace q_r_2 := B_r.cell 2 _ rfl
  replace q_r_3 := B_r.cell 3 _ rfl
  replace fr_r := B_r.fro
  replace z_r := B_r.lt
  clear hcp
  go_wp2_with (go_at_call 45; refine (hco _).mono ?_; rintro e wv ⟨rfl, rfl⟩)
  replace B_a := B_a.alloc (.cells #[.slice K_c.Heap.Bytes.a K_c.Heap.Bytes.len K_c.Heap.Bytes.cap, .slice K_c.Heap.Class.a K_c.Heap.Class.len K_c.Heap.Class.cap, .slice K_c.Lists.Global.a K_c.Lists.Global.len K_c.Lists.Global.cap, .slice K_c.Lists.Own.a K_c.Lists.Own.len K_c.Lists.Own.cap] 36)
  replace B_r := B_r.alloc (.cells #[.slice K_c.Heap.Bytes.a K_c.Heap.Bytes.len K_c.Heap.Bytes.cap, .slice K_c.Heap.Class.a K_c.Heap.Class.len K_c.Heap.Class.cap, .slice K_c.Lists.Global.a K_c.Lists.Global.len K_c.Lists.Global.cap, .slice K_c.Lists.Own.a K_c.Lists.Own.len K_c.Lists.Own.cap] 36)
  replace o_c := o_c.alloc_ (.cells #[.slice K_c.Heap.Bytes.a K_c.Heap.Bytes.len K_c.Heap.Bytes.cap, .slice K_c.Heap.Class.a K_c.Heap.Class.len K_c.Heap.Class.cap, .slice K_c.Lists.Global.a K_c.Lists.Global.len K_c.Lists.Global.cap, .slice K_c.Lists.Own.a K_c.Lists.Own.len K_c.Lists.Own.cap] 36)
  replace hB := hB.alloc hB.size (.cells #[.slice K_c.Heap.Bytes.a K_c.Heap.Bytes.len K_c.Heap.Bytes.cap, .slice K_c.Heap.Class.a K_c.Heap.Class.len K_c.Heap.Class.cap, .slice K_c.Lists.Global.a K_c.Lists.Global.len K_c.Lists.Global.cap, .slice K_c.Lists.Own.a K_c.Lists.Own.len K_c.Lists.Own.cap] 36)
  have B_o : Box (w1.alloc (.cells #[.slice K_c.Heap.Bytes.a K_c.Heap.Bytes.len K_c.Heap.Bytes.cap, .slice K_c.Heap.Class.a K_c.Heap.Class.len K_c.Heap.Class.cap, .slice K_c.Lists.Global.a K_c.Lists.Global.len K_c.Lists.Global.cap, .slice K_c.Lists.Own.a K_c.Lists.Own.len K_c.Lists.Own.cap] 36)) w1.heap.size [.slice K_c.Heap.Bytes.a K_c.Heap.Bytes.len K_c.Heap.Bytes.cap, .slice K_c.Heap.Class.a K_c.Heap.Class.len K_c.Heap.Class.cap, .slice K_c.Lists.Global.a K_c.Lists.Global.len K_c.Lists.Global.cap, .slice K_c.Lists.Own.a K_c.Lists.Own.len K_c.Lists.Own.cap] := Box.new w1 #[.slice K_c.Heap.Bytes.a K_c.Heap.Bytes.len K_c.Heap.Bytes.cap, .slice K_c.Heap.Class.a K_c.Heap.Class.len K_c.Heap.Class.cap, .slice K_c.Lists.Global.a K_c.Lists.Global.len K_c.Lists.Global.cap, .slice K_c.Lists.Own.a K_c.Lists.Own.len K_c.Lists.Own.cap] 36
  have zz_o := B_o.lt
  have sz : w1.heap.size ≤ (w1.alloc (.cells #[.slice K_c.Heap.Bytes.a K_c.Heap.Bytes.len K_c.Heap.Bytes.cap, .slice K_c.Heap.Class.a K_c.Heap.Class.len K_c.Heap.Class.cap, .slice K_c.Lists.Global.a K_c.Lists.Global.len K_c.Lists.Global.cap, .slice K_c.Lists.Own.a K_c.Lists.Own.len K_c.Lists.Own.cap] 36)).heap.size := Nat.le_of_lt B_o.lt
  generalize hG : (w1.alloc (.cells #[.slice K_c.Heap.Bytes.a K_c.Heap.Bytes.len K_c.Heap.Bytes.cap, .slice K_c.Heap.Class.a K_c.Heap.Class.len K_c.Heap.Class.cap, .slice K_c.Lists.Global.a K_c.Lists.Global.len K_c.Lists.Global.cap, .slice K_c.Lists.Own.a K_c.Lists.Own.len K_c.Lists.Own.cap] 36)) = w2 at B_a B_r o_c hB B_o zz_o sz ⊢
  clear hG
  replace q_a_0 := B_a.cell 0 _ rfl
  replace q_a_1 := B_a.cell 1 _ rfl
  replace q_a_2 := B_a.cell 2 _ rfl
  replace q_a_3 := B_a.cell 3 _ rfl
  replace fr_a := B_a.fro
  replace z_a := B_a.lt
  replace q_r_0 := B_r.cell 0 _ rfl
  replace q_r_1 := B_r.cell 1 _ rfl
  replace q_r_2 := B_r.cell 2 _ rfl
  replace q_r_3 := B_r.cell 3 _ rfl
  replace fr_r := B_r.fro
  replace z_r := B_r.lt
  have q_o_0 := B_o.cell 0 _ rfl
  have q_o_1 := B_o.cell 1 _ rfl
  have q_o_2 := B_o.cell 2 _ rfl
  have q_o_3 := B_o.cell 3 _ rfl
  have fr_o := B_o.fro
  have z_o := B_o.lt
  refine (hmo _ hB).mono ?_
  rintro e w3 ⟨rfl, hb⟩
  replace B_a := B_a.below hb
  replace B_r := B_r.below hb
  replace B_o := B_o.below hb
  have o_c := o_c.step0 hb
  replace hB := hB.trans (hb.mono hB.size)
  have sz := hb.size
  clear hb
  replace q_a_0 := B_a.cell 0 _ rfl
  replace q_a_1 := B_a.cell 1 _ rfl
  replace q_a_2 := B_a.cell 2 _ rfl
  replace q_a_3 := B_a.cell 3 _ rfl
  replace fr_a := B_a.fro
  replace z_a := B_a.lt
  replace q_r_0 := B_r.cell 0 _ rfl
  replace q_r_1 := B_r.cell 1 _ rfl
  replace q_r_2 := B_r.cell 2 _ rfl
  replace q_r_3 := B_r.cell 3 _ rfl
  replace fr_r := B_r.fro
  replace z_r := B_r.lt
  replace q_o_0 := B_o.cell 0 _ rfl
  replace q_o_1 := B_o.cell 1 _ rfl
  replace q_o_2 := B_o.cell 2 _ rfl
  replace q_o_3 := B_o.cell 3 _ rfl
  replace fr_o := B_o.fro
  replace z_o := B_o.lt
  clear hmo
  go_wp2_with (go_at_call 21; refine (l1In_ct _ _ _ _).mono ?_; rw [c2]; rintro e wv ⟨rfl, rfl⟩)
  refine (hto _ K_c.Lists o_c.Lists.rd').mono ?_
  rintro e w4 ⟨K_u, rfl, o_u, l_u, hb⟩
  have u_u := o_u.lt
  replace B_a := B_a.below hb
  replace B_r := B_r.below hb
  replace B_o := B_o.below hb
  replace o_c := o_c.step0 hb
  replace hB := hB.trans (hb.mono hB.size)
  have sz := hb.size
  clear hb
  replace q_a_0 := B_a.cell 0 _ rfl
  replace q_a_1 := B_a.cell 1 _ rfl
  replace q_a_2 := B_a.cell 2 _ rfl
  replace q_a_3 := B_a.cell 3 _ rfl
  replace fr_a := B_a.fro
  replace z_a := B_a.lt
  replace q_r_0 := B_r.cell 0 _ rfl
  replace q_r_1 := B_r.cell 1 _ rfl
  replace q_r_2 := B_r.cell 2 _ rfl
  replace q_r_3 := B_r.cell 3 _ rfl
  replace fr_r := B_r.fro
  replace z_r := B_r.lt
  replace q_o_0 := B_o.cell 0 _ rfl
  replace q_o_1 := B_o.cell 1 _ rfl
  replace q_o_2 := B_o.cell 2 _ rfl
  replace q_o_3 := B_o.cell 3 _ rfl
  replace fr_o := B_o.fro
  replace z_o := B_o.lt
  clear hto
  go_wp2_with fail
  replace B_a := B_a.alloc (.cells #[.slice K_u.Global.a K_u.Global.len K_u.Global.cap, .slice K_u.Own.a K_u.Own.len K_u.Own.cap] 34)
  replace B_r := B_r.alloc (.cells #[.slice K_u.Global.a K_u.Global.len K_u.Global.cap, .slice K_u.Own.a K_u.Own.len K_u.Own.cap] 34)
  replace B_o := B_o.alloc (.cells #[.slice K_u.Global.a K_u.Global.len K_u.Global.cap, .slice K_u.Own.a K_u.Own.len K_u.Own.cap] 34)
  replace o_c := o_c.alloc_ (.cells #[.slice K_u.Global.a K_u.Global.len K_u.Global.cap, .slice K_u.Own.a K_u.Own.len K_u.Own.cap] 34)
  replace o_u := o_u.alloc_ (.cells #[.slice K_u.Global.a K_u.Global.len K_u.Global.cap, .slice K_u.Own.a K_u.Own.len K_u.Own.cap] 34)
  replace hB := hB.alloc hB.size (.cells #[.slice K_u.Global.a K_u.Global.len K_u.Global.cap, .slice K_u.Own.a K_u.Own.len K_u.Own.cap] 34)
  have B_p : Box (w4.alloc (.cells #[.slice K_u.Global.a K_u.Global.len K_u.Global.cap, .slice K_u.Own.a K_u.Own.len K_u.Own.cap] 34)) w4.heap.size [.slice K_u.Global.a K_u.Global.len K_u.Global.cap, .slice K_u.Own.a K_u.Own.len K_u.Own.cap] := Box.new w4 #[.slice K_u.Global.a K_u.Global.len K_u.Global.cap, .slice K_u.Own.a K_u.Own.len K_u.Own.cap] 34
  have zz_p := B_p.lt
  have sz : w4.heap.size ≤ (w4.alloc (.cells #[.slice K_u.Global.a K_u.Global.len K_u.Global.cap, .slice K_u.Own.a K_u.Own.len K_u.Own.cap] 34)).heap.size := Nat.le_of_lt B_p.lt
  generalize hG : (w4.alloc (.cells #[.slice K_u.Global.a K_u.Global.len K_u.Global.cap, .slice K_u.Own.a K_u.Own.len K_u.Own.cap] 34)) = w5 at B_a B_r B_o o_c o_u hB B_p zz_p sz ⊢
  clear hG
  replace q_a_0 := B_a.cell 0 _ rfl
  replace q_a_1 := B_a.cell 1 _ rfl
  replace q_a_2 := B_a.cell 2 _ rfl
  replace q_a_3 := B_a.cell 3 _ rfl
  replace fr_a := B_a.fro
  replace z_a := B_a.lt
  replace q_r_0 := B_r.cell 0 _ rfl
  replace q_r_1 := B_r.cell 1 _ rfl
  replace q_r_2 := B_r.cell 2 _ rfl
  replace q_r_3 := B_r.cell 3 _ rfl
  replace fr_r := B_r.fro
  replace z_r := B_r.lt
  replace q_o_0 := B_o.cell 0 _ rfl
  replace q_o_1 := B_o.cell 1 _ rfl
  replace q_o_2 := B_o.cell 2 _ rfl
  replace q_o_3 := B_o.cell 3 _ rfl
  replace fr_o := B_o.fro
  replace z_o := B_o.lt
  have q_p_0 := B_p.cell 0 _ rfl
  have q_p_1 := B_p.cell 1 _ rfl
  have fr_p := B_p.fro
  have z_p := B_p.lt
  refine (htg _ K_u o_u.rd').mono ?_
  rintro e w6 ⟨K_t, rfl, o_t, l_t, hb⟩
  have u_t := o_t.lt
  replace B_a := B_a.below hb
  replace B_r := B_r.below hb
  replace B_o := B_o.below hb
  replace B_p := B_p.below hb
  replace o_c := o_c.step0 hb
  have o_u := o_u.step0 hb
  replace hB := hB.trans (hb.mono hB.size)
  have sz := hb.size
  clear hb
  replace q_a_0 := B_a.cell 0 _ rfl
  replace q_a_1 := B_a.cell 1 _ rfl
  replace q_a_2 := B_a.cell 2 _ rfl
  replace q_a_3 := B_a.cell 3 _ rfl
  replace fr_a := B_a.fro
  replace z_a := B_a.lt
  replace q_r_0 := B_r.cell 0 _ rfl
  replace q_r_1 := B_r.cell 1 _ rfl
  replace q_r_2 := B_r.cell 2 _ rfl
  replace q_r_3 := B_r.cell 3 _ rfl
  replace fr_r := B_r.fro
  replace z_r := B_r.lt
  replace q_o_0 := B_o.cell 0 _ rfl
  replace q_o_1 := B_o.cell 1 _ rfl
  replace q_o_2 := B_o.cell 2 _ rfl
  replace q_o_3 := B_o.cell 3 _ rfl
  replace fr_o := B_o.fro
  replace z_o := B_o.lt
  replace q_p_0 := B_p.cell 0 _ rfl
  replace q_p_1 := B_p.cell 1 _ rfl
  replace fr_p := B_p.fro
  replace z_p := B_p.lt
  clear htg
  go_upto_region 10 with (fail)
  replace B_a : Box ((w6.setCell ⟨w4.heap.size, 0, none⟩ (.slice K_t.Global.a K_t.Global.len K_t.Global.cap)).setCell ⟨w4.heap.size, 1, none⟩ (.slice K_t.Own.a K_t.Own.len K_t.Own.cap)) (w.heap.size) [.slice H.Heap.Bytes.a H.Heap.Bytes.len H.Heap.Bytes.cap, .slice H.Heap.Class.a H.Heap.Class.len H.Heap.Class.cap, .slice H.Lists.Global.a H.Lists.Global.len H.Lists.Global.cap, .slice H.Lists.Own.a H.Lists.Own.len H.Lists.Own.cap] := ((B_a.other (by omega) _).other (by omega) _)
  replace B_r : Box ((w6.setCell ⟨w4.heap.size, 0, none⟩ (.slice K_t.Global.a K_t.Global.len K_t.Global.cap)).setCell ⟨w4.heap.size, 1, none⟩ (.slice K_t.Own.a K_t.Own.len K_t.Own.cap)) (w.heap.size + 1) [.slice none 0 0, .slice none 0 0, .slice none 0 0, .slice none 0 0] := ((B_r.other (by omega) _).other (by omega) _)
  replace B_o : Box ((w6.setCell ⟨w4.heap.size, 0, none⟩ (.slice K_t.Global.a K_t.Global.len K_t.Global.cap)).setCell ⟨w4.heap.size, 1, none⟩ (.slice K_t.Own.a K_t.Own.len K_t.Own.cap)) (w1.heap.size) [.slice K_c.Heap.Bytes.a K_c.Heap.Bytes.len K_c.Heap.Bytes.cap, .slice K_c.Heap.Class.a K_c.Heap.Class.len K_c.Heap.Class.cap, .slice K_c.Lists.Global.a K_c.Lists.Global.len K_c.Lists.Global.cap, .slice K_c.Lists.Own.a K_c.Lists.Own.len K_c.Lists.Own.cap] := ((B_o.other (by omega) _).other (by omega) _)
  replace B_p : Box ((w6.setCell ⟨w4.heap.size, 0, none⟩ (.slice K_t.Global.a K_t.Global.len K_t.Global.cap)).setCell ⟨w4.heap.size, 1, none⟩ (.slice K_t.Own.a K_t.Own.len K_t.Own.cap)) (w4.heap.size) [.slice K_t.Global.a K_t.Global.len K_t.Global.cap, .slice K_t.Own.a K_t.Own.len K_t.Own.cap] := ((B_p.set 0 (.slice K_t.Global.a K_t.Global.len K_t.Global.cap)).set 1 (.slice K_t.Own.a K_t.Own.len K_t.Own.cap))
  replace o_c := o_c.chg (F := [w4.heap.size]) (w' := ((w6.setCell ⟨w4.heap.size, 0, none⟩ (.slice K_t.Global.a K_t.Global.len K_t.Global.cap)).setCell ⟨w4.heap.size, 1, none⟩ (.slice K_t.Own.a K_t.Own.len K_t.Own.cap))) (by repeat (first | with_reducible exact Chg.refl _ _ | with_reducible refine Chg.set_ ?_ (by simp) _ | with_reducible refine Chg.alloc_ ?_ _ | with_reducible refine Chg.drew_ ?_)) (fun g hg hm => by simp only [List.mem_cons, List.not_mem_nil, or_false] at hm; have := l_c g hg; have := u_c g hg; omega)
  replace o_u := o_u.chg (F := [w4.heap.size]) (w' := ((w6.setCell ⟨w4.heap.size, 0, none⟩ (.slice K_t.Global.a K_t.Global.len K_t.Global.cap)).setCell ⟨w4.heap.size, 1, none⟩ (.slice K_t.Own.a K_t.Own.len K_t.Own.cap))) (by repeat (first | with_reducible exact Chg.refl _ _ | with_reducible refine Chg.set_ ?_ (by simp) _ | with_reducible refine Chg.alloc_ ?_ _ | with_reducible refine Chg.drew_ ?_)) (fun g hg hm => by simp only [List.mem_cons, List.not_mem_nil, or_false] at hm; have := l_u g hg; have := u_u g hg; omega)
  replace o_t := o_t.chg (F := [w4.heap.size]) (w' := ((w6.setCell ⟨w4.heap.size, 0, none⟩ (.slice K_t.Global.a K_t.Global.len K_t.Global.cap)).setCell ⟨w4.heap.size, 1, none⟩ (.slice K_t.Own.a K_t.Own.len K_t.Own.cap))) (by repeat (first | with_reducible exact Chg.refl _ _ | with_reducible refine Chg.set_ ?_ (by simp) _ | with_reducible refine Chg.alloc_ ?_ _ | with_reducible refine Chg.drew_ ?_)) (fun g hg hm => by simp only [List.mem_cons, List.not_mem_nil, or_false] at hm; have := l_t g hg; have := u_t g hg; omega)
  replace hB : Below w.heap.size w ((w6.setCell ⟨w4.heap.size, 0, none⟩ (.slice K_t.Global.a K_t.Global.len K_t.Global.cap)).setCell ⟨w4.heap.size, 1, none⟩ (.slice K_t.Own.a K_t.Own.len K_t.Own.cap)) := Below.trans hB (by repeat (first | with_reducible exact Below.refl _ _ | with_reducible refine Below.setCell ?_ (by simp <;> omega) _ | with_reducible refine Below.alloc ?_ (by simp <;> omega) _ | with_reducible refine Below.drew ?_))
  have sz : w6.heap.size ≤ ((w6.setCell ⟨w4.heap.size, 0, none⟩ (.slice K_t.Global.a K_t.Global.len K_t.Global.cap)).setCell ⟨w4.heap.size, 1, none⟩ (.slice K_t.Own.a K_t.Own.len K_t.Own.cap)).heap.size := by simp
  generalize hG : ((w6.setCell ⟨w4.heap.size, 0, none⟩ (.slice K_t.Global.a K_t.Global.len K_t.Global.cap)).setCell ⟨w4.heap.size, 1, none⟩ (.slice K_t.Own.a K_t.Own.len K_t.Own.cap)) = w7 at B_a B_r B_o B_p o_c o_u o_t hB sz ⊢
  clear hG
  replace q_a_0 := B_a.cell 0 _ rfl
  replace q_a_1 := B_a.cell 1 _ rfl
  replace q_a_2 := B_a.cell 2 _ rfl
  replace q_a_3 := B_a.cell 3 _ rfl
  replace fr_a := B_a.fro
  replace z_a := B_a.lt
  replace q_r_0 := B_r.cell 0 _ rfl
  replace q_r_1 := B_r.cell 1 _ rfl
  replace q_r_2 := B_r.cell 2 _ rfl
  replace q_r_3 := B_r.cell 3 _ rfl
  replace fr_r := B_r.fro
  replace z_r := B_r.lt
  replace q_o_0 := B_o.cell 0 _ rfl
  replace q_o_1 := B_o.cell 1 _ rfl
  replace q_o_2 := B_o.cell 2 _ rfl
  replace q_o_3 := B_o.cell 3 _ rfl
  replace fr_o := B_o.fro
  replace z_o := B_o.lt
  replace q_p_0 := B_p.cell 0 _ rfl
  replace q_p_1 := B_p.cell 1 _ rfl
  replace fr_p := B_p.fro
  replace z_p := B_p.lt
  go_upto_region 12 with (fail)
  replace B_a : Box ((w7.setCell ⟨w1.heap.size, 2, none⟩ (.slice K_t.Global.a K_t.Global.len K_t.Global.cap)).setCell ⟨w1.heap.size, 3, none⟩ (.slice K_t.Own.a K_t.Own.len K_t.Own.cap)) (w.heap.size) [.slice H.Heap.Bytes.a H.Heap.Bytes.len H.Heap.Bytes.cap, .slice H.Heap.Class.a H.Heap.Class.len H.Heap.Class.cap, .slice H.Lists.Global.a H.Lists.Global.len H.Lists.Global.cap, .slice H.Lists.Own.a H.Lists.Own.len H.Lists.Own.cap] := ((B_a.other (by omega) _).other (by omega) _)
  replace B_r : Box ((w7.setCell ⟨w1.heap.size, 2, none⟩ (.slice K_t.Global.a K_t.Global.len K_t.Global.cap)).setCell ⟨w1.heap.size, 3, none⟩ (.slice K_t.Own.a K_t.Own.len K_t.Own.cap)) (w.heap.size + 1) [.slice none 0 0, .slice none 0 0, .slice none 0 0, .slice none 0 0] := ((B_r.other (by omega) _).other (by omega) _)
  replace B_o : Box ((w7.setCell ⟨w1.heap.size, 2, none⟩ (.slice K_t.Global.a K_t.Global.len K_t.Global.cap)).setCell ⟨w1.heap.size, 3, none⟩ (.slice K_t.Own.a K_t.Own.len K_t.Own.cap)) (w1.heap.size) [.slice K_c.Heap.Bytes.a K_c.Heap.Bytes.len K_c.Heap.Bytes.cap, .slice K_c.Heap.Class.a K_c.Heap.Class.len K_c.Heap.Class.cap, .slice K_t.Global.a K_t.Global.len K_t.Global.cap, .slice K_t.Own.a K_t.Own.len K_t.Own.cap] := ((B_o.set 2 (.slice K_t.Global.a K_t.Global.len K_t.Global.cap)).set 3 (.slice K_t.Own.a K_t.Own.len K_t.Own.cap))
  replace B_p : Box ((w7.setCell ⟨w1.heap.size, 2, none⟩ (.slice K_t.Global.a K_t.Global.len K_t.Global.cap)).setCell ⟨w1.heap.size, 3, none⟩ (.slice K_t.Own.a K_t.Own.len K_t.Own.cap)) (w4.heap.size) [.slice K_t.Global.a K_t.Global.len K_t.Global.cap, .slice K_t.Own.a K_t.Own.len K_t.Own.cap] := ((B_p.other (by omega) _).other (by omega) _)
  replace o_c := o_c.chg (F := [w1.heap.size]) (w' := ((w7.setCell ⟨w1.heap.size, 2, none⟩ (.slice K_t.Global.a K_t.Global.len K_t.Global.cap)).setCell ⟨w1.heap.size, 3, none⟩ (.slice K_t.Own.a K_t.Own.len K_t.Own.cap))) (by repeat (first | with_reducible exact Chg.refl _ _ | with_reducible refine Chg.set_ ?_ (by simp) _ | with_reducible refine Chg.alloc_ ?_ _ | with_reducible refine Chg.drew_ ?_)) (fun g hg hm => by simp only [List.mem_cons, List.not_mem_nil, or_false] at hm; have := l_c g hg; have := u_c g hg; omega)
  replace o_u := o_u.chg (F := [w1.heap.size]) (w' := ((w7.setCell ⟨w1.heap.size, 2, none⟩ (.slice K_t.Global.a K_t.Global.len K_t.Global.cap)).setCell ⟨w1.heap.size, 3, none⟩ (.slice K_t.Own.a K_t.Own.len K_t.Own.cap))) (by repeat (first | with_reducible exact Chg.refl _ _ | with_reducible refine Chg.set_ ?_ (by simp) _ | with_reducible refine Chg.alloc_ ?_ _ | with_reducible refine Chg.drew_ ?_)) (fun g hg hm => by simp only [List.mem_cons, List.not_mem_nil, or_false] at hm; have := l_u g hg; have := u_u g hg; omega)
  replace o_t := o_t.chg (F := [w1.heap.size]) (w' := ((w7.setCell ⟨w1.heap.size, 2, none⟩ (.slice K_t.Global.a K_t.Global.len K_t.Global.cap)).setCell ⟨w1.heap.size, 3, none⟩ (.slice K_t.Own.a K_t.Own.len K_t.Own.cap))) (by repeat (first | with_reducible exact Chg.refl _ _ | with_reducible refine Chg.set_ ?_ (by simp) _ | with_reducible refine Chg.alloc_ ?_ _ | with_reducible refine Chg.drew_ ?_)) (fun g hg hm => by simp only [List.mem_cons, List.not_mem_nil, or_false] at hm; have := l_t g hg; have := u_t g hg; omega)
  replace hB : Below w.heap.size w ((w7.setCell ⟨w1.heap.size, 2, none⟩ (.slice K_t.Global.a K_t.Global.len K_t.Global.cap)).setCell ⟨w1.heap.size, 3, none⟩ (.slice K_t.Own.a K_t.Own.len K_t.Own.cap)) := Below.trans hB (by repeat (first | with_reducible exact Below.refl _ _ | with_reducible refine Below.setCell ?_ (by simp <;> omega) _ | with_reducible refine Below.alloc ?_ (by simp <;> omega) _ | with_reducible refine Below.drew ?_))
  have sz : w7.heap.size ≤ ((w7.setCell ⟨w1.heap.size, 2, none⟩ (.slice K_t.Global.a K_t.Global.len K_t.Global.cap)).setCell ⟨w1.heap.size, 3, none⟩ (.slice K_t.Own.a K_t.Own.len K_t.Own.cap)).heap.size := by simp
  generalize hG : ((w7.setCell ⟨w1.heap.size, 2, none⟩ (.slice K_t.Global.a K_t.Global.len K_t.Global.cap)).setCell ⟨w1.heap.size, 3, none⟩ (.slice K_t.Own.a K_t.Own.len K_t.Own.cap)) = w8 at B_a B_r B_o B_p o_c o_u o_t hB sz ⊢
  clear hG
  replace q_a_0 := B_a.cell 0 _ rfl
  replace q_a_1 := B_a.cell 1 _ rfl
  replace q_a_2 := B_a.cell 2 _ rfl
  replace q_a_3 := B_a.cell 3 _ rfl
  replace fr_a := B_a.fro
  replace z_a := B_a.lt
  replace q_r_0 := B_r.cell 0 _ rfl
  replace q_r_1 := B_r.cell 1 _ rfl
  replace q_r_2 := B_r.cell 2 _ rfl
  replace q_r_3 := B_r.cell 3 _ rfl
  replace fr_r := B_r.fro
  replace z_r := B_r.lt
  replace q_o_0 := B_o.cell 0 _ rfl
  replace q_o_1 := B_o.cell 1 _ rfl
  replace q_o_2 := B_o.cell 2 _ rfl
  replace q_o_3 := B_o.cell 3 _ rfl
  replace fr_o := B_o.fro
  replace z_o := B_o.lt
  replace q_p_0 := B_p.cell 0 _ rfl
  replace q_p_1 := B_p.cell 1 _ rfl
  replace fr_p := B_p.fro
  replace z_p := B_p.lt
  have o_m : OwMem w8 ⟨K_c.Heap, K_t⟩ x := ⟨o_c.Heap, o_t, fun b hb hm => by have := u_c b (HMem.mem_foot.2 (.inl hb)); have := l_t b hm; omega⟩
  have n_m : ∀ b ∈ HMem.foot ⟨K_c.Heap, K_t⟩, w.heap.size + 1 < b ∧ b ≠ w1.heap.size ∧ b ≠ w4.heap.size := by
    intro b hb
    rcases HMem.mem_foot.1 hb with hb | hb
    · have h1 := u_c b (HMem.mem_foot.2 (.inl hb))
      have h2 := l_c b (HMem.mem_foot.2 (.inl hb))
      exact ⟨by omega, by omega, by omega⟩
    · have h1 := l_t b hb
      exact ⟨by omega, by omega, by omega⟩
  clear o_c o_t o_u l_u u_u
  go_wp2_with fail
  refine (hgr _ _ o_m).mono ?_
  clear hgr
  rintro e w99 ⟨K_n, rfl, o_n, f_n, hx⟩
  replace B_r := B_r.chg hx (fun hm => by have := n_m _ hm; omega)
  replace B_o := B_o.chg hx (fun hm => by have := n_m _ hm; omega)
  replace B_p := B_p.chg hx (fun hm => by have := n_m _ hm; omega)
  replace B_a := B_a.chg hx (fun hm => by have := n_m _ hm; omega)
  replace hB := hB.trans (hx.below hB.size (fun b hb => by have := n_m b hb; omega))
  have sz := hx.size
  have n_n : ∀ b ∈ K_n.foot, w.heap.size + 1 < b ∧ b ≠ w1.heap.size := fun b hb => by rcases f_n b hb with hh | hh; (exact ⟨(n_m b hh).1, (n_m b hh).2.1⟩); exact ⟨by omega, by omega⟩
  have l_n : ∀ b ∈ K_n.foot, w.heap.size + 1 < b := fun b hb => (n_n b hb).1
  have u_n := o_n.lt
  have ne_n : ∀ b ∈ K_n.foot, b ≠ w1.heap.size := fun b hb => (n_n b hb).2
  clear o_m hx
  clear B_p q_p_0 q_p_1 fr_p z_p
  replace q_a_0 := B_a.cell 0 _ rfl
  replace q_a_1 := B_a.cell 1 _ rfl
  replace q_a_2 := B_a.cell 2 _ rfl
  replace q_a_3 := B_a.cell 3 _ rfl
  replace fr_a := B_a.fro
  replace z_a := B_a.lt
  replace q_r_0 := B_r.cell 0 _ rfl
  replace q_r_1 := B_r.cell 1 _ rfl
  replace q_r_2 := B_r.cell 2 _ rfl
  replace q_r_3 := B_r.cell 3 _ rfl
  replace fr_r := B_r.fro
  replace z_r := B_r.lt
  replace q_o_0 := B_o.cell 0 _ rfl
  replace q_o_1 := B_o.cell 1 _ rfl
  replace q_o_2 := B_o.cell 2 _ rfl
  replace q_o_3 := B_o.cell 3 _ rfl
  replace fr_o := B_o.fro
  replace z_o := B_o.lt
  go_upto_region 15 with (fail)
  replace B_a : Box ((((w99.setCell ⟨w1.heap.size, 0, none⟩ (.slice K_n.Heap.Bytes.a K_n.Heap.Bytes.len K_n.Heap.Bytes.cap)).setCell ⟨w1.heap.size, 1, none⟩ (.slice K_n.Heap.Class.a K_n.Heap.Class.len K_n.Heap.Class.cap)).setCell ⟨w1.heap.size, 2, none⟩ (.slice K_n.Lists.Global.a K_n.Lists.Global.len K_n.Lists.Global.cap)).setCell ⟨w1.heap.size, 3, none⟩ (.slice K_n.Lists.Own.a K_n.Lists.Own.len K_n.Lists.Own.cap)) (w.heap.size) [.slice H.Heap.Bytes.a H.Heap.Bytes.len H.Heap.Bytes.cap, .slice H.Heap.Class.a H.Heap.Class.len H.Heap.Class.cap, .slice H.Lists.Global.a H.Lists.Global.len H.Lists.Global.cap, .slice H.Lists.Own.a H.Lists.Own.len H.Lists.Own.cap] := ((((B_a.other (by omega) _).other (by omega) _).other (by omega) _).other (by omega) _)
  replace B_r : Box ((((w99.setCell ⟨w1.heap.size, 0, none⟩ (.slice K_n.Heap.Bytes.a K_n.Heap.Bytes.len K_n.Heap.Bytes.cap)).setCell ⟨w1.heap.size, 1, none⟩ (.slice K_n.Heap.Class.a K_n.Heap.Class.len K_n.Heap.Class.cap)).setCell ⟨w1.heap.size, 2, none⟩ (.slice K_n.Lists.Global.a K_n.Lists.Global.len K_n.Lists.Global.cap)).setCell ⟨w1.heap.size, 3, none⟩ (.slice K_n.Lists.Own.a K_n.Lists.Own.len K_n.Lists.Own.cap)) (w.heap.size + 1) [.slice none 0 0, .slice none 0 0, .slice none 0 0, .slice none 0 0] := ((((B_r.other (by omega) _).other (by omega) _).other (by omega) _).other (by omega) _)
  replace B_o : Box ((((w99.setCell ⟨w1.heap.size, 0, none⟩ (.slice K_n.Heap.Bytes.a K_n.Heap.Bytes.len K_n.Heap.Bytes.cap)).setCell ⟨w1.heap.size, 1, none⟩ (.slice K_n.Heap.Class.a K_n.Heap.Class.len K_n.Heap.Class.cap)).setCell ⟨w1.heap.size, 2, none⟩ (.slice K_n.Lists.Global.a K_n.Lists.Global.len K_n.Lists.Global.cap)).setCell ⟨w1.heap.size, 3, none⟩ (.slice K_n.Lists.Own.a K_n.Lists.Own.len K_n.Lists.Own.cap)) (w1.heap.size) [.slice K_n.Heap.Bytes.a K_n.Heap.Bytes.len K_n.Heap.Bytes.cap, .slice K_n.Heap.Class.a K_n.Heap.Class.len K_n.Heap.Class.cap, .slice K_n.Lists.Global.a K_n.Lists.Global.len K_n.Lists.Global.cap, .slice K_n.Lists.Own.a K_n.Lists.Own.len K_n.Lists.Own.cap] := ((((B_o.set 0 (.slice K_n.Heap.Bytes.a K_n.Heap.Bytes.len K_n.Heap.Bytes.cap)).set 1 (.slice K_n.Heap.Class.a K_n.Heap.Class.len K_n.Heap.Class.cap)).set 2 (.slice K_n.Lists.Global.a K_n.Lists.Global.len K_n.Lists.Global.cap)).set 3 (.slice K_n.Lists.Own.a K_n.Lists.Own.len K_n.Lists.Own.cap))
  replace o_n := o_n.chg (F := [w1.heap.size]) (w' := ((((w99.setCell ⟨w1.heap.size, 0, none⟩ (.slice K_n.Heap.Bytes.a K_n.Heap.Bytes.len K_n.Heap.Bytes.cap)).setCell ⟨w1.heap.size, 1, none⟩ (.slice K_n.Heap.Class.a K_n.Heap.Class.len K_n.Heap.Class.cap)).setCell ⟨w1.heap.size, 2, none⟩ (.slice K_n.Lists.Global.a K_n.Lists.Global.len K_n.Lists.Global.cap)).setCell ⟨w1.heap.size, 3, none⟩ (.slice K_n.Lists.Own.a K_n.Lists.Own.len K_n.Lists.Own.cap))) (by repeat (first | with_reducible exact Chg.refl _ _ | with_reducible refine Chg.set_ ?_ (by simp) _ | with_reducible refine Chg.alloc_ ?_ _ | with_reducible refine Chg.drew_ ?_)) (fun g hg hm => by simp only [List.mem_cons, List.not_mem_nil, or_false] at hm; have := l_n g hg; have := u_n g hg; have := ne_n g hg; omega)
  replace hB : Below w.heap.size w ((((w99.setCell ⟨w1.heap.size, 0, none⟩ (.slice K_n.Heap.Bytes.a K_n.Heap.Bytes.len K_n.Heap.Bytes.cap)).setCell ⟨w1.heap.size, 1, none⟩ (.slice K_n.Heap.Class.a K_n.Heap.Class.len K_n.Heap.Class.cap)).setCell ⟨w1.heap.size, 2, none⟩ (.slice K_n.Lists.Global.a K_n.Lists.Global.len K_n.Lists.Global.cap)).setCell ⟨w1.heap.size, 3, none⟩ (.slice K_n.Lists.Own.a K_n.Lists.Own.len K_n.Lists.Own.cap)) := Below.trans hB (by repeat (first | with_reducible exact Below.refl _ _ | with_reducible refine Below.setCell ?_ (by simp <;> omega) _ | with_reducible refine Below.alloc ?_ (by simp <;> omega) _ | with_reducible refine Below.drew ?_))
  have sz : w99.heap.size ≤ ((((w99.setCell ⟨w1.heap.size, 0, none⟩ (.slice K_n.Heap.Bytes.a K_n.Heap.Bytes.len K_n.Heap.Bytes.cap)).setCell ⟨w1.heap.size, 1, none⟩ (.slice K_n.Heap.Class.a K_n.Heap.Class.len K_n.Heap.Class.cap)).setCell ⟨w1.heap.size, 2, none⟩ (.slice K_n.Lists.Global.a K_n.Lists.Global.len K_n.Lists.Global.cap)).setCell ⟨w1.heap.size, 3, none⟩ (.slice K_n.Lists.Own.a K_n.Lists.Own.len K_n.Lists.Own.cap)).heap.size := by simp
  generalize hG : ((((w99.setCell ⟨w1.heap.size, 0, none⟩ (.slice K_n.Heap.Bytes.a K_n.Heap.Bytes.len K_n.Heap.Bytes.cap)).setCell ⟨w1.heap.size, 1, none⟩ (.slice K_n.Heap.Class.a K_n.Heap.Class.len K_n.Heap.Class.cap)).setCell ⟨w1.heap.size, 2, none⟩ (.slice K_n.Lists.Global.a K_n.Lists.Global.len K_n.Lists.Global.cap)).setCell ⟨w1.heap.size, 3, none⟩ (.slice K_n.Lists.Own.a K_n.Lists.Own.len K_n.Lists.Own.cap)) = w9 at B_a B_r B_o o_n hB sz ⊢
  clear hG
  replace q_a_0 := B_a.cell 0 _ rfl
  replace q_a_1 := B_a.cell 1 _ rfl
  replace q_a_2 := B_a.cell 2 _ rfl
  replace q_a_3 := B_a.cell 3 _ rfl
  replace fr_a := B_a.fro
  replace z_a := B_a.lt
  replace q_r_0 := B_r.cell 0 _ rfl
  replace q_r_1 := B_r.cell 1 _ rfl
  replace q_r_2 := B_r.cell 2 _ rfl
  replace q_r_3 := B_r.cell 3 _ rfl
  replace fr_r := B_r.fro
  replace z_r := B_r.lt
  replace q_o_0 := B_o.cell 0 _ rfl
  replace q_o_1 := B_o.cell 1 _ rfl
  replace q_o_2 := B_o.cell 2 _ rfl
  replace q_o_3 := B_o.cell 3 _ rfl
  replace fr_o := B_o.fro
  replace z_o := B_o.lt
  have hhi := fun (W : World) (hW : Below w9.heap.size w9 W) => handleIn_spec W K_n x (grantH x.Heap p c) s (rdHeap_up o_n.Heap.rd' hW) gf1 f1 f3 (Int.not_lt.2 k1)
  have l_nn := l_n
  go_region_with (first | (go_at_call 49; (first | ((with_reducible refine (hhi _ (Below.refl _ _)).mono ?_); rintro e wq ⟨rfl, hb⟩; replace B_a := B_a.below hb; replace B_r := B_r.below hb; replace B_o := B_o.below hb; replace o_n := o_n.step0 hb; replace hB := hB.trans (hb.mono hB.size); have sz := hb.size; clear hb; replace q_a_0 := B_a.cell 0 _ rfl; replace q_a_1 := B_a.cell 1 _ rfl; replace q_a_2 := B_a.cell 2 _ rfl; replace q_a_3 := B_a.cell 3 _ rfl; replace fr_a := B_a.fro; replace z_a := B_a.lt; replace q_r_0 := B_r.cell 0 _ rfl; replace q_r_1 := B_r.cell 1 _ rfl; replace q_r_2 := B_r.cell 2 _ rfl; replace q_r_3 := B_r.cell 3 _ rfl; replace fr_r := B_r.fro; replace z_r := B_r.lt; replace q_o_0 := B_o.cell 0 _ rfl; replace q_o_1 := B_o.cell 1 _ rfl; replace q_o_2 := B_o.cell 2 _ rfl; replace q_o_3 := B_o.cell 3 _ rfl; replace fr_o := B_o.fro; replace z_o := B_o.lt) | ((with_reducible refine (hhi _ (Below.refl _ _).drew).mono ?_); rintro e wq ⟨rfl, hb⟩; replace hb := undrew hb; replace B_a := B_a.below hb; replace B_r := B_r.below hb; replace B_o := B_o.below hb; replace o_n := o_n.step0 hb; replace hB := hB.trans (hb.mono hB.size); have sz := hb.size; clear hb; replace q_a_0 := B_a.cell 0 _ rfl; replace q_a_1 := B_a.cell 1 _ rfl; replace q_a_2 := B_a.cell 2 _ rfl; replace q_a_3 := B_a.cell 3 _ rfl; replace fr_a := B_a.fro; replace z_a := B_a.lt; replace q_r_0 := B_r.cell 0 _ rfl; replace q_r_1 := B_r.cell 1 _ rfl; replace q_r_2 := B_r.cell 2 _ rfl; replace q_r_3 := B_r.cell 3 _ rfl; replace fr_r := B_r.fro; replace z_r := B_r.lt; replace q_o_0 := B_o.cell 0 _ rfl; replace q_o_1 := B_o.cell 1 _ rfl; replace q_o_2 := B_o.cell 2 _ rfl; replace q_o_3 := B_o.cell 3 _ rfl; replace fr_o := B_o.fro; replace z_o := B_o.lt))))
  all_goals
    go_wp2_with fail
    refine bodyPost_ret (v := .tuple #[.agg #[.slice K_n.Heap.Bytes.a K_n.Heap.Bytes.len K_n.Heap.Bytes.cap, .slice K_n.Heap.Class.a K_n.Heap.Class.len K_n.Heap.Class.cap, .slice K_n.Lists.Global.a K_n.Lists.Global.len K_n.Lists.Global.cap, .slice K_n.Lists.Own.a K_n.Lists.Own.len K_n.Lists.Own.cap], .int .i64 (genInB (grantH x.Heap p c) s * 32 + s), .int .i64 0]) (by simp [results, Tryz.results15, go_sem, q_r_0, q_r_1, q_r_2, q_r_3]) rfl ⟨K_n, rfl, o_n.chg (F := [w.heap.size + 1]) (by repeat (first | with_reducible exact Chg.refl _ _ | with_reducible refine Chg.set_ ?_ (by simp) _ | with_reducible refine Chg.alloc_ ?_ _ | with_reducible refine Chg.drew_ ?_)) (fun g hg hm => by simp only [List.mem_cons, List.not_mem_nil, or_false] at hm; have := l_n g hg; have := u_n g hg; omega), fun g hg => by have := l_n g hg; omega, Below.trans hB (by repeat (first | with_reducible exact Below.refl _ _ | with_reducible refine Below.setCell ?_ (by simp <;> omega) _ | with_reducible refine Below.alloc ?_ (by simp <;> omega) _ | with_reducible refine Below.drew ?_))⟩
end Go.Proofs.YtpjijbonpjoamaaGreat

/-
  AllocNow: the contracts, whole.
-/
namespace Go.Proofs.YtpjijbonpjoamaaGreat
open Go.RowKit

theorem classOfS_lt (n : Int) : classOfS n < 3 := by
  unfold classOfS
  repeat' split
  all_goals decide
theorem idx_cases (f : Int → Bool) (l : List Int) : idxOf f l = -1 ∨ ∃ p : Nat, idxOf f l = (p : Int) := by
  unfold idxOf
  cases l.findIdx? f with
  | none => exact .inl rfl
  | some i => exact .inr ⟨i, rfl⟩

set_option maxRecDepth 100000 in
theorem AllocNow_impl (w : World) (H : HMem) (x : Mem) (wk n : Int) (h : RdMem w w.heap.size H x) (hs : sizeMem x ≤ 536870912) :
    Calls Tryz.prog 16 #[.agg #[.slice H.Heap.Bytes.a H.Heap.Bytes.len H.Heap.Bytes.cap, .slice H.Heap.Class.a H.Heap.Class.len H.Heap.Class.cap, .slice H.Lists.Global.a H.Lists.Global.len H.Lists.Global.cap, .slice H.Lists.Own.a H.Lists.Own.len H.Lists.Own.cap], .int .i64 wk, .int .i64 n] w fun e w' => ∃ H' : HMem, e = .returned (.tuple #[.agg #[.slice H'.Heap.Bytes.a H'.Heap.Bytes.len H'.Heap.Bytes.cap, .slice H'.Heap.Class.a H'.Heap.Class.len H'.Heap.Class.cap, .slice H'.Lists.Global.a H'.Lists.Global.len H'.Lists.Global.cap, .slice H'.Lists.Own.a H'.Lists.Own.len H'.Lists.Own.cap], .int .i64 (allocP x wk n).2.1, .int .i64 (allocP x wk n).2.2]) ∧ OwMemW w' H' (allocP x wk n).1 ∧ (∀ g ∈ H'.foot, w.heap.size ≤ g) ∧ Below w.heap.size w w' := by
  by_cases c1 : memOkB x = true
  case neg =>
    have c1' := (Bool.not_eq_true _).mp c1
    rw [alloc_no1 (n := n) (show memOkB x = false ∨ inB 0 2 wk = false from .inl c1')]
    exact (AllocNow_impl_a w H x wk n h hs c1').mono fun _ _ ⟨K, a, b, c, d⟩ => ⟨K, a, b.toW, c, d⟩
  by_cases c2 : inB 0 2 wk = true
  case neg =>
    have c2' := (Bool.not_eq_true _).mp c2
    rw [alloc_no1 (m := x) (n := n) (show memOkB x = false ∨ inB 0 2 wk = false from .inr c2')]
    exact (AllocNow_impl_b w H x wk n h hs c1 c2').mono fun _ _ ⟨K, a, b, c, d⟩ => ⟨K, a, b.toW, c, d⟩
  by_cases c3 : classOfS n < 0
  case pos =>
    rw [alloc_no2 c1 c2 c3]
    exact (AllocNow_impl_c w H x wk n h hs c1 c2 c3).mono fun _ _ ⟨K, a, b, c, d⟩ => ⟨K, a, b.toW, c, d⟩
  rw [alloc_go c1 c2 c3]
  obtain ⟨b1, b2⟩ := inB_iff.1 c2
  obtain ⟨k, rfl⟩ : ∃ k : Nat, wk = (k : Int) := ⟨wk.toNat, by omega⟩
  have hk : k < 3 := by omega
  have hcb := classOfS_lt n
  obtain ⟨c, hc⟩ : ∃ c : Nat, classOfS n = (c : Int) := ⟨(classOfS n).toNat, by omega⟩
  have hc3 : c < 3 := by omega
  rw [hc, Int.toNat_natCast, Int.toNat_natCast]
  obtain ⟨hl3, hl9⟩ := lists_len (mem_lists c1)
  obtain ⟨ro, hro⟩ : ∃ r, x.Lists.Own[k * 3 + c]? = some r := ⟨_, List.getElem?_eq_getElem (by omega)⟩
  rcases List.eq_nil_or_concat ro with rfl | ⟨l, s, hl⟩
  case inr =>
    rw [List.concat_eq_append] at hl
    subst hl
    rw [allocC_own hro]
    exact AllocNow_impl_own w H x k c n l s h hs c1 hk hc hc3 hro
  obtain ⟨rg, hrg⟩ : ∃ r, x.Lists.Global[c]? = some r := ⟨_, List.getElem?_eq_getElem (by omega)⟩
  rcases List.eq_nil_or_concat rg with rfl | ⟨l, s, hl⟩
  case inr =>
    rw [List.concat_eq_append] at hl
    subst hl
    rw [allocC_global hro hrg]
    exact AllocNow_impl_global w H x k c n l s h hs c1 hk hc hc3 hro hrg
  rcases idx_cases (fun y => y == -1) x.Heap.Class with hp | ⟨p, hp⟩
  · rw [allocC_none hro hrg hp]
    exact (AllocNow_impl_none w H x k c n h hs c1 hk hc hc3 hro hrg hp).mono fun _ _ ⟨K, a, b, c, d⟩ => ⟨K, a, b.toW, c, d⟩
  · rw [allocC_grant hro hrg hp]
    exact (AllocNow_impl_grant w H x k c p n h hs c1 hk hc hc3 hro hrg hp).mono fun _ _ ⟨K, a, b, c, d⟩ => ⟨K, a, b.toW, c, d⟩

set_option maxRecDepth 100000 in
theorem AllocNow_spec (w : World) (H : HMem) (x : Mem) (wk n : Int) (h : RdMem w w.heap.size H x) (hs : sizeMem x ≤ 536870912) :
    Calls Tryz.prog 15 #[.agg #[.slice H.Heap.Bytes.a H.Heap.Bytes.len H.Heap.Bytes.cap, .slice H.Heap.Class.a H.Heap.Class.len H.Heap.Class.cap, .slice H.Lists.Global.a H.Lists.Global.len H.Lists.Global.cap, .slice H.Lists.Own.a H.Lists.Own.len H.Lists.Own.cap], .int .i64 wk, .int .i64 n] w fun e w' => ∃ H' : HMem, e = .returned (.tuple #[.agg #[.slice H'.Heap.Bytes.a H'.Heap.Bytes.len H'.Heap.Bytes.cap, .slice H'.Heap.Class.a H'.Heap.Class.len H'.Heap.Class.cap, .slice H'.Lists.Global.a H'.Lists.Global.len H'.Lists.Global.cap, .slice H'.Lists.Own.a H'.Lists.Own.len H'.Lists.Own.cap], .int .i64 (allocP x wk n).2.1, .int .i64 (allocP x wk n).2.2]) ∧ OwMem w' H' (allocP x wk n).1 ∧ (∀ g ∈ H'.foot, w.heap.size ≤ g) ∧ Below w.heap.size w w' := by
  by_cases c1 : memOkB x = true
  case neg =>
    have c1' := (Bool.not_eq_true _).mp c1
    rw [alloc_no1 (n := n) (show memOkB x = false ∨ inB 0 2 wk = false from .inl c1')]
    exact (AllocNow_spec_a w H x wk n h hs c1').mono fun _ _ ⟨K, a, b, c, d⟩ => ⟨K, a, b, c, d⟩
  by_cases c2 : inB 0 2 wk = true
  case neg =>
    have c2' := (Bool.not_eq_true _).mp c2
    rw [alloc_no1 (m := x) (n := n) (show memOkB x = false ∨ inB 0 2 wk = false from .inr c2')]
    exact (AllocNow_spec_b w H x wk n h hs c1 c2').mono fun _ _ ⟨K, a, b, c, d⟩ => ⟨K, a, b, c, d⟩
  by_cases c3 : classOfS n < 0
  case pos =>
    rw [alloc_no2 c1 c2 c3]
    exact (AllocNow_spec_c w H x wk n h hs c1 c2 c3).mono fun _ _ ⟨K, a, b, c, d⟩ => ⟨K, a, b, c, d⟩
  rw [alloc_go c1 c2 c3]
  obtain ⟨b1, b2⟩ := inB_iff.1 c2
  obtain ⟨k, rfl⟩ : ∃ k : Nat, wk = (k : Int) := ⟨wk.toNat, by omega⟩
  have hk : k < 3 := by omega
  have hcb := classOfS_lt n
  obtain ⟨c, hc⟩ : ∃ c : Nat, classOfS n = (c : Int) := ⟨(classOfS n).toNat, by omega⟩
  have hc3 : c < 3 := by omega
  rw [hc, Int.toNat_natCast, Int.toNat_natCast]
  obtain ⟨hl3, hl9⟩ := lists_len (mem_lists c1)
  obtain ⟨ro, hro⟩ : ∃ r, x.Lists.Own[k * 3 + c]? = some r := ⟨_, List.getElem?_eq_getElem (by omega)⟩
  rcases List.eq_nil_or_concat ro with rfl | ⟨l, s, hl⟩
  case inr =>
    rw [List.concat_eq_append] at hl
    subst hl
    rw [allocC_own hro]
    exact AllocNow_spec_own w H x k c n l s h hs c1 hk hc hc3 hro
  obtain ⟨rg, hrg⟩ : ∃ r, x.Lists.Global[c]? = some r := ⟨_, List.getElem?_eq_getElem (by omega)⟩
  rcases List.eq_nil_or_concat rg with rfl | ⟨l, s, hl⟩
  case inr =>
    rw [List.concat_eq_append] at hl
    subst hl
    rw [allocC_global hro hrg]
    exact AllocNow_spec_global w H x k c n l s h hs c1 hk hc hc3 hro hrg
  rcases idx_cases (fun y => y == -1) x.Heap.Class with hp | ⟨p, hp⟩
  · rw [allocC_none hro hrg hp]
    exact (AllocNow_spec_none w H x k c n h hs c1 hk hc hc3 hro hrg hp).mono fun _ _ ⟨K, a, b, c, d⟩ => ⟨K, a, b, c, d⟩
  · rw [allocC_grant hro hrg hp]
    exact (AllocNow_spec_grant w H x k c p n h hs c1 hk hc hc3 hro hrg hp).mono fun _ _ ⟨K, a, b, c, d⟩ => ⟨K, a, b, c, d⟩
end Go.Proofs.YtpjijbonpjoamaaGreat

/-
  FnExactAllocNow, walked.
-/
namespace Go.Proofs.YtpjijbonpjoamaaGreat
open Go.RowKit

theorem setD_le (ll : List (List Int)) (k : Nat) (l : List Int) (n : Nat) (h : l.length ≤ (ll.getD k []).length + n) : szLL (ll.set k l) ≤ 2 * szLL ll + n := by
  have h1 := szLL_set_le ll k l
  have h2 := getD_le ll k
  omega
theorem allocC_size (m : Mem) (w c : Nat) (hs : shapeB m.Heap = true) (hc : c < 3) : sizeMem (allocC m w c).1 ≤ 2 * sizeMem m + 500 := by
  have h4 : ((slotsTo (idxOf (fun y => y == -1) m.Heap.Class).toNat (perPage (c : Int)).toNat).drop 1).length ≤ 4 := by
    rw [List.length_drop, slotsTo_len]
    have := perPage_bd (c : Int)
    omega
  have h1 := setD_le m.Lists.Own (w * 3 + c) (m.Lists.Own.getD (w * 3 + c) []).dropLast 0 (by simp)
  have h2 := setD_le m.Lists.Global c (m.Lists.Global.getD c []).dropLast 0 (by simp)
  have h3 := setD_le m.Lists.Global c (m.Lists.Global.getD c [] ++ (slotsTo (idxOf (fun y => y == -1) m.Heap.Class).toNat (perPage (c : Int)).toNat).drop 1) 4 (by rw [List.length_append]; omega)
  unfold allocC
  split
  · unfold popOwn sizeMem sizeLists
    simp only
    omega
  · split
    · unfold popGlobal sizeMem sizeLists
      simp only
      omega
    · split
      · simp only
        omega
      · rename_i hn
        rcases idx_cases (fun y => y == -1) m.Heap.Class with hp | ⟨p, hp⟩
        · rw [hp] at hn
          exact absurd (by decide) hn
        have hpl := idx_lt hp
        have sh := shape_of hs
        have hp6 : p < 6 := by rw [sh.cl] at hpl; exact hpl
        rw [hp, Int.toNat_natCast] at h3 ⊢
        have hg := grTo_len (b := m.Heap.Bytes) (p := p) (c := (c : Int)) sh.bl hp6 (inB_iff.2 ⟨by omega, by omega⟩) (perPage (c : Int)).toNat (Nat.le_refl _)
        unfold grantM grantH sizeMem sizeLists sizeHeap
        simp only
        rw [hg, List.length_set]
        omega
theorem alloc_size (m : Mem) (w n : Int) : sizeMem (allocP m w n).1 ≤ 2 * sizeMem m + 500 := by
  by_cases c1 : memOkB m = true
  case neg =>
    rw [alloc_no1 (n := n) (show memOkB m = false ∨ inB 0 2 w = false from .inl ((Bool.not_eq_true _).mp c1))]
    simp only
    omega
  by_cases c2 : inB 0 2 w = true
  case neg =>
    rw [alloc_no1 (m := m) (n := n) (show memOkB m = false ∨ inB 0 2 w = false from .inr ((Bool.not_eq_true _).mp c2))]
    simp only
    omega
  by_cases c3 : classOfS n < 0
  case pos =>
    rw [alloc_no2 c1 c2 c3]
    simp only
    omega
  rw [alloc_go c1 c2 c3]
  have := classOfS_lt n
  exact allocC_size m _ _ (mem_shape c1) (by omega)

theorem AllocNow_implS (w : World) (H : HMem) (x : Mem) (wk a : Int) (h : RdMem w w.heap.size H x) (hs : sizeMem x ≤ 1048576) :
    Calls Tryz.prog 16 #[.agg #[.slice H.Heap.Bytes.a H.Heap.Bytes.len H.Heap.Bytes.cap, .slice H.Heap.Class.a H.Heap.Class.len H.Heap.Class.cap, .slice H.Lists.Global.a H.Lists.Global.len H.Lists.Global.cap, .slice H.Lists.Own.a H.Lists.Own.len H.Lists.Own.cap], .int .i64 wk, .int .i64 a] w fun e w' => ∃ H' : HMem, e = .returned (.tuple #[.agg #[.slice H'.Heap.Bytes.a H'.Heap.Bytes.len H'.Heap.Bytes.cap, .slice H'.Heap.Class.a H'.Heap.Class.len H'.Heap.Class.cap, .slice H'.Lists.Global.a H'.Lists.Global.len H'.Lists.Global.cap, .slice H'.Lists.Own.a H'.Lists.Own.len H'.Lists.Own.cap], .int .i64 (allocP x wk a).2.1, .int .i64 (allocP x wk a).2.2]) ∧ OwMemW w' H' (allocP x wk a).1 ∧ (∀ g ∈ H'.foot, w.heap.size ≤ g) ∧ Below w.heap.size w w' := AllocNow_impl w H x wk a h (by omega)

theorem AllocNow_specS (w : World) (H : HMem) (x : Mem) (wk a : Int) (h : RdMem w w.heap.size H x) (hs : sizeMem x ≤ 1048576) :
    Calls Tryz.prog 15 #[.agg #[.slice H.Heap.Bytes.a H.Heap.Bytes.len H.Heap.Bytes.cap, .slice H.Heap.Class.a H.Heap.Class.len H.Heap.Class.cap, .slice H.Lists.Global.a H.Lists.Global.len H.Lists.Global.cap, .slice H.Lists.Own.a H.Lists.Own.len H.Lists.Own.cap], .int .i64 wk, .int .i64 a] w fun e w' => ∃ H' : HMem, e = .returned (.tuple #[.agg #[.slice H'.Heap.Bytes.a H'.Heap.Bytes.len H'.Heap.Bytes.cap, .slice H'.Heap.Class.a H'.Heap.Class.len H'.Heap.Class.cap, .slice H'.Lists.Global.a H'.Lists.Global.len H'.Lists.Global.cap, .slice H'.Lists.Own.a H'.Lists.Own.len H'.Lists.Own.cap], .int .i64 (allocP x wk a).2.1, .int .i64 (allocP x wk a).2.2]) ∧ OwMem w' H' (allocP x wk a).1 ∧ (∀ g ∈ H'.foot, w.heap.size ≤ g) ∧ Below w.heap.size w w' := AllocNow_spec w H x wk a h (by omega)

set_option maxRecDepth 100000 in
set_option maxHeartbeats 4000000 in
theorem FnExactAllocNow_law (w : World) (K0 : HMem) (x0 : Mem) (wk : Int) (a : Int) (h0 : RdMem w w.heap.size K0 x0) :
    Calls Tryz.prog 5 #[.agg #[.slice K0.Heap.Bytes.a K0.Heap.Bytes.len K0.Heap.Bytes.cap, .slice K0.Heap.Class.a K0.Heap.Class.len K0.Heap.Class.cap, .slice K0.Lists.Global.a K0.Lists.Global.len K0.Lists.Global.cap, .slice K0.Lists.Own.a K0.Lists.Own.len K0.Lists.Own.cap], .int .i64 wk, .int .i64 a] w fun e w' => e = .returned (.bool true) ∧ Below w.heap.size w w' := by
  by_cases hs0' : sizeMem x0 ≤ 1048576
  case neg =>
    have HL := Hid.mk_ (leftOf_neg hs0')
    go_enter Tryz.func5, Tryz.ntmps5
    go_wp2_with fail
    have hB : Below w.heap.size w (w.alloc (.cells #[.slice K0.Heap.Bytes.a K0.Heap.Bytes.len K0.Heap.Bytes.cap, .slice K0.Heap.Class.a K0.Heap.Class.len K0.Heap.Class.cap, .slice K0.Lists.Global.a K0.Lists.Global.len K0.Lists.Global.cap, .slice K0.Lists.Own.a K0.Lists.Own.len K0.Lists.Own.cap] 29)) := by repeat (first | exact Below.refl _ _ | refine Below.alloc ?_ (by simp <;> omega) _ | refine below_grow_of ?_ (by simp <;> omega) _ _ | refine Below.drew ?_ | refine below_drewN ?_ _)
    have hB0 := hB
    have b0_0 : ((w.alloc (.cells #[.slice K0.Heap.Bytes.a K0.Heap.Bytes.len K0.Heap.Bytes.cap, .slice K0.Heap.Class.a K0.Heap.Class.len K0.Heap.Class.cap, .slice K0.Lists.Global.a K0.Lists.Global.len K0.Lists.Global.cap, .slice K0.Lists.Own.a K0.Lists.Own.len K0.Lists.Own.cap] 29))).cell? ⟨w.heap.size, 0, none⟩ = some (.slice K0.Heap.Bytes.a K0.Heap.Bytes.len K0.Heap.Bytes.cap) := by simp [go_sem]
    have b0_1 : ((w.alloc (.cells #[.slice K0.Heap.Bytes.a K0.Heap.Bytes.len K0.Heap.Bytes.cap, .slice K0.Heap.Class.a K0.Heap.Class.len K0.Heap.Class.cap, .slice K0.Lists.Global.a K0.Lists.Global.len K0.Lists.Global.cap, .slice K0.Lists.Own.a K0.Lists.Own.len K0.Lists.Own.cap] 29))).cell? ⟨w.heap.size, 1, none⟩ = some (.slice K0.Heap.Class.a K0.Heap.Class.len K0.Heap.Class.cap) := by simp [go_sem]
    have b0_2 : ((w.alloc (.cells #[.slice K0.Heap.Bytes.a K0.Heap.Bytes.len K0.Heap.Bytes.cap, .slice K0.Heap.Class.a K0.Heap.Class.len K0.Heap.Class.cap, .slice K0.Lists.Global.a K0.Lists.Global.len K0.Lists.Global.cap, .slice K0.Lists.Own.a K0.Lists.Own.len K0.Lists.Own.cap] 29))).cell? ⟨w.heap.size, 2, none⟩ = some (.slice K0.Lists.Global.a K0.Lists.Global.len K0.Lists.Global.cap) := by simp [go_sem]
    have b0_3 : ((w.alloc (.cells #[.slice K0.Heap.Bytes.a K0.Heap.Bytes.len K0.Heap.Bytes.cap, .slice K0.Heap.Class.a K0.Heap.Class.len K0.Heap.Class.cap, .slice K0.Lists.Global.a K0.Lists.Global.len K0.Lists.Global.cap, .slice K0.Lists.Own.a K0.Lists.Own.len K0.Lists.Own.cap] 29))).cell? ⟨w.heap.size, 3, none⟩ = some (.slice K0.Lists.Own.a K0.Lists.Own.len K0.Lists.Own.cap) := by simp [go_sem]
    have z0 : w.heap.size < ((w.alloc (.cells #[.slice K0.Heap.Bytes.a K0.Heap.Bytes.len K0.Heap.Bytes.cap, .slice K0.Heap.Class.a K0.Heap.Class.len K0.Heap.Class.cap, .slice K0.Lists.Global.a K0.Lists.Global.len K0.Lists.Global.cap, .slice K0.Lists.Own.a K0.Lists.Own.len K0.Lists.Own.cap] 29))).heap.size := by simp <;> omega
    generalize hW : (w.alloc (.cells #[.slice K0.Heap.Bytes.a K0.Heap.Bytes.len K0.Heap.Bytes.cap, .slice K0.Heap.Class.a K0.Heap.Class.len K0.Heap.Class.cap, .slice K0.Lists.Global.a K0.Lists.Global.len K0.Lists.Global.cap, .slice K0.Lists.Own.a K0.Lists.Own.len K0.Lists.Own.cap] 29)) = w0 at hB hB0 b0_0 b0_1 b0_2 b0_3 z0 ⊢
    clear hW
    have zz0 := z0
    refine (szMem_ct _ K0 x0 1048576 (rdMem_up h0 hB) (by omega)).mono ?_
    rw [HL.out]
    rintro e w1 ⟨rfl, hb⟩
    replace hB := below_step0 hB hb hB.size
    have sz := hb.size
    replace b0_0 := cell_up hb z0 b0_0
    replace b0_1 := cell_up hb z0 b0_1
    replace b0_2 := cell_up hb z0 b0_2
    replace b0_3 := cell_up hb z0 b0_3
    replace z0 := lt_step0 z0 hb
    clear hb
    go_wp2_with fail
    go_ret
    exact ⟨rfl, hB⟩
  obtain ⟨r0, HL0, hr0⟩ : ∃ r : Nat, Hid (leftOf 1048576 (sizeMem x0) = (r : Int)) ∧ r + sizeMem x0 = 1048576 := ⟨1048576 - sizeMem x0, Hid.mk_ (by rw [leftOf_pos hs0']; omega), by omega⟩
  have hn0 := nMark_size_Mem x0
  have hl1 := alloc_size x0 wk a
  have hl2 := nMark_size_Mem (allocP x0 wk a).1
  clear hs0'
  go_enter Tryz.func5, Tryz.ntmps5
  go_wp2_with fail
  have hB : Below w.heap.size w (w.alloc (.cells #[.slice K0.Heap.Bytes.a K0.Heap.Bytes.len K0.Heap.Bytes.cap, .slice K0.Heap.Class.a K0.Heap.Class.len K0.Heap.Class.cap, .slice K0.Lists.Global.a K0.Lists.Global.len K0.Lists.Global.cap, .slice K0.Lists.Own.a K0.Lists.Own.len K0.Lists.Own.cap] 29)) := by repeat (first | exact Below.refl _ _ | refine Below.alloc ?_ (by simp <;> omega) _ | refine below_grow_of ?_ (by simp <;> omega) _ _ | refine Below.drew ?_ | refine below_drewN ?_ _)
  have hB0 := hB
  have b0_0 : ((w.alloc (.cells #[.slice K0.Heap.Bytes.a K0.Heap.Bytes.len K0.Heap.Bytes.cap, .slice K0.Heap.Class.a K0.Heap.Class.len K0.Heap.Class.cap, .slice K0.Lists.Global.a K0.Lists.Global.len K0.Lists.Global.cap, .slice K0.Lists.Own.a K0.Lists.Own.len K0.Lists.Own.cap] 29))).cell? ⟨w.heap.size, 0, none⟩ = some (.slice K0.Heap.Bytes.a K0.Heap.Bytes.len K0.Heap.Bytes.cap) := by simp [go_sem]
  have b0_1 : ((w.alloc (.cells #[.slice K0.Heap.Bytes.a K0.Heap.Bytes.len K0.Heap.Bytes.cap, .slice K0.Heap.Class.a K0.Heap.Class.len K0.Heap.Class.cap, .slice K0.Lists.Global.a K0.Lists.Global.len K0.Lists.Global.cap, .slice K0.Lists.Own.a K0.Lists.Own.len K0.Lists.Own.cap] 29))).cell? ⟨w.heap.size, 1, none⟩ = some (.slice K0.Heap.Class.a K0.Heap.Class.len K0.Heap.Class.cap) := by simp [go_sem]
  have b0_2 : ((w.alloc (.cells #[.slice K0.Heap.Bytes.a K0.Heap.Bytes.len K0.Heap.Bytes.cap, .slice K0.Heap.Class.a K0.Heap.Class.len K0.Heap.Class.cap, .slice K0.Lists.Global.a K0.Lists.Global.len K0.Lists.Global.cap, .slice K0.Lists.Own.a K0.Lists.Own.len K0.Lists.Own.cap] 29))).cell? ⟨w.heap.size, 2, none⟩ = some (.slice K0.Lists.Global.a K0.Lists.Global.len K0.Lists.Global.cap) := by simp [go_sem]
  have b0_3 : ((w.alloc (.cells #[.slice K0.Heap.Bytes.a K0.Heap.Bytes.len K0.Heap.Bytes.cap, .slice K0.Heap.Class.a K0.Heap.Class.len K0.Heap.Class.cap, .slice K0.Lists.Global.a K0.Lists.Global.len K0.Lists.Global.cap, .slice K0.Lists.Own.a K0.Lists.Own.len K0.Lists.Own.cap] 29))).cell? ⟨w.heap.size, 3, none⟩ = some (.slice K0.Lists.Own.a K0.Lists.Own.len K0.Lists.Own.cap) := by simp [go_sem]
  have z0 : w.heap.size < ((w.alloc (.cells #[.slice K0.Heap.Bytes.a K0.Heap.Bytes.len K0.Heap.Bytes.cap, .slice K0.Heap.Class.a K0.Heap.Class.len K0.Heap.Class.cap, .slice K0.Lists.Global.a K0.Lists.Global.len K0.Lists.Global.cap, .slice K0.Lists.Own.a K0.Lists.Own.len K0.Lists.Own.cap] 29))).heap.size := by simp <;> omega
  generalize hW : (w.alloc (.cells #[.slice K0.Heap.Bytes.a K0.Heap.Bytes.len K0.Heap.Bytes.cap, .slice K0.Heap.Class.a K0.Heap.Class.len K0.Heap.Class.cap, .slice K0.Lists.Global.a K0.Lists.Global.len K0.Lists.Global.cap, .slice K0.Lists.Own.a K0.Lists.Own.len K0.Lists.Own.cap] 29)) = w0 at hB hB0 b0_0 b0_1 b0_2 b0_3 z0 ⊢
  clear hW
  have zz0 := z0
  refine (szMem_ct _ K0 x0 1048576 (rdMem_up h0 hB) (by omega)).mono ?_
  rw [HL0.out]
  rintro e w1 ⟨rfl, hb⟩
  replace hB := below_step0 hB hb hB.size
  have sz := hb.size
  replace b0_0 := cell_up hb z0 b0_0
  replace b0_1 := cell_up hb z0 b0_1
  replace b0_2 := cell_up hb z0 b0_2
  replace b0_3 := cell_up hb z0 b0_3
  replace z0 := lt_step0 z0 hb
  clear hb
  go_wp2_with fail
  refine (toMem_ct _ K0 x0 (rdMem_up h0 hB) (by omega)).mono ?_
  rintro e w2 ⟨K_a0, rfl, o_a0, lb_a0, hb⟩
  replace hB := below_step0 hB hb hB.size
  have sz := hb.size
  replace b0_0 := cell_up hb z0 b0_0
  replace b0_1 := cell_up hb z0 b0_1
  replace b0_2 := cell_up hb z0 b0_2
  replace b0_3 := cell_up hb z0 b0_3
  replace z0 := lt_step0 z0 hb
  clear hb
  have ub_a0 := o_a0.lt
  go_wp2_with fail
  refine (AllocNow_specS _ _ x0 wk a  o_a0.rd' (by omega)).mono ?_
  rintro e w3 ⟨K_W, rfl, o_W, lb_W, hb⟩
  replace hB := below_step0 hB hb hB.size
  have sz := hb.size
  replace b0_0 := cell_up hb z0 b0_0
  replace b0_1 := cell_up hb z0 b0_1
  replace b0_2 := cell_up hb z0 b0_2
  replace b0_3 := cell_up hb z0 b0_3
  replace z0 := lt_step0 z0 hb
  replace o_a0 := o_a0.step0 hb
  clear hb
  have ub_W := o_W.lt
  go_wp2_with fail
  refine (toMem_ct _ K0 x0 (rdMem_up h0 (hB.alloc hB.size _)) (by omega)).mono ?_
  rintro e w4 ⟨K_x0, rfl, o_x0, lb_x0, hb⟩
  simp only [World.size_alloc] at lb_x0
  replace hB := below_step hB hb hB.size
  have sz := hb.size
  simp only [World.size_alloc] at sz
  replace b0_0 := up2 hb z0 b0_0
  replace b0_1 := up2 hb z0 b0_1
  replace b0_2 := up2 hb z0 b0_2
  replace b0_3 := up2 hb z0 b0_3
  replace z0 := lt_step z0 hb
  have b1_0 := new_cell hb (j := 0) rfl
  have b1_1 := new_cell hb (j := 1) rfl
  have b1_2 := new_cell hb (j := 2) rfl
  have b1_3 := new_cell hb (j := 3) rfl
  have z1 := new_lt hb
  have zz1 := z1
  replace o_a0 := o_a0.step hb
  replace o_W := o_W.step hb
  clear hb
  have ub_x0 := o_x0.lt
  go_wp2_with fail
  refine (AllocNow_implS _ _ x0 wk a  (o_x0.alloc_ _).rd' (by omega)).mono ?_
  rintro e w5 ⟨K_G, rfl, o_G, lb_G, hb⟩
  simp only [World.size_alloc] at lb_G
  replace hB := below_step hB hb hB.size
  have sz := hb.size
  simp only [World.size_alloc] at sz
  replace b0_0 := up2 hb z0 b0_0
  replace b0_1 := up2 hb z0 b0_1
  replace b0_2 := up2 hb z0 b0_2
  replace b0_3 := up2 hb z0 b0_3
  replace z0 := lt_step z0 hb
  replace b1_0 := up2 hb z1 b1_0
  replace b1_1 := up2 hb z1 b1_1
  replace b1_2 := up2 hb z1 b1_2
  replace b1_3 := up2 hb z1 b1_3
  replace z1 := lt_step z1 hb
  have b2_0 := new_cell hb (j := 0) rfl
  have b2_1 := new_cell hb (j := 1) rfl
  have b2_2 := new_cell hb (j := 2) rfl
  have b2_3 := new_cell hb (j := 3) rfl
  have z2 := new_lt hb
  have zz2 := z2
  replace o_a0 := o_a0.step hb
  replace o_W := o_W.step hb
  replace o_x0 := o_x0.step hb
  clear hb
  have ub_G := o_G.lt
  go_wp2_with fail
  refine (eqMem_ct _ _ _ _ (o_G.alloc_ _).rd' (o_W.alloc_ _).rd' (by omega)).mono ?_
  rintro e w6 ⟨rfl, hb⟩
  replace hB := below_step hB hb hB.size
  have sz := hb.size
  simp only [World.size_alloc] at sz
  replace b0_0 := up2 hb z0 b0_0
  replace b0_1 := up2 hb z0 b0_1
  replace b0_2 := up2 hb z0 b0_2
  replace b0_3 := up2 hb z0 b0_3
  replace z0 := lt_step z0 hb
  replace b1_0 := up2 hb z1 b1_0
  replace b1_1 := up2 hb z1 b1_1
  replace b1_2 := up2 hb z1 b1_2
  replace b1_3 := up2 hb z1 b1_3
  replace z1 := lt_step z1 hb
  replace b2_0 := up2 hb z2 b2_0
  replace b2_1 := up2 hb z2 b2_1
  replace b2_2 := up2 hb z2 b2_2
  replace b2_3 := up2 hb z2 b2_3
  replace z2 := lt_step z2 hb
  have b3_0 := new_cell hb (j := 0) rfl
  have b3_1 := new_cell hb (j := 1) rfl
  have b3_2 := new_cell hb (j := 2) rfl
  have b3_3 := new_cell hb (j := 3) rfl
  have z3 := new_lt hb
  have zz3 := z3
  replace o_a0 := o_a0.step hb
  replace o_W := o_W.step hb
  replace o_x0 := o_x0.step hb
  replace o_G := o_G.step hb
  clear hb
  go_upto_region 10 with (fail)
  go_cut [63] from 59 to 63 (fun r wx => r = .bool false ∧ Below w.heap.size w wx ∧ wx.cell? ⟨w.heap.size, 0, none⟩ = some (.slice K0.Heap.Bytes.a K0.Heap.Bytes.len K0.Heap.Bytes.cap) ∧ wx.cell? ⟨w.heap.size, 1, none⟩ = some (.slice K0.Heap.Class.a K0.Heap.Class.len K0.Heap.Class.cap) ∧ wx.cell? ⟨w.heap.size, 2, none⟩ = some (.slice K0.Lists.Global.a K0.Lists.Global.len K0.Lists.Global.cap) ∧ wx.cell? ⟨w.heap.size, 3, none⟩ = some (.slice K0.Lists.Own.a K0.Lists.Own.len K0.Lists.Own.cap) ∧ w.heap.size < wx.heap.size ∧ wx.cell? ⟨w3.heap.size, 0, none⟩ = some (.slice K_W.Heap.Bytes.a K_W.Heap.Bytes.len K_W.Heap.Bytes.cap) ∧ wx.cell? ⟨w3.heap.size, 1, none⟩ = some (.slice K_W.Heap.Class.a K_W.Heap.Class.len K_W.Heap.Class.cap) ∧ wx.cell? ⟨w3.heap.size, 2, none⟩ = some (.slice K_W.Lists.Global.a K_W.Lists.Global.len K_W.Lists.Global.cap) ∧ wx.cell? ⟨w3.heap.size, 3, none⟩ = some (.slice K_W.Lists.Own.a K_W.Lists.Own.len K_W.Lists.Own.cap) ∧ w3.heap.size < wx.heap.size ∧ wx.cell? ⟨w4.heap.size, 0, none⟩ = some (.slice K_x0.Heap.Bytes.a K_x0.Heap.Bytes.len K_x0.Heap.Bytes.cap) ∧ wx.cell? ⟨w4.heap.size, 1, none⟩ = some (.slice K_x0.Heap.Class.a K_x0.Heap.Class.len K_x0.Heap.Class.cap) ∧ wx.cell? ⟨w4.heap.size, 2, none⟩ = some (.slice K_x0.Lists.Global.a K_x0.Lists.Global.len K_x0.Lists.Global.cap) ∧ wx.cell? ⟨w4.heap.size, 3, none⟩ = some (.slice K_x0.Lists.Own.a K_x0.Lists.Own.len K_x0.Lists.Own.cap) ∧ w4.heap.size < wx.heap.size ∧ wx.cell? ⟨w5.heap.size, 0, none⟩ = some (.slice K_G.Heap.Bytes.a K_G.Heap.Bytes.len K_G.Heap.Bytes.cap) ∧ wx.cell? ⟨w5.heap.size, 1, none⟩ = some (.slice K_G.Heap.Class.a K_G.Heap.Class.len K_G.Heap.Class.cap) ∧ wx.cell? ⟨w5.heap.size, 2, none⟩ = some (.slice K_G.Lists.Global.a K_G.Lists.Global.len K_G.Lists.Global.cap) ∧ wx.cell? ⟨w5.heap.size, 3, none⟩ = some (.slice K_G.Lists.Own.a K_G.Lists.Own.len K_G.Lists.Own.cap) ∧ w5.heap.size < wx.heap.size ∧ OwMem wx K_W ((allocP x0 wk a).1) ∧ OwMem wx K_x0 x0 ∧ OwMemW wx K_G ((allocP x0 wk a).1))
  case first =>
    go_region_with (first | (go_at_call 8; (first | ((with_reducible refine (toMem_ct _ K0 x0 (rdMem_up h0 hB) (by omega)).mono ?_); rintro e wq ⟨K_c0, rfl, o_c0, lb_c0, hb⟩) | ((with_reducible refine (toMem_ct _ K0 x0 (rdMem_up h0 hB.drew) (by omega)).mono ?_); rintro e wq ⟨K_c0, rfl, o_c0, lb_c0, hb⟩; replace hb := undrew hb; replace lb_c0 := fcdrew lb_c0)); replace hB := below_step0 hB hb hB.size; have sz := hb.size; replace b0_0 := cell_up hb z0 b0_0; replace b0_1 := cell_up hb z0 b0_1; replace b0_2 := cell_up hb z0 b0_2; replace b0_3 := cell_up hb z0 b0_3; replace z0 := lt_step0 z0 hb; replace b1_0 := cell_up hb z1 b1_0; replace b1_1 := cell_up hb z1 b1_1; replace b1_2 := cell_up hb z1 b1_2; replace b1_3 := cell_up hb z1 b1_3; replace z1 := lt_step0 z1 hb; replace b2_0 := cell_up hb z2 b2_0; replace b2_1 := cell_up hb z2 b2_1; replace b2_2 := cell_up hb z2 b2_2; replace b2_3 := cell_up hb z2 b2_3; replace z2 := lt_step0 z2 hb; replace b3_0 := cell_up hb z3 b3_0; replace b3_1 := cell_up hb z3 b3_1; replace b3_2 := cell_up hb z3 b3_2; replace b3_3 := cell_up hb z3 b3_3; replace z3 := lt_step0 z3 hb; replace o_a0 := o_a0.step0 hb; replace o_W := o_W.step0 hb; replace o_x0 := o_x0.step0 hb; replace o_G := o_G.step0 hb; clear hb; have ub_c0 := o_c0.lt) | (go_at_call 10; (with_reducible refine (eqMem_ct _ _ _ _ o_x0.rd' o_c0.rd' (by omega)).mono ?_); rintro e wq ⟨rfl, hb⟩; replace hB := below_step0 hB hb hB.size; have sz := hb.size; replace b0_0 := cell_up hb z0 b0_0; replace b0_1 := cell_up hb z0 b0_1; replace b0_2 := cell_up hb z0 b0_2; replace b0_3 := cell_up hb z0 b0_3; replace z0 := lt_step0 z0 hb; replace b1_0 := cell_up hb z1 b1_0; replace b1_1 := cell_up hb z1 b1_1; replace b1_2 := cell_up hb z1 b1_2; replace b1_3 := cell_up hb z1 b1_3; replace z1 := lt_step0 z1 hb; replace b2_0 := cell_up hb z2 b2_0; replace b2_1 := cell_up hb z2 b2_1; replace b2_2 := cell_up hb z2 b2_2; replace b2_3 := cell_up hb z2 b2_3; replace z2 := lt_step0 z2 hb; replace b3_0 := cell_up hb z3 b3_0; replace b3_1 := cell_up hb z3 b3_1; replace b3_2 := cell_up hb z3 b3_2; replace b3_3 := cell_up hb z3 b3_3; replace z3 := lt_step0 z3 hb; replace o_a0 := o_a0.step0 hb; replace o_W := o_W.step0 hb; replace o_x0 := o_x0.step0 hb; replace o_G := o_G.step0 hb; replace o_c0 := o_c0.step0 hb; clear hb))
    all_goals
      go_wp2_with fail
      go_meet
      exact ⟨rfl, hB, b0_0, b0_1, b0_2, b0_3, z0, b1_0, b1_1, b1_2, b1_3, z1, b2_0, b2_1, b2_2, b2_3, z2, b3_0, b3_1, b3_2, b3_3, z3, o_W, o_x0, o_G⟩
  case rest =>
    clear hB
    clear b0_0
    clear b0_1
    clear b0_2
    clear b0_3
    clear z0
    clear b1_0
    clear b1_1
    clear b1_2
    clear b1_3
    clear z1
    clear b2_0
    clear b2_1
    clear b2_2
    clear b2_3
    clear z2
    clear b3_0
    clear b3_1
    clear b3_2
    clear b3_3
    clear z3
    clear o_W
    clear o_x0
    clear o_G
    obtain ⟨rfl, hB, b0_0, b0_1, b0_2, b0_3, z0, b1_0, b1_1, b1_2, b1_3, z1, b2_0, b2_1, b2_2, b2_3, z2, b3_0, b3_1, b3_2, b3_3, z3, o_W, o_x0, o_G⟩ := hcut
    go_wp2_with fail
    refine (markMem_ct _ _ _ _ o_x0 (by decide) (by omega)).mono ?_
    rintro e w10 ⟨rfl, om, hx⟩
    have hx := hx
    replace hB := hB.trans (hx.below hB.size (fun g hm => by have q := lb_x0 g hm; have := hB0.size; omega))
    have sz := hx.size
    replace b0_0 := (hx.cell w.heap.size 0 z0 (fun hm => by have p := ub_x0 _ hm; have q := lb_x0 _ hm; omega)).trans b0_0
    replace b0_1 := (hx.cell w.heap.size 1 z0 (fun hm => by have p := ub_x0 _ hm; have q := lb_x0 _ hm; omega)).trans b0_1
    replace b0_2 := (hx.cell w.heap.size 2 z0 (fun hm => by have p := ub_x0 _ hm; have q := lb_x0 _ hm; omega)).trans b0_2
    replace b0_3 := (hx.cell w.heap.size 3 z0 (fun hm => by have p := ub_x0 _ hm; have q := lb_x0 _ hm; omega)).trans b0_3
    replace z0 := Nat.lt_of_lt_of_le z0 hx.size
    replace b1_0 := (hx.cell w3.heap.size 0 z1 (fun hm => by have p := ub_x0 _ hm; have q := lb_x0 _ hm; omega)).trans b1_0
    replace b1_1 := (hx.cell w3.heap.size 1 z1 (fun hm => by have p := ub_x0 _ hm; have q := lb_x0 _ hm; omega)).trans b1_1
    replace b1_2 := (hx.cell w3.heap.size 2 z1 (fun hm => by have p := ub_x0 _ hm; have q := lb_x0 _ hm; omega)).trans b1_2
    replace b1_3 := (hx.cell w3.heap.size 3 z1 (fun hm => by have p := ub_x0 _ hm; have q := lb_x0 _ hm; omega)).trans b1_3
    replace z1 := Nat.lt_of_lt_of_le z1 hx.size
    replace b2_0 := (hx.cell w4.heap.size 0 z2 (fun hm => by have p := ub_x0 _ hm; have q := lb_x0 _ hm; omega)).trans b2_0
    replace b2_1 := (hx.cell w4.heap.size 1 z2 (fun hm => by have p := ub_x0 _ hm; have q := lb_x0 _ hm; omega)).trans b2_1
    replace b2_2 := (hx.cell w4.heap.size 2 z2 (fun hm => by have p := ub_x0 _ hm; have q := lb_x0 _ hm; omega)).trans b2_2
    replace b2_3 := (hx.cell w4.heap.size 3 z2 (fun hm => by have p := ub_x0 _ hm; have q := lb_x0 _ hm; omega)).trans b2_3
    replace z2 := Nat.lt_of_lt_of_le z2 hx.size
    replace b3_0 := (hx.cell w5.heap.size 0 z3 (fun hm => by have p := ub_x0 _ hm; have q := lb_x0 _ hm; omega)).trans b3_0
    replace b3_1 := (hx.cell w5.heap.size 1 z3 (fun hm => by have p := ub_x0 _ hm; have q := lb_x0 _ hm; omega)).trans b3_1
    replace b3_2 := (hx.cell w5.heap.size 2 z3 (fun hm => by have p := ub_x0 _ hm; have q := lb_x0 _ hm; omega)).trans b3_2
    replace b3_3 := (hx.cell w5.heap.size 3 z3 (fun hm => by have p := ub_x0 _ hm; have q := lb_x0 _ hm; omega)).trans b3_3
    replace z3 := Nat.lt_of_lt_of_le z3 hx.size
    replace o_W := o_W.chg hx (fun g hg hm => by have p := ub_W g hg; have q := lb_x0 g hm; omega)
    replace o_G := o_G.chg hx (fun g hg hm => by have p := ub_x0 g hm; have q := lb_G g hg; omega)
    replace o_x0 := om
    clear om hx
    go_wp2_with fail
    refine (eqMem_ct _ _ _ _ o_G.rd' o_W.rd' (by omega)).mono ?_
    rintro e w11 ⟨rfl, hb⟩
    replace hB := below_step0 hB hb hB.size
    have sz := hb.size
    replace b0_0 := cell_up hb z0 b0_0
    replace b0_1 := cell_up hb z0 b0_1
    replace b0_2 := cell_up hb z0 b0_2
    replace b0_3 := cell_up hb z0 b0_3
    replace z0 := lt_step0 z0 hb
    replace b1_0 := cell_up hb z1 b1_0
    replace b1_1 := cell_up hb z1 b1_1
    replace b1_2 := cell_up hb z1 b1_2
    replace b1_3 := cell_up hb z1 b1_3
    replace z1 := lt_step0 z1 hb
    replace b2_0 := cell_up hb z2 b2_0
    replace b2_1 := cell_up hb z2 b2_1
    replace b2_2 := cell_up hb z2 b2_2
    replace b2_3 := cell_up hb z2 b2_3
    replace z2 := lt_step0 z2 hb
    replace b3_0 := cell_up hb z3 b3_0
    replace b3_1 := cell_up hb z3 b3_1
    replace b3_2 := cell_up hb z3 b3_2
    replace b3_3 := cell_up hb z3 b3_3
    replace z3 := lt_step0 z3 hb
    replace o_W := o_W.step0 hb
    replace o_x0 := o_x0.step0 hb
    replace o_G := o_G.step0 hb
    clear hb
    go_wp2_with fail
    refine (markMem_ctW _ _ _ _ o_G (by decide) (by omega)).mono ?_
    rintro e w12 ⟨rfl, om, hx⟩
    have hx := hx
    replace hB := hB.trans (hx.below hB.size (fun g hm => by have q := lb_G g hm; have := hB0.size; omega))
    have sz := hx.size
    replace b0_0 := (hx.cell w.heap.size 0 z0 (fun hm => by have p := ub_G _ hm; have q := lb_G _ hm; omega)).trans b0_0
    replace b0_1 := (hx.cell w.heap.size 1 z0 (fun hm => by have p := ub_G _ hm; have q := lb_G _ hm; omega)).trans b0_1
    replace b0_2 := (hx.cell w.heap.size 2 z0 (fun hm => by have p := ub_G _ hm; have q := lb_G _ hm; omega)).trans b0_2
    replace b0_3 := (hx.cell w.heap.size 3 z0 (fun hm => by have p := ub_G _ hm; have q := lb_G _ hm; omega)).trans b0_3
    replace z0 := Nat.lt_of_lt_of_le z0 hx.size
    replace b1_0 := (hx.cell w3.heap.size 0 z1 (fun hm => by have p := ub_G _ hm; have q := lb_G _ hm; omega)).trans b1_0
    replace b1_1 := (hx.cell w3.heap.size 1 z1 (fun hm => by have p := ub_G _ hm; have q := lb_G _ hm; omega)).trans b1_1
    replace b1_2 := (hx.cell w3.heap.size 2 z1 (fun hm => by have p := ub_G _ hm; have q := lb_G _ hm; omega)).trans b1_2
    replace b1_3 := (hx.cell w3.heap.size 3 z1 (fun hm => by have p := ub_G _ hm; have q := lb_G _ hm; omega)).trans b1_3
    replace z1 := Nat.lt_of_lt_of_le z1 hx.size
    replace b2_0 := (hx.cell w4.heap.size 0 z2 (fun hm => by have p := ub_G _ hm; have q := lb_G _ hm; omega)).trans b2_0
    replace b2_1 := (hx.cell w4.heap.size 1 z2 (fun hm => by have p := ub_G _ hm; have q := lb_G _ hm; omega)).trans b2_1
    replace b2_2 := (hx.cell w4.heap.size 2 z2 (fun hm => by have p := ub_G _ hm; have q := lb_G _ hm; omega)).trans b2_2
    replace b2_3 := (hx.cell w4.heap.size 3 z2 (fun hm => by have p := ub_G _ hm; have q := lb_G _ hm; omega)).trans b2_3
    replace z2 := Nat.lt_of_lt_of_le z2 hx.size
    replace b3_0 := (hx.cell w5.heap.size 0 z3 (fun hm => by have p := ub_G _ hm; have q := lb_G _ hm; omega)).trans b3_0
    replace b3_1 := (hx.cell w5.heap.size 1 z3 (fun hm => by have p := ub_G _ hm; have q := lb_G _ hm; omega)).trans b3_1
    replace b3_2 := (hx.cell w5.heap.size 2 z3 (fun hm => by have p := ub_G _ hm; have q := lb_G _ hm; omega)).trans b3_2
    replace b3_3 := (hx.cell w5.heap.size 3 z3 (fun hm => by have p := ub_G _ hm; have q := lb_G _ hm; omega)).trans b3_3
    replace z3 := Nat.lt_of_lt_of_le z3 hx.size
    replace o_W := o_W.chg hx (fun g hg hm => by have p := ub_W g hg; have q := lb_G g hm; omega)
    replace o_x0 := o_x0.chg hx (fun g hg hm => by have p := ub_x0 g hg; have q := lb_G g hm; omega)
    replace o_G := om
    clear om hx
    go_wp2_with fail
    refine (heldMem_ct _ _ _ _ o_G.rd' (by decide) (by omega)).mono ?_
    rintro e w13 ⟨rfl, hb⟩
    replace hB := below_step0 hB hb hB.size
    have sz := hb.size
    replace b0_0 := cell_up hb z0 b0_0
    replace b0_1 := cell_up hb z0 b0_1
    replace b0_2 := cell_up hb z0 b0_2
    replace b0_3 := cell_up hb z0 b0_3
    replace z0 := lt_step0 z0 hb
    replace b1_0 := cell_up hb z1 b1_0
    replace b1_1 := cell_up hb z1 b1_1
    replace b1_2 := cell_up hb z1 b1_2
    replace b1_3 := cell_up hb z1 b1_3
    replace z1 := lt_step0 z1 hb
    replace b2_0 := cell_up hb z2 b2_0
    replace b2_1 := cell_up hb z2 b2_1
    replace b2_2 := cell_up hb z2 b2_2
    replace b2_3 := cell_up hb z2 b2_3
    replace z2 := lt_step0 z2 hb
    replace b3_0 := cell_up hb z3 b3_0
    replace b3_1 := cell_up hb z3 b3_1
    replace b3_2 := cell_up hb z3 b3_2
    replace b3_3 := cell_up hb z3 b3_3
    replace z3 := lt_step0 z3 hb
    replace o_W := o_W.step0 hb
    replace o_x0 := o_x0.step0 hb
    replace o_G := o_G.step0 hb
    clear hb
    go_wp2_with fail
    refine (toMem_ct _ K0 x0 (rdMem_up h0 hB) (by omega)).mono ?_
    rintro e w14 ⟨K_y0, rfl, o_y0, lb_y0, hb⟩
    replace hB := below_step0 hB hb hB.size
    have sz := hb.size
    replace b0_0 := cell_up hb z0 b0_0
    replace b0_1 := cell_up hb z0 b0_1
    replace b0_2 := cell_up hb z0 b0_2
    replace b0_3 := cell_up hb z0 b0_3
    replace z0 := lt_step0 z0 hb
    replace b1_0 := cell_up hb z1 b1_0
    replace b1_1 := cell_up hb z1 b1_1
    replace b1_2 := cell_up hb z1 b1_2
    replace b1_3 := cell_up hb z1 b1_3
    replace z1 := lt_step0 z1 hb
    replace b2_0 := cell_up hb z2 b2_0
    replace b2_1 := cell_up hb z2 b2_1
    replace b2_2 := cell_up hb z2 b2_2
    replace b2_3 := cell_up hb z2 b2_3
    replace z2 := lt_step0 z2 hb
    replace b3_0 := cell_up hb z3 b3_0
    replace b3_1 := cell_up hb z3 b3_1
    replace b3_2 := cell_up hb z3 b3_2
    replace b3_3 := cell_up hb z3 b3_3
    replace z3 := lt_step0 z3 hb
    replace o_W := o_W.step0 hb
    replace o_x0 := o_x0.step0 hb
    replace o_G := o_G.step0 hb
    clear hb
    have ub_y0 := o_y0.lt
    go_wp2_with fail
    refine (AllocNow_implS _ _ x0 wk a  o_y0.rd' (by omega)).mono ?_
    rintro e w15 ⟨K_H, rfl, o_H, lb_H, hb⟩
    replace hB := below_step0 hB hb hB.size
    have sz := hb.size
    replace b0_0 := cell_up hb z0 b0_0
    replace b0_1 := cell_up hb z0 b0_1
    replace b0_2 := cell_up hb z0 b0_2
    replace b0_3 := cell_up hb z0 b0_3
    replace z0 := lt_step0 z0 hb
    replace b1_0 := cell_up hb z1 b1_0
    replace b1_1 := cell_up hb z1 b1_1
    replace b1_2 := cell_up hb z1 b1_2
    replace b1_3 := cell_up hb z1 b1_3
    replace z1 := lt_step0 z1 hb
    replace b2_0 := cell_up hb z2 b2_0
    replace b2_1 := cell_up hb z2 b2_1
    replace b2_2 := cell_up hb z2 b2_2
    replace b2_3 := cell_up hb z2 b2_3
    replace z2 := lt_step0 z2 hb
    replace b3_0 := cell_up hb z3 b3_0
    replace b3_1 := cell_up hb z3 b3_1
    replace b3_2 := cell_up hb z3 b3_2
    replace b3_3 := cell_up hb z3 b3_3
    replace z3 := lt_step0 z3 hb
    replace o_W := o_W.step0 hb
    replace o_x0 := o_x0.step0 hb
    replace o_G := o_G.step0 hb
    replace o_y0 := o_y0.step0 hb
    clear hb
    have ub_H := o_H.lt
    go_wp2_with fail
    refine (eqMem_ct _ _ _ _ (o_H.alloc_ _).rd' (o_W.alloc_ _).rd' (by omega)).mono ?_
    rintro e w16 ⟨rfl, hb⟩
    replace hB := below_step hB hb hB.size
    have sz := hb.size
    simp only [World.size_alloc] at sz
    replace b0_0 := up2 hb z0 b0_0
    replace b0_1 := up2 hb z0 b0_1
    replace b0_2 := up2 hb z0 b0_2
    replace b0_3 := up2 hb z0 b0_3
    replace z0 := lt_step z0 hb
    replace b1_0 := up2 hb z1 b1_0
    replace b1_1 := up2 hb z1 b1_1
    replace b1_2 := up2 hb z1 b1_2
    replace b1_3 := up2 hb z1 b1_3
    replace z1 := lt_step z1 hb
    replace b2_0 := up2 hb z2 b2_0
    replace b2_1 := up2 hb z2 b2_1
    replace b2_2 := up2 hb z2 b2_2
    replace b2_3 := up2 hb z2 b2_3
    replace z2 := lt_step z2 hb
    replace b3_0 := up2 hb z3 b3_0
    replace b3_1 := up2 hb z3 b3_1
    replace b3_2 := up2 hb z3 b3_2
    replace b3_3 := up2 hb z3 b3_3
    replace z3 := lt_step z3 hb
    have b4_0 := new_cell hb (j := 0) rfl
    have b4_1 := new_cell hb (j := 1) rfl
    have b4_2 := new_cell hb (j := 2) rfl
    have b4_3 := new_cell hb (j := 3) rfl
    have z4 := new_lt hb
    have zz4 := z4
    replace o_W := o_W.step hb
    replace o_x0 := o_x0.step hb
    replace o_G := o_G.step hb
    replace o_y0 := o_y0.step hb
    replace o_H := o_H.step hb
    clear hb
    go_wp2_with fail
    refine (heldMem_ct _ _ _ _ o_G.rd' (by decide) (by omega)).mono ?_
    rintro e w17 ⟨rfl, hb⟩
    replace hB := below_step0 hB hb hB.size
    have sz := hb.size
    replace b0_0 := cell_up hb z0 b0_0
    replace b0_1 := cell_up hb z0 b0_1
    replace b0_2 := cell_up hb z0 b0_2
    replace b0_3 := cell_up hb z0 b0_3
    replace z0 := lt_step0 z0 hb
    replace b1_0 := cell_up hb z1 b1_0
    replace b1_1 := cell_up hb z1 b1_1
    replace b1_2 := cell_up hb z1 b1_2
    replace b1_3 := cell_up hb z1 b1_3
    replace z1 := lt_step0 z1 hb
    replace b2_0 := cell_up hb z2 b2_0
    replace b2_1 := cell_up hb z2 b2_1
    replace b2_2 := cell_up hb z2 b2_2
    replace b2_3 := cell_up hb z2 b2_3
    replace z2 := lt_step0 z2 hb
    replace b3_0 := cell_up hb z3 b3_0
    replace b3_1 := cell_up hb z3 b3_1
    replace b3_2 := cell_up hb z3 b3_2
    replace b3_3 := cell_up hb z3 b3_3
    replace z3 := lt_step0 z3 hb
    replace b4_0 := cell_up hb z4 b4_0
    replace b4_1 := cell_up hb z4 b4_1
    replace b4_2 := cell_up hb z4 b4_2
    replace b4_3 := cell_up hb z4 b4_3
    replace z4 := lt_step0 z4 hb
    replace o_W := o_W.step0 hb
    replace o_x0 := o_x0.step0 hb
    replace o_G := o_G.step0 hb
    replace o_y0 := o_y0.step0 hb
    replace o_H := o_H.step0 hb
    clear hb
    go_wp2_with fail
    go_ret
    exact ⟨rfl, hB⟩
end Go.Proofs.YtpjijbonpjoamaaGreat

