/-
  Several texts in one: lemmas and contracts that the claim rests on.
-/
import Derived.Test.YtpjijbonpjoamaaGreatUHAllocNow1
import Derived.Deep.QuietTactic
import Derived.BigQuiet
import Derived.Deep.LoopGhost
import Derived.Deep.RegionHeld3
import Derived.WalkSpells
import Derived.Laws.Cover3
import Derived.Test.YtpjijbonpjoamaaGreatUHAllocNow10
import Derived.Test.YtpjijbonpjoamaaGreatUHAllocNow11
import Derived.Test.YtpjijbonpjoamaaGreatUHAllocNow9
/-
  AllocNow that grants a page: the contract.
-/
namespace Go.Proofs.YtpjijbonpjoamaaGreat
open Go.RowKit

set_option maxRecDepth 100000 in
set_option maxHeartbeats 8000000 in
theorem AllocNow_impl_grant (w : World) (H : HMem) (x : Mem) (wk c p : Nat) (n : Int) (h : RdMem w w.heap.size H x) (hs : sizeMem x ≤ 536870912) (c1 : memOkB x = true) (hw : wk < 3) (c3 : classOfS n = (c : Int)) (hc : c < 3) (hrow0 : x.Lists.Own[wk * 3 + c]? = some []) (hrow : x.Lists.Global[c]? = some []) (hp : idxOf (fun y => y == -1) x.Heap.Class = (p : Int)) :
    Calls Tryz.prog 16 #[.agg #[.slice H.Heap.Bytes.a H.Heap.Bytes.len H.Heap.Bytes.cap, .slice H.Heap.Class.a H.Heap.Class.len H.Heap.Class.cap, .slice H.Lists.Global.a H.Lists.Global.len H.Lists.Global.cap, .slice H.Lists.Own.a H.Lists.Own.len H.Lists.Own.cap], .int .i64 wk, .int .i64 n] w fun e w' => ∃ H' : HMem, e = .returned (.tuple #[.agg #[.slice H'.Heap.Bytes.a H'.Heap.Bytes.len H'.Heap.Bytes.cap, .slice H'.Heap.Class.a H'.Heap.Class.len H'.Heap.Class.cap, .slice H'.Lists.Global.a H'.Lists.Global.len H'.Lists.Global.cap, .slice H'.Lists.Own.a H'.Lists.Own.len H'.Lists.Own.cap], .int .i64 (genInB (grantH x.Heap p c) ((p * 4 : Nat) : Int) * 32 + ((p * 4 : Nat) : Int)), .int .i64 0]) ∧ OwMem w' H' (grantM x p c) ∧ (∀ g ∈ H'.foot, w.heap.size ≤ g) ∧ Below w.heap.size w w' := by
  have hcl : inB 0 2 (c : Int) = true := inB_iff.2 ⟨by omega, by omega⟩
  have c2 : inB 0 2 (wk : Int) = true := inB_iff.2 ⟨by omega, by omega⟩
  have hpl := idx_lt hp
  have hp6 : p < 6 := by rw [(shape_of (mem_shape c1)).cl] at hpl; exact hpl
  obtain ⟨gf1, gf2, gf3⟩ := grant_facts (mem_shape c1) hp6 hc
  have f1 : inB 0 23 ((p * 4 : Nat) : Int) = true := inB_iff.2 ⟨by omega, by omega⟩
  have f3 : inB 1 6 (genInB (grantH x.Heap p c) ((p * 4 : Nat) : Int)) = true := by rw [gf3]; decide
  have hs0 : 0 ≤ ((p * 4 : Nat) : Int) := by omega
  have hsh2 : sizeHeap x.Heap ≤ 536870912 ∧ sizeLists x.Lists ≤ 536870912 := by unfold sizeMem at hs; omega
  have hcp := fun (W : World) (hW : Below w.heap.size w W) => copyMem_impl W H x (rdMem_up h hW) hs
  have hmo := fun (W : World) (hW : Below w.heap.size w W) => MemOk_impl W H x (rdMem_up h hW)
  have hto := fun (W : World) (hW : Below w.heap.size w W) => TakeOwn_impl_nil W H.Lists x.Lists wk c (rdLists_up h.Lists hW) hsh2.2 (mem_lists c1) hw hc hrow0
  have htg := fun (W : World) (hW : Below w.heap.size w W) => TakeGlobal_impl_nil W H.Lists x.Lists c (rdLists_up h.Lists hW) hsh2.2 (mem_lists c1) hc hrow
  have hgn := fun (W : World) (hW : Below w.heap.size w W) => granted_yes W H x p c (rdMem_up h hW) hs c1 hc hp
  rw [c1] at hmo
  have hco := fun W => ClassOf_impl n W
  rw [c3] at hco
  clear c3 hp hrow hrow0 c1 hsh2 hs gf2 gf3 hpl
  generalize ((p * 4 : Nat) : Int) = s at f1 f3 hs0 hgn ⊢
  have B_a : Box ((w.alloc (.cells #[.slice H.Heap.Bytes.a H.Heap.Bytes.len H.Heap.Bytes.cap, .slice H.Heap.Class.a H.Heap.Class.len H.Heap.Class.cap, .slice H.Lists.Global.a H.Lists.Global.len H.Lists.Global.cap, .slice H.Lists.Own.a H.Lists.Own.len H.Lists.Own.cap] 36)).alloc (.cells #[.slice none 0 0, .slice none 0 0, .slice none 0 0, .slice none 0 0] 36)) (w.heap.size) [.slice H.Heap.Bytes.a H.Heap.Bytes.len H.Heap.Bytes.cap, .slice H.Heap.Class.a H.Heap.Class.len H.Heap.Class.cap, .slice H.Lists.Global.a H.Lists.Global.len H.Lists.Global.cap, .slice H.Lists.Own.a H.Lists.Own.len H.Lists.Own.cap] := by
    have hbx := Box.new w #[.slice H.Heap.Bytes.a H.Heap.Bytes.len H.Heap.Bytes.cap, .slice H.Heap.Class.a H.Heap.Class.len H.Heap.Class.cap, .slice H.Lists.Global.a H.Lists.Global.len H.Lists.Global.cap, .slice H.Lists.Own.a H.Lists.Own.len H.Lists.Own.cap] 36
    exact (hbx).alloc _
  have B_r : Box ((w.alloc (.cells #[.slice H.Heap.Bytes.a H.Heap.Bytes.len H.Heap.Bytes.cap, .slice H.Heap.Class.a H.Heap.Class.len H.Heap.Class.cap, .slice H.Lists.Global.a H.Lists.Global.len H.Lists.Global.cap, .slice H.Lists.Own.a H.Lists.Own.len H.Lists.Own.cap] 36)).alloc (.cells #[.slice none 0 0, .slice none 0 0, .slice none 0 0, .slice none 0 0] 36)) (w.heap.size + 1) [.slice none 0 0, .slice none 0 0, .slice none 0 0, .slice none 0 0] := by
    have hbx := Box.new (w.alloc (.cells #[.slice H.Heap.Bytes.a H.Heap.Bytes.len H.Heap.Bytes.cap, .slice H.Heap.Class.a H.Heap.Class.len H.Heap.Class.cap, .slice H.Lists.Global.a H.Lists.Global.len H.Lists.Global.cap, .slice H.Lists.Own.a H.Lists.Own.len H.Lists.Own.cap] 36)) #[.slice none 0 0, .slice none 0 0, .slice none 0 0, .slice none 0 0] 36
    simp only [World.size_alloc] at hbx
    exact hbx
  have hB : Below w.heap.size w ((w.alloc (.cells #[.slice H.Heap.Bytes.a H.Heap.Bytes.len H.Heap.Bytes.cap, .slice H.Heap.Class.a H.Heap.Class.len H.Heap.Class.cap, .slice H.Lists.Global.a H.Lists.Global.len H.Lists.Global.cap, .slice H.Lists.Own.a H.Lists.Own.len H.Lists.Own.cap] 36)).alloc (.cells #[.slice none 0 0, .slice none 0 0, .slice none 0 0, .slice none 0 0] 36)) := by repeat (first | exact Below.refl _ _ | refine Below.alloc ?_ (by simp <;> omega) _ | refine below_grow_of ?_ (by simp <;> omega) _ _ | refine Below.drew ?_ | refine below_drewN ?_ _)
  go_enter Tryz.func16, Tryz.ntmps16
  go_wp2_with fail
  generalize hW0 : ((w.alloc (.cells #[.slice H.Heap.Bytes.a H.Heap.Bytes.len H.Heap.Bytes.cap, .slice H.Heap.Class.a H.Heap.Class.len H.Heap.Class.cap, .slice H.Lists.Global.a H.Lists.Global.len H.Lists.Global.cap, .slice H.Lists.Own.a H.Lists.Own.len H.Lists.Own.cap] 36)).alloc (.cells #[.slice none 0 0, .slice none 0 0, .slice none 0 0, .slice none 0 0] 36)) = w0 at B_a B_r hB ⊢
  clear hW0
  have zz_a := B_a.lt
  have zz_r := B_r.lt
  have q_a_0 := B_a.cell 0 _ rfl
  have q_a_1 := B_a.cell 1 _ rfl
  have q_a_2 := B_a.cell 2 _ rfl
  have q_a_3 := B_a.cell 3 _ rfl
  have fr_a := B_a.fro
  have z_a := B_a.lt
  have q_r_0 := B_r.cell 0 _ rfl
  have q_r_1 := B_r.cell 1 _ rfl
  have q_r_2 := B_r.cell 2 _ rfl
  have q_r_3 := B_r.cell 3 _ rfl
  have fr_r := B_r.fro
  have z_r := B_r.lt
  refine (hcp _ hB).mono ?_
  rintro e w1 ⟨K_c, rfl, o_c, l_c, hb⟩
  have u_c := o_c.lt
  replace B_a := B_a.below hb
  replace B_r := B_r.below hb
  replace hB := hB.trans (hb.mono hB.size)
  have sz := hb.size
  clear hb
  replace q_a_0 := B_a.cell 0 _ rfl
  replace q_a_1 := B_a.cell 1 _ rfl
  replace q_a_2 := B_a.cell 2 _ rfl
  replace q_a_3 := B_a.cell 3 _ rfl
  replace fr_a := B_a.fro
  replace z_a := B_a.lt
  replace q_r_0 := B_r.cell 0 _ rfl
  replace q_r_1 := B_r.cell 1 _ rfl
  replace q_r_2 := B_r.cell 2 _ rfl
  replace q_r_3 := B_r.cell 3 _ rfl
  replace fr_r := B_r.fro
  replace z_r := B_r.lt
  clear hcp
  go_wp2_with (go_at_call 50; refine (hco _).mono ?_; rintro e wv ⟨rfl, rfl⟩)
  replace B_a := B_a.alloc (.cells #[.slice K_c.Heap.Bytes.a K_c.Heap.Bytes.len K_c.Heap.Bytes.cap, .slice K_c.Heap.Class.a K_c.Heap.Class.len K_c.Heap.Class.cap, .slice K_c.Lists.Global.a K_c.Lists.Global.len K_c.Lists.Global.cap, .slice K_c.Lists.Own.a K_c.Lists.Own.len K_c.Lists.Own.cap] 36)
  replace B_r := B_r.alloc (.cells #[.slice K_c.Heap.Bytes.a K_c.Heap.Bytes.len K_c.Heap.Bytes.cap, .slice K_c.Heap.Class.a K_c.Heap.Class.len K_c.Heap.Class.cap, .slice K_c.Lists.Global.a K_c.Lists.Global.len K_c.Lists.Global.cap, .slice K_c.Lists.Own.a K_c.Lists.Own.len K_c.Lists.Own.cap] 36)
  replace o_c := o_c.alloc_ (.cells #[.slice K_c.Heap.Bytes.a K_c.Heap.Bytes.len K_c.Heap.Bytes.cap, .slice K_c.Heap.Class.a K_c.Heap.Class.len K_c.Heap.Class.cap, .slice K_c.Lists.Global.a K_c.Lists.Global.len K_c.Lists.Global.cap, .slice K_c.Lists.Own.a K_c.Lists.Own.len K_c.Lists.Own.cap] 36)
  replace hB := hB.alloc hB.size (.cells #[.slice K_c.Heap.Bytes.a K_c.Heap.Bytes.len K_c.Heap.Bytes.cap, .slice K_c.Heap.Class.a K_c.Heap.Class.len K_c.Heap.Class.cap, .slice K_c.Lists.Global.a K_c.Lists.Global.len K_c.Lists.Global.cap, .slice K_c.Lists.Own.a K_c.Lists.Own.len K_c.Lists.Own.cap] 36)
  have B_o : Box (w1.alloc (.cells #[.slice K_c.Heap.Bytes.a K_c.Heap.Bytes.len K_c.Heap.Bytes.cap, .slice K_c.Heap.Class.a K_c.Heap.Class.len K_c.Heap.Class.cap, .slice K_c.Lists.Global.a K_c.Lists.Global.len K_c.Lists.Global.cap, .slice K_c.Lists.Own.a K_c.Lists.Own.len K_c.Lists.Own.cap] 36)) w1.heap.size [.slice K_c.Heap.Bytes.a K_c.Heap.Bytes.len K_c.Heap.Bytes.cap, .slice K_c.Heap.Class.a K_c.Heap.Class.len K_c.Heap.Class.cap, .slice K_c.Lists.Global.a K_c.Lists.Global.len K_c.Lists.Global.cap, .slice K_c.Lists.Own.a K_c.Lists.Own.len K_c.Lists.Own.cap] := Box.new w1 #[.slice K_c.Heap.Bytes.a K_c.Heap.Bytes.len K_c.Heap.Bytes.cap, .slice K_c.Heap.Class.a K_c.Heap.Class.len K_c.Heap.Class.cap, .slice K_c.Lists.Global.a K_c.Lists.Global.len K_c.Lists.Global.cap, .slice K_c.Lists.Own.a K_c.Lists.Own.len K_c.Lists.Own.cap] 36
  have zz_o := B_o.lt
  have sz : w1.heap.size ≤ (w1.alloc (.cells #[.slice K_c.Heap.Bytes.a K_c.Heap.Bytes.len K_c.Heap.Bytes.cap, .slice K_c.Heap.Class.a K_c.Heap.Class.len K_c.Heap.Class.cap, .slice K_c.Lists.Global.a K_c.Lists.Global.len K_c.Lists.Global.cap, .slice K_c.Lists.Own.a K_c.Lists.Own.len K_c.Lists.Own.cap] 36)).heap.size := Nat.le_of_lt B_o.lt
  generalize hG : (w1.alloc (.cells #[.slice K_c.Heap.Bytes.a K_c.Heap.Bytes.len K_c.Heap.Bytes.cap, .slice K_c.Heap.Class.a K_c.Heap.Class.len K_c.Heap.Class.cap, .slice K_c.Lists.Global.a K_c.Lists.Global.len K_c.Lists.Global.cap, .slice K_c.Lists.Own.a K_c.Lists.Own.len K_c.Lists.Own.cap] 36)) = w2 at B_a B_r o_c hB B_o zz_o sz ⊢
  clear hG
  replace q_a_0 := B_a.cell 0 _ rfl
  replace q_a_1 := B_a.cell 1 _ rfl
  replace q_a_2 := B_a.cell 2 _ rfl
  replace q_a_3 := B_a.cell 3 _ rfl
  replace fr_a := B_a.fro
  replace z_a := B_a.lt
  replace q_r_0 := B_r.cell 0 _ rfl
  replace q_r_1 := B_r.cell 1 _ rfl
  replace q_r_2 := B_r.cell 2 _ rfl
  replace q_r_3 := B_r.cell 3 _ rfl
  replace fr_r := B_r.fro
  replace z_r := B_r.lt
  have q_o_0 := B_o.cell 0 _ rfl
  have q_o_1 := B_o.cell 1 _ rfl
  have q_o_2 := B_o.cell 2 _ rfl
  have q_o_3 := B_o.cell 3 _ rfl
  have fr_o := B_o.fro
  have z_o := B_o.lt
  refine (hmo _ hB).mono ?_
  rintro e w3 ⟨rfl, hb⟩
  replace B_a := B_a.below hb
  replace B_r := B_r.below hb
  replace B_o := B_o.below hb
  have o_c := o_c.step0 hb
  replace hB := hB.trans (hb.mono hB.size)
  have sz := hb.size
  clear hb
  replace q_a_0 := B_a.cell 0 _ rfl
  replace q_a_1 := B_a.cell 1 _ rfl
  replace q_a_2 := B_a.cell 2 _ rfl
  replace q_a_3 := B_a.cell 3 _ rfl
  replace fr_a := B_a.fro
  replace z_a := B_a.lt
  replace q_r_0 := B_r.cell 0 _ rfl
  replace q_r_1 := B_r.cell 1 _ rfl
  replace q_r_2 := B_r.cell 2 _ rfl
  replace q_r_3 := B_r.cell 3 _ rfl
  replace fr_r := B_r.fro
  replace z_r := B_r.lt
  replace q_o_0 := B_o.cell 0 _ rfl
  replace q_o_1 := B_o.cell 1 _ rfl
  replace q_o_2 := B_o.cell 2 _ rfl
  replace q_o_3 := B_o.cell 3 _ rfl
  replace fr_o := B_o.fro
  replace z_o := B_o.lt
  clear hmo
  go_wp2_with (go_at_call 28; refine (isWorker_ct _ _).mono ?_; rw [c2]; rintro e wv ⟨rfl, rfl⟩)
  refine (hto _ hB).mono ?_
  rintro e w4 ⟨K_u, rfl, o_u, l_u, hb⟩
  have u_u := o_u.lt
  replace B_a := B_a.below hb
  replace B_r := B_r.below hb
  replace B_o := B_o.below hb
  replace o_c := o_c.step0 hb
  replace hB := hB.trans (hb.mono hB.size)
  have sz := hb.size
  clear hb
  replace q_a_0 := B_a.cell 0 _ rfl
  replace q_a_1 := B_a.cell 1 _ rfl
  replace q_a_2 := B_a.cell 2 _ rfl
  replace q_a_3 := B_a.cell 3 _ rfl
  replace fr_a := B_a.fro
  replace z_a := B_a.lt
  replace q_r_0 := B_r.cell 0 _ rfl
  replace q_r_1 := B_r.cell 1 _ rfl
  replace q_r_2 := B_r.cell 2 _ rfl
  replace q_r_3 := B_r.cell 3 _ rfl
  replace fr_r := B_r.fro
  replace z_r := B_r.lt
  replace q_o_0 := B_o.cell 0 _ rfl
  replace q_o_1 := B_o.cell 1 _ rfl
  replace q_o_2 := B_o.cell 2 _ rfl
  replace q_o_3 := B_o.cell 3 _ rfl
  replace fr_o := B_o.fro
  replace z_o := B_o.lt
  clear hto
  go_wp2_with fail
  replace B_a := B_a.alloc (.cells #[.slice K_u.Global.a K_u.Global.len K_u.Global.cap, .slice K_u.Own.a K_u.Own.len K_u.Own.cap] 34)
  replace B_r := B_r.alloc (.cells #[.slice K_u.Global.a K_u.Global.len K_u.Global.cap, .slice K_u.Own.a K_u.Own.len K_u.Own.cap] 34)
  replace B_o := B_o.alloc (.cells #[.slice K_u.Global.a K_u.Global.len K_u.Global.cap, .slice K_u.Own.a K_u.Own.len K_u.Own.cap] 34)
  replace o_c := o_c.alloc_ (.cells #[.slice K_u.Global.a K_u.Global.len K_u.Global.cap, .slice K_u.Own.a K_u.Own.len K_u.Own.cap] 34)
  replace o_u := o_u.alloc_ (.cells #[.slice K_u.Global.a K_u.Global.len K_u.Global.cap, .slice K_u.Own.a K_u.Own.len K_u.Own.cap] 34)
  replace hB := hB.alloc hB.size (.cells #[.slice K_u.Global.a K_u.Global.len K_u.Global.cap, .slice K_u.Own.a K_u.Own.len K_u.Own.cap] 34)
  have B_p : Box (w4.alloc (.cells #[.slice K_u.Global.a K_u.Global.len K_u.Global.cap, .slice K_u.Own.a K_u.Own.len K_u.Own.cap] 34)) w4.heap.size [.slice K_u.Global.a K_u.Global.len K_u.Global.cap, .slice K_u.Own.a K_u.Own.len K_u.Own.cap] := Box.new w4 #[.slice K_u.Global.a K_u.Global.len K_u.Global.cap, .slice K_u.Own.a K_u.Own.len K_u.Own.cap] 34
  have zz_p := B_p.lt
  have sz : w4.heap.size ≤ (w4.alloc (.cells #[.slice K_u.Global.a K_u.Global.len K_u.Global.cap, .slice K_u.Own.a K_u.Own.len K_u.Own.cap] 34)).heap.size := Nat.le_of_lt B_p.lt
  generalize hG : (w4.alloc (.cells #[.slice K_u.Global.a K_u.Global.len K_u.Global.cap, .slice K_u.Own.a K_u.Own.len K_u.Own.cap] 34)) = w5 at B_a B_r B_o o_c o_u hB B_p zz_p sz ⊢
  clear hG
  replace q_a_0 := B_a.cell 0 _ rfl
  replace q_a_1 := B_a.cell 1 _ rfl
  replace q_a_2 := B_a.cell 2 _ rfl
  replace q_a_3 := B_a.cell 3 _ rfl
  replace fr_a := B_a.fro
  replace z_a := B_a.lt
  replace q_r_0 := B_r.cell 0 _ rfl
  replace q_r_1 := B_r.cell 1 _ rfl
  replace q_r_2 := B_r.cell 2 _ rfl
  replace q_r_3 := B_r.cell 3 _ rfl
  replace fr_r := B_r.fro
  replace z_r := B_r.lt
  replace q_o_0 := B_o.cell 0 _ rfl
  replace q_o_1 := B_o.cell 1 _ rfl
  replace q_o_2 := B_o.cell 2 _ rfl
  replace q_o_3 := B_o.cell 3 _ rfl
  replace fr_o := B_o.fro
  replace z_o := B_o.lt
  have q_p_0 := B_p.cell 0 _ rfl
  have q_p_1 := B_p.cell 1 _ rfl
  have fr_p := B_p.fro
  have z_p := B_p.lt
  refine (htg _ hB).mono ?_
  rintro e w6 ⟨K_t, rfl, o_t, l_t, hb⟩
  have u_t := o_t.lt
  replace B_a := B_a.below hb
  replace B_r := B_r.below hb
  replace B_o := B_o.below hb
  replace B_p := B_p.below hb
  replace o_c := o_c.step0 hb
  have o_u := o_u.step0 hb
  replace hB := hB.trans (hb.mono hB.size)
  have sz := hb.size
  clear hb
  replace q_a_0 := B_a.cell 0 _ rfl
  replace q_a_1 := B_a.cell 1 _ rfl
  replace q_a_2 := B_a.cell 2 _ rfl
  replace q_a_3 := B_a.cell 3 _ rfl
  replace fr_a := B_a.fro
  replace z_a := B_a.lt
  replace q_r_0 := B_r.cell 0 _ rfl
  replace q_r_1 := B_r.cell 1 _ rfl
  replace q_r_2 := B_r.cell 2 _ rfl
  replace q_r_3 := B_r.cell 3 _ rfl
  replace fr_r := B_r.fro
  replace z_r := B_r.lt
  replace q_o_0 := B_o.cell 0 _ rfl
  replace q_o_1 := B_o.cell 1 _ rfl
  replace q_o_2 := B_o.cell 2 _ rfl
  replace q_o_3 := B_o.cell 3 _ rfl
  replace fr_o := B_o.fro
  replace z_o := B_o.lt
  replace q_p_0 := B_p.cell 0 _ rfl
  replace q_p_1 := B_p.cell 1 _ rfl
  replace fr_p := B_p.fro
  replace z_p := B_p.lt
  clear htg
  go_upto_region 9 with (fail)
  replace B_a : Box ((w6.setCell ⟨w4.heap.size, 0, none⟩ (.slice K_t.Global.a K_t.Global.len K_t.Global.cap)).setCell ⟨w4.heap.size, 1, none⟩ (.slice K_t.Own.a K_t.Own.len K_t.Own.cap)) (w.heap.size) [.slice H.Heap.Bytes.a H.Heap.Bytes.len H.Heap.Bytes.cap, .slice H.Heap.Class.a H.Heap.Class.len H.Heap.Class.cap, .slice H.Lists.Global.a H.Lists.Global.len H.Lists.Global.cap, .slice H.Lists.Own.a H.Lists.Own.len H.Lists.Own.cap] := ((B_a.other (by omega) _).other (by omega) _)
  replace B_r : Box ((w6.setCell ⟨w4.heap.size, 0, none⟩ (.slice K_t.Global.a K_t.Global.len K_t.Global.cap)).setCell ⟨w4.heap.size, 1, none⟩ (.slice K_t.Own.a K_t.Own.len K_t.Own.cap)) (w.heap.size + 1) [.slice none 0 0, .slice none 0 0, .slice none 0 0, .slice none 0 0] := ((B_r.other (by omega) _).other (by omega) _)
  replace B_o : Box ((w6.setCell ⟨w4.heap.size, 0, none⟩ (.slice K_t.Global.a K_t.Global.len K_t.Global.cap)).setCell ⟨w4.heap.size, 1, none⟩ (.slice K_t.Own.a K_t.Own.len K_t.Own.cap)) (w1.heap.size) [.slice K_c.Heap.Bytes.a K_c.Heap.Bytes.len K_c.Heap.Bytes.cap, .slice K_c.Heap.Class.a K_c.Heap.Class.len K_c.Heap.Class.cap, .slice K_c.Lists.Global.a K_c.Lists.Global.len K_c.Lists.Global.cap, .slice K_c.Lists.Own.a K_c.Lists.Own.len K_c.Lists.Own.cap] := ((B_o.other (by omega) _).other (by omega) _)
  replace B_p : Box ((w6.setCell ⟨w4.heap.size, 0, none⟩ (.slice K_t.Global.a K_t.Global.len K_t.Global.cap)).setCell ⟨w4.heap.size, 1, none⟩ (.slice K_t.Own.a K_t.Own.len K_t.Own.cap)) (w4.heap.size) [.slice K_t.Global.a K_t.Global.len K_t.Global.cap, .slice K_t.Own.a K_t.Own.len K_t.Own.cap] := ((B_p.set 0 (.slice K_t.Global.a K_t.Global.len K_t.Global.cap)).set 1 (.slice K_t.Own.a K_t.Own.len K_t.Own.cap))
  replace o_c := o_c.chg (F := [w4.heap.size]) (w' := ((w6.setCell ⟨w4.heap.size, 0, none⟩ (.slice K_t.Global.a K_t.Global.len K_t.Global.cap)).setCell ⟨w4.heap.size, 1, none⟩ (.slice K_t.Own.a K_t.Own.len K_t.Own.cap))) (by repeat (first | with_reducible exact Chg.refl _ _ | with_reducible refine Chg.set_ ?_ (by simp) _ | with_reducible refine Chg.alloc_ ?_ _ | with_reducible refine Chg.drew_ ?_)) (fun g hg hm => by simp only [List.mem_cons, List.not_mem_nil, or_false] at hm; have := l_c g hg; have := u_c g hg; omega)
  replace o_u := o_u.chg (F := [w4.heap.size]) (w' := ((w6.setCell ⟨w4.heap.size, 0, none⟩ (.slice K_t.Global.a K_t.Global.len K_t.Global.cap)).setCell ⟨w4.heap.size, 1, none⟩ (.slice K_t.Own.a K_t.Own.len K_t.Own.cap))) (by repeat (first | with_reducible exact Chg.refl _ _ | with_reducible refine Chg.set_ ?_ (by simp) _ | with_reducible refine Chg.alloc_ ?_ _ | with_reducible refine Chg.drew_ ?_)) (fun g hg hm => by simp only [List.mem_cons, List.not_mem_nil, or_false] at hm; have := l_u g hg; have := u_u g hg; omega)
  replace o_t := o_t.chg (F := [w4.heap.size]) (w' := ((w6.setCell ⟨w4.heap.size, 0, none⟩ (.slice K_t.Global.a K_t.Global.len K_t.Global.cap)).setCell ⟨w4.heap.size, 1, none⟩ (.slice K_t.Own.a K_t.Own.len K_t.Own.cap))) (by repeat (first | with_reducible exact Chg.refl _ _ | with_reducible refine Chg.set_ ?_ (by simp) _ | with_reducible refine Chg.alloc_ ?_ _ | with_reducible refine Chg.drew_ ?_)) (fun g hg hm => by simp only [List.mem_cons, List.not_mem_nil, or_false] at hm; have := l_t g hg; have := u_t g hg; omega)
  replace hB : Below w.heap.size w ((w6.setCell ⟨w4.heap.size, 0, none⟩ (.slice K_t.Global.a K_t.Global.len K_t.Global.cap)).setCell ⟨w4.heap.size, 1, none⟩ (.slice K_t.Own.a K_t.Own.len K_t.Own.cap)) := Below.trans hB (by repeat (first | with_reducible exact Below.refl _ _ | with_reducible refine Below.setCell ?_ (by simp <;> omega) _ | with_reducible refine Below.alloc ?_ (by simp <;> omega) _ | with_reducible refine Below.drew ?_))
  have sz : w6.heap.size ≤ ((w6.setCell ⟨w4.heap.size, 0, none⟩ (.slice K_t.Global.a K_t.Global.len K_t.Global.cap)).setCell ⟨w4.heap.size, 1, none⟩ (.slice K_t.Own.a K_t.Own.len K_t.Own.cap)).heap.size := by simp
  generalize hG : ((w6.setCell ⟨w4.heap.size, 0, none⟩ (.slice K_t.Global.a K_t.Global.len K_t.Global.cap)).setCell ⟨w4.heap.size, 1, none⟩ (.slice K_t.Own.a K_t.Own.len K_t.Own.cap)) = w7 at B_a B_r B_o B_p o_c o_u o_t hB sz ⊢
  clear hG
  replace q_a_0 := B_a.cell 0 _ rfl
  replace q_a_1 := B_a.cell 1 _ rfl
  replace q_a_2 := B_a.cell 2 _ rfl
  replace q_a_3 := B_a.cell 3 _ rfl
  replace fr_a := B_a.fro
  replace z_a := B_a.lt
  replace q_r_0 := B_r.cell 0 _ rfl
  replace q_r_1 := B_r.cell 1 _ rfl
  replace q_r_2 := B_r.cell 2 _ rfl
  replace q_r_3 := B_r.cell 3 _ rfl
  replace fr_r := B_r.fro
  replace z_r := B_r.lt
  replace q_o_0 := B_o.cell 0 _ rfl
  replace q_o_1 := B_o.cell 1 _ rfl
  replace q_o_2 := B_o.cell 2 _ rfl
  replace q_o_3 := B_o.cell 3 _ rfl
  replace fr_o := B_o.fro
  replace z_o := B_o.lt
  replace q_p_0 := B_p.cell 0 _ rfl
  replace q_p_1 := B_p.cell 1 _ rfl
  replace fr_p := B_p.fro
  replace z_p := B_p.lt
  go_upto_region 11 with (fail)
  replace B_a : Box ((w7.setCell ⟨w1.heap.size, 2, none⟩ (.slice K_t.Global.a K_t.Global.len K_t.Global.cap)).setCell ⟨w1.heap.size, 3, none⟩ (.slice K_t.Own.a K_t.Own.len K_t.Own.cap)) (w.heap.size) [.slice H.Heap.Bytes.a H.Heap.Bytes.len H.Heap.Bytes.cap, .slice H.Heap.Class.a H.Heap.Class.len H.Heap.Class.cap, .slice H.Lists.Global.a H.Lists.Global.len H.Lists.Global.cap, .slice H.Lists.Own.a H.Lists.Own.len H.Lists.Own.cap] := ((B_a.other (by omega) _).other (by omega) _)
  replace B_r : Box ((w7.setCell ⟨w1.heap.size, 2, none⟩ (.slice K_t.Global.a K_t.Global.len K_t.Global.cap)).setCell ⟨w1.heap.size, 3, none⟩ (.slice K_t.Own.a K_t.Own.len K_t.Own.cap)) (w.heap.size + 1) [.slice none 0 0, .slice none 0 0, .slice none 0 0, .slice none 0 0] := ((B_r.other (by omega) _).other (by omega) _)
  replace B_o : Box ((w7.setCell ⟨w1.heap.size, 2, none⟩ (.slice K_t.Global.a K_t.Global.len K_t.Global.cap)).setCell ⟨w1.heap.size, 3, none⟩ (.slice K_t.Own.a K_t.Own.len K_t.Own.cap)) (w1.heap.size) [.slice K_c.Heap.Bytes.a K_c.Heap.Bytes.len K_c.Heap.Bytes.cap, .slice K_c.Heap.Class.a K_c.Heap.Class.len K_c.Heap.Class.cap, .slice K_t.Global.a K_t.Global.len K_t.Global.cap, .slice K_t.Own.a K_t.Own.len K_t.Own.cap] := ((B_o.set 2 (.slice K_t.Global.a K_t.Global.len K_t.Global.cap)).set 3 (.slice K_t.Own.a K_t.Own.len K_t.Own.cap))
  replace B_p : Box ((w7.setCell ⟨w1.heap.size, 2, none⟩ (.slice K_t.Global.a K_t.Global.len K_t.Global.cap)).setCell ⟨w1.heap.size, 3, none⟩ (.slice K_t.Own.a K_t.Own.len K_t.Own.cap)) (w4.heap.size) [.slice K_t.Global.a K_t.Global.len K_t.Global.cap, .slice K_t.Own.a K_t.Own.len K_t.Own.cap] := ((B_p.other (by omega) _).other (by omega) _)
  replace o_c := o_c.chg (F := [w1.heap.size]) (w' := ((w7.setCell ⟨w1.heap.size, 2, none⟩ (.slice K_t.Global.a K_t.Global.len K_t.Global.cap)).setCell ⟨w1.heap.size, 3, none⟩ (.slice K_t.Own.a K_t.Own.len K_t.Own.cap))) (by repeat (first | with_reducible exact Chg.refl _ _ | with_reducible refine Chg.set_ ?_ (by simp) _ | with_reducible refine Chg.alloc_ ?_ _ | with_reducible refine Chg.drew_ ?_)) (fun g hg hm => by simp only [List.mem_cons, List.not_mem_nil, or_false] at hm; have := l_c g hg; have := u_c g hg; omega)
  replace o_u := o_u.chg (F := [w1.heap.size]) (w' := ((w7.setCell ⟨w1.heap.size, 2, none⟩ (.slice K_t.Global.a K_t.Global.len K_t.Global.cap)).setCell ⟨w1.heap.size, 3, none⟩ (.slice K_t.Own.a K_t.Own.len K_t.Own.cap))) (by repeat (first | with_reducible exact Chg.refl _ _ | with_reducible refine Chg.set_ ?_ (by simp) _ | with_reducible refine Chg.alloc_ ?_ _ | with_reducible refine Chg.drew_ ?_)) (fun g hg hm => by simp only [List.mem_cons, List.not_mem_nil, or_false] at hm; have := l_u g hg; have := u_u g hg; omega)
  replace o_t := o_t.chg (F := [w1.heap.size]) (w' := ((w7.setCell ⟨w1.heap.size, 2, none⟩ (.slice K_t.Global.a K_t.Global.len K_t.Global.cap)).setCell ⟨w1.heap.size, 3, none⟩ (.slice K_t.Own.a K_t.Own.len K_t.Own.cap))) (by repeat (first | with_reducible exact Chg.refl _ _ | with_reducible refine Chg.set_ ?_ (by simp) _ | with_reducible refine Chg.alloc_ ?_ _ | with_reducible refine Chg.drew_ ?_)) (fun g hg hm => by simp only [List.mem_cons, List.not_mem_nil, or_false] at hm; have := l_t g hg; have := u_t g hg; omega)
  replace hB : Below w.heap.size w ((w7.setCell ⟨w1.heap.size, 2, none⟩ (.slice K_t.Global.a K_t.Global.len K_t.Global.cap)).setCell ⟨w1.heap.size, 3, none⟩ (.slice K_t.Own.a K_t.Own.len K_t.Own.cap)) := Below.trans hB (by repeat (first | with_reducible exact Below.refl _ _ | with_reducible refine Below.setCell ?_ (by simp <;> omega) _ | with_reducible refine Below.alloc ?_ (by simp <;> omega) _ | with_reducible refine Below.drew ?_))
  have sz : w7.heap.size ≤ ((w7.setCell ⟨w1.heap.size, 2, none⟩ (.slice K_t.Global.a K_t.Global.len K_t.Global.cap)).setCell ⟨w1.heap.size, 3, none⟩ (.slice K_t.Own.a K_t.Own.len K_t.Own.cap)).heap.size := by simp
  generalize hG : ((w7.setCell ⟨w1.heap.size, 2, none⟩ (.slice K_t.Global.a K_t.Global.len K_t.Global.cap)).setCell ⟨w1.heap.size, 3, none⟩ (.slice K_t.Own.a K_t.Own.len K_t.Own.cap)) = w8 at B_a B_r B_o B_p o_c o_u o_t hB sz ⊢
  clear hG
  replace q_a_0 := B_a.cell 0 _ rfl
  replace q_a_1 := B_a.cell 1 _ rfl
  replace q_a_2 := B_a.cell 2 _ rfl
  replace q_a_3 := B_a.cell 3 _ rfl
  replace fr_a := B_a.fro
  replace z_a := B_a.lt
  replace q_r_0 := B_r.cell 0 _ rfl
  replace q_r_1 := B_r.cell 1 _ rfl
  replace q_r_2 := B_r.cell 2 _ rfl
  replace q_r_3 := B_r.cell 3 _ rfl
  replace fr_r := B_r.fro
  replace z_r := B_r.lt
  replace q_o_0 := B_o.cell 0 _ rfl
  replace q_o_1 := B_o.cell 1 _ rfl
  replace q_o_2 := B_o.cell 2 _ rfl
  replace q_o_3 := B_o.cell 3 _ rfl
  replace fr_o := B_o.fro
  replace z_o := B_o.lt
  replace q_p_0 := B_p.cell 0 _ rfl
  replace q_p_1 := B_p.cell 1 _ rfl
  replace fr_p := B_p.fro
  replace z_p := B_p.lt
  go_wp2_with fail
  refine (hgn _ hB).mono ?_
  rintro e w9 ⟨K_n, rfl, o_n, l_n, hb⟩
  have u_n := o_n.lt
  replace B_a := B_a.below hb
  replace B_r := B_r.below hb
  replace B_o := B_o.below hb
  replace B_p := B_p.below hb
  replace o_c := o_c.step0 hb
  replace o_u := o_u.step0 hb
  have o_t := o_t.step0 hb
  replace hB := hB.trans (hb.mono hB.size)
  have sz := hb.size
  clear hb
  replace q_a_0 := B_a.cell 0 _ rfl
  replace q_a_1 := B_a.cell 1 _ rfl
  replace q_a_2 := B_a.cell 2 _ rfl
  replace q_a_3 := B_a.cell 3 _ rfl
  replace fr_a := B_a.fro
  replace z_a := B_a.lt
  replace q_r_0 := B_r.cell 0 _ rfl
  replace q_r_1 := B_r.cell 1 _ rfl
  replace q_r_2 := B_r.cell 2 _ rfl
  replace q_r_3 := B_r.cell 3 _ rfl
  replace fr_r := B_r.fro
  replace z_r := B_r.lt
  replace q_o_0 := B_o.cell 0 _ rfl
  replace q_o_1 := B_o.cell 1 _ rfl
  replace q_o_2 := B_o.cell 2 _ rfl
  replace q_o_3 := B_o.cell 3 _ rfl
  replace fr_o := B_o.fro
  replace z_o := B_o.lt
  replace q_p_0 := B_p.cell 0 _ rfl
  replace q_p_1 := B_p.cell 1 _ rfl
  replace fr_p := B_p.fro
  replace z_p := B_p.lt
  clear hgn
  go_upto_region 14 with (fail)
  replace B_a : Box ((((w9.setCell ⟨w1.heap.size, 0, none⟩ (.slice K_n.Heap.Bytes.a K_n.Heap.Bytes.len K_n.Heap.Bytes.cap)).setCell ⟨w1.heap.size, 1, none⟩ (.slice K_n.Heap.Class.a K_n.Heap.Class.len K_n.Heap.Class.cap)).setCell ⟨w1.heap.size, 2, none⟩ (.slice K_n.Lists.Global.a K_n.Lists.Global.len K_n.Lists.Global.cap)).setCell ⟨w1.heap.size, 3, none⟩ (.slice K_n.Lists.Own.a K_n.Lists.Own.len K_n.Lists.Own.cap)) (w.heap.size) [.slice H.Heap.Bytes.a H.Heap.Bytes.len H.Heap.Bytes.cap, .slice H.Heap.Class.a H.Heap.Class.len H.Heap.Class.cap, .slice H.Lists.Global.a H.Lists.Global.len H.Lists.Global.cap, .slice H.Lists.Own.a H.Lists.Own.len H.Lists.Own.cap] := ((((B_a.other (by omega) _).other (by omega) _).other (by omega) _).other (by omega) _)
  replace B_r : Box ((((w9.setCell ⟨w1.heap.size, 0, none⟩ (.slice K_n.Heap.Bytes.a K_n.Heap.Bytes.len K_n.Heap.Bytes.cap)).setCell ⟨w1.heap.size, 1, none⟩ (.slice K_n.Heap.Class.a K_n.Heap.Class.len K_n.Heap.Class.cap)).setCell ⟨w1.heap.size, 2, none⟩ (.slice K_n.Lists.Global.a K_n.Lists.Global.len K_n.Lists.Global.cap)).setCell ⟨w1.heap.size, 3, none⟩ (.slice K_n.Lists.Own.a K_n.Lists.Own.len K_n.Lists.Own.cap)) (w.heap.size + 1) [.slice none 0 0, .slice none 0 0, .slice none 0 0, .slice none 0 0] := ((((B_r.other (by omega) _).other (by omega) _).other (by omega) _).other (by omega) _)
  replace B_o : Box ((((w9.setCell ⟨w1.heap.size, 0, none⟩ (.slice K_n.Heap.Bytes.a K_n.Heap.Bytes.len K_n.Heap.Bytes.cap)).setCell ⟨w1.heap.size, 1, none⟩ (.slice K_n.Heap.Class.a K_n.Heap.Class.len K_n.Heap.Class.cap)).setCell ⟨w1.heap.size, 2, none⟩ (.slice K_n.Lists.Global.a K_n.Lists.Global.len K_n.Lists.Global.cap)).setCell ⟨w1.heap.size, 3, none⟩ (.slice K_n.Lists.Own.a K_n.Lists.Own.len K_n.Lists.Own.cap)) (w1.heap.size) [.slice K_n.Heap.Bytes.a K_n.Heap.Bytes.len K_n.Heap.Bytes.cap, .slice K_n.Heap.Class.a K_n.Heap.Class.len K_n.Heap.Class.cap, .slice K_n.Lists.Global.a K_n.Lists.Global.len K_n.Lists.Global.cap, .slice K_n.Lists.Own.a K_n.Lists.Own.len K_n.Lists.Own.cap] := ((((B_o.set 0 (.slice K_n.Heap.Bytes.a K_n.Heap.Bytes.len K_n.Heap.Bytes.cap)).set 1 (.slice K_n.Heap.Class.a K_n.Heap.Class.len K_n.Heap.Class.cap)).set 2 (.slice K_n.Lists.Global.a K_n.Lists.Global.len K_n.Lists.Global.cap)).set 3 (.slice K_n.Lists.Own.a K_n.Lists.Own.len K_n.Lists.Own.cap))
  replace B_p : Box ((((w9.setCell ⟨w1.heap.size, 0, none⟩ (.slice K_n.Heap.Bytes.a K_n.Heap.Bytes.len K_n.Heap.Bytes.cap)).setCell ⟨w1.heap.size, 1, none⟩ (.slice K_n.Heap.Class.a K_n.Heap.Class.len K_n.Heap.Class.cap)).setCell ⟨w1.heap.size, 2, none⟩ (.slice K_n.Lists.Global.a K_n.Lists.Global.len K_n.Lists.Global.cap)).setCell ⟨w1.heap.size, 3, none⟩ (.slice K_n.Lists.Own.a K_n.Lists.Own.len K_n.Lists.Own.cap)) (w4.heap.size) [.slice K_t.Global.a K_t.Global.len K_t.Global.cap, .slice K_t.Own.a K_t.Own.len K_t.Own.cap] := ((((B_p.other (by omega) _).other (by omega) _).other (by omega) _).other (by omega) _)
  replace o_c := o_c.chg (F := [w1.heap.size]) (w' := ((((w9.setCell ⟨w1.heap.size, 0, none⟩ (.slice K_n.Heap.Bytes.a K_n.Heap.Bytes.len K_n.Heap.Bytes.cap)).setCell ⟨w1.heap.size, 1, none⟩ (.slice K_n.Heap.Class.a K_n.Heap.Class.len K_n.Heap.Class.cap)).setCell ⟨w1.heap.size, 2, none⟩ (.slice K_n.Lists.Global.a K_n.Lists.Global.len K_n.Lists.Global.cap)).setCell ⟨w1.heap.size, 3, none⟩ (.slice K_n.Lists.Own.a K_n.Lists.Own.len K_n.Lists.Own.cap))) (by repeat (first | with_reducible exact Chg.refl _ _ | with_reducible refine Chg.set_ ?_ (by simp) _ | with_reducible refine Chg.alloc_ ?_ _ | with_reducible refine Chg.drew_ ?_)) (fun g hg hm => by simp only [List.mem_cons, List.not_mem_nil, or_false] at hm; have := l_c g hg; have := u_c g hg; omega)
  replace o_u := o_u.chg (F := [w1.heap.size]) (w' := ((((w9.setCell ⟨w1.heap.size, 0, none⟩ (.slice K_n.Heap.Bytes.a K_n.Heap.Bytes.len K_n.Heap.Bytes.cap)).setCell ⟨w1.heap.size, 1, none⟩ (.slice K_n.Heap.Class.a K_n.Heap.Class.len K_n.Heap.Class.cap)).setCell ⟨w1.heap.size, 2, none⟩ (.slice K_n.Lists.Global.a K_n.Lists.Global.len K_n.Lists.Global.cap)).setCell ⟨w1.heap.size, 3, none⟩ (.slice K_n.Lists.Own.a K_n.Lists.Own.len K_n.Lists.Own.cap))) (by repeat (first | with_reducible exact Chg.refl _ _ | with_reducible refine Chg.set_ ?_ (by simp) _ | with_reducible refine Chg.alloc_ ?_ _ | with_reducible refine Chg.drew_ ?_)) (fun g hg hm => by simp only [List.mem_cons, List.not_mem_nil, or_false] at hm; have := l_u g hg; have := u_u g hg; omega)
  replace o_t := o_t.chg (F := [w1.heap.size]) (w' := ((((w9.setCell ⟨w1.heap.size, 0, none⟩ (.slice K_n.Heap.Bytes.a K_n.Heap.Bytes.len K_n.Heap.Bytes.cap)).setCell ⟨w1.heap.size, 1, none⟩ (.slice K_n.Heap.Class.a K_n.Heap.Class.len K_n.Heap.Class.cap)).setCell ⟨w1.heap.size, 2, none⟩ (.slice K_n.Lists.Global.a K_n.Lists.Global.len K_n.Lists.Global.cap)).setCell ⟨w1.heap.size, 3, none⟩ (.slice K_n.Lists.Own.a K_n.Lists.Own.len K_n.Lists.Own.cap))) (by repeat (first | with_reducible exact Chg.refl _ _ | with_reducible refine Chg.set_ ?_ (by simp) _ | with_reducible refine Chg.alloc_ ?_ _ | with_reducible refine Chg.drew_ ?_)) (fun g hg hm => by simp only [List.mem_cons, List.not_mem_nil, or_false] at hm; have := l_t g hg; have := u_t g hg; omega)
  replace o_n := o_n.chg (F := [w1.heap.size]) (w' := ((((w9.setCell ⟨w1.heap.size, 0, none⟩ (.slice K_n.Heap.Bytes.a K_n.Heap.Bytes.len K_n.Heap.Bytes.cap)).setCell ⟨w1.heap.size, 1, none⟩ (.slice K_n.Heap.Class.a K_n.Heap.Class.len K_n.Heap.Class.cap)).setCell ⟨w1.heap.size, 2, none⟩ (.slice K_n.Lists.Global.a K_n.Lists.Global.len K_n.Lists.Global.cap)).setCell ⟨w1.heap.size, 3, none⟩ (.slice K_n.Lists.Own.a K_n.Lists.Own.len K_n.Lists.Own.cap))) (by repeat (first | with_reducible exact Chg.refl _ _ | with_reducible refine Chg.set_ ?_ (by simp) _ | with_reducible refine Chg.alloc_ ?_ _ | with_reducible refine Chg.drew_ ?_)) (fun g hg hm => by simp only [List.mem_cons, List.not_mem_nil, or_false] at hm; have := l_n g hg; have := u_n g hg; omega)
  replace hB : Below w.heap.size w ((((w9.setCell ⟨w1.heap.size, 0, none⟩ (.slice K_n.Heap.Bytes.a K_n.Heap.Bytes.len K_n.Heap.Bytes.cap)).setCell ⟨w1.heap.size, 1, none⟩ (.slice K_n.Heap.Class.a K_n.Heap.Class.len K_n.Heap.Class.cap)).setCell ⟨w1.heap.size, 2, none⟩ (.slice K_n.Lists.Global.a K_n.Lists.Global.len K_n.Lists.Global.cap)).setCell ⟨w1.heap.size, 3, none⟩ (.slice K_n.Lists.Own.a K_n.Lists.Own.len K_n.Lists.Own.cap)) := Below.trans hB (by repeat (first | with_reducible exact Below.refl _ _ | with_reducible refine Below.setCell ?_ (by simp <;> omega) _ | with_reducible refine Below.alloc ?_ (by simp <;> omega) _ | with_reducible refine Below.drew ?_))
  have sz : w9.heap.size ≤ ((((w9.setCell ⟨w1.heap.size, 0, none⟩ (.slice K_n.Heap.Bytes.a K_n.Heap.Bytes.len K_n.Heap.Bytes.cap)).setCell ⟨w1.heap.size, 1, none⟩ (.slice K_n.Heap.Class.a K_n.Heap.Class.len K_n.Heap.Class.cap)).setCell ⟨w1.heap.size, 2, none⟩ (.slice K_n.Lists.Global.a K_n.Lists.Global.len K_n.Lists.Global.cap)).setCell ⟨w1.heap.size, 3, none⟩ (.slice K_n.Lists.Own.a K_n.Lists.Own.len K_n.Lists.Own.cap)).heap.size := by simp
  generalize hG : ((((w9.setCell ⟨w1.heap.size, 0, none⟩ (.slice K_n.Heap.Bytes.a K_n.Heap.Bytes.len K_n.Heap.Bytes.cap)).setCell ⟨w1.heap.size, 1, none⟩ (.slice K_n.Heap.Class.a K_n.Heap.Class.len K_n.Heap.Class.cap)).setCell ⟨w1.heap.size, 2, none⟩ (.slice K_n.Lists.Global.a K_n.Lists.Global.len K_n.Lists.Global.cap)).setCell ⟨w1.heap.size, 3, none⟩ (.slice K_n.Lists.Own.a K_n.Lists.Own.len K_n.Lists.Own.cap)) = w10 at B_a B_r B_o B_p o_c o_u o_t o_n hB sz ⊢
  clear hG
  replace q_a_0 := B_a.cell 0 _ rfl
  replace q_a_1 := B_a.cell 1 _ rfl
  replace q_a_2 := B_a.cell 2 _ rfl
  replace q_a_3 := B_a.cell 3 _ rfl
  replace fr_a := B_a.fro
  replace z_a := B_a.lt
  replace q_r_0 := B_r.cell 0 _ rfl
  replace q_r_1 := B_r.cell 1 _ rfl
  replace q_r_2 := B_r.cell 2 _ rfl
  replace q_r_3 := B_r.cell 3 _ rfl
  replace fr_r := B_r.fro
  replace z_r := B_r.lt
  replace q_o_0 := B_o.cell 0 _ rfl
  replace q_o_1 := B_o.cell 1 _ rfl
  replace q_o_2 := B_o.cell 2 _ rfl
  replace q_o_3 := B_o.cell 3 _ rfl
  replace fr_o := B_o.fro
  replace z_o := B_o.lt
  replace q_p_0 := B_p.cell 0 _ rfl
  replace q_p_1 := B_p.cell 1 _ rfl
  replace fr_p := B_p.fro
  replace z_p := B_p.lt
  have hhi := fun (W : World) (hW : Below w10.heap.size w10 W) => handleIn_impl W K_n x (grantH x.Heap p c) s (rdHeap_up o_n.Heap.rd' hW) gf1 f1 f3
  go_region_with (first | (go_at_call 54; (first | ((with_reducible refine (hhi _ (Below.refl _ _)).mono ?_); rintro e wq ⟨rfl, hb⟩; replace B_a := B_a.below hb; replace B_r := B_r.below hb; replace B_o := B_o.below hb; replace B_p := B_p.below hb; replace o_c := o_c.step0 hb; replace o_u := o_u.step0 hb; replace o_t := o_t.step0 hb; replace o_n := o_n.step0 hb; replace hB := hB.trans (hb.mono hB.size); have sz := hb.size; clear hb; replace q_a_0 := B_a.cell 0 _ rfl; replace q_a_1 := B_a.cell 1 _ rfl; replace q_a_2 := B_a.cell 2 _ rfl; replace q_a_3 := B_a.cell 3 _ rfl; replace fr_a := B_a.fro; replace z_a := B_a.lt; replace q_r_0 := B_r.cell 0 _ rfl; replace q_r_1 := B_r.cell 1 _ rfl; replace q_r_2 := B_r.cell 2 _ rfl; replace q_r_3 := B_r.cell 3 _ rfl; replace fr_r := B_r.fro; replace z_r := B_r.lt; replace q_o_0 := B_o.cell 0 _ rfl; replace q_o_1 := B_o.cell 1 _ rfl; replace q_o_2 := B_o.cell 2 _ rfl; replace q_o_3 := B_o.cell 3 _ rfl; replace fr_o := B_o.fro; replace z_o := B_o.lt; replace q_p_0 := B_p.cell 0 _ rfl; replace q_p_1 := B_p.cell 1 _ rfl; replace fr_p := B_p.fro; replace z_p := B_p.lt) | ((with_reducible refine (hhi _ (Below.refl _ _).drew).mono ?_); rintro e wq ⟨rfl, hb⟩; replace hb := undrew hb; replace B_a := B_a.below hb; replace B_r := B_r.below hb; replace B_o := B_o.below hb; replace B_p := B_p.below hb; replace o_c := o_c.step0 hb; replace o_u := o_u.step0 hb; replace o_t := o_t.step0 hb; replace o_n := o_n.step0 hb; replace hB := hB.trans (hb.mono hB.size); have sz := hb.size; clear hb; replace q_a_0 := B_a.cell 0 _ rfl; replace q_a_1 := B_a.cell 1 _ rfl; replace q_a_2 := B_a.cell 2 _ rfl; replace q_a_3 := B_a.cell 3 _ rfl; replace fr_a := B_a.fro; replace z_a := B_a.lt; replace q_r_0 := B_r.cell 0 _ rfl; replace q_r_1 := B_r.cell 1 _ rfl; replace q_r_2 := B_r.cell 2 _ rfl; replace q_r_3 := B_r.cell 3 _ rfl; replace fr_r := B_r.fro; replace z_r := B_r.lt; replace q_o_0 := B_o.cell 0 _ rfl; replace q_o_1 := B_o.cell 1 _ rfl; replace q_o_2 := B_o.cell 2 _ rfl; replace q_o_3 := B_o.cell 3 _ rfl; replace fr_o := B_o.fro; replace z_o := B_o.lt; replace q_p_0 := B_p.cell 0 _ rfl; replace q_p_1 := B_p.cell 1 _ rfl; replace fr_p := B_p.fro; replace z_p := B_p.lt))))
  all_goals
    go_wp2_with fail
    refine bodyPost_ret (v := .tuple #[.agg #[.slice K_n.Heap.Bytes.a K_n.Heap.Bytes.len K_n.Heap.Bytes.cap, .slice K_n.Heap.Class.a K_n.Heap.Class.len K_n.Heap.Class.cap, .slice K_n.Lists.Global.a K_n.Lists.Global.len K_n.Lists.Global.cap, .slice K_n.Lists.Own.a K_n.Lists.Own.len K_n.Lists.Own.cap], .int .i64 (genInB (grantH x.Heap p c) s * 32 + s), .int .i64 0]) (by simp [results, Tryz.results16, go_sem, q_r_0, q_r_1, q_r_2, q_r_3]) rfl ⟨K_n, rfl, o_n.chg (F := [w.heap.size + 1]) (by repeat (first | with_reducible exact Chg.refl _ _ | with_reducible refine Chg.set_ ?_ (by simp) _ | with_reducible refine Chg.alloc_ ?_ _ | with_reducible refine Chg.drew_ ?_)) (fun g hg hm => by simp only [List.mem_cons, List.not_mem_nil, or_false] at hm; have := l_n g hg; have := u_n g hg; omega), fun g hg => by have := l_n g hg; omega, Below.trans hB (by repeat (first | with_reducible exact Below.refl _ _ | with_reducible refine Below.setCell ?_ (by simp <;> omega) _ | with_reducible refine Below.alloc ?_ (by simp <;> omega) _ | with_reducible refine Below.drew ?_))⟩
end Go.Proofs.YtpjijbonpjoamaaGreat

/-
  AllocNow that refuses, the reference: the contracts.
-/
namespace Go.Proofs.YtpjijbonpjoamaaGreat
open Go.RowKit

set_option maxRecDepth 100000 in
set_option maxHeartbeats 4000000 in
theorem AllocNow_spec_a (w : World) (H : HMem) (x : Mem) (wk n : Int) (h : RdMem w w.heap.size H x) (hs : sizeMem x ≤ 536870912) (c1 : memOkB x = false) :
    Calls Tryz.prog 15 #[.agg #[.slice H.Heap.Bytes.a H.Heap.Bytes.len H.Heap.Bytes.cap, .slice H.Heap.Class.a H.Heap.Class.len H.Heap.Class.cap, .slice H.Lists.Global.a H.Lists.Global.len H.Lists.Global.cap, .slice H.Lists.Own.a H.Lists.Own.len H.Lists.Own.cap], .int .i64 wk, .int .i64 n] w fun e w' => ∃ H' : HMem, e = .returned (.tuple #[.agg #[.slice H'.Heap.Bytes.a H'.Heap.Bytes.len H'.Heap.Bytes.cap, .slice H'.Heap.Class.a H'.Heap.Class.len H'.Heap.Class.cap, .slice H'.Lists.Global.a H'.Lists.Global.len H'.Lists.Global.cap, .slice H'.Lists.Own.a H'.Lists.Own.len H'.Lists.Own.cap], .int .i64 0, .int .i64 1]) ∧ OwMem w' H' x ∧ (∀ g ∈ H'.foot, w.heap.size ≤ g) ∧ Below w.heap.size w w' := by
  have hcp := fun (W : World) (hW : Below w.heap.size w W) => l9Copy_spec W H x (rdMem_up h hW) hs
  have hmo := fun (W : World) (hW : Below w.heap.size w W) => MemOk_spec W H x (rdMem_up h hW) (by unfold sizeMem sizeLists at hs; omega) (by unfold sizeMem sizeLists at hs; omega)
  rw [c1] at hmo
  have hco := fun W => ClassOf_spec n W
  generalize classOfS n = k at hco
  have B_a : Box ((w.alloc (.cells #[.slice H.Heap.Bytes.a H.Heap.Bytes.len H.Heap.Bytes.cap, .slice H.Heap.Class.a H.Heap.Class.len H.Heap.Class.cap, .slice H.Lists.Global.a H.Lists.Global.len H.Lists.Global.cap, .slice H.Lists.Own.a H.Lists.Own.len H.Lists.Own.cap] 36)).alloc (.cells #[.slice none 0 0, .slice none 0 0, .slice none 0 0, .slice none 0 0] 36)) (w.heap.size) [.slice H.Heap.Bytes.a H.Heap.Bytes.len H.Heap.Bytes.cap, .slice H.Heap.Class.a H.Heap.Class.len H.Heap.Class.cap, .slice H.Lists.Global.a H.Lists.Global.len H.Lists.Global.cap, .slice H.Lists.Own.a H.Lists.Own.len H.Lists.Own.cap] := by
    have hbx := Box.new w #[.slice H.Heap.Bytes.a H.Heap.Bytes.len H.Heap.Bytes.cap, .slice H.Heap.Class.a H.Heap.Class.len H.Heap.Class.cap, .slice H.Lists.Global.a H.Lists.Global.len H.Lists.Global.cap, .slice H.Lists.Own.a H.Lists.Own.len H.Lists.Own.cap] 36
    exact (hbx).alloc _
  have B_r : Box ((w.alloc (.cells #[.slice H.Heap.Bytes.a H.Heap.Bytes.len H.Heap.Bytes.cap, .slice H.Heap.Class.a H.Heap.Class.len H.Heap.Class.cap, .slice H.Lists.Global.a H.Lists.Global.len H.Lists.Global.cap, .slice H.Lists.Own.a H.Lists.Own.len H.Lists.Own.cap] 36)).alloc (.cells #[.slice none 0 0, .slice none 0 0, .slice none 0 0, .slice none 0 0] 36)) (w.heap.size + 1) [.slice none 0 0, .slice none 0 0, .slice none 0 0, .slice none 0 0] := by
    have hbx := Box.new (w.alloc (.cells #[.slice H.Heap.Bytes.a H.Heap.Bytes.len H.Heap.Bytes.cap, .slice H.Heap.Class.a H.Heap.Class.len H.Heap.Class.cap, .slice H.Lists.Global.a H.Lists.Global.len H.Lists.Global.cap, .slice H.Lists.Own.a H.Lists.Own.len H.Lists.Own.cap] 36)) #[.slice none 0 0, .slice none 0 0, .slice none 0 0, .slice none 0 0] 36
    simp only [World.size_alloc] at hbx
    exact hbx
  have hB : Below w.heap.size w ((w.alloc (.cells #[.slice H.Heap.Bytes.a H.Heap.Bytes.len H.Heap.Bytes.cap, .slice H.Heap.Class.a H.Heap.Class.len H.Heap.Class.cap, .slice H.Lists.Global.a H.Lists.Global.len H.Lists.Global.cap, .slice H.Lists.Own.a H.Lists.Own.len H.Lists.Own.cap] 36)).alloc (.cells #[.slice none 0 0, .slice none 0 0, .slice none 0 0, .slice none 0 0] 36)) := by repeat (first | exact Below.refl _ _ | refine Below.alloc ?_ (by simp <;> omega) _ | refine below_grow_of ?_ (by simp <;> omega) _ _ | refine Below.drew ?_ | refine below_drewN ?_ _)
  go_enter Tryz.func15, Tryz.ntmps15
  go_wp2_with fail
  generalize hW0 : ((w.alloc (.cells #[.slice H.Heap.Bytes.a H.Heap.Bytes.len H.Heap.Bytes.cap, .slice H.Heap.Class.a H.Heap.Class.len H.Heap.Class.cap, .slice H.Lists.Global.a H.Lists.Global.len H.Lists.Global.cap, .slice H.Lists.Own.a H.Lists.Own.len H.Lists.Own.cap] 36)).alloc (.cells #[.slice none 0 0, .slice none 0 0, .slice none 0 0, .slice none 0 0] 36)) = w0 at B_a B_r hB ⊢
  clear hW0
  have zz_a := B_a.lt
  have zz_r := B_r.lt
  have q_a_0 := B_a.cell 0 _ rfl
  have q_a_1 := B_a.cell 1 _ rfl
  have q_a_2 := B_a.cell 2 _ rfl
  have q_a_3 := B_a.cell 3 _ rfl
  have fr_a := B_a.fro
  have z_a := B_a.lt
  have q_r_0 := B_r.cell 0 _ rfl
  have q_r_1 := B_r.cell 1 _ rfl
  have q_r_2 := B_r.cell 2 _ rfl
  have q_r_3 := B_r.cell 3 _ rfl
  have fr_r := B_r.fro
  have z_r := B_r.lt
  refine (hcp _ hB).mono ?_
  rintro e w1 ⟨K_c, rfl, o_c, l_c, hb⟩
  have u_c := o_c.lt
  replace B_a := B_a.below hb
  replace B_r := B_r.below hb
  replace hB := hB.trans (hb.mono hB.size)
  have sz := hb.size
  clear hb
  replace q_a_0 := B_a.cell 0 _ rfl
  replace q_a_1 := B_a.cell 1 _ rfl
  replace q_a_2 := B_a.cell 2 _ rfl
  replace q_a_3 := B_a.cell 3 _ rfl
  replace fr_a := B_a.fro
  replace z_a := B_a.lt
  replace q_r_0 := B_r.cell 0 _ rfl
  replace q_r_1 := B_r.cell 1 _ rfl
  replace q_r_2 := B_r.cell 2 _ rfl
  replace q_r_3 := B_r.cell 3 _ rfl
  replace fr_r := B_r.fro
  replace z_r := B_r.lt
  clear hcp
  go_wp2_with (go_at_call 45; refine (hco _).mono ?_; rintro e wv ⟨rfl, rfl⟩)
  replace B_a := B_a.alloc (.cells #[.slice K_c.Heap.Bytes.a K_c.Heap.Bytes.len K_c.Heap.Bytes.cap, .slice K_c.Heap.Class.a K_c.Heap.Class.len K_c.Heap.Class.cap, .slice K_c.Lists.Global.a K_c.Lists.Global.len K_c.Lists.Global.cap, .slice K_c.Lists.Own.a K_c.Lists.Own.len K_c.Lists.Own.cap] 36)
  replace B_r := B_r.alloc (.cells #[.slice K_c.Heap.Bytes.a K_c.Heap.Bytes.len K_c.Heap.Bytes.cap, .slice K_c.Heap.Class.a K_c.Heap.Class.len K_c.Heap.Class.cap, .slice K_c.Lists.Global.a K_c.Lists.Global.len K_c.Lists.Global.cap, .slice K_c.Lists.Own.a K_c.Lists.Own.len K_c.Lists.Own.cap] 36)
  replace o_c := o_c.alloc_ (.cells #[.slice K_c.Heap.Bytes.a K_c.Heap.Bytes.len K_c.Heap.Bytes.cap, .slice K_c.Heap.Class.a K_c.Heap.Class.len K_c.Heap.Class.cap, .slice K_c.Lists.Global.a K_c.Lists.Global.len K_c.Lists.Global.cap, .slice K_c.Lists.Own.a K_c.Lists.Own.len K_c.Lists.Own.cap] 36)
  replace hB := hB.alloc hB.size (.cells #[.slice K_c.Heap.Bytes.a K_c.Heap.Bytes.len K_c.Heap.Bytes.cap, .slice K_c.Heap.Class.a K_c.Heap.Class.len K_c.Heap.Class.cap, .slice K_c.Lists.Global.a K_c.Lists.Global.len K_c.Lists.Global.cap, .slice K_c.Lists.Own.a K_c.Lists.Own.len K_c.Lists.Own.cap] 36)
  have B_o : Box (w1.alloc (.cells #[.slice K_c.Heap.Bytes.a K_c.Heap.Bytes.len K_c.Heap.Bytes.cap, .slice K_c.Heap.Class.a K_c.Heap.Class.len K_c.Heap.Class.cap, .slice K_c.Lists.Global.a K_c.Lists.Global.len K_c.Lists.Global.cap, .slice K_c.Lists.Own.a K_c.Lists.Own.len K_c.Lists.Own.cap] 36)) w1.heap.size [.slice K_c.Heap.Bytes.a K_c.Heap.Bytes.len K_c.Heap.Bytes.cap, .slice K_c.Heap.Class.a K_c.Heap.Class.len K_c.Heap.Class.cap, .slice K_c.Lists.Global.a K_c.Lists.Global.len K_c.Lists.Global.cap, .slice K_c.Lists.Own.a K_c.Lists.Own.len K_c.Lists.Own.cap] := Box.new w1 #[.slice K_c.Heap.Bytes.a K_c.Heap.Bytes.len K_c.Heap.Bytes.cap, .slice K_c.Heap.Class.a K_c.Heap.Class.len K_c.Heap.Class.cap, .slice K_c.Lists.Global.a K_c.Lists.Global.len K_c.Lists.Global.cap, .slice K_c.Lists.Own.a K_c.Lists.Own.len K_c.Lists.Own.cap] 36
  have zz_o := B_o.lt
  have sz : w1.heap.size ≤ (w1.alloc (.cells #[.slice K_c.Heap.Bytes.a K_c.Heap.Bytes.len K_c.Heap.Bytes.cap, .slice K_c.Heap.Class.a K_c.Heap.Class.len K_c.Heap.Class.cap, .slice K_c.Lists.Global.a K_c.Lists.Global.len K_c.Lists.Global.cap, .slice K_c.Lists.Own.a K_c.Lists.Own.len K_c.Lists.Own.cap] 36)).heap.size := Nat.le_of_lt B_o.lt
  generalize hG : (w1.alloc (.cells #[.slice K_c.Heap.Bytes.a K_c.Heap.Bytes.len K_c.Heap.Bytes.cap, .slice K_c.Heap.Class.a K_c.Heap.Class.len K_c.Heap.Class.cap, .slice K_c.Lists.Global.a K_c.Lists.Global.len K_c.Lists.Global.cap, .slice K_c.Lists.Own.a K_c.Lists.Own.len K_c.Lists.Own.cap] 36)) = w2 at B_a B_r o_c hB B_o zz_o sz ⊢
  clear hG
  replace q_a_0 := B_a.cell 0 _ rfl
  replace q_a_1 := B_a.cell 1 _ rfl
  replace q_a_2 := B_a.cell 2 _ rfl
  replace q_a_3 := B_a.cell 3 _ rfl
  replace fr_a := B_a.fro
  replace z_a := B_a.lt
  replace q_r_0 := B_r.cell 0 _ rfl
  replace q_r_1 := B_r.cell 1 _ rfl
  replace q_r_2 := B_r.cell 2 _ rfl
  replace q_r_3 := B_r.cell 3 _ rfl
  replace fr_r := B_r.fro
  replace z_r := B_r.lt
  have q_o_0 := B_o.cell 0 _ rfl
  have q_o_1 := B_o.cell 1 _ rfl
  have q_o_2 := B_o.cell 2 _ rfl
  have q_o_3 := B_o.cell 3 _ rfl
  have fr_o := B_o.fro
  have z_o := B_o.lt
  refine (hmo _ hB).mono ?_
  rintro e w3 ⟨rfl, hb⟩
  replace B_a := B_a.below hb
  replace B_r := B_r.below hb
  replace B_o := B_o.below hb
  have o_c := o_c.step0 hb
  replace hB := hB.trans (hb.mono hB.size)
  have sz := hb.size
  clear hb
  replace q_a_0 := B_a.cell 0 _ rfl
  replace q_a_1 := B_a.cell 1 _ rfl
  replace q_a_2 := B_a.cell 2 _ rfl
  replace q_a_3 := B_a.cell 3 _ rfl
  replace fr_a := B_a.fro
  replace z_a := B_a.lt
  replace q_r_0 := B_r.cell 0 _ rfl
  replace q_r_1 := B_r.cell 1 _ rfl
  replace q_r_2 := B_r.cell 2 _ rfl
  replace q_r_3 := B_r.cell 3 _ rfl
  replace fr_r := B_r.fro
  replace z_r := B_r.lt
  replace q_o_0 := B_o.cell 0 _ rfl
  replace q_o_1 := B_o.cell 1 _ rfl
  replace q_o_2 := B_o.cell 2 _ rfl
  replace q_o_3 := B_o.cell 3 _ rfl
  replace fr_o := B_o.fro
  replace z_o := B_o.lt
  clear hmo
  go_wp2_with fail
  refine bodyPost_ret (v := .tuple #[.agg #[.slice K_c.Heap.Bytes.a K_c.Heap.Bytes.len K_c.Heap.Bytes.cap, .slice K_c.Heap.Class.a K_c.Heap.Class.len K_c.Heap.Class.cap, .slice K_c.Lists.Global.a K_c.Lists.Global.len K_c.Lists.Global.cap, .slice K_c.Lists.Own.a K_c.Lists.Own.len K_c.Lists.Own.cap], .int .i64 0, .int .i64 1]) (by simp [results, Tryz.results15, go_sem, q_r_0, q_r_1, q_r_2, q_r_3]) rfl ⟨K_c, rfl, o_c.chg (F := [w.heap.size + 1]) (by repeat (first | with_reducible exact Chg.refl _ _ | with_reducible refine Chg.set_ ?_ (by simp) _ | with_reducible refine Chg.alloc_ ?_ _ | with_reducible refine Chg.drew_ ?_)) (fun g hg hm => by simp only [List.mem_cons, List.not_mem_nil, or_false] at hm; have := l_c g hg; have := u_c g hg; omega), fun g hg => by have := l_c g hg; omega, Below.trans hB (by repeat (first | with_reducible exact Below.refl _ _ | with_reducible refine Below.setCell ?_ (by simp <;> omega) _ | with_reducible refine Below.alloc ?_ (by simp <;> omega) _ | with_reducible refine Below.drew ?_))⟩

set_option maxRecDepth 100000 in
set_option maxHeartbeats 4000000 in
theorem AllocNow_spec_b (w : World) (H : HMem) (x : Mem) (wk n : Int) (h : RdMem w w.heap.size H x) (hs : sizeMem x ≤ 536870912) (c1 : memOkB x = true) (c2 : inB 0 2 wk = false) :
    Calls Tryz.prog 15 #[.agg #[.slice H.Heap.Bytes.a H.Heap.Bytes.len H.Heap.Bytes.cap, .slice H.Heap.Class.a H.Heap.Class.len H.Heap.Class.cap, .slice H.Lists.Global.a H.Lists.Global.len H.Lists.Global.cap, .slice H.Lists.Own.a H.Lists.Own.len H.Lists.Own.cap], .int .i64 wk, .int .i64 n] w fun e w' => ∃ H' : HMem, e = .returned (.tuple #[.agg #[.slice H'.Heap.Bytes.a H'.Heap.Bytes.len H'.Heap.Bytes.cap, .slice H'.Heap.Class.a H'.Heap.Class.len H'.Heap.Class.cap, .slice H'.Lists.Global.a H'.Lists.Global.len H'.Lists.Global.cap, .slice H'.Lists.Own.a H'.Lists.Own.len H'.Lists.Own.cap], .int .i64 0, .int .i64 1]) ∧ OwMem w' H' x ∧ (∀ g ∈ H'.foot, w.heap.size ≤ g) ∧ Below w.heap.size w w' := by
  have hcp := fun (W : World) (hW : Below w.heap.size w W) => l9Copy_spec W H x (rdMem_up h hW) hs
  have hmo := fun (W : World) (hW : Below w.heap.size w W) => MemOk_spec W H x (rdMem_up h hW) (by unfold sizeMem sizeLists at hs; omega) (by unfold sizeMem sizeLists at hs; omega)
  rw [c1] at hmo
  have hco := fun W => ClassOf_spec n W
  generalize classOfS n = k at hco
  have B_a : Box ((w.alloc (.cells #[.slice H.Heap.Bytes.a H.Heap.Bytes.len H.Heap.Bytes.cap, .slice H.Heap.Class.a H.Heap.Class.len H.Heap.Class.cap, .slice H.Lists.Global.a H.Lists.Global.len H.Lists.Global.cap, .slice H.Lists.Own.a H.Lists.Own.len H.Lists.Own.cap] 36)).alloc (.cells #[.slice none 0 0, .slice none 0 0, .slice none 0 0, .slice none 0 0] 36)) (w.heap.size) [.slice H.Heap.Bytes.a H.Heap.Bytes.len H.Heap.Bytes.cap, .slice H.Heap.Class.a H.Heap.Class.len H.Heap.Class.cap, .slice H.Lists.Global.a H.Lists.Global.len H.Lists.Global.cap, .slice H.Lists.Own.a H.Lists.Own.len H.Lists.Own.cap] := by
    have hbx := Box.new w #[.slice H.Heap.Bytes.a H.Heap.Bytes.len H.Heap.Bytes.cap, .slice H.Heap.Class.a H.Heap.Class.len H.Heap.Class.cap, .slice H.Lists.Global.a H.Lists.Global.len H.Lists.Global.cap, .slice H.Lists.Own.a H.Lists.Own.len H.Lists.Own.cap] 36
    exact (hbx).alloc _
  have B_r : Box ((w.alloc (.cells #[.slice H.Heap.Bytes.a H.Heap.Bytes.len H.Heap.Bytes.cap, .slice H.Heap.Class.a H.Heap.Class.len H.Heap.Class.cap, .slice H.Lists.Global.a H.Lists.Global.len H.Lists.Global.cap, .slice H.Lists.Own.a H.Lists.Own.len H.Lists.Own.cap] 36)).alloc (.cells #[.slice none 0 0, .slice none 0 0, .slice none 0 0, .slice none 0 0] 36)) (w.heap.size + 1) [.slice none 0 0, .slice none 0 0, .slice none 0 0, .slice none 0 0] := by
    have hbx := Box.new (w.alloc (.cells #[.slice H.Heap.Bytes.a H.Heap.Bytes.len H.Heap.Bytes.cap, .slice H.Heap.Class.a H.Heap.Class.len H.Heap.Class.cap, .slice H.Lists.Global.a H.Lists.Global.len H.Lists.Global.cap, .slice H.Lists.Own.a H.Lists.Own.len H.Lists.Own.cap] 36)) #[.slice none 0 0, .slice none 0 0, .slice none 0 0, .slice none 0 0] 36
    simp only [World.size_alloc] at hbx
    exact hbx
  have hB : Below w.heap.size w ((w.alloc (.cells #[.slice H.Heap.Bytes.a H.Heap.Bytes.len H.Heap.Bytes.cap, .slice H.Heap.Class.a H.Heap.Class.len H.Heap.Class.cap, .slice H.Lists.Global.a H.Lists.Global.len H.Lists.Global.cap, .slice H.Lists.Own.a H.Lists.Own.len H.Lists.Own.cap] 36)).alloc (.cells #[.slice none 0 0, .slice none 0 0, .slice none 0 0, .slice none 0 0] 36)) := by repeat (first | exact Below.refl _ _ | refine Below.alloc ?_ (by simp <;> omega) _ | refine below_grow_of ?_ (by simp <;> omega) _ _ | refine Below.drew ?_ | refine below_drewN ?_ _)
  go_enter Tryz.func15, Tryz.ntmps15
  go_wp2_with fail
  generalize hW0 : ((w.alloc (.cells #[.slice H.Heap.Bytes.a H.Heap.Bytes.len H.Heap.Bytes.cap, .slice H.Heap.Class.a H.Heap.Class.len H.Heap.Class.cap, .slice H.Lists.Global.a H.Lists.Global.len H.Lists.Global.cap, .slice H.Lists.Own.a H.Lists.Own.len H.Lists.Own.cap] 36)).alloc (.cells #[.slice none 0 0, .slice none 0 0, .slice none 0 0, .slice none 0 0] 36)) = w0 at B_a B_r hB ⊢
  clear hW0
  have zz_a := B_a.lt
  have zz_r := B_r.lt
  have q_a_0 := B_a.cell 0 _ rfl
  have q_a_1 := B_a.cell 1 _ rfl
  have q_a_2 := B_a.cell 2 _ rfl
  have q_a_3 := B_a.cell 3 _ rfl
  have fr_a := B_a.fro
  have z_a := B_a.lt
  have q_r_0 := B_r.cell 0 _ rfl
  have q_r_1 := B_r.cell 1 _ rfl
  have q_r_2 := B_r.cell 2 _ rfl
  have q_r_3 := B_r.cell 3 _ rfl
  have fr_r := B_r.fro
  have z_r := B_r.lt
  refine (hcp _ hB).mono ?_
  rintro e w1 ⟨K_c, rfl, o_c, l_c, hb⟩
  have u_c := o_c.lt
  replace B_a := B_a.below hb
  replace B_r := B_r.below hb
  replace hB := hB.trans (hb.mono hB.size)
  have sz := hb.size
  clear hb
  replace q_a_0 := B_a.cell 0 _ rfl
  replace q_a_1 := B_a.cell 1 _ rfl
  replace q_a_2 := B_a.cell 2 _ rfl
  replace q_a_3 := B_a.cell 3 _ rfl
  replace fr_a := B_a.fro
  replace z_a := B_a.lt
  replace q_r_0 := B_r.cell 0 _ rfl
  replace q_r_1 := B_r.cell 1 _ rfl
  replace q_r_2 := B_r.cell 2 _ rfl
  replace q_r_3 := B_r.cell 3 _ rfl
  replace fr_r := B_r.fro
  replace z_r := B_r.lt
  clear hcp
  go_wp2_with (go_at_call 45; refine (hco _).mono ?_; rintro e wv ⟨rfl, rfl⟩)
  replace B_a := B_a.alloc (.cells #[.slice K_c.Heap.Bytes.a K_c.Heap.Bytes.len K_c.Heap.Bytes.cap, .slice K_c.Heap.Class.a K_c.Heap.Class.len K_c.Heap.Class.cap, .slice K_c.Lists.Global.a K_c.Lists.Global.len K_c.Lists.Global.cap, .slice K_c.Lists.Own.a K_c.Lists.Own.len K_c.Lists.Own.cap] 36)
  replace B_r := B_r.alloc (.cells #[.slice K_c.Heap.Bytes.a K_c.Heap.Bytes.len K_c.Heap.Bytes.cap, .slice K_c.Heap.Class.a K_c.Heap.Class.len K_c.Heap.Class.cap, .slice K_c.Lists.Global.a K_c.Lists.Global.len K_c.Lists.Global.cap, .slice K_c.Lists.Own.a K_c.Lists.Own.len K_c.Lists.Own.cap] 36)
  replace o_c := o_c.alloc_ (.cells #[.slice K_c.Heap.Bytes.a K_c.Heap.Bytes.len K_c.Heap.Bytes.cap, .slice K_c.Heap.Class.a K_c.Heap.Class.len K_c.Heap.Class.cap, .slice K_c.Lists.Global.a K_c.Lists.Global.len K_c.Lists.Global.cap, .slice K_c.Lists.Own.a K_c.Lists.Own.len K_c.Lists.Own.cap] 36)
  replace hB := hB.alloc hB.size (.cells #[.slice K_c.Heap.Bytes.a K_c.Heap.Bytes.len K_c.Heap.Bytes.cap, .slice K_c.Heap.Class.a K_c.Heap.Class.len K_c.Heap.Class.cap, .slice K_c.Lists.Global.a K_c.Lists.Global.len K_c.Lists.Global.cap, .slice K_c.Lists.Own.a K_c.Lists.Own.len K_c.Lists.Own.cap] 36)
  have B_o : Box (w1.alloc (.cells #[.slice K_c.Heap.Bytes.a K_c.Heap.Bytes.len K_c.Heap.Bytes.cap, .slice K_c.Heap.Class.a K_c.Heap.Class.len K_c.Heap.Class.cap, .slice K_c.Lists.Global.a K_c.Lists.Global.len K_c.Lists.Global.cap, .slice K_c.Lists.Own.a K_c.Lists.Own.len K_c.Lists.Own.cap] 36)) w1.heap.size [.slice K_c.Heap.Bytes.a K_c.Heap.Bytes.len K_c.Heap.Bytes.cap, .slice K_c.Heap.Class.a K_c.Heap.Class.len K_c.Heap.Class.cap, .slice K_c.Lists.Global.a K_c.Lists.Global.len K_c.Lists.Global.cap, .slice K_c.Lists.Own.a K_c.Lists.Own.len K_c.Lists.Own.cap] := Box.new w1 #[.slice K_c.Heap.Bytes.a K_c.Heap.Bytes.len K_c.Heap.Bytes.cap, .slice K_c.Heap.Class.a K_c.Heap.Class.len K_c.Heap.Class.cap, .slice K_c.Lists.Global.a K_c.Lists.Global.len K_c.Lists.Global.cap, .slice K_c.Lists.Own.a K_c.Lists.Own.len K_c.Lists.Own.cap] 36
  have zz_o := B_o.lt
  have sz : w1.heap.size ≤ (w1.alloc (.cells #[.slice K_c.Heap.Bytes.a K_c.Heap.Bytes.len K_c.Heap.Bytes.cap, .slice K_c.Heap.Class.a K_c.Heap.Class.len K_c.Heap.Class.cap, .slice K_c.Lists.Global.a K_c.Lists.Global.len K_c.Lists.Global.cap, .slice K_c.Lists.Own.a K_c.Lists.Own.len K_c.Lists.Own.cap] 36)).heap.size := Nat.le_of_lt B_o.lt
  generalize hG : (w1.alloc (.cells #[.slice K_c.Heap.Bytes.a K_c.Heap.Bytes.len K_c.Heap.Bytes.cap, .slice K_c.Heap.Class.a K_c.Heap.Class.len K_c.Heap.Class.cap, .slice K_c.Lists.Global.a K_c.Lists.Global.len K_c.Lists.Global.cap, .slice K_c.Lists.Own.a K_c.Lists.Own.len K_c.Lists.Own.cap] 36)) = w2 at B_a B_r o_c hB B_o zz_o sz ⊢
  clear hG
  replace q_a_0 := B_a.cell 0 _ rfl
  replace q_a_1 := B_a.cell 1 _ rfl
  replace q_a_2 := B_a.cell 2 _ rfl
  replace q_a_3 := B_a.cell 3 _ rfl
  replace fr_a := B_a.fro
  replace z_a := B_a.lt
  replace q_r_0 := B_r.cell 0 _ rfl
  replace q_r_1 := B_r.cell 1 _ rfl
  replace q_r_2 := B_r.cell 2 _ rfl
  replace q_r_3 := B_r.cell 3 _ rfl
  replace fr_r := B_r.fro
  replace z_r := B_r.lt
  have q_o_0 := B_o.cell 0 _ rfl
  have q_o_1 := B_o.cell 1 _ rfl
  have q_o_2 := B_o.cell 2 _ rfl
  have q_o_3 := B_o.cell 3 _ rfl
  have fr_o := B_o.fro
  have z_o := B_o.lt
  refine (hmo _ hB).mono ?_
  rintro e w3 ⟨rfl, hb⟩
  replace B_a := B_a.below hb
  replace B_r := B_r.below hb
  replace B_o := B_o.below hb
  have o_c := o_c.step0 hb
  replace hB := hB.trans (hb.mono hB.size)
  have sz := hb.size
  clear hb
  replace q_a_0 := B_a.cell 0 _ rfl
  replace q_a_1 := B_a.cell 1 _ rfl
  replace q_a_2 := B_a.cell 2 _ rfl
  replace q_a_3 := B_a.cell 3 _ rfl
  replace fr_a := B_a.fro
  replace z_a := B_a.lt
  replace q_r_0 := B_r.cell 0 _ rfl
  replace q_r_1 := B_r.cell 1 _ rfl
  replace q_r_2 := B_r.cell 2 _ rfl
  replace q_r_3 := B_r.cell 3 _ rfl
  replace fr_r := B_r.fro
  replace z_r := B_r.lt
  replace q_o_0 := B_o.cell 0 _ rfl
  replace q_o_1 := B_o.cell 1 _ rfl
  replace q_o_2 := B_o.cell 2 _ rfl
  replace q_o_3 := B_o.cell 3 _ rfl
  replace fr_o := B_o.fro
  replace z_o := B_o.lt
  clear hmo
  go_wp2_with (go_at_call 21; refine (l1In_ct _ _ _ _).mono ?_; rw [c2]; rintro e wv ⟨rfl, rfl⟩)
  refine bodyPost_ret (v := .tuple #[.agg #[.slice K_c.Heap.Bytes.a K_c.Heap.Bytes.len K_c.Heap.Bytes.cap, .slice K_c.Heap.Class.a K_c.Heap.Class.len K_c.Heap.Class.cap, .slice K_c.Lists.Global.a K_c.Lists.Global.len K_c.Lists.Global.cap, .slice K_c.Lists.Own.a K_c.Lists.Own.len K_c.Lists.Own.cap], .int .i64 0, .int .i64 1]) (by simp [results, Tryz.results15, go_sem, q_r_0, q_r_1, q_r_2, q_r_3]) rfl ⟨K_c, rfl, o_c.chg (F := [w.heap.size + 1]) (by repeat (first | with_reducible exact Chg.refl _ _ | with_reducible refine Chg.set_ ?_ (by simp) _ | with_reducible refine Chg.alloc_ ?_ _ | with_reducible refine Chg.drew_ ?_)) (fun g hg hm => by simp only [List.mem_cons, List.not_mem_nil, or_false] at hm; have := l_c g hg; have := u_c g hg; omega), fun g hg => by have := l_c g hg; omega, Below.trans hB (by repeat (first | with_reducible exact Below.refl _ _ | with_reducible refine Below.setCell ?_ (by simp <;> omega) _ | with_reducible refine Below.alloc ?_ (by simp <;> omega) _ | with_reducible refine Below.drew ?_))⟩

set_option maxRecDepth 100000 in
set_option maxHeartbeats 4000000 in
theorem AllocNow_spec_c (w : World) (H : HMem) (x : Mem) (wk n : Int) (h : RdMem w w.heap.size H x) (hs : sizeMem x ≤ 536870912) (c1 : memOkB x = true) (c2 : inB 0 2 wk = true) (c3 : classOfS n < 0) :
    Calls Tryz.prog 15 #[.agg #[.slice H.Heap.Bytes.a H.Heap.Bytes.len H.Heap.Bytes.cap, .slice H.Heap.Class.a H.Heap.Class.len H.Heap.Class.cap, .slice H.Lists.Global.a H.Lists.Global.len H.Lists.Global.cap, .slice H.Lists.Own.a H.Lists.Own.len H.Lists.Own.cap], .int .i64 wk, .int .i64 n] w fun e w' => ∃ H' : HMem, e = .returned (.tuple #[.agg #[.slice H'.Heap.Bytes.a H'.Heap.Bytes.len H'.Heap.Bytes.cap, .slice H'.Heap.Class.a H'.Heap.Class.len H'.Heap.Class.cap, .slice H'.Lists.Global.a H'.Lists.Global.len H'.Lists.Global.cap, .slice H'.Lists.Own.a H'.Lists.Own.len H'.Lists.Own.cap], .int .i64 0, .int .i64 2]) ∧ OwMem w' H' x ∧ (∀ g ∈ H'.foot, w.heap.size ≤ g) ∧ Below w.heap.size w w' := by
  have hcp := fun (W : World) (hW : Below w.heap.size w W) => l9Copy_spec W H x (rdMem_up h hW) hs
  have hmo := fun (W : World) (hW : Below w.heap.size w W) => MemOk_spec W H x (rdMem_up h hW) (by unfold sizeMem sizeLists at hs; omega) (by unfold sizeMem sizeLists at hs; omega)
  rw [c1] at hmo
  have hco := fun W => ClassOf_spec n W
  obtain ⟨k, hk⟩ : ∃ k, k = classOfS n := ⟨_, rfl⟩
  rw [← hk] at c3 hco
  clear hk
  have B_a : Box ((w.alloc (.cells #[.slice H.Heap.Bytes.a H.Heap.Bytes.len H.Heap.Bytes.cap, .slice H.Heap.Class.a H.Heap.Class.len H.Heap.Class.cap, .slice H.Lists.Global.a H.Lists.Global.len H.Lists.Global.cap, .slice H.Lists.Own.a H.Lists.Own.len H.Lists.Own.cap] 36)).alloc (.cells #[.slice none 0 0, .slice none 0 0, .slice none 0 0, .slice none 0 0] 36)) (w.heap.size) [.slice H.Heap.Bytes.a H.Heap.Bytes.len H.Heap.Bytes.cap, .slice H.Heap.Class.a H.Heap.Class.len H.Heap.Class.cap, .slice H.Lists.Global.a H.Lists.Global.len H.Lists.Global.cap, .slice H.Lists.Own.a H.Lists.Own.len H.Lists.Own.cap] := by
    have hbx := Box.new w #[.slice H.Heap.Bytes.a H.Heap.Bytes.len H.Heap.Bytes.cap, .slice H.Heap.Class.a H.Heap.Class.len H.Heap.Class.cap, .slice H.Lists.Global.a H.Lists.Global.len H.Lists.Global.cap, .slice H.Lists.Own.a H.Lists.Own.len H.Lists.Own.cap] 36
    exact (hbx).alloc _
  have B_r : Box ((w.alloc (.cells #[.slice H.Heap.Bytes.a H.Heap.Bytes.len H.Heap.Bytes.cap, .slice H.Heap.Class.a H.Heap.Class.len H.Heap.Class.cap, .slice H.Lists.Global.a H.Lists.Global.len H.Lists.Global.cap, .slice H.Lists.Own.a H.Lists.Own.len H.Lists.Own.cap] 36)).alloc (.cells #[.slice none 0 0, .slice none 0 0, .slice none 0 0, .slice none 0 0] 36)) (w.heap.size + 1) [.slice none 0 0, .slice none 0 0, .slice none 0 0, .slice none 0 0] := by
    have hbx := Box.new (w.alloc (.cells #[.slice H.Heap.Bytes.a H.Heap.Bytes.len H.Heap.Bytes.cap, .slice H.Heap.Class.a H.Heap.Class.len H.Heap.Class.cap, .slice H.Lists.Global.a H.Lists.Global.len H.Lists.Global.cap, .slice H.Lists.Own.a H.Lists.Own.len H.Lists.Own.cap] 36)) #[.slice none 0 0, .slice none 0 0, .slice none 0 0, .slice none 0 0] 36
    simp only [World.size_alloc] at hbx
    exact hbx
  have hB : Below w.heap.size w ((w.alloc (.cells #[.slice H.Heap.Bytes.a H.Heap.Bytes.len H.Heap.Bytes.cap, .slice H.Heap.Class.a H.Heap.Class.len H.Heap.Class.cap, .slice H.Lists.Global.a H.Lists.Global.len H.Lists.Global.cap, .slice H.Lists.Own.a H.Lists.Own.len H.Lists.Own.cap] 36)).alloc (.cells #[.slice none 0 0, .slice none 0 0, .slice none 0 0, .slice none 0 0] 36)) := by repeat (first | exact Below.refl _ _ | refine Below.alloc ?_ (by simp <;> omega) _ | refine below_grow_of ?_ (by simp <;> omega) _ _ | refine Below.drew ?_ | refine below_drewN ?_ _)
  go_enter Tryz.func15, Tryz.ntmps15
  go_wp2_with fail
  generalize hW0 : ((w.alloc (.cells #[.slice H.Heap.Bytes.a H.Heap.Bytes.len H.Heap.Bytes.cap, .slice H.Heap.Class.a H.Heap.Class.len H.Heap.Class.cap, .slice H.Lists.Global.a H.Lists.Global.len H.Lists.Global.cap, .slice H.Lists.Own.a H.Lists.Own.len H.Lists.Own.cap] 36)).alloc (.cells #[.slice none 0 0, .slice none 0 0, .slice none 0 0, .slice none 0 0] 36)) = w0 at B_a B_r hB ⊢
  clear hW0
  have zz_a := B_a.lt
  have zz_r := B_r.lt
  have q_a_0 := B_a.cell 0 _ rfl
  have q_a_1 := B_a.cell 1 _ rfl
  have q_a_2 := B_a.cell 2 _ rfl
  have q_a_3 := B_a.cell 3 _ rfl
  have fr_a := B_a.fro
  have z_a := B_a.lt
  have q_r_0 := B_r.cell 0 _ rfl
  have q_r_1 := B_r.cell 1 _ rfl
  have q_r_2 := B_r.cell 2 _ rfl
  have q_r_3 := B_r.cell 3 _ rfl
  have fr_r := B_r.fro
  have z_r := B_r.lt
  refine (hcp _ hB).mono ?_
  rintro e w1 ⟨K_c, rfl, o_c, l_c, hb⟩
  have u_c := o_c.lt
  replace B_a := B_a.below hb
  replace B_r := B_r.below hb
  replace hB := hB.trans (hb.mono hB.size)
  have sz := hb.size
  clear hb
  replace q_a_0 := B_a.cell 0 _ rfl
  replace q_a_1 := B_a.cell 1 _ rfl
  replace q_a_2 := B_a.cell 2 _ rfl
  replace q_a_3 := B_a.cell 3 _ rfl
  replace fr_a := B_a.fro
  replace z_a := B_a.lt
  replace q_r_0 := B_r.cell 0 _ rfl
  replace q_r_1 := B_r.cell 1 _ rfl
  replace q_r_2 := B_r.cell 2 _ rfl
  replace q_r_3 := B_r.cell 3 _ rfl
  replace fr_r := B_r.fro
  replace z_r := B_r.lt
  clear hcp
  go_wp2_with (go_at_call 45; refine (hco _).mono ?_; rintro e wv ⟨rfl, rfl⟩)
  replace B_a := B_a.alloc (.cells #[.slice K_c.Heap.Bytes.a K_c.Heap.Bytes.len K_c.Heap.Bytes.cap, .slice K_c.Heap.Class.a K_c.Heap.Class.len K_c.Heap.Class.cap, .slice K_c.Lists.Global.a K_c.Lists.Global.len K_c.Lists.Global.cap, .slice K_c.Lists.Own.a K_c.Lists.Own.len K_c.Lists.Own.cap] 36)
  replace B_r := B_r.alloc (.cells #[.slice K_c.Heap.Bytes.a K_c.Heap.Bytes.len K_c.Heap.Bytes.cap, .slice K_c.Heap.Class.a K_c.Heap.Class.len K_c.Heap.Class.cap, .slice K_c.Lists.Global.a K_c.Lists.Global.len K_c.Lists.Global.cap, .slice K_c.Lists.Own.a K_c.Lists.Own.len K_c.Lists.Own.cap] 36)
  replace o_c := o_c.alloc_ (.cells #[.slice K_c.Heap.Bytes.a K_c.Heap.Bytes.len K_c.Heap.Bytes.cap, .slice K_c.Heap.Class.a K_c.Heap.Class.len K_c.Heap.Class.cap, .slice K_c.Lists.Global.a K_c.Lists.Global.len K_c.Lists.Global.cap, .slice K_c.Lists.Own.a K_c.Lists.Own.len K_c.Lists.Own.cap] 36)
  replace hB := hB.alloc hB.size (.cells #[.slice K_c.Heap.Bytes.a K_c.Heap.Bytes.len K_c.Heap.Bytes.cap, .slice K_c.Heap.Class.a K_c.Heap.Class.len K_c.Heap.Class.cap, .slice K_c.Lists.Global.a K_c.Lists.Global.len K_c.Lists.Global.cap, .slice K_c.Lists.Own.a K_c.Lists.Own.len K_c.Lists.Own.cap] 36)
  have B_o : Box (w1.alloc (.cells #[.slice K_c.Heap.Bytes.a K_c.Heap.Bytes.len K_c.Heap.Bytes.cap, .slice K_c.Heap.Class.a K_c.Heap.Class.len K_c.Heap.Class.cap, .slice K_c.Lists.Global.a K_c.Lists.Global.len K_c.Lists.Global.cap, .slice K_c.Lists.Own.a K_c.Lists.Own.len K_c.Lists.Own.cap] 36)) w1.heap.size [.slice K_c.Heap.Bytes.a K_c.Heap.Bytes.len K_c.Heap.Bytes.cap, .slice K_c.Heap.Class.a K_c.Heap.Class.len K_c.Heap.Class.cap, .slice K_c.Lists.Global.a K_c.Lists.Global.len K_c.Lists.Global.cap, .slice K_c.Lists.Own.a K_c.Lists.Own.len K_c.Lists.Own.cap] := Box.new w1 #[.slice K_c.Heap.Bytes.a K_c.Heap.Bytes.len K_c.Heap.Bytes.cap, .slice K_c.Heap.Class.a K_c.Heap.Class.len K_c.Heap.Class.cap, .slice K_c.Lists.Global.a K_c.Lists.Global.len K_c.Lists.Global.cap, .slice K_c.Lists.Own.a K_c.Lists.Own.len K_c.Lists.Own.cap] 36
  have zz_o := B_o.lt
  have sz : w1.heap.size ≤ (w1.alloc (.cells #[.slice K_c.Heap.Bytes.a K_c.Heap.Bytes.len K_c.Heap.Bytes.cap, .slice K_c.Heap.Class.a K_c.Heap.Class.len K_c.Heap.Class.cap, .slice K_c.Lists.Global.a K_c.Lists.Global.len K_c.Lists.Global.cap, .slice K_c.Lists.Own.a K_c.Lists.Own.len K_c.Lists.Own.cap] 36)).heap.size := Nat.le_of_lt B_o.lt
  generalize hG : (w1.alloc (.cells #[.slice K_c.Heap.Bytes.a K_c.Heap.Bytes.len K_c.Heap.Bytes.cap, .slice K_c.Heap.Class.a K_c.Heap.Class.len K_c.Heap.Class.cap, .slice K_c.Lists.Global.a K_c.Lists.Global.len K_c.Lists.Global.cap, .slice K_c.Lists.Own.a K_c.Lists.Own.len K_c.Lists.Own.cap] 36)) = w2 at B_a B_r o_c hB B_o zz_o sz ⊢
  clear hG
  replace q_a_0 := B_a.cell 0 _ rfl
  replace q_a_1 := B_a.cell 1 _ rfl
  replace q_a_2 := B_a.cell 2 _ rfl
  replace q_a_3 := B_a.cell 3 _ rfl
  replace fr_a := B_a.fro
  replace z_a := B_a.lt
  replace q_r_0 := B_r.cell 0 _ rfl
  replace q_r_1 := B_r.cell 1 _ rfl
  replace q_r_2 := B_r.cell 2 _ rfl
  replace q_r_3 := B_r.cell 3 _ rfl
  replace fr_r := B_r.fro
  replace z_r := B_r.lt
  have q_o_0 := B_o.cell 0 _ rfl
  have q_o_1 := B_o.cell 1 _ rfl
  have q_o_2 := B_o.cell 2 _ rfl
  have q_o_3 := B_o.cell 3 _ rfl
  have fr_o := B_o.fro
  have z_o := B_o.lt
  refine (hmo _ hB).mono ?_
  rintro e w3 ⟨rfl, hb⟩
  replace B_a := B_a.below hb
  replace B_r := B_r.below hb
  replace B_o := B_o.below hb
  have o_c := o_c.step0 hb
  replace hB := hB.trans (hb.mono hB.size)
  have sz := hb.size
  clear hb
  replace q_a_0 := B_a.cell 0 _ rfl
  replace q_a_1 := B_a.cell 1 _ rfl
  replace q_a_2 := B_a.cell 2 _ rfl
  replace q_a_3 := B_a.cell 3 _ rfl
  replace fr_a := B_a.fro
  replace z_a := B_a.lt
  replace q_r_0 := B_r.cell 0 _ rfl
  replace q_r_1 := B_r.cell 1 _ rfl
  replace q_r_2 := B_r.cell 2 _ rfl
  replace q_r_3 := B_r.cell 3 _ rfl
  replace fr_r := B_r.fro
  replace z_r := B_r.lt
  replace q_o_0 := B_o.cell 0 _ rfl
  replace q_o_1 := B_o.cell 1 _ rfl
  replace q_o_2 := B_o.cell 2 _ rfl
  replace q_o_3 := B_o.cell 3 _ rfl
  replace fr_o := B_o.fro
  replace z_o := B_o.lt
  clear hmo
  go_wp2_with (go_at_call 21; refine (l1In_ct _ _ _ _).mono ?_; rw [c2]; rintro e wv ⟨rfl, rfl⟩)
  refine bodyPost_ret (v := .tuple #[.agg #[.slice K_c.Heap.Bytes.a K_c.Heap.Bytes.len K_c.Heap.Bytes.cap, .slice K_c.Heap.Class.a K_c.Heap.Class.len K_c.Heap.Class.cap, .slice K_c.Lists.Global.a K_c.Lists.Global.len K_c.Lists.Global.cap, .slice K_c.Lists.Own.a K_c.Lists.Own.len K_c.Lists.Own.cap], .int .i64 0, .int .i64 2]) (by simp [results, Tryz.results15, go_sem, q_r_0, q_r_1, q_r_2, q_r_3]) rfl ⟨K_c, rfl, o_c.chg (F := [w.heap.size + 1]) (by repeat (first | with_reducible exact Chg.refl _ _ | with_reducible refine Chg.set_ ?_ (by simp) _ | with_reducible refine Chg.alloc_ ?_ _ | with_reducible refine Chg.drew_ ?_)) (fun g hg hm => by simp only [List.mem_cons, List.not_mem_nil, or_false] at hm; have := l_c g hg; have := u_c g hg; omega), fun g hg => by have := l_c g hg; omega, Below.trans hB (by repeat (first | with_reducible exact Below.refl _ _ | with_reducible refine Below.setCell ?_ (by simp <;> omega) _ | with_reducible refine Below.alloc ?_ (by simp <;> omega) _ | with_reducible refine Below.drew ?_))⟩
end Go.Proofs.YtpjijbonpjoamaaGreat

