/-
  Several texts in one: lemmas and contracts that the claim rests on.
-/
import Derived.Test.YtpjijbonpjoamaaGreatUHAllocNow1
import Derived.Deep.QuietTactic
import Derived.BigQuiet
import Derived.Deep.LoopGhost
import Derived.Deep.RegionHeld3
import Derived.WalkSpells
import Derived.Laws.Cover3
import Derived.Test.YtpjijbonpjoamaaGreatUHAllocNow10
import Derived.Test.YtpjijbonpjoamaaGreatUHAllocNow9
import Derived.Test.YtpjijbonpjoamaaGreatUHAllocNow7
/-
  AllocNow that finds no page: the contract.
-/
namespace Go.Proofs.YtpjijbonpjoamaaGreat
open Go.RowKit

set_option maxRecDepth 100000 in
set_option maxHeartbeats 8000000 in
theorem AllocNow_impl_none (w : World) (H : HMem) (x : Mem) (wk c : Nat) (n : Int) (h : RdMem w w.heap.size H x) (hs : sizeMem x ≤ 536870912) (c1 : memOkB x = true) (hw : wk < 3) (c3 : classOfS n = (c : Int)) (hc : c < 3) (hrow0 : x.Lists.Own[wk * 3 + c]? = some []) (hrow : x.Lists.Global[c]? = some []) (hp : idxOf (fun y => y == -1) x.Heap.Class = -1) :
    Calls Tryz.prog 16 #[.agg #[.slice H.Heap.Bytes.a H.Heap.Bytes.len H.Heap.Bytes.cap, .slice H.Heap.Class.a H.Heap.Class.len H.Heap.Class.cap, .slice H.Lists.Global.a H.Lists.Global.len H.Lists.Global.cap, .slice H.Lists.Own.a H.Lists.Own.len H.Lists.Own.cap], .int .i64 wk, .int .i64 n] w fun e w' => ∃ H' : HMem, e = .returned (.tuple #[.agg #[.slice H'.Heap.Bytes.a H'.Heap.Bytes.len H'.Heap.Bytes.cap, .slice H'.Heap.Class.a H'.Heap.Class.len H'.Heap.Class.cap, .slice H'.Lists.Global.a H'.Lists.Global.len H'.Lists.Global.cap, .slice H'.Lists.Own.a H'.Lists.Own.len H'.Lists.Own.cap], .int .i64 0, .int .i64 3]) ∧ OwMem w' H' x ∧ (∀ g ∈ H'.foot, w.heap.size ≤ g) ∧ Below w.heap.size w w' := by
  have hcl : inB 0 2 (c : Int) = true := inB_iff.2 ⟨by omega, by omega⟩
  have c2 : inB 0 2 (wk : Int) = true := inB_iff.2 ⟨by omega, by omega⟩
  have hsh2 : sizeHeap x.Heap ≤ 536870912 ∧ sizeLists x.Lists ≤ 536870912 := by unfold sizeMem at hs; omega
  have hcp := fun (W : World) (hW : Below w.heap.size w W) => copyMem_impl W H x (rdMem_up h hW) hs
  have hmo := fun (W : World) (hW : Below w.heap.size w W) => MemOk_impl W H x (rdMem_up h hW)
  have hto := fun (W : World) (hW : Below w.heap.size w W) => TakeOwn_impl_nil W H.Lists x.Lists wk c (rdLists_up h.Lists hW) hsh2.2 (mem_lists c1) hw hc hrow0
  have htg := fun (W : World) (hW : Below w.heap.size w W) => TakeGlobal_impl_nil W H.Lists x.Lists c (rdLists_up h.Lists hW) hsh2.2 (mem_lists c1) hc hrow
  have hgn := fun (W : World) (hW : Below w.heap.size w W) => granted_no W H x c (rdMem_up h hW) hs c1 hc hp
  rw [c1] at hmo
  have hco := fun W => ClassOf_impl n W
  rw [c3] at hco
  clear c3 hp hrow hrow0 c1 hsh2 hs
  have B_a : Box ((w.alloc (.cells #[.slice H.Heap.Bytes.a H.Heap.Bytes.len H.Heap.Bytes.cap, .slice H.Heap.Class.a H.Heap.Class.len H.Heap.Class.cap, .slice H.Lists.Global.a H.Lists.Global.len H.Lists.Global.cap, .slice H.Lists.Own.a H.Lists.Own.len H.Lists.Own.cap] 36)).alloc (.cells #[.slice none 0 0, .slice none 0 0, .slice none 0 0, .slice none 0 0] 36)) (w.heap.size) [.slice H.Heap.Bytes.a H.Heap.Bytes.len H.Heap.Bytes.cap, .slice H.Heap.Class.a H.Heap.Class.len H.Heap.Class.cap, .slice H.Lists.Global.a H.Lists.Global.len H.Lists.Global.cap, .slice H.Lists.Own.a H.Lists.Own.len H.Lists.Own.cap] := by
    have hbx := Box.new w #[.slice H.Heap.Bytes.a H.Heap.Bytes.len H.Heap.Bytes.cap, .slice H.Heap.Class.a H.Heap.Class.len H.Heap.Class.cap, .slice H.Lists.Global.a H.Lists.Global.len H.Lists.Global.cap, .slice H.Lists.Own.a H.Lists.Own.len H.Lists.Own.cap] 36
    exact (hbx).alloc _
  have B_r : Box ((w.alloc (.cells #[.slice H.Heap.Bytes.a H.Heap.Bytes.len H.Heap.Bytes.cap, .slice H.Heap.Class.a H.Heap.Class.len H.Heap.Class.cap, .slice H.Lists.Global.a H.Lists.Global.len H.Lists.Global.cap, .slice H.Lists.Own.a H.Lists.Own.len H.Lists.Own.cap] 36)).alloc (.cells #[.slice none 0 0, .slice none 0 0, .slice none 0 0, .slice none 0 0] 36)) (w.heap.size + 1) [.slice none 0 0, .slice none 0 0, .slice none 0 0, .slice none 0 0] := by
    have hbx := Box.new (w.alloc (.cells #[.slice H.Heap.Bytes.a H.Heap.Bytes.len H.Heap.Bytes.cap, .slice H.Heap.Class.a H.Heap.Class.len H.Heap.Class.cap, .slice H.Lists.Global.a H.Lists.Global.len H.Lists.Global.cap, .slice H.Lists.Own.a H.Lists.Own.len H.Lists.Own.cap] 36)) #[.slice none 0 0, .slice none 0 0, .slice none 0 0, .slice none 0 0] 36
    simp only [World.size_alloc] at hbx
    exact hbx
  have hB : Below w.heap.size w ((w.alloc (.cells #[.slice H.Heap.Bytes.a H.Heap.Bytes.len H.Heap.Bytes.cap, .slice H.Heap.Class.a H.Heap.Class.len H.Heap.Class.cap, .slice H.Lists.Global.a H.Lists.Global.len H.Lists.Global.cap, .slice H.Lists.Own.a H.Lists.Own.len H.Lists.Own.cap] 36)).alloc (.cells #[.slice none 0 0, .slice none 0 0, .slice none 0 0, .slice none 0 0] 36)) := by repeat (first | exact Below.refl _ _ | refine Below.alloc ?_ (by simp <;> omega) _ | refine below_grow_of ?_ (by simp <;> omega) _ _ | refine Below.drew ?_ | refine below_drewN ?_ _)
  go_enter Tryz.func16, Tryz.ntmps16
  go_wp2_with fail
  generalize hW0 : ((w.alloc (.cells #[.slice H.Heap.Bytes.a H.Heap.Bytes.len H.Heap.Bytes.cap, .slice H.Heap.Class.a H.Heap.Class.len H.Heap.Class.cap, .slice H.Lists.Global.a H.Lists.Global.len H.Lists.Global.cap, .slice H.Lists.Own.a H.Lists.Own.len H.Lists.Own.cap] 36)).alloc (.cells #[.slice none 0 0, .slice none 0 0, .slice none 0 0, .slice none 0 0] 36)) = w0 at B_a B_r hB ⊢
  clear hW0
  have zz_a := B_a.lt
  have zz_r := B_r.lt
  have q_a_0 := B_a.cell 0 _ rfl
  have q_a_1 := B_a.cell 1 _ rfl
  have q_a_2 := B_a.cell 2 _ rfl
  have q_a_3 := B_a.cell 3 _ rfl
  have fr_a := B_a.fro
  have z_a := B_a.lt
  have q_r_0 := B_r.cell 0 _ rfl
  have q_r_1 := B_r.cell 1 _ rfl
  have q_r_2 := B_r.cell 2 _ rfl
  have q_r_3 := B_r.cell 3 _ rfl
  have fr_r := B_r.fro
  have z_r := B_r.lt
  refine (hcp _ hB).mono ?_
  rintro e w1 ⟨K_c, rfl, o_c, l_c, hb⟩
  have u_c := o_c.lt
  replace B_a := B_a.below hb
  replace B_r := B_r.below hb
  replace hB := hB.trans (hb.mono hB.size)
  have sz := hb.size
  clear hb
  replace q_a_0 := B_a.cell 0 _ rfl
  replace q_a_1 := B_a.cell 1 _ rfl
  replace q_a_2 := B_a.cell 2 _ rfl
  replace q_a_3 := B_a.cell 3 _ rfl
  replace fr_a := B_a.fro
  replace z_a := B_a.lt
  replace q_r_0 := B_r.cell 0 _ rfl
  replace q_r_1 := B_r.cell 1 _ rfl
  replace q_r_2 := B_r.cell 2 _ rfl
  replace q_r_3 := B_r.cell 3 _ rfl
  replace fr_r := B_r.fro
  replace z_r := B_r.lt
  clear hcp
  go_wp2_with (go_at_call 50; refine (hco _).mono ?_; rintro e wv ⟨rfl, rfl⟩)
  replace B_a := B_a.alloc (.cells #[.slice K_c.Heap.Bytes.a K_c.Heap.Bytes.len K_c.Heap.Bytes.cap, .slice K_c.Heap.Class.a K_c.Heap.Class.len K_c.Heap.Class.cap, .slice K_c.Lists.Global.a K_c.Lists.Global.len K_c.Lists.Global.cap, .slice K_c.Lists.Own.a K_c.Lists.Own.len K_c.Lists.Own.cap] 36)
  replace B_r := B_r.alloc (.cells #[.slice K_c.Heap.Bytes.a K_c.Heap.Bytes.len K_c.Heap.Bytes.cap, .slice K_c.Heap.Class.a K_c.Heap.Class.len K_c.Heap.Class.cap, .slice K_c.Lists.Global.a K_c.Lists.Global.len K_c.Lists.Global.cap, .slice K_c.Lists.Own.a K_c.Lists.Own.len K_c.Lists.Own.cap] 36)
  replace o_c := o_c.alloc_ (.cells #[.slice K_c.Heap.Bytes.a K_c.Heap.Bytes.len K_c.Heap.Bytes.cap, .slice K_c.Heap.Class.a K_c.Heap.Class.len K_c.Heap.Class.cap, .slice K_c.Lists.Global.a K_c.Lists.Global.len K_c.Lists.Global.cap, .slice K_c.Lists.Own.a K_c.Lists.Own.len K_c.Lists.Own.cap] 36)
  replace hB := hB.alloc hB.size (.cells #[.slice K_c.Heap.Bytes.a K_c.Heap.Bytes.len K_c.Heap.Bytes.cap, .slice K_c.Heap.Class.a K_c.Heap.Class.len K_c.Heap.Class.cap, .slice K_c.Lists.Global.a K_c.Lists.Global.len K_c.Lists.Global.cap, .slice K_c.Lists.Own.a K_c.Lists.Own.len K_c.Lists.Own.cap] 36)
  have B_o : Box (w1.alloc (.cells #[.slice K_c.Heap.Bytes.a K_c.Heap.Bytes.len K_c.Heap.Bytes.cap, .slice K_c.Heap.Class.a K_c.Heap.Class.len K_c.Heap.Class.cap, .slice K_c.Lists.Global.a K_c.Lists.Global.len K_c.Lists.Global.cap, .slice K_c.Lists.Own.a K_c.Lists.Own.len K_c.Lists.Own.cap] 36)) w1.heap.size [.slice K_c.Heap.Bytes.a K_c.Heap.Bytes.len K_c.Heap.Bytes.cap, .slice K_c.Heap.Class.a K_c.Heap.Class.len K_c.Heap.Class.cap, .slice K_c.Lists.Global.a K_c.Lists.Global.len K_c.Lists.Global.cap, .slice K_c.Lists.Own.a K_c.Lists.Own.len K_c.Lists.Own.cap] := Box.new w1 #[.slice K_c.Heap.Bytes.a K_c.Heap.Bytes.len K_c.Heap.Bytes.cap, .slice K_c.Heap.Class.a K_c.Heap.Class.len K_c.Heap.Class.cap, .slice K_c.Lists.Global.a K_c.Lists.Global.len K_c.Lists.Global.cap, .slice K_c.Lists.Own.a K_c.Lists.Own.len K_c.Lists.Own.cap] 36
  have zz_o := B_o.lt
  have sz : w1.heap.size ≤ (w1.alloc (.cells #[.slice K_c.Heap.Bytes.a K_c.Heap.Bytes.len K_c.Heap.Bytes.cap, .slice K_c.Heap.Class.a K_c.Heap.Class.len K_c.Heap.Class.cap, .slice K_c.Lists.Global.a K_c.Lists.Global.len K_c.Lists.Global.cap, .slice K_c.Lists.Own.a K_c.Lists.Own.len K_c.Lists.Own.cap] 36)).heap.size := Nat.le_of_lt B_o.lt
  generalize hG : (w1.alloc (.cells #[.slice K_c.Heap.Bytes.a K_c.Heap.Bytes.len K_c.Heap.Bytes.cap, .slice K_c.Heap.Class.a K_c.Heap.Class.len K_c.Heap.Class.cap, .slice K_c.Lists.Global.a K_c.Lists.Global.len K_c.Lists.Global.cap, .slice K_c.Lists.Own.a K_c.Lists.Own.len K_c.Lists.Own.cap] 36)) = w2 at B_a B_r o_c hB B_o zz_o sz ⊢
  clear hG
  replace q_a_0 := B_a.cell 0 _ rfl
  replace q_a_1 := B_a.cell 1 _ rfl
  replace q_a_2 := B_a.cell 2 _ rfl
  replace q_a_3 := B_a.cell 3 _ rfl
  replace fr_a := B_a.fro
  replace z_a := B_a.lt
  replace q_r_0 := B_r.cell 0 _ rfl
  replace q_r_1 := B_r.cell 1 _ rfl
  replace q_r_2 := B_r.cell 2 _ rfl
  replace q_r_3 := B_r.cell 3 _ rfl
  replace fr_r := B_r.fro
  replace z_r := B_r.lt
  have q_o_0 := B_o.cell 0 _ rfl
  have q_o_1 := B_o.cell 1 _ rfl
  have q_o_2 := B_o.cell 2 _ rfl
  have q_o_3 := B_o.cell 3 _ rfl
  have fr_o := B_o.fro
  have z_o := B_o.lt
  refine (hmo _ hB).mono ?_
  rintro e w3 ⟨rfl, hb⟩
  replace B_a := B_a.below hb
  replace B_r := B_r.below hb
  replace B_o := B_o.below hb
  have o_c := o_c.step0 hb
  replace hB := hB.trans (hb.mono hB.size)
  have sz := hb.size
  clear hb
  replace q_a_0 := B_a.cell 0 _ rfl
  replace q_a_1 := B_a.cell 1 _ rfl
  replace q_a_2 := B_a.cell 2 _ rfl
  replace q_a_3 := B_a.cell 3 _ rfl
  replace fr_a := B_a.fro
  replace z_a := B_a.lt
  replace q_r_0 := B_r.cell 0 _ rfl
  replace q_r_1 := B_r.cell 1 _ rfl
  replace q_r_2 := B_r.cell 2 _ rfl
  replace q_r_3 := B_r.cell 3 _ rfl
  replace fr_r := B_r.fro
  replace z_r := B_r.lt
  replace q_o_0 := B_o.cell 0 _ rfl
  replace q_o_1 := B_o.cell 1 _ rfl
  replace q_o_2 := B_o.cell 2 _ rfl
  replace q_o_3 := B_o.cell 3 _ rfl
  replace fr_o := B_o.fro
  replace z_o := B_o.lt
  clear hmo
  go_wp2_with (go_at_call 28; refine (isWorker_ct _ _).mono ?_; rw [c2]; rintro e wv ⟨rfl, rfl⟩)
  refine (hto _ hB).mono ?_
  rintro e w4 ⟨K_u, rfl, o_u, l_u, hb⟩
  have u_u := o_u.lt
  replace B_a := B_a.below hb
  replace B_r := B_r.below hb
  replace B_o := B_o.below hb
  replace o_c := o_c.step0 hb
  replace hB := hB.trans (hb.mono hB.size)
  have sz := hb.size
  clear hb
  replace q_a_0 := B_a.cell 0 _ rfl
  replace q_a_1 := B_a.cell 1 _ rfl
  replace q_a_2 := B_a.cell 2 _ rfl
  replace q_a_3 := B_a.cell 3 _ rfl
  replace fr_a := B_a.fro
  replace z_a := B_a.lt
  replace q_r_0 := B_r.cell 0 _ rfl
  replace q_r_1 := B_r.cell 1 _ rfl
  replace q_r_2 := B_r.cell 2 _ rfl
  replace q_r_3 := B_r.cell 3 _ rfl
  replace fr_r := B_r.fro
  replace z_r := B_r.lt
  replace q_o_0 := B_o.cell 0 _ rfl
  replace q_o_1 := B_o.cell 1 _ rfl
  replace q_o_2 := B_o.cell 2 _ rfl
  replace q_o_3 := B_o.cell 3 _ rfl
  replace fr_o := B_o.fro
  replace z_o := B_o.lt
  clear hto
  go_wp2_with fail
  replace B_a := B_a.alloc (.cells #[.slice K_u.Global.a K_u.Global.len K_u.Global.cap, .slice K_u.Own.a K_u.Own.len K_u.Own.cap] 34)
  replace B_r := B_r.alloc (.cells #[.slice K_u.Global.a K_u.Global.len K_u.Global.cap, .slice K_u.Own.a K_u.Own.len K_u.Own.cap] 34)
  replace B_o := B_o.alloc (.cells #[.slice K_u.Global.a K_u.Global.len K_u.Global.cap, .slice K_u.Own.a K_u.Own.len K_u.Own.cap] 34)
  replace o_c := o_c.alloc_ (.cells #[.slice K_u.Global.a K_u.Global.len K_u.Global.cap, .slice K_u.Own.a K_u.Own.len K_u.Own.cap] 34)
  replace o_u := o_u.alloc_ (.cells #[.slice K_u.Global.a K_u.Global.len K_u.Global.cap, .slice K_u.Own.a K_u.Own.len K_u.Own.cap] 34)
  replace hB := hB.alloc hB.size (.cells #[.slice K_u.Global.a K_u.Global.len K_u.Global.cap, .slice K_u.Own.a K_u.Own.len K_u.Own.cap] 34)
  have B_p : Box (w4.alloc (.cells #[.slice K_u.Global.a K_u.Global.len K_u.Global.cap, .slice K_u.Own.a K_u.Own.len K_u.Own.cap] 34)) w4.heap.size [.slice K_u.Global.a K_u.Global.len K_u.Global.cap, .slice K_u.Own.a K_u.Own.len K_u.Own.cap] := Box.new w4 #[.slice K_u.Global.a K_u.Global.len K_u.Global.cap, .slice K_u.Own.a K_u.Own.len K_u.Own.cap] 34
  have zz_p := B_p.lt
  have sz : w4.heap.size ≤ (w4.alloc (.cells #[.slice K_u.Global.a K_u.Global.len K_u.Global.cap, .slice K_u.Own.a K_u.Own.len K_u.Own.cap] 34)).heap.size := Nat.le_of_lt B_p.lt
  generalize hG : (w4.alloc (.cells #[.slice K_u.Global.a K_u.Global.len K_u.Global.cap, .slice K_u.Own.a K_u.Own.len K_u.Own.cap] 34)) = w5 at B_a B_r B_o o_c o_u hB B_p zz_p sz ⊢
  clear hG
  replace q_a_0 := B_a.cell 0 _ rfl
  replace q_a_1 := B_a.cell 1 _ rfl
  replace q_a_2 := B_a.cell 2 _ rfl
  replace q_a_3 := B_a.cell 3 _ rfl
  replace fr_a := B_a.fro
  replace z_a := B_a.lt
  replace q_r_0 := B_r.cell 0 _ rfl
  replace q_r_1 := B_r.cell 1 _ rfl
  replace q_r_2 := B_r.cell 2 _ rfl
  replace q_r_3 := B_r.cell 3 _ rfl
  replace fr_r := B_r.fro
  replace z_r := B_r.lt
  replace q_o_0 := B_o.cell 0 _ rfl
  replace q_o_1 := B_o.cell 1 _ rfl
  replace q_o_2 := B_o.cell 2 _ rfl
  replace q_o_3 := B_o.cell 3 _ rfl
  replace fr_o := B_o.fro
  replace z_o := B_o.lt
  have q_p_0 := B_p.cell 0 _ rfl
  have q_p_1 := B_p.cell 1 _ rfl
  have fr_p := B_p.fro
  have z_p := B_p.lt
  refine (htg _ hB).mono ?_
  rintro e w6 ⟨K_t, rfl, o_t, l_t, hb⟩
  have u_t := o_t.lt
  replace B_a := B_a.below hb
  replace B_r := B_r.below hb
  replace B_o := B_o.below hb
  replace B_p := B_p.below hb
  replace o_c := o_c.step0 hb
  have o_u := o_u.step0 hb
  replace hB := hB.trans (hb.mono hB.size)
  have sz := hb.size
  clear hb
  replace q_a_0 := B_a.cell 0 _ rfl
  replace q_a_1 := B_a.cell 1 _ rfl
  replace q_a_2 := B_a.cell 2 _ rfl
  replace q_a_3 := B_a.cell 3 _ rfl
  replace fr_a := B_a.fro
  replace z_a := B_a.lt
  replace q_r_0 := B_r.cell 0 _ rfl
  replace q_r_1 := B_r.cell 1 _ rfl
  replace q_r_2 := B_r.cell 2 _ rfl
  replace q_r_3 := B_r.cell 3 _ rfl
  replace fr_r := B_r.fro
  replace z_r := B_r.lt
  replace q_o_0 := B_o.cell 0 _ rfl
  replace q_o_1 := B_o.cell 1 _ rfl
  replace q_o_2 := B_o.cell 2 _ rfl
  replace q_o_3 := B_o.cell 3 _ rfl
  replace fr_o := B_o.fro
  replace z_o := B_o.lt
  replace q_p_0 := B_p.cell 0 _ rfl
  replace q_p_1 := B_p.cell 1 _ rfl
  replace fr_p := B_p.fro
  replace z_p := B_p.lt
  clear htg
  go_upto_region 9 with (fail)
  replace B_a : Box ((w6.setCell ⟨w4.heap.size, 0, none⟩ (.slice K_t.Global.a K_t.Global.len K_t.Global.cap)).setCell ⟨w4.heap.size, 1, none⟩ (.slice K_t.Own.a K_t.Own.len K_t.Own.cap)) (w.heap.size) [.slice H.Heap.Bytes.a H.Heap.Bytes.len H.Heap.Bytes.cap, .slice H.Heap.Class.a H.Heap.Class.len H.Heap.Class.cap, .slice H.Lists.Global.a H.Lists.Global.len H.Lists.Global.cap, .slice H.Lists.Own.a H.Lists.Own.len H.Lists.Own.cap] := ((B_a.other (by omega) _).other (by omega) _)
  replace B_r : Box ((w6.setCell ⟨w4.heap.size, 0, none⟩ (.slice K_t.Global.a K_t.Global.len K_t.Global.cap)).setCell ⟨w4.heap.size, 1, none⟩ (.slice K_t.Own.a K_t.Own.len K_t.Own.cap)) (w.heap.size + 1) [.slice none 0 0, .slice none 0 0, .slice none 0 0, .slice none 0 0] := ((B_r.other (by omega) _).other (by omega) _)
  replace B_o : Box ((w6.setCell ⟨w4.heap.size, 0, none⟩ (.slice K_t.Global.a K_t.Global.len K_t.Global.cap)).setCell ⟨w4.heap.size, 1, none⟩ (.slice K_t.Own.a K_t.Own.len K_t.Own.cap)) (w1.heap.size) [.slice K_c.Heap.Bytes.a K_c.Heap.Bytes.len K_c.Heap.Bytes.cap, .slice K_c.Heap.Class.a K_c.Heap.Class.len K_c.Heap.Class.cap, .slice K_c.Lists.Global.a K_c.Lists.Global.len K_c.Lists.Global.cap, .slice K_c.Lists.Own.a K_c.Lists.Own.len K_c.Lists.Own.cap] := ((B_o.other (by omega) _).other (by omega) _)
  replace B_p : Box ((w6.setCell ⟨w4.heap.size, 0, none⟩ (.slice K_t.Global.a K_t.Global.len K_t.Global.cap)).setCell ⟨w4.heap.size, 1, none⟩ (.slice K_t.Own.a K_t.Own.len K_t.Own.cap)) (w4.heap.size) [.slice K_t.Global.a K_t.Global.len K_t.Global.cap, .slice K_t.Own.a K_t.Own.len K_t.Own.cap] := ((B_p.set 0 (.slice K_t.Global.a K_t.Global.len K_t.Global.cap)).set 1 (.slice K_t.Own.a K_t.Own.len K_t.Own.cap))
  replace o_c := o_c.chg (F := [w4.heap.size]) (w' := ((w6.setCell ⟨w4.heap.size, 0, none⟩ (.slice K_t.Global.a K_t.Global.len K_t.Global.cap)).setCell ⟨w4.heap.size, 1, none⟩ (.slice K_t.Own.a K_t.Own.len K_t.Own.cap))) (by repeat (first | with_reducible exact Chg.refl _ _ | with_reducible refine Chg.set_ ?_ (by simp) _ | with_reducible refine Chg.alloc_ ?_ _ | with_reducible refine Chg.drew_ ?_)) (fun g hg hm => by simp only [List.mem_cons, List.not_mem_nil, or_false] at hm; have := l_c g hg; have := u_c g hg; omega)
  replace o_u := o_u.chg (F := [w4.heap.size]) (w' := ((w6.setCell ⟨w4.heap.size, 0, none⟩ (.slice K_t.Global.a K_t.Global.len K_t.Global.cap)).setCell ⟨w4.heap.size, 1, none⟩ (.slice K_t.Own.a K_t.Own.len K_t.Own.cap))) (by repeat (first | with_reducible exact Chg.refl _ _ | with_reducible refine Chg.set_ ?_ (by simp) _ | with_reducible refine Chg.alloc_ ?_ _ | with_reducible refine Chg.drew_ ?_)) (fun g hg hm => by simp only [List.mem_cons, List.not_mem_nil, or_false] at hm; have := l_u g hg; have := u_u g hg; omega)
  replace o_t := o_t.chg (F := [w4.heap.size]) (w' := ((w6.setCell ⟨w4.heap.size, 0, none⟩ (.slice K_t.Global.a K_t.Global.len K_t.Global.cap)).setCell ⟨w4.heap.size, 1, none⟩ (.slice K_t.Own.a K_t.Own.len K_t.Own.cap))) (by repeat (first | with_reducible exact Chg.refl _ _ | with_reducible refine Chg.set_ ?_ (by simp) _ | with_reducible refine Chg.alloc_ ?_ _ | with_reducible refine Chg.drew_ ?_)) (fun g hg hm => by simp only [List.mem_cons, List.not_mem_nil, or_false] at hm; have := l_t g hg; have := u_t g hg; omega)
  replace hB : Below w.heap.size w ((w6.setCell ⟨w4.heap.size, 0, none⟩ (.slice K_t.Global.a K_t.Global.len K_t.Global.cap)).setCell ⟨w4.heap.size, 1, none⟩ (.slice K_t.Own.a K_t.Own.len K_t.Own.cap)) := Below.trans hB (by repeat (first | with_reducible exact Below.refl _ _ | with_reducible refine Below.setCell ?_ (by simp <;> omega) _ | with_reducible refine Below.alloc ?_ (by simp <;> omega) _ | with_reducible refine Below.drew ?_))
  have sz : w6.heap.size ≤ ((w6.setCell ⟨w4.heap.size, 0, none⟩ (.slice K_t.Global.a K_t.Global.len K_t.Global.cap)).setCell ⟨w4.heap.size, 1, none⟩ (.slice K_t.Own.a K_t.Own.len K_t.Own.cap)).heap.size := by simp
  generalize hG : ((w6.setCell ⟨w4.heap.size, 0, none⟩ (.slice K_t.Global.a K_t.Global.len K_t.Global.cap)).setCell ⟨w4.heap.size, 1, none⟩ (.slice K_t.Own.a K_t.Own.len K_t.Own.cap)) = w7 at B_a B_r B_o B_p o_c o_u o_t hB sz ⊢
  clear hG
  replace q_a_0 := B_a.cell 0 _ rfl
  replace q_a_1 := B_a.cell 1 _ rfl
  replace q_a_2 := B_a.cell 2 _ rfl
  replace q_a_3 := B_a.cell 3 _ rfl
  replace fr_a := B_a.fro
  replace z_a := B_a.lt
  replace q_r_0 := B_r.cell 0 _ rfl
  replace q_r_1 := B_r.cell 1 _ rfl
  replace q_r_2 := B_r.cell 2 _ rfl
  replace q_r_3 := B_r.cell 3 _ rfl
  replace fr_r := B_r.fro
  replace z_r := B_r.lt
  replace q_o_0 := B_o.cell 0 _ rfl
  replace q_o_1 := B_o.cell 1 _ rfl
  replace q_o_2 := B_o.cell 2 _ rfl
  replace q_o_3 := B_o.cell 3 _ rfl
  replace fr_o := B_o.fro
  replace z_o := B_o.lt
  replace q_p_0 := B_p.cell 0 _ rfl
  replace q_p_1 := B_p.cell 1 _ rfl
  replace fr_p := B_p.fro
  replace z_p := B_p.lt
  go_upto_region 11 with (fail)
  replace B_a : Box ((w7.setCell ⟨w1.heap.size, 2, none⟩ (.slice K_t.Global.a K_t.Global.len K_t.Global.cap)).setCell ⟨w1.heap.size, 3, none⟩ (.slice K_t.Own.a K_t.Own.len K_t.Own.cap)) (w.heap.size) [.slice H.Heap.Bytes.a H.Heap.Bytes.len H.Heap.Bytes.cap, .slice H.Heap.Class.a H.Heap.Class.len H.Heap.Class.cap, .slice H.Lists.Global.a H.Lists.Global.len H.Lists.Global.cap, .slice H.Lists.Own.a H.Lists.Own.len H.Lists.Own.cap] := ((B_a.other (by omega) _).other (by omega) _)
  replace B_r : Box ((w7.setCell ⟨w1.heap.size, 2, none⟩ (.slice K_t.Global.a K_t.Global.len K_t.Global.cap)).setCell ⟨w1.heap.size, 3, none⟩ (.slice K_t.Own.a K_t.Own.len K_t.Own.cap)) (w.heap.size + 1) [.slice none 0 0, .slice none 0 0, .slice none 0 0, .slice none 0 0] := ((B_r.other (by omega) _).other (by omega) _)
  replace B_o : Box ((w7.setCell ⟨w1.heap.size, 2, none⟩ (.slice K_t.Global.a K_t.Global.len K_t.Global.cap)).setCell ⟨w1.heap.size, 3, none⟩ (.slice K_t.Own.a K_t.Own.len K_t.Own.cap)) (w1.heap.size) [.slice K_c.Heap.Bytes.a K_c.Heap.Bytes.len K_c.Heap.Bytes.cap, .slice K_c.Heap.Class.a K_c.Heap.Class.len K_c.Heap.Class.cap, .slice K_t.Global.a K_t.Global.len K_t.Global.cap, .slice K_t.Own.a K_t.Own.len K_t.Own.cap] := ((B_o.set 2 (.slice K_t.Global.a K_t.Global.len K_t.Global.cap)).set 3 (.slice K_t.Own.a K_t.Own.len K_t.Own.cap))
  replace B_p : Box ((w7.setCell ⟨w1.heap.size, 2, none⟩ (.slice K_t.Global.a K_t.Global.len K_t.Global.cap)).setCell ⟨w1.heap.size, 3, none⟩ (.slice K_t.Own.a K_t.Own.len K_t.Own.cap)) (w4.heap.size) [.slice K_t.Global.a K_t.Global.len K_t.Global.cap, .slice K_t.Own.a K_t.Own.len K_t.Own.cap] := ((B_p.other (by omega) _).other (by omega) _)
  replace o_c := o_c.chg (F := [w1.heap.size]) (w' := ((w7.setCell ⟨w1.heap.size, 2, none⟩ (.slice K_t.Global.a K_t.Global.len K_t.Global.cap)).setCell ⟨w1.heap.size, 3, none⟩ (.slice K_t.Own.a K_t.Own.len K_t.Own.cap))) (by repeat (first | with_reducible exact Chg.refl _ _ | with_reducible refine Chg.set_ ?_ (by simp) _ | with_reducible refine Chg.alloc_ ?_ _ | with_reducible refine Chg.drew_ ?_)) (fun g hg hm => by simp only [List.mem_cons, List.not_mem_nil, or_false] at hm; have := l_c g hg; have := u_c g hg; omega)
  replace o_u := o_u.chg (F := [w1.heap.size]) (w' := ((w7.setCell ⟨w1.heap.size, 2, none⟩ (.slice K_t.Global.a K_t.Global.len K_t.Global.cap)).setCell ⟨w1.heap.size, 3, none⟩ (.slice K_t.Own.a K_t.Own.len K_t.Own.cap))) (by repeat (first | with_reducible exact Chg.refl _ _ | with_reducible refine Chg.set_ ?_ (by simp) _ | with_reducible refine Chg.alloc_ ?_ _ | with_reducible refine Chg.drew_ ?_)) (fun g hg hm => by simp only [List.mem_cons, List.not_mem_nil, or_false] at hm; have := l_u g hg; have := u_u g hg; omega)
  replace o_t := o_t.chg (F := [w1.heap.size]) (w' := ((w7.setCell ⟨w1.heap.size, 2, none⟩ (.slice K_t.Global.a K_t.Global.len K_t.Global.cap)).setCell ⟨w1.heap.size, 3, none⟩ (.slice K_t.Own.a K_t.Own.len K_t.Own.cap))) (by repeat (first | with_reducible exact Chg.refl _ _ | with_reducible refine Chg.set_ ?_ (by simp) _ | with_reducible refine Chg.alloc_ ?_ _ | with_reducible refine Chg.drew_ ?_)) (fun g hg hm => by simp only [List.mem_cons, List.not_mem_nil, or_false] at hm; have := l_t g hg; have := u_t g hg; omega)
  replace hB : Below w.heap.size w ((w7.setCell ⟨w1.heap.size, 2, none⟩ (.slice K_t.Global.a K_t.Global.len K_t.Global.cap)).setCell ⟨w1.heap.size, 3, none⟩ (.slice K_t.Own.a K_t.Own.len K_t.Own.cap)) := Below.trans hB (by repeat (first | with_reducible exact Below.refl _ _ | with_reducible refine Below.setCell ?_ (by simp <;> omega) _ | with_reducible refine Below.alloc ?_ (by simp <;> omega) _ | with_reducible refine Below.drew ?_))
  have sz : w7.heap.size ≤ ((w7.setCell ⟨w1.heap.size, 2, none⟩ (.slice K_t.Global.a K_t.Global.len K_t.Global.cap)).setCell ⟨w1.heap.size, 3, none⟩ (.slice K_t.Own.a K_t.Own.len K_t.Own.cap)).heap.size := by simp
  generalize hG : ((w7.setCell ⟨w1.heap.size, 2, none⟩ (.slice K_t.Global.a K_t.Global.len K_t.Global.cap)).setCell ⟨w1.heap.size, 3, none⟩ (.slice K_t.Own.a K_t.Own.len K_t.Own.cap)) = w8 at B_a B_r B_o B_p o_c o_u o_t hB sz ⊢
  clear hG
  replace q_a_0 := B_a.cell 0 _ rfl
  replace q_a_1 := B_a.cell 1 _ rfl
  replace q_a_2 := B_a.cell 2 _ rfl
  replace q_a_3 := B_a.cell 3 _ rfl
  replace fr_a := B_a.fro
  replace z_a := B_a.lt
  replace q_r_0 := B_r.cell 0 _ rfl
  replace q_r_1 := B_r.cell 1 _ rfl
  replace q_r_2 := B_r.cell 2 _ rfl
  replace q_r_3 := B_r.cell 3 _ rfl
  replace fr_r := B_r.fro
  replace z_r := B_r.lt
  replace q_o_0 := B_o.cell 0 _ rfl
  replace q_o_1 := B_o.cell 1 _ rfl
  replace q_o_2 := B_o.cell 2 _ rfl
  replace q_o_3 := B_o.cell 3 _ rfl
  replace fr_o := B_o.fro
  replace z_o := B_o.lt
  replace q_p_0 := B_p.cell 0 _ rfl
  replace q_p_1 := B_p.cell 1 _ rfl
  replace fr_p := B_p.fro
  replace z_p := B_p.lt
  go_wp2_with fail
  refine (hgn _ hB).mono ?_
  rintro e w9 ⟨K_n, rfl, o_n, l_n, hb⟩
  have u_n := o_n.lt
  replace B_a := B_a.below hb
  replace B_r := B_r.below hb
  replace B_o := B_o.below hb
  replace B_p := B_p.below hb
  replace o_c := o_c.step0 hb
  replace o_u := o_u.step0 hb
  have o_t := o_t.step0 hb
  replace hB := hB.trans (hb.mono hB.size)
  have sz := hb.size
  clear hb
  replace q_a_0 := B_a.cell 0 _ rfl
  replace q_a_1 := B_a.cell 1 _ rfl
  replace q_a_2 := B_a.cell 2 _ rfl
  replace q_a_3 := B_a.cell 3 _ rfl
  replace fr_a := B_a.fro
  replace z_a := B_a.lt
  replace q_r_0 := B_r.cell 0 _ rfl
  replace q_r_1 := B_r.cell 1 _ rfl
  replace q_r_2 := B_r.cell 2 _ rfl
  replace q_r_3 := B_r.cell 3 _ rfl
  replace fr_r := B_r.fro
  replace z_r := B_r.lt
  replace q_o_0 := B_o.cell 0 _ rfl
  replace q_o_1 := B_o.cell 1 _ rfl
  replace q_o_2 := B_o.cell 2 _ rfl
  replace q_o_3 := B_o.cell 3 _ rfl
  replace fr_o := B_o.fro
  replace z_o := B_o.lt
  replace q_p_0 := B_p.cell 0 _ rfl
  replace q_p_1 := B_p.cell 1 _ rfl
  replace fr_p := B_p.fro
  replace z_p := B_p.lt
  clear hgn
  go_wp2_with fail
  refine bodyPost_ret (v := .tuple #[.agg #[.slice K_n.Heap.Bytes.a K_n.Heap.Bytes.len K_n.Heap.Bytes.cap, .slice K_n.Heap.Class.a K_n.Heap.Class.len K_n.Heap.Class.cap, .slice K_n.Lists.Global.a K_n.Lists.Global.len K_n.Lists.Global.cap, .slice K_n.Lists.Own.a K_n.Lists.Own.len K_n.Lists.Own.cap], .int .i64 0, .int .i64 3]) (by simp [results, Tryz.results16, go_sem, q_r_0, q_r_1, q_r_2, q_r_3]) rfl ⟨K_n, rfl, o_n.chg (F := [w.heap.size + 1, w1.heap.size]) (by repeat (first | with_reducible exact Chg.refl _ _ | with_reducible refine Chg.set_ ?_ (by simp) _ | with_reducible refine Chg.alloc_ ?_ _ | with_reducible refine Chg.drew_ ?_)) (fun g hg hm => by simp only [List.mem_cons, List.not_mem_nil, or_false] at hm; have := l_n g hg; have := u_n g hg; omega), fun g hg => by have := l_n g hg; omega, Below.trans hB (by repeat (first | with_reducible exact Below.refl _ _ | with_reducible refine Below.setCell ?_ (by simp <;> omega) _ | with_reducible refine Below.alloc ?_ (by simp <;> omega) _ | with_reducible refine Below.drew ?_))⟩
end Go.Proofs.YtpjijbonpjoamaaGreat

/-
  A page granted, in plain form.
-/
namespace Go.Proofs.YtpjijbonpjoamaaGreat
open Go.RowKit

theorem perPage_ge {c : Int} (hc : inB 0 2 c = true) : 1 ≤ perPage c := by
  rcases cls hc with rfl | rfl | rfl <;> decide
theorem stride_ge {c : Int} (hc : inB 0 2 c = true) : 4 ≤ (strideOf c).toNat := by
  rcases cls hc with rfl | rfl | rfl <;> decide
theorem grTo_all {b : List Int} {p : Nat} {c : Int} (hb : b.all (inB 0 255) = true) (hc : inB 0 2 c = true) : ∀ i, (grTo b p c i).all (inB 0 255) = true
  | 0 => by
    unfold grTo
    refine putAt_all hb ?_
    rcases cls hc with rfl | rfl | rfl <;> decide
  | i + 1 => by
    unfold grTo
    exact putAt_all (grTo_all hb hc i) (digs_bd 4 1)
theorem grTo_first {b : List Int} {p : Nat} {c : Int} (hb : b.length = 384) (hp : p < 6) (hc : inB 0 2 c = true) (j : Nat) (hj : j < 4) : ∀ i, i + 1 ≤ (perPage c).toNat → (grTo b p c (i + 1))[p * 64 + 8 + j]? = (digs 4 1)[j]?
  | 0, hi => by
    unfold grTo
    rw [show p * 64 + 8 + 0 * (strideOf c).toNat = p * 64 + 8 by omega]
    exact putAt_get_in (by rw [grTo_len hb hp hc 0 (by omega), digs_len]; omega) (by rw [digs_len]; exact hj)
  | i + 1, hi => by
    have hr := gens_room hc (i := i + 1) (by omega)
    have hs := stride_ge hc
    have hm : (strideOf c).toNat ≤ (i + 1) * (strideOf c).toNat := Nat.le_mul_of_pos_left _ (by omega)
    rw [show grTo b p c (i + 1 + 1) = putAt (grTo b p c (i + 1)) (p * 64 + 8 + (i + 1) * (strideOf c).toNat) (digs 4 1) from rfl, putAt_get_out (by rw [grTo_len hb hp hc (i + 1) (by omega), digs_len]; omega) (.inl (by omega))]
    exact grTo_first hb hp hc j hj i (by omega)
theorem grant_facts {h : Heap} {p c : Nat} (hs : shapeB h = true) (hp : p < 6) (hc : c < 3) : shapeB (grantH h p c) = true ∧ classInB (grantH h p c) ((p * 4 : Nat) : Int) = c ∧ genInB (grantH h p c) ((p * 4 : Nat) : Int) = 1 := by
  have hcl : inB 0 2 (c : Int) = true := inB_iff.2 ⟨by omega, by omega⟩
  have sh := shape_of hs
  have hlen := grTo_len (b := h.Bytes) (p := p) (c := (c : Int)) sh.bl hp hcl (perPage (c : Int)).toNat (Nat.le_refl _)
  have hpp := perPage_ge hcl
  have hca : clAt (grantH h p c) ((p * 4 : Nat) : Int) = c := by
    unfold clAt grantH
    rw [show ((((p * 4 : Nat) : Int) / 4).toNat) = p by omega, List.getD_eq_getElem?_getD, List.getElem?_set_self (by rw [sh.cl]; exact hp)]
    rfl
  have hga : genAt ((p * 4 : Nat) : Int) c = ((p * 64 + 8 : Nat) : Int) := by
    unfold genAt
    have hm : ((p * 4 : Nat) : Int) % 4 = 0 := by omega
    rw [if_pos ⟨inB_iff.2 ⟨by omega, by omega⟩, hcl, by omega⟩, hm]
    omega
  have hci : classInB (grantH h p c) ((p * 4 : Nat) : Int) = c := by
    unfold classInB
    rw [hca, if_neg (by rw [hga]; omega)]
  refine ⟨?_, hci, ?_⟩
  · unfold shapeB bytesOkB at hs ⊢
    simp only [Bool.and_eq_true, beq_iff_eq] at hs ⊢
    refine ⟨⟨⟨hlen, ?_⟩, ?_, ?_⟩, ?_⟩
    · unfold grantH
      rw [List.length_set]
      exact hs.1.1.2
    · unfold grantH
      simp only []
      rw [hlen]
      decide
    · exact grTo_all hs.1.2.2 hcl _
    · refine List.all_eq_true.2 fun y hy => ?_
      unfold grantH at hy
      rcases List.mem_or_eq_of_mem_set hy with hy | rfl
      · exact List.all_eq_true.1 hs.2 y hy
      · exact inB_iff.2 ⟨by omega, by omega⟩
  · unfold genInB
    rw [hci, if_neg (by omega), hga]
    unfold loadN
    obtain ⟨k, hk⟩ : ∃ k, (perPage (c : Int)).toNat = k + 1 := ⟨(perPage (c : Int)).toNat - 1, by omega⟩
    have hf := fun j hj => grTo_first (b := h.Bytes) sh.bl hp hcl j hj k (by omega)
    rw [show (((p * 64 + 8 : Nat) : Int)).toNat = p * 64 + 8 by omega, show (4 : Int).toNat = 4 from rfl]
    unfold grantH
    simp only []
    rw [hk]
    have f0 := hf 0 (by decide)
    have f1 := hf 1 (by decide)
    have f2 := hf 2 (by decide)
    have f3 := hf 3 (by decide)
    simp only [loadTo, List.getD_eq_getElem?_getD, f0, f1, f2, f3]
    decide
end Go.Proofs.YtpjijbonpjoamaaGreat

/-
  A page granted in a memory: the contract.
-/
namespace Go.Proofs.YtpjijbonpjoamaaGreat
open Go.RowKit

set_option maxRecDepth 100000 in
set_option maxHeartbeats 8000000 in
theorem granted_yes (w : World) (H : HMem) (x : Mem) (p c : Nat) (h : RdMem w w.heap.size H x) (hs : sizeMem x ≤ 536870912) (hok : memOkB x = true) (hc : c < 3) (hp : idxOf (fun y => y == -1) x.Heap.Class = (p : Int)) :
    Calls Tryz.prog 53 #[.agg #[.slice H.Heap.Bytes.a H.Heap.Bytes.len H.Heap.Bytes.cap, .slice H.Heap.Class.a H.Heap.Class.len H.Heap.Class.cap, .slice H.Lists.Global.a H.Lists.Global.len H.Lists.Global.cap, .slice H.Lists.Own.a H.Lists.Own.len H.Lists.Own.cap], .int .i64 c] w fun e w' => ∃ H' : HMem, e = .returned (.tuple #[.agg #[.slice H'.Heap.Bytes.a H'.Heap.Bytes.len H'.Heap.Bytes.cap, .slice H'.Heap.Class.a H'.Heap.Class.len H'.Heap.Class.cap, .slice H'.Lists.Global.a H'.Lists.Global.len H'.Lists.Global.cap, .slice H'.Lists.Own.a H'.Lists.Own.len H'.Lists.Own.cap], .int .i64 ((p * 4 : Nat) : Int)]) ∧ OwMem w' H' (grantM x p c) ∧ (∀ g ∈ H'.foot, w.heap.size ≤ g) ∧ Below w.heap.size w w' := by
  have hsh2 : sizeHeap x.Heap ≤ 536870912 ∧ sizeLists x.Lists ≤ 536870912 := by unfold sizeMem at hs; omega
  have hgr := fun (W : World) (hW : Below w.heap.size w W) => Grant_yes W H.Heap x.Heap p c (rdHeap_up h.Heap hW) hsh2.1 (mem_heap hok) hc hp
  have hcl := fun (W : World) (hW : Below w.heap.size w W) => copyLists_impl W H.Lists x.Lists (rdLists_up h.Lists hW) hsh2.2
  obtain ⟨hl3, hl9⟩ := lists_len (mem_lists hok)
  have H3 := Hid.mk_ hl3
  have HPP := Hid.mk_ (perPage_ge (c := (c : Int)) (inB_iff.2 ⟨by omega, by omega⟩))
  obtain ⟨n, hn, hn4, hnn⟩ := perPage_nat hc
  rw [hnn] at hgr
  have B_a : Box ((w.alloc (.cells #[.slice H.Heap.Bytes.a H.Heap.Bytes.len H.Heap.Bytes.cap, .slice H.Heap.Class.a H.Heap.Class.len H.Heap.Class.cap, .slice H.Lists.Global.a H.Lists.Global.len H.Lists.Global.cap, .slice H.Lists.Own.a H.Lists.Own.len H.Lists.Own.cap] 36)).alloc (.cells #[.slice none 0 0, .slice none 0 0, .slice none 0 0, .slice none 0 0] 36)) (w.heap.size) [.slice H.Heap.Bytes.a H.Heap.Bytes.len H.Heap.Bytes.cap, .slice H.Heap.Class.a H.Heap.Class.len H.Heap.Class.cap, .slice H.Lists.Global.a H.Lists.Global.len H.Lists.Global.cap, .slice H.Lists.Own.a H.Lists.Own.len H.Lists.Own.cap] := by
    have hbx := Box.new w #[.slice H.Heap.Bytes.a H.Heap.Bytes.len H.Heap.Bytes.cap, .slice H.Heap.Class.a H.Heap.Class.len H.Heap.Class.cap, .slice H.Lists.Global.a H.Lists.Global.len H.Lists.Global.cap, .slice H.Lists.Own.a H.Lists.Own.len H.Lists.Own.cap] 36
    exact (hbx).alloc _
  have B_r : Box ((w.alloc (.cells #[.slice H.Heap.Bytes.a H.Heap.Bytes.len H.Heap.Bytes.cap, .slice H.Heap.Class.a H.Heap.Class.len H.Heap.Class.cap, .slice H.Lists.Global.a H.Lists.Global.len H.Lists.Global.cap, .slice H.Lists.Own.a H.Lists.Own.len H.Lists.Own.cap] 36)).alloc (.cells #[.slice none 0 0, .slice none 0 0, .slice none 0 0, .slice none 0 0] 36)) (w.heap.size + 1) [.slice none 0 0, .slice none 0 0, .slice none 0 0, .slice none 0 0] := by
    have hbx := Box.new (w.alloc (.cells #[.slice H.Heap.Bytes.a H.Heap.Bytes.len H.Heap.Bytes.cap, .slice H.Heap.Class.a H.Heap.Class.len H.Heap.Class.cap, .slice H.Lists.Global.a H.Lists.Global.len H.Lists.Global.cap, .slice H.Lists.Own.a H.Lists.Own.len H.Lists.Own.cap] 36)) #[.slice none 0 0, .slice none 0 0, .slice none 0 0, .slice none 0 0] 36
    simp only [World.size_alloc] at hbx
    exact hbx
  have hB : Below w.heap.size w ((w.alloc (.cells #[.slice H.Heap.Bytes.a H.Heap.Bytes.len H.Heap.Bytes.cap, .slice H.Heap.Class.a H.Heap.Class.len H.Heap.Class.cap, .slice H.Lists.Global.a H.Lists.Global.len H.Lists.Global.cap, .slice H.Lists.Own.a H.Lists.Own.len H.Lists.Own.cap] 36)).alloc (.cells #[.slice none 0 0, .slice none 0 0, .slice none 0 0, .slice none 0 0] 36)) := by repeat (first | exact Below.refl _ _ | refine Below.alloc ?_ (by simp <;> omega) _ | refine below_grow_of ?_ (by simp <;> omega) _ _ | refine Below.drew ?_ | refine below_drewN ?_ _)
  go_enter Tryz.func53, Tryz.ntmps53
  go_wp2_with fail
  generalize hW0 : ((w.alloc (.cells #[.slice H.Heap.Bytes.a H.Heap.Bytes.len H.Heap.Bytes.cap, .slice H.Heap.Class.a H.Heap.Class.len H.Heap.Class.cap, .slice H.Lists.Global.a H.Lists.Global.len H.Lists.Global.cap, .slice H.Lists.Own.a H.Lists.Own.len H.Lists.Own.cap] 36)).alloc (.cells #[.slice none 0 0, .slice none 0 0, .slice none 0 0, .slice none 0 0] 36)) = w0 at B_a B_r hB ⊢
  clear hW0
  have zz_a := B_a.lt
  have zz_r := B_r.lt
  have q_a_0 := B_a.cell 0 _ rfl
  have q_a_1 := B_a.cell 1 _ rfl
  have q_a_2 := B_a.cell 2 _ rfl
  have q_a_3 := B_a.cell 3 _ rfl
  have fr_a := B_a.fro
  have z_a := B_a.lt
  have q_r_0 := B_r.cell 0 _ rfl
  have q_r_1 := B_r.cell 1 _ rfl
  have q_r_2 := B_r.cell 2 _ rfl
  have q_r_3 := B_r.cell 3 _ rfl
  have fr_r := B_r.fro
  have z_r := B_r.lt
  have HS1 := Hid.mk_ (show szLL x.Lists.Global ≤ 536870912 by have := hsh2.2; unfold sizeLists at this; omega)
  clear hsh2 hs hok hp hl3 hl9
  refine (hgr _ hB).mono ?_
  rintro e w1 ⟨K_g, v_s, rfl, o_g, o_v, l_g, lv_s, hb⟩
  have l_v := fun g hg => (lv_s g hg).1
  have n_v := fun g hg => (lv_s g hg).2
  clear lv_s
  have u_g := o_g.lt
  have u_v := foot_lt o_v
  replace B_a := B_a.below hb
  replace B_r := B_r.below hb
  replace hB := hB.trans (hb.mono hB.size)
  have sz := hb.size
  clear hb
  replace q_a_0 := B_a.cell 0 _ rfl
  replace q_a_1 := B_a.cell 1 _ rfl
  replace q_a_2 := B_a.cell 2 _ rfl
  replace q_a_3 := B_a.cell 3 _ rfl
  replace fr_a := B_a.fro
  replace z_a := B_a.lt
  replace q_r_0 := B_r.cell 0 _ rfl
  replace q_r_1 := B_r.cell 1 _ rfl
  replace q_r_2 := B_r.cell 2 _ rfl
  replace q_r_3 := B_r.cell 3 _ rfl
  replace fr_r := B_r.fro
  replace z_r := B_r.lt
  clear hgr
  go_upto_region 2 with (fail)
  replace B_a := B_a.alloc (.cells #[.slice K_g.Bytes.a K_g.Bytes.len K_g.Bytes.cap, .slice K_g.Class.a K_g.Class.len K_g.Class.cap] 31)
  replace B_r := B_r.alloc (.cells #[.slice K_g.Bytes.a K_g.Bytes.len K_g.Bytes.cap, .slice K_g.Class.a K_g.Class.len K_g.Class.cap] 31)
  replace o_g := o_g.alloc_ (.cells #[.slice K_g.Bytes.a K_g.Bytes.len K_g.Bytes.cap, .slice K_g.Class.a K_g.Class.len K_g.Class.cap] 31)
  replace o_v := o_v.alloc_ (.cells #[.slice K_g.Bytes.a K_g.Bytes.len K_g.Bytes.cap, .slice K_g.Class.a K_g.Class.len K_g.Class.cap] 31)
  replace hB := hB.alloc hB.size (.cells #[.slice K_g.Bytes.a K_g.Bytes.len K_g.Bytes.cap, .slice K_g.Class.a K_g.Class.len K_g.Class.cap] 31)
  have B_p : Box (w1.alloc (.cells #[.slice K_g.Bytes.a K_g.Bytes.len K_g.Bytes.cap, .slice K_g.Class.a K_g.Class.len K_g.Class.cap] 31)) w1.heap.size [.slice K_g.Bytes.a K_g.Bytes.len K_g.Bytes.cap, .slice K_g.Class.a K_g.Class.len K_g.Class.cap] := Box.new w1 #[.slice K_g.Bytes.a K_g.Bytes.len K_g.Bytes.cap, .slice K_g.Class.a K_g.Class.len K_g.Class.cap] 31
  have zz_p := B_p.lt
  have sz : w1.heap.size ≤ (w1.alloc (.cells #[.slice K_g.Bytes.a K_g.Bytes.len K_g.Bytes.cap, .slice K_g.Class.a K_g.Class.len K_g.Class.cap] 31)).heap.size := Nat.le_of_lt B_p.lt
  generalize hG : (w1.alloc (.cells #[.slice K_g.Bytes.a K_g.Bytes.len K_g.Bytes.cap, .slice K_g.Class.a K_g.Class.len K_g.Class.cap] 31)) = w2 at B_a B_r o_g o_v hB B_p zz_p sz ⊢
  clear hG
  replace q_a_0 := B_a.cell 0 _ rfl
  replace q_a_1 := B_a.cell 1 _ rfl
  replace q_a_2 := B_a.cell 2 _ rfl
  replace q_a_3 := B_a.cell 3 _ rfl
  replace fr_a := B_a.fro
  replace z_a := B_a.lt
  replace q_r_0 := B_r.cell 0 _ rfl
  replace q_r_1 := B_r.cell 1 _ rfl
  replace q_r_2 := B_r.cell 2 _ rfl
  replace q_r_3 := B_r.cell 3 _ rfl
  replace fr_r := B_r.fro
  replace z_r := B_r.lt
  have q_p_0 := B_p.cell 0 _ rfl
  have q_p_1 := B_p.cell 1 _ rfl
  have fr_p := B_p.fro
  have z_p := B_p.lt
  go_upto_region 2 with (fail)
  go_cut [8] from 8 to 20 (fun v8 wx => ∃ (go : Nat) (K_l : HLists), v8 = .pointer (some ⟨go, 0, none⟩) ∧ Box wx (w.heap.size) [.slice H.Heap.Bytes.a H.Heap.Bytes.len H.Heap.Bytes.cap, .slice H.Heap.Class.a H.Heap.Class.len H.Heap.Class.cap, .slice H.Lists.Global.a H.Lists.Global.len H.Lists.Global.cap, .slice H.Lists.Own.a H.Lists.Own.len H.Lists.Own.cap] ∧ Box wx (w.heap.size + 1) [.slice none 0 0, .slice none 0 0, .slice none 0 0, .slice none 0 0] ∧ Box wx (w1.heap.size) [.slice K_g.Bytes.a K_g.Bytes.len K_g.Bytes.cap, .slice K_g.Class.a K_g.Class.len K_g.Class.cap] ∧ Box wx go [.slice K_g.Bytes.a K_g.Bytes.len K_g.Bytes.cap, .slice K_g.Class.a K_g.Class.len K_g.Class.cap, .slice K_l.Global.a K_l.Global.len K_l.Global.cap, .slice K_l.Own.a K_l.Own.len K_l.Own.cap] ∧ OwHeap wx K_g (grantH x.Heap p c) ∧ OwL FI 3 wx v_s.val (slotsTo p n) ∧ OwLists wx K_l x.Lists ∧ (∀ g ∈ K_l.foot, w2.heap.size ≤ g ∧ g ≠ go) ∧ w2.heap.size ≤ go ∧ Below w.heap.size w wx ∧ w2.heap.size ≤ wx.heap.size)
  case first =>
    go_region_with (first | (go_at_call 77; (first | ((with_reducible refine (hcl _ hB).mono ?_); rintro e wq ⟨K_l, rfl, o_l, l_l, hb⟩; have u_l := o_l.lt; replace B_a := B_a.below hb; replace B_r := B_r.below hb; replace B_p := B_p.below hb; replace o_g := o_g.step0 hb; replace o_v := o_v.step0 hb; replace hB := hB.trans (hb.mono hB.size); have sz := hb.size; (try replace B_o := B_o.below hb); (try replace q_o_0 := B_o.cell 0 _ rfl); (try replace q_o_1 := B_o.cell 1 _ rfl); (try replace q_o_2 := B_o.cell 2 _ rfl); (try replace q_o_3 := B_o.cell 3 _ rfl); (try replace fr_o := B_o.fro); (try replace z_o := B_o.lt); clear hb; replace q_a_0 := B_a.cell 0 _ rfl; replace q_a_1 := B_a.cell 1 _ rfl; replace q_a_2 := B_a.cell 2 _ rfl; replace q_a_3 := B_a.cell 3 _ rfl; replace fr_a := B_a.fro; replace z_a := B_a.lt; replace q_r_0 := B_r.cell 0 _ rfl; replace q_r_1 := B_r.cell 1 _ rfl; replace q_r_2 := B_r.cell 2 _ rfl; replace q_r_3 := B_r.cell 3 _ rfl; replace fr_r := B_r.fro; replace z_r := B_r.lt; replace q_p_0 := B_p.cell 0 _ rfl; replace q_p_1 := B_p.cell 1 _ rfl; replace fr_p := B_p.fro; replace z_p := B_p.lt) | ((with_reducible refine (hcl _ hB.drew).mono ?_); rintro e wq ⟨K_l, rfl, o_l, l_l, hb⟩; replace hb := undrew hb; replace l_l := fcdrew l_l; have u_l := o_l.lt; replace B_a := B_a.below hb; replace B_r := B_r.below hb; replace B_p := B_p.below hb; replace o_g := o_g.step0 hb; replace o_v := o_v.step0 hb; replace hB := hB.trans (hb.mono hB.size); have sz := hb.size; (try replace B_o := B_o.below hb); (try replace q_o_0 := B_o.cell 0 _ rfl); (try replace q_o_1 := B_o.cell 1 _ rfl); (try replace q_o_2 := B_o.cell 2 _ rfl); (try replace q_o_3 := B_o.cell 3 _ rfl); (try replace fr_o := B_o.fro); (try replace z_o := B_o.lt); clear hb; replace q_a_0 := B_a.cell 0 _ rfl; replace q_a_1 := B_a.cell 1 _ rfl; replace q_a_2 := B_a.cell 2 _ rfl; replace q_a_3 := B_a.cell 3 _ rfl; replace fr_a := B_a.fro; replace z_a := B_a.lt; replace q_r_0 := B_r.cell 0 _ rfl; replace q_r_1 := B_r.cell 1 _ rfl; replace q_r_2 := B_r.cell 2 _ rfl; replace q_r_3 := B_r.cell 3 _ rfl; replace fr_r := B_r.fro; replace z_r := B_r.lt; replace q_p_0 := B_p.cell 0 _ rfl; replace q_p_1 := B_p.cell 1 _ rfl; replace fr_p := B_p.fro; replace z_p := B_p.lt) | ((with_reducible refine (hcl _ (hB.alloc hB.size _)).mono ?_); rintro e wq ⟨K_l, rfl, o_l, l_l, hb⟩; simp only [World.size_alloc] at l_l; have u_l := o_l.lt; replace B_a := (B_a.alloc _).below hb; replace B_r := (B_r.alloc _).below hb; replace B_p := (B_p.alloc _).below hb; replace o_g := o_g.step hb; replace o_v := o_v.step hb; replace hB := below_step hB hb hB.size; have sz := hb.size; simp only [World.size_alloc] at sz; have B_o := Box.below (Box.new _ #[.slice none 0 0, .slice none 0 0, .slice none 0 0, .slice none 0 0] 36) hb; have q_o_0 := B_o.cell 0 _ rfl; have q_o_1 := B_o.cell 1 _ rfl; have q_o_2 := B_o.cell 2 _ rfl; have q_o_3 := B_o.cell 3 _ rfl; have fr_o := B_o.fro; have z_o := B_o.lt; clear hb; replace q_a_0 := B_a.cell 0 _ rfl; replace q_a_1 := B_a.cell 1 _ rfl; replace q_a_2 := B_a.cell 2 _ rfl; replace q_a_3 := B_a.cell 3 _ rfl; replace fr_a := B_a.fro; replace z_a := B_a.lt; replace q_r_0 := B_r.cell 0 _ rfl; replace q_r_1 := B_r.cell 1 _ rfl; replace q_r_2 := B_r.cell 2 _ rfl; replace q_r_3 := B_r.cell 3 _ rfl; replace fr_r := B_r.fro; replace z_r := B_r.lt; replace q_p_0 := B_p.cell 0 _ rfl; replace q_p_1 := B_p.cell 1 _ rfl; replace fr_p := B_p.fro; replace z_p := B_p.lt) | ((with_reducible refine (hcl _ (hB.alloc hB.size _).drew).mono ?_); rintro e wq ⟨K_l, rfl, o_l, l_l, hb⟩; replace hb := undrew hb; replace l_l := fcdrew l_l; simp only [World.size_alloc] at l_l; have u_l := o_l.lt; replace B_a := (B_a.alloc _).below hb; replace B_r := (B_r.alloc _).below hb; replace B_p := (B_p.alloc _).below hb; replace o_g := o_g.step hb; replace o_v := o_v.step hb; replace hB := below_step hB hb hB.size; have sz := hb.size; simp only [World.size_alloc] at sz; have B_o := Box.below (Box.new _ #[.slice none 0 0, .slice none 0 0, .slice none 0 0, .slice none 0 0] 36) hb; have q_o_0 := B_o.cell 0 _ rfl; have q_o_1 := B_o.cell 1 _ rfl; have q_o_2 := B_o.cell 2 _ rfl; have q_o_3 := B_o.cell 3 _ rfl; have fr_o := B_o.fro; have z_o := B_o.lt; clear hb; replace q_a_0 := B_a.cell 0 _ rfl; replace q_a_1 := B_a.cell 1 _ rfl; replace q_a_2 := B_a.cell 2 _ rfl; replace q_a_3 := B_a.cell 3 _ rfl; replace fr_a := B_a.fro; replace z_a := B_a.lt; replace q_r_0 := B_r.cell 0 _ rfl; replace q_r_1 := B_r.cell 1 _ rfl; replace q_r_2 := B_r.cell 2 _ rfl; replace q_r_3 := B_r.cell 3 _ rfl; replace fr_r := B_r.fro; replace z_r := B_r.lt; replace q_p_0 := B_p.cell 0 _ rfl; replace q_p_1 := B_p.cell 1 _ rfl; replace fr_p := B_p.fro; replace z_p := B_p.lt))))
    all_goals
      go_wp2_with fail
      go_meet
      first | exact ⟨_, K_l, rfl, B_a.alloc _, B_r.alloc _, B_p.alloc _, Box.new _ _ _, o_g.alloc_ _, o_v.alloc_ _, o_l.alloc_ _, fun g hg => ⟨by have := l_l g hg; omega, by have := u_l g hg; omega⟩, by omega, hB.alloc hB.size _, by simp <;> omega⟩ | (obtain ⟨go, hgo, B_go⟩ := B_o.ad; rw [← hgo]; exact ⟨go, K_l, rfl, ((((B_a.other (by omega) _).other (by omega) _).other (by omega) _).other (by omega) _), ((((B_r.other (by omega) _).other (by omega) _).other (by omega) _).other (by omega) _), ((((B_p.other (by omega) _).other (by omega) _).other (by omega) _).other (by omega) _), ((((B_go.set 0 _).set 1 _).set 2 _).set 3 _), o_g.chg (F := [go]) (by repeat (first | with_reducible exact Chg.refl _ _ | with_reducible refine Chg.set_ ?_ (by simp) _ | with_reducible refine Chg.alloc_ ?_ _ | with_reducible refine Chg.drew_ ?_)) (fun g hg hm => by simp only [List.mem_cons, List.not_mem_nil, or_false] at hm; have := l_g g hg; have := u_g g hg; omega), o_v.chg (F := [go]) (by repeat (first | with_reducible exact Chg.refl _ _ | with_reducible refine Chg.set_ ?_ (by simp) _ | with_reducible refine Chg.alloc_ ?_ _ | with_reducible refine Chg.drew_ ?_)) (fun g hg hm => by simp only [List.mem_cons, List.not_mem_nil, or_false] at hm; have := l_v g hg; have := u_v g hg; omega), o_l.chg (F := [go]) (by repeat (first | with_reducible exact Chg.refl _ _ | with_reducible refine Chg.set_ ?_ (by simp) _ | with_reducible refine Chg.alloc_ ?_ _ | with_reducible refine Chg.drew_ ?_)) (fun g hg hm => by simp only [List.mem_cons, List.not_mem_nil, or_false] at hm; have := l_l g hg; have := u_l g hg; omega), fun g hg => ⟨by have := l_l g hg; omega, by have := l_l g hg; have := u_l g hg; omega⟩, by omega, Below.trans hB (by repeat (first | with_reducible exact Below.refl _ _ | with_reducible refine Below.setCell ?_ (by simp <;> omega) _ | with_reducible refine Below.alloc ?_ (by simp <;> omega) _ | with_reducible refine Below.drew ?_)), by simp <;> omega⟩)
  case rest =>
    clear B_a fr_a z_a q_a_0 q_a_1 q_a_2 q_a_3
    clear B_r fr_r z_r q_r_0 q_r_1 q_r_2 q_r_3
    clear B_p fr_p z_p q_p_0 q_p_1
    clear o_g
    clear o_v
    clear hB
    obtain ⟨go, K_l, rfl, B_a, B_r, B_p, B_o, o_g, o_v, o_l, ln_l, lo_o, hB, sz⟩ := hcut
    have l_l := fun g hg => (ln_l g hg).1
    have ne_o := fun g hg => (ln_l g hg).2
    have u_l := o_l.lt
    clear ln_l
    have zz_o := B_o.lt
    have q_a_0 := B_a.cell 0 _ rfl
    have q_a_1 := B_a.cell 1 _ rfl
    have q_a_2 := B_a.cell 2 _ rfl
    have q_a_3 := B_a.cell 3 _ rfl
    have fr_a := B_a.fro
    have z_a := B_a.lt
    have q_r_0 := B_r.cell 0 _ rfl
    have q_r_1 := B_r.cell 1 _ rfl
    have q_r_2 := B_r.cell 2 _ rfl
    have q_r_3 := B_r.cell 3 _ rfl
    have fr_r := B_r.fro
    have z_r := B_r.lt
    have q_p_0 := B_p.cell 0 _ rfl
    have q_p_1 := B_p.cell 1 _ rfl
    have fr_p := B_p.fro
    have z_p := B_p.lt
    have q_o_0 := B_o.cell 0 _ rfl
    have q_o_1 := B_o.cell 1 _ rfl
    have q_o_2 := B_o.cell 2 _ rfl
    have q_o_3 := B_o.cell 3 _ rfl
    have fr_o := B_o.fro
    have z_o := B_o.lt
    clear hcl
    have hsl := slotsTo_len p n
    obtain ⟨av, nv, bv⟩ := v_s
    have hln := RdL.len_ (a := av) (n := nv) (c := bv) o_v.rd'
    rw [hsl] at hln
    obtain rfl : nv = n := hln.1
    clear hln
    obtain ⟨gv, cv, hvv, hgv⟩ := OwL.form_pos (v := .slice av nv bv) o_v (by rw [hsl]; have := HPP.out; omega)
    injection hvv with i1 i2 i3
    subst i1
    clear i2 i3 cv
    have hnb : nv ≤ bv := by
      obtain ⟨_, cq, hvq, hnb, _⟩ := o_v.rd'
      injection hvq with _ _ i3
      subst i3
      rw [hsl] at hnb
      exact hnb
    obtain ⟨⟨A1, n1, p1⟩, T1, ⟨A2, n2, p2⟩, T2⟩ := K_l
    obtain ⟨g1, c1, hv1, hg1⟩ := OwLL.at_form (v := .slice A1 n1 p1) o_l.Global (by rw [H3.out]; decide)
    injection hv1 with i1 i2 i3
    subst i1 i2 i3
    obtain ⟨lg, hlg⟩ : ∃ q, x.Lists.Global[c]? = some q := ⟨_, List.getElem?_eq_getElem (by rw [H3.out]; exact hc)⟩
    have HG := Hid.mk_ hlg
    have hszl : lg.length ≤ 536870912 := Nat.le_trans (le_szLL (List.mem_of_getElem? hlg)) HS1.out
    clear hlg
    obtain ⟨sg, hsg2⟩ : ∃ q, T1[c]? = some q := ⟨_, List.getElem?_eq_getElem (by rw [o_l.Global.len, H3.out]; exact hc)⟩
    have ing := o_l.Global.inner c sg _ hsg2 HG.out
    have pg := o_l.Global.outer.cell_ (j := 0) hsg2 (by decide)
    simp only [FS, Nat.mul_one, Nat.add_zero] at pg
    obtain ⟨Ag, cg, hvg, _⟩ := ing.rd'
    obtain ⟨ag, ng, bg⟩ := sg
    injection hvg with k1 k2 k3
    subst k1 k2 k3
    have pg2 : _ = some (Value.slice ag lg.length bg) := pg
    clear pg
    have ff := o_l.Global.outer.frozen_ c
    have HV := Hid.mk_ hsg2
    have hkk : c < x.Lists.Global.length := by rw [H3.out]; exact hc
    have lg1 := l_l g1 (HLists.mem_foot.2 (.inl (mem_foot2.2 (.inl rfl))))
    have hn1 : 1 ≤ nv := by have := HPP.out; omega
    have HNE := Hid.mk_ (OwLL.head_ne (g := g1) (n := x.Lists.Global.length) (c := p1) o_l.Global hsg2)
    have z_g : g1 < wc.heap.size := hg1
    have HSF := Hid.mk_ (show ∀ b ∈ foot1 (SV.val ⟨ag, lg.length, bg⟩), b ∈ foot2 (.slice (some ⟨g1, 0, none⟩) x.Lists.Global.length p1) T1 from fun b hb => mem_foot2.2 (.inr ⟨_, List.mem_of_getElem? HV.out, mem_foot1.1 hb⟩))
    have HFT := Hid.mk_ (show ∀ b ∈ foot1 (SV.val ⟨ag, lg.length, bg⟩), b ∈ HLists.foot ⟨⟨some ⟨g1, 0, none⟩, x.Lists.Global.length, p1⟩, T1, ⟨A2, n2, p2⟩, T2⟩ from fun b hb => HLists.mem_foot.2 (.inl (HSF.out b hb)))
    have ne1 := ne_o g1 (HLists.mem_foot.2 (.inl (mem_foot2.2 (.inl rfl))))
    have uv1 : gv < w1.heap.size := u_v gv (foot1_some.2 rfl)
    have n_r : g1 ≠ w.heap.size + 1 := by omega
    have m_r : w.heap.size + 1 ≠ g1 := by omega
    have n_o : g1 ≠ go := by omega
    have m_o : go ≠ g1 := by omega
    have n_gv : g1 ≠ gv := by omega
    have m_gv : gv ≠ g1 := by omega
    have hv0 : (slotsTo p nv)[0]? = some ((p * 4 : Nat) : Int) := by unfold slotsTo; rw [List.getElem?_map, List.getElem?_range (by omega)]; rfl
    have HV0 := Hid.mk_ hv0
    clear hv0
    have HD : Hid ((grantM x p c).Lists = { x.Lists with Global := x.Lists.Global.set c (lg ++ (slotsTo p nv).drop 1) }) := by show _ = _; unfold grantM; simp only []; rw [hnn, List.getD_eq_getElem?_getD, HG.out]; rfl
    clear HPP hn hnn B_a q_a_0 q_a_1 q_a_2 q_a_3 fr_a z_a B_p q_p_0 q_p_1 fr_p z_p
    obtain ⟨wo, rfl⟩ : ∃ wo : World, wo = wc := ⟨_, rfl⟩
    have hro : OwL FI 3 wo.drew (.slice ag lg.length bg) lg := OwL.keep (show OwL FI 3 wo (.slice ag lg.length bg) lg from ing) (fun _ _ => rfl)
    go_upto_region 5 with (fail)
    go_cut [] from 21 to 40 (fun wx => ∃ S9 : SV, Box wx (w.heap.size + 1) [.slice none 0 0, .slice none 0 0, .slice none 0 0, .slice none 0 0] ∧ Box wx go [.slice K_g.Bytes.a K_g.Bytes.len K_g.Bytes.cap, .slice K_g.Class.a K_g.Class.len K_g.Class.cap, .slice (some ⟨g1, 0, none⟩) x.Lists.Global.length p1, .slice A2 n2 p2] ∧ OwHeap wx K_g (grantH x.Heap p c) ∧ OwLists wx ⟨⟨some ⟨g1, 0, none⟩, x.Lists.Global.length, p1⟩, T1.set c S9, ⟨A2, n2, p2⟩, T2⟩ (grantM x p c).Lists ∧ wx.cell? ⟨gv, 0, none⟩ = some (.int .i64 ((p * 4 : Nat) : Int)) ∧ (∀ g ∈ HLists.foot ⟨⟨some ⟨g1, 0, none⟩, x.Lists.Global.length, p1⟩, T1.set c S9, ⟨A2, n2, p2⟩, T2⟩, w2.heap.size ≤ g ∧ g ≠ go) ∧ Below w.heap.size w wx ∧ wo.heap.size ≤ wx.heap.size)
    case first =>
      rename_i J9 K9 hJ9 hK9
      by_cases hb1 : bv = 1
      · subst hb1
        obtain rfl : nv = 1 := by omega
        have hlit : RdL FI wo.drew wo.drew.heap.size (.slice (some ⟨gv, 0, none⟩) (1 - 1) (1 - 1)) ((slotsTo p 1).drop 1) := ⟨_, 0, rfl, by simp [slotsTo], by simp [maxLen], fun h => absurd (by simp [slotsTo]) h⟩
        have hn0 : ¬ ((1 : Int) = 0) := by omega
        have hdl : ((slotsTo p 1).drop 1).length = 1 - 1 := by rw [List.length_drop, hsl]
        have hsz : lg.length + ((slotsTo p 1).drop 1).length ≤ 1073741824 := by rw [hdl]; omega
        go_region_law (refine step_append_flat Tryz.stInt rfl (.tmp 35) (.tmp 37) rfl (v := .slice ag lg.length bg) (y := .slice (some ⟨gv, 0, none⟩) (1 - 1) (1 - 1)) (l := lg) (m := (slotsTo p 1).drop 1) (by simp [Act.eval]) (by simp [Act.eval]) hro hlit hsz ?_; intro v9 w9 ho9 hg9 hat9; obtain ⟨A9, c9, hv9, _⟩ := ho9.rd'; rw [List.length_append, hdl] at hv9; subst hv9; have hx := Chg.of_grown hg9; have ff9 : w9.frozen? ⟨g1, c, none⟩ = false := (hx.frozen g1 c z_g HNE.out).trans ff; have pp9 : w9.cell? ⟨g1, c, none⟩ = some (Value.slice ag lg.length bg) := (hx.cell g1 c z_g HNE.out).trans pg2; replace B_r := B_r.drew.chg hx (fun hm => by have := l_l _ (HFT.out _ hm); omega); replace q_r_0 := B_r.cell 0 _ rfl; replace q_r_1 := B_r.cell 1 _ rfl; replace q_r_2 := B_r.cell 2 _ rfl; replace q_r_3 := B_r.cell 3 _ rfl; replace fr_r := B_r.fro; replace z_r := B_r.lt; replace B_o := B_o.drew.chg hx (fun hm => by have := l_l _ (HFT.out _ hm); have := ne_o _ (HFT.out _ hm); omega); replace q_o_0 := B_o.cell 0 _ rfl; replace q_o_1 := B_o.cell 1 _ rfl; replace q_o_2 := B_o.cell 2 _ rfl; replace q_o_3 := B_o.cell 3 _ rfl; replace fr_o := B_o.fro; replace z_o := B_o.lt; replace o_v := (OwL.keep (w' := wo.drew) (show OwL FI 3 wo (.slice (some ⟨gv, 0, none⟩) 1 1) (slotsTo p 1) from o_v) (fun _ _ => rfl)).chg hx (fun g hg hm => by have := l_l _ (HFT.out _ hm); have := u_v g hg; omega); have pv9 := o_v.cell_ HV0.out FI.pos; simp only [FI, Nat.mul_one, Nat.add_zero] at pv9)
        all_goals
          refine hK9 _ _ (Met.intro (hJ9 _ _ ?_))
          (repeat apply Exists.intro)
          refine ⟨?_, rfl⟩
          have oD : OwLists wo.drew ⟨⟨some ⟨g1, 0, none⟩, x.Lists.Global.length, p1⟩, T1, ⟨A2, n2, p2⟩, T2⟩ x.Lists := o_l.keep (fun _ _ => rfl)
          have hN := OwLL.app_row (s' := ⟨A9, lg.length + (1 - 1), c9⟩) oD.Global HV.out ho9 hg9 hat9
          change OwLL _ _ _ (World.setCell _ _ (.slice A9 (lg.length + (1 - 1)) c9)) _ _ _ at hN
          have hO : OwLL FI 3 80 _ _ _ x.Lists.Own := (oD.Own.chg hx (fun b hb hm => o_l.d01 b (HSF.out b hm) hb)).chg (F := [g1]) ((Chg.refl _ w9).set_ (g := g1) (i := c) (by simp) (.slice A9 (lg.length + (1 - 1)) c9)) (fun b hb hm => by simp only [List.mem_cons, List.not_mem_nil, or_false] at hm; subst hm; exact o_l.d01 b (mem_foot2.2 (.inl rfl)) hb)
          have uO := (oD.Own).lt
          have hB9 : Below w.heap.size w (w9.setCell ⟨g1, c, none⟩ (.slice A9 (lg.length + (1 - 1)) c9)) := (hB.drew.trans (hx.below hB.size (fun g hm => by have := l_l _ (HFT.out _ hm); omega))).setCell (show w.heap.size ≤ g1 by omega) _
          have hs9 : wo.heap.size ≤ w9.heap.size := hx.size
          have hG9 := ((o_g.keep (w' := wo.drew) (fun _ _ => rfl)).chg hx (fun g hg hm => by have := u_g g hg; have := l_l _ (HFT.out _ hm); omega)).chg (F := [g1]) ((Chg.refl _ w9).set_ (g := g1) (i := c) (by simp) (.slice A9 (lg.length + (1 - 1)) c9)) (fun g hg hm => by simp only [List.mem_cons, List.not_mem_nil, or_false] at hm; have := u_g g hg; omega)
          refine ⟨⟨A9, lg.length + (1 - 1), c9⟩, B_r.other (by omega) _, B_o.other (by omega) _, hG9, by rw [HD.out]; exact ⟨hN, hO, fun b hb hm => by rcases foot2_set hb with hb | hb; (exact o_l.d01 b hb hm); (rcases foot_app hat9 b hb with hb | hb; (exact o_l.d01 b (HSF.out b hb) hm); (have := uO b hm; omega))⟩, by simp [pv9, go_sem], fun g hg => ?_, hB9, by simp; exact hs9⟩
          rcases HLists.mem_foot.1 hg with hg | hg
          · rcases foot2_set hg with hg | hg
            · have h1 : g ∈ HLists.foot ⟨⟨some ⟨g1, 0, none⟩, x.Lists.Global.length, p1⟩, T1, ⟨A2, n2, p2⟩, T2⟩ := HLists.mem_foot.2 (.inl hg)
              exact ⟨l_l g h1, ne_o g h1⟩
            · rcases foot_app hat9 g hg with hg | hg
              · exact ⟨l_l g (HFT.out g hg), ne_o g (HFT.out g hg)⟩
              · have h2 : wo.drew.heap.size = wo.heap.size := rfl
                exact ⟨by omega, by omega⟩
          · have h1 : g ∈ HLists.foot ⟨⟨some ⟨g1, 0, none⟩, x.Lists.Global.length, p1⟩, T1, ⟨A2, n2, p2⟩, T2⟩ := HLists.mem_foot.2 (.inr hg)
            exact ⟨l_l g h1, ne_o g h1⟩
      · have hi1 : (1 : Int) ≤ (nv : Int) := by omega
        have hlit : RdL FI wo.drew wo.drew.heap.size (.slice (some ⟨gv, 1, none⟩) (nv - 1) (bv - 1)) ((slotsTo p nv).drop 1) := by
          have := RdL.subI (OwL.keep (w' := wo.drew) (show OwL FI 3 wo (.slice (some ⟨gv, 0, none⟩) nv bv) (slotsTo p nv) from o_v) (fun _ _ => rfl)).rd' 1 (nv - 1) (by rw [hsl]; omega)
          rw [List.take_of_length_le (by rw [List.length_drop, hsl]; exact Nat.le_refl _)] at this
          simpa using this
        have hn0 : ¬ ((nv : Int) = 0) := by omega
        have hdl : ((slotsTo p nv).drop 1).length = nv - 1 := by rw [List.length_drop, hsl]
        have hsz : lg.length + ((slotsTo p nv).drop 1).length ≤ 1073741824 := by rw [hdl]; omega
        go_region_law (refine step_append_flat Tryz.stInt rfl (.tmp 35) (.tmp 37) rfl (v := .slice ag lg.length bg) (y := .slice (some ⟨gv, 1, none⟩) (nv - 1) (bv - 1)) (l := lg) (m := (slotsTo p nv).drop 1) (by simp [Act.eval]) (by simp [Act.eval]) hro hlit hsz ?_; intro v9 w9 ho9 hg9 hat9; obtain ⟨A9, c9, hv9, _⟩ := ho9.rd'; rw [List.length_append, hdl] at hv9; subst hv9; have hx := Chg.of_grown hg9; have ff9 : w9.frozen? ⟨g1, c, none⟩ = false := (hx.frozen g1 c z_g HNE.out).trans ff; have pp9 : w9.cell? ⟨g1, c, none⟩ = some (Value.slice ag lg.length bg) := (hx.cell g1 c z_g HNE.out).trans pg2; replace B_r := B_r.drew.chg hx (fun hm => by have := l_l _ (HFT.out _ hm); omega); replace q_r_0 := B_r.cell 0 _ rfl; replace q_r_1 := B_r.cell 1 _ rfl; replace q_r_2 := B_r.cell 2 _ rfl; replace q_r_3 := B_r.cell 3 _ rfl; replace fr_r := B_r.fro; replace z_r := B_r.lt; replace B_o := B_o.drew.chg hx (fun hm => by have := l_l _ (HFT.out _ hm); have := ne_o _ (HFT.out _ hm); omega); replace q_o_0 := B_o.cell 0 _ rfl; replace q_o_1 := B_o.cell 1 _ rfl; replace q_o_2 := B_o.cell 2 _ rfl; replace q_o_3 := B_o.cell 3 _ rfl; replace fr_o := B_o.fro; replace z_o := B_o.lt; replace o_v := (OwL.keep (w' := wo.drew) (show OwL FI 3 wo (.slice (some ⟨gv, 0, none⟩) nv bv) (slotsTo p nv) from o_v) (fun _ _ => rfl)).chg hx (fun g hg hm => by have := l_l _ (HFT.out _ hm); have := u_v g hg; omega); have pv9 := o_v.cell_ HV0.out FI.pos; simp only [FI, Nat.mul_one, Nat.add_zero] at pv9)
        all_goals
          refine hK9 _ _ (Met.intro (hJ9 _ _ ?_))
          (repeat apply Exists.intro)
          refine ⟨?_, rfl⟩
          have oD : OwLists wo.drew ⟨⟨some ⟨g1, 0, none⟩, x.Lists.Global.length, p1⟩, T1, ⟨A2, n2, p2⟩, T2⟩ x.Lists := o_l.keep (fun _ _ => rfl)
          have hN := OwLL.app_row (s' := ⟨A9, lg.length + (nv - 1), c9⟩) oD.Global HV.out ho9 hg9 hat9
          change OwLL _ _ _ (World.setCell _ _ (.slice A9 (lg.length + (nv - 1)) c9)) _ _ _ at hN
          have hO : OwLL FI 3 80 _ _ _ x.Lists.Own := (oD.Own.chg hx (fun b hb hm => o_l.d01 b (HSF.out b hm) hb)).chg (F := [g1]) ((Chg.refl _ w9).set_ (g := g1) (i := c) (by simp) (.slice A9 (lg.length + (nv - 1)) c9)) (fun b hb hm => by simp only [List.mem_cons, List.not_mem_nil, or_false] at hm; subst hm; exact o_l.d01 b (mem_foot2.2 (.inl rfl)) hb)
          have uO := (oD.Own).lt
          have hB9 : Below w.heap.size w (w9.setCell ⟨g1, c, none⟩ (.slice A9 (lg.length + (nv - 1)) c9)) := (hB.drew.trans (hx.below hB.size (fun g hm => by have := l_l _ (HFT.out _ hm); omega))).setCell (show w.heap.size ≤ g1 by omega) _
          have hs9 : wo.heap.size ≤ w9.heap.size := hx.size
          have hG9 := ((o_g.keep (w' := wo.drew) (fun _ _ => rfl)).chg hx (fun g hg hm => by have := u_g g hg; have := l_l _ (HFT.out _ hm); omega)).chg (F := [g1]) ((Chg.refl _ w9).set_ (g := g1) (i := c) (by simp) (.slice A9 (lg.length + (nv - 1)) c9)) (fun g hg hm => by simp only [List.mem_cons, List.not_mem_nil, or_false] at hm; have := u_g g hg; omega)
          refine ⟨⟨A9, lg.length + (nv - 1), c9⟩, B_r.other (by omega) _, B_o.other (by omega) _, hG9, by rw [HD.out]; exact ⟨hN, hO, fun b hb hm => by rcases foot2_set hb with hb | hb; (exact o_l.d01 b hb hm); (rcases foot_app hat9 b hb with hb | hb; (exact o_l.d01 b (HSF.out b hb) hm); (have := uO b hm; omega))⟩, by simp [pv9, go_sem], fun g hg => ?_, hB9, by simp; exact hs9⟩
          rcases HLists.mem_foot.1 hg with hg | hg
          · rcases foot2_set hg with hg | hg
            · have h1 : g ∈ HLists.foot ⟨⟨some ⟨g1, 0, none⟩, x.Lists.Global.length, p1⟩, T1, ⟨A2, n2, p2⟩, T2⟩ := HLists.mem_foot.2 (.inl hg)
              exact ⟨l_l g h1, ne_o g h1⟩
            · rcases foot_app hat9 g hg with hg | hg
              · exact ⟨l_l g (HFT.out g hg), ne_o g (HFT.out g hg)⟩
              · have h2 : wo.drew.heap.size = wo.heap.size := rfl
                exact ⟨by omega, by omega⟩
          · have h1 : g ∈ HLists.foot ⟨⟨some ⟨g1, 0, none⟩, x.Lists.Global.length, p1⟩, T1, ⟨A2, n2, p2⟩, T2⟩ := HLists.mem_foot.2 (.inr hg)
            exact ⟨l_l g h1, ne_o g h1⟩
    case rest =>
      clear B_r B_o q_r_0 q_r_1 q_r_2 q_r_3 q_o_0 q_o_1 q_o_2 q_o_3 fr_r fr_o z_r z_o o_g o_l hB hro ing pg2 ff u_l l_l ne_o
      obtain ⟨S9, B_r, B_o, o_g, o_l, pv, fl, hB, sz9⟩ := hcut
      have q_r_0 := B_r.cell 0 _ rfl
      have q_r_1 := B_r.cell 1 _ rfl
      have q_r_2 := B_r.cell 2 _ rfl
      have q_r_3 := B_r.cell 3 _ rfl
      have fr_r := B_r.fro
      have z_r := B_r.lt
      have q_o_0 := B_o.cell 0 _ rfl
      have q_o_1 := B_o.cell 1 _ rfl
      have q_o_2 := B_o.cell 2 _ rfl
      have q_o_3 := B_o.cell 3 _ rfl
      have fr_o := B_o.fro
      have z_o := B_o.lt
      have hi0 : 0 < nv := hn1
      have lv0 := l_v gv (foot1_some.2 rfl)
      have n_vr : gv ≠ w.heap.size + 1 := by omega
      have n_rv : w.heap.size + 1 ≠ gv := by omega
      go_wp2_with fail
      go_region
      all_goals
        go_wp2_with fail
        refine bodyPost_ret (v := .tuple #[.agg #[.slice K_g.Bytes.a K_g.Bytes.len K_g.Bytes.cap, .slice K_g.Class.a K_g.Class.len K_g.Class.cap, .slice (some ⟨g1, 0, none⟩) x.Lists.Global.length p1, .slice A2 n2 p2], .int .i64 ((p * 4 : Nat) : Int)]) (by simp [results, Tryz.results53, go_sem, q_r_0, q_r_1, q_r_2, q_r_3]) rfl ⟨⟨K_g, ⟨⟨some ⟨g1, 0, none⟩, x.Lists.Global.length, p1⟩, T1.set c S9, ⟨A2, n2, p2⟩, T2⟩⟩, rfl, ⟨o_g.chg (F := [w.heap.size + 1]) (by repeat (first | with_reducible exact Chg.refl _ _ | with_reducible refine Chg.set_ ?_ (by simp) _ | with_reducible refine Chg.alloc_ ?_ _ | with_reducible refine Chg.drew_ ?_)) (fun g hg hm => by simp only [List.mem_cons, List.not_mem_nil, or_false] at hm; have := l_g g hg; omega), o_l.chg (F := [w.heap.size + 1]) (by repeat (first | with_reducible exact Chg.refl _ _ | with_reducible refine Chg.set_ ?_ (by simp) _ | with_reducible refine Chg.alloc_ ?_ _ | with_reducible refine Chg.drew_ ?_)) (fun g hg hm => by simp only [List.mem_cons, List.not_mem_nil, or_false] at hm; have := (fl g hg).1; omega), fun b hb hm => by have := u_g b hb; have := (fl b hm).1; omega⟩, fun b hb => by rcases HMem.mem_foot.1 hb with hb | hb; (have := l_g b hb; omega); (have := (fl b hb).1; omega), Below.trans hB (by repeat (first | with_reducible exact Below.refl _ _ | with_reducible refine Below.setCell ?_ (by simp <;> omega) _ | with_reducible refine Below.alloc ?_ (by simp <;> omega) _ | with_reducible refine Below.drew ?_))⟩
end Go.Proofs.YtpjijbonpjoamaaGreat

