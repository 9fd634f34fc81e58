/-
  Several texts in one: lemmas and contracts that the claim rests on.
-/
import Derived.Test.YtkmggglljkmjoaaGreatUHCounts1
import Derived.Deep.QuietTactic
import Derived.BigQuiet
import Derived.Deep.LoopGhost
import Derived.Deep.RegionHeld3
import Derived.WalkSpells
import Derived.Laws.Cover3
import Derived.Test.YtkmggglljkmjoaaGreatUHCounts5
import Derived.Test.YtkmggglljkmjoaaGreatUHCounts8
import Derived.Test.YtkmggglljkmjoaaGreatUHCounts4
import Derived.Test.YtkmggglljkmjoaaGreatUHCounts3
import Derived.Deep.RegionLaw
import Derived.Deep.CutRange
import Derived.Test.YtkmggglljkmjoaaGreatUHCounts2
/-
  A page granted in a memory, the other package: the contract.
-/
namespace Go.Proofs.YtkmggglljkmjoaaGreat
open Go.RowKit

set_option maxRecDepth 100000 in
set_option maxHeartbeats 8000000 in
theorem l9Grant_yes (w : World) (H : HMem) (x : Mem) (p c : Nat) (h : OwMem w H x) (hs : sizeLists x.Lists ≤ 536870912) (hsh : shapeB x.Heap = true) (hll : x.Lists.Global.length = 3) (hc : c < 3) (hp : idxOf (fun y => y == -1) x.Heap.Class = (p : Int)) :
    Calls Tryz.prog 105 #[.agg #[.slice H.Heap.Bytes.a H.Heap.Bytes.len H.Heap.Bytes.cap, .slice H.Heap.Class.a H.Heap.Class.len H.Heap.Class.cap, .slice H.Lists.Global.a H.Lists.Global.len H.Lists.Global.cap, .slice H.Lists.Own.a H.Lists.Own.len H.Lists.Own.cap], .int .i64 c] w fun e w' => ∃ H' : HMem, e = .returned (.tuple #[.agg #[.slice H'.Heap.Bytes.a H'.Heap.Bytes.len H'.Heap.Bytes.cap, .slice H'.Heap.Class.a H'.Heap.Class.len H'.Heap.Class.cap, .slice H'.Lists.Global.a H'.Lists.Global.len H'.Lists.Global.cap, .slice H'.Lists.Own.a H'.Lists.Own.len H'.Lists.Own.cap], .int .i64 ((p * 4 : Nat) : Int)]) ∧ OwMem w' H' (grantM x p c) ∧ (∀ g ∈ H'.foot, g ∈ H.foot ∨ w.heap.size ≤ g) ∧ Chg H.foot w w' := by
  have H3 := Hid.mk_ hll
  have HPP := Hid.mk_ (perPage_ge (c := (c : Int)) (inB_iff.2 ⟨by omega, by omega⟩))
  obtain ⟨n, hn, hn4, hnn⟩ := perPage_nat hc
  have hgr := fun (W : World) (oH : OwHeap W H.Heap x.Heap) => l7Grant_yes W H.Heap x.Heap p c oH hsh hc hp
  rw [hnn] at hgr
  have HS1 := Hid.mk_ (show szLL x.Lists.Global ≤ 536870912 by unfold sizeLists at hs; omega)
  obtain ⟨lg, hlg⟩ : ∃ q, x.Lists.Global[c]? = some q := ⟨_, List.getElem?_eq_getElem (by rw [hll]; exact hc)⟩
  have HG := Hid.mk_ hlg
  have hszl : lg.length ≤ 536870912 := Nat.le_trans (le_szLL (List.mem_of_getElem? hlg)) HS1.out
  have hn1 : 1 ≤ n := by have := HPP.out; omega
  have hsl := slotsTo_len p n
  have hv0 : (slotsTo p n)[0]? = some ((p * 4 : Nat) : Int) := by unfold slotsTo; rw [List.getElem?_map, List.getElem?_range (by omega)]; rfl
  have HV0 := Hid.mk_ hv0
  have HD : Hid ((grantM x p c).Lists = { x.Lists with Global := x.Lists.Global.set c (lg ++ (slotsTo p n).drop 1) }) := by show _ = _; unfold grantM; simp only []; rw [hnn, List.getD_eq_getElem?_getD, HG.out]; rfl
  have hkk : c < x.Lists.Global.length := by rw [H3.out]; exact hc
  clear hs hsh hll hp hlg hv0 HPP hn hnn
  obtain ⟨HB, ⟨A1, n1, p1⟩, T1, ⟨A2, n2, p2⟩, T2⟩ := H
  obtain ⟨g1, c1, hv1, hg1⟩ := OwLL.at_form (v := .slice A1 n1 p1) h.Lists.Global (by rw [H3.out]; decide)
  injection hv1 with i1 i2 i3
  subst i1 i2 i3
  have hf := h.lt
  have o := (h.alloc_ (.cells #[.slice HB.Bytes.a HB.Bytes.len HB.Bytes.cap, .slice HB.Class.a HB.Class.len HB.Class.cap, .slice (some ⟨g1, 0, none⟩) x.Lists.Global.length p1, .slice A2 n2 p2] 31)).alloc_ (.cells #[.slice none 0 0, .slice none 0 0, .slice none 0 0, .slice none 0 0] 31)
  have HD0 := Hid.mk_ h.d01
  clear h
  have B_a : Box ((w.alloc (.cells #[.slice HB.Bytes.a HB.Bytes.len HB.Bytes.cap, .slice HB.Class.a HB.Class.len HB.Class.cap, .slice (some ⟨g1, 0, none⟩) x.Lists.Global.length p1, .slice A2 n2 p2] 31)).alloc (.cells #[.slice none 0 0, .slice none 0 0, .slice none 0 0, .slice none 0 0] 31)) w.heap.size [.slice HB.Bytes.a HB.Bytes.len HB.Bytes.cap, .slice HB.Class.a HB.Class.len HB.Class.cap, .slice (some ⟨g1, 0, none⟩) x.Lists.Global.length p1, .slice A2 n2 p2] := (Box.new w #[.slice HB.Bytes.a HB.Bytes.len HB.Bytes.cap, .slice HB.Class.a HB.Class.len HB.Class.cap, .slice (some ⟨g1, 0, none⟩) x.Lists.Global.length p1, .slice A2 n2 p2] _).alloc _
  have B_r : Box ((w.alloc (.cells #[.slice HB.Bytes.a HB.Bytes.len HB.Bytes.cap, .slice HB.Class.a HB.Class.len HB.Class.cap, .slice (some ⟨g1, 0, none⟩) x.Lists.Global.length p1, .slice A2 n2 p2] 31)).alloc (.cells #[.slice none 0 0, .slice none 0 0, .slice none 0 0, .slice none 0 0] 31)) (w.heap.size + 1) [.slice none 0 0, .slice none 0 0, .slice none 0 0, .slice none 0 0] := by
    have hb := Box.new (w.alloc (.cells #[.slice HB.Bytes.a HB.Bytes.len HB.Bytes.cap, .slice HB.Class.a HB.Class.len HB.Class.cap, .slice (some ⟨g1, 0, none⟩) x.Lists.Global.length p1, .slice A2 n2 p2] 31)) #[.slice none 0 0, .slice none 0 0, .slice none 0 0, .slice none 0 0] 31
    rw [World.size_alloc] at hb
    exact hb
  have hB : Chg (HMem.foot ⟨HB, ⟨⟨some ⟨g1, 0, none⟩, x.Lists.Global.length, p1⟩, T1, ⟨A2, n2, p2⟩, T2⟩⟩) w ((w.alloc (.cells #[.slice HB.Bytes.a HB.Bytes.len HB.Bytes.cap, .slice HB.Class.a HB.Class.len HB.Class.cap, .slice (some ⟨g1, 0, none⟩) x.Lists.Global.length p1, .slice A2 n2 p2] 31)).alloc (.cells #[.slice none 0 0, .slice none 0 0, .slice none 0 0, .slice none 0 0] 31)) := ((Chg.refl _ _).alloc_ _).alloc_ _
  show Calls Tryz.prog 105 #[.agg #[.slice HB.Bytes.a HB.Bytes.len HB.Bytes.cap, .slice HB.Class.a HB.Class.len HB.Class.cap, .slice (some ⟨g1, 0, none⟩) x.Lists.Global.length p1, .slice A2 n2 p2], .int .i64 c] w _
  go_enter Tryz.func105, Tryz.ntmps105
  go_wp2_with fail
  generalize hW0 : ((w.alloc (.cells #[.slice HB.Bytes.a HB.Bytes.len HB.Bytes.cap, .slice HB.Class.a HB.Class.len HB.Class.cap, .slice (some ⟨g1, 0, none⟩) x.Lists.Global.length p1, .slice A2 n2 p2] 31)).alloc (.cells #[.slice none 0 0, .slice none 0 0, .slice none 0 0, .slice none 0 0] 31)) = w0 at o B_a B_r hB ⊢
  clear hW0
  have hFH : ∀ g ∈ HB.foot, g ∈ HMem.foot ⟨HB, ⟨⟨some ⟨g1, 0, none⟩, x.Lists.Global.length, p1⟩, T1, ⟨A2, n2, p2⟩, T2⟩⟩ := fun g hg => HMem.mem_foot.2 (.inl hg)
  have hFL : ∀ g ∈ HLists.foot ⟨⟨some ⟨g1, 0, none⟩, x.Lists.Global.length, p1⟩, T1, ⟨A2, n2, p2⟩, T2⟩, g ∈ HMem.foot ⟨HB, ⟨⟨some ⟨g1, 0, none⟩, x.Lists.Global.length, p1⟩, T1, ⟨A2, n2, p2⟩, T2⟩⟩ := fun g hg => HMem.mem_foot.2 (.inr hg)
  refine (hgr _ o.Heap).mono ?_
  clear hgr
  rintro e w1 ⟨⟨A3, n3, bv⟩, rfl, o_g, o_v, l_v, hx⟩
  have z0 := B_r.lt
  replace B_a := B_a.chg hx (fun hm => by have := hf _ (hFH _ hm); omega)
  replace B_r := B_r.chg hx (fun hm => by have := hf _ (hFH _ hm); omega)
  have o_l := o.Lists.chg hx (fun g hg hm => HD0.out g hm hg)
  replace hB := hB.trans (hx.mono hFH)
  have sz1 := hx.size
  clear hx o
  have hln := RdL.len_ (a := A3) (n := n3) (c := bv) o_v.rd'
  rw [hsl] at hln
  obtain rfl : n3 = n := hln.1
  clear hln
  obtain ⟨gv, cv, hvv, hgv⟩ := OwL.form_pos (v := .slice A3 n3 bv) o_v (by rw [hsl]; omega)
  injection hvv with i1 i2 i3
  subst i1
  clear i2 i3 cv
  have hnb : n3 ≤ bv := by
    obtain ⟨_, cq, hvq, hnb, _⟩ := o_v.rd'
    injection hvq with _ _ i3
    subst i3
    rw [hsl] at hnb
    exact hnb
  have lv0 : w0.heap.size ≤ gv := l_v gv (foot1_some.2 rfl)
  have lv1 : ∀ g ∈ foot1 (.slice (some ⟨gv, 0, none⟩) n3 bv), w0.heap.size ≤ g := l_v
  have B_p := Box.new w1 #[.slice HB.Bytes.a HB.Bytes.len HB.Bytes.cap, .slice HB.Class.a HB.Class.len HB.Class.cap] 26
  replace B_a := B_a.alloc (.cells #[.slice HB.Bytes.a HB.Bytes.len HB.Bytes.cap, .slice HB.Class.a HB.Class.len HB.Class.cap] 26)
  replace B_r := B_r.alloc (.cells #[.slice HB.Bytes.a HB.Bytes.len HB.Bytes.cap, .slice HB.Class.a HB.Class.len HB.Class.cap] 26)
  replace o_g := o_g.alloc_ (.cells #[.slice HB.Bytes.a HB.Bytes.len HB.Bytes.cap, .slice HB.Class.a HB.Class.len HB.Class.cap] 26)
  replace o_l := o_l.alloc_ (.cells #[.slice HB.Bytes.a HB.Bytes.len HB.Bytes.cap, .slice HB.Class.a HB.Class.len HB.Class.cap] 26)
  replace o_v := o_v.alloc_ (.cells #[.slice HB.Bytes.a HB.Bytes.len HB.Bytes.cap, .slice HB.Class.a HB.Class.len HB.Class.cap] 26)
  replace hB := hB.alloc_ (.cells #[.slice HB.Bytes.a HB.Bytes.len HB.Bytes.cap, .slice HB.Class.a HB.Class.len HB.Class.cap] 26)
  have ul : ∀ g ∈ HLists.foot ⟨⟨some ⟨g1, 0, none⟩, x.Lists.Global.length, p1⟩, T1, ⟨A2, n2, p2⟩, T2⟩, g < w.heap.size := fun g hg => hf g (hFL g hg)
  have ug : ∀ g ∈ HB.foot, g < w.heap.size := fun g hg => hf g (hFH g hg)
  have q_a_0 := B_a.cell 0 _ rfl
  have q_a_1 := B_a.cell 1 _ rfl
  have q_a_2 := B_a.cell 2 _ rfl
  have q_a_3 := B_a.cell 3 _ rfl
  have q_r_0 := B_r.cell 0 _ rfl
  have q_r_1 := B_r.cell 1 _ rfl
  have q_r_2 := B_r.cell 2 _ rfl
  have q_r_3 := B_r.cell 3 _ rfl
  have fr_a := B_a.fro
  have fr_r := B_r.fro
  have z_a := B_a.lt
  have z_r := B_r.lt
  have q_p_0 := B_p.cell 0 _ rfl
  have q_p_1 := B_p.cell 1 _ rfl
  go_upto_region 3 with (fail)
  replace B_a : Box (((w1.alloc (.cells #[.slice HB.Bytes.a HB.Bytes.len HB.Bytes.cap, .slice HB.Class.a HB.Class.len HB.Class.cap] 26)).setCell ⟨w.heap.size, 0, none⟩ (.slice HB.Bytes.a HB.Bytes.len HB.Bytes.cap)).setCell ⟨w.heap.size, 1, none⟩ (.slice HB.Class.a HB.Class.len HB.Class.cap)) w.heap.size [.slice HB.Bytes.a HB.Bytes.len HB.Bytes.cap, .slice HB.Class.a HB.Class.len HB.Class.cap, .slice (some ⟨g1, 0, none⟩) x.Lists.Global.length p1, .slice A2 n2 p2] := (B_a.set 0 (.slice HB.Bytes.a HB.Bytes.len HB.Bytes.cap)).set 1 (.slice HB.Class.a HB.Class.len HB.Class.cap)
  replace B_r : Box (((w1.alloc (.cells #[.slice HB.Bytes.a HB.Bytes.len HB.Bytes.cap, .slice HB.Class.a HB.Class.len HB.Class.cap] 26)).setCell ⟨w.heap.size, 0, none⟩ (.slice HB.Bytes.a HB.Bytes.len HB.Bytes.cap)).setCell ⟨w.heap.size, 1, none⟩ (.slice HB.Class.a HB.Class.len HB.Class.cap)) (w.heap.size + 1) [.slice none 0 0, .slice none 0 0, .slice none 0 0, .slice none 0 0] := (B_r.other (by omega) _).other (by omega) _
  replace o_g : OwHeap (((w1.alloc (.cells #[.slice HB.Bytes.a HB.Bytes.len HB.Bytes.cap, .slice HB.Class.a HB.Class.len HB.Class.cap] 26)).setCell ⟨w.heap.size, 0, none⟩ (.slice HB.Bytes.a HB.Bytes.len HB.Bytes.cap)).setCell ⟨w.heap.size, 1, none⟩ (.slice HB.Class.a HB.Class.len HB.Class.cap)) HB (grantH x.Heap p c) := o_g.chg (((Chg.refl [w.heap.size] _).set_ (by simp) _).set_ (by simp) _) (fun g hg hm => by simp only [List.mem_cons, List.not_mem_nil, or_false] at hm; have := ug g hg; omega)
  replace o_l : OwLists (((w1.alloc (.cells #[.slice HB.Bytes.a HB.Bytes.len HB.Bytes.cap, .slice HB.Class.a HB.Class.len HB.Class.cap] 26)).setCell ⟨w.heap.size, 0, none⟩ (.slice HB.Bytes.a HB.Bytes.len HB.Bytes.cap)).setCell ⟨w.heap.size, 1, none⟩ (.slice HB.Class.a HB.Class.len HB.Class.cap)) ⟨⟨some ⟨g1, 0, none⟩, x.Lists.Global.length, p1⟩, T1, ⟨A2, n2, p2⟩, T2⟩ x.Lists := o_l.chg (((Chg.refl [w.heap.size] _).set_ (by simp) _).set_ (by simp) _) (fun g hg hm => by simp only [List.mem_cons, List.not_mem_nil, or_false] at hm; have := ul g hg; omega)
  replace o_v : OwL FI 3 (((w1.alloc (.cells #[.slice HB.Bytes.a HB.Bytes.len HB.Bytes.cap, .slice HB.Class.a HB.Class.len HB.Class.cap] 26)).setCell ⟨w.heap.size, 0, none⟩ (.slice HB.Bytes.a HB.Bytes.len HB.Bytes.cap)).setCell ⟨w.heap.size, 1, none⟩ (.slice HB.Class.a HB.Class.len HB.Class.cap)) (.slice (some ⟨gv, 0, none⟩) n3 bv) (slotsTo p n3) := OwL.chg o_v (((Chg.refl [w.heap.size] _).set_ (by simp) _).set_ (by simp) _) (fun g hg hm => by simp only [List.mem_cons, List.not_mem_nil, or_false] at hm; have := lv1 g hg; omega)
  replace hB : Chg (HMem.foot ⟨HB, ⟨⟨some ⟨g1, 0, none⟩, x.Lists.Global.length, p1⟩, T1, ⟨A2, n2, p2⟩, T2⟩⟩) w (((w1.alloc (.cells #[.slice HB.Bytes.a HB.Bytes.len HB.Bytes.cap, .slice HB.Class.a HB.Class.len HB.Class.cap] 26)).setCell ⟨w.heap.size, 0, none⟩ (.slice HB.Bytes.a HB.Bytes.len HB.Bytes.cap)).setCell ⟨w.heap.size, 1, none⟩ (.slice HB.Class.a HB.Class.len HB.Class.cap)) := (hB.set_new (Nat.le_refl _) _).set_new (Nat.le_refl _) _
  have sz2 : w1.heap.size ≤ (((w1.alloc (.cells #[.slice HB.Bytes.a HB.Bytes.len HB.Bytes.cap, .slice HB.Class.a HB.Class.len HB.Class.cap] 26)).setCell ⟨w.heap.size, 0, none⟩ (.slice HB.Bytes.a HB.Bytes.len HB.Bytes.cap)).setCell ⟨w.heap.size, 1, none⟩ (.slice HB.Class.a HB.Class.len HB.Class.cap)).heap.size := by simp
  have hgv2 : gv < (((w1.alloc (.cells #[.slice HB.Bytes.a HB.Bytes.len HB.Bytes.cap, .slice HB.Class.a HB.Class.len HB.Class.cap] 26)).setCell ⟨w.heap.size, 0, none⟩ (.slice HB.Bytes.a HB.Bytes.len HB.Bytes.cap)).setCell ⟨w.heap.size, 1, none⟩ (.slice HB.Class.a HB.Class.len HB.Class.cap)).heap.size := by simp; omega
  clear q_a_0 q_a_1 q_a_2 q_a_3 q_r_0 q_r_1 q_r_2 q_r_3 fr_a fr_r z_a z_r q_p_0 q_p_1 B_p
  generalize hW3 : (((w1.alloc (.cells #[.slice HB.Bytes.a HB.Bytes.len HB.Bytes.cap, .slice HB.Class.a HB.Class.len HB.Class.cap] 26)).setCell ⟨w.heap.size, 0, none⟩ (.slice HB.Bytes.a HB.Bytes.len HB.Bytes.cap)).setCell ⟨w.heap.size, 1, none⟩ (.slice HB.Class.a HB.Class.len HB.Class.cap)) = wo at B_a B_r o_g o_l o_v hB sz2 hgv2 ⊢
  clear hW3
  have q_a_0 := B_a.cell 0 _ rfl
  have q_a_1 := B_a.cell 1 _ rfl
  have q_a_2 := B_a.cell 2 _ rfl
  have q_a_3 := B_a.cell 3 _ rfl
  have q_r_0 := B_r.cell 0 _ rfl
  have q_r_1 := B_r.cell 1 _ rfl
  have q_r_2 := B_r.cell 2 _ rfl
  have q_r_3 := B_r.cell 3 _ rfl
  have fr_a := B_a.fro
  have fr_r := B_r.fro
  have z_a := B_a.lt
  have z_r := B_r.lt
  obtain ⟨sg, hsg2⟩ : ∃ q, T1[c]? = some q := ⟨_, List.getElem?_eq_getElem (by rw [o_l.Global.len]; exact hkk)⟩
  have ing := o_l.Global.inner c sg _ hsg2 HG.out
  have pg := o_l.Global.outer.cell_ (j := 0) hsg2 (by decide)
  simp only [FS, Nat.mul_one, Nat.add_zero] at pg
  obtain ⟨Ag, cg, hvg, _⟩ := ing.rd'
  obtain ⟨ag, ng, bg⟩ := sg
  injection hvg with k1 k2 k3
  subst k1 k2 k3
  have pg2 : _ = some (Value.slice ag lg.length bg) := pg
  clear pg
  have ff := o_l.Global.outer.frozen_ c
  have HV := Hid.mk_ hsg2
  have HNE := Hid.mk_ (OwLL.head_ne (g := g1) (n := x.Lists.Global.length) (c := p1) o_l.Global hsg2)
  have z_g : g1 < wo.heap.size := by omega
  have HSF := Hid.mk_ (show ∀ b ∈ foot1 (SV.val ⟨ag, lg.length, bg⟩), b ∈ foot2 (.slice (some ⟨g1, 0, none⟩) x.Lists.Global.length p1) T1 from fun b hb => mem_foot2.2 (.inr ⟨_, List.mem_of_getElem? HV.out, mem_foot1.1 hb⟩))
  have HFT := Hid.mk_ (show ∀ b ∈ foot1 (SV.val ⟨ag, lg.length, bg⟩), b ∈ HLists.foot ⟨⟨some ⟨g1, 0, none⟩, x.Lists.Global.length, p1⟩, T1, ⟨A2, n2, p2⟩, T2⟩ from fun b hb => HLists.mem_foot.2 (.inl (HSF.out b hb)))
  have HG1 := Hid.mk_ (show g1 ∈ HLists.foot ⟨⟨some ⟨g1, 0, none⟩, x.Lists.Global.length, p1⟩, T1, ⟨A2, n2, p2⟩, T2⟩ from HLists.mem_foot.2 (.inl (mem_foot2.2 (.inl rfl))))
  have n_a : g1 ≠ w.heap.size := by omega
  have m_a : w.heap.size ≠ g1 := by omega
  have n_r : g1 ≠ w.heap.size + 1 := by omega
  have m_r : w.heap.size + 1 ≠ g1 := by omega
  have n_gv : g1 ≠ gv := by omega
  have m_gv : gv ≠ g1 := by omega
  have hro : OwL FI 3 wo.drew (.slice ag lg.length bg) lg := OwL.keep (show OwL FI 3 wo (.slice ag lg.length bg) lg from ing) (fun _ _ => rfl)
  have hbq : ((n3 : Int) == 0) = false := by simp; omega
  go_upto_region 5 with (fail)
  go_cut [] from 15 to 36 (fun wx => ∃ S9 : SV, Box wx w.heap.size [.slice HB.Bytes.a HB.Bytes.len HB.Bytes.cap, .slice HB.Class.a HB.Class.len HB.Class.cap, .slice (some ⟨g1, 0, none⟩) x.Lists.Global.length p1, .slice A2 n2 p2] ∧ Box wx (w.heap.size + 1) [.slice none 0 0, .slice none 0 0, .slice none 0 0, .slice none 0 0] ∧ OwHeap wx HB (grantH x.Heap p c) ∧ OwLists wx ⟨⟨some ⟨g1, 0, none⟩, x.Lists.Global.length, p1⟩, T1.set c S9, ⟨A2, n2, p2⟩, T2⟩ (grantM x p c).Lists ∧ wx.cell? ⟨gv, 0, none⟩ = some (.int .i64 ((p * 4 : Nat) : Int)) ∧ (∀ g ∈ HLists.foot ⟨⟨some ⟨g1, 0, none⟩, x.Lists.Global.length, p1⟩, T1.set c S9, ⟨A2, n2, p2⟩, T2⟩, g ∈ HLists.foot ⟨⟨some ⟨g1, 0, none⟩, x.Lists.Global.length, p1⟩, T1, ⟨A2, n2, p2⟩, T2⟩ ∨ w.heap.size + 1 < g) ∧ (∀ g ∈ HLists.foot ⟨⟨some ⟨g1, 0, none⟩, x.Lists.Global.length, p1⟩, T1.set c S9, ⟨A2, n2, p2⟩, T2⟩, g ∉ HB.foot) ∧ Chg (HMem.foot ⟨HB, ⟨⟨some ⟨g1, 0, none⟩, x.Lists.Global.length, p1⟩, T1, ⟨A2, n2, p2⟩, T2⟩⟩) w wx)
  case first =>
    rename_i J9 K9 hJ9 hK9
    by_cases hb1 : bv = 1
    · subst hb1
      obtain rfl : n3 = 1 := by omega
      have hlit : RdL FI wo.drew wo.drew.heap.size (.slice (some ⟨gv, 0, none⟩) (1 - 1) (1 - 1)) ((slotsTo p 1).drop 1) := ⟨_, 0, rfl, by simp [slotsTo], by simp [maxLen], fun h => absurd (by simp [slotsTo]) h⟩
      have hn0 : ¬ ((1 : Int) = 0) := by omega
      have hdl : ((slotsTo p 1).drop 1).length = 1 - 1 := by rw [List.length_drop, hsl]
      have hsz : lg.length + ((slotsTo p 1).drop 1).length ≤ 1073741824 := by rw [hdl]; omega
      go_region_law (refine step_append_flat Tryz.stInt rfl (.tmp 31) (.tmp 33) rfl (v := .slice ag lg.length bg) (y := .slice (some ⟨gv, 0, none⟩) (1 - 1) (1 - 1)) (l := lg) (m := (slotsTo p 1).drop 1) (by simp [Act.eval]) (by simp [Act.eval]) hro hlit hsz ?_; intro v9 w9 ho9 hg9 hat9; obtain ⟨A9, c9, hv9, _⟩ := ho9.rd'; rw [List.length_append, hdl] at hv9; subst hv9; have hx := Chg.of_grown hg9; have ff9 : w9.frozen? ⟨g1, c, none⟩ = false := (hx.frozen g1 c z_g HNE.out).trans ff; have pp9 : w9.cell? ⟨g1, c, none⟩ = some (Value.slice ag lg.length bg) := (hx.cell g1 c z_g HNE.out).trans pg2; replace B_a := B_a.drew.chg hx (fun hm => by have := ul _ (HFT.out _ hm); omega); replace q_a_0 := B_a.cell 0 _ rfl; replace q_a_1 := B_a.cell 1 _ rfl; replace q_a_2 := B_a.cell 2 _ rfl; replace q_a_3 := B_a.cell 3 _ rfl; replace fr_a := B_a.fro; replace z_a := B_a.lt; replace B_r := B_r.drew.chg hx (fun hm => by have := ul _ (HFT.out _ hm); omega); replace q_r_0 := B_r.cell 0 _ rfl; replace q_r_1 := B_r.cell 1 _ rfl; replace q_r_2 := B_r.cell 2 _ rfl; replace q_r_3 := B_r.cell 3 _ rfl; replace fr_r := B_r.fro; replace z_r := B_r.lt; replace o_v := (OwL.keep (w' := wo.drew) o_v (fun _ _ => rfl)).chg hx (fun g hg hm => by have := ul _ (HFT.out _ hm); have := foot1_some.1 hg; omega); have pv9 := o_v.cell_ HV0.out FI.pos; simp only [FI, Nat.mul_one, Nat.add_zero] at pv9)
      all_goals
        refine hK9 _ _ (Met.intro (hJ9 _ _ ?_))
        (repeat apply Exists.intro)
        refine ⟨?_, rfl⟩
        have oD : OwLists wo.drew ⟨⟨some ⟨g1, 0, none⟩, x.Lists.Global.length, p1⟩, T1, ⟨A2, n2, p2⟩, T2⟩ x.Lists := o_l.keep (fun _ _ => rfl)
        have hN := OwLL.app_row (s' := ⟨A9, lg.length + (1 - 1), c9⟩) oD.Global HV.out ho9 hg9 hat9
        change OwLL _ _ _ (World.setCell _ _ (.slice A9 (lg.length + (1 - 1)) c9)) _ _ _ at hN
        have hO : OwLL FI 3 94 _ _ _ x.Lists.Own := (oD.Own.chg hx (fun b hb hm => o_l.d01 b (HSF.out b hm) hb)).chg (F := [g1]) ((Chg.refl _ w9).set_ (g := g1) (i := c) (by simp) (.slice A9 (lg.length + (1 - 1)) c9)) (fun b hb hm => by simp only [List.mem_cons, List.not_mem_nil, or_false] at hm; subst hm; exact o_l.d01 b (mem_foot2.2 (.inl rfl)) hb)
        have uO := (oD.Own).lt
        have hB9 : Chg (HMem.foot ⟨HB, ⟨⟨some ⟨g1, 0, none⟩, x.Lists.Global.length, p1⟩, T1, ⟨A2, n2, p2⟩, T2⟩⟩) w (w9.setCell ⟨g1, c, none⟩ (.slice A9 (lg.length + (1 - 1)) c9)) := ((Chg.drew_ hB).trans (hx.mono (fun g hg => hFL g (HFT.out g hg)))).set_ (hFL _ HG1.out) _
        have hG9 : OwHeap (w9.setCell ⟨g1, c, none⟩ (.slice A9 (lg.length + (1 - 1)) c9)) HB (grantH x.Heap p c) := ((o_g.keep (w' := wo.drew) (fun _ _ => rfl)).chg hx (fun g hg hm => HD0.out g hg (HFT.out g hm))).chg (F := [g1]) ((Chg.refl _ w9).set_ (g := g1) (i := c) (by simp) (.slice A9 (lg.length + (1 - 1)) c9)) (fun g hg hm => by simp only [List.mem_cons, List.not_mem_nil, or_false] at hm; subst hm; exact HD0.out g hg HG1.out)
        have h2 : wo.drew.heap.size = wo.heap.size := rfl
        have hfN : ∀ g ∈ HLists.foot ⟨⟨some ⟨g1, 0, none⟩, x.Lists.Global.length, p1⟩, T1.set c ⟨A9, lg.length + (1 - 1), c9⟩, ⟨A2, n2, p2⟩, T2⟩, g ∈ HLists.foot ⟨⟨some ⟨g1, 0, none⟩, x.Lists.Global.length, p1⟩, T1, ⟨A2, n2, p2⟩, T2⟩ ∨ g = wo.heap.size := by
          intro g hg
          rcases HLists.mem_foot.1 hg with hg | hg
          · rcases foot2_set hg with hg | hg
            · exact .inl (HLists.mem_foot.2 (.inl hg))
            · rcases foot_app hat9 g hg with hg | hg
              · exact .inl (HFT.out g hg)
              · exact .inr hg
          · exact .inl (HLists.mem_foot.2 (.inr hg))
        exact ⟨⟨A9, lg.length + (1 - 1), c9⟩, B_a.other (by omega) _, B_r.other (by omega) _, hG9, by rw [HD.out]; exact ⟨hN, hO, fun b hb hm => by rcases foot2_set hb with hb | hb; (exact o_l.d01 b hb hm); (rcases foot_app hat9 b hb with hb | hb; (exact o_l.d01 b (HSF.out b hb) hm); (have := uO b hm; omega))⟩, by simp [pv9, go_sem], fun g hg => by rcases hfN g hg with hh | hh; (exact .inl hh); (right; omega), fun g hg hm => by rcases hfN g hg with hh | hh; (exact HD0.out g hm hh); (have := ug g hm; omega), hB9⟩
    · have hi1 : (1 : Int) ≤ (n3 : Int) := by omega
      have hlit : RdL FI wo.drew wo.drew.heap.size (.slice (some ⟨gv, 1, none⟩) (n3 - 1) (bv - 1)) ((slotsTo p n3).drop 1) := by
        have := RdL.subI (OwL.keep (w' := wo.drew) o_v (fun _ _ => rfl)).rd' 1 (n3 - 1) (by rw [hsl]; omega)
        rw [List.take_of_length_le (by rw [List.length_drop, hsl]; exact Nat.le_refl _)] at this
        simpa using this
      have hn0 : ¬ ((n3 : Int) = 0) := by omega
      have hdl : ((slotsTo p n3).drop 1).length = n3 - 1 := by rw [List.length_drop, hsl]
      have hsz : lg.length + ((slotsTo p n3).drop 1).length ≤ 1073741824 := by rw [hdl]; omega
      go_region_law (refine step_append_flat Tryz.stInt rfl (.tmp 31) (.tmp 33) rfl (v := .slice ag lg.length bg) (y := .slice (some ⟨gv, 1, none⟩) (n3 - 1) (bv - 1)) (l := lg) (m := (slotsTo p n3).drop 1) (by simp [Act.eval]) (by simp [Act.eval]) hro hlit hsz ?_; intro v9 w9 ho9 hg9 hat9; obtain ⟨A9, c9, hv9, _⟩ := ho9.rd'; rw [List.length_append, hdl] at hv9; subst hv9; have hx := Chg.of_grown hg9; have ff9 : w9.frozen? ⟨g1, c, none⟩ = false := (hx.frozen g1 c z_g HNE.out).trans ff; have pp9 : w9.cell? ⟨g1, c, none⟩ = some (Value.slice ag lg.length bg) := (hx.cell g1 c z_g HNE.out).trans pg2; replace B_a := B_a.drew.chg hx (fun hm => by have := ul _ (HFT.out _ hm); omega); replace q_a_0 := B_a.cell 0 _ rfl; replace q_a_1 := B_a.cell 1 _ rfl; replace q_a_2 := B_a.cell 2 _ rfl; replace q_a_3 := B_a.cell 3 _ rfl; replace fr_a := B_a.fro; replace z_a := B_a.lt; replace B_r := B_r.drew.chg hx (fun hm => by have := ul _ (HFT.out _ hm); omega); replace q_r_0 := B_r.cell 0 _ rfl; replace q_r_1 := B_r.cell 1 _ rfl; replace q_r_2 := B_r.cell 2 _ rfl; replace q_r_3 := B_r.cell 3 _ rfl; replace fr_r := B_r.fro; replace z_r := B_r.lt; replace o_v := (OwL.keep (w' := wo.drew) o_v (fun _ _ => rfl)).chg hx (fun g hg hm => by have := ul _ (HFT.out _ hm); have := foot1_some.1 hg; omega); have pv9 := o_v.cell_ HV0.out FI.pos; simp only [FI, Nat.mul_one, Nat.add_zero] at pv9)
      all_goals
        refine hK9 _ _ (Met.intro (hJ9 _ _ ?_))
        (repeat apply Exists.intro)
        refine ⟨?_, rfl⟩
        have oD : OwLists wo.drew ⟨⟨some ⟨g1, 0, none⟩, x.Lists.Global.length, p1⟩, T1, ⟨A2, n2, p2⟩, T2⟩ x.Lists := o_l.keep (fun _ _ => rfl)
        have hN := OwLL.app_row (s' := ⟨A9, lg.length + (n3 - 1), c9⟩) oD.Global HV.out ho9 hg9 hat9
        change OwLL _ _ _ (World.setCell _ _ (.slice A9 (lg.length + (n3 - 1)) c9)) _ _ _ at hN
        have hO : OwLL FI 3 94 _ _ _ x.Lists.Own := (oD.Own.chg hx (fun b hb hm => o_l.d01 b (HSF.out b hm) hb)).chg (F := [g1]) ((Chg.refl _ w9).set_ (g := g1) (i := c) (by simp) (.slice A9 (lg.length + (n3 - 1)) c9)) (fun b hb hm => by simp only [List.mem_cons, List.not_mem_nil, or_false] at hm; subst hm; exact o_l.d01 b (mem_foot2.2 (.inl rfl)) hb)
        have uO := (oD.Own).lt
        have hB9 : Chg (HMem.foot ⟨HB, ⟨⟨some ⟨g1, 0, none⟩, x.Lists.Global.length, p1⟩, T1, ⟨A2, n2, p2⟩, T2⟩⟩) w (w9.setCell ⟨g1, c, none⟩ (.slice A9 (lg.length + (n3 - 1)) c9)) := ((Chg.drew_ hB).trans (hx.mono (fun g hg => hFL g (HFT.out g hg)))).set_ (hFL _ HG1.out) _
        have hG9 : OwHeap (w9.setCell ⟨g1, c, none⟩ (.slice A9 (lg.length + (n3 - 1)) c9)) HB (grantH x.Heap p c) := ((o_g.keep (w' := wo.drew) (fun _ _ => rfl)).chg hx (fun g hg hm => HD0.out g hg (HFT.out g hm))).chg (F := [g1]) ((Chg.refl _ w9).set_ (g := g1) (i := c) (by simp) (.slice A9 (lg.length + (n3 - 1)) c9)) (fun g hg hm => by simp only [List.mem_cons, List.not_mem_nil, or_false] at hm; subst hm; exact HD0.out g hg HG1.out)
        have h2 : wo.drew.heap.size = wo.heap.size := rfl
        have hfN : ∀ g ∈ HLists.foot ⟨⟨some ⟨g1, 0, none⟩, x.Lists.Global.length, p1⟩, T1.set c ⟨A9, lg.length + (n3 - 1), c9⟩, ⟨A2, n2, p2⟩, T2⟩, g ∈ HLists.foot ⟨⟨some ⟨g1, 0, none⟩, x.Lists.Global.length, p1⟩, T1, ⟨A2, n2, p2⟩, T2⟩ ∨ g = wo.heap.size := by
          intro g hg
          rcases HLists.mem_foot.1 hg with hg | hg
          · rcases foot2_set hg with hg | hg
            · exact .inl (HLists.mem_foot.2 (.inl hg))
            · rcases foot_app hat9 g hg with hg | hg
              · exact .inl (HFT.out g hg)
              · exact .inr hg
          · exact .inl (HLists.mem_foot.2 (.inr hg))
        exact ⟨⟨A9, lg.length + (n3 - 1), c9⟩, B_a.other (by omega) _, B_r.other (by omega) _, hG9, by rw [HD.out]; exact ⟨hN, hO, fun b hb hm => by rcases foot2_set hb with hb | hb; (exact o_l.d01 b hb hm); (rcases foot_app hat9 b hb with hb | hb; (exact o_l.d01 b (HSF.out b hb) hm); (have := uO b hm; omega))⟩, by simp [pv9, go_sem], fun g hg => by rcases hfN g hg with hh | hh; (exact .inl hh); (right; omega), fun g hg hm => by rcases hfN g hg with hh | hh; (exact HD0.out g hm hh); (have := ug g hm; omega), hB9⟩
  case rest =>
    clear B_a B_r o_g o_l hB hro ing pg2 ff q_a_0 q_a_1 q_a_2 q_a_3 q_r_0 q_r_1 q_r_2 q_r_3 fr_a fr_r z_a z_r
    obtain ⟨S9, B_a, B_r, o_g, o_l, pv, fl, fd, hB⟩ := hcut
    have q_a_0 := B_a.cell 0 _ rfl
    have q_a_1 := B_a.cell 1 _ rfl
    have q_a_2 := B_a.cell 2 _ rfl
    have q_a_3 := B_a.cell 3 _ rfl
    have q_r_0 := B_r.cell 0 _ rfl
    have q_r_1 := B_r.cell 1 _ rfl
    have q_r_2 := B_r.cell 2 _ rfl
    have q_r_3 := B_r.cell 3 _ rfl
    have fr_a := B_a.fro
    have fr_r := B_r.fro
    have z_a := B_a.lt
    have z_r := B_r.lt
    have hi0 : 0 < n3 := hn1
    have n_vr : gv ≠ w.heap.size + 1 := by omega
    have n_rv : w.heap.size + 1 ≠ gv := by omega
    go_wp2_with fail
    go_region
    all_goals
      go_wp2_with fail
      refine bodyPost_ret (v := .tuple #[.agg #[.slice HB.Bytes.a HB.Bytes.len HB.Bytes.cap, .slice HB.Class.a HB.Class.len HB.Class.cap, .slice (some ⟨g1, 0, none⟩) x.Lists.Global.length p1, .slice A2 n2 p2], .int .i64 ((p * 4 : Nat) : Int)]) (by simp [results, Tryz.results105, go_sem, q_r_0, q_r_1, q_r_2, q_r_3]) rfl ⟨⟨HB, ⟨⟨some ⟨g1, 0, none⟩, x.Lists.Global.length, p1⟩, T1.set c S9, ⟨A2, n2, p2⟩, T2⟩⟩, rfl, ⟨o_g.chg (F := [w.heap.size + 1]) (by repeat (first | with_reducible exact Chg.refl _ _ | with_reducible refine Chg.set_ ?_ (by simp) _ | with_reducible refine Chg.alloc_ ?_ _ | with_reducible refine Chg.drew_ ?_)) (fun g hg hm => by simp only [List.mem_cons, List.not_mem_nil, or_false] at hm; have := ug g hg; omega), o_l.chg (F := [w.heap.size + 1]) (by repeat (first | with_reducible exact Chg.refl _ _ | with_reducible refine Chg.set_ ?_ (by simp) _ | with_reducible refine Chg.alloc_ ?_ _ | with_reducible refine Chg.drew_ ?_)) (fun g hg hm => by simp only [List.mem_cons, List.not_mem_nil, or_false] at hm; rcases fl g hg with hh | hh; (have := ul g hh; omega); omega), fun b hb hm => fd b hm hb⟩, fun b hb => by rcases HMem.mem_foot.1 hb with hb | hb; (exact .inl (hFH b hb)); (rcases fl b hb with hh | hh; (exact .inl (hFL b hh)); (right; omega)), hB.trans_fr (G := [w.heap.size + 1]) (by repeat (first | with_reducible exact Chg.refl _ _ | with_reducible refine Chg.set_ ?_ (by simp) _ | with_reducible refine Chg.alloc_ ?_ _ | with_reducible refine Chg.drew_ ?_)) (fun b hb => .inr (by simp only [List.mem_cons, List.not_mem_nil, or_false] at hb; omega))⟩
end Go.Proofs.YtkmggglljkmjoaaGreat

/-
  AllocNow that grants a page, the reference: the contract.
-/
namespace Go.Proofs.YtkmggglljkmjoaaGreat
open Go.RowKit

set_option maxRecDepth 100000 in
set_option maxHeartbeats 8000000 in
theorem AllocNow_spec_grant (w : World) (H : HMem) (x : Mem) (wk c p : Nat) (n : Int) (h : RdMem w w.heap.size H x) (hs : sizeMem x ≤ 536870912) (c1 : memOkB x = true) (hw : wk < 3) (c3 : classOfS n = (c : Int)) (hc : c < 3) (hrow0 : x.Lists.Own[wk * 3 + c]? = some []) (hrow : x.Lists.Global[c]? = some []) (hp : idxOf (fun y => y == -1) x.Heap.Class = (p : Int)) :
    Calls Tryz.prog 35 #[.agg #[.slice H.Heap.Bytes.a H.Heap.Bytes.len H.Heap.Bytes.cap, .slice H.Heap.Class.a H.Heap.Class.len H.Heap.Class.cap, .slice H.Lists.Global.a H.Lists.Global.len H.Lists.Global.cap, .slice H.Lists.Own.a H.Lists.Own.len H.Lists.Own.cap], .int .i64 wk, .int .i64 n] w fun e w' => ∃ H' : HMem, e = .returned (.tuple #[.agg #[.slice H'.Heap.Bytes.a H'.Heap.Bytes.len H'.Heap.Bytes.cap, .slice H'.Heap.Class.a H'.Heap.Class.len H'.Heap.Class.cap, .slice H'.Lists.Global.a H'.Lists.Global.len H'.Lists.Global.cap, .slice H'.Lists.Own.a H'.Lists.Own.len H'.Lists.Own.cap], .int .i64 (genInB (grantH x.Heap p c) ((p * 4 : Nat) : Int) * 32 + ((p * 4 : Nat) : Int)), .int .i64 0]) ∧ OwMem w' H' (grantM x p c) ∧ (∀ g ∈ H'.foot, w.heap.size ≤ g) ∧ Below w.heap.size w w' := by
  have hcl : inB 0 2 (c : Int) = true := inB_iff.2 ⟨by omega, by omega⟩
  have c2 : inB 0 2 (wk : Int) = true := inB_iff.2 ⟨by omega, by omega⟩
  have hsh := mem_shape c1
  have hpl := idx_lt hp
  have hp6 : p < 6 := by rw [(shape_of (mem_shape c1)).cl] at hpl; exact hpl
  obtain ⟨gf1, gf2, gf3⟩ := grant_facts (mem_shape c1) hp6 hc
  have f1 : inB 0 23 ((p * 4 : Nat) : Int) = true := inB_iff.2 ⟨by omega, by omega⟩
  have f3 : inB 1 6 (genInB (grantH x.Heap p c) ((p * 4 : Nat) : Int)) = true := by rw [gf3]; decide
  have k1 : 0 ≤ classInB (grantH x.Heap p c) ((p * 4 : Nat) : Int) := by rw [gf2]; omega
  have hs0 : 0 ≤ ((p * 4 : Nat) : Int) := by omega
  have hsh2 : sizeHeap x.Heap ≤ 536870912 ∧ sizeLists x.Lists ≤ 536870912 := by unfold sizeMem at hs; omega
  have hcp := fun (W : World) (hW : Below w.heap.size w W) => l9Copy_spec W H x (rdMem_up h hW) hs
  have hmo := fun (W : World) (hW : Below w.heap.size w W) => MemOk_spec W H x (rdMem_up h hW) (by unfold sizeMem sizeLists at hs; omega) (by unfold sizeMem sizeLists at hs; omega)
  have hto := fun (W : World) (K : HLists) (hK : RdLists W W.heap.size K x.Lists) => TakeOwn_spec_nil W K x.Lists wk c hK hsh2.2 (mem_lists c1) hw hc hrow0
  have htg := fun (W : World) (K : HLists) (hK : RdLists W W.heap.size K x.Lists) => TakeGlobal_spec_nil W K x.Lists c hK hsh2.2 (mem_lists c1) hc hrow
  have hgr := fun (W : World) (K : HMem) (hK : OwMem W K x) => l9Grant_yes W K x p c hK hsh2.2 hsh (lists_len (mem_lists c1)).1 hc hp
  rw [c1] at hmo
  have hco := fun W => ClassOf_spec n W
  rw [c3] at hco
  clear c3 hrow hrow0 c1 hsh2 hs gf2 gf3 hpl hp hsh
  generalize ((p * 4 : Nat) : Int) = s at f1 f3 hs0 hgr k1 ⊢
  have B_a : Box ((w.alloc (.cells #[.slice H.Heap.Bytes.a H.Heap.Bytes.len H.Heap.Bytes.cap, .slice H.Heap.Class.a H.Heap.Class.len H.Heap.Class.cap, .slice H.Lists.Global.a H.Lists.Global.len H.Lists.Global.cap, .slice H.Lists.Own.a H.Lists.Own.len H.Lists.Own.cap] 31)).alloc (.cells #[.slice none 0 0, .slice none 0 0, .slice none 0 0, .slice none 0 0] 31)) (w.heap.size) [.slice H.Heap.Bytes.a H.Heap.Bytes.len H.Heap.Bytes.cap, .slice H.Heap.Class.a H.Heap.Class.len H.Heap.Class.cap, .slice H.Lists.Global.a H.Lists.Global.len H.Lists.Global.cap, .slice H.Lists.Own.a H.Lists.Own.len H.Lists.Own.cap] := by
    have hbx := Box.new w #[.slice H.Heap.Bytes.a H.Heap.Bytes.len H.Heap.Bytes.cap, .slice H.Heap.Class.a H.Heap.Class.len H.Heap.Class.cap, .slice H.Lists.Global.a H.Lists.Global.len H.Lists.Global.cap, .slice H.Lists.Own.a H.Lists.Own.len H.Lists.Own.cap] 31
    exact (hbx).alloc _
  have B_r : Box ((w.alloc (.cells #[.slice H.Heap.Bytes.a H.Heap.Bytes.len H.Heap.Bytes.cap, .slice H.Heap.Class.a H.Heap.Class.len H.Heap.Class.cap, .slice H.Lists.Global.a H.Lists.Global.len H.Lists.Global.cap, .slice H.Lists.Own.a H.Lists.Own.len H.Lists.Own.cap] 31)).alloc (.cells #[.slice none 0 0, .slice none 0 0, .slice none 0 0, .slice none 0 0] 31)) (w.heap.size + 1) [.slice none 0 0, .slice none 0 0, .slice none 0 0, .slice none 0 0] := by
    have hbx := Box.new (w.alloc (.cells #[.slice H.Heap.Bytes.a H.Heap.Bytes.len H.Heap.Bytes.cap, .slice H.Heap.Class.a H.Heap.Class.len H.Heap.Class.cap, .slice H.Lists.Global.a H.Lists.Global.len H.Lists.Global.cap, .slice H.Lists.Own.a H.Lists.Own.len H.Lists.Own.cap] 31)) #[.slice none 0 0, .slice none 0 0, .slice none 0 0, .slice none 0 0] 31
    simp only [World.size_alloc] at hbx
    exact hbx
  have hB : Below w.heap.size w ((w.alloc (.cells #[.slice H.Heap.Bytes.a H.Heap.Bytes.len H.Heap.Bytes.cap, .slice H.Heap.Class.a H.Heap.Class.len H.Heap.Class.cap, .slice H.Lists.Global.a H.Lists.Global.len H.Lists.Global.cap, .slice H.Lists.Own.a H.Lists.Own.len H.Lists.Own.cap] 31)).alloc (.cells #[.slice none 0 0, .slice none 0 0, .slice none 0 0, .slice none 0 0] 31)) := by repeat (first | exact Below.refl _ _ | refine Below.alloc ?_ (by simp <;> omega) _ | refine below_grow_of ?_ (by simp <;> omega) _ _ | refine Below.drew ?_ | refine below_drewN ?_ _)
  go_enter Tryz.func35, Tryz.ntmps35
  go_wp2_with fail
  generalize hW0 : ((w.alloc (.cells #[.slice H.Heap.Bytes.a H.Heap.Bytes.len H.Heap.Bytes.cap, .slice H.Heap.Class.a H.Heap.Class.len H.Heap.Class.cap, .slice H.Lists.Global.a H.Lists.Global.len H.Lists.Global.cap, .slice H.Lists.Own.a H.Lists.Own.len H.Lists.Own.cap] 31)).alloc (.cells #[.slice none 0 0, .slice none 0 0, .slice none 0 0, .slice none 0 0] 31)) = w0 at B_a B_r hB ⊢
  clear hW0
  have zz_a := B_a.lt
  have zz_r := B_r.lt
  have q_a_0 := B_a.cell 0 _ rfl
  have q_a_1 := B_a.cell 1 _ rfl
  have q_a_2 := B_a.cell 2 _ rfl
  have q_a_3 := B_a.cell 3 _ rfl
  have fr_a := B_a.fro
  have z_a := B_a.lt
  have q_r_0 := B_r.cell 0 _ rfl
  have q_r_1 := B_r.cell 1 _ rfl
  have q_r_2 := B_r.cell 2 _ rfl
  have q_r_3 := B_r.cell 3 _ rfl
  have fr_r := B_r.fro
  have z_r := B_r.lt
  refine (hcp _ hB).mono ?_
  rintro e w1 ⟨K_c, rfl, o_c, l_c, hb⟩
  have u_c := o_c.lt
  replace B_a := B_a.below hb
  replace B_r := B_r.below hb
  replace hB := hB.trans (hb.mono hB.size)
  have sz := hb.size
  clear hb
  replace q_a_0 := B_a.cell 0 _ rfl
  replace q_a_1 := B_a.cell 1 _ rfl
  replace q_a_2 := B_a.cell 2 _ rfl
  replace q_a_3 := B_a.cell 3 _ rfl
  replace fr_a := B_a.fro
  replace z_a := B_a.lt
  replace q_r_0 := B_r.cell 0 _ rfl
  replace q_r_1 := B_r.cell 1 _ rfl
  replace q_r_2 := B_r.cell 2 _ rfl
  replace q_r_3 := B_r.cell 3 _ rfl
  replace fr_r := B_r.fro
  replace z_r := B_r.lt
  clear hcp
  go_wp2_with (go_at_call 101; refine (hco _).mono ?_; rintro e wv ⟨rfl, rfl⟩)
  replace B_a := B_a.alloc (.cells #[.slice K_c.Heap.Bytes.a K_c.Heap.Bytes.len K_c.Heap.Bytes.cap, .slice K_c.Heap.Class.a K_c.Heap.Class.len K_c.Heap.Class.cap, .slice K_c.Lists.Global.a K_c.Lists.Global.len K_c.Lists.Global.cap, .slice K_c.Lists.Own.a K_c.Lists.Own.len K_c.Lists.Own.cap] 31)
  replace B_r := B_r.alloc (.cells #[.slice K_c.Heap.Bytes.a K_c.Heap.Bytes.len K_c.Heap.Bytes.cap, .slice K_c.Heap.Class.a K_c.Heap.Class.len K_c.Heap.Class.cap, .slice K_c.Lists.Global.a K_c.Lists.Global.len K_c.Lists.Global.cap, .slice K_c.Lists.Own.a K_c.Lists.Own.len K_c.Lists.Own.cap] 31)
  replace o_c := o_c.alloc_ (.cells #[.slice K_c.Heap.Bytes.a K_c.Heap.Bytes.len K_c.Heap.Bytes.cap, .slice K_c.Heap.Class.a K_c.Heap.Class.len K_c.Heap.Class.cap, .slice K_c.Lists.Global.a K_c.Lists.Global.len K_c.Lists.Global.cap, .slice K_c.Lists.Own.a K_c.Lists.Own.len K_c.Lists.Own.cap] 31)
  replace hB := hB.alloc hB.size (.cells #[.slice K_c.Heap.Bytes.a K_c.Heap.Bytes.len K_c.Heap.Bytes.cap, .slice K_c.Heap.Class.a K_c.Heap.Class.len K_c.Heap.Class.cap, .slice K_c.Lists.Global.a K_c.Lists.Global.len K_c.Lists.Global.cap, .slice K_c.Lists.Own.a K_c.Lists.Own.len K_c.Lists.Own.cap] 31)
  have B_o : Box (w1.alloc (.cells #[.slice K_c.Heap.Bytes.a K_c.Heap.Bytes.len K_c.Heap.Bytes.cap, .slice K_c.Heap.Class.a K_c.Heap.Class.len K_c.Heap.Class.cap, .slice K_c.Lists.Global.a K_c.Lists.Global.len K_c.Lists.Global.cap, .slice K_c.Lists.Own.a K_c.Lists.Own.len K_c.Lists.Own.cap] 31)) w1.heap.size [.slice K_c.Heap.Bytes.a K_c.Heap.Bytes.len K_c.Heap.Bytes.cap, .slice K_c.Heap.Class.a K_c.Heap.Class.len K_c.Heap.Class.cap, .slice K_c.Lists.Global.a K_c.Lists.Global.len K_c.Lists.Global.cap, .slice K_c.Lists.Own.a K_c.Lists.Own.len K_c.Lists.Own.cap] := Box.new w1 #[.slice K_c.Heap.Bytes.a K_c.Heap.Bytes.len K_c.Heap.Bytes.cap, .slice K_c.Heap.Class.a K_c.Heap.Class.len K_c.Heap.Class.cap, .slice K_c.Lists.Global.a K_c.Lists.Global.len K_c.Lists.Global.cap, .slice K_c.Lists.Own.a K_c.Lists.Own.len K_c.Lists.Own.cap] 31
  have zz_o := B_o.lt
  have sz : w1.heap.size ≤ (w1.alloc (.cells #[.slice K_c.Heap.Bytes.a K_c.Heap.Bytes.len K_c.Heap.Bytes.cap, .slice K_c.Heap.Class.a K_c.Heap.Class.len K_c.Heap.Class.cap, .slice K_c.Lists.Global.a K_c.Lists.Global.len K_c.Lists.Global.cap, .slice K_c.Lists.Own.a K_c.Lists.Own.len K_c.Lists.Own.cap] 31)).heap.size := Nat.le_of_lt B_o.lt
  generalize hG : (w1.alloc (.cells #[.slice K_c.Heap.Bytes.a K_c.Heap.Bytes.len K_c.Heap.Bytes.cap, .slice K_c.Heap.Class.a K_c.Heap.Class.len K_c.Heap.Class.cap, .slice K_c.Lists.Global.a K_c.Lists.Global.len K_c.Lists.Global.cap, .slice K_c.Lists.Own.a K_c.Lists.Own.len K_c.Lists.Own.cap] 31)) = w2 at B_a B_r o_c hB B_o zz_o sz ⊢
  clear hG
  replace q_a_0 := B_a.cell 0 _ rfl
  replace q_a_1 := B_a.cell 1 _ rfl
  replace q_a_2 := B_a.cell 2 _ rfl
  replace q_a_3 := B_a.cell 3 _ rfl
  replace fr_a := B_a.fro
  replace z_a := B_a.lt
  replace q_r_0 := B_r.cell 0 _ rfl
  replace q_r_1 := B_r.cell 1 _ rfl
  replace q_r_2 := B_r.cell 2 _ rfl
  replace q_r_3 := B_r.cell 3 _ rfl
  replace fr_r := B_r.fro
  replace z_r := B_r.lt
  have q_o_0 := B_o.cell 0 _ rfl
  have q_o_1 := B_o.cell 1 _ rfl
  have q_o_2 := B_o.cell 2 _ rfl
  have q_o_3 := B_o.cell 3 _ rfl
  have fr_o := B_o.fro
  have z_o := B_o.lt
  refine (hmo _ hB).mono ?_
  rintro e w3 ⟨rfl, hb⟩
  replace B_a := B_a.below hb
  replace B_r := B_r.below hb
  replace B_o := B_o.below hb
  have o_c := o_c.step0 hb
  replace hB := hB.trans (hb.mono hB.size)
  have sz := hb.size
  clear hb
  replace q_a_0 := B_a.cell 0 _ rfl
  replace q_a_1 := B_a.cell 1 _ rfl
  replace q_a_2 := B_a.cell 2 _ rfl
  replace q_a_3 := B_a.cell 3 _ rfl
  replace fr_a := B_a.fro
  replace z_a := B_a.lt
  replace q_r_0 := B_r.cell 0 _ rfl
  replace q_r_1 := B_r.cell 1 _ rfl
  replace q_r_2 := B_r.cell 2 _ rfl
  replace q_r_3 := B_r.cell 3 _ rfl
  replace fr_r := B_r.fro
  replace z_r := B_r.lt
  replace q_o_0 := B_o.cell 0 _ rfl
  replace q_o_1 := B_o.cell 1 _ rfl
  replace q_o_2 := B_o.cell 2 _ rfl
  replace q_o_3 := B_o.cell 3 _ rfl
  replace fr_o := B_o.fro
  replace z_o := B_o.lt
  clear hmo
  go_wp2_with (go_at_call 102; refine (l1In_ct _ _ _ _).mono ?_; rw [c2]; rintro e wv ⟨rfl, rfl⟩)
  refine (hto _ K_c.Lists o_c.Lists.rd').mono ?_
  rintro e w4 ⟨K_u, rfl, o_u, l_u, hb⟩
  have u_u := o_u.lt
  replace B_a := B_a.below hb
  replace B_r := B_r.below hb
  replace B_o := B_o.below hb
  replace o_c := o_c.step0 hb
  replace hB := hB.trans (hb.mono hB.size)
  have sz := hb.size
  clear hb
  replace q_a_0 := B_a.cell 0 _ rfl
  replace q_a_1 := B_a.cell 1 _ rfl
  replace q_a_2 := B_a.cell 2 _ rfl
  replace q_a_3 := B_a.cell 3 _ rfl
  replace fr_a := B_a.fro
  replace z_a := B_a.lt
  replace q_r_0 := B_r.cell 0 _ rfl
  replace q_r_1 := B_r.cell 1 _ rfl
  replace q_r_2 := B_r.cell 2 _ rfl
  replace q_r_3 := B_r.cell 3 _ rfl
  replace fr_r := B_r.fro
  replace z_r := B_r.lt
  replace q_o_0 := B_o.cell 0 _ rfl
  replace q_o_1 := B_o.cell 1 _ rfl
  replace q_o_2 := B_o.cell 2 _ rfl
  replace q_o_3 := B_o.cell 3 _ rfl
  replace fr_o := B_o.fro
  replace z_o := B_o.lt
  clear hto
  go_wp2_with fail
  replace B_a := B_a.alloc (.cells #[.slice K_u.Global.a K_u.Global.len K_u.Global.cap, .slice K_u.Own.a K_u.Own.len K_u.Own.cap] 29)
  replace B_r := B_r.alloc (.cells #[.slice K_u.Global.a K_u.Global.len K_u.Global.cap, .slice K_u.Own.a K_u.Own.len K_u.Own.cap] 29)
  replace B_o := B_o.alloc (.cells #[.slice K_u.Global.a K_u.Global.len K_u.Global.cap, .slice K_u.Own.a K_u.Own.len K_u.Own.cap] 29)
  replace o_c := o_c.alloc_ (.cells #[.slice K_u.Global.a K_u.Global.len K_u.Global.cap, .slice K_u.Own.a K_u.Own.len K_u.Own.cap] 29)
  replace o_u := o_u.alloc_ (.cells #[.slice K_u.Global.a K_u.Global.len K_u.Global.cap, .slice K_u.Own.a K_u.Own.len K_u.Own.cap] 29)
  replace hB := hB.alloc hB.size (.cells #[.slice K_u.Global.a K_u.Global.len K_u.Global.cap, .slice K_u.Own.a K_u.Own.len K_u.Own.cap] 29)
  have B_p : Box (w4.alloc (.cells #[.slice K_u.Global.a K_u.Global.len K_u.Global.cap, .slice K_u.Own.a K_u.Own.len K_u.Own.cap] 29)) w4.heap.size [.slice K_u.Global.a K_u.Global.len K_u.Global.cap, .slice K_u.Own.a K_u.Own.len K_u.Own.cap] := Box.new w4 #[.slice K_u.Global.a K_u.Global.len K_u.Global.cap, .slice K_u.Own.a K_u.Own.len K_u.Own.cap] 29
  have zz_p := B_p.lt
  have sz : w4.heap.size ≤ (w4.alloc (.cells #[.slice K_u.Global.a K_u.Global.len K_u.Global.cap, .slice K_u.Own.a K_u.Own.len K_u.Own.cap] 29)).heap.size := Nat.le_of_lt B_p.lt
  generalize hG : (w4.alloc (.cells #[.slice K_u.Global.a K_u.Global.len K_u.Global.cap, .slice K_u.Own.a K_u.Own.len K_u.Own.cap] 29)) = w5 at B_a B_r B_o o_c o_u hB B_p zz_p sz ⊢
  clear hG
  replace q_a_0 := B_a.cell 0 _ rfl
  replace q_a_1 := B_a.cell 1 _ rfl
  replace q_a_2 := B_a.cell 2 _ rfl
  replace q_a_3 := B_a.cell 3 _ rfl
  replace fr_a := B_a.fro
  replace z_a := B_a.lt
  replace q_r_0 := B_r.cell 0 _ rfl
  replace q_r_1 := B_r.cell 1 _ rfl
  replace q_r_2 := B_r.cell 2 _ rfl
  replace q_r_3 := B_r.cell 3 _ rfl
  replace fr_r := B_r.fro
  replace z_r := B_r.lt
  replace q_o_0 := B_o.cell 0 _ rfl
  replace q_o_1 := B_o.cell 1 _ rfl
  replace q_o_2 := B_o.cell 2 _ rfl
  replace q_o_3 := B_o.cell 3 _ rfl
  replace fr_o := B_o.fro
  replace z_o := B_o.lt
  have q_p_0 := B_p.cell 0 _ rfl
  have q_p_1 := B_p.cell 1 _ rfl
  have fr_p := B_p.fro
  have z_p := B_p.lt
  refine (htg _ K_u o_u.rd').mono ?_
  rintro e w6 ⟨K_t, rfl, o_t, l_t, hb⟩
  have u_t := o_t.lt
  replace B_a := B_a.below hb
  replace B_r := B_r.below hb
  replace B_o := B_o.below hb
  replace B_p := B_p.below hb
  replace o_c := o_c.step0 hb
  have o_u := o_u.step0 hb
  replace hB := hB.trans (hb.mono hB.size)
  have sz := hb.size
  clear hb
  replace q_a_0 := B_a.cell 0 _ rfl
  replace q_a_1 := B_a.cell 1 _ rfl
  replace q_a_2 := B_a.cell 2 _ rfl
  replace q_a_3 := B_a.cell 3 _ rfl
  replace fr_a := B_a.fro
  replace z_a := B_a.lt
  replace q_r_0 := B_r.cell 0 _ rfl
  replace q_r_1 := B_r.cell 1 _ rfl
  replace q_r_2 := B_r.cell 2 _ rfl
  replace q_r_3 := B_r.cell 3 _ rfl
  replace fr_r := B_r.fro
  replace z_r := B_r.lt
  replace q_o_0 := B_o.cell 0 _ rfl
  replace q_o_1 := B_o.cell 1 _ rfl
  replace q_o_2 := B_o.cell 2 _ rfl
  replace q_o_3 := B_o.cell 3 _ rfl
  replace fr_o := B_o.fro
  replace z_o := B_o.lt
  replace q_p_0 := B_p.cell 0 _ rfl
  replace q_p_1 := B_p.cell 1 _ rfl
  replace fr_p := B_p.fro
  replace z_p := B_p.lt
  clear htg
  go_upto_region 10 with (fail)
  replace B_a : Box ((w6.setCell ⟨w4.heap.size, 0, none⟩ (.slice K_t.Global.a K_t.Global.len K_t.Global.cap)).setCell ⟨w4.heap.size, 1, none⟩ (.slice K_t.Own.a K_t.Own.len K_t.Own.cap)) (w.heap.size) [.slice H.Heap.Bytes.a H.Heap.Bytes.len H.Heap.Bytes.cap, .slice H.Heap.Class.a H.Heap.Class.len H.Heap.Class.cap, .slice H.Lists.Global.a H.Lists.Global.len H.Lists.Global.cap, .slice H.Lists.Own.a H.Lists.Own.len H.Lists.Own.cap] := ((B_a.other (by omega) _).other (by omega) _)
  replace B_r : Box ((w6.setCell ⟨w4.heap.size, 0, none⟩ (.slice K_t.Global.a K_t.Global.len K_t.Global.cap)).setCell ⟨w4.heap.size, 1, none⟩ (.slice K_t.Own.a K_t.Own.len K_t.Own.cap)) (w.heap.size + 1) [.slice none 0 0, .slice none 0 0, .slice none 0 0, .slice none 0 0] := ((B_r.other (by omega) _).other (by omega) _)
  replace B_o : Box ((w6.setCell ⟨w4.heap.size, 0, none⟩ (.slice K_t.Global.a K_t.Global.len K_t.Global.cap)).setCell ⟨w4.heap.size, 1, none⟩ (.slice K_t.Own.a K_t.Own.len K_t.Own.cap)) (w1.heap.size) [.slice K_c.Heap.Bytes.a K_c.Heap.Bytes.len K_c.Heap.Bytes.cap, .slice K_c.Heap.Class.a K_c.Heap.Class.len K_c.Heap.Class.cap, .slice K_c.Lists.Global.a K_c.Lists.Global.len K_c.Lists.Global.cap, .slice K_c.Lists.Own.a K_c.Lists.Own.len K_c.Lists.Own.cap] := ((B_o.other (by omega) _).other (by omega) _)
  replace B_p : Box ((w6.setCell ⟨w4.heap.size, 0, none⟩ (.slice K_t.Global.a K_t.Global.len K_t.Global.cap)).setCell ⟨w4.heap.size, 1, none⟩ (.slice K_t.Own.a K_t.Own.len K_t.Own.cap)) (w4.heap.size) [.slice K_t.Global.a K_t.Global.len K_t.Global.cap, .slice K_t.Own.a K_t.Own.len K_t.Own.cap] := ((B_p.set 0 (.slice K_t.Global.a K_t.Global.len K_t.Global.cap)).set 1 (.slice K_t.Own.a K_t.Own.len K_t.Own.cap))
  replace o_c := o_c.chg (F := [w4.heap.size]) (w' := ((w6.setCell ⟨w4.heap.size, 0, none⟩ (.slice K_t.Global.a K_t.Global.len K_t.Global.cap)).setCell ⟨w4.heap.size, 1, none⟩ (.slice K_t.Own.a K_t.Own.len K_t.Own.cap))) (by repeat (first | with_reducible exact Chg.refl _ _ | with_reducible refine Chg.set_ ?_ (by simp) _ | with_reducible refine Chg.alloc_ ?_ _ | with_reducible refine Chg.drew_ ?_)) (fun g hg hm => by simp only [List.mem_cons, List.not_mem_nil, or_false] at hm; have := l_c g hg; have := u_c g hg; omega)
  replace o_u := o_u.chg (F := [w4.heap.size]) (w' := ((w6.setCell ⟨w4.heap.size, 0, none⟩ (.slice K_t.Global.a K_t.Global.len K_t.Global.cap)).setCell ⟨w4.heap.size, 1, none⟩ (.slice K_t.Own.a K_t.Own.len K_t.Own.cap))) (by repeat (first | with_reducible exact Chg.refl _ _ | with_reducible refine Chg.set_ ?_ (by simp) _ | with_reducible refine Chg.alloc_ ?_ _ | with_reducible refine Chg.drew_ ?_)) (fun g hg hm => by simp only [List.mem_cons, List.not_mem_nil, or_false] at hm; have := l_u g hg; have := u_u g hg; omega)
  replace o_t := o_t.chg (F := [w4.heap.size]) (w' := ((w6.setCell ⟨w4.heap.size, 0, none⟩ (.slice K_t.Global.a K_t.Global.len K_t.Global.cap)).setCell ⟨w4.heap.size, 1, none⟩ (.slice K_t.Own.a K_t.Own.len K_t.Own.cap))) (by repeat (first | with_reducible exact Chg.refl _ _ | with_reducible refine Chg.set_ ?_ (by simp) _ | with_reducible refine Chg.alloc_ ?_ _ | with_reducible refine Chg.drew_ ?_)) (fun g hg hm => by simp only [List.mem_cons, List.not_mem_nil, or_false] at hm; have := l_t g hg; have := u_t g hg; omega)
  replace hB : Below w.heap.size w ((w6.setCell ⟨w4.heap.size, 0, none⟩ (.slice K_t.Global.a K_t.Global.len K_t.Global.cap)).setCell ⟨w4.heap.size, 1, none⟩ (.slice K_t.Own.a K_t.Own.len K_t.Own.cap)) := Below.trans hB (by repeat (first | with_reducible exact Below.refl _ _ | with_reducible refine Below.setCell ?_ (by simp <;> omega) _ | with_reducible refine Below.alloc ?_ (by simp <;> omega) _ | with_reducible refine Below.drew ?_))
  have sz : w6.heap.size ≤ ((w6.setCell ⟨w4.heap.size, 0, none⟩ (.slice K_t.Global.a K_t.Global.len K_t.Global.cap)).setCell ⟨w4.heap.size, 1, none⟩ (.slice K_t.Own.a K_t.Own.len K_t.Own.cap)).heap.size := by simp
  generalize hG : ((w6.setCell ⟨w4.heap.size, 0, none⟩ (.slice K_t.Global.a K_t.Global.len K_t.Global.cap)).setCell ⟨w4.heap.size, 1, none⟩ (.slice K_t.Own.a K_t.Own.len K_t.Own.cap)) = w7 at B_a B_r B_o B_p o_c o_u o_t hB sz ⊢
  clear hG
  replace q_a_0 := B_a.cell 0 _ rfl
  replace q_a_1 := B_a.cell 1 _ rfl
  replace q_a_2 := B_a.cell 2 _ rfl
  replace q_a_3 := B_a.cell 3 _ rfl
  replace fr_a := B_a.fro
  replace z_a := B_a.lt
  replace q_r_0 := B_r.cell 0 _ rfl
  replace q_r_1 := B_r.cell 1 _ rfl
  replace q_r_2 := B_r.cell 2 _ rfl
  replace q_r_3 := B_r.cell 3 _ rfl
  replace fr_r := B_r.fro
  replace z_r := B_r.lt
  replace q_o_0 := B_o.cell 0 _ rfl
  replace q_o_1 := B_o.cell 1 _ rfl
  replace q_o_2 := B_o.cell 2 _ rfl
  replace q_o_3 := B_o.cell 3 _ rfl
  replace fr_o := B_o.fro
  replace z_o := B_o.lt
  replace q_p_0 := B_p.cell 0 _ rfl
  replace q_p_1 := B_p.cell 1 _ rfl
  replace fr_p := B_p.fro
  replace z_p := B_p.lt
  go_upto_region 12 with (fail)
  replace B_a : Box ((w7.setCell ⟨w1.heap.size, 2, none⟩ (.slice K_t.Global.a K_t.Global.len K_t.Global.cap)).setCell ⟨w1.heap.size, 3, none⟩ (.slice K_t.Own.a K_t.Own.len K_t.Own.cap)) (w.heap.size) [.slice H.Heap.Bytes.a H.Heap.Bytes.len H.Heap.Bytes.cap, .slice H.Heap.Class.a H.Heap.Class.len H.Heap.Class.cap, .slice H.Lists.Global.a H.Lists.Global.len H.Lists.Global.cap, .slice H.Lists.Own.a H.Lists.Own.len H.Lists.Own.cap] := ((B_a.other (by omega) _).other (by omega) _)
  replace B_r : Box ((w7.setCell ⟨w1.heap.size, 2, none⟩ (.slice K_t.Global.a K_t.Global.len K_t.Global.cap)).setCell ⟨w1.heap.size, 3, none⟩ (.slice K_t.Own.a K_t.Own.len K_t.Own.cap)) (w.heap.size + 1) [.slice none 0 0, .slice none 0 0, .slice none 0 0, .slice none 0 0] := ((B_r.other (by omega) _).other (by omega) _)
  replace B_o : Box ((w7.setCell ⟨w1.heap.size, 2, none⟩ (.slice K_t.Global.a K_t.Global.len K_t.Global.cap)).setCell ⟨w1.heap.size, 3, none⟩ (.slice K_t.Own.a K_t.Own.len K_t.Own.cap)) (w1.heap.size) [.slice K_c.Heap.Bytes.a K_c.Heap.Bytes.len K_c.Heap.Bytes.cap, .slice K_c.Heap.Class.a K_c.Heap.Class.len K_c.Heap.Class.cap, .slice K_t.Global.a K_t.Global.len K_t.Global.cap, .slice K_t.Own.a K_t.Own.len K_t.Own.cap] := ((B_o.set 2 (.slice K_t.Global.a K_t.Global.len K_t.Global.cap)).set 3 (.slice K_t.Own.a K_t.Own.len K_t.Own.cap))
  replace B_p : Box ((w7.setCell ⟨w1.heap.size, 2, none⟩ (.slice K_t.Global.a K_t.Global.len K_t.Global.cap)).setCell ⟨w1.heap.size, 3, none⟩ (.slice K_t.Own.a K_t.Own.len K_t.Own.cap)) (w4.heap.size) [.slice K_t.Global.a K_t.Global.len K_t.Global.cap, .slice K_t.Own.a K_t.Own.len K_t.Own.cap] := ((B_p.other (by omega) _).other (by omega) _)
  replace o_c := o_c.chg (F := [w1.heap.size]) (w' := ((w7.setCell ⟨w1.heap.size, 2, none⟩ (.slice K_t.Global.a K_t.Global.len K_t.Global.cap)).setCell ⟨w1.heap.size, 3, none⟩ (.slice K_t.Own.a K_t.Own.len K_t.Own.cap))) (by repeat (first | with_reducible exact Chg.refl _ _ | with_reducible refine Chg.set_ ?_ (by simp) _ | with_reducible refine Chg.alloc_ ?_ _ | with_reducible refine Chg.drew_ ?_)) (fun g hg hm => by simp only [List.mem_cons, List.not_mem_nil, or_false] at hm; have := l_c g hg; have := u_c g hg; omega)
  replace o_u := o_u.chg (F := [w1.heap.size]) (w' := ((w7.setCell ⟨w1.heap.size, 2, none⟩ (.slice K_t.Global.a K_t.Global.len K_t.Global.cap)).setCell ⟨w1.heap.size, 3, none⟩ (.slice K_t.Own.a K_t.Own.len K_t.Own.cap))) (by repeat (first | with_reducible exact Chg.refl _ _ | with_reducible refine Chg.set_ ?_ (by simp) _ | with_reducible refine Chg.alloc_ ?_ _ | with_reducible refine Chg.drew_ ?_)) (fun g hg hm => by simp only [List.mem_cons, List.not_mem_nil, or_false] at hm; have := l_u g hg; have := u_u g hg; omega)
  replace o_t := o_t.chg (F := [w1.heap.size]) (w' := ((w7.setCell ⟨w1.heap.size, 2, none⟩ (.slice K_t.Global.a K_t.Global.len K_t.Global.cap)).setCell ⟨w1.heap.size, 3, none⟩ (.slice K_t.Own.a K_t.Own.len K_t.Own.cap))) (by repeat (first | with_reducible exact Chg.refl _ _ | with_reducible refine Chg.set_ ?_ (by simp) _ | with_reducible refine Chg.alloc_ ?_ _ | with_reducible refine Chg.drew_ ?_)) (fun g hg hm => by simp only [List.mem_cons, List.not_mem_nil, or_false] at hm; have := l_t g hg; have := u_t g hg; omega)
  replace hB : Below w.heap.size w ((w7.setCell ⟨w1.heap.size, 2, none⟩ (.slice K_t.Global.a K_t.Global.len K_t.Global.cap)).setCell ⟨w1.heap.size, 3, none⟩ (.slice K_t.Own.a K_t.Own.len K_t.Own.cap)) := Below.trans hB (by repeat (first | with_reducible exact Below.refl _ _ | with_reducible refine Below.setCell ?_ (by simp <;> omega) _ | with_reducible refine Below.alloc ?_ (by simp <;> omega) _ | with_reducible refine Below.drew ?_))
  have sz : w7.heap.size ≤ ((w7.setCell ⟨w1.heap.size, 2, none⟩ (.slice K_t.Global.a K_t.Global.len K_t.Global.cap)).setCell ⟨w1.heap.size, 3, none⟩ (.slice K_t.Own.a K_t.Own.len K_t.Own.cap)).heap.size := by simp
  generalize hG : ((w7.setCell ⟨w1.heap.size, 2, none⟩ (.slice K_t.Global.a K_t.Global.len K_t.Global.cap)).setCell ⟨w1.heap.size, 3, none⟩ (.slice K_t.Own.a K_t.Own.len K_t.Own.cap)) = w8 at B_a B_r B_o B_p o_c o_u o_t hB sz ⊢
  clear hG
  replace q_a_0 := B_a.cell 0 _ rfl
  replace q_a_1 := B_a.cell 1 _ rfl
  replace q_a_2 := B_a.cell 2 _ rfl
  replace q_a_3 := B_a.cell 3 _ rfl
  replace fr_a := B_a.fro
  replace z_a := B_a.lt
  replace q_r_0 := B_r.cell 0 _ rfl
  replace q_r_1 := B_r.cell 1 _ rfl
  replace q_r_2 := B_r.cell 2 _ rfl
  replace q_r_3 := B_r.cell 3 _ rfl
  replace fr_r := B_r.fro
  replace z_r := B_r.lt
  replace q_o_0 := B_o.cell 0 _ rfl
  replace q_o_1 := B_o.cell 1 _ rfl
  replace q_o_2 := B_o.cell 2 _ rfl
  replace q_o_3 := B_o.cell 3 _ rfl
  replace fr_o := B_o.fro
  replace z_o := B_o.lt
  replace q_p_0 := B_p.cell 0 _ rfl
  replace q_p_1 := B_p.cell 1 _ rfl
  replace fr_p := B_p.fro
  replace z_p := B_p.lt
  have o_m : OwMem w8 ⟨K_c.Heap, K_t⟩ x := ⟨o_c.Heap, o_t, fun b hb hm => by have := u_c b (HMem.mem_foot.2 (.inl hb)); have := l_t b hm; omega⟩
  have n_m : ∀ b ∈ HMem.foot ⟨K_c.Heap, K_t⟩, w.heap.size + 1 < b ∧ b ≠ w1.heap.size ∧ b ≠ w4.heap.size := by
    intro b hb
    rcases HMem.mem_foot.1 hb with hb | hb
    · have h1 := u_c b (HMem.mem_foot.2 (.inl hb))
      have h2 := l_c b (HMem.mem_foot.2 (.inl hb))
      exact ⟨by omega, by omega, by omega⟩
    · have h1 := l_t b hb
      exact ⟨by omega, by omega, by omega⟩
  clear o_c o_t o_u l_u u_u
  go_wp2_with fail
  refine (hgr _ _ o_m).mono ?_
  clear hgr
  rintro e w99 ⟨K_n, rfl, o_n, f_n, hx⟩
  replace B_r := B_r.chg hx (fun hm => by have := n_m _ hm; omega)
  replace B_o := B_o.chg hx (fun hm => by have := n_m _ hm; omega)
  replace B_p := B_p.chg hx (fun hm => by have := n_m _ hm; omega)
  replace B_a := B_a.chg hx (fun hm => by have := n_m _ hm; omega)
  replace hB := hB.trans (hx.below hB.size (fun b hb => by have := n_m b hb; omega))
  have sz := hx.size
  have n_n : ∀ b ∈ K_n.foot, w.heap.size + 1 < b ∧ b ≠ w1.heap.size := fun b hb => by rcases f_n b hb with hh | hh; (exact ⟨(n_m b hh).1, (n_m b hh).2.1⟩); exact ⟨by omega, by omega⟩
  have l_n : ∀ b ∈ K_n.foot, w.heap.size + 1 < b := fun b hb => (n_n b hb).1
  have u_n := o_n.lt
  have ne_n : ∀ b ∈ K_n.foot, b ≠ w1.heap.size := fun b hb => (n_n b hb).2
  clear o_m hx
  clear B_p q_p_0 q_p_1 fr_p z_p
  replace q_a_0 := B_a.cell 0 _ rfl
  replace q_a_1 := B_a.cell 1 _ rfl
  replace q_a_2 := B_a.cell 2 _ rfl
  replace q_a_3 := B_a.cell 3 _ rfl
  replace fr_a := B_a.fro
  replace z_a := B_a.lt
  replace q_r_0 := B_r.cell 0 _ rfl
  replace q_r_1 := B_r.cell 1 _ rfl
  replace q_r_2 := B_r.cell 2 _ rfl
  replace q_r_3 := B_r.cell 3 _ rfl
  replace fr_r := B_r.fro
  replace z_r := B_r.lt
  replace q_o_0 := B_o.cell 0 _ rfl
  replace q_o_1 := B_o.cell 1 _ rfl
  replace q_o_2 := B_o.cell 2 _ rfl
  replace q_o_3 := B_o.cell 3 _ rfl
  replace fr_o := B_o.fro
  replace z_o := B_o.lt
  go_upto_region 15 with (fail)
  replace B_a : Box ((((w99.setCell ⟨w1.heap.size, 0, none⟩ (.slice K_n.Heap.Bytes.a K_n.Heap.Bytes.len K_n.Heap.Bytes.cap)).setCell ⟨w1.heap.size, 1, none⟩ (.slice K_n.Heap.Class.a K_n.Heap.Class.len K_n.Heap.Class.cap)).setCell ⟨w1.heap.size, 2, none⟩ (.slice K_n.Lists.Global.a K_n.Lists.Global.len K_n.Lists.Global.cap)).setCell ⟨w1.heap.size, 3, none⟩ (.slice K_n.Lists.Own.a K_n.Lists.Own.len K_n.Lists.Own.cap)) (w.heap.size) [.slice H.Heap.Bytes.a H.Heap.Bytes.len H.Heap.Bytes.cap, .slice H.Heap.Class.a H.Heap.Class.len H.Heap.Class.cap, .slice H.Lists.Global.a H.Lists.Global.len H.Lists.Global.cap, .slice H.Lists.Own.a H.Lists.Own.len H.Lists.Own.cap] := ((((B_a.other (by omega) _).other (by omega) _).other (by omega) _).other (by omega) _)
  replace B_r : Box ((((w99.setCell ⟨w1.heap.size, 0, none⟩ (.slice K_n.Heap.Bytes.a K_n.Heap.Bytes.len K_n.Heap.Bytes.cap)).setCell ⟨w1.heap.size, 1, none⟩ (.slice K_n.Heap.Class.a K_n.Heap.Class.len K_n.Heap.Class.cap)).setCell ⟨w1.heap.size, 2, none⟩ (.slice K_n.Lists.Global.a K_n.Lists.Global.len K_n.Lists.Global.cap)).setCell ⟨w1.heap.size, 3, none⟩ (.slice K_n.Lists.Own.a K_n.Lists.Own.len K_n.Lists.Own.cap)) (w.heap.size + 1) [.slice none 0 0, .slice none 0 0, .slice none 0 0, .slice none 0 0] := ((((B_r.other (by omega) _).other (by omega) _).other (by omega) _).other (by omega) _)
  replace B_o : Box ((((w99.setCell ⟨w1.heap.size, 0, none⟩ (.slice K_n.Heap.Bytes.a K_n.Heap.Bytes.len K_n.Heap.Bytes.cap)).setCell ⟨w1.heap.size, 1, none⟩ (.slice K_n.Heap.Class.a K_n.Heap.Class.len K_n.Heap.Class.cap)).setCell ⟨w1.heap.size, 2, none⟩ (.slice K_n.Lists.Global.a K_n.Lists.Global.len K_n.Lists.Global.cap)).setCell ⟨w1.heap.size, 3, none⟩ (.slice K_n.Lists.Own.a K_n.Lists.Own.len K_n.Lists.Own.cap)) (w1.heap.size) [.slice K_n.Heap.Bytes.a K_n.Heap.Bytes.len K_n.Heap.Bytes.cap, .slice K_n.Heap.Class.a K_n.Heap.Class.len K_n.Heap.Class.cap, .slice K_n.Lists.Global.a K_n.Lists.Global.len K_n.Lists.Global.cap, .slice K_n.Lists.Own.a K_n.Lists.Own.len K_n.Lists.Own.cap] := ((((B_o.set 0 (.slice K_n.Heap.Bytes.a K_n.Heap.Bytes.len K_n.Heap.Bytes.cap)).set 1 (.slice K_n.Heap.Class.a K_n.Heap.Class.len K_n.Heap.Class.cap)).set 2 (.slice K_n.Lists.Global.a K_n.Lists.Global.len K_n.Lists.Global.cap)).set 3 (.slice K_n.Lists.Own.a K_n.Lists.Own.len K_n.Lists.Own.cap))
  replace o_n := o_n.chg (F := [w1.heap.size]) (w' := ((((w99.setCell ⟨w1.heap.size, 0, none⟩ (.slice K_n.Heap.Bytes.a K_n.Heap.Bytes.len K_n.Heap.Bytes.cap)).setCell ⟨w1.heap.size, 1, none⟩ (.slice K_n.Heap.Class.a K_n.Heap.Class.len K_n.Heap.Class.cap)).setCell ⟨w1.heap.size, 2, none⟩ (.slice K_n.Lists.Global.a K_n.Lists.Global.len K_n.Lists.Global.cap)).setCell ⟨w1.heap.size, 3, none⟩ (.slice K_n.Lists.Own.a K_n.Lists.Own.len K_n.Lists.Own.cap))) (by repeat (first | with_reducible exact Chg.refl _ _ | with_reducible refine Chg.set_ ?_ (by simp) _ | with_reducible refine Chg.alloc_ ?_ _ | with_reducible refine Chg.drew_ ?_)) (fun g hg hm => by simp only [List.mem_cons, List.not_mem_nil, or_false] at hm; have := l_n g hg; have := u_n g hg; have := ne_n g hg; omega)
  replace hB : Below w.heap.size w ((((w99.setCell ⟨w1.heap.size, 0, none⟩ (.slice K_n.Heap.Bytes.a K_n.Heap.Bytes.len K_n.Heap.Bytes.cap)).setCell ⟨w1.heap.size, 1, none⟩ (.slice K_n.Heap.Class.a K_n.Heap.Class.len K_n.Heap.Class.cap)).setCell ⟨w1.heap.size, 2, none⟩ (.slice K_n.Lists.Global.a K_n.Lists.Global.len K_n.Lists.Global.cap)).setCell ⟨w1.heap.size, 3, none⟩ (.slice K_n.Lists.Own.a K_n.Lists.Own.len K_n.Lists.Own.cap)) := Below.trans hB (by repeat (first | with_reducible exact Below.refl _ _ | with_reducible refine Below.setCell ?_ (by simp <;> omega) _ | with_reducible refine Below.alloc ?_ (by simp <;> omega) _ | with_reducible refine Below.drew ?_))
  have sz : w99.heap.size ≤ ((((w99.setCell ⟨w1.heap.size, 0, none⟩ (.slice K_n.Heap.Bytes.a K_n.Heap.Bytes.len K_n.Heap.Bytes.cap)).setCell ⟨w1.heap.size, 1, none⟩ (.slice K_n.Heap.Class.a K_n.Heap.Class.len K_n.Heap.Class.cap)).setCell ⟨w1.heap.size, 2, none⟩ (.slice K_n.Lists.Global.a K_n.Lists.Global.len K_n.Lists.Global.cap)).setCell ⟨w1.heap.size, 3, none⟩ (.slice K_n.Lists.Own.a K_n.Lists.Own.len K_n.Lists.Own.cap)).heap.size := by simp
  generalize hG : ((((w99.setCell ⟨w1.heap.size, 0, none⟩ (.slice K_n.Heap.Bytes.a K_n.Heap.Bytes.len K_n.Heap.Bytes.cap)).setCell ⟨w1.heap.size, 1, none⟩ (.slice K_n.Heap.Class.a K_n.Heap.Class.len K_n.Heap.Class.cap)).setCell ⟨w1.heap.size, 2, none⟩ (.slice K_n.Lists.Global.a K_n.Lists.Global.len K_n.Lists.Global.cap)).setCell ⟨w1.heap.size, 3, none⟩ (.slice K_n.Lists.Own.a K_n.Lists.Own.len K_n.Lists.Own.cap)) = w9 at B_a B_r B_o o_n hB sz ⊢
  clear hG
  replace q_a_0 := B_a.cell 0 _ rfl
  replace q_a_1 := B_a.cell 1 _ rfl
  replace q_a_2 := B_a.cell 2 _ rfl
  replace q_a_3 := B_a.cell 3 _ rfl
  replace fr_a := B_a.fro
  replace z_a := B_a.lt
  replace q_r_0 := B_r.cell 0 _ rfl
  replace q_r_1 := B_r.cell 1 _ rfl
  replace q_r_2 := B_r.cell 2 _ rfl
  replace q_r_3 := B_r.cell 3 _ rfl
  replace fr_r := B_r.fro
  replace z_r := B_r.lt
  replace q_o_0 := B_o.cell 0 _ rfl
  replace q_o_1 := B_o.cell 1 _ rfl
  replace q_o_2 := B_o.cell 2 _ rfl
  replace q_o_3 := B_o.cell 3 _ rfl
  replace fr_o := B_o.fro
  replace z_o := B_o.lt
  have hhi := fun (W : World) (hW : Below w9.heap.size w9 W) => handleIn_spec W K_n x (grantH x.Heap p c) s (rdHeap_up o_n.Heap.rd' hW) gf1 f1 f3 (Int.not_lt.2 k1)
  have l_nn := l_n
  go_region_with (first | (go_at_call 106; (first | ((with_reducible refine (hhi _ (Below.refl _ _)).mono ?_); rintro e wq ⟨rfl, hb⟩; replace B_a := B_a.below hb; replace B_r := B_r.below hb; replace B_o := B_o.below hb; replace o_n := o_n.step0 hb; replace hB := hB.trans (hb.mono hB.size); have sz := hb.size; clear hb; replace q_a_0 := B_a.cell 0 _ rfl; replace q_a_1 := B_a.cell 1 _ rfl; replace q_a_2 := B_a.cell 2 _ rfl; replace q_a_3 := B_a.cell 3 _ rfl; replace fr_a := B_a.fro; replace z_a := B_a.lt; replace q_r_0 := B_r.cell 0 _ rfl; replace q_r_1 := B_r.cell 1 _ rfl; replace q_r_2 := B_r.cell 2 _ rfl; replace q_r_3 := B_r.cell 3 _ rfl; replace fr_r := B_r.fro; replace z_r := B_r.lt; replace q_o_0 := B_o.cell 0 _ rfl; replace q_o_1 := B_o.cell 1 _ rfl; replace q_o_2 := B_o.cell 2 _ rfl; replace q_o_3 := B_o.cell 3 _ rfl; replace fr_o := B_o.fro; replace z_o := B_o.lt) | ((with_reducible refine (hhi _ (Below.refl _ _).drew).mono ?_); rintro e wq ⟨rfl, hb⟩; replace hb := undrew hb; replace B_a := B_a.below hb; replace B_r := B_r.below hb; replace B_o := B_o.below hb; replace o_n := o_n.step0 hb; replace hB := hB.trans (hb.mono hB.size); have sz := hb.size; clear hb; replace q_a_0 := B_a.cell 0 _ rfl; replace q_a_1 := B_a.cell 1 _ rfl; replace q_a_2 := B_a.cell 2 _ rfl; replace q_a_3 := B_a.cell 3 _ rfl; replace fr_a := B_a.fro; replace z_a := B_a.lt; replace q_r_0 := B_r.cell 0 _ rfl; replace q_r_1 := B_r.cell 1 _ rfl; replace q_r_2 := B_r.cell 2 _ rfl; replace q_r_3 := B_r.cell 3 _ rfl; replace fr_r := B_r.fro; replace z_r := B_r.lt; replace q_o_0 := B_o.cell 0 _ rfl; replace q_o_1 := B_o.cell 1 _ rfl; replace q_o_2 := B_o.cell 2 _ rfl; replace q_o_3 := B_o.cell 3 _ rfl; replace fr_o := B_o.fro; replace z_o := B_o.lt))))
  all_goals
    go_wp2_with fail
    refine bodyPost_ret (v := .tuple #[.agg #[.slice K_n.Heap.Bytes.a K_n.Heap.Bytes.len K_n.Heap.Bytes.cap, .slice K_n.Heap.Class.a K_n.Heap.Class.len K_n.Heap.Class.cap, .slice K_n.Lists.Global.a K_n.Lists.Global.len K_n.Lists.Global.cap, .slice K_n.Lists.Own.a K_n.Lists.Own.len K_n.Lists.Own.cap], .int .i64 (genInB (grantH x.Heap p c) s * 32 + s), .int .i64 0]) (by simp [results, Tryz.results35, go_sem, q_r_0, q_r_1, q_r_2, q_r_3]) rfl ⟨K_n, rfl, o_n.chg (F := [w.heap.size + 1]) (by repeat (first | with_reducible exact Chg.refl _ _ | with_reducible refine Chg.set_ ?_ (by simp) _ | with_reducible refine Chg.alloc_ ?_ _ | with_reducible refine Chg.drew_ ?_)) (fun g hg hm => by simp only [List.mem_cons, List.not_mem_nil, or_false] at hm; have := l_n g hg; have := u_n g hg; omega), fun g hg => by have := l_n g hg; omega, Below.trans hB (by repeat (first | with_reducible exact Below.refl _ _ | with_reducible refine Below.setCell ?_ (by simp <;> omega) _ | with_reducible refine Below.alloc ?_ (by simp <;> omega) _ | with_reducible refine Below.drew ?_))⟩
end Go.Proofs.YtkmggglljkmjoaaGreat

/-
  AllocNow: the contracts, whole.
-/
namespace Go.Proofs.YtkmggglljkmjoaaGreat
open Go.RowKit

theorem classOfS_lt (n : Int) : classOfS n < 3 := by
  unfold classOfS
  repeat' split
  all_goals decide
theorem idx_cases (f : Int → Bool) (l : List Int) : idxOf f l = -1 ∨ ∃ p : Nat, idxOf f l = (p : Int) := by
  unfold idxOf
  cases l.findIdx? f with
  | none => exact .inl rfl
  | some i => exact .inr ⟨i, rfl⟩

set_option maxRecDepth 100000 in
theorem AllocNow_spec (w : World) (H : HMem) (x : Mem) (wk n : Int) (h : RdMem w w.heap.size H x) (hs : sizeMem x ≤ 536870912) :
    Calls Tryz.prog 35 #[.agg #[.slice H.Heap.Bytes.a H.Heap.Bytes.len H.Heap.Bytes.cap, .slice H.Heap.Class.a H.Heap.Class.len H.Heap.Class.cap, .slice H.Lists.Global.a H.Lists.Global.len H.Lists.Global.cap, .slice H.Lists.Own.a H.Lists.Own.len H.Lists.Own.cap], .int .i64 wk, .int .i64 n] w fun e w' => ∃ H' : HMem, e = .returned (.tuple #[.agg #[.slice H'.Heap.Bytes.a H'.Heap.Bytes.len H'.Heap.Bytes.cap, .slice H'.Heap.Class.a H'.Heap.Class.len H'.Heap.Class.cap, .slice H'.Lists.Global.a H'.Lists.Global.len H'.Lists.Global.cap, .slice H'.Lists.Own.a H'.Lists.Own.len H'.Lists.Own.cap], .int .i64 (allocP x wk n).2.1, .int .i64 (allocP x wk n).2.2]) ∧ OwMem w' H' (allocP x wk n).1 ∧ (∀ g ∈ H'.foot, w.heap.size ≤ g) ∧ Below w.heap.size w w' := by
  by_cases c1 : memOkB x = true
  case neg =>
    have c1' := (Bool.not_eq_true _).mp c1
    rw [alloc_no1 (n := n) (show memOkB x = false ∨ inB 0 2 wk = false from .inl c1')]
    exact (AllocNow_spec_a w H x wk n h hs c1').mono fun _ _ ⟨K, a, b, c, d⟩ => ⟨K, a, b, c, d⟩
  by_cases c2 : inB 0 2 wk = true
  case neg =>
    have c2' := (Bool.not_eq_true _).mp c2
    rw [alloc_no1 (m := x) (n := n) (show memOkB x = false ∨ inB 0 2 wk = false from .inr c2')]
    exact (AllocNow_spec_b w H x wk n h hs c1 c2').mono fun _ _ ⟨K, a, b, c, d⟩ => ⟨K, a, b, c, d⟩
  by_cases c3 : classOfS n < 0
  case pos =>
    rw [alloc_no2 c1 c2 c3]
    exact (AllocNow_spec_c w H x wk n h hs c1 c2 c3).mono fun _ _ ⟨K, a, b, c, d⟩ => ⟨K, a, b, c, d⟩
  rw [alloc_go c1 c2 c3]
  obtain ⟨b1, b2⟩ := inB_iff.1 c2
  obtain ⟨k, rfl⟩ : ∃ k : Nat, wk = (k : Int) := ⟨wk.toNat, by omega⟩
  have hk : k < 3 := by omega
  have hcb := classOfS_lt n
  obtain ⟨c, hc⟩ : ∃ c : Nat, classOfS n = (c : Int) := ⟨(classOfS n).toNat, by omega⟩
  have hc3 : c < 3 := by omega
  rw [hc, Int.toNat_natCast, Int.toNat_natCast]
  obtain ⟨hl3, hl9⟩ := lists_len (mem_lists c1)
  obtain ⟨ro, hro⟩ : ∃ r, x.Lists.Own[k * 3 + c]? = some r := ⟨_, List.getElem?_eq_getElem (by omega)⟩
  rcases List.eq_nil_or_concat ro with rfl | ⟨l, s, hl⟩
  case inr =>
    rw [List.concat_eq_append] at hl
    subst hl
    rw [allocC_own hro]
    exact AllocNow_spec_own w H x k c n l s h hs c1 hk hc hc3 hro
  obtain ⟨rg, hrg⟩ : ∃ r, x.Lists.Global[c]? = some r := ⟨_, List.getElem?_eq_getElem (by omega)⟩
  rcases List.eq_nil_or_concat rg with rfl | ⟨l, s, hl⟩
  case inr =>
    rw [List.concat_eq_append] at hl
    subst hl
    rw [allocC_global hro hrg]
    exact AllocNow_spec_global w H x k c n l s h hs c1 hk hc hc3 hro hrg
  rcases idx_cases (fun y => y == -1) x.Heap.Class with hp | ⟨p, hp⟩
  · rw [allocC_none hro hrg hp]
    exact (AllocNow_spec_none w H x k c n h hs c1 hk hc hc3 hro hrg hp).mono fun _ _ ⟨K, a, b, c, d⟩ => ⟨K, a, b, c, d⟩
  · rw [allocC_grant hro hrg hp]
    exact (AllocNow_spec_grant w H x k c p n h hs c1 hk hc hc3 hro hrg hp).mono fun _ _ ⟨K, a, b, c, d⟩ => ⟨K, a, b, c, d⟩
end Go.Proofs.YtkmggglljkmjoaaGreat

/-
  FreeNow: the reference.
-/
namespace Go.Proofs.YtkmggglljkmjoaaGreat
open Go.RowKit

set_option maxRecDepth 100000 in
set_option maxHeartbeats 4000000 in
theorem FreeNow_spec (w : World) (H : HMem) (x : Mem) (wk a : Int) (h : RdMem w w.heap.size H x) (hs : sizeMem x ≤ 536870912) :
    Calls Tryz.prog 46 #[.agg #[.slice H.Heap.Bytes.a H.Heap.Bytes.len H.Heap.Bytes.cap, .slice H.Heap.Class.a H.Heap.Class.len H.Heap.Class.cap, .slice H.Lists.Global.a H.Lists.Global.len H.Lists.Global.cap, .slice H.Lists.Own.a H.Lists.Own.len H.Lists.Own.cap], .int .i64 wk, .int .i64 a] w fun e w' => ∃ H' : HMem, e = .returned (.tuple #[.agg #[.slice H'.Heap.Bytes.a H'.Heap.Bytes.len H'.Heap.Bytes.cap, .slice H'.Heap.Class.a H'.Heap.Class.len H'.Heap.Class.cap, .slice H'.Lists.Global.a H'.Lists.Global.len H'.Lists.Global.cap, .slice H'.Lists.Own.a H'.Lists.Own.len H'.Lists.Own.cap], .int .i64 (freeP x wk a).2]) ∧ OwMem w' H' (freeP x wk a).1 ∧ (∀ g ∈ H'.foot, w.heap.size ≤ g) ∧ Below w.heap.size w w' := by
  have hcp := fun (W : World) (hW : Below w.heap.size w W) => l9Copy_spec W H x (rdMem_up h hW) hs
  have hmo := fun (W : World) (hW : Below w.heap.size w W) => MemOk_spec W H x (rdMem_up h hW) (by unfold sizeMem sizeLists at hs; omega) (by unfold sizeMem sizeLists at hs; omega)
  by_cases c1 : memOkB x = true
  case neg =>
    have c1' := (Bool.not_eq_true _).mp c1
    have HV := Hid.mk_ (free_no1 (h := a) (show memOkB x = false ∨ inB 0 2 wk = false from .inl c1'))
    clear c1
    have B_a : Box ((w.alloc (.cells #[.slice H.Heap.Bytes.a H.Heap.Bytes.len H.Heap.Bytes.cap, .slice H.Heap.Class.a H.Heap.Class.len H.Heap.Class.cap, .slice H.Lists.Global.a H.Lists.Global.len H.Lists.Global.cap, .slice H.Lists.Own.a H.Lists.Own.len H.Lists.Own.cap] 31)).alloc (.cells #[.slice none 0 0, .slice none 0 0, .slice none 0 0, .slice none 0 0] 31)) (w.heap.size) [.slice H.Heap.Bytes.a H.Heap.Bytes.len H.Heap.Bytes.cap, .slice H.Heap.Class.a H.Heap.Class.len H.Heap.Class.cap, .slice H.Lists.Global.a H.Lists.Global.len H.Lists.Global.cap, .slice H.Lists.Own.a H.Lists.Own.len H.Lists.Own.cap] := by
      have hbx := Box.new w #[.slice H.Heap.Bytes.a H.Heap.Bytes.len H.Heap.Bytes.cap, .slice H.Heap.Class.a H.Heap.Class.len H.Heap.Class.cap, .slice H.Lists.Global.a H.Lists.Global.len H.Lists.Global.cap, .slice H.Lists.Own.a H.Lists.Own.len H.Lists.Own.cap] 31
      exact (hbx).alloc _
    have B_r : Box ((w.alloc (.cells #[.slice H.Heap.Bytes.a H.Heap.Bytes.len H.Heap.Bytes.cap, .slice H.Heap.Class.a H.Heap.Class.len H.Heap.Class.cap, .slice H.Lists.Global.a H.Lists.Global.len H.Lists.Global.cap, .slice H.Lists.Own.a H.Lists.Own.len H.Lists.Own.cap] 31)).alloc (.cells #[.slice none 0 0, .slice none 0 0, .slice none 0 0, .slice none 0 0] 31)) (w.heap.size + 1) [.slice none 0 0, .slice none 0 0, .slice none 0 0, .slice none 0 0] := by
      have hbx := Box.new (w.alloc (.cells #[.slice H.Heap.Bytes.a H.Heap.Bytes.len H.Heap.Bytes.cap, .slice H.Heap.Class.a H.Heap.Class.len H.Heap.Class.cap, .slice H.Lists.Global.a H.Lists.Global.len H.Lists.Global.cap, .slice H.Lists.Own.a H.Lists.Own.len H.Lists.Own.cap] 31)) #[.slice none 0 0, .slice none 0 0, .slice none 0 0, .slice none 0 0] 31
      simp only [World.size_alloc] at hbx
      exact hbx
    have hB : Below w.heap.size w ((w.alloc (.cells #[.slice H.Heap.Bytes.a H.Heap.Bytes.len H.Heap.Bytes.cap, .slice H.Heap.Class.a H.Heap.Class.len H.Heap.Class.cap, .slice H.Lists.Global.a H.Lists.Global.len H.Lists.Global.cap, .slice H.Lists.Own.a H.Lists.Own.len H.Lists.Own.cap] 31)).alloc (.cells #[.slice none 0 0, .slice none 0 0, .slice none 0 0, .slice none 0 0] 31)) := by repeat (first | exact Below.refl _ _ | refine Below.alloc ?_ (by simp <;> omega) _ | refine below_grow_of ?_ (by simp <;> omega) _ _ | refine Below.drew ?_ | refine below_drewN ?_ _)
    go_enter Tryz.func46, Tryz.ntmps46
    go_wp2_with fail
    generalize hW0 : ((w.alloc (.cells #[.slice H.Heap.Bytes.a H.Heap.Bytes.len H.Heap.Bytes.cap, .slice H.Heap.Class.a H.Heap.Class.len H.Heap.Class.cap, .slice H.Lists.Global.a H.Lists.Global.len H.Lists.Global.cap, .slice H.Lists.Own.a H.Lists.Own.len H.Lists.Own.cap] 31)).alloc (.cells #[.slice none 0 0, .slice none 0 0, .slice none 0 0, .slice none 0 0] 31)) = w0 at B_a B_r hB ⊢
    clear hW0
    have zz_a := B_a.lt
    have zz_r := B_r.lt
    have q_a_0 := B_a.cell 0 _ rfl
    have q_a_1 := B_a.cell 1 _ rfl
    have q_a_2 := B_a.cell 2 _ rfl
    have q_a_3 := B_a.cell 3 _ rfl
    have fr_a := B_a.fro
    have z_a := B_a.lt
    have q_r_0 := B_r.cell 0 _ rfl
    have q_r_1 := B_r.cell 1 _ rfl
    have q_r_2 := B_r.cell 2 _ rfl
    have q_r_3 := B_r.cell 3 _ rfl
    have fr_r := B_r.fro
    have z_r := B_r.lt
    refine (hcp _ hB).mono ?_
    rintro e w1 ⟨K_c, rfl, o_c, l_c, hb⟩
    have u_c := o_c.lt
    replace B_a := B_a.below hb
    replace B_r := B_r.below hb
    replace hB := hB.trans (hb.mono hB.size)
    have sz := hb.size
    clear hb
    replace q_a_0 := B_a.cell 0 _ rfl
    replace q_a_1 := B_a.cell 1 _ rfl
    replace q_a_2 := B_a.cell 2 _ rfl
    replace q_a_3 := B_a.cell 3 _ rfl
    replace fr_a := B_a.fro
    replace z_a := B_a.lt
    replace q_r_0 := B_r.cell 0 _ rfl
    replace q_r_1 := B_r.cell 1 _ rfl
    replace q_r_2 := B_r.cell 2 _ rfl
    replace q_r_3 := B_r.cell 3 _ rfl
    replace fr_r := B_r.fro
    replace z_r := B_r.lt
    clear hcp
    go_wp2_with fail
    replace B_a := B_a.alloc (.cells #[.slice K_c.Heap.Bytes.a K_c.Heap.Bytes.len K_c.Heap.Bytes.cap, .slice K_c.Heap.Class.a K_c.Heap.Class.len K_c.Heap.Class.cap, .slice K_c.Lists.Global.a K_c.Lists.Global.len K_c.Lists.Global.cap, .slice K_c.Lists.Own.a K_c.Lists.Own.len K_c.Lists.Own.cap] 31)
    replace B_r := B_r.alloc (.cells #[.slice K_c.Heap.Bytes.a K_c.Heap.Bytes.len K_c.Heap.Bytes.cap, .slice K_c.Heap.Class.a K_c.Heap.Class.len K_c.Heap.Class.cap, .slice K_c.Lists.Global.a K_c.Lists.Global.len K_c.Lists.Global.cap, .slice K_c.Lists.Own.a K_c.Lists.Own.len K_c.Lists.Own.cap] 31)
    replace o_c := o_c.alloc_ (.cells #[.slice K_c.Heap.Bytes.a K_c.Heap.Bytes.len K_c.Heap.Bytes.cap, .slice K_c.Heap.Class.a K_c.Heap.Class.len K_c.Heap.Class.cap, .slice K_c.Lists.Global.a K_c.Lists.Global.len K_c.Lists.Global.cap, .slice K_c.Lists.Own.a K_c.Lists.Own.len K_c.Lists.Own.cap] 31)
    replace hB := hB.alloc hB.size (.cells #[.slice K_c.Heap.Bytes.a K_c.Heap.Bytes.len K_c.Heap.Bytes.cap, .slice K_c.Heap.Class.a K_c.Heap.Class.len K_c.Heap.Class.cap, .slice K_c.Lists.Global.a K_c.Lists.Global.len K_c.Lists.Global.cap, .slice K_c.Lists.Own.a K_c.Lists.Own.len K_c.Lists.Own.cap] 31)
    have B_o : Box (w1.alloc (.cells #[.slice K_c.Heap.Bytes.a K_c.Heap.Bytes.len K_c.Heap.Bytes.cap, .slice K_c.Heap.Class.a K_c.Heap.Class.len K_c.Heap.Class.cap, .slice K_c.Lists.Global.a K_c.Lists.Global.len K_c.Lists.Global.cap, .slice K_c.Lists.Own.a K_c.Lists.Own.len K_c.Lists.Own.cap] 31)) w1.heap.size [.slice K_c.Heap.Bytes.a K_c.Heap.Bytes.len K_c.Heap.Bytes.cap, .slice K_c.Heap.Class.a K_c.Heap.Class.len K_c.Heap.Class.cap, .slice K_c.Lists.Global.a K_c.Lists.Global.len K_c.Lists.Global.cap, .slice K_c.Lists.Own.a K_c.Lists.Own.len K_c.Lists.Own.cap] := Box.new w1 #[.slice K_c.Heap.Bytes.a K_c.Heap.Bytes.len K_c.Heap.Bytes.cap, .slice K_c.Heap.Class.a K_c.Heap.Class.len K_c.Heap.Class.cap, .slice K_c.Lists.Global.a K_c.Lists.Global.len K_c.Lists.Global.cap, .slice K_c.Lists.Own.a K_c.Lists.Own.len K_c.Lists.Own.cap] 31
    have zz_o := B_o.lt
    have sz : w1.heap.size ≤ (w1.alloc (.cells #[.slice K_c.Heap.Bytes.a K_c.Heap.Bytes.len K_c.Heap.Bytes.cap, .slice K_c.Heap.Class.a K_c.Heap.Class.len K_c.Heap.Class.cap, .slice K_c.Lists.Global.a K_c.Lists.Global.len K_c.Lists.Global.cap, .slice K_c.Lists.Own.a K_c.Lists.Own.len K_c.Lists.Own.cap] 31)).heap.size := Nat.le_of_lt B_o.lt
    generalize hG : (w1.alloc (.cells #[.slice K_c.Heap.Bytes.a K_c.Heap.Bytes.len K_c.Heap.Bytes.cap, .slice K_c.Heap.Class.a K_c.Heap.Class.len K_c.Heap.Class.cap, .slice K_c.Lists.Global.a K_c.Lists.Global.len K_c.Lists.Global.cap, .slice K_c.Lists.Own.a K_c.Lists.Own.len K_c.Lists.Own.cap] 31)) = w2 at B_a B_r o_c hB B_o zz_o sz ⊢
    clear hG
    replace q_a_0 := B_a.cell 0 _ rfl
    replace q_a_1 := B_a.cell 1 _ rfl
    replace q_a_2 := B_a.cell 2 _ rfl
    replace q_a_3 := B_a.cell 3 _ rfl
    replace fr_a := B_a.fro
    replace z_a := B_a.lt
    replace q_r_0 := B_r.cell 0 _ rfl
    replace q_r_1 := B_r.cell 1 _ rfl
    replace q_r_2 := B_r.cell 2 _ rfl
    replace q_r_3 := B_r.cell 3 _ rfl
    replace fr_r := B_r.fro
    replace z_r := B_r.lt
    have q_o_0 := B_o.cell 0 _ rfl
    have q_o_1 := B_o.cell 1 _ rfl
    have q_o_2 := B_o.cell 2 _ rfl
    have q_o_3 := B_o.cell 3 _ rfl
    have fr_o := B_o.fro
    have z_o := B_o.lt
    refine (hmo _ hB).mono ?_
    rw [c1']
    rintro e w3 ⟨rfl, hb⟩
    replace B_a := B_a.below hb
    replace B_r := B_r.below hb
    replace B_o := B_o.below hb
    have o_c := o_c.step0 hb
    replace hB := hB.trans (hb.mono hB.size)
    have sz := hb.size
    clear hb
    replace q_a_0 := B_a.cell 0 _ rfl
    replace q_a_1 := B_a.cell 1 _ rfl
    replace q_a_2 := B_a.cell 2 _ rfl
    replace q_a_3 := B_a.cell 3 _ rfl
    replace fr_a := B_a.fro
    replace z_a := B_a.lt
    replace q_r_0 := B_r.cell 0 _ rfl
    replace q_r_1 := B_r.cell 1 _ rfl
    replace q_r_2 := B_r.cell 2 _ rfl
    replace q_r_3 := B_r.cell 3 _ rfl
    replace fr_r := B_r.fro
    replace z_r := B_r.lt
    replace q_o_0 := B_o.cell 0 _ rfl
    replace q_o_1 := B_o.cell 1 _ rfl
    replace q_o_2 := B_o.cell 2 _ rfl
    replace q_o_3 := B_o.cell 3 _ rfl
    replace fr_o := B_o.fro
    replace z_o := B_o.lt
    clear hmo
    go_wp2_with fail
    refine bodyPost_ret (v := .tuple #[.agg #[.slice K_c.Heap.Bytes.a K_c.Heap.Bytes.len K_c.Heap.Bytes.cap, .slice K_c.Heap.Class.a K_c.Heap.Class.len K_c.Heap.Class.cap, .slice K_c.Lists.Global.a K_c.Lists.Global.len K_c.Lists.Global.cap, .slice K_c.Lists.Own.a K_c.Lists.Own.len K_c.Lists.Own.cap], .int .i64 1]) (by simp [results, Tryz.results46, go_sem, q_r_0, q_r_1, q_r_2, q_r_3]) rfl ⟨K_c, by rw [HV.out], by rw [HV.out]; exact o_c.chg (F := [w.heap.size + 1]) (by repeat (first | with_reducible exact Chg.refl _ _ | with_reducible refine Chg.set_ ?_ (by simp) _ | with_reducible refine Chg.alloc_ ?_ _ | with_reducible refine Chg.drew_ ?_)) (fun g hg hm => by simp only [List.mem_cons, List.not_mem_nil, or_false] at hm; have := l_c g hg; have := u_c g hg; omega), fun g hg => by have := l_c g hg; omega, Below.trans hB (by repeat (first | with_reducible exact Below.refl _ _ | with_reducible refine Below.setCell ?_ (by simp <;> omega) _ | with_reducible refine Below.alloc ?_ (by simp <;> omega) _ | with_reducible refine Below.drew ?_))⟩
  by_cases c2 : inB 0 2 wk = true
  case neg =>
    have c2' := (Bool.not_eq_true _).mp c2
    have HV := Hid.mk_ (free_no1 (m := x) (h := a) (show memOkB x = false ∨ inB 0 2 wk = false from .inr c2'))
    clear c2
    have B_a : Box ((w.alloc (.cells #[.slice H.Heap.Bytes.a H.Heap.Bytes.len H.Heap.Bytes.cap, .slice H.Heap.Class.a H.Heap.Class.len H.Heap.Class.cap, .slice H.Lists.Global.a H.Lists.Global.len H.Lists.Global.cap, .slice H.Lists.Own.a H.Lists.Own.len H.Lists.Own.cap] 31)).alloc (.cells #[.slice none 0 0, .slice none 0 0, .slice none 0 0, .slice none 0 0] 31)) (w.heap.size) [.slice H.Heap.Bytes.a H.Heap.Bytes.len H.Heap.Bytes.cap, .slice H.Heap.Class.a H.Heap.Class.len H.Heap.Class.cap, .slice H.Lists.Global.a H.Lists.Global.len H.Lists.Global.cap, .slice H.Lists.Own.a H.Lists.Own.len H.Lists.Own.cap] := by
      have hbx := Box.new w #[.slice H.Heap.Bytes.a H.Heap.Bytes.len H.Heap.Bytes.cap, .slice H.Heap.Class.a H.Heap.Class.len H.Heap.Class.cap, .slice H.Lists.Global.a H.Lists.Global.len H.Lists.Global.cap, .slice H.Lists.Own.a H.Lists.Own.len H.Lists.Own.cap] 31
      exact (hbx).alloc _
    have B_r : Box ((w.alloc (.cells #[.slice H.Heap.Bytes.a H.Heap.Bytes.len H.Heap.Bytes.cap, .slice H.Heap.Class.a H.Heap.Class.len H.Heap.Class.cap, .slice H.Lists.Global.a H.Lists.Global.len H.Lists.Global.cap, .slice H.Lists.Own.a H.Lists.Own.len H.Lists.Own.cap] 31)).alloc (.cells #[.slice none 0 0, .slice none 0 0, .slice none 0 0, .slice none 0 0] 31)) (w.heap.size + 1) [.slice none 0 0, .slice none 0 0, .slice none 0 0, .slice none 0 0] := by
      have hbx := Box.new (w.alloc (.cells #[.slice H.Heap.Bytes.a H.Heap.Bytes.len H.Heap.Bytes.cap, .slice H.Heap.Class.a H.Heap.Class.len H.Heap.Class.cap, .slice H.Lists.Global.a H.Lists.Global.len H.Lists.Global.cap, .slice H.Lists.Own.a H.Lists.Own.len H.Lists.Own.cap] 31)) #[.slice none 0 0, .slice none 0 0, .slice none 0 0, .slice none 0 0] 31
      simp only [World.size_alloc] at hbx
      exact hbx
    have hB : Below w.heap.size w ((w.alloc (.cells #[.slice H.Heap.Bytes.a H.Heap.Bytes.len H.Heap.Bytes.cap, .slice H.Heap.Class.a H.Heap.Class.len H.Heap.Class.cap, .slice H.Lists.Global.a H.Lists.Global.len H.Lists.Global.cap, .slice H.Lists.Own.a H.Lists.Own.len H.Lists.Own.cap] 31)).alloc (.cells #[.slice none 0 0, .slice none 0 0, .slice none 0 0, .slice none 0 0] 31)) := by repeat (first | exact Below.refl _ _ | refine Below.alloc ?_ (by simp <;> omega) _ | refine below_grow_of ?_ (by simp <;> omega) _ _ | refine Below.drew ?_ | refine below_drewN ?_ _)
    go_enter Tryz.func46, Tryz.ntmps46
    go_wp2_with fail
    generalize hW0 : ((w.alloc (.cells #[.slice H.Heap.Bytes.a H.Heap.Bytes.len H.Heap.Bytes.cap, .slice H.Heap.Class.a H.Heap.Class.len H.Heap.Class.cap, .slice H.Lists.Global.a H.Lists.Global.len H.Lists.Global.cap, .slice H.Lists.Own.a H.Lists.Own.len H.Lists.Own.cap] 31)).alloc (.cells #[.slice none 0 0, .slice none 0 0, .slice none 0 0, .slice none 0 0] 31)) = w0 at B_a B_r hB ⊢
    clear hW0
    have zz_a := B_a.lt
    have zz_r := B_r.lt
    have q_a_0 := B_a.cell 0 _ rfl
    have q_a_1 := B_a.cell 1 _ rfl
    have q_a_2 := B_a.cell 2 _ rfl
    have q_a_3 := B_a.cell 3 _ rfl
    have fr_a := B_a.fro
    have z_a := B_a.lt
    have q_r_0 := B_r.cell 0 _ rfl
    have q_r_1 := B_r.cell 1 _ rfl
    have q_r_2 := B_r.cell 2 _ rfl
    have q_r_3 := B_r.cell 3 _ rfl
    have fr_r := B_r.fro
    have z_r := B_r.lt
    refine (hcp _ hB).mono ?_
    rintro e w1 ⟨K_c, rfl, o_c, l_c, hb⟩
    have u_c := o_c.lt
    replace B_a := B_a.below hb
    replace B_r := B_r.below hb
    replace hB := hB.trans (hb.mono hB.size)
    have sz := hb.size
    clear hb
    replace q_a_0 := B_a.cell 0 _ rfl
    replace q_a_1 := B_a.cell 1 _ rfl
    replace q_a_2 := B_a.cell 2 _ rfl
    replace q_a_3 := B_a.cell 3 _ rfl
    replace fr_a := B_a.fro
    replace z_a := B_a.lt
    replace q_r_0 := B_r.cell 0 _ rfl
    replace q_r_1 := B_r.cell 1 _ rfl
    replace q_r_2 := B_r.cell 2 _ rfl
    replace q_r_3 := B_r.cell 3 _ rfl
    replace fr_r := B_r.fro
    replace z_r := B_r.lt
    clear hcp
    go_wp2_with fail
    replace B_a := B_a.alloc (.cells #[.slice K_c.Heap.Bytes.a K_c.Heap.Bytes.len K_c.Heap.Bytes.cap, .slice K_c.Heap.Class.a K_c.Heap.Class.len K_c.Heap.Class.cap, .slice K_c.Lists.Global.a K_c.Lists.Global.len K_c.Lists.Global.cap, .slice K_c.Lists.Own.a K_c.Lists.Own.len K_c.Lists.Own.cap] 31)
    replace B_r := B_r.alloc (.cells #[.slice K_c.Heap.Bytes.a K_c.Heap.Bytes.len K_c.Heap.Bytes.cap, .slice K_c.Heap.Class.a K_c.Heap.Class.len K_c.Heap.Class.cap, .slice K_c.Lists.Global.a K_c.Lists.Global.len K_c.Lists.Global.cap, .slice K_c.Lists.Own.a K_c.Lists.Own.len K_c.Lists.Own.cap] 31)
    replace o_c := o_c.alloc_ (.cells #[.slice K_c.Heap.Bytes.a K_c.Heap.Bytes.len K_c.Heap.Bytes.cap, .slice K_c.Heap.Class.a K_c.Heap.Class.len K_c.Heap.Class.cap, .slice K_c.Lists.Global.a K_c.Lists.Global.len K_c.Lists.Global.cap, .slice K_c.Lists.Own.a K_c.Lists.Own.len K_c.Lists.Own.cap] 31)
    replace hB := hB.alloc hB.size (.cells #[.slice K_c.Heap.Bytes.a K_c.Heap.Bytes.len K_c.Heap.Bytes.cap, .slice K_c.Heap.Class.a K_c.Heap.Class.len K_c.Heap.Class.cap, .slice K_c.Lists.Global.a K_c.Lists.Global.len K_c.Lists.Global.cap, .slice K_c.Lists.Own.a K_c.Lists.Own.len K_c.Lists.Own.cap] 31)
    have B_o : Box (w1.alloc (.cells #[.slice K_c.Heap.Bytes.a K_c.Heap.Bytes.len K_c.Heap.Bytes.cap, .slice K_c.Heap.Class.a K_c.Heap.Class.len K_c.Heap.Class.cap, .slice K_c.Lists.Global.a K_c.Lists.Global.len K_c.Lists.Global.cap, .slice K_c.Lists.Own.a K_c.Lists.Own.len K_c.Lists.Own.cap] 31)) w1.heap.size [.slice K_c.Heap.Bytes.a K_c.Heap.Bytes.len K_c.Heap.Bytes.cap, .slice K_c.Heap.Class.a K_c.Heap.Class.len K_c.Heap.Class.cap, .slice K_c.Lists.Global.a K_c.Lists.Global.len K_c.Lists.Global.cap, .slice K_c.Lists.Own.a K_c.Lists.Own.len K_c.Lists.Own.cap] := Box.new w1 #[.slice K_c.Heap.Bytes.a K_c.Heap.Bytes.len K_c.Heap.Bytes.cap, .slice K_c.Heap.Class.a K_c.Heap.Class.len K_c.Heap.Class.cap, .slice K_c.Lists.Global.a K_c.Lists.Global.len K_c.Lists.Global.cap, .slice K_c.Lists.Own.a K_c.Lists.Own.len K_c.Lists.Own.cap] 31
    have zz_o := B_o.lt
    have sz : w1.heap.size ≤ (w1.alloc (.cells #[.slice K_c.Heap.Bytes.a K_c.Heap.Bytes.len K_c.Heap.Bytes.cap, .slice K_c.Heap.Class.a K_c.Heap.Class.len K_c.Heap.Class.cap, .slice K_c.Lists.Global.a K_c.Lists.Global.len K_c.Lists.Global.cap, .slice K_c.Lists.Own.a K_c.Lists.Own.len K_c.Lists.Own.cap] 31)).heap.size := Nat.le_of_lt B_o.lt
    generalize hG : (w1.alloc (.cells #[.slice K_c.Heap.Bytes.a K_c.Heap.Bytes.len K_c.Heap.Bytes.cap, .slice K_c.Heap.Class.a K_c.Heap.Class.len K_c.Heap.Class.cap, .slice K_c.Lists.Global.a K_c.Lists.Global.len K_c.Lists.Global.cap, .slice K_c.Lists.Own.a K_c.Lists.Own.len K_c.Lists.Own.cap] 31)) = w2 at B_a B_r o_c hB B_o zz_o sz ⊢
    clear hG
    replace q_a_0 := B_a.cell 0 _ rfl
    replace q_a_1 := B_a.cell 1 _ rfl
    replace q_a_2 := B_a.cell 2 _ rfl
    replace q_a_3 := B_a.cell 3 _ rfl
    replace fr_a := B_a.fro
    replace z_a := B_a.lt
    replace q_r_0 := B_r.cell 0 _ rfl
    replace q_r_1 := B_r.cell 1 _ rfl
    replace q_r_2 := B_r.cell 2 _ rfl
    replace q_r_3 := B_r.cell 3 _ rfl
    replace fr_r := B_r.fro
    replace z_r := B_r.lt
    have q_o_0 := B_o.cell 0 _ rfl
    have q_o_1 := B_o.cell 1 _ rfl
    have q_o_2 := B_o.cell 2 _ rfl
    have q_o_3 := B_o.cell 3 _ rfl
    have fr_o := B_o.fro
    have z_o := B_o.lt
    refine (hmo _ hB).mono ?_
    rw [c1]
    rintro e w3 ⟨rfl, hb⟩
    replace B_a := B_a.below hb
    replace B_r := B_r.below hb
    replace B_o := B_o.below hb
    have o_c := o_c.step0 hb
    replace hB := hB.trans (hb.mono hB.size)
    have sz := hb.size
    clear hb
    replace q_a_0 := B_a.cell 0 _ rfl
    replace q_a_1 := B_a.cell 1 _ rfl
    replace q_a_2 := B_a.cell 2 _ rfl
    replace q_a_3 := B_a.cell 3 _ rfl
    replace fr_a := B_a.fro
    replace z_a := B_a.lt
    replace q_r_0 := B_r.cell 0 _ rfl
    replace q_r_1 := B_r.cell 1 _ rfl
    replace q_r_2 := B_r.cell 2 _ rfl
    replace q_r_3 := B_r.cell 3 _ rfl
    replace fr_r := B_r.fro
    replace z_r := B_r.lt
    replace q_o_0 := B_o.cell 0 _ rfl
    replace q_o_1 := B_o.cell 1 _ rfl
    replace q_o_2 := B_o.cell 2 _ rfl
    replace q_o_3 := B_o.cell 3 _ rfl
    replace fr_o := B_o.fro
    replace z_o := B_o.lt
    clear hmo
    go_wp2_with (go_at_call 102; refine (l1In_ct _ _ _ _).mono ?_; rw [c2']; rintro e wv ⟨rfl, rfl⟩)
    refine bodyPost_ret (v := .tuple #[.agg #[.slice K_c.Heap.Bytes.a K_c.Heap.Bytes.len K_c.Heap.Bytes.cap, .slice K_c.Heap.Class.a K_c.Heap.Class.len K_c.Heap.Class.cap, .slice K_c.Lists.Global.a K_c.Lists.Global.len K_c.Lists.Global.cap, .slice K_c.Lists.Own.a K_c.Lists.Own.len K_c.Lists.Own.cap], .int .i64 1]) (by simp [results, Tryz.results46, go_sem, q_r_0, q_r_1, q_r_2, q_r_3]) rfl ⟨K_c, by rw [HV.out], by rw [HV.out]; exact o_c.chg (F := [w.heap.size + 1]) (by repeat (first | with_reducible exact Chg.refl _ _ | with_reducible refine Chg.set_ ?_ (by simp) _ | with_reducible refine Chg.alloc_ ?_ _ | with_reducible refine Chg.drew_ ?_)) (fun g hg hm => by simp only [List.mem_cons, List.not_mem_nil, or_false] at hm; have := l_c g hg; have := u_c g hg; omega), fun g hg => by have := l_c g hg; omega, Below.trans hB (by repeat (first | with_reducible exact Below.refl _ _ | with_reducible refine Below.setCell ?_ (by simp <;> omega) _ | with_reducible refine Below.alloc ?_ (by simp <;> omega) _ | with_reducible refine Below.drew ?_))⟩
  have HSH := Hid.mk_ (mem_shape c1)
  have hlv := fun (W : World) (hW : Below w.heap.size w W) => l9Valid_spec W H x a (rdMem_up h hW) HSH.out (by unfold sizeMem sizeLists at hs; omega) (by unfold sizeMem sizeLists at hs; omega)
  by_cases c3 : liveB x a = true
  case neg =>
    have c3' := (Bool.not_eq_true _).mp c3
    have HV := Hid.mk_ (free_no2 c1 c2 c3')
    clear c3
    have B_a : Box ((w.alloc (.cells #[.slice H.Heap.Bytes.a H.Heap.Bytes.len H.Heap.Bytes.cap, .slice H.Heap.Class.a H.Heap.Class.len H.Heap.Class.cap, .slice H.Lists.Global.a H.Lists.Global.len H.Lists.Global.cap, .slice H.Lists.Own.a H.Lists.Own.len H.Lists.Own.cap] 31)).alloc (.cells #[.slice none 0 0, .slice none 0 0, .slice none 0 0, .slice none 0 0] 31)) (w.heap.size) [.slice H.Heap.Bytes.a H.Heap.Bytes.len H.Heap.Bytes.cap, .slice H.Heap.Class.a H.Heap.Class.len H.Heap.Class.cap, .slice H.Lists.Global.a H.Lists.Global.len H.Lists.Global.cap, .slice H.Lists.Own.a H.Lists.Own.len H.Lists.Own.cap] := by
      have hbx := Box.new w #[.slice H.Heap.Bytes.a H.Heap.Bytes.len H.Heap.Bytes.cap, .slice H.Heap.Class.a H.Heap.Class.len H.Heap.Class.cap, .slice H.Lists.Global.a H.Lists.Global.len H.Lists.Global.cap, .slice H.Lists.Own.a H.Lists.Own.len H.Lists.Own.cap] 31
      exact (hbx).alloc _
    have B_r : Box ((w.alloc (.cells #[.slice H.Heap.Bytes.a H.Heap.Bytes.len H.Heap.Bytes.cap, .slice H.Heap.Class.a H.Heap.Class.len H.Heap.Class.cap, .slice H.Lists.Global.a H.Lists.Global.len H.Lists.Global.cap, .slice H.Lists.Own.a H.Lists.Own.len H.Lists.Own.cap] 31)).alloc (.cells #[.slice none 0 0, .slice none 0 0, .slice none 0 0, .slice none 0 0] 31)) (w.heap.size + 1) [.slice none 0 0, .slice none 0 0, .slice none 0 0, .slice none 0 0] := by
      have hbx := Box.new (w.alloc (.cells #[.slice H.Heap.Bytes.a H.Heap.Bytes.len H.Heap.Bytes.cap, .slice H.Heap.Class.a H.Heap.Class.len H.Heap.Class.cap, .slice H.Lists.Global.a H.Lists.Global.len H.Lists.Global.cap, .slice H.Lists.Own.a H.Lists.Own.len H.Lists.Own.cap] 31)) #[.slice none 0 0, .slice none 0 0, .slice none 0 0, .slice none 0 0] 31
      simp only [World.size_alloc] at hbx
      exact hbx
    have hB : Below w.heap.size w ((w.alloc (.cells #[.slice H.Heap.Bytes.a H.Heap.Bytes.len H.Heap.Bytes.cap, .slice H.Heap.Class.a H.Heap.Class.len H.Heap.Class.cap, .slice H.Lists.Global.a H.Lists.Global.len H.Lists.Global.cap, .slice H.Lists.Own.a H.Lists.Own.len H.Lists.Own.cap] 31)).alloc (.cells #[.slice none 0 0, .slice none 0 0, .slice none 0 0, .slice none 0 0] 31)) := by repeat (first | exact Below.refl _ _ | refine Below.alloc ?_ (by simp <;> omega) _ | refine below_grow_of ?_ (by simp <;> omega) _ _ | refine Below.drew ?_ | refine below_drewN ?_ _)
    go_enter Tryz.func46, Tryz.ntmps46
    go_wp2_with fail
    generalize hW0 : ((w.alloc (.cells #[.slice H.Heap.Bytes.a H.Heap.Bytes.len H.Heap.Bytes.cap, .slice H.Heap.Class.a H.Heap.Class.len H.Heap.Class.cap, .slice H.Lists.Global.a H.Lists.Global.len H.Lists.Global.cap, .slice H.Lists.Own.a H.Lists.Own.len H.Lists.Own.cap] 31)).alloc (.cells #[.slice none 0 0, .slice none 0 0, .slice none 0 0, .slice none 0 0] 31)) = w0 at B_a B_r hB ⊢
    clear hW0
    have zz_a := B_a.lt
    have zz_r := B_r.lt
    have q_a_0 := B_a.cell 0 _ rfl
    have q_a_1 := B_a.cell 1 _ rfl
    have q_a_2 := B_a.cell 2 _ rfl
    have q_a_3 := B_a.cell 3 _ rfl
    have fr_a := B_a.fro
    have z_a := B_a.lt
    have q_r_0 := B_r.cell 0 _ rfl
    have q_r_1 := B_r.cell 1 _ rfl
    have q_r_2 := B_r.cell 2 _ rfl
    have q_r_3 := B_r.cell 3 _ rfl
    have fr_r := B_r.fro
    have z_r := B_r.lt
    refine (hcp _ hB).mono ?_
    rintro e w1 ⟨K_c, rfl, o_c, l_c, hb⟩
    have u_c := o_c.lt
    replace B_a := B_a.below hb
    replace B_r := B_r.below hb
    replace hB := hB.trans (hb.mono hB.size)
    have sz := hb.size
    clear hb
    replace q_a_0 := B_a.cell 0 _ rfl
    replace q_a_1 := B_a.cell 1 _ rfl
    replace q_a_2 := B_a.cell 2 _ rfl
    replace q_a_3 := B_a.cell 3 _ rfl
    replace fr_a := B_a.fro
    replace z_a := B_a.lt
    replace q_r_0 := B_r.cell 0 _ rfl
    replace q_r_1 := B_r.cell 1 _ rfl
    replace q_r_2 := B_r.cell 2 _ rfl
    replace q_r_3 := B_r.cell 3 _ rfl
    replace fr_r := B_r.fro
    replace z_r := B_r.lt
    clear hcp
    go_wp2_with fail
    replace B_a := B_a.alloc (.cells #[.slice K_c.Heap.Bytes.a K_c.Heap.Bytes.len K_c.Heap.Bytes.cap, .slice K_c.Heap.Class.a K_c.Heap.Class.len K_c.Heap.Class.cap, .slice K_c.Lists.Global.a K_c.Lists.Global.len K_c.Lists.Global.cap, .slice K_c.Lists.Own.a K_c.Lists.Own.len K_c.Lists.Own.cap] 31)
    replace B_r := B_r.alloc (.cells #[.slice K_c.Heap.Bytes.a K_c.Heap.Bytes.len K_c.Heap.Bytes.cap, .slice K_c.Heap.Class.a K_c.Heap.Class.len K_c.Heap.Class.cap, .slice K_c.Lists.Global.a K_c.Lists.Global.len K_c.Lists.Global.cap, .slice K_c.Lists.Own.a K_c.Lists.Own.len K_c.Lists.Own.cap] 31)
    replace o_c := o_c.alloc_ (.cells #[.slice K_c.Heap.Bytes.a K_c.Heap.Bytes.len K_c.Heap.Bytes.cap, .slice K_c.Heap.Class.a K_c.Heap.Class.len K_c.Heap.Class.cap, .slice K_c.Lists.Global.a K_c.Lists.Global.len K_c.Lists.Global.cap, .slice K_c.Lists.Own.a K_c.Lists.Own.len K_c.Lists.Own.cap] 31)
    replace hB := hB.alloc hB.size (.cells #[.slice K_c.Heap.Bytes.a K_c.Heap.Bytes.len K_c.Heap.Bytes.cap, .slice K_c.Heap.Class.a K_c.Heap.Class.len K_c.Heap.Class.cap, .slice K_c.Lists.Global.a K_c.Lists.Global.len K_c.Lists.Global.cap, .slice K_c.Lists.Own.a K_c.Lists.Own.len K_c.Lists.Own.cap] 31)
    have B_o : Box (w1.alloc (.cells #[.slice K_c.Heap.Bytes.a K_c.Heap.Bytes.len K_c.Heap.Bytes.cap, .slice K_c.Heap.Class.a K_c.Heap.Class.len K_c.Heap.Class.cap, .slice K_c.Lists.Global.a K_c.Lists.Global.len K_c.Lists.Global.cap, .slice K_c.Lists.Own.a K_c.Lists.Own.len K_c.Lists.Own.cap] 31)) w1.heap.size [.slice K_c.Heap.Bytes.a K_c.Heap.Bytes.len K_c.Heap.Bytes.cap, .slice K_c.Heap.Class.a K_c.Heap.Class.len K_c.Heap.Class.cap, .slice K_c.Lists.Global.a K_c.Lists.Global.len K_c.Lists.Global.cap, .slice K_c.Lists.Own.a K_c.Lists.Own.len K_c.Lists.Own.cap] := Box.new w1 #[.slice K_c.Heap.Bytes.a K_c.Heap.Bytes.len K_c.Heap.Bytes.cap, .slice K_c.Heap.Class.a K_c.Heap.Class.len K_c.Heap.Class.cap, .slice K_c.Lists.Global.a K_c.Lists.Global.len K_c.Lists.Global.cap, .slice K_c.Lists.Own.a K_c.Lists.Own.len K_c.Lists.Own.cap] 31
    have zz_o := B_o.lt
    have sz : w1.heap.size ≤ (w1.alloc (.cells #[.slice K_c.Heap.Bytes.a K_c.Heap.Bytes.len K_c.Heap.Bytes.cap, .slice K_c.Heap.Class.a K_c.Heap.Class.len K_c.Heap.Class.cap, .slice K_c.Lists.Global.a K_c.Lists.Global.len K_c.Lists.Global.cap, .slice K_c.Lists.Own.a K_c.Lists.Own.len K_c.Lists.Own.cap] 31)).heap.size := Nat.le_of_lt B_o.lt
    generalize hG : (w1.alloc (.cells #[.slice K_c.Heap.Bytes.a K_c.Heap.Bytes.len K_c.Heap.Bytes.cap, .slice K_c.Heap.Class.a K_c.Heap.Class.len K_c.Heap.Class.cap, .slice K_c.Lists.Global.a K_c.Lists.Global.len K_c.Lists.Global.cap, .slice K_c.Lists.Own.a K_c.Lists.Own.len K_c.Lists.Own.cap] 31)) = w2 at B_a B_r o_c hB B_o zz_o sz ⊢
    clear hG
    replace q_a_0 := B_a.cell 0 _ rfl
    replace q_a_1 := B_a.cell 1 _ rfl
    replace q_a_2 := B_a.cell 2 _ rfl
    replace q_a_3 := B_a.cell 3 _ rfl
    replace fr_a := B_a.fro
    replace z_a := B_a.lt
    replace q_r_0 := B_r.cell 0 _ rfl
    replace q_r_1 := B_r.cell 1 _ rfl
    replace q_r_2 := B_r.cell 2 _ rfl
    replace q_r_3 := B_r.cell 3 _ rfl
    replace fr_r := B_r.fro
    replace z_r := B_r.lt
    have q_o_0 := B_o.cell 0 _ rfl
    have q_o_1 := B_o.cell 1 _ rfl
    have q_o_2 := B_o.cell 2 _ rfl
    have q_o_3 := B_o.cell 3 _ rfl
    have fr_o := B_o.fro
    have z_o := B_o.lt
    refine (hmo _ hB).mono ?_
    rw [c1]
    rintro e w3 ⟨rfl, hb⟩
    replace B_a := B_a.below hb
    replace B_r := B_r.below hb
    replace B_o := B_o.below hb
    have o_c := o_c.step0 hb
    replace hB := hB.trans (hb.mono hB.size)
    have sz := hb.size
    clear hb
    replace q_a_0 := B_a.cell 0 _ rfl
    replace q_a_1 := B_a.cell 1 _ rfl
    replace q_a_2 := B_a.cell 2 _ rfl
    replace q_a_3 := B_a.cell 3 _ rfl
    replace fr_a := B_a.fro
    replace z_a := B_a.lt
    replace q_r_0 := B_r.cell 0 _ rfl
    replace q_r_1 := B_r.cell 1 _ rfl
    replace q_r_2 := B_r.cell 2 _ rfl
    replace q_r_3 := B_r.cell 3 _ rfl
    replace fr_r := B_r.fro
    replace z_r := B_r.lt
    replace q_o_0 := B_o.cell 0 _ rfl
    replace q_o_1 := B_o.cell 1 _ rfl
    replace q_o_2 := B_o.cell 2 _ rfl
    replace q_o_3 := B_o.cell 3 _ rfl
    replace fr_o := B_o.fro
    replace z_o := B_o.lt
    clear hmo
    go_wp2_with (go_at_call 102; refine (l1In_ct _ _ _ _).mono ?_; rw [c2]; rintro e wv ⟨rfl, rfl⟩)
    refine (hlv _ hB).mono ?_
    rw [c3']
    rintro e w4 ⟨rfl, hb⟩
    replace B_a := B_a.below hb
    replace B_r := B_r.below hb
    replace B_o := B_o.below hb
    replace o_c := o_c.step0 hb
    replace hB := hB.trans (hb.mono hB.size)
    have sz := hb.size
    clear hb
    replace q_a_0 := B_a.cell 0 _ rfl
    replace q_a_1 := B_a.cell 1 _ rfl
    replace q_a_2 := B_a.cell 2 _ rfl
    replace q_a_3 := B_a.cell 3 _ rfl
    replace fr_a := B_a.fro
    replace z_a := B_a.lt
    replace q_r_0 := B_r.cell 0 _ rfl
    replace q_r_1 := B_r.cell 1 _ rfl
    replace q_r_2 := B_r.cell 2 _ rfl
    replace q_r_3 := B_r.cell 3 _ rfl
    replace fr_r := B_r.fro
    replace z_r := B_r.lt
    replace q_o_0 := B_o.cell 0 _ rfl
    replace q_o_1 := B_o.cell 1 _ rfl
    replace q_o_2 := B_o.cell 2 _ rfl
    replace q_o_3 := B_o.cell 3 _ rfl
    replace fr_o := B_o.fro
    replace z_o := B_o.lt
    clear hlv
    go_wp2_with fail
    refine bodyPost_ret (v := .tuple #[.agg #[.slice K_c.Heap.Bytes.a K_c.Heap.Bytes.len K_c.Heap.Bytes.cap, .slice K_c.Heap.Class.a K_c.Heap.Class.len K_c.Heap.Class.cap, .slice K_c.Lists.Global.a K_c.Lists.Global.len K_c.Lists.Global.cap, .slice K_c.Lists.Own.a K_c.Lists.Own.len K_c.Lists.Own.cap], .int .i64 4]) (by simp [results, Tryz.results46, go_sem, q_r_0, q_r_1, q_r_2, q_r_3]) rfl ⟨K_c, by rw [HV.out], by rw [HV.out]; exact o_c.chg (F := [w.heap.size + 1]) (by repeat (first | with_reducible exact Chg.refl _ _ | with_reducible refine Chg.set_ ?_ (by simp) _ | with_reducible refine Chg.alloc_ ?_ _ | with_reducible refine Chg.drew_ ?_)) (fun g hg hm => by simp only [List.mem_cons, List.not_mem_nil, or_false] at hm; have := l_c g hg; have := u_c g hg; omega), fun g hg => by have := l_c g hg; omega, Below.trans hB (by repeat (first | with_reducible exact Below.refl _ _ | with_reducible refine Below.setCell ?_ (by simp <;> omega) _ | with_reducible refine Below.alloc ?_ (by simp <;> omega) _ | with_reducible refine Below.drew ?_))⟩
  have HV := Hid.mk_ (free_yes c1 c2 c3)
  obtain ⟨b1, b2⟩ := inB_iff.1 c2
  obtain ⟨k, rfl⟩ : ∃ k : Nat, wk = (k : Int) := ⟨wk.toNat, by omega⟩
  have hk : k < 3 := by omega
  rw [Int.toNat_natCast] at HV
  obtain ⟨l1, l2, l3⟩ := live_parts c3
  obtain ⟨e1, e2, _, e4, _, _⟩ := handleOk_bd l1
  obtain ⟨k1, k2, k3⟩ := state3 l2
  obtain ⟨d1, d2⟩ := cls_le (shape_of HSH.out) k1
  obtain ⟨c, hc⟩ : ∃ c : Nat, classInB x.Heap (a % 32) = (c : Int) := ⟨(classInB x.Heap (a % 32)).toNat, by omega⟩
  have hll := lists_len (mem_lists c1)
  have hfr := fun (W : World) (K : HMem) (o : OwMem W K x) => l9Free_spec W K x k c (a % 32) (a / 32) o (by unfold sizeMem at hs; omega) HSH.out hll hk hc (by omega) l3 (by omega) (by omega)
  have hsl := fun W => HandleSlot_spec a W l1
  clear l1 l2 l3 e4 k1 k2 k3 d1 d2 hc hll b1 b2
  have B_a : Box ((w.alloc (.cells #[.slice H.Heap.Bytes.a H.Heap.Bytes.len H.Heap.Bytes.cap, .slice H.Heap.Class.a H.Heap.Class.len H.Heap.Class.cap, .slice H.Lists.Global.a H.Lists.Global.len H.Lists.Global.cap, .slice H.Lists.Own.a H.Lists.Own.len H.Lists.Own.cap] 31)).alloc (.cells #[.slice none 0 0, .slice none 0 0, .slice none 0 0, .slice none 0 0] 31)) (w.heap.size) [.slice H.Heap.Bytes.a H.Heap.Bytes.len H.Heap.Bytes.cap, .slice H.Heap.Class.a H.Heap.Class.len H.Heap.Class.cap, .slice H.Lists.Global.a H.Lists.Global.len H.Lists.Global.cap, .slice H.Lists.Own.a H.Lists.Own.len H.Lists.Own.cap] := by
    have hbx := Box.new w #[.slice H.Heap.Bytes.a H.Heap.Bytes.len H.Heap.Bytes.cap, .slice H.Heap.Class.a H.Heap.Class.len H.Heap.Class.cap, .slice H.Lists.Global.a H.Lists.Global.len H.Lists.Global.cap, .slice H.Lists.Own.a H.Lists.Own.len H.Lists.Own.cap] 31
    exact (hbx).alloc _
  have B_r : Box ((w.alloc (.cells #[.slice H.Heap.Bytes.a H.Heap.Bytes.len H.Heap.Bytes.cap, .slice H.Heap.Class.a H.Heap.Class.len H.Heap.Class.cap, .slice H.Lists.Global.a H.Lists.Global.len H.Lists.Global.cap, .slice H.Lists.Own.a H.Lists.Own.len H.Lists.Own.cap] 31)).alloc (.cells #[.slice none 0 0, .slice none 0 0, .slice none 0 0, .slice none 0 0] 31)) (w.heap.size + 1) [.slice none 0 0, .slice none 0 0, .slice none 0 0, .slice none 0 0] := by
    have hbx := Box.new (w.alloc (.cells #[.slice H.Heap.Bytes.a H.Heap.Bytes.len H.Heap.Bytes.cap, .slice H.Heap.Class.a H.Heap.Class.len H.Heap.Class.cap, .slice H.Lists.Global.a H.Lists.Global.len H.Lists.Global.cap, .slice H.Lists.Own.a H.Lists.Own.len H.Lists.Own.cap] 31)) #[.slice none 0 0, .slice none 0 0, .slice none 0 0, .slice none 0 0] 31
    simp only [World.size_alloc] at hbx
    exact hbx
  have hB : Below w.heap.size w ((w.alloc (.cells #[.slice H.Heap.Bytes.a H.Heap.Bytes.len H.Heap.Bytes.cap, .slice H.Heap.Class.a H.Heap.Class.len H.Heap.Class.cap, .slice H.Lists.Global.a H.Lists.Global.len H.Lists.Global.cap, .slice H.Lists.Own.a H.Lists.Own.len H.Lists.Own.cap] 31)).alloc (.cells #[.slice none 0 0, .slice none 0 0, .slice none 0 0, .slice none 0 0] 31)) := by repeat (first | exact Below.refl _ _ | refine Below.alloc ?_ (by simp <;> omega) _ | refine below_grow_of ?_ (by simp <;> omega) _ _ | refine Below.drew ?_ | refine below_drewN ?_ _)
  go_enter Tryz.func46, Tryz.ntmps46
  go_wp2_with fail
  generalize hW0 : ((w.alloc (.cells #[.slice H.Heap.Bytes.a H.Heap.Bytes.len H.Heap.Bytes.cap, .slice H.Heap.Class.a H.Heap.Class.len H.Heap.Class.cap, .slice H.Lists.Global.a H.Lists.Global.len H.Lists.Global.cap, .slice H.Lists.Own.a H.Lists.Own.len H.Lists.Own.cap] 31)).alloc (.cells #[.slice none 0 0, .slice none 0 0, .slice none 0 0, .slice none 0 0] 31)) = w0 at B_a B_r hB ⊢
  clear hW0
  have zz_a := B_a.lt
  have zz_r := B_r.lt
  have q_a_0 := B_a.cell 0 _ rfl
  have q_a_1 := B_a.cell 1 _ rfl
  have q_a_2 := B_a.cell 2 _ rfl
  have q_a_3 := B_a.cell 3 _ rfl
  have fr_a := B_a.fro
  have z_a := B_a.lt
  have q_r_0 := B_r.cell 0 _ rfl
  have q_r_1 := B_r.cell 1 _ rfl
  have q_r_2 := B_r.cell 2 _ rfl
  have q_r_3 := B_r.cell 3 _ rfl
  have fr_r := B_r.fro
  have z_r := B_r.lt
  refine (hcp _ hB).mono ?_
  rintro e w1 ⟨K_c, rfl, o_c, l_c, hb⟩
  have u_c := o_c.lt
  replace B_a := B_a.below hb
  replace B_r := B_r.below hb
  replace hB := hB.trans (hb.mono hB.size)
  have sz := hb.size
  clear hb
  replace q_a_0 := B_a.cell 0 _ rfl
  replace q_a_1 := B_a.cell 1 _ rfl
  replace q_a_2 := B_a.cell 2 _ rfl
  replace q_a_3 := B_a.cell 3 _ rfl
  replace fr_a := B_a.fro
  replace z_a := B_a.lt
  replace q_r_0 := B_r.cell 0 _ rfl
  replace q_r_1 := B_r.cell 1 _ rfl
  replace q_r_2 := B_r.cell 2 _ rfl
  replace q_r_3 := B_r.cell 3 _ rfl
  replace fr_r := B_r.fro
  replace z_r := B_r.lt
  clear hcp
  go_wp2_with fail
  replace B_a := B_a.alloc (.cells #[.slice K_c.Heap.Bytes.a K_c.Heap.Bytes.len K_c.Heap.Bytes.cap, .slice K_c.Heap.Class.a K_c.Heap.Class.len K_c.Heap.Class.cap, .slice K_c.Lists.Global.a K_c.Lists.Global.len K_c.Lists.Global.cap, .slice K_c.Lists.Own.a K_c.Lists.Own.len K_c.Lists.Own.cap] 31)
  replace B_r := B_r.alloc (.cells #[.slice K_c.Heap.Bytes.a K_c.Heap.Bytes.len K_c.Heap.Bytes.cap, .slice K_c.Heap.Class.a K_c.Heap.Class.len K_c.Heap.Class.cap, .slice K_c.Lists.Global.a K_c.Lists.Global.len K_c.Lists.Global.cap, .slice K_c.Lists.Own.a K_c.Lists.Own.len K_c.Lists.Own.cap] 31)
  replace o_c := o_c.alloc_ (.cells #[.slice K_c.Heap.Bytes.a K_c.Heap.Bytes.len K_c.Heap.Bytes.cap, .slice K_c.Heap.Class.a K_c.Heap.Class.len K_c.Heap.Class.cap, .slice K_c.Lists.Global.a K_c.Lists.Global.len K_c.Lists.Global.cap, .slice K_c.Lists.Own.a K_c.Lists.Own.len K_c.Lists.Own.cap] 31)
  replace hB := hB.alloc hB.size (.cells #[.slice K_c.Heap.Bytes.a K_c.Heap.Bytes.len K_c.Heap.Bytes.cap, .slice K_c.Heap.Class.a K_c.Heap.Class.len K_c.Heap.Class.cap, .slice K_c.Lists.Global.a K_c.Lists.Global.len K_c.Lists.Global.cap, .slice K_c.Lists.Own.a K_c.Lists.Own.len K_c.Lists.Own.cap] 31)
  have B_o : Box (w1.alloc (.cells #[.slice K_c.Heap.Bytes.a K_c.Heap.Bytes.len K_c.Heap.Bytes.cap, .slice K_c.Heap.Class.a K_c.Heap.Class.len K_c.Heap.Class.cap, .slice K_c.Lists.Global.a K_c.Lists.Global.len K_c.Lists.Global.cap, .slice K_c.Lists.Own.a K_c.Lists.Own.len K_c.Lists.Own.cap] 31)) w1.heap.size [.slice K_c.Heap.Bytes.a K_c.Heap.Bytes.len K_c.Heap.Bytes.cap, .slice K_c.Heap.Class.a K_c.Heap.Class.len K_c.Heap.Class.cap, .slice K_c.Lists.Global.a K_c.Lists.Global.len K_c.Lists.Global.cap, .slice K_c.Lists.Own.a K_c.Lists.Own.len K_c.Lists.Own.cap] := Box.new w1 #[.slice K_c.Heap.Bytes.a K_c.Heap.Bytes.len K_c.Heap.Bytes.cap, .slice K_c.Heap.Class.a K_c.Heap.Class.len K_c.Heap.Class.cap, .slice K_c.Lists.Global.a K_c.Lists.Global.len K_c.Lists.Global.cap, .slice K_c.Lists.Own.a K_c.Lists.Own.len K_c.Lists.Own.cap] 31
  have zz_o := B_o.lt
  have sz : w1.heap.size ≤ (w1.alloc (.cells #[.slice K_c.Heap.Bytes.a K_c.Heap.Bytes.len K_c.Heap.Bytes.cap, .slice K_c.Heap.Class.a K_c.Heap.Class.len K_c.Heap.Class.cap, .slice K_c.Lists.Global.a K_c.Lists.Global.len K_c.Lists.Global.cap, .slice K_c.Lists.Own.a K_c.Lists.Own.len K_c.Lists.Own.cap] 31)).heap.size := Nat.le_of_lt B_o.lt
  generalize hG : (w1.alloc (.cells #[.slice K_c.Heap.Bytes.a K_c.Heap.Bytes.len K_c.Heap.Bytes.cap, .slice K_c.Heap.Class.a K_c.Heap.Class.len K_c.Heap.Class.cap, .slice K_c.Lists.Global.a K_c.Lists.Global.len K_c.Lists.Global.cap, .slice K_c.Lists.Own.a K_c.Lists.Own.len K_c.Lists.Own.cap] 31)) = w2 at B_a B_r o_c hB B_o zz_o sz ⊢
  clear hG
  replace q_a_0 := B_a.cell 0 _ rfl
  replace q_a_1 := B_a.cell 1 _ rfl
  replace q_a_2 := B_a.cell 2 _ rfl
  replace q_a_3 := B_a.cell 3 _ rfl
  replace fr_a := B_a.fro
  replace z_a := B_a.lt
  replace q_r_0 := B_r.cell 0 _ rfl
  replace q_r_1 := B_r.cell 1 _ rfl
  replace q_r_2 := B_r.cell 2 _ rfl
  replace q_r_3 := B_r.cell 3 _ rfl
  replace fr_r := B_r.fro
  replace z_r := B_r.lt
  have q_o_0 := B_o.cell 0 _ rfl
  have q_o_1 := B_o.cell 1 _ rfl
  have q_o_2 := B_o.cell 2 _ rfl
  have q_o_3 := B_o.cell 3 _ rfl
  have fr_o := B_o.fro
  have z_o := B_o.lt
  refine (hmo _ hB).mono ?_
  rw [c1]
  rintro e w3 ⟨rfl, hb⟩
  replace B_a := B_a.below hb
  replace B_r := B_r.below hb
  replace B_o := B_o.below hb
  have o_c := o_c.step0 hb
  replace hB := hB.trans (hb.mono hB.size)
  have sz := hb.size
  clear hb
  replace q_a_0 := B_a.cell 0 _ rfl
  replace q_a_1 := B_a.cell 1 _ rfl
  replace q_a_2 := B_a.cell 2 _ rfl
  replace q_a_3 := B_a.cell 3 _ rfl
  replace fr_a := B_a.fro
  replace z_a := B_a.lt
  replace q_r_0 := B_r.cell 0 _ rfl
  replace q_r_1 := B_r.cell 1 _ rfl
  replace q_r_2 := B_r.cell 2 _ rfl
  replace q_r_3 := B_r.cell 3 _ rfl
  replace fr_r := B_r.fro
  replace z_r := B_r.lt
  replace q_o_0 := B_o.cell 0 _ rfl
  replace q_o_1 := B_o.cell 1 _ rfl
  replace q_o_2 := B_o.cell 2 _ rfl
  replace q_o_3 := B_o.cell 3 _ rfl
  replace fr_o := B_o.fro
  replace z_o := B_o.lt
  clear hmo
  go_wp2_with (go_at_call 102; refine (l1In_ct _ _ _ _).mono ?_; rw [c2]; rintro e wv ⟨rfl, rfl⟩)
  refine (hlv _ hB).mono ?_
  rw [c3]
  rintro e w4 ⟨rfl, hb⟩
  replace B_a := B_a.below hb
  replace B_r := B_r.below hb
  replace B_o := B_o.below hb
  replace o_c := o_c.step0 hb
  replace hB := hB.trans (hb.mono hB.size)
  have sz := hb.size
  clear hb
  replace q_a_0 := B_a.cell 0 _ rfl
  replace q_a_1 := B_a.cell 1 _ rfl
  replace q_a_2 := B_a.cell 2 _ rfl
  replace q_a_3 := B_a.cell 3 _ rfl
  replace fr_a := B_a.fro
  replace z_a := B_a.lt
  replace q_r_0 := B_r.cell 0 _ rfl
  replace q_r_1 := B_r.cell 1 _ rfl
  replace q_r_2 := B_r.cell 2 _ rfl
  replace q_r_3 := B_r.cell 3 _ rfl
  replace fr_r := B_r.fro
  replace z_r := B_r.lt
  replace q_o_0 := B_o.cell 0 _ rfl
  replace q_o_1 := B_o.cell 1 _ rfl
  replace q_o_2 := B_o.cell 2 _ rfl
  replace q_o_3 := B_o.cell 3 _ rfl
  replace fr_o := B_o.fro
  replace z_o := B_o.lt
  clear hlv
  go_wp2_with fail
  have o_cd : OwMem w4.drew K_c x := o_c.keep (fun _ _ => rfl)
  go_region_with (first | (go_at_call 30; (first | ((with_reducible refine (hsl _).mono ?_); rintro e wq ⟨rfl, rfl⟩) | ((with_reducible refine (hsl _).mono ?_); rintro e wq ⟨rfl, rfl⟩))) | (go_at_call 111; (first | ((with_reducible refine (hfr _ K_c o_c).mono ?_); rintro e wq ⟨K_n, rfl, o_n, f_n, hx⟩; replace hx : Chg K_c.foot w4 wq := ⟨hx.os, hx.tape, hx.output, hx.size, hx.block⟩; replace hB := hB.trans (hx.below hB.size (fun b hb => by have := l_c b hb; omega)); have sz := hx.size; replace B_a := B_a.chg hx (fun hm => by have := l_c _ hm; omega); replace B_r := B_r.chg hx (fun hm => by have := l_c _ hm; omega); replace q_r_0 := B_r.cell 0 _ rfl; replace q_r_1 := B_r.cell 1 _ rfl; replace q_r_2 := B_r.cell 2 _ rfl; replace q_r_3 := B_r.cell 3 _ rfl; replace fr_r := B_r.fro; replace z_r := B_r.lt) | ((with_reducible refine (hfr _ K_c o_cd).mono ?_); rintro e wq ⟨K_n, rfl, o_n, f_n, hx⟩; replace hx : Chg K_c.foot w4 wq := ⟨hx.os, hx.tape, hx.output, hx.size, hx.block⟩; replace hB := hB.trans (hx.below hB.size (fun b hb => by have := l_c b hb; omega)); have sz := hx.size; replace B_a := B_a.chg hx (fun hm => by have := l_c _ hm; omega); replace B_r := B_r.chg hx (fun hm => by have := l_c _ hm; omega); replace q_r_0 := B_r.cell 0 _ rfl; replace q_r_1 := B_r.cell 1 _ rfl; replace q_r_2 := B_r.cell 2 _ rfl; replace q_r_3 := B_r.cell 3 _ rfl; replace fr_r := B_r.fro; replace z_r := B_r.lt))))
  all_goals
    have l_n : ∀ g ∈ K_n.foot, w0.heap.size ≤ g := fun g hg => by rcases f_n g hg with hh | hh; (exact l_c g hh); (simp at hh; omega)
    have u_n := o_n.lt
    go_wp2_with fail
    refine bodyPost_ret (v := .tuple #[.agg #[.slice K_n.Heap.Bytes.a K_n.Heap.Bytes.len K_n.Heap.Bytes.cap, .slice K_n.Heap.Class.a K_n.Heap.Class.len K_n.Heap.Class.cap, .slice K_n.Lists.Global.a K_n.Lists.Global.len K_n.Lists.Global.cap, .slice K_n.Lists.Own.a K_n.Lists.Own.len K_n.Lists.Own.cap], .int .i64 0]) (by simp [results, Tryz.results46, go_sem, q_r_0, q_r_1, q_r_2, q_r_3]) rfl ⟨K_n, by rw [HV.out], by rw [HV.out]; exact o_n.chg (F := [w.heap.size + 1]) (by repeat (first | with_reducible exact Chg.refl _ _ | with_reducible refine Chg.set_ ?_ (by simp) _ | with_reducible refine Chg.alloc_ ?_ _ | with_reducible refine Chg.drew_ ?_)) (fun g hg hm => by simp only [List.mem_cons, List.not_mem_nil, or_false] at hm; have := l_n g hg; have := u_n g hg; omega), fun g hg => by have := l_n g hg; omega, Below.trans hB (by repeat (first | with_reducible exact Below.refl _ _ | with_reducible refine Below.setCell ?_ (by simp <;> omega) _ | with_reducible refine Below.alloc ?_ (by simp <;> omega) _ | with_reducible refine Below.drew ?_))⟩
end Go.Proofs.YtkmggglljkmjoaaGreat

/-
  What is stored through a handle: the reference.
-/
namespace Go.Proofs.YtkmggglljkmjoaaGreat
open Go.RowKit

theorem fixedSpec_any (n k : Int) (w : World) (hn : I64 n) : Calls Tryz.prog 85 #[.int .i64 n, .int .i64 k] w fun e w' => ∃ t : ByteArray, e = .returned (.string t) ∧ t.toList.isEmpty = (!fixOk n k) ∧ Below w.heap.size w w' := by
  by_cases h1 : inB 1 7 k = true
  case neg =>
    have h1' := (Bool.not_eq_true _).mp h1
    refine (FixedSpec_no n k w (.inl h1')).mono ?_
    rintro e w' ⟨rfl, rfl⟩
    exact ⟨_, rfl, by unfold fixOk; rw [h1', isEmpty_size]; rfl, Below.refl _ _⟩
  by_cases h0 : 0 ≤ n
  case neg =>
    refine (FixedSpec_no n k w (.inr (by omega))).mono ?_
    rintro e w' ⟨rfl, rfl⟩
    exact ⟨_, rfl, by unfold fixOk; rw [h1, decide_eq_false h0, isEmpty_size]; rfl, Below.refl _ _⟩
  obtain ⟨a, b⟩ := inB_iff.1 h1
  obtain ⟨K, rfl⟩ : ∃ K : Nat, k = (K : Int) := ⟨k.toNat, by omega⟩
  refine (FixedSpec_go n K w (by omega) (by omega) h0 hn.2).mono ?_
  rintro e w' ⟨⟨t, rfl, ht⟩, hb⟩
  exact ⟨t, rfl, by rw [ht]; unfold fixOk; rw [h1, decide_eq_true h0, Int.toNat_natCast]; rfl, hb⟩
theorem fixedSpec_empty (n k : Int) (w : World) (hn : I64 n) (hf : fixOk n k = false) : Calls Tryz.prog 85 #[.int .i64 n, .int .i64 k] w fun e w' => ∃ t : ByteArray, e = .returned (.string t) ∧ t.toList.isEmpty = true ∧ Below w.heap.size w w' :=
  (fixedSpec_any n k w hn).mono fun _ _ ⟨t, a, b, c⟩ => ⟨t, a, by rw [b, hf]; rfl, c⟩
theorem fixedSpec_full (n k : Int) (w : World) (hn : I64 n) (hf : fixOk n k = true) : Calls Tryz.prog 85 #[.int .i64 n, .int .i64 k] w fun e w' => ∃ t : ByteArray, e = .returned (.string t) ∧ t.toList.isEmpty = false ∧ Below w.heap.size w w' :=
  (fixedSpec_any n k w hn).mono fun _ _ ⟨t, a, b, c⟩ => ⟨t, a, by rw [b, hf]; rfl, c⟩

set_option maxRecDepth 100000 in
set_option maxHeartbeats 4000000 in
theorem StoreIn_spec (w : World) (H : HMem) (x : Mem) (s a k n : Int) (h : RdMem w w.heap.size H x) (hs : sizeMem x ≤ 536870912) (hn : I64 n) :
    Calls Tryz.prog 25 #[.agg #[.slice H.Heap.Bytes.a H.Heap.Bytes.len H.Heap.Bytes.cap, .slice H.Heap.Class.a H.Heap.Class.len H.Heap.Class.cap, .slice H.Lists.Global.a H.Lists.Global.len H.Lists.Global.cap, .slice H.Lists.Own.a H.Lists.Own.len H.Lists.Own.cap], .int .i64 s, .int .i64 a, .int .i64 k, .int .i64 n] w fun e w' => ∃ H' : HMem, e = .returned (.tuple #[.agg #[.slice H'.Heap.Bytes.a H'.Heap.Bytes.len H'.Heap.Bytes.cap, .slice H'.Heap.Class.a H'.Heap.Class.len H'.Heap.Class.cap, .slice H'.Lists.Global.a H'.Lists.Global.len H'.Lists.Global.cap, .slice H'.Lists.Own.a H'.Lists.Own.len H'.Lists.Own.cap], .int .i64 (storeInP x s a k n).2]) ∧ OwMem w' H' (storeInP x s a k n).1 ∧ (∀ g ∈ H'.foot, w.heap.size ≤ g) ∧ Below w.heap.size w w' := by
  have hsp := fun (W : World) (hW : Below w.heap.size w W) => l9Spot_spec W H x s a k (rdMem_up h hW) (by unfold sizeMem sizeLists at hs; omega) (by unfold sizeMem sizeLists at hs; omega)
  by_cases c1 : (spotB x s a k).2 = 0
  case neg =>
    have HV := Hid.mk_ (store_no1 (n := n) c1)
    have c1' : ((spotB x s a k).2 != 0) = true := by simpa using c1
    clear c1
    generalize (spotB x s a k).2 = c at *
    generalize (spotB x s a k).1 = p at *
    have B_a : Box ((w.alloc (.cells #[.slice H.Heap.Bytes.a H.Heap.Bytes.len H.Heap.Bytes.cap, .slice H.Heap.Class.a H.Heap.Class.len H.Heap.Class.cap, .slice H.Lists.Global.a H.Lists.Global.len H.Lists.Global.cap, .slice H.Lists.Own.a H.Lists.Own.len H.Lists.Own.cap] 31)).alloc (.cells #[.slice none 0 0, .slice none 0 0, .slice none 0 0, .slice none 0 0] 31)) (w.heap.size) [.slice H.Heap.Bytes.a H.Heap.Bytes.len H.Heap.Bytes.cap, .slice H.Heap.Class.a H.Heap.Class.len H.Heap.Class.cap, .slice H.Lists.Global.a H.Lists.Global.len H.Lists.Global.cap, .slice H.Lists.Own.a H.Lists.Own.len H.Lists.Own.cap] := by
      have hbx := Box.new w #[.slice H.Heap.Bytes.a H.Heap.Bytes.len H.Heap.Bytes.cap, .slice H.Heap.Class.a H.Heap.Class.len H.Heap.Class.cap, .slice H.Lists.Global.a H.Lists.Global.len H.Lists.Global.cap, .slice H.Lists.Own.a H.Lists.Own.len H.Lists.Own.cap] 31
      exact (hbx).alloc _
    have B_r : Box ((w.alloc (.cells #[.slice H.Heap.Bytes.a H.Heap.Bytes.len H.Heap.Bytes.cap, .slice H.Heap.Class.a H.Heap.Class.len H.Heap.Class.cap, .slice H.Lists.Global.a H.Lists.Global.len H.Lists.Global.cap, .slice H.Lists.Own.a H.Lists.Own.len H.Lists.Own.cap] 31)).alloc (.cells #[.slice none 0 0, .slice none 0 0, .slice none 0 0, .slice none 0 0] 31)) (w.heap.size + 1) [.slice none 0 0, .slice none 0 0, .slice none 0 0, .slice none 0 0] := by
      have hbx := Box.new (w.alloc (.cells #[.slice H.Heap.Bytes.a H.Heap.Bytes.len H.Heap.Bytes.cap, .slice H.Heap.Class.a H.Heap.Class.len H.Heap.Class.cap, .slice H.Lists.Global.a H.Lists.Global.len H.Lists.Global.cap, .slice H.Lists.Own.a H.Lists.Own.len H.Lists.Own.cap] 31)) #[.slice none 0 0, .slice none 0 0, .slice none 0 0, .slice none 0 0] 31
      simp only [World.size_alloc] at hbx
      exact hbx
    have hB : Below w.heap.size w ((w.alloc (.cells #[.slice H.Heap.Bytes.a H.Heap.Bytes.len H.Heap.Bytes.cap, .slice H.Heap.Class.a H.Heap.Class.len H.Heap.Class.cap, .slice H.Lists.Global.a H.Lists.Global.len H.Lists.Global.cap, .slice H.Lists.Own.a H.Lists.Own.len H.Lists.Own.cap] 31)).alloc (.cells #[.slice none 0 0, .slice none 0 0, .slice none 0 0, .slice none 0 0] 31)) := by repeat (first | exact Below.refl _ _ | refine Below.alloc ?_ (by simp <;> omega) _ | refine below_grow_of ?_ (by simp <;> omega) _ _ | refine Below.drew ?_ | refine below_drewN ?_ _)
    go_enter Tryz.func25, Tryz.ntmps25
    go_wp2_with fail
    generalize hW0 : ((w.alloc (.cells #[.slice H.Heap.Bytes.a H.Heap.Bytes.len H.Heap.Bytes.cap, .slice H.Heap.Class.a H.Heap.Class.len H.Heap.Class.cap, .slice H.Lists.Global.a H.Lists.Global.len H.Lists.Global.cap, .slice H.Lists.Own.a H.Lists.Own.len H.Lists.Own.cap] 31)).alloc (.cells #[.slice none 0 0, .slice none 0 0, .slice none 0 0, .slice none 0 0] 31)) = w0 at B_a B_r hB ⊢
    clear hW0
    have zz_a := B_a.lt
    have zz_r := B_r.lt
    have q_a_0 := B_a.cell 0 _ rfl
    have q_a_1 := B_a.cell 1 _ rfl
    have q_a_2 := B_a.cell 2 _ rfl
    have q_a_3 := B_a.cell 3 _ rfl
    have fr_a := B_a.fro
    have z_a := B_a.lt
    have q_r_0 := B_r.cell 0 _ rfl
    have q_r_1 := B_r.cell 1 _ rfl
    have q_r_2 := B_r.cell 2 _ rfl
    have q_r_3 := B_r.cell 3 _ rfl
    have fr_r := B_r.fro
    have z_r := B_r.lt
    refine (l9Copy_spec _ H x (rdMem_up h hB) hs).mono ?_
    rintro e w1 ⟨K_c, rfl, o_c, l_c, hb⟩
    have u_c := o_c.lt
    replace B_a := B_a.below hb
    replace B_r := B_r.below hb
    replace hB := hB.trans (hb.mono hB.size)
    have sz := hb.size
    clear hb
    replace q_a_0 := B_a.cell 0 _ rfl
    replace q_a_1 := B_a.cell 1 _ rfl
    replace q_a_2 := B_a.cell 2 _ rfl
    replace q_a_3 := B_a.cell 3 _ rfl
    replace fr_a := B_a.fro
    replace z_a := B_a.lt
    replace q_r_0 := B_r.cell 0 _ rfl
    replace q_r_1 := B_r.cell 1 _ rfl
    replace q_r_2 := B_r.cell 2 _ rfl
    replace q_r_3 := B_r.cell 3 _ rfl
    replace fr_r := B_r.fro
    replace z_r := B_r.lt
    go_wp2_with fail
    refine (hsp _ (hB.alloc hB.size _)).mono ?_
    rintro e w2 ⟨rfl, hb⟩
    replace B_a := (B_a.alloc _).below hb
    replace B_r := (B_r.alloc _).below hb
    have o_c := o_c.step hb
    replace hB := below_step hB hb hB.size
    have sz := hb.size
    simp only [World.size_alloc] at sz
    have B_o := (Box.new w1 #[.slice K_c.Heap.Bytes.a K_c.Heap.Bytes.len K_c.Heap.Bytes.cap, .slice K_c.Heap.Class.a K_c.Heap.Class.len K_c.Heap.Class.cap, .slice K_c.Lists.Global.a K_c.Lists.Global.len K_c.Lists.Global.cap, .slice K_c.Lists.Own.a K_c.Lists.Own.len K_c.Lists.Own.cap] 31).below hb
    have zz_o := B_o.lt
    clear hb
    replace q_a_0 := B_a.cell 0 _ rfl
    replace q_a_1 := B_a.cell 1 _ rfl
    replace q_a_2 := B_a.cell 2 _ rfl
    replace q_a_3 := B_a.cell 3 _ rfl
    replace fr_a := B_a.fro
    replace z_a := B_a.lt
    replace q_r_0 := B_r.cell 0 _ rfl
    replace q_r_1 := B_r.cell 1 _ rfl
    replace q_r_2 := B_r.cell 2 _ rfl
    replace q_r_3 := B_r.cell 3 _ rfl
    replace fr_r := B_r.fro
    replace z_r := B_r.lt
    have q_o_0 := B_o.cell 0 _ rfl
    have q_o_1 := B_o.cell 1 _ rfl
    have q_o_2 := B_o.cell 2 _ rfl
    have q_o_3 := B_o.cell 3 _ rfl
    have fr_o := B_o.fro
    have z_o := B_o.lt
    clear hsp
    go_wp2_with fail
    refine bodyPost_ret (v := .tuple #[.agg #[.slice K_c.Heap.Bytes.a K_c.Heap.Bytes.len K_c.Heap.Bytes.cap, .slice K_c.Heap.Class.a K_c.Heap.Class.len K_c.Heap.Class.cap, .slice K_c.Lists.Global.a K_c.Lists.Global.len K_c.Lists.Global.cap, .slice K_c.Lists.Own.a K_c.Lists.Own.len K_c.Lists.Own.cap], .int .i64 c]) (by simp [results, Tryz.results25, go_sem, q_r_0, q_r_1, q_r_2, q_r_3]) rfl ⟨K_c, by rw [HV.out], by rw [HV.out]; exact o_c.chg (F := [w.heap.size + 1]) (by repeat (first | exact Chg.refl _ _ | refine Chg.set_ ?_ (by simp) _ | refine Chg.alloc_ ?_ _ | refine Chg.drew_ ?_)) (fun g hg hm => by simp only [List.mem_cons, List.not_mem_nil, or_false] at hm; have := l_c g hg; have := u_c g hg; omega), fun g hg => by have := l_c g hg; omega, Below.trans hB (by repeat (first | exact Below.refl _ _ | refine Below.setCell ?_ (by simp <;> omega) _ | refine Below.alloc ?_ (by simp <;> omega) _ | refine Below.drew ?_))⟩
  obtain ⟨z1, z2, z3, z4, z5, z6, z7, z8⟩ := spot_zero c1
  have HSH := Hid.mk_ (mem_shape z1)
  have hbl : x.Heap.Bytes.length = 384 := (shape_of HSH.out).bl
  by_cases c2 : fixOk n k = true
  case neg =>
    have c2' := (Bool.not_eq_true _).mp c2
    have HV := Hid.mk_ (store_no2 c1 c2')
    have hq := fun W => fixedSpec_empty n k W hn c2'
    rw [c1] at hsp
    clear c1 c2 c2' z1 z4 z5 z6 z7 z8 hbl
    generalize (spotB x s a k).1 = p at *
    have B_a : Box ((w.alloc (.cells #[.slice H.Heap.Bytes.a H.Heap.Bytes.len H.Heap.Bytes.cap, .slice H.Heap.Class.a H.Heap.Class.len H.Heap.Class.cap, .slice H.Lists.Global.a H.Lists.Global.len H.Lists.Global.cap, .slice H.Lists.Own.a H.Lists.Own.len H.Lists.Own.cap] 31)).alloc (.cells #[.slice none 0 0, .slice none 0 0, .slice none 0 0, .slice none 0 0] 31)) (w.heap.size) [.slice H.Heap.Bytes.a H.Heap.Bytes.len H.Heap.Bytes.cap, .slice H.Heap.Class.a H.Heap.Class.len H.Heap.Class.cap, .slice H.Lists.Global.a H.Lists.Global.len H.Lists.Global.cap, .slice H.Lists.Own.a H.Lists.Own.len H.Lists.Own.cap] := by
      have hbx := Box.new w #[.slice H.Heap.Bytes.a H.Heap.Bytes.len H.Heap.Bytes.cap, .slice H.Heap.Class.a H.Heap.Class.len H.Heap.Class.cap, .slice H.Lists.Global.a H.Lists.Global.len H.Lists.Global.cap, .slice H.Lists.Own.a H.Lists.Own.len H.Lists.Own.cap] 31
      exact (hbx).alloc _
    have B_r : Box ((w.alloc (.cells #[.slice H.Heap.Bytes.a H.Heap.Bytes.len H.Heap.Bytes.cap, .slice H.Heap.Class.a H.Heap.Class.len H.Heap.Class.cap, .slice H.Lists.Global.a H.Lists.Global.len H.Lists.Global.cap, .slice H.Lists.Own.a H.Lists.Own.len H.Lists.Own.cap] 31)).alloc (.cells #[.slice none 0 0, .slice none 0 0, .slice none 0 0, .slice none 0 0] 31)) (w.heap.size + 1) [.slice none 0 0, .slice none 0 0, .slice none 0 0, .slice none 0 0] := by
      have hbx := Box.new (w.alloc (.cells #[.slice H.Heap.Bytes.a H.Heap.Bytes.len H.Heap.Bytes.cap, .slice H.Heap.Class.a H.Heap.Class.len H.Heap.Class.cap, .slice H.Lists.Global.a H.Lists.Global.len H.Lists.Global.cap, .slice H.Lists.Own.a H.Lists.Own.len H.Lists.Own.cap] 31)) #[.slice none 0 0, .slice none 0 0, .slice none 0 0, .slice none 0 0] 31
      simp only [World.size_alloc] at hbx
      exact hbx
    have hB : Below w.heap.size w ((w.alloc (.cells #[.slice H.Heap.Bytes.a H.Heap.Bytes.len H.Heap.Bytes.cap, .slice H.Heap.Class.a H.Heap.Class.len H.Heap.Class.cap, .slice H.Lists.Global.a H.Lists.Global.len H.Lists.Global.cap, .slice H.Lists.Own.a H.Lists.Own.len H.Lists.Own.cap] 31)).alloc (.cells #[.slice none 0 0, .slice none 0 0, .slice none 0 0, .slice none 0 0] 31)) := by repeat (first | exact Below.refl _ _ | refine Below.alloc ?_ (by simp <;> omega) _ | refine below_grow_of ?_ (by simp <;> omega) _ _ | refine Below.drew ?_ | refine below_drewN ?_ _)
    go_enter Tryz.func25, Tryz.ntmps25
    go_wp2_with fail
    generalize hW0 : ((w.alloc (.cells #[.slice H.Heap.Bytes.a H.Heap.Bytes.len H.Heap.Bytes.cap, .slice H.Heap.Class.a H.Heap.Class.len H.Heap.Class.cap, .slice H.Lists.Global.a H.Lists.Global.len H.Lists.Global.cap, .slice H.Lists.Own.a H.Lists.Own.len H.Lists.Own.cap] 31)).alloc (.cells #[.slice none 0 0, .slice none 0 0, .slice none 0 0, .slice none 0 0] 31)) = w0 at B_a B_r hB ⊢
    clear hW0
    have zz_a := B_a.lt
    have zz_r := B_r.lt
    have q_a_0 := B_a.cell 0 _ rfl
    have q_a_1 := B_a.cell 1 _ rfl
    have q_a_2 := B_a.cell 2 _ rfl
    have q_a_3 := B_a.cell 3 _ rfl
    have fr_a := B_a.fro
    have z_a := B_a.lt
    have q_r_0 := B_r.cell 0 _ rfl
    have q_r_1 := B_r.cell 1 _ rfl
    have q_r_2 := B_r.cell 2 _ rfl
    have q_r_3 := B_r.cell 3 _ rfl
    have fr_r := B_r.fro
    have z_r := B_r.lt
    refine (l9Copy_spec _ H x (rdMem_up h hB) hs).mono ?_
    rintro e w1 ⟨K_c, rfl, o_c, l_c, hb⟩
    have u_c := o_c.lt
    replace B_a := B_a.below hb
    replace B_r := B_r.below hb
    replace hB := hB.trans (hb.mono hB.size)
    have sz := hb.size
    clear hb
    replace q_a_0 := B_a.cell 0 _ rfl
    replace q_a_1 := B_a.cell 1 _ rfl
    replace q_a_2 := B_a.cell 2 _ rfl
    replace q_a_3 := B_a.cell 3 _ rfl
    replace fr_a := B_a.fro
    replace z_a := B_a.lt
    replace q_r_0 := B_r.cell 0 _ rfl
    replace q_r_1 := B_r.cell 1 _ rfl
    replace q_r_2 := B_r.cell 2 _ rfl
    replace q_r_3 := B_r.cell 3 _ rfl
    replace fr_r := B_r.fro
    replace z_r := B_r.lt
    go_wp2_with fail
    refine (hsp _ (hB.alloc hB.size _)).mono ?_
    rintro e w2 ⟨rfl, hb⟩
    replace B_a := (B_a.alloc _).below hb
    replace B_r := (B_r.alloc _).below hb
    have o_c := o_c.step hb
    replace hB := below_step hB hb hB.size
    have sz := hb.size
    simp only [World.size_alloc] at sz
    have B_o := (Box.new w1 #[.slice K_c.Heap.Bytes.a K_c.Heap.Bytes.len K_c.Heap.Bytes.cap, .slice K_c.Heap.Class.a K_c.Heap.Class.len K_c.Heap.Class.cap, .slice K_c.Lists.Global.a K_c.Lists.Global.len K_c.Lists.Global.cap, .slice K_c.Lists.Own.a K_c.Lists.Own.len K_c.Lists.Own.cap] 31).below hb
    have zz_o := B_o.lt
    clear hb
    replace q_a_0 := B_a.cell 0 _ rfl
    replace q_a_1 := B_a.cell 1 _ rfl
    replace q_a_2 := B_a.cell 2 _ rfl
    replace q_a_3 := B_a.cell 3 _ rfl
    replace fr_a := B_a.fro
    replace z_a := B_a.lt
    replace q_r_0 := B_r.cell 0 _ rfl
    replace q_r_1 := B_r.cell 1 _ rfl
    replace q_r_2 := B_r.cell 2 _ rfl
    replace q_r_3 := B_r.cell 3 _ rfl
    replace fr_r := B_r.fro
    replace z_r := B_r.lt
    have q_o_0 := B_o.cell 0 _ rfl
    have q_o_1 := B_o.cell 1 _ rfl
    have q_o_2 := B_o.cell 2 _ rfl
    have q_o_3 := B_o.cell 3 _ rfl
    have fr_o := B_o.fro
    have z_o := B_o.lt
    clear hsp
    go_wp2_with fail
    refine (hq _).mono ?_
    rintro e w3 ⟨t, rfl, ht, hb⟩
    replace B_a := B_a.below hb
    replace B_r := B_r.below hb
    replace B_o := B_o.below hb
    replace o_c := o_c.step0 hb
    replace hB := hB.trans (hb.mono hB.size)
    have sz := hb.size
    clear hb
    replace q_a_0 := B_a.cell 0 _ rfl
    replace q_a_1 := B_a.cell 1 _ rfl
    replace q_a_2 := B_a.cell 2 _ rfl
    replace q_a_3 := B_a.cell 3 _ rfl
    replace fr_a := B_a.fro
    replace z_a := B_a.lt
    replace q_r_0 := B_r.cell 0 _ rfl
    replace q_r_1 := B_r.cell 1 _ rfl
    replace q_r_2 := B_r.cell 2 _ rfl
    replace q_r_3 := B_r.cell 3 _ rfl
    replace fr_r := B_r.fro
    replace z_r := B_r.lt
    replace q_o_0 := B_o.cell 0 _ rfl
    replace q_o_1 := B_o.cell 1 _ rfl
    replace q_o_2 := B_o.cell 2 _ rfl
    replace q_o_3 := B_o.cell 3 _ rfl
    replace fr_o := B_o.fro
    replace z_o := B_o.lt
    clear hq
    go_wp2_with fail
    refine bodyPost_ret (v := .tuple #[.agg #[.slice K_c.Heap.Bytes.a K_c.Heap.Bytes.len K_c.Heap.Bytes.cap, .slice K_c.Heap.Class.a K_c.Heap.Class.len K_c.Heap.Class.cap, .slice K_c.Lists.Global.a K_c.Lists.Global.len K_c.Lists.Global.cap, .slice K_c.Lists.Own.a K_c.Lists.Own.len K_c.Lists.Own.cap], .int .i64 1]) (by simp [results, Tryz.results25, go_sem, q_r_0, q_r_1, q_r_2, q_r_3]) rfl ⟨K_c, by rw [HV.out], by rw [HV.out]; exact o_c.chg (F := [w.heap.size + 1]) (by repeat (first | exact Chg.refl _ _ | refine Chg.set_ ?_ (by simp) _ | refine Chg.alloc_ ?_ _ | refine Chg.drew_ ?_)) (fun g hg hm => by simp only [List.mem_cons, List.not_mem_nil, or_false] at hm; have := l_c g hg; have := u_c g hg; omega), fun g hg => by have := l_c g hg; omega, Below.trans hB (by repeat (first | exact Below.refl _ _ | refine Below.setCell ?_ (by simp <;> omega) _ | refine Below.alloc ?_ (by simp <;> omega) _ | refine Below.drew ?_))⟩
  have HV := Hid.mk_ (store_yes c1 c2)
  obtain ⟨y1, y2, y3, y4⟩ := fixOk_yes c2
  have hq := fun W => fixedSpec_full n k W hn c2
  obtain ⟨K, rfl⟩ : ∃ K : Nat, k = (K : Int) := ⟨k.toNat, by omega⟩
  rw [Int.toNat_natCast] at y4
  obtain ⟨P, hP⟩ : ∃ P : Nat, (spotB x s a K).1 = (P : Int) := ⟨(spotB x s a K).1.toNat, by omega⟩
  have HP : Hid (storeInP x s a K n = ({ x with Heap := { x.Heap with Bytes := putAt x.Heap.Bytes P (digs K n) } }, 0)) := by
    have := HV.out
    rw [hP] at this
    unfold putN at this
    rw [Int.toNat_natCast, Int.toNat_natCast] at this
    exact this
  have h72 := pow_small (K := K) (by omega)
  have HA := Hid.mk_ (show 1 ≤ K ∧ K ≤ 7 ∧ 0 ≤ n ∧ n ≤ 72057594037927936 ∧ P + K ≤ x.Heap.Bytes.length from ⟨by omega, by omega, y3, by omega, by omega⟩)
  rw [c1, hP] at hsp
  clear z1 z4 z5 z6 z7 z8 y3 y4 HV hbl hP c1 c2 y1 y2 h72
  have B_a : Box ((w.alloc (.cells #[.slice H.Heap.Bytes.a H.Heap.Bytes.len H.Heap.Bytes.cap, .slice H.Heap.Class.a H.Heap.Class.len H.Heap.Class.cap, .slice H.Lists.Global.a H.Lists.Global.len H.Lists.Global.cap, .slice H.Lists.Own.a H.Lists.Own.len H.Lists.Own.cap] 31)).alloc (.cells #[.slice none 0 0, .slice none 0 0, .slice none 0 0, .slice none 0 0] 31)) (w.heap.size) [.slice H.Heap.Bytes.a H.Heap.Bytes.len H.Heap.Bytes.cap, .slice H.Heap.Class.a H.Heap.Class.len H.Heap.Class.cap, .slice H.Lists.Global.a H.Lists.Global.len H.Lists.Global.cap, .slice H.Lists.Own.a H.Lists.Own.len H.Lists.Own.cap] := by
    have hbx := Box.new w #[.slice H.Heap.Bytes.a H.Heap.Bytes.len H.Heap.Bytes.cap, .slice H.Heap.Class.a H.Heap.Class.len H.Heap.Class.cap, .slice H.Lists.Global.a H.Lists.Global.len H.Lists.Global.cap, .slice H.Lists.Own.a H.Lists.Own.len H.Lists.Own.cap] 31
    exact (hbx).alloc _
  have B_r : Box ((w.alloc (.cells #[.slice H.Heap.Bytes.a H.Heap.Bytes.len H.Heap.Bytes.cap, .slice H.Heap.Class.a H.Heap.Class.len H.Heap.Class.cap, .slice H.Lists.Global.a H.Lists.Global.len H.Lists.Global.cap, .slice H.Lists.Own.a H.Lists.Own.len H.Lists.Own.cap] 31)).alloc (.cells #[.slice none 0 0, .slice none 0 0, .slice none 0 0, .slice none 0 0] 31)) (w.heap.size + 1) [.slice none 0 0, .slice none 0 0, .slice none 0 0, .slice none 0 0] := by
    have hbx := Box.new (w.alloc (.cells #[.slice H.Heap.Bytes.a H.Heap.Bytes.len H.Heap.Bytes.cap, .slice H.Heap.Class.a H.Heap.Class.len H.Heap.Class.cap, .slice H.Lists.Global.a H.Lists.Global.len H.Lists.Global.cap, .slice H.Lists.Own.a H.Lists.Own.len H.Lists.Own.cap] 31)) #[.slice none 0 0, .slice none 0 0, .slice none 0 0, .slice none 0 0] 31
    simp only [World.size_alloc] at hbx
    exact hbx
  have hB : Below w.heap.size w ((w.alloc (.cells #[.slice H.Heap.Bytes.a H.Heap.Bytes.len H.Heap.Bytes.cap, .slice H.Heap.Class.a H.Heap.Class.len H.Heap.Class.cap, .slice H.Lists.Global.a H.Lists.Global.len H.Lists.Global.cap, .slice H.Lists.Own.a H.Lists.Own.len H.Lists.Own.cap] 31)).alloc (.cells #[.slice none 0 0, .slice none 0 0, .slice none 0 0, .slice none 0 0] 31)) := by repeat (first | exact Below.refl _ _ | refine Below.alloc ?_ (by simp <;> omega) _ | refine below_grow_of ?_ (by simp <;> omega) _ _ | refine Below.drew ?_ | refine below_drewN ?_ _)
  go_enter Tryz.func25, Tryz.ntmps25
  go_wp2_with fail
  generalize hW0 : ((w.alloc (.cells #[.slice H.Heap.Bytes.a H.Heap.Bytes.len H.Heap.Bytes.cap, .slice H.Heap.Class.a H.Heap.Class.len H.Heap.Class.cap, .slice H.Lists.Global.a H.Lists.Global.len H.Lists.Global.cap, .slice H.Lists.Own.a H.Lists.Own.len H.Lists.Own.cap] 31)).alloc (.cells #[.slice none 0 0, .slice none 0 0, .slice none 0 0, .slice none 0 0] 31)) = w0 at B_a B_r hB ⊢
  clear hW0
  have zz_a := B_a.lt
  have zz_r := B_r.lt
  have q_a_0 := B_a.cell 0 _ rfl
  have q_a_1 := B_a.cell 1 _ rfl
  have q_a_2 := B_a.cell 2 _ rfl
  have q_a_3 := B_a.cell 3 _ rfl
  have fr_a := B_a.fro
  have z_a := B_a.lt
  have q_r_0 := B_r.cell 0 _ rfl
  have q_r_1 := B_r.cell 1 _ rfl
  have q_r_2 := B_r.cell 2 _ rfl
  have q_r_3 := B_r.cell 3 _ rfl
  have fr_r := B_r.fro
  have z_r := B_r.lt
  refine (l9Copy_spec _ H x (rdMem_up h hB) hs).mono ?_
  rintro e w1 ⟨K_c, rfl, o_c, l_c, hb⟩
  have u_c := o_c.lt
  replace B_a := B_a.below hb
  replace B_r := B_r.below hb
  replace hB := hB.trans (hb.mono hB.size)
  have sz := hb.size
  clear hb
  replace q_a_0 := B_a.cell 0 _ rfl
  replace q_a_1 := B_a.cell 1 _ rfl
  replace q_a_2 := B_a.cell 2 _ rfl
  replace q_a_3 := B_a.cell 3 _ rfl
  replace fr_a := B_a.fro
  replace z_a := B_a.lt
  replace q_r_0 := B_r.cell 0 _ rfl
  replace q_r_1 := B_r.cell 1 _ rfl
  replace q_r_2 := B_r.cell 2 _ rfl
  replace q_r_3 := B_r.cell 3 _ rfl
  replace fr_r := B_r.fro
  replace z_r := B_r.lt
  go_wp2_with fail
  refine (hsp _ (hB.alloc hB.size _)).mono ?_
  rintro e w2 ⟨rfl, hb⟩
  replace B_a := (B_a.alloc _).below hb
  replace B_r := (B_r.alloc _).below hb
  have o_c := o_c.step hb
  replace hB := below_step hB hb hB.size
  have sz := hb.size
  simp only [World.size_alloc] at sz
  have B_o := (Box.new w1 #[.slice K_c.Heap.Bytes.a K_c.Heap.Bytes.len K_c.Heap.Bytes.cap, .slice K_c.Heap.Class.a K_c.Heap.Class.len K_c.Heap.Class.cap, .slice K_c.Lists.Global.a K_c.Lists.Global.len K_c.Lists.Global.cap, .slice K_c.Lists.Own.a K_c.Lists.Own.len K_c.Lists.Own.cap] 31).below hb
  have zz_o := B_o.lt
  clear hb
  replace q_a_0 := B_a.cell 0 _ rfl
  replace q_a_1 := B_a.cell 1 _ rfl
  replace q_a_2 := B_a.cell 2 _ rfl
  replace q_a_3 := B_a.cell 3 _ rfl
  replace fr_a := B_a.fro
  replace z_a := B_a.lt
  replace q_r_0 := B_r.cell 0 _ rfl
  replace q_r_1 := B_r.cell 1 _ rfl
  replace q_r_2 := B_r.cell 2 _ rfl
  replace q_r_3 := B_r.cell 3 _ rfl
  replace fr_r := B_r.fro
  replace z_r := B_r.lt
  have q_o_0 := B_o.cell 0 _ rfl
  have q_o_1 := B_o.cell 1 _ rfl
  have q_o_2 := B_o.cell 2 _ rfl
  have q_o_3 := B_o.cell 3 _ rfl
  have fr_o := B_o.fro
  have z_o := B_o.lt
  clear hsp
  go_wp2_with fail
  refine (hq _).mono ?_
  rintro e w3 ⟨t, rfl, ht, hb⟩
  replace B_a := B_a.below hb
  replace B_r := B_r.below hb
  replace B_o := B_o.below hb
  replace o_c := o_c.step0 hb
  replace hB := hB.trans (hb.mono hB.size)
  have sz := hb.size
  clear hb
  replace q_a_0 := B_a.cell 0 _ rfl
  replace q_a_1 := B_a.cell 1 _ rfl
  replace q_a_2 := B_a.cell 2 _ rfl
  replace q_a_3 := B_a.cell 3 _ rfl
  replace fr_a := B_a.fro
  replace z_a := B_a.lt
  replace q_r_0 := B_r.cell 0 _ rfl
  replace q_r_1 := B_r.cell 1 _ rfl
  replace q_r_2 := B_r.cell 2 _ rfl
  replace q_r_3 := B_r.cell 3 _ rfl
  replace fr_r := B_r.fro
  replace z_r := B_r.lt
  replace q_o_0 := B_o.cell 0 _ rfl
  replace q_o_1 := B_o.cell 1 _ rfl
  replace q_o_2 := B_o.cell 2 _ rfl
  replace q_o_3 := B_o.cell 3 _ rfl
  replace fr_o := B_o.fro
  replace z_o := B_o.lt
  clear hq
  go_wp2_with fail
  refine (l3Store_spec _ _ x.Heap.Bytes P K n (show OwL FI 3 _ (.slice K_c.Heap.Bytes.a K_c.Heap.Bytes.len K_c.Heap.Bytes.cap) x.Heap.Bytes from o_c.Heap.Bytes) HA.out.1 HA.out.2.1 HA.out.2.2.1 HA.out.2.2.2.1 HA.out.2.2.2.2).mono ?_
  rintro e w4 ⟨rfl, hbN, hx⟩
  replace hB := hB.trans (hx.below hB.size (fun g hm => by have := l_c g (HMem.bytes_foot hm); omega))
  have sz := hx.size
  replace B_a := B_a.chg hx (fun hm => by have := l_c _ (HMem.bytes_foot hm); have := u_c _ (HMem.bytes_foot hm); omega)
  replace B_r := B_r.chg hx (fun hm => by have := l_c _ (HMem.bytes_foot hm); have := u_c _ (HMem.bytes_foot hm); omega)
  replace B_o := B_o.chg hx (fun hm => by have := l_c _ (HMem.bytes_foot hm); have := u_c _ (HMem.bytes_foot hm); omega)
  replace o_c := (show OwMem _ K_c { x with Heap := { x.Heap with Bytes := putAt x.Heap.Bytes P (digs K n) } } from o_c.setBytes hbN hx)
  clear hx
  replace q_a_0 := B_a.cell 0 _ rfl
  replace q_a_1 := B_a.cell 1 _ rfl
  replace q_a_2 := B_a.cell 2 _ rfl
  replace q_a_3 := B_a.cell 3 _ rfl
  replace fr_a := B_a.fro
  replace z_a := B_a.lt
  replace q_r_0 := B_r.cell 0 _ rfl
  replace q_r_1 := B_r.cell 1 _ rfl
  replace q_r_2 := B_r.cell 2 _ rfl
  replace q_r_3 := B_r.cell 3 _ rfl
  replace fr_r := B_r.fro
  replace z_r := B_r.lt
  replace q_o_0 := B_o.cell 0 _ rfl
  replace q_o_1 := B_o.cell 1 _ rfl
  replace q_o_2 := B_o.cell 2 _ rfl
  replace q_o_3 := B_o.cell 3 _ rfl
  replace fr_o := B_o.fro
  replace z_o := B_o.lt
  go_wp2_with fail
  refine bodyPost_ret (v := .tuple #[.agg #[.slice K_c.Heap.Bytes.a K_c.Heap.Bytes.len K_c.Heap.Bytes.cap, .slice K_c.Heap.Class.a K_c.Heap.Class.len K_c.Heap.Class.cap, .slice K_c.Lists.Global.a K_c.Lists.Global.len K_c.Lists.Global.cap, .slice K_c.Lists.Own.a K_c.Lists.Own.len K_c.Lists.Own.cap], .int .i64 0]) (by simp [results, Tryz.results25, go_sem, q_r_0, q_r_1, q_r_2, q_r_3]) rfl ⟨K_c, by rw [HP.out], by rw [HP.out]; exact o_c.chg (F := [w.heap.size + 1, w1.heap.size]) (by repeat (first | exact Chg.refl _ _ | refine Chg.set_ ?_ (by simp) _ | refine Chg.alloc_ ?_ _ | refine Chg.drew_ ?_)) (fun g hg hm => by simp only [List.mem_cons, List.not_mem_nil, or_false] at hm; have := l_c g hg; have := u_c g hg; omega), fun g hg => by have := l_c g hg; omega, Below.trans hB (by repeat (first | exact Below.refl _ _ | refine Below.setCell ?_ (by simp <;> omega) _ | refine Below.alloc ?_ (by simp <;> omega) _ | refine Below.drew ?_))⟩
end Go.Proofs.YtkmggglljkmjoaaGreat

/-
  slices.Repeat: the contract.
-/
namespace Go.Proofs.YtkmggglljkmjoaaGreat
open Go.RowKit
end Go.Proofs.YtkmggglljkmjoaaGreat

/-
  New heaps of the program: the contract.
-/
namespace Go.Proofs.YtkmggglljkmjoaaGreat
open Go.RowKit

end Go.Proofs.YtkmggglljkmjoaaGreat

/-
  New clocks, limbo lists, hazards: the contracts.
-/
namespace Go.Proofs.YtkmggglljkmjoaaGreat
open Go.RowKit
end Go.Proofs.YtkmggglljkmjoaaGreat
/-
  New bases: the contracts.
-/
namespace Go.Proofs.YtkmggglljkmjoaaGreat
open Go.RowKit
set_option maxRecDepth 100000 in
set_option maxHeartbeats 1000000 in
theorem MemNew_spec (w : World) : Calls Tryz.prog 192 #[] w fun e w' => ∃ H' : HMem, e = .returned (H'.val newMem) ∧ OwMem w' H' newMem ∧ (∀ g ∈ H'.foot, w.heap.size ≤ g) ∧ Below w.heap.size w w' := by
  have B_r : Box (w.alloc (.cells #[.slice none 0 0, .slice none 0 0, .slice none 0 0, .slice none 0 0] 31)) (w.heap.size) [.slice none 0 0, .slice none 0 0, .slice none 0 0, .slice none 0 0] := by
    have hbx := Box.new w #[.slice none 0 0, .slice none 0 0, .slice none 0 0, .slice none 0 0] 31
    exact hbx
  have hB : Below w.heap.size w (w.alloc (.cells #[.slice none 0 0, .slice none 0 0, .slice none 0 0, .slice none 0 0] 31)) := by repeat (first | exact Below.refl _ _ | refine Below.alloc ?_ (by simp <;> omega) _ | refine below_grow_of ?_ (by simp <;> omega) _ _ | refine Below.drew ?_ | refine below_drewN ?_ _)
  go_enter Tryz.func192, Tryz.ntmps192
  go_wp2_with fail
  generalize hW0 : (w.alloc (.cells #[.slice none 0 0, .slice none 0 0, .slice none 0 0, .slice none 0 0] 31)) = w0 at B_r hB ⊢
  clear hW0
  have zz_r := B_r.lt
  have q_r_0 := B_r.cell 0 _ rfl
  have q_r_1 := B_r.cell 1 _ rfl
  have q_r_2 := B_r.cell 2 _ rfl
  have q_r_3 := B_r.cell 3 _ rfl
  have fr_r := B_r.fro
  have z_r := B_r.lt
  refine (HeapNew_spec _).mono ?_
  rintro e w1 ⟨Hh, rfl, o_h, l_h, hb⟩
  have u_h := o_h.lt
  replace B_r := B_r.below hb
  replace hB := hB.trans (hb.mono hB.size)
  have sz := hb.size
  clear hb
  replace q_r_0 := B_r.cell 0 _ rfl
  replace q_r_1 := B_r.cell 1 _ rfl
  replace q_r_2 := B_r.cell 2 _ rfl
  replace q_r_3 := B_r.cell 3 _ rfl
  replace fr_r := B_r.fro
  replace z_r := B_r.lt
  go_wp2_with fail
  refine (ListsNew_spec _).mono ?_
  rintro e w2 ⟨Hl, rfl, o_l, l_l, hb⟩
  have u_l := o_l.lt
  replace B_r := B_r.below hb
  have o_h := o_h.step0 hb
  replace hB := hB.trans (hb.mono hB.size)
  have sz := hb.size
  clear hb
  replace q_r_0 := B_r.cell 0 _ rfl
  replace q_r_1 := B_r.cell 1 _ rfl
  replace q_r_2 := B_r.cell 2 _ rfl
  replace q_r_3 := B_r.cell 3 _ rfl
  replace fr_r := B_r.fro
  replace z_r := B_r.lt
  go_wp2_with fail
  refine bodyPost_ret (v := (⟨Hh, Hl⟩ : HMem).val newMem) (by simp [results, Tryz.results192, go_sem, q_r_0, q_r_1, q_r_2, q_r_3]) rfl ⟨⟨Hh, Hl⟩, rfl, ⟨o_h.chg (F := [w.heap.size]) (by repeat (first | with_reducible exact Chg.refl _ _ | with_reducible refine Chg.set_ ?_ (by simp) _ | with_reducible refine Chg.alloc_ ?_ _ | with_reducible refine Chg.drew_ ?_)) (fun g hg hm => by simp only [List.mem_cons, List.not_mem_nil, or_false] at hm; have := l_h g hg; have := u_h g hg; omega), o_l.chg (F := [w.heap.size]) (by repeat (first | with_reducible exact Chg.refl _ _ | with_reducible refine Chg.set_ ?_ (by simp) _ | with_reducible refine Chg.alloc_ ?_ _ | with_reducible refine Chg.drew_ ?_)) (fun g hg hm => by simp only [List.mem_cons, List.not_mem_nil, or_false] at hm; have := l_l g hg; have := u_l g hg; omega), fun b hb hm => by have := l_l b hm; have := u_h b hb; omega⟩, fun b hb => by rcases HMem.mem_foot.1 hb with hb | hb; (have := l_h b hb; omega); (have := l_l b hb; omega), Below.trans hB (by repeat (first | with_reducible exact Below.refl _ _ | with_reducible refine Below.setCell ?_ (by simp <;> omega) _ | with_reducible refine Below.alloc ?_ (by simp <;> omega) _ | with_reducible refine Below.drew ?_))⟩

end Go.Proofs.YtkmggglljkmjoaaGreat

