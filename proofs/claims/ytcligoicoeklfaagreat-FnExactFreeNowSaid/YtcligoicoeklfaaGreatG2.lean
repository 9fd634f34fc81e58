/-
  A slot given back: the contract.
-/
import Derived.Test.YtcligoicoeklfaaGreatT
import Derived.Test.YtcligoicoeklfaaGreatL
import Derived.Deep.QuietTactic
import Derived.BigQuiet
import Derived.Deep.LoopGhost
import Derived.Deep.RegionHeld3
import Derived.Test.YtcligoicoeklfaaGreatN
import Derived.Test.YtcligoicoeklfaaGreatA
import Derived.WalkSpells
import Derived.Laws.Cover3
import Derived.Test.YtcligoicoeklfaaGreatG1
namespace Go.Proofs.YtcligoicoeklfaaGreat
open Go.RowKit

theorem giveL_own {x : Lists} {k c : Nat} {s : Int} {l : List Int} (hl : x.Own[k]? = some l) (h : l.length < 2) : giveL x k c s = { x with Own := x.Own.set k (l ++ [s]) } := by
  have e : x.Own.getD k [] = l := by simp [List.getD, hl]
  unfold giveL
  rw [e, if_pos h]
theorem giveL_glob {x : Lists} {k c : Nat} {s : Int} {l r : List Int} (hl : x.Own[k]? = some l) (h : ¬ l.length < 2) (hr : x.Global[c]? = some r) : giveL x k c s = { x with Global := x.Global.set c (r ++ [s]) } := by
  have e : x.Own.getD k [] = l := by simp [List.getD, hl]
  have e2 : x.Global.getD c [] = r := by simp [List.getD, hr]
  unfold giveL
  rw [e, if_neg h, e2]
theorem giveP_len {x : Lists} (h : listsOkB x = true) : x.Global.length = 3 ∧ x.Own.length = 9 := lists_len h

set_option maxRecDepth 100000 in
set_option maxHeartbeats 4000000 in
theorem Give_yes (w : World) (H : HLists) (x : Lists) (wk c : Nat) (s : Int) (h : RdLists w w.heap.size H x) (hs : sizeLists x ≤ 536870912) (hok : listsOkB x = true) (hw : wk < 3) (hc : c < 3) (hsl : inB 0 23 s = true) (hno : onListB x s = false) :
    Calls Tryz.prog 82 #[.agg #[.slice H.Global.a H.Global.len H.Global.cap, .slice H.Own.a H.Own.len H.Own.cap], .int .i64 wk, .int .i64 c, .int .i64 s] w fun e w' => ∃ H' : HLists, e = .returned (.tuple #[.agg #[.slice H'.Global.a H'.Global.len H'.Global.cap, .slice H'.Own.a H'.Own.len H'.Own.cap], .bool true]) ∧ OwLists w' H' (giveL x (wk * 3 + c) c s) ∧ (∀ g ∈ H'.foot, w.heap.size ≤ g) ∧ Below w.heap.size w w' := by
  obtain ⟨hl3, hl9⟩ := lists_len hok
  have H3 := Hid.mk_ hl3
  have H9 := Hid.mk_ hl9
  have HSZ := Hid.mk_ (show ∀ l, l ∈ x.Own ∨ l ∈ x.Global → l.length ≤ 536870912 from fun l hl => by
    unfold sizeLists at hs
    rcases hl with hl | hl
    · have := le_szLL hl
      omega
    · have := le_szLL hl
      omega)
  obtain ⟨lo, hlo⟩ : ∃ l, x.Own[wk * 3 + c]? = some l := ⟨_, List.getElem?_eq_getElem (by omega)⟩
  obtain ⟨lg, hlg⟩ : ∃ l, x.Global[c]? = some l := ⟨_, List.getElem?_eq_getElem (by omega)⟩
  have HO := Hid.mk_ hlo
  have HG := Hid.mk_ hlg
  have hso := HSZ.out lo (.inl (List.mem_of_getElem? hlo))
  have hsg := HSZ.out lg (.inr (List.mem_of_getElem? hlg))
  have hoa := fun W => OwnAt_impl wk c hw hc W
  have hk9 : wk * 3 + c < x.Own.length := by omega
  have hc3 : c < x.Global.length := by omega
  have HK9 := Hid.mk_ hk9
  have HC3 := Hid.mk_ hc3
  clear hl3 hl9 hlo hlg hk9 hc3
  obtain ⟨k, hk⟩ : ∃ k, k = wk * 3 + c := ⟨_, rfl⟩
  rw [← hk] at hoa HO HK9 ⊢
  clear hk
  have B_a : Box ((w.alloc (.cells #[.slice H.Global.a H.Global.len H.Global.cap, .slice H.Own.a H.Own.len H.Own.cap] 34)).alloc (.cells #[.slice none 0 0, .slice none 0 0] 34)) (w.heap.size) [.slice H.Global.a H.Global.len H.Global.cap, .slice H.Own.a H.Own.len H.Own.cap] := by
    have hbx := Box.new w #[.slice H.Global.a H.Global.len H.Global.cap, .slice H.Own.a H.Own.len H.Own.cap] 34
    exact (hbx).alloc _
  have B_r : Box ((w.alloc (.cells #[.slice H.Global.a H.Global.len H.Global.cap, .slice H.Own.a H.Own.len H.Own.cap] 34)).alloc (.cells #[.slice none 0 0, .slice none 0 0] 34)) (w.heap.size + 1) [.slice none 0 0, .slice none 0 0] := by
    have hbx := Box.new (w.alloc (.cells #[.slice H.Global.a H.Global.len H.Global.cap, .slice H.Own.a H.Own.len H.Own.cap] 34)) #[.slice none 0 0, .slice none 0 0] 34
    simp only [World.size_alloc] at hbx
    exact hbx
  have hB : Below w.heap.size w ((w.alloc (.cells #[.slice H.Global.a H.Global.len H.Global.cap, .slice H.Own.a H.Own.len H.Own.cap] 34)).alloc (.cells #[.slice none 0 0, .slice none 0 0] 34)) := by repeat (first | exact Below.refl _ _ | refine Below.alloc ?_ (by simp <;> omega) _ | refine below_grow_of ?_ (by simp <;> omega) _ _ | refine Below.drew ?_ | refine below_drewN ?_ _)
  go_enter Tryz.func82, Tryz.ntmps82
  go_wp2_with fail
  generalize hW0 : ((w.alloc (.cells #[.slice H.Global.a H.Global.len H.Global.cap, .slice H.Own.a H.Own.len H.Own.cap] 34)).alloc (.cells #[.slice none 0 0, .slice none 0 0] 34)) = w0 at B_a B_r hB ⊢
  clear hW0
  have zz_a := B_a.lt
  have zz_r := B_r.lt
  have q_a_0 := B_a.cell 0 _ rfl
  have q_a_1 := B_a.cell 1 _ rfl
  have fr_a := B_a.fro
  have z_a := B_a.lt
  have q_r_0 := B_r.cell 0 _ rfl
  have q_r_1 := B_r.cell 1 _ rfl
  have fr_r := B_r.fro
  have z_r := B_r.lt
  refine (copyLists_impl _ H x (rdLists_up h hB) hs).mono ?_
  rintro e w1 ⟨K_c, rfl, o_c, l_c, hb⟩
  have u_c := o_c.lt
  replace B_a := B_a.below hb
  replace B_r := B_r.below hb
  replace hB := hB.trans (hb.mono hB.size)
  have sz := hb.size
  clear hb
  replace q_a_0 := B_a.cell 0 _ rfl
  replace q_a_1 := B_a.cell 1 _ rfl
  replace fr_a := B_a.fro
  replace z_a := B_a.lt
  replace q_r_0 := B_r.cell 0 _ rfl
  replace q_r_1 := B_r.cell 1 _ rfl
  replace fr_r := B_r.fro
  replace z_r := B_r.lt
  obtain ⟨⟨A1, n1, p1⟩, T1, ⟨A2, n2, p2⟩, T2⟩ := K_c
  obtain ⟨g1, c1, hv1, hg1⟩ := OwLL.at_form (v := .slice A1 n1 p1) o_c.Global (by rw [H3.out]; decide)
  obtain ⟨g2, c2, hv2, hg2⟩ := OwLL.at_form (v := .slice A2 n2 p2) o_c.Own (by rw [H9.out]; decide)
  injection hv1 with i1 i2 i3
  injection hv2 with j1 j2 j3
  subst i1 i2 i3 j1 j2 j3
  have fg1 : g1 ∈ HLists.foot ⟨⟨some ⟨g1, 0, none⟩, x.Global.length, p1⟩, T1, ⟨some ⟨g2, 0, none⟩, x.Own.length, p2⟩, T2⟩ := HLists.mem_foot.2 (.inl (mem_foot2.2 (.inl rfl)))
  have fg2 : g2 ∈ HLists.foot ⟨⟨some ⟨g1, 0, none⟩, x.Global.length, p1⟩, T1, ⟨some ⟨g2, 0, none⟩, x.Own.length, p2⟩, T2⟩ := HLists.mem_foot.2 (.inr (mem_foot2.2 (.inl rfl)))
  have lg1 := l_c _ fg1
  have lg2 := l_c _ fg2
  clear fg1 fg2
  go_wp2_with (go_at_call 99; refine (hoa _).mono ?_; rintro e wv ⟨rfl, rfl⟩)
  clear hoa
  replace B_a := B_a.alloc (.cells #[.slice (some ⟨g1, 0, none⟩) x.Global.length p1, .slice (some ⟨g2, 0, none⟩) x.Own.length p2] 34)
  replace B_r := B_r.alloc (.cells #[.slice (some ⟨g1, 0, none⟩) x.Global.length p1, .slice (some ⟨g2, 0, none⟩) x.Own.length p2] 34)
  replace o_c := o_c.alloc_ (.cells #[.slice (some ⟨g1, 0, none⟩) x.Global.length p1, .slice (some ⟨g2, 0, none⟩) x.Own.length p2] 34)
  replace hB := hB.alloc hB.size (.cells #[.slice (some ⟨g1, 0, none⟩) x.Global.length p1, .slice (some ⟨g2, 0, none⟩) x.Own.length p2] 34)
  have B_o : Box (w1.alloc (.cells #[.slice (some ⟨g1, 0, none⟩) x.Global.length p1, .slice (some ⟨g2, 0, none⟩) x.Own.length p2] 34)) w1.heap.size [.slice (some ⟨g1, 0, none⟩) x.Global.length p1, .slice (some ⟨g2, 0, none⟩) x.Own.length p2] := Box.new w1 #[.slice (some ⟨g1, 0, none⟩) x.Global.length p1, .slice (some ⟨g2, 0, none⟩) x.Own.length p2] 34
  have zz_o := B_o.lt
  have sz : w1.heap.size ≤ (w1.alloc (.cells #[.slice (some ⟨g1, 0, none⟩) x.Global.length p1, .slice (some ⟨g2, 0, none⟩) x.Own.length p2] 34)).heap.size := Nat.le_of_lt B_o.lt
  generalize hG : (w1.alloc (.cells #[.slice (some ⟨g1, 0, none⟩) x.Global.length p1, .slice (some ⟨g2, 0, none⟩) x.Own.length p2] 34)) = w2 at B_a B_r o_c hB B_o zz_o sz ⊢
  clear hG
  replace q_a_0 := B_a.cell 0 _ rfl
  replace q_a_1 := B_a.cell 1 _ rfl
  replace fr_a := B_a.fro
  replace z_a := B_a.lt
  replace q_r_0 := B_r.cell 0 _ rfl
  replace q_r_1 := B_r.cell 1 _ rfl
  replace fr_r := B_r.fro
  replace z_r := B_r.lt
  have q_o_0 := B_o.cell 0 _ rfl
  have q_o_1 := B_o.cell 1 _ rfl
  have fr_o := B_o.fro
  have z_o := B_o.lt
  refine (ListsOk_impl _ H x (rdLists_up h hB)).mono ?_
  rw [hok]
  rintro e w3 ⟨rfl, hb⟩
  replace B_a := B_a.below hb
  replace B_r := B_r.below hb
  replace B_o := B_o.below hb
  have o_c := o_c.step0 hb
  replace hB := hB.trans (hb.mono hB.size)
  have sz := hb.size
  clear hb
  replace q_a_0 := B_a.cell 0 _ rfl
  replace q_a_1 := B_a.cell 1 _ rfl
  replace fr_a := B_a.fro
  replace z_a := B_a.lt
  replace q_r_0 := B_r.cell 0 _ rfl
  replace q_r_1 := B_r.cell 1 _ rfl
  replace fr_r := B_r.fro
  replace z_r := B_r.lt
  replace q_o_0 := B_o.cell 0 _ rfl
  replace q_o_1 := B_o.cell 1 _ rfl
  replace fr_o := B_o.fro
  replace z_o := B_o.lt
  clear hok
  go_wp2_with (go_at_call 121; refine (isSlot_ct _ _).mono ?_; rw [hsl]; rintro e wv ⟨rfl, rfl⟩)
  refine (OnList_impl _ H x s (rdLists_up h hB)).mono ?_
  rw [hno]
  rintro e w4 ⟨rfl, hb⟩
  replace B_a := B_a.below hb
  replace B_r := B_r.below hb
  replace B_o := B_o.below hb
  replace o_c := o_c.step0 hb
  replace hB := hB.trans (hb.mono hB.size)
  have sz := hb.size
  clear hb
  replace q_a_0 := B_a.cell 0 _ rfl
  replace q_a_1 := B_a.cell 1 _ rfl
  replace fr_a := B_a.fro
  replace z_a := B_a.lt
  replace q_r_0 := B_r.cell 0 _ rfl
  replace q_r_1 := B_r.cell 1 _ rfl
  replace fr_r := B_r.fro
  replace z_r := B_r.lt
  replace q_o_0 := B_o.cell 0 _ rfl
  replace q_o_1 := B_o.cell 1 _ rfl
  replace fr_o := B_o.fro
  replace z_o := B_o.lt
  clear hno hsl
  by_cases hlen : lo.length < 2
  · have HLEN := Hid.mk_ hlen
    obtain ⟨so, hso2⟩ : ∃ q, T2[k]? = some q := ⟨_, List.getElem?_eq_getElem (by rw [o_c.Own.len]; exact HK9.out)⟩
    have ino := o_c.Own.inner k so _ hso2 HO.out
    have po := o_c.Own.outer.cell_ (j := 0) hso2 (by decide)
    simp only [FS, Nat.mul_one, Nat.add_zero] at po
    obtain ⟨Ao, co, hvo, _⟩ := ino.rd'
    obtain ⟨ao, no, bo⟩ := so
    injection hvo with k1 k2 k3
    subst k1 k2 k3
    have po2 : _ = some (Value.slice ao lo.length bo) := po
    clear po
    have ff := o_c.Own.outer.frozen_ k
    have HV := Hid.mk_ hso2
    have HNE := Hid.mk_ (OwLL.head_ne (g := g2) (n := x.Own.length) (c := p2) o_c.Own hso2)
    have hkk : k < x.Own.length := HK9.out
    have z_g : g2 < w4.heap.size := by omega
    have n_a : g2 ≠ w.heap.size := by omega
    have n_r : g2 ≠ w.heap.size + 1 := by omega
    have n_o : g2 ≠ w1.heap.size := by omega
    have m_a : w.heap.size ≠ g2 := by omega
    have m_r : w.heap.size + 1 ≠ g2 := by omega
    have m_o : w1.heap.size ≠ g2 := by omega
    have HSF := Hid.mk_ (show ∀ b ∈ foot1 (SV.val ⟨ao, lo.length, bo⟩), b ∈ foot2 (.slice (some ⟨g2, 0, none⟩) x.Own.length p2) T2 from fun b hb => mem_foot2.2 (.inr ⟨_, List.mem_of_getElem? HV.out, mem_foot1.1 hb⟩))
    have HFT := Hid.mk_ (show ∀ b ∈ foot1 (SV.val ⟨ao, lo.length, bo⟩), b ∈ HLists.foot ⟨⟨some ⟨g1, 0, none⟩, x.Global.length, p1⟩, T1, ⟨some ⟨g2, 0, none⟩, x.Own.length, p2⟩, T2⟩ from fun b hb => HLists.mem_foot.2 (.inr (HSF.out b hb)))
    go_wp2_with (at_builtin; refine wpList_append_flat Tryz.stInt rfl _ _ rfl (v := .slice ao lo.length bo) (y := .slice (some ⟨w4.heap.size, 0, none⟩) 1 1) (l := lo) (m := [s]) rfl rfl (OwL.alloc_ (show OwL FI 3 w4 (.slice ao lo.length bo) lo from ino) _) (OwL.lit FI [s] #[.int .i64 s] rfl (by simp [maxLen]) w4 3).rd' (by simp; omega) ?_; intro v9 w9 ho9 hg9 hat9; obtain ⟨A9, c9, hv9, _⟩ := ho9.rd'; simp only [List.length_append, List.length_singleton] at hv9; subst hv9; have hx := Chg.of_grown hg9; have hsz9 := hx.size; simp only [World.size_alloc] at hsz9; have ff9 := (hx.frozen g2 k (by simp; omega) HNE.out).trans ((cell_old_frozen w4 _ g2 k z_g).trans ff); have pp9 := (hx.cell g2 k (by simp; omega) HNE.out).trans ((cell_old w4 _ g2 k z_g).trans po2); replace B_a := (B_a.alloc _).chg hx (fun hm => by have := l_c _ (HFT.out _ hm); have := u_c _ (HFT.out _ hm); omega); replace q_a_0 := B_a.cell 0 _ rfl; replace q_a_1 := B_a.cell 1 _ rfl; replace fr_a := B_a.fro; replace z_a := B_a.lt; replace B_r := (B_r.alloc _).chg hx (fun hm => by have := l_c _ (HFT.out _ hm); have := u_c _ (HFT.out _ hm); omega); replace q_r_0 := B_r.cell 0 _ rfl; replace q_r_1 := B_r.cell 1 _ rfl; replace fr_r := B_r.fro; replace z_r := B_r.lt; replace B_o := (B_o.alloc _).chg hx (fun hm => by have := l_c _ (HFT.out _ hm); have := u_c _ (HFT.out _ hm); omega); replace q_o_0 := B_o.cell 0 _ rfl; replace q_o_1 := B_o.cell 1 _ rfl; replace fr_o := B_o.fro; replace z_o := B_o.lt)
    have hN := OwLL.app_row (s' := ⟨A9, lo.length + 1, c9⟩) (o_c.Own.alloc_ _) HV.out ho9 hg9 hat9
    have hfN := app_foot (B := w0.heap.size) (s' := ⟨A9, lo.length + 1, c9⟩) HV.out hat9 (by simp; omega) (fun b hb => l_c b (HLists.mem_foot.2 (.inr hb)))
    have hO : OwLL FI 3 80 _ _ _ x.Global := ((o_c.Global.alloc_ (.cells #[.int .i64 s] 3)).chg hx (fun b hb hm => o_c.d01 b hb (HSF.out b hm))).chg (F := [g2]) ((Chg.refl _ w9).set_ (g := g2) (i := k) (by simp) (SV.val ⟨A9, lo.length + 1, c9⟩)) (fun b hb hm => by simp only [List.mem_cons, List.not_mem_nil, or_false] at hm; subst hm; exact o_c.d01 b hb (mem_foot2.2 (.inl rfl)))
    have uO := (o_c.Global).lt
    refine bodyPost_ret (v := .tuple #[.agg #[.slice (some ⟨g1, 0, none⟩) x.Global.length p1, .slice (some ⟨g2, 0, none⟩) x.Own.length p2], .bool true]) (by simp [results, Tryz.results82, go_sem, q_r_0, q_r_1]) rfl ⟨⟨⟨some ⟨g1, 0, none⟩, x.Global.length, p1⟩, T1, ⟨some ⟨g2, 0, none⟩, x.Own.length, p2⟩, T2.set k ⟨A9, lo.length + 1, c9⟩⟩, rfl, by rw [giveL_own HO.out HLEN.out]; exact ⟨hO.chg (F := [w.heap.size + 1]) (by repeat (first | exact Chg.refl _ _ | refine Chg.set_ ?_ (by simp) _ | refine Chg.alloc_ ?_ _ | refine Chg.drew_ ?_)) (fun g hg hm => by simp only [List.mem_cons, List.not_mem_nil, or_false] at hm; have := l_c _ (HLists.mem_foot.2 (.inl hg)); omega), hN.chg (F := [w.heap.size + 1]) (by repeat (first | exact Chg.refl _ _ | refine Chg.set_ ?_ (by simp) _ | refine Chg.alloc_ ?_ _ | refine Chg.drew_ ?_)) (fun g hg hm => by simp only [List.mem_cons, List.not_mem_nil, or_false] at hm; have := hfN _ hg; omega), fun b hb hm => by rcases foot2_set hm with hm | hm; (exact o_c.d01 b hb hm); (rcases foot_app hat9 b hm with hm | hm; (exact o_c.d01 b hb (HSF.out b hm)); (have := uO b hb; simp at hm; omega))⟩, fun b hb => ?_, ?_⟩
    · rcases HLists.mem_foot.1 hb with hb | hb
      · have := l_c b (HLists.mem_foot.2 (.inl hb))
        omega
      · have := hfN b hb
        omega
    · exact Below.trans hB (Below.trans ((Below.refl _ _).alloc hB.size _) (Below.trans (hx.below (by simp; have := hB.size; omega) (fun b hb => by have := l_c b (HFT.out b hb); omega)) (by repeat (first | exact Below.refl _ _ | refine Below.setCell ?_ (by simp <;> omega) _ | refine Below.alloc ?_ (by simp <;> omega) _ | refine Below.drew ?_))))
  · have HLEN := Hid.mk_ hlen
    obtain ⟨so, hso2⟩ : ∃ q, T2[k]? = some q := ⟨_, List.getElem?_eq_getElem (by rw [o_c.Own.len]; exact HK9.out)⟩
    have ino := o_c.Own.inner k so _ hso2 HO.out
    have po := o_c.Own.outer.cell_ (j := 0) hso2 (by decide)
    simp only [FS, Nat.mul_one, Nat.add_zero] at po
    obtain ⟨Ao, co, hvo, _⟩ := ino.rd'
    obtain ⟨ao, no, bo⟩ := so
    injection hvo with k1 k2 k3
    subst k1 k2 k3
    have po2 : _ = some (Value.slice ao lo.length bo) := po
    clear po
    obtain ⟨sg, hsg2⟩ : ∃ q, T1[c]? = some q := ⟨_, List.getElem?_eq_getElem (by rw [o_c.Global.len]; exact HC3.out)⟩
    have ing := o_c.Global.inner c sg _ hsg2 HG.out
    have pg := o_c.Global.outer.cell_ (j := 0) hsg2 (by decide)
    simp only [FS, Nat.mul_one, Nat.add_zero] at pg
    obtain ⟨Ag, cg, hvg, _⟩ := ing.rd'
    obtain ⟨ag, ng, bg⟩ := sg
    injection hvg with k1 k2 k3
    subst k1 k2 k3
    have pg2 : _ = some (Value.slice ag lg.length bg) := pg
    clear pg
    have ff := o_c.Global.outer.frozen_ c
    have HV := Hid.mk_ hsg2
    have HNE := Hid.mk_ (OwLL.head_ne (g := g1) (n := x.Global.length) (c := p1) o_c.Global hsg2)
    have hkk : c < x.Global.length := HC3.out
    have z_g : g1 < w4.heap.size := by omega
    have n_a : g1 ≠ w.heap.size := by omega
    have n_r : g1 ≠ w.heap.size + 1 := by omega
    have n_o : g1 ≠ w1.heap.size := by omega
    have m_a : w.heap.size ≠ g1 := by omega
    have m_r : w.heap.size + 1 ≠ g1 := by omega
    have m_o : w1.heap.size ≠ g1 := by omega
    have HSF := Hid.mk_ (show ∀ b ∈ foot1 (SV.val ⟨ag, lg.length, bg⟩), b ∈ foot2 (.slice (some ⟨g1, 0, none⟩) x.Global.length p1) T1 from fun b hb => mem_foot2.2 (.inr ⟨_, List.mem_of_getElem? HV.out, mem_foot1.1 hb⟩))
    have HFT := Hid.mk_ (show ∀ b ∈ foot1 (SV.val ⟨ag, lg.length, bg⟩), b ∈ HLists.foot ⟨⟨some ⟨g1, 0, none⟩, x.Global.length, p1⟩, T1, ⟨some ⟨g2, 0, none⟩, x.Own.length, p2⟩, T2⟩ from fun b hb => HLists.mem_foot.2 (.inl (HSF.out b hb)))
    go_wp2_with (at_builtin; refine wpList_append_flat Tryz.stInt rfl _ _ rfl (v := .slice ag lg.length bg) (y := .slice (some ⟨w4.heap.size, 0, none⟩) 1 1) (l := lg) (m := [s]) rfl rfl (OwL.alloc_ (show OwL FI 3 w4 (.slice ag lg.length bg) lg from ing) _) (OwL.lit FI [s] #[.int .i64 s] rfl (by simp [maxLen]) w4 3).rd' (by simp; omega) ?_; intro v9 w9 ho9 hg9 hat9; obtain ⟨A9, c9, hv9, _⟩ := ho9.rd'; simp only [List.length_append, List.length_singleton] at hv9; subst hv9; have hx := Chg.of_grown hg9; have hsz9 := hx.size; simp only [World.size_alloc] at hsz9; have ff9 := (hx.frozen g1 c (by simp; omega) HNE.out).trans ((cell_old_frozen w4 _ g1 c z_g).trans ff); have pp9 := (hx.cell g1 c (by simp; omega) HNE.out).trans ((cell_old w4 _ g1 c z_g).trans pg2); replace B_a := (B_a.alloc _).chg hx (fun hm => by have := l_c _ (HFT.out _ hm); have := u_c _ (HFT.out _ hm); omega); replace q_a_0 := B_a.cell 0 _ rfl; replace q_a_1 := B_a.cell 1 _ rfl; replace fr_a := B_a.fro; replace z_a := B_a.lt; replace B_r := (B_r.alloc _).chg hx (fun hm => by have := l_c _ (HFT.out _ hm); have := u_c _ (HFT.out _ hm); omega); replace q_r_0 := B_r.cell 0 _ rfl; replace q_r_1 := B_r.cell 1 _ rfl; replace fr_r := B_r.fro; replace z_r := B_r.lt; replace B_o := (B_o.alloc _).chg hx (fun hm => by have := l_c _ (HFT.out _ hm); have := u_c _ (HFT.out _ hm); omega); replace q_o_0 := B_o.cell 0 _ rfl; replace q_o_1 := B_o.cell 1 _ rfl; replace fr_o := B_o.fro; replace z_o := B_o.lt)
    have hN := OwLL.app_row (s' := ⟨A9, lg.length + 1, c9⟩) (o_c.Global.alloc_ _) HV.out ho9 hg9 hat9
    have hfN := app_foot (B := w0.heap.size) (s' := ⟨A9, lg.length + 1, c9⟩) HV.out hat9 (by simp; omega) (fun b hb => l_c b (HLists.mem_foot.2 (.inl hb)))
    have hO : OwLL FI 3 80 _ _ _ x.Own := ((o_c.Own.alloc_ (.cells #[.int .i64 s] 3)).chg hx (fun b hb hm => o_c.d01 b (HSF.out b hm) hb)).chg (F := [g1]) ((Chg.refl _ w9).set_ (g := g1) (i := c) (by simp) (SV.val ⟨A9, lg.length + 1, c9⟩)) (fun b hb hm => by simp only [List.mem_cons, List.not_mem_nil, or_false] at hm; subst hm; exact o_c.d01 b (mem_foot2.2 (.inl rfl)) hb)
    have uO := (o_c.Own).lt
    refine bodyPost_ret (v := .tuple #[.agg #[.slice (some ⟨g1, 0, none⟩) x.Global.length p1, .slice (some ⟨g2, 0, none⟩) x.Own.length p2], .bool true]) (by simp [results, Tryz.results82, go_sem, q_r_0, q_r_1]) rfl ⟨⟨⟨some ⟨g1, 0, none⟩, x.Global.length, p1⟩, T1.set c ⟨A9, lg.length + 1, c9⟩, ⟨some ⟨g2, 0, none⟩, x.Own.length, p2⟩, T2⟩, rfl, by rw [giveL_glob HO.out HLEN.out HG.out]; exact ⟨hN.chg (F := [w.heap.size + 1]) (by repeat (first | exact Chg.refl _ _ | refine Chg.set_ ?_ (by simp) _ | refine Chg.alloc_ ?_ _ | refine Chg.drew_ ?_)) (fun g hg hm => by simp only [List.mem_cons, List.not_mem_nil, or_false] at hm; have := hfN _ hg; omega), hO.chg (F := [w.heap.size + 1]) (by repeat (first | exact Chg.refl _ _ | refine Chg.set_ ?_ (by simp) _ | refine Chg.alloc_ ?_ _ | refine Chg.drew_ ?_)) (fun g hg hm => by simp only [List.mem_cons, List.not_mem_nil, or_false] at hm; have := l_c _ (HLists.mem_foot.2 (.inr hg)); omega), fun b hb hm => by rcases foot2_set hb with hb | hb; (exact o_c.d01 b hb hm); (rcases foot_app hat9 b hb with hb | hb; (exact o_c.d01 b (HSF.out b hb) hm); (have := uO b hm; simp at hb; omega))⟩, fun b hb => ?_, ?_⟩
    · rcases HLists.mem_foot.1 hb with hb | hb
      · have := hfN b hb
        omega
      · have := l_c b (HLists.mem_foot.2 (.inr hb))
        omega
    · exact Below.trans hB (Below.trans ((Below.refl _ _).alloc hB.size _) (Below.trans (hx.below (by simp; have := hB.size; omega) (fun b hb => by have := l_c b (HFT.out b hb); omega)) (by repeat (first | exact Below.refl _ _ | refine Below.setCell ?_ (by simp <;> omega) _ | refine Below.alloc ?_ (by simp <;> omega) _ | refine Below.drew ?_))))
end Go.Proofs.YtcligoicoeklfaaGreat
