/-
  Several texts in one: lemmas and contracts that the claim rests on.
-/
import Derived.Test.YtpjijbonpjoamaaGreatUHAllocNow1
import Derived.Deep.QuietTactic
import Derived.BigQuiet
import Derived.Deep.LoopGhost
import Derived.Deep.RegionHeld3
import Derived.WalkSpells
import Derived.Laws.Cover3
import Derived.Test.YtpjijbonpjoamaaGreatUHAllocNow8
import Derived.Test.YtpjijbonpjoamaaGreatUHAllocNow7
import Derived.Test.YtpjijbonpjoamaaGreatUHAllocNow5
/-
  A slot taken from a list, the other package: the contracts.
-/
namespace Go.Proofs.YtpjijbonpjoamaaGreat
open Go.RowKit

set_option maxRecDepth 100000 in
set_option maxHeartbeats 4000000 in
theorem TakeOwn_spec_yes (w : World) (H : HLists) (x : Lists) (wk c : Nat) (l : List Int) (s : Int) (h : RdLists w w.heap.size H x) (hs : sizeLists x ≤ 536870912) (hok : listsOkB x = true) (hw : wk < 3) (hc : c < 3) (hrow : x.Own[wk * 3 + c]? = some (l ++ [s])) :
    Calls Tryz.prog 46 #[.agg #[.slice H.Global.a H.Global.len H.Global.cap, .slice H.Own.a H.Own.len H.Own.cap], .int .i64 wk, .int .i64 c] w fun e w' => ∃ H' : HLists, e = .returned (.tuple #[.agg #[.slice H'.Global.a H'.Global.len H'.Global.cap, .slice H'.Own.a H'.Own.len H'.Own.cap], .int .i64 s]) ∧ OwLists w' H' { x with Own := x.Own.set (wk * 3 + c) l } ∧ (∀ g ∈ H'.foot, w.heap.size ≤ g) ∧ Below w.heap.size w w' := by
  obtain ⟨hl3, hl9⟩ := lists_len hok
  have H3 := Hid.mk_ hl3
  have H9 := Hid.mk_ hl9
  have HR := Hid.mk_ hrow
  have hsr : (l ++ [s]).length ≤ 536870912 := by
    have := le_szLL (List.mem_of_getElem? hrow)
    unfold sizeLists at hs
    omega
  simp only [List.length_append, List.length_singleton] at hsr
  have hoa := fun W => OwnAt_spec wk c hw hc W
  have HK9 := Hid.mk_ (show wk * 3 + c < x.Own.length by omega)
  clear hl3 hl9 hrow
  obtain ⟨k, hk⟩ : ∃ k, k = wk * 3 + c := ⟨_, rfl⟩
  rw [← hk] at hoa HR HK9
  rw [← hk]
  clear hk
  have B_a : Box ((w.alloc (.cells #[.slice H.Global.a H.Global.len H.Global.cap, .slice H.Own.a H.Own.len H.Own.cap] 34)).alloc (.cells #[.slice none 0 0, .slice none 0 0] 34)) (w.heap.size) [.slice H.Global.a H.Global.len H.Global.cap, .slice H.Own.a H.Own.len H.Own.cap] := by
    have hbx := Box.new w #[.slice H.Global.a H.Global.len H.Global.cap, .slice H.Own.a H.Own.len H.Own.cap] 34
    exact (hbx).alloc _
  have B_r : Box ((w.alloc (.cells #[.slice H.Global.a H.Global.len H.Global.cap, .slice H.Own.a H.Own.len H.Own.cap] 34)).alloc (.cells #[.slice none 0 0, .slice none 0 0] 34)) (w.heap.size + 1) [.slice none 0 0, .slice none 0 0] := by
    have hbx := Box.new (w.alloc (.cells #[.slice H.Global.a H.Global.len H.Global.cap, .slice H.Own.a H.Own.len H.Own.cap] 34)) #[.slice none 0 0, .slice none 0 0] 34
    simp only [World.size_alloc] at hbx
    exact hbx
  have hB : Below w.heap.size w ((w.alloc (.cells #[.slice H.Global.a H.Global.len H.Global.cap, .slice H.Own.a H.Own.len H.Own.cap] 34)).alloc (.cells #[.slice none 0 0, .slice none 0 0] 34)) := by repeat (first | exact Below.refl _ _ | refine Below.alloc ?_ (by simp <;> omega) _ | refine below_grow_of ?_ (by simp <;> omega) _ _ | refine Below.drew ?_ | refine below_drewN ?_ _)
  go_enter Tryz.func46, Tryz.ntmps46
  go_wp2_with fail
  generalize hW0 : ((w.alloc (.cells #[.slice H.Global.a H.Global.len H.Global.cap, .slice H.Own.a H.Own.len H.Own.cap] 34)).alloc (.cells #[.slice none 0 0, .slice none 0 0] 34)) = w0 at B_a B_r hB ⊢
  clear hW0
  have zz_a := B_a.lt
  have zz_r := B_r.lt
  have q_a_0 := B_a.cell 0 _ rfl
  have q_a_1 := B_a.cell 1 _ rfl
  have fr_a := B_a.fro
  have z_a := B_a.lt
  have q_r_0 := B_r.cell 0 _ rfl
  have q_r_1 := B_r.cell 1 _ rfl
  have fr_r := B_r.fro
  have z_r := B_r.lt
  refine (l8Copy_spec _ H x (rdLists_up h hB) hs).mono ?_
  rintro e w1 ⟨K_c, rfl, o_c, l_c, hb⟩
  have u_c := o_c.lt
  replace B_a := B_a.below hb
  replace B_r := B_r.below hb
  replace hB := hB.trans (hb.mono hB.size)
  have sz := hb.size
  clear hb
  replace q_a_0 := B_a.cell 0 _ rfl
  replace q_a_1 := B_a.cell 1 _ rfl
  replace fr_a := B_a.fro
  replace z_a := B_a.lt
  replace q_r_0 := B_r.cell 0 _ rfl
  replace q_r_1 := B_r.cell 1 _ rfl
  replace fr_r := B_r.fro
  replace z_r := B_r.lt
  obtain ⟨⟨A1, n1, p1⟩, T1, ⟨A2, n2, p2⟩, T2⟩ := K_c
  obtain ⟨g1, c1, hv1, hg1⟩ := OwLL.at_form (v := .slice A1 n1 p1) o_c.Global (by rw [H3.out]; decide)
  obtain ⟨g2, c2, hv2, hg2⟩ := OwLL.at_form (v := .slice A2 n2 p2) o_c.Own (by rw [H9.out]; decide)
  injection hv1 with i1 i2 i3
  injection hv2 with j1 j2 j3
  subst i1 i2 i3 j1 j2 j3
  have fg1 : g1 ∈ HLists.foot ⟨⟨some ⟨g1, 0, none⟩, x.Global.length, p1⟩, T1, ⟨some ⟨g2, 0, none⟩, x.Own.length, p2⟩, T2⟩ := HLists.mem_foot.2 (.inl (mem_foot2.2 (.inl rfl)))
  have fg2 : g2 ∈ HLists.foot ⟨⟨some ⟨g1, 0, none⟩, x.Global.length, p1⟩, T1, ⟨some ⟨g2, 0, none⟩, x.Own.length, p2⟩, T2⟩ := HLists.mem_foot.2 (.inr (mem_foot2.2 (.inl rfl)))
  have lg1 := l_c _ fg1
  have lg2 := l_c _ fg2
  clear fg1 fg2
  go_wp2_with (go_at_call 62; refine (hoa _).mono ?_; rintro e wv ⟨rfl, rfl⟩)
  clear hoa
  replace B_a := B_a.alloc (.cells #[.slice (some ⟨g1, 0, none⟩) x.Global.length p1, .slice (some ⟨g2, 0, none⟩) x.Own.length p2] 34)
  replace B_r := B_r.alloc (.cells #[.slice (some ⟨g1, 0, none⟩) x.Global.length p1, .slice (some ⟨g2, 0, none⟩) x.Own.length p2] 34)
  replace o_c := o_c.alloc_ (.cells #[.slice (some ⟨g1, 0, none⟩) x.Global.length p1, .slice (some ⟨g2, 0, none⟩) x.Own.length p2] 34)
  replace hB := hB.alloc hB.size (.cells #[.slice (some ⟨g1, 0, none⟩) x.Global.length p1, .slice (some ⟨g2, 0, none⟩) x.Own.length p2] 34)
  have B_o : Box (w1.alloc (.cells #[.slice (some ⟨g1, 0, none⟩) x.Global.length p1, .slice (some ⟨g2, 0, none⟩) x.Own.length p2] 34)) w1.heap.size [.slice (some ⟨g1, 0, none⟩) x.Global.length p1, .slice (some ⟨g2, 0, none⟩) x.Own.length p2] := Box.new w1 #[.slice (some ⟨g1, 0, none⟩) x.Global.length p1, .slice (some ⟨g2, 0, none⟩) x.Own.length p2] 34
  have zz_o := B_o.lt
  have sz : w1.heap.size ≤ (w1.alloc (.cells #[.slice (some ⟨g1, 0, none⟩) x.Global.length p1, .slice (some ⟨g2, 0, none⟩) x.Own.length p2] 34)).heap.size := Nat.le_of_lt B_o.lt
  generalize hG : (w1.alloc (.cells #[.slice (some ⟨g1, 0, none⟩) x.Global.length p1, .slice (some ⟨g2, 0, none⟩) x.Own.length p2] 34)) = w2 at B_a B_r o_c hB B_o zz_o sz ⊢
  clear hG
  replace q_a_0 := B_a.cell 0 _ rfl
  replace q_a_1 := B_a.cell 1 _ rfl
  replace fr_a := B_a.fro
  replace z_a := B_a.lt
  replace q_r_0 := B_r.cell 0 _ rfl
  replace q_r_1 := B_r.cell 1 _ rfl
  replace fr_r := B_r.fro
  replace z_r := B_r.lt
  have q_o_0 := B_o.cell 0 _ rfl
  have q_o_1 := B_o.cell 1 _ rfl
  have fr_o := B_o.fro
  have z_o := B_o.lt
  refine (ListsOk_spec _ H x (rdLists_up h hB) (Nat.le_trans (Nat.le_add_right _ _) hs) (Nat.le_trans (Nat.le_add_left _ _) hs)).mono ?_
  rw [hok]
  rintro e w3 ⟨rfl, hb⟩
  replace B_a := B_a.below hb
  replace B_r := B_r.below hb
  replace B_o := B_o.below hb
  have o_c := o_c.step0 hb
  replace hB := hB.trans (hb.mono hB.size)
  have sz := hb.size
  clear hb
  replace q_a_0 := B_a.cell 0 _ rfl
  replace q_a_1 := B_a.cell 1 _ rfl
  replace fr_a := B_a.fro
  replace z_a := B_a.lt
  replace q_r_0 := B_r.cell 0 _ rfl
  replace q_r_1 := B_r.cell 1 _ rfl
  replace fr_r := B_r.fro
  replace z_r := B_r.lt
  replace q_o_0 := B_o.cell 0 _ rfl
  replace q_o_1 := B_o.cell 1 _ rfl
  replace fr_o := B_o.fro
  replace z_o := B_o.lt
  clear hok
  obtain ⟨so, hso2⟩ : ∃ q, T2[k]? = some q := ⟨_, List.getElem?_eq_getElem (by rw [o_c.Own.len]; exact HK9.out)⟩
  have HV := Hid.mk_ hso2
  clear hso2
  have ino := o_c.Own.inner k so _ HV.out HR.out
  have po := o_c.Own.outer.cell_ (j := 0) HV.out (by decide)
  simp only [FS, Nat.mul_one, Nat.add_zero] at po
  have hkk : k < x.Own.length := HK9.out
  obtain ⟨Ao, co, hvo, hq1, _⟩ := ino.rd'
  obtain ⟨ao, no, bo⟩ := so
  injection hvo with k1 k2 k3
  subst k1 k2 k3
  simp only [List.length_append, List.length_singleton] at hq1
  obtain ⟨gs, cs, hvs, hgs⟩ := OwL.form_pos (v := .slice ao (l ++ [s]).length bo) ino (by simp)
  injection hvs with k1 k2 k3
  subst k1 k3
  have hcl : l.length + 1 ≤ bo := hq1
  have po2 : w3.cell? ⟨g2, k, none⟩ = some (Value.slice (some ⟨gs, 0, none⟩) (l.length + 1) bo) := by simpa [SV.val] using po
  clear po
  have ce := OwL.cell_ (show OwL FI 3 _ (.slice (some ⟨gs, 0, none⟩) (l ++ [s]).length bo) (l ++ [s]) from ino) (last_at (l := l) (s := s)) FI.pos
  simp only [FI, Nat.mul_one, Nat.add_zero] at ce
  replace ce : _ = some (Value.int .i64 s) := ce
  have hgsl := World.block_lt_of_cell? _ _ ce
  have hq := l8Pop_yes w3 gs l.length bo s ce hgsl (by omega) hcl
  clear ce
  clear ino
  go_wp2_with fail
  refine (hq).mono ?_
  rintro e w4 ⟨rfl, hb⟩
  replace B_a := B_a.below hb
  replace B_r := B_r.below hb
  replace B_o := B_o.below hb
  replace o_c := o_c.step0 hb
  replace hB := hB.trans (hb.mono hB.size)
  have sz := hb.size
  clear hb
  replace q_a_0 := B_a.cell 0 _ rfl
  replace q_a_1 := B_a.cell 1 _ rfl
  replace fr_a := B_a.fro
  replace z_a := B_a.lt
  replace q_r_0 := B_r.cell 0 _ rfl
  replace q_r_1 := B_r.cell 1 _ rfl
  replace fr_r := B_r.fro
  replace z_r := B_r.lt
  replace q_o_0 := B_o.cell 0 _ rfl
  replace q_o_1 := B_o.cell 1 _ rfl
  replace fr_o := B_o.fro
  replace z_o := B_o.lt
  clear hq po2
  replace o_c : OwLists w4 ⟨⟨some ⟨g1, 0, none⟩, x.Global.length, p1⟩, T1, ⟨some ⟨g2, 0, none⟩, x.Own.length, p2⟩, T2⟩ x := o_c
  replace B_a := B_a.alloc (.cells #[.slice (some ⟨gs, 0, none⟩) l.length bo] 80)
  replace B_r := B_r.alloc (.cells #[.slice (some ⟨gs, 0, none⟩) l.length bo] 80)
  replace B_o := B_o.alloc (.cells #[.slice (some ⟨gs, 0, none⟩) l.length bo] 80)
  replace o_c := o_c.alloc_ (.cells #[.slice (some ⟨gs, 0, none⟩) l.length bo] 80)
  replace hB := hB.alloc hB.size (.cells #[.slice (some ⟨gs, 0, none⟩) l.length bo] 80)
  have sz3 : w4.heap.size ≤ (w4.alloc (.cells #[.slice (some ⟨gs, 0, none⟩) l.length bo] 80)).heap.size := by simp
  have ff : (w4.alloc (.cells #[.slice (some ⟨gs, 0, none⟩) l.length bo] 80)).frozen? ⟨g2, k, none⟩ = false := o_c.Own.outer.frozen_ k
  have po : (w4.alloc (.cells #[.slice (some ⟨gs, 0, none⟩) l.length bo] 80)).cell? ⟨g2, k, none⟩ = some (.slice (some ⟨gs, 0, none⟩) (l ++ [s]).length bo) := by have po := o_c.Own.outer.cell_ (j := 0) HV.out (by decide); simp only [FS, Nat.mul_one, Nat.add_zero] at po; exact po
  have ino := o_c.Own.inner k _ _ HV.out HR.out
  have n_a : g2 ≠ w.heap.size := by omega
  have m_a : w.heap.size ≠ g2 := by omega
  have n_r : g2 ≠ w.heap.size + 1 := by omega
  have m_r : w.heap.size + 1 ≠ g2 := by omega
  have n_o : g2 ≠ w1.heap.size := by omega
  have m_o : w1.heap.size ≠ g2 := by omega
  have hin := OwL.prefix_ (g := gs) (n := (l ++ [s]).length) (c := bo) (l := l) (r := [s]) ino
  have hN := OwLL.row_s (s' := ⟨some ⟨gs, 0, none⟩, l.length, bo⟩) (l' := l) o_c.Own HV.out hin rfl
  change OwLL _ _ _ (World.setCell _ _ (.slice (some ⟨gs, 0, none⟩) l.length bo)) _ _ _ at hN
  clear q_a_0 q_a_1 fr_a z_a
  have q_a_0 := B_a.cell 0 _ rfl
  have q_a_1 := B_a.cell 1 _ rfl
  have fr_a := B_a.fro
  have z_a := B_a.lt
  clear q_r_0 q_r_1 fr_r z_r
  have q_r_0 := B_r.cell 0 _ rfl
  have q_r_1 := B_r.cell 1 _ rfl
  have fr_r := B_r.fro
  have z_r := B_r.lt
  clear q_o_0 q_o_1 fr_o z_o
  have q_o_0 := B_o.cell 0 _ rfl
  have q_o_1 := B_o.cell 1 _ rfl
  have fr_o := B_o.fro
  have z_o := B_o.lt
  go_wp2_with fail
  have hO := o_c.Global.chg (F := [g2]) ((Chg.refl _ (w4.alloc (.cells #[.slice (some ⟨gs, 0, none⟩) l.length bo] 80))).set_ (g := g2) (i := k) (by simp) (.slice (some ⟨gs, 0, none⟩) l.length bo)) (fun b hb hm => by simp only [List.mem_cons, List.not_mem_nil, or_false] at hm; subst hm; exact o_c.d01 b hb (mem_foot2.2 (.inl rfl)))
  have hfs : foot2 (.slice (some ⟨g2, 0, none⟩) x.Own.length p2) (T2.set k ⟨some ⟨gs, 0, none⟩, l.length, bo⟩) = foot2 (.slice (some ⟨g2, 0, none⟩) x.Own.length p2) T2 := by unfold foot2; rw [flatMap_set_same (s' := ⟨some ⟨gs, 0, none⟩, l.length, bo⟩) HV.out rfl]
  have hfm : ∀ b, b ∈ foot2 (.slice (some ⟨g2, 0, none⟩) x.Own.length p2) (T2.set k ⟨some ⟨gs, 0, none⟩, l.length, bo⟩) → b ∈ foot2 (.slice (some ⟨g2, 0, none⟩) x.Own.length p2) T2 := fun b hb => by rw [← hfs]; exact hb
  refine bodyPost_ret (v := .tuple #[.agg #[.slice (some ⟨g1, 0, none⟩) x.Global.length p1, .slice (some ⟨g2, 0, none⟩) x.Own.length p2], .int .i64 s]) (by simp [results, Tryz.results46, go_sem, q_r_0, q_r_1]) rfl ⟨⟨⟨some ⟨g1, 0, none⟩, x.Global.length, p1⟩, T1, ⟨some ⟨g2, 0, none⟩, x.Own.length, p2⟩, T2.set k ⟨some ⟨gs, 0, none⟩, l.length, bo⟩⟩, rfl, ⟨hO.chg (F := [w.heap.size + 1]) (by repeat (first | with_reducible exact Chg.refl _ _ | with_reducible refine Chg.set_ ?_ (by simp) _ | with_reducible refine Chg.alloc_ ?_ _ | with_reducible refine Chg.drew_ ?_)) (fun b hb hm => by simp only [List.mem_cons, List.not_mem_nil, or_false] at hm; have := l_c b (HLists.mem_foot.2 (.inl hb)); omega), hN.chg (F := [w.heap.size + 1]) (by repeat (first | with_reducible exact Chg.refl _ _ | with_reducible refine Chg.set_ ?_ (by simp) _ | with_reducible refine Chg.alloc_ ?_ _ | with_reducible refine Chg.drew_ ?_)) (fun b hb hm => by simp only [List.mem_cons, List.not_mem_nil, or_false] at hm; have := l_c b (HLists.mem_foot.2 (.inr (hfm b hb))); omega), fun b hb hm => o_c.d01 b hb (hfm b hm)⟩, fun b hb => ?_, Below.trans hB (by repeat (first | with_reducible exact Below.refl _ _ | with_reducible refine Below.setCell ?_ (by simp <;> omega) _ | with_reducible refine Below.alloc ?_ (by simp <;> omega) _ | with_reducible refine Below.drew ?_))⟩
  rcases HLists.mem_foot.1 hb with hb | hb
  · have := l_c b (HLists.mem_foot.2 (.inl hb))
    omega
  · have := l_c b (HLists.mem_foot.2 (.inr (hfm b hb)))
    omega

set_option maxRecDepth 100000 in
set_option maxHeartbeats 4000000 in
theorem TakeOwn_spec_nil (w : World) (H : HLists) (x : Lists) (wk c : Nat) (h : RdLists w w.heap.size H x) (hs : sizeLists x ≤ 536870912) (hok : listsOkB x = true) (hw : wk < 3) (hc : c < 3) (hrow : x.Own[wk * 3 + c]? = some ([])) :
    Calls Tryz.prog 46 #[.agg #[.slice H.Global.a H.Global.len H.Global.cap, .slice H.Own.a H.Own.len H.Own.cap], .int .i64 wk, .int .i64 c] w fun e w' => ∃ H' : HLists, e = .returned (.tuple #[.agg #[.slice H'.Global.a H'.Global.len H'.Global.cap, .slice H'.Own.a H'.Own.len H'.Own.cap], .int .i64 (-1)]) ∧ OwLists w' H' x ∧ (∀ g ∈ H'.foot, w.heap.size ≤ g) ∧ Below w.heap.size w w' := by
  obtain ⟨hl3, hl9⟩ := lists_len hok
  have H3 := Hid.mk_ hl3
  have H9 := Hid.mk_ hl9
  have HR := Hid.mk_ hrow
  have hoa := fun W => OwnAt_spec wk c hw hc W
  have HK9 := Hid.mk_ (show wk * 3 + c < x.Own.length by omega)
  clear hl3 hl9 hrow
  obtain ⟨k, hk⟩ : ∃ k, k = wk * 3 + c := ⟨_, rfl⟩
  rw [← hk] at hoa HR HK9
  clear hk
  have B_a : Box ((w.alloc (.cells #[.slice H.Global.a H.Global.len H.Global.cap, .slice H.Own.a H.Own.len H.Own.cap] 34)).alloc (.cells #[.slice none 0 0, .slice none 0 0] 34)) (w.heap.size) [.slice H.Global.a H.Global.len H.Global.cap, .slice H.Own.a H.Own.len H.Own.cap] := by
    have hbx := Box.new w #[.slice H.Global.a H.Global.len H.Global.cap, .slice H.Own.a H.Own.len H.Own.cap] 34
    exact (hbx).alloc _
  have B_r : Box ((w.alloc (.cells #[.slice H.Global.a H.Global.len H.Global.cap, .slice H.Own.a H.Own.len H.Own.cap] 34)).alloc (.cells #[.slice none 0 0, .slice none 0 0] 34)) (w.heap.size + 1) [.slice none 0 0, .slice none 0 0] := by
    have hbx := Box.new (w.alloc (.cells #[.slice H.Global.a H.Global.len H.Global.cap, .slice H.Own.a H.Own.len H.Own.cap] 34)) #[.slice none 0 0, .slice none 0 0] 34
    simp only [World.size_alloc] at hbx
    exact hbx
  have hB : Below w.heap.size w ((w.alloc (.cells #[.slice H.Global.a H.Global.len H.Global.cap, .slice H.Own.a H.Own.len H.Own.cap] 34)).alloc (.cells #[.slice none 0 0, .slice none 0 0] 34)) := by repeat (first | exact Below.refl _ _ | refine Below.alloc ?_ (by simp <;> omega) _ | refine below_grow_of ?_ (by simp <;> omega) _ _ | refine Below.drew ?_ | refine below_drewN ?_ _)
  go_enter Tryz.func46, Tryz.ntmps46
  go_wp2_with fail
  generalize hW0 : ((w.alloc (.cells #[.slice H.Global.a H.Global.len H.Global.cap, .slice H.Own.a H.Own.len H.Own.cap] 34)).alloc (.cells #[.slice none 0 0, .slice none 0 0] 34)) = w0 at B_a B_r hB ⊢
  clear hW0
  have zz_a := B_a.lt
  have zz_r := B_r.lt
  have q_a_0 := B_a.cell 0 _ rfl
  have q_a_1 := B_a.cell 1 _ rfl
  have fr_a := B_a.fro
  have z_a := B_a.lt
  have q_r_0 := B_r.cell 0 _ rfl
  have q_r_1 := B_r.cell 1 _ rfl
  have fr_r := B_r.fro
  have z_r := B_r.lt
  refine (l8Copy_spec _ H x (rdLists_up h hB) hs).mono ?_
  rintro e w1 ⟨K_c, rfl, o_c, l_c, hb⟩
  have u_c := o_c.lt
  replace B_a := B_a.below hb
  replace B_r := B_r.below hb
  replace hB := hB.trans (hb.mono hB.size)
  have sz := hb.size
  clear hb
  replace q_a_0 := B_a.cell 0 _ rfl
  replace q_a_1 := B_a.cell 1 _ rfl
  replace fr_a := B_a.fro
  replace z_a := B_a.lt
  replace q_r_0 := B_r.cell 0 _ rfl
  replace q_r_1 := B_r.cell 1 _ rfl
  replace fr_r := B_r.fro
  replace z_r := B_r.lt
  obtain ⟨⟨A1, n1, p1⟩, T1, ⟨A2, n2, p2⟩, T2⟩ := K_c
  obtain ⟨g1, c1, hv1, hg1⟩ := OwLL.at_form (v := .slice A1 n1 p1) o_c.Global (by rw [H3.out]; decide)
  obtain ⟨g2, c2, hv2, hg2⟩ := OwLL.at_form (v := .slice A2 n2 p2) o_c.Own (by rw [H9.out]; decide)
  injection hv1 with i1 i2 i3
  injection hv2 with j1 j2 j3
  subst i1 i2 i3 j1 j2 j3
  have fg1 : g1 ∈ HLists.foot ⟨⟨some ⟨g1, 0, none⟩, x.Global.length, p1⟩, T1, ⟨some ⟨g2, 0, none⟩, x.Own.length, p2⟩, T2⟩ := HLists.mem_foot.2 (.inl (mem_foot2.2 (.inl rfl)))
  have fg2 : g2 ∈ HLists.foot ⟨⟨some ⟨g1, 0, none⟩, x.Global.length, p1⟩, T1, ⟨some ⟨g2, 0, none⟩, x.Own.length, p2⟩, T2⟩ := HLists.mem_foot.2 (.inr (mem_foot2.2 (.inl rfl)))
  have lg1 := l_c _ fg1
  have lg2 := l_c _ fg2
  clear fg1 fg2
  go_wp2_with (go_at_call 62; refine (hoa _).mono ?_; rintro e wv ⟨rfl, rfl⟩)
  clear hoa
  replace B_a := B_a.alloc (.cells #[.slice (some ⟨g1, 0, none⟩) x.Global.length p1, .slice (some ⟨g2, 0, none⟩) x.Own.length p2] 34)
  replace B_r := B_r.alloc (.cells #[.slice (some ⟨g1, 0, none⟩) x.Global.length p1, .slice (some ⟨g2, 0, none⟩) x.Own.length p2] 34)
  replace o_c := o_c.alloc_ (.cells #[.slice (some ⟨g1, 0, none⟩) x.Global.length p1, .slice (some ⟨g2, 0, none⟩) x.Own.length p2] 34)
  replace hB := hB.alloc hB.size (.cells #[.slice (some ⟨g1, 0, none⟩) x.Global.length p1, .slice (some ⟨g2, 0, none⟩) x.Own.length p2] 34)
  have B_o : Box (w1.alloc (.cells #[.slice (some ⟨g1, 0, none⟩) x.Global.length p1, .slice (some ⟨g2, 0, none⟩) x.Own.length p2] 34)) w1.heap.size [.slice (some ⟨g1, 0, none⟩) x.Global.length p1, .slice (some ⟨g2, 0, none⟩) x.Own.length p2] := Box.new w1 #[.slice (some ⟨g1, 0, none⟩) x.Global.length p1, .slice (some ⟨g2, 0, none⟩) x.Own.length p2] 34
  have zz_o := B_o.lt
  have sz : w1.heap.size ≤ (w1.alloc (.cells #[.slice (some ⟨g1, 0, none⟩) x.Global.length p1, .slice (some ⟨g2, 0, none⟩) x.Own.length p2] 34)).heap.size := Nat.le_of_lt B_o.lt
  generalize hG : (w1.alloc (.cells #[.slice (some ⟨g1, 0, none⟩) x.Global.length p1, .slice (some ⟨g2, 0, none⟩) x.Own.length p2] 34)) = w2 at B_a B_r o_c hB B_o zz_o sz ⊢
  clear hG
  replace q_a_0 := B_a.cell 0 _ rfl
  replace q_a_1 := B_a.cell 1 _ rfl
  replace fr_a := B_a.fro
  replace z_a := B_a.lt
  replace q_r_0 := B_r.cell 0 _ rfl
  replace q_r_1 := B_r.cell 1 _ rfl
  replace fr_r := B_r.fro
  replace z_r := B_r.lt
  have q_o_0 := B_o.cell 0 _ rfl
  have q_o_1 := B_o.cell 1 _ rfl
  have fr_o := B_o.fro
  have z_o := B_o.lt
  refine (ListsOk_spec _ H x (rdLists_up h hB) (Nat.le_trans (Nat.le_add_right _ _) hs) (Nat.le_trans (Nat.le_add_left _ _) hs)).mono ?_
  rw [hok]
  rintro e w3 ⟨rfl, hb⟩
  replace B_a := B_a.below hb
  replace B_r := B_r.below hb
  replace B_o := B_o.below hb
  have o_c := o_c.step0 hb
  replace hB := hB.trans (hb.mono hB.size)
  have sz := hb.size
  clear hb
  replace q_a_0 := B_a.cell 0 _ rfl
  replace q_a_1 := B_a.cell 1 _ rfl
  replace fr_a := B_a.fro
  replace z_a := B_a.lt
  replace q_r_0 := B_r.cell 0 _ rfl
  replace q_r_1 := B_r.cell 1 _ rfl
  replace fr_r := B_r.fro
  replace z_r := B_r.lt
  replace q_o_0 := B_o.cell 0 _ rfl
  replace q_o_1 := B_o.cell 1 _ rfl
  replace fr_o := B_o.fro
  replace z_o := B_o.lt
  clear hok
  obtain ⟨so, hso2⟩ : ∃ q, T2[k]? = some q := ⟨_, List.getElem?_eq_getElem (by rw [o_c.Own.len]; exact HK9.out)⟩
  have HV := Hid.mk_ hso2
  clear hso2
  have ino := o_c.Own.inner k so _ HV.out HR.out
  have po := o_c.Own.outer.cell_ (j := 0) HV.out (by decide)
  simp only [FS, Nat.mul_one, Nat.add_zero] at po
  have hkk : k < x.Own.length := HK9.out
  obtain ⟨Ao, co, hvo, _⟩ := ino.rd'
  obtain ⟨ao, no, bo⟩ := so
  injection hvo with k1 k2 k3
  subst k1 k2 k3
  have po2 : _ = some (Value.slice ao 0 bo) := po
  clear po
  have hq := l8Pop_nil w3 ao bo
  clear ino
  go_wp2_with fail
  refine (hq).mono ?_
  rintro e w4 ⟨rfl, hb⟩
  replace B_a := B_a.below hb
  replace B_r := B_r.below hb
  replace B_o := B_o.below hb
  replace o_c := o_c.step0 hb
  replace hB := hB.trans (hb.mono hB.size)
  have sz := hb.size
  clear hb
  replace q_a_0 := B_a.cell 0 _ rfl
  replace q_a_1 := B_a.cell 1 _ rfl
  replace fr_a := B_a.fro
  replace z_a := B_a.lt
  replace q_r_0 := B_r.cell 0 _ rfl
  replace q_r_1 := B_r.cell 1 _ rfl
  replace fr_r := B_r.fro
  replace z_r := B_r.lt
  replace q_o_0 := B_o.cell 0 _ rfl
  replace q_o_1 := B_o.cell 1 _ rfl
  replace fr_o := B_o.fro
  replace z_o := B_o.lt
  clear hq po2
  replace B_a := B_a.alloc (.cells #[.slice ao 0 bo] 80)
  replace B_r := B_r.alloc (.cells #[.slice ao 0 bo] 80)
  replace B_o := B_o.alloc (.cells #[.slice ao 0 bo] 80)
  replace o_c := o_c.alloc_ (.cells #[.slice ao 0 bo] 80)
  replace hB := hB.alloc hB.size (.cells #[.slice ao 0 bo] 80)
  have sz3 : w4.heap.size ≤ (w4.alloc (.cells #[.slice ao 0 bo] 80)).heap.size := by simp
  have ff : (w4.alloc (.cells #[.slice ao 0 bo] 80)).frozen? ⟨g2, k, none⟩ = false := o_c.Own.outer.frozen_ k
  have po : (w4.alloc (.cells #[.slice ao 0 bo] 80)).cell? ⟨g2, k, none⟩ = some (.slice ao 0 bo) := by have po := o_c.Own.outer.cell_ (j := 0) HV.out (by decide); simp only [FS, Nat.mul_one, Nat.add_zero] at po; exact po
  have ino := o_c.Own.inner k _ _ HV.out HR.out
  have n_a : g2 ≠ w.heap.size := by omega
  have m_a : w.heap.size ≠ g2 := by omega
  have n_r : g2 ≠ w.heap.size + 1 := by omega
  have m_r : w.heap.size + 1 ≠ g2 := by omega
  have n_o : g2 ≠ w1.heap.size := by omega
  have m_o : w1.heap.size ≠ g2 := by omega
  have hin := ino
  have hN := OwLL.row_s (s' := ⟨ao, 0, bo⟩) (l' := []) o_c.Own HV.out hin rfl
  change OwLL _ _ _ (World.setCell _ _ (.slice ao 0 bo)) _ _ _ at hN
  clear q_a_0 q_a_1 fr_a z_a
  have q_a_0 := B_a.cell 0 _ rfl
  have q_a_1 := B_a.cell 1 _ rfl
  have fr_a := B_a.fro
  have z_a := B_a.lt
  clear q_r_0 q_r_1 fr_r z_r
  have q_r_0 := B_r.cell 0 _ rfl
  have q_r_1 := B_r.cell 1 _ rfl
  have fr_r := B_r.fro
  have z_r := B_r.lt
  clear q_o_0 q_o_1 fr_o z_o
  have q_o_0 := B_o.cell 0 _ rfl
  have q_o_1 := B_o.cell 1 _ rfl
  have fr_o := B_o.fro
  have z_o := B_o.lt
  go_wp2_with fail
  have hO := o_c.Global.chg (F := [g2]) ((Chg.refl _ (w4.alloc (.cells #[.slice ao 0 bo] 80))).set_ (g := g2) (i := k) (by simp) (.slice ao 0 bo)) (fun b hb hm => by simp only [List.mem_cons, List.not_mem_nil, or_false] at hm; subst hm; exact o_c.d01 b hb (mem_foot2.2 (.inl rfl)))
  have hfs : foot2 (.slice (some ⟨g2, 0, none⟩) x.Own.length p2) (T2.set k ⟨ao, 0, bo⟩) = foot2 (.slice (some ⟨g2, 0, none⟩) x.Own.length p2) T2 := by unfold foot2; rw [flatMap_set_same (s' := ⟨ao, 0, bo⟩) HV.out rfl]
  have hfm : ∀ b, b ∈ foot2 (.slice (some ⟨g2, 0, none⟩) x.Own.length p2) (T2.set k ⟨ao, 0, bo⟩) → b ∈ foot2 (.slice (some ⟨g2, 0, none⟩) x.Own.length p2) T2 := fun b hb => by rw [← hfs]; exact hb
  rw [set_same HR.out] at hN
  refine bodyPost_ret (v := .tuple #[.agg #[.slice (some ⟨g1, 0, none⟩) x.Global.length p1, .slice (some ⟨g2, 0, none⟩) x.Own.length p2], .int .i64 (-1)]) (by simp [results, Tryz.results46, go_sem, q_r_0, q_r_1]) rfl ⟨⟨⟨some ⟨g1, 0, none⟩, x.Global.length, p1⟩, T1, ⟨some ⟨g2, 0, none⟩, x.Own.length, p2⟩, T2.set k ⟨ao, 0, bo⟩⟩, rfl, ⟨hO.chg (F := [w.heap.size + 1]) (by repeat (first | with_reducible exact Chg.refl _ _ | with_reducible refine Chg.set_ ?_ (by simp) _ | with_reducible refine Chg.alloc_ ?_ _ | with_reducible refine Chg.drew_ ?_)) (fun b hb hm => by simp only [List.mem_cons, List.not_mem_nil, or_false] at hm; have := l_c b (HLists.mem_foot.2 (.inl hb)); omega), hN.chg (F := [w.heap.size + 1]) (by repeat (first | with_reducible exact Chg.refl _ _ | with_reducible refine Chg.set_ ?_ (by simp) _ | with_reducible refine Chg.alloc_ ?_ _ | with_reducible refine Chg.drew_ ?_)) (fun b hb hm => by simp only [List.mem_cons, List.not_mem_nil, or_false] at hm; have := l_c b (HLists.mem_foot.2 (.inr (hfm b hb))); omega), fun b hb hm => o_c.d01 b hb (hfm b hm)⟩, fun b hb => ?_, Below.trans hB (by repeat (first | with_reducible exact Below.refl _ _ | with_reducible refine Below.setCell ?_ (by simp <;> omega) _ | with_reducible refine Below.alloc ?_ (by simp <;> omega) _ | with_reducible refine Below.drew ?_))⟩
  rcases HLists.mem_foot.1 hb with hb | hb
  · have := l_c b (HLists.mem_foot.2 (.inl hb))
    omega
  · have := l_c b (HLists.mem_foot.2 (.inr (hfm b hb)))
    omega

set_option maxRecDepth 100000 in
set_option maxHeartbeats 4000000 in
theorem TakeGlobal_spec_yes (w : World) (H : HLists) (x : Lists) (c : Nat) (l : List Int) (s : Int) (h : RdLists w w.heap.size H x) (hs : sizeLists x ≤ 536870912) (hok : listsOkB x = true) (hc : c < 3) (hrow : x.Global[c]? = some (l ++ [s])) :
    Calls Tryz.prog 47 #[.agg #[.slice H.Global.a H.Global.len H.Global.cap, .slice H.Own.a H.Own.len H.Own.cap], .int .i64 c] w fun e w' => ∃ H' : HLists, e = .returned (.tuple #[.agg #[.slice H'.Global.a H'.Global.len H'.Global.cap, .slice H'.Own.a H'.Own.len H'.Own.cap], .int .i64 s]) ∧ OwLists w' H' { x with Global := x.Global.set c l } ∧ (∀ g ∈ H'.foot, w.heap.size ≤ g) ∧ Below w.heap.size w w' := by
  obtain ⟨hl3, hl9⟩ := lists_len hok
  have H3 := Hid.mk_ hl3
  have H9 := Hid.mk_ hl9
  have HR := Hid.mk_ hrow
  have hsr : (l ++ [s]).length ≤ 536870912 := by
    have := le_szLL (List.mem_of_getElem? hrow)
    unfold sizeLists at hs
    omega
  simp only [List.length_append, List.length_singleton] at hsr
  have HK9 := Hid.mk_ (show c < x.Global.length by omega)
  have hicl : inB 0 2 (c : Int) = true := inB_iff.2 ⟨by omega, by omega⟩
  clear hl3 hl9 hrow
  obtain ⟨k, rfl⟩ : ∃ k, k = c := ⟨_, rfl⟩
  have B_a : Box ((w.alloc (.cells #[.slice H.Global.a H.Global.len H.Global.cap, .slice H.Own.a H.Own.len H.Own.cap] 34)).alloc (.cells #[.slice none 0 0, .slice none 0 0] 34)) (w.heap.size) [.slice H.Global.a H.Global.len H.Global.cap, .slice H.Own.a H.Own.len H.Own.cap] := by
    have hbx := Box.new w #[.slice H.Global.a H.Global.len H.Global.cap, .slice H.Own.a H.Own.len H.Own.cap] 34
    exact (hbx).alloc _
  have B_r : Box ((w.alloc (.cells #[.slice H.Global.a H.Global.len H.Global.cap, .slice H.Own.a H.Own.len H.Own.cap] 34)).alloc (.cells #[.slice none 0 0, .slice none 0 0] 34)) (w.heap.size + 1) [.slice none 0 0, .slice none 0 0] := by
    have hbx := Box.new (w.alloc (.cells #[.slice H.Global.a H.Global.len H.Global.cap, .slice H.Own.a H.Own.len H.Own.cap] 34)) #[.slice none 0 0, .slice none 0 0] 34
    simp only [World.size_alloc] at hbx
    exact hbx
  have hB : Below w.heap.size w ((w.alloc (.cells #[.slice H.Global.a H.Global.len H.Global.cap, .slice H.Own.a H.Own.len H.Own.cap] 34)).alloc (.cells #[.slice none 0 0, .slice none 0 0] 34)) := by repeat (first | exact Below.refl _ _ | refine Below.alloc ?_ (by simp <;> omega) _ | refine below_grow_of ?_ (by simp <;> omega) _ _ | refine Below.drew ?_ | refine below_drewN ?_ _)
  go_enter Tryz.func47, Tryz.ntmps47
  go_wp2_with fail
  generalize hW0 : ((w.alloc (.cells #[.slice H.Global.a H.Global.len H.Global.cap, .slice H.Own.a H.Own.len H.Own.cap] 34)).alloc (.cells #[.slice none 0 0, .slice none 0 0] 34)) = w0 at B_a B_r hB ⊢
  clear hW0
  have zz_a := B_a.lt
  have zz_r := B_r.lt
  have q_a_0 := B_a.cell 0 _ rfl
  have q_a_1 := B_a.cell 1 _ rfl
  have fr_a := B_a.fro
  have z_a := B_a.lt
  have q_r_0 := B_r.cell 0 _ rfl
  have q_r_1 := B_r.cell 1 _ rfl
  have fr_r := B_r.fro
  have z_r := B_r.lt
  refine (l8Copy_spec _ H x (rdLists_up h hB) hs).mono ?_
  rintro e w1 ⟨K_c, rfl, o_c, l_c, hb⟩
  have u_c := o_c.lt
  replace B_a := B_a.below hb
  replace B_r := B_r.below hb
  replace hB := hB.trans (hb.mono hB.size)
  have sz := hb.size
  clear hb
  replace q_a_0 := B_a.cell 0 _ rfl
  replace q_a_1 := B_a.cell 1 _ rfl
  replace fr_a := B_a.fro
  replace z_a := B_a.lt
  replace q_r_0 := B_r.cell 0 _ rfl
  replace q_r_1 := B_r.cell 1 _ rfl
  replace fr_r := B_r.fro
  replace z_r := B_r.lt
  obtain ⟨⟨A1, n1, p1⟩, T1, ⟨A2, n2, p2⟩, T2⟩ := K_c
  obtain ⟨g1, c1, hv1, hg1⟩ := OwLL.at_form (v := .slice A1 n1 p1) o_c.Global (by rw [H3.out]; decide)
  obtain ⟨g2, c2, hv2, hg2⟩ := OwLL.at_form (v := .slice A2 n2 p2) o_c.Own (by rw [H9.out]; decide)
  injection hv1 with i1 i2 i3
  injection hv2 with j1 j2 j3
  subst i1 i2 i3 j1 j2 j3
  have fg1 : g1 ∈ HLists.foot ⟨⟨some ⟨g1, 0, none⟩, x.Global.length, p1⟩, T1, ⟨some ⟨g2, 0, none⟩, x.Own.length, p2⟩, T2⟩ := HLists.mem_foot.2 (.inl (mem_foot2.2 (.inl rfl)))
  have fg2 : g2 ∈ HLists.foot ⟨⟨some ⟨g1, 0, none⟩, x.Global.length, p1⟩, T1, ⟨some ⟨g2, 0, none⟩, x.Own.length, p2⟩, T2⟩ := HLists.mem_foot.2 (.inr (mem_foot2.2 (.inl rfl)))
  have lg1 := l_c _ fg1
  have lg2 := l_c _ fg2
  clear fg1 fg2
  go_wp2_with fail
  replace B_a := B_a.alloc (.cells #[.slice (some ⟨g1, 0, none⟩) x.Global.length p1, .slice (some ⟨g2, 0, none⟩) x.Own.length p2] 34)
  replace B_r := B_r.alloc (.cells #[.slice (some ⟨g1, 0, none⟩) x.Global.length p1, .slice (some ⟨g2, 0, none⟩) x.Own.length p2] 34)
  replace o_c := o_c.alloc_ (.cells #[.slice (some ⟨g1, 0, none⟩) x.Global.length p1, .slice (some ⟨g2, 0, none⟩) x.Own.length p2] 34)
  replace hB := hB.alloc hB.size (.cells #[.slice (some ⟨g1, 0, none⟩) x.Global.length p1, .slice (some ⟨g2, 0, none⟩) x.Own.length p2] 34)
  have B_o : Box (w1.alloc (.cells #[.slice (some ⟨g1, 0, none⟩) x.Global.length p1, .slice (some ⟨g2, 0, none⟩) x.Own.length p2] 34)) w1.heap.size [.slice (some ⟨g1, 0, none⟩) x.Global.length p1, .slice (some ⟨g2, 0, none⟩) x.Own.length p2] := Box.new w1 #[.slice (some ⟨g1, 0, none⟩) x.Global.length p1, .slice (some ⟨g2, 0, none⟩) x.Own.length p2] 34
  have zz_o := B_o.lt
  have sz : w1.heap.size ≤ (w1.alloc (.cells #[.slice (some ⟨g1, 0, none⟩) x.Global.length p1, .slice (some ⟨g2, 0, none⟩) x.Own.length p2] 34)).heap.size := Nat.le_of_lt B_o.lt
  generalize hG : (w1.alloc (.cells #[.slice (some ⟨g1, 0, none⟩) x.Global.length p1, .slice (some ⟨g2, 0, none⟩) x.Own.length p2] 34)) = w2 at B_a B_r o_c hB B_o zz_o sz ⊢
  clear hG
  replace q_a_0 := B_a.cell 0 _ rfl
  replace q_a_1 := B_a.cell 1 _ rfl
  replace fr_a := B_a.fro
  replace z_a := B_a.lt
  replace q_r_0 := B_r.cell 0 _ rfl
  replace q_r_1 := B_r.cell 1 _ rfl
  replace fr_r := B_r.fro
  replace z_r := B_r.lt
  have q_o_0 := B_o.cell 0 _ rfl
  have q_o_1 := B_o.cell 1 _ rfl
  have fr_o := B_o.fro
  have z_o := B_o.lt
  refine (ListsOk_spec _ H x (rdLists_up h hB) (Nat.le_trans (Nat.le_add_right _ _) hs) (Nat.le_trans (Nat.le_add_left _ _) hs)).mono ?_
  rw [hok]
  rintro e w3 ⟨rfl, hb⟩
  replace B_a := B_a.below hb
  replace B_r := B_r.below hb
  replace B_o := B_o.below hb
  have o_c := o_c.step0 hb
  replace hB := hB.trans (hb.mono hB.size)
  have sz := hb.size
  clear hb
  replace q_a_0 := B_a.cell 0 _ rfl
  replace q_a_1 := B_a.cell 1 _ rfl
  replace fr_a := B_a.fro
  replace z_a := B_a.lt
  replace q_r_0 := B_r.cell 0 _ rfl
  replace q_r_1 := B_r.cell 1 _ rfl
  replace fr_r := B_r.fro
  replace z_r := B_r.lt
  replace q_o_0 := B_o.cell 0 _ rfl
  replace q_o_1 := B_o.cell 1 _ rfl
  replace fr_o := B_o.fro
  replace z_o := B_o.lt
  clear hok
  obtain ⟨so, hso2⟩ : ∃ q, T1[k]? = some q := ⟨_, List.getElem?_eq_getElem (by rw [o_c.Global.len]; exact HK9.out)⟩
  have HV := Hid.mk_ hso2
  clear hso2
  have ino := o_c.Global.inner k so _ HV.out HR.out
  have po := o_c.Global.outer.cell_ (j := 0) HV.out (by decide)
  simp only [FS, Nat.mul_one, Nat.add_zero] at po
  have hkk : k < x.Global.length := HK9.out
  obtain ⟨Ao, co, hvo, hq1, _⟩ := ino.rd'
  obtain ⟨ao, no, bo⟩ := so
  injection hvo with k1 k2 k3
  subst k1 k2 k3
  simp only [List.length_append, List.length_singleton] at hq1
  obtain ⟨gs, cs, hvs, hgs⟩ := OwL.form_pos (v := .slice ao (l ++ [s]).length bo) ino (by simp)
  injection hvs with k1 k2 k3
  subst k1 k3
  have hcl : l.length + 1 ≤ bo := hq1
  have po2 : w3.cell? ⟨g1, k, none⟩ = some (Value.slice (some ⟨gs, 0, none⟩) (l.length + 1) bo) := by simpa [SV.val] using po
  clear po
  have ce := OwL.cell_ (show OwL FI 3 _ (.slice (some ⟨gs, 0, none⟩) (l ++ [s]).length bo) (l ++ [s]) from ino) (last_at (l := l) (s := s)) FI.pos
  simp only [FI, Nat.mul_one, Nat.add_zero] at ce
  replace ce : _ = some (Value.int .i64 s) := ce
  have hgsl := World.block_lt_of_cell? _ _ ce
  have hq := l8Pop_yes w3 gs l.length bo s ce hgsl (by omega) hcl
  clear ce
  clear ino
  go_wp2_with (first | (go_at_call 21; refine (l1In_ct _ _ _ _).mono ?_; rw [hicl]; rintro e wv ⟨rfl, rfl⟩))
  refine (hq).mono ?_
  rintro e w4 ⟨rfl, hb⟩
  replace B_a := B_a.below hb
  replace B_r := B_r.below hb
  replace B_o := B_o.below hb
  replace o_c := o_c.step0 hb
  replace hB := hB.trans (hb.mono hB.size)
  have sz := hb.size
  clear hb
  replace q_a_0 := B_a.cell 0 _ rfl
  replace q_a_1 := B_a.cell 1 _ rfl
  replace fr_a := B_a.fro
  replace z_a := B_a.lt
  replace q_r_0 := B_r.cell 0 _ rfl
  replace q_r_1 := B_r.cell 1 _ rfl
  replace fr_r := B_r.fro
  replace z_r := B_r.lt
  replace q_o_0 := B_o.cell 0 _ rfl
  replace q_o_1 := B_o.cell 1 _ rfl
  replace fr_o := B_o.fro
  replace z_o := B_o.lt
  clear hq po2
  replace o_c : OwLists w4 ⟨⟨some ⟨g1, 0, none⟩, x.Global.length, p1⟩, T1, ⟨some ⟨g2, 0, none⟩, x.Own.length, p2⟩, T2⟩ x := o_c
  replace B_a := B_a.alloc (.cells #[.slice (some ⟨gs, 0, none⟩) l.length bo] 80)
  replace B_r := B_r.alloc (.cells #[.slice (some ⟨gs, 0, none⟩) l.length bo] 80)
  replace B_o := B_o.alloc (.cells #[.slice (some ⟨gs, 0, none⟩) l.length bo] 80)
  replace o_c := o_c.alloc_ (.cells #[.slice (some ⟨gs, 0, none⟩) l.length bo] 80)
  replace hB := hB.alloc hB.size (.cells #[.slice (some ⟨gs, 0, none⟩) l.length bo] 80)
  have sz3 : w4.heap.size ≤ (w4.alloc (.cells #[.slice (some ⟨gs, 0, none⟩) l.length bo] 80)).heap.size := by simp
  have ff : (w4.alloc (.cells #[.slice (some ⟨gs, 0, none⟩) l.length bo] 80)).frozen? ⟨g1, k, none⟩ = false := o_c.Global.outer.frozen_ k
  have po : (w4.alloc (.cells #[.slice (some ⟨gs, 0, none⟩) l.length bo] 80)).cell? ⟨g1, k, none⟩ = some (.slice (some ⟨gs, 0, none⟩) (l ++ [s]).length bo) := by have po := o_c.Global.outer.cell_ (j := 0) HV.out (by decide); simp only [FS, Nat.mul_one, Nat.add_zero] at po; exact po
  have ino := o_c.Global.inner k _ _ HV.out HR.out
  have n_a : g1 ≠ w.heap.size := by omega
  have m_a : w.heap.size ≠ g1 := by omega
  have n_r : g1 ≠ w.heap.size + 1 := by omega
  have m_r : w.heap.size + 1 ≠ g1 := by omega
  have n_o : g1 ≠ w1.heap.size := by omega
  have m_o : w1.heap.size ≠ g1 := by omega
  have hin := OwL.prefix_ (g := gs) (n := (l ++ [s]).length) (c := bo) (l := l) (r := [s]) ino
  have hN := OwLL.row_s (s' := ⟨some ⟨gs, 0, none⟩, l.length, bo⟩) (l' := l) o_c.Global HV.out hin rfl
  change OwLL _ _ _ (World.setCell _ _ (.slice (some ⟨gs, 0, none⟩) l.length bo)) _ _ _ at hN
  clear q_a_0 q_a_1 fr_a z_a
  have q_a_0 := B_a.cell 0 _ rfl
  have q_a_1 := B_a.cell 1 _ rfl
  have fr_a := B_a.fro
  have z_a := B_a.lt
  clear q_r_0 q_r_1 fr_r z_r
  have q_r_0 := B_r.cell 0 _ rfl
  have q_r_1 := B_r.cell 1 _ rfl
  have fr_r := B_r.fro
  have z_r := B_r.lt
  clear q_o_0 q_o_1 fr_o z_o
  have q_o_0 := B_o.cell 0 _ rfl
  have q_o_1 := B_o.cell 1 _ rfl
  have fr_o := B_o.fro
  have z_o := B_o.lt
  go_wp2_with fail
  have hO := o_c.Own.chg (F := [g1]) ((Chg.refl _ (w4.alloc (.cells #[.slice (some ⟨gs, 0, none⟩) l.length bo] 80))).set_ (g := g1) (i := k) (by simp) (.slice (some ⟨gs, 0, none⟩) l.length bo)) (fun b hb hm => by simp only [List.mem_cons, List.not_mem_nil, or_false] at hm; subst hm; exact o_c.d01 b (mem_foot2.2 (.inl rfl)) hb)
  have hfs : foot2 (.slice (some ⟨g1, 0, none⟩) x.Global.length p1) (T1.set k ⟨some ⟨gs, 0, none⟩, l.length, bo⟩) = foot2 (.slice (some ⟨g1, 0, none⟩) x.Global.length p1) T1 := by unfold foot2; rw [flatMap_set_same (s' := ⟨some ⟨gs, 0, none⟩, l.length, bo⟩) HV.out rfl]
  have hfm : ∀ b, b ∈ foot2 (.slice (some ⟨g1, 0, none⟩) x.Global.length p1) (T1.set k ⟨some ⟨gs, 0, none⟩, l.length, bo⟩) → b ∈ foot2 (.slice (some ⟨g1, 0, none⟩) x.Global.length p1) T1 := fun b hb => by rw [← hfs]; exact hb
  refine bodyPost_ret (v := .tuple #[.agg #[.slice (some ⟨g1, 0, none⟩) x.Global.length p1, .slice (some ⟨g2, 0, none⟩) x.Own.length p2], .int .i64 s]) (by simp [results, Tryz.results47, go_sem, q_r_0, q_r_1]) rfl ⟨⟨⟨some ⟨g1, 0, none⟩, x.Global.length, p1⟩, T1.set k ⟨some ⟨gs, 0, none⟩, l.length, bo⟩, ⟨some ⟨g2, 0, none⟩, x.Own.length, p2⟩, T2⟩, rfl, ⟨hN.chg (F := [w.heap.size + 1]) (by repeat (first | with_reducible exact Chg.refl _ _ | with_reducible refine Chg.set_ ?_ (by simp) _ | with_reducible refine Chg.alloc_ ?_ _ | with_reducible refine Chg.drew_ ?_)) (fun b hb hm => by simp only [List.mem_cons, List.not_mem_nil, or_false] at hm; have := l_c b (HLists.mem_foot.2 (.inl (hfm b hb))); omega), hO.chg (F := [w.heap.size + 1]) (by repeat (first | with_reducible exact Chg.refl _ _ | with_reducible refine Chg.set_ ?_ (by simp) _ | with_reducible refine Chg.alloc_ ?_ _ | with_reducible refine Chg.drew_ ?_)) (fun b hb hm => by simp only [List.mem_cons, List.not_mem_nil, or_false] at hm; have := l_c b (HLists.mem_foot.2 (.inr hb)); omega), fun b hb hm => o_c.d01 b (hfm b hb) hm⟩, fun b hb => ?_, Below.trans hB (by repeat (first | with_reducible exact Below.refl _ _ | with_reducible refine Below.setCell ?_ (by simp <;> omega) _ | with_reducible refine Below.alloc ?_ (by simp <;> omega) _ | with_reducible refine Below.drew ?_))⟩
  rcases HLists.mem_foot.1 hb with hb | hb
  · have := l_c b (HLists.mem_foot.2 (.inl (hfm b hb)))
    omega
  · have := l_c b (HLists.mem_foot.2 (.inr hb))
    omega

set_option maxRecDepth 100000 in
set_option maxHeartbeats 4000000 in
theorem TakeGlobal_spec_nil (w : World) (H : HLists) (x : Lists) (c : Nat) (h : RdLists w w.heap.size H x) (hs : sizeLists x ≤ 536870912) (hok : listsOkB x = true) (hc : c < 3) (hrow : x.Global[c]? = some ([])) :
    Calls Tryz.prog 47 #[.agg #[.slice H.Global.a H.Global.len H.Global.cap, .slice H.Own.a H.Own.len H.Own.cap], .int .i64 c] w fun e w' => ∃ H' : HLists, e = .returned (.tuple #[.agg #[.slice H'.Global.a H'.Global.len H'.Global.cap, .slice H'.Own.a H'.Own.len H'.Own.cap], .int .i64 (-1)]) ∧ OwLists w' H' x ∧ (∀ g ∈ H'.foot, w.heap.size ≤ g) ∧ Below w.heap.size w w' := by
  obtain ⟨hl3, hl9⟩ := lists_len hok
  have H3 := Hid.mk_ hl3
  have H9 := Hid.mk_ hl9
  have HR := Hid.mk_ hrow
  have HK9 := Hid.mk_ (show c < x.Global.length by omega)
  have hicl : inB 0 2 (c : Int) = true := inB_iff.2 ⟨by omega, by omega⟩
  clear hl3 hl9 hrow
  obtain ⟨k, rfl⟩ : ∃ k, k = c := ⟨_, rfl⟩
  have B_a : Box ((w.alloc (.cells #[.slice H.Global.a H.Global.len H.Global.cap, .slice H.Own.a H.Own.len H.Own.cap] 34)).alloc (.cells #[.slice none 0 0, .slice none 0 0] 34)) (w.heap.size) [.slice H.Global.a H.Global.len H.Global.cap, .slice H.Own.a H.Own.len H.Own.cap] := by
    have hbx := Box.new w #[.slice H.Global.a H.Global.len H.Global.cap, .slice H.Own.a H.Own.len H.Own.cap] 34
    exact (hbx).alloc _
  have B_r : Box ((w.alloc (.cells #[.slice H.Global.a H.Global.len H.Global.cap, .slice H.Own.a H.Own.len H.Own.cap] 34)).alloc (.cells #[.slice none 0 0, .slice none 0 0] 34)) (w.heap.size + 1) [.slice none 0 0, .slice none 0 0] := by
    have hbx := Box.new (w.alloc (.cells #[.slice H.Global.a H.Global.len H.Global.cap, .slice H.Own.a H.Own.len H.Own.cap] 34)) #[.slice none 0 0, .slice none 0 0] 34
    simp only [World.size_alloc] at hbx
    exact hbx
  have hB : Below w.heap.size w ((w.alloc (.cells #[.slice H.Global.a H.Global.len H.Global.cap, .slice H.Own.a H.Own.len H.Own.cap] 34)).alloc (.cells #[.slice none 0 0, .slice none 0 0] 34)) := by repeat (first | exact Below.refl _ _ | refine Below.alloc ?_ (by simp <;> omega) _ | refine below_grow_of ?_ (by simp <;> omega) _ _ | refine Below.drew ?_ | refine below_drewN ?_ _)
  go_enter Tryz.func47, Tryz.ntmps47
  go_wp2_with fail
  generalize hW0 : ((w.alloc (.cells #[.slice H.Global.a H.Global.len H.Global.cap, .slice H.Own.a H.Own.len H.Own.cap] 34)).alloc (.cells #[.slice none 0 0, .slice none 0 0] 34)) = w0 at B_a B_r hB ⊢
  clear hW0
  have zz_a := B_a.lt
  have zz_r := B_r.lt
  have q_a_0 := B_a.cell 0 _ rfl
  have q_a_1 := B_a.cell 1 _ rfl
  have fr_a := B_a.fro
  have z_a := B_a.lt
  have q_r_0 := B_r.cell 0 _ rfl
  have q_r_1 := B_r.cell 1 _ rfl
  have fr_r := B_r.fro
  have z_r := B_r.lt
  refine (l8Copy_spec _ H x (rdLists_up h hB) hs).mono ?_
  rintro e w1 ⟨K_c, rfl, o_c, l_c, hb⟩
  have u_c := o_c.lt
  replace B_a := B_a.below hb
  replace B_r := B_r.below hb
  replace hB := hB.trans (hb.mono hB.size)
  have sz := hb.size
  clear hb
  replace q_a_0 := B_a.cell 0 _ rfl
  replace q_a_1 := B_a.cell 1 _ rfl
  replace fr_a := B_a.fro
  replace z_a := B_a.lt
  replace q_r_0 := B_r.cell 0 _ rfl
  replace q_r_1 := B_r.cell 1 _ rfl
  replace fr_r := B_r.fro
  replace z_r := B_r.lt
  obtain ⟨⟨A1, n1, p1⟩, T1, ⟨A2, n2, p2⟩, T2⟩ := K_c
  obtain ⟨g1, c1, hv1, hg1⟩ := OwLL.at_form (v := .slice A1 n1 p1) o_c.Global (by rw [H3.out]; decide)
  obtain ⟨g2, c2, hv2, hg2⟩ := OwLL.at_form (v := .slice A2 n2 p2) o_c.Own (by rw [H9.out]; decide)
  injection hv1 with i1 i2 i3
  injection hv2 with j1 j2 j3
  subst i1 i2 i3 j1 j2 j3
  have fg1 : g1 ∈ HLists.foot ⟨⟨some ⟨g1, 0, none⟩, x.Global.length, p1⟩, T1, ⟨some ⟨g2, 0, none⟩, x.Own.length, p2⟩, T2⟩ := HLists.mem_foot.2 (.inl (mem_foot2.2 (.inl rfl)))
  have fg2 : g2 ∈ HLists.foot ⟨⟨some ⟨g1, 0, none⟩, x.Global.length, p1⟩, T1, ⟨some ⟨g2, 0, none⟩, x.Own.length, p2⟩, T2⟩ := HLists.mem_foot.2 (.inr (mem_foot2.2 (.inl rfl)))
  have lg1 := l_c _ fg1
  have lg2 := l_c _ fg2
  clear fg1 fg2
  go_wp2_with fail
  replace B_a := B_a.alloc (.cells #[.slice (some ⟨g1, 0, none⟩) x.Global.length p1, .slice (some ⟨g2, 0, none⟩) x.Own.length p2] 34)
  replace B_r := B_r.alloc (.cells #[.slice (some ⟨g1, 0, none⟩) x.Global.length p1, .slice (some ⟨g2, 0, none⟩) x.Own.length p2] 34)
  replace o_c := o_c.alloc_ (.cells #[.slice (some ⟨g1, 0, none⟩) x.Global.length p1, .slice (some ⟨g2, 0, none⟩) x.Own.length p2] 34)
  replace hB := hB.alloc hB.size (.cells #[.slice (some ⟨g1, 0, none⟩) x.Global.length p1, .slice (some ⟨g2, 0, none⟩) x.Own.length p2] 34)
  have B_o : Box (w1.alloc (.cells #[.slice (some ⟨g1, 0, none⟩) x.Global.length p1, .slice (some ⟨g2, 0, none⟩) x.Own.length p2] 34)) w1.heap.size [.slice (some ⟨g1, 0, none⟩) x.Global.length p1, .slice (some ⟨g2, 0, none⟩) x.Own.length p2] := Box.new w1 #[.slice (some ⟨g1, 0, none⟩) x.Global.length p1, .slice (some ⟨g2, 0, none⟩) x.Own.length p2] 34
  have zz_o := B_o.lt
  have sz : w1.heap.size ≤ (w1.alloc (.cells #[.slice (some ⟨g1, 0, none⟩) x.Global.length p1, .slice (some ⟨g2, 0, none⟩) x.Own.length p2] 34)).heap.size := Nat.le_of_lt B_o.lt
  generalize hG : (w1.alloc (.cells #[.slice (some ⟨g1, 0, none⟩) x.Global.length p1, .slice (some ⟨g2, 0, none⟩) x.Own.length p2] 34)) = w2 at B_a B_r o_c hB B_o zz_o sz ⊢
  clear hG
  replace q_a_0 := B_a.cell 0 _ rfl
  replace q_a_1 := B_a.cell 1 _ rfl
  replace fr_a := B_a.fro
  replace z_a := B_a.lt
  replace q_r_0 := B_r.cell 0 _ rfl
  replace q_r_1 := B_r.cell 1 _ rfl
  replace fr_r := B_r.fro
  replace z_r := B_r.lt
  have q_o_0 := B_o.cell 0 _ rfl
  have q_o_1 := B_o.cell 1 _ rfl
  have fr_o := B_o.fro
  have z_o := B_o.lt
  refine (ListsOk_spec _ H x (rdLists_up h hB) (Nat.le_trans (Nat.le_add_right _ _) hs) (Nat.le_trans (Nat.le_add_left _ _) hs)).mono ?_
  rw [hok]
  rintro e w3 ⟨rfl, hb⟩
  replace B_a := B_a.below hb
  replace B_r := B_r.below hb
  replace B_o := B_o.below hb
  have o_c := o_c.step0 hb
  replace hB := hB.trans (hb.mono hB.size)
  have sz := hb.size
  clear hb
  replace q_a_0 := B_a.cell 0 _ rfl
  replace q_a_1 := B_a.cell 1 _ rfl
  replace fr_a := B_a.fro
  replace z_a := B_a.lt
  replace q_r_0 := B_r.cell 0 _ rfl
  replace q_r_1 := B_r.cell 1 _ rfl
  replace fr_r := B_r.fro
  replace z_r := B_r.lt
  replace q_o_0 := B_o.cell 0 _ rfl
  replace q_o_1 := B_o.cell 1 _ rfl
  replace fr_o := B_o.fro
  replace z_o := B_o.lt
  clear hok
  obtain ⟨so, hso2⟩ : ∃ q, T1[k]? = some q := ⟨_, List.getElem?_eq_getElem (by rw [o_c.Global.len]; exact HK9.out)⟩
  have HV := Hid.mk_ hso2
  clear hso2
  have ino := o_c.Global.inner k so _ HV.out HR.out
  have po := o_c.Global.outer.cell_ (j := 0) HV.out (by decide)
  simp only [FS, Nat.mul_one, Nat.add_zero] at po
  have hkk : k < x.Global.length := HK9.out
  obtain ⟨Ao, co, hvo, _⟩ := ino.rd'
  obtain ⟨ao, no, bo⟩ := so
  injection hvo with k1 k2 k3
  subst k1 k2 k3
  have po2 : _ = some (Value.slice ao 0 bo) := po
  clear po
  have hq := l8Pop_nil w3 ao bo
  clear ino
  go_wp2_with (first | (go_at_call 21; refine (l1In_ct _ _ _ _).mono ?_; rw [hicl]; rintro e wv ⟨rfl, rfl⟩))
  refine (hq).mono ?_
  rintro e w4 ⟨rfl, hb⟩
  replace B_a := B_a.below hb
  replace B_r := B_r.below hb
  replace B_o := B_o.below hb
  replace o_c := o_c.step0 hb
  replace hB := hB.trans (hb.mono hB.size)
  have sz := hb.size
  clear hb
  replace q_a_0 := B_a.cell 0 _ rfl
  replace q_a_1 := B_a.cell 1 _ rfl
  replace fr_a := B_a.fro
  replace z_a := B_a.lt
  replace q_r_0 := B_r.cell 0 _ rfl
  replace q_r_1 := B_r.cell 1 _ rfl
  replace fr_r := B_r.fro
  replace z_r := B_r.lt
  replace q_o_0 := B_o.cell 0 _ rfl
  replace q_o_1 := B_o.cell 1 _ rfl
  replace fr_o := B_o.fro
  replace z_o := B_o.lt
  clear hq po2
  replace B_a := B_a.alloc (.cells #[.slice ao 0 bo] 80)
  replace B_r := B_r.alloc (.cells #[.slice ao 0 bo] 80)
  replace B_o := B_o.alloc (.cells #[.slice ao 0 bo] 80)
  replace o_c := o_c.alloc_ (.cells #[.slice ao 0 bo] 80)
  replace hB := hB.alloc hB.size (.cells #[.slice ao 0 bo] 80)
  have sz3 : w4.heap.size ≤ (w4.alloc (.cells #[.slice ao 0 bo] 80)).heap.size := by simp
  have ff : (w4.alloc (.cells #[.slice ao 0 bo] 80)).frozen? ⟨g1, k, none⟩ = false := o_c.Global.outer.frozen_ k
  have po : (w4.alloc (.cells #[.slice ao 0 bo] 80)).cell? ⟨g1, k, none⟩ = some (.slice ao 0 bo) := by have po := o_c.Global.outer.cell_ (j := 0) HV.out (by decide); simp only [FS, Nat.mul_one, Nat.add_zero] at po; exact po
  have ino := o_c.Global.inner k _ _ HV.out HR.out
  have n_a : g1 ≠ w.heap.size := by omega
  have m_a : w.heap.size ≠ g1 := by omega
  have n_r : g1 ≠ w.heap.size + 1 := by omega
  have m_r : w.heap.size + 1 ≠ g1 := by omega
  have n_o : g1 ≠ w1.heap.size := by omega
  have m_o : w1.heap.size ≠ g1 := by omega
  have hin := ino
  have hN := OwLL.row_s (s' := ⟨ao, 0, bo⟩) (l' := []) o_c.Global HV.out hin rfl
  change OwLL _ _ _ (World.setCell _ _ (.slice ao 0 bo)) _ _ _ at hN
  clear q_a_0 q_a_1 fr_a z_a
  have q_a_0 := B_a.cell 0 _ rfl
  have q_a_1 := B_a.cell 1 _ rfl
  have fr_a := B_a.fro
  have z_a := B_a.lt
  clear q_r_0 q_r_1 fr_r z_r
  have q_r_0 := B_r.cell 0 _ rfl
  have q_r_1 := B_r.cell 1 _ rfl
  have fr_r := B_r.fro
  have z_r := B_r.lt
  clear q_o_0 q_o_1 fr_o z_o
  have q_o_0 := B_o.cell 0 _ rfl
  have q_o_1 := B_o.cell 1 _ rfl
  have fr_o := B_o.fro
  have z_o := B_o.lt
  go_wp2_with fail
  have hO := o_c.Own.chg (F := [g1]) ((Chg.refl _ (w4.alloc (.cells #[.slice ao 0 bo] 80))).set_ (g := g1) (i := k) (by simp) (.slice ao 0 bo)) (fun b hb hm => by simp only [List.mem_cons, List.not_mem_nil, or_false] at hm; subst hm; exact o_c.d01 b (mem_foot2.2 (.inl rfl)) hb)
  have hfs : foot2 (.slice (some ⟨g1, 0, none⟩) x.Global.length p1) (T1.set k ⟨ao, 0, bo⟩) = foot2 (.slice (some ⟨g1, 0, none⟩) x.Global.length p1) T1 := by unfold foot2; rw [flatMap_set_same (s' := ⟨ao, 0, bo⟩) HV.out rfl]
  have hfm : ∀ b, b ∈ foot2 (.slice (some ⟨g1, 0, none⟩) x.Global.length p1) (T1.set k ⟨ao, 0, bo⟩) → b ∈ foot2 (.slice (some ⟨g1, 0, none⟩) x.Global.length p1) T1 := fun b hb => by rw [← hfs]; exact hb
  rw [set_same HR.out] at hN
  refine bodyPost_ret (v := .tuple #[.agg #[.slice (some ⟨g1, 0, none⟩) x.Global.length p1, .slice (some ⟨g2, 0, none⟩) x.Own.length p2], .int .i64 (-1)]) (by simp [results, Tryz.results47, go_sem, q_r_0, q_r_1]) rfl ⟨⟨⟨some ⟨g1, 0, none⟩, x.Global.length, p1⟩, T1.set k ⟨ao, 0, bo⟩, ⟨some ⟨g2, 0, none⟩, x.Own.length, p2⟩, T2⟩, rfl, ⟨hN.chg (F := [w.heap.size + 1]) (by repeat (first | with_reducible exact Chg.refl _ _ | with_reducible refine Chg.set_ ?_ (by simp) _ | with_reducible refine Chg.alloc_ ?_ _ | with_reducible refine Chg.drew_ ?_)) (fun b hb hm => by simp only [List.mem_cons, List.not_mem_nil, or_false] at hm; have := l_c b (HLists.mem_foot.2 (.inl (hfm b hb))); omega), hO.chg (F := [w.heap.size + 1]) (by repeat (first | with_reducible exact Chg.refl _ _ | with_reducible refine Chg.set_ ?_ (by simp) _ | with_reducible refine Chg.alloc_ ?_ _ | with_reducible refine Chg.drew_ ?_)) (fun b hb hm => by simp only [List.mem_cons, List.not_mem_nil, or_false] at hm; have := l_c b (HLists.mem_foot.2 (.inr hb)); omega), fun b hb hm => o_c.d01 b (hfm b hb) hm⟩, fun b hb => ?_, Below.trans hB (by repeat (first | with_reducible exact Below.refl _ _ | with_reducible refine Below.setCell ?_ (by simp <;> omega) _ | with_reducible refine Below.alloc ?_ (by simp <;> omega) _ | with_reducible refine Below.drew ?_))⟩
  rcases HLists.mem_foot.1 hb with hb | hb
  · have := l_c b (HLists.mem_foot.2 (.inl (hfm b hb)))
    omega
  · have := l_c b (HLists.mem_foot.2 (.inr hb))
    omega
end Go.Proofs.YtpjijbonpjoamaaGreat

/-
  The handle of a slot as it stands: the contracts.
-/
namespace Go.Proofs.YtpjijbonpjoamaaGreat
open Go.RowKit

set_option maxRecDepth 100000 in
set_option maxHeartbeats 4000000 in
theorem handleIn_impl (w : World) (H : HMem) (_y : Mem) (x : Heap) (s : Int) (h : RdHeap w w.heap.size H.Heap x) (hs : shapeB x = true) (h1 : inB 0 23 s = true) (h2 : inB 1 6 (genInB x s) = true) :
    Calls Tryz.prog 54 #[.agg #[.slice H.Heap.Bytes.a H.Heap.Bytes.len H.Heap.Bytes.cap, .slice H.Heap.Class.a H.Heap.Class.len H.Heap.Class.cap, .slice H.Lists.Global.a H.Lists.Global.len H.Lists.Global.cap, .slice H.Lists.Own.a H.Lists.Own.len H.Lists.Own.cap], .int .i64 s] w fun e w' => e = .returned (.int .i64 (genInB x s * 32 + s)) ∧ Below w.heap.size w w' := by
  have hgi := fun (W : World) (hW : Below w.heap.size w W) => GenIn_impl W H.Heap x s (rdHeap_up h hW) hs
  have hho := fun W => HandleOf_impl s (genInB x s) W h1 h2
  have B_a : Box (w.alloc (.cells #[.slice H.Heap.Bytes.a H.Heap.Bytes.len H.Heap.Bytes.cap, .slice H.Heap.Class.a H.Heap.Class.len H.Heap.Class.cap, .slice H.Lists.Global.a H.Lists.Global.len H.Lists.Global.cap, .slice H.Lists.Own.a H.Lists.Own.len H.Lists.Own.cap] 36)) (w.heap.size) [.slice H.Heap.Bytes.a H.Heap.Bytes.len H.Heap.Bytes.cap, .slice H.Heap.Class.a H.Heap.Class.len H.Heap.Class.cap, .slice H.Lists.Global.a H.Lists.Global.len H.Lists.Global.cap, .slice H.Lists.Own.a H.Lists.Own.len H.Lists.Own.cap] := by
    have hbx := Box.new w #[.slice H.Heap.Bytes.a H.Heap.Bytes.len H.Heap.Bytes.cap, .slice H.Heap.Class.a H.Heap.Class.len H.Heap.Class.cap, .slice H.Lists.Global.a H.Lists.Global.len H.Lists.Global.cap, .slice H.Lists.Own.a H.Lists.Own.len H.Lists.Own.cap] 36
    exact hbx
  have hB : Below w.heap.size w (w.alloc (.cells #[.slice H.Heap.Bytes.a H.Heap.Bytes.len H.Heap.Bytes.cap, .slice H.Heap.Class.a H.Heap.Class.len H.Heap.Class.cap, .slice H.Lists.Global.a H.Lists.Global.len H.Lists.Global.cap, .slice H.Lists.Own.a H.Lists.Own.len H.Lists.Own.cap] 36)) := by repeat (first | exact Below.refl _ _ | refine Below.alloc ?_ (by simp <;> omega) _ | refine below_grow_of ?_ (by simp <;> omega) _ _ | refine Below.drew ?_ | refine below_drewN ?_ _)
  go_enter Tryz.func54, Tryz.ntmps54
  go_wp2_with fail
  generalize hW0 : (w.alloc (.cells #[.slice H.Heap.Bytes.a H.Heap.Bytes.len H.Heap.Bytes.cap, .slice H.Heap.Class.a H.Heap.Class.len H.Heap.Class.cap, .slice H.Lists.Global.a H.Lists.Global.len H.Lists.Global.cap, .slice H.Lists.Own.a H.Lists.Own.len H.Lists.Own.cap] 36)) = w0 at B_a hB ⊢
  clear hW0
  have zz_a := B_a.lt
  have q_a_0 := B_a.cell 0 _ rfl
  have q_a_1 := B_a.cell 1 _ rfl
  have q_a_2 := B_a.cell 2 _ rfl
  have q_a_3 := B_a.cell 3 _ rfl
  have fr_a := B_a.fro
  have z_a := B_a.lt
  refine (hgi _ hB).mono ?_
  rintro e w1 ⟨rfl, hb⟩
  replace B_a := B_a.below hb
  replace hB := hB.trans (hb.mono hB.size)
  have sz := hb.size
  clear hb
  replace q_a_0 := B_a.cell 0 _ rfl
  replace q_a_1 := B_a.cell 1 _ rfl
  replace q_a_2 := B_a.cell 2 _ rfl
  replace q_a_3 := B_a.cell 3 _ rfl
  replace fr_a := B_a.fro
  replace z_a := B_a.lt
  clear hgi
  go_wp2_with (go_at_call 103; refine (hho _).mono ?_; rintro e wv ⟨rfl, rfl⟩)
  go_ret
  exact ⟨rfl, Below.trans hB (by repeat (first | with_reducible exact Below.refl _ _ | with_reducible refine Below.setCell ?_ (by simp <;> omega) _ | with_reducible refine Below.alloc ?_ (by simp <;> omega) _ | with_reducible refine Below.drew ?_))⟩

set_option maxRecDepth 100000 in
set_option maxHeartbeats 4000000 in
theorem handleIn_spec (w : World) (H : HMem) (_y : Mem) (x : Heap) (s : Int) (h : RdHeap w w.heap.size H.Heap x) (hs : shapeB x = true) (h1 : inB 0 23 s = true) (h2 : inB 1 6 (genInB x s) = true) (k1 : ¬ classInB x s < 0) :
    Calls Tryz.prog 49 #[.agg #[.slice H.Heap.Bytes.a H.Heap.Bytes.len H.Heap.Bytes.cap, .slice H.Heap.Class.a H.Heap.Class.len H.Heap.Class.cap, .slice H.Lists.Global.a H.Lists.Global.len H.Lists.Global.cap, .slice H.Lists.Own.a H.Lists.Own.len H.Lists.Own.cap], .int .i64 s] w fun e w' => e = .returned (.int .i64 (genInB x s * 32 + s)) ∧ Below w.heap.size w w' := by
  have hgi := fun (W : World) (hW : Below w.heap.size w W) => l7Gen_spec W H.Heap x s (rdHeap_up h hW) hs k1
  have hho := fun W => HandleOf_spec s (genInB x s) W h1 h2
  have B_a : Box (w.alloc (.cells #[.slice H.Heap.Bytes.a H.Heap.Bytes.len H.Heap.Bytes.cap, .slice H.Heap.Class.a H.Heap.Class.len H.Heap.Class.cap, .slice H.Lists.Global.a H.Lists.Global.len H.Lists.Global.cap, .slice H.Lists.Own.a H.Lists.Own.len H.Lists.Own.cap] 36)) (w.heap.size) [.slice H.Heap.Bytes.a H.Heap.Bytes.len H.Heap.Bytes.cap, .slice H.Heap.Class.a H.Heap.Class.len H.Heap.Class.cap, .slice H.Lists.Global.a H.Lists.Global.len H.Lists.Global.cap, .slice H.Lists.Own.a H.Lists.Own.len H.Lists.Own.cap] := by
    have hbx := Box.new w #[.slice H.Heap.Bytes.a H.Heap.Bytes.len H.Heap.Bytes.cap, .slice H.Heap.Class.a H.Heap.Class.len H.Heap.Class.cap, .slice H.Lists.Global.a H.Lists.Global.len H.Lists.Global.cap, .slice H.Lists.Own.a H.Lists.Own.len H.Lists.Own.cap] 36
    exact hbx
  have hB : Below w.heap.size w (w.alloc (.cells #[.slice H.Heap.Bytes.a H.Heap.Bytes.len H.Heap.Bytes.cap, .slice H.Heap.Class.a H.Heap.Class.len H.Heap.Class.cap, .slice H.Lists.Global.a H.Lists.Global.len H.Lists.Global.cap, .slice H.Lists.Own.a H.Lists.Own.len H.Lists.Own.cap] 36)) := by repeat (first | exact Below.refl _ _ | refine Below.alloc ?_ (by simp <;> omega) _ | refine below_grow_of ?_ (by simp <;> omega) _ _ | refine Below.drew ?_ | refine below_drewN ?_ _)
  go_enter Tryz.func49, Tryz.ntmps49
  go_wp2_with fail
  generalize hW0 : (w.alloc (.cells #[.slice H.Heap.Bytes.a H.Heap.Bytes.len H.Heap.Bytes.cap, .slice H.Heap.Class.a H.Heap.Class.len H.Heap.Class.cap, .slice H.Lists.Global.a H.Lists.Global.len H.Lists.Global.cap, .slice H.Lists.Own.a H.Lists.Own.len H.Lists.Own.cap] 36)) = w0 at B_a hB ⊢
  clear hW0
  have zz_a := B_a.lt
  have q_a_0 := B_a.cell 0 _ rfl
  have q_a_1 := B_a.cell 1 _ rfl
  have q_a_2 := B_a.cell 2 _ rfl
  have q_a_3 := B_a.cell 3 _ rfl
  have fr_a := B_a.fro
  have z_a := B_a.lt
  refine (hgi _ hB).mono ?_
  rintro e w1 ⟨rfl, hb⟩
  replace B_a := B_a.below hb
  replace hB := hB.trans (hb.mono hB.size)
  have sz := hb.size
  clear hb
  replace q_a_0 := B_a.cell 0 _ rfl
  replace q_a_1 := B_a.cell 1 _ rfl
  replace q_a_2 := B_a.cell 2 _ rfl
  replace q_a_3 := B_a.cell 3 _ rfl
  replace fr_a := B_a.fro
  replace z_a := B_a.lt
  clear hgi
  go_wp2_with (go_at_call 97; refine (hho _).mono ?_; rintro e wv ⟨rfl, rfl⟩)
  go_ret
  exact ⟨rfl, Below.trans hB (by repeat (first | with_reducible exact Below.refl _ _ | with_reducible refine Below.setCell ?_ (by simp <;> omega) _ | with_reducible refine Below.alloc ?_ (by simp <;> omega) _ | with_reducible refine Below.drew ?_))⟩
end Go.Proofs.YtpjijbonpjoamaaGreat

/-
  AllocNow in plain form.
-/
namespace Go.Proofs.YtpjijbonpjoamaaGreat
open Go.RowKit

theorem fit_facts {h : Heap} {c s : Int} (hok : heapOkB h = true) (hf : fitsB h c s = true) (hc : inB 0 2 c = true) : inB 0 23 s = true ∧ classInB h s = c ∧ inB 1 6 (genInB h s) = true := by
  unfold fitsB at hf
  simp only [Bool.and_eq_true, beq_iff_eq, decide_eq_true_eq] at hf
  obtain ⟨h1, h2⟩ := hf
  obtain ⟨c0, c2⟩ := inB_iff.1 hc
  have hn : ¬ classInB h s < 0 := by omega
  have ha : ¬ genAt s (clAt h s) < 0 := fun e => hn (by unfold classInB; rw [if_pos e]; decide)
  have hcl : clAt h s = c := by unfold classInB at h1; rw [if_neg ha] at h1; exact h1
  rw [hcl] at ha
  have hg : inB 0 23 s = true ∧ inB 0 2 c = true ∧ s % 4 < perPage c := by
    by_cases hh : inB 0 23 s = true ∧ inB 0 2 c = true ∧ s % 4 < perPage c
    · exact hh
    · exact absurd (by unfold genAt; rw [if_neg hh]; decide) ha
  obtain ⟨s0, s1⟩ := inB_iff.1 hg.1
  have hgen : genInB h s = loadN h.Bytes (s / 4 * 64 + 8 + s % 4 * strideOf c) 4 := by
    unfold genInB
    rw [if_neg hn, h1]
    unfold genAt
    rw [if_pos hg]
  have hst := (strideOf_bd c).1
  have hp : (s / 4).toNat < 6 := by omega
  unfold heapOkB at hok
  simp only [Bool.and_eq_true] at hok
  have hpg := List.all_eq_true.1 hok.2 (s / 4).toNat (List.mem_range.2 hp)
  unfold clAt at hcl
  unfold pageOkB at hpg
  rw [hcl, if_neg (by omega)] at hpg
  simp only [Bool.and_eq_true] at hpg
  have hgs := hpg.2
  unfold gensB at hgs
  have := List.all_eq_true.1 hgs (s % 4).toNat (List.mem_range.2 (by omega))
  rw [show (((s / 4).toNat * 64 + 8 + (s % 4).toNat * (strideOf c).toNat : Nat) : Int) = s / 4 * 64 + 8 + s % 4 * strideOf c by
    simp only [Int.natCast_add, Int.natCast_mul, Int.toNat_of_nonneg (show 0 ≤ s / 4 by omega), Int.toNat_of_nonneg (show 0 ≤ s % 4 by omega), Int.toNat_of_nonneg hst]
    rfl] at this
  rw [← hgen] at this
  obtain ⟨a, b⟩ := inB_iff.1 this
  exact ⟨hg.1, h1, inB_iff.2 ⟨a, h2⟩⟩
theorem own_fits {m : Mem} {k : Nat} {l : List Int} {s : Int} (hok : memOkB m = true) (hk : k < 9) (hr : m.Lists.Own[k]? = some l) (hs : s ∈ l) : fitsB m.Heap ((k % 3 : Nat) : Int) s = true := by
  unfold memOkB at hok
  simp only [Bool.and_eq_true] at hok
  have := List.all_eq_true.1 hok.2 k (List.mem_range.2 hk)
  rw [List.getD_eq_getElem?_getD, hr] at this
  exact List.all_eq_true.1 this s hs
theorem global_fits {m : Mem} {c : Nat} {l : List Int} {s : Int} (hok : memOkB m = true) (hc : c < 3) (hr : m.Lists.Global[c]? = some l) (hs : s ∈ l) : fitsB m.Heap (c : Int) s = true := by
  unfold memOkB at hok
  simp only [Bool.and_eq_true] at hok
  have := List.all_eq_true.1 hok.1.2 c (List.mem_range.2 hc)
  rw [List.getD_eq_getElem?_getD, hr] at this
  exact List.all_eq_true.1 this s hs
def grantM (m : Mem) (p c : Nat) : Mem := { Heap := grantH m.Heap p c, Lists := { m.Lists with Global := m.Lists.Global.set c (m.Lists.Global.getD c [] ++ (slotsTo p (perPage (c : Int)).toNat).drop 1) } }
def popOwn (m : Mem) (k : Nat) : Mem := { m with Lists := { m.Lists with Own := m.Lists.Own.set k (m.Lists.Own.getD k []).dropLast } }
def popGlobal (m : Mem) (c : Nat) : Mem := { m with Lists := { m.Lists with Global := m.Lists.Global.set c (m.Lists.Global.getD c []).dropLast } }
def handleP (h : Heap) (s : Int) : Int := genInB h s * 32 + s
def allocC (m : Mem) (w c : Nat) : Mem × Int × Int :=
  match (m.Lists.Own.getD (w * 3 + c) []).getLast? with
  | some s => (popOwn m (w * 3 + c), handleP m.Heap s, 0)
  | none => match (m.Lists.Global.getD c []).getLast? with
    | some s => (popGlobal m c, handleP m.Heap s, 0)
    | none => if idxOf (fun y => y == -1) m.Heap.Class < 0 then (m, 0, 3) else
      (grantM m (idxOf (fun y => y == -1) m.Heap.Class).toNat c, handleP (grantH m.Heap (idxOf (fun y => y == -1) m.Heap.Class).toNat c) (((idxOf (fun y => y == -1) m.Heap.Class).toNat * 4 : Nat) : Int), 0)
def allocP (m : Mem) (w n : Int) : Mem × Int × Int := if memOkB m = false ∨ inB 0 2 w = false then (m, 0, 1) else if classOfS n < 0 then (m, 0, 2) else allocC m w.toNat (classOfS n).toNat
theorem alloc_no1 {m : Mem} {w n : Int} (c : memOkB m = false ∨ inB 0 2 w = false) : allocP m w n = (m, 0, 1) := if_pos c
theorem alloc_no2 {m : Mem} {w n : Int} (c1 : memOkB m = true) (c2 : inB 0 2 w = true) (c3 : classOfS n < 0) : allocP m w n = (m, 0, 2) := by
  unfold allocP
  rw [if_neg (by rw [c1, c2]; decide), if_pos c3]
theorem alloc_go {m : Mem} {w n : Int} (c1 : memOkB m = true) (c2 : inB 0 2 w = true) (c3 : ¬ classOfS n < 0) : allocP m w n = allocC m w.toNat (classOfS n).toNat := by
  unfold allocP
  rw [if_neg (by rw [c1, c2]; decide), if_neg c3]
theorem allocC_own {m : Mem} {w c : Nat} {l : List Int} {s : Int} (h : m.Lists.Own[w * 3 + c]? = some (l ++ [s])) : allocC m w c = ({ m with Lists := { m.Lists with Own := m.Lists.Own.set (w * 3 + c) l } }, genInB m.Heap s * 32 + s, 0) := by
  unfold allocC popOwn handleP
  rw [List.getD_eq_getElem?_getD, h]
  simp
theorem allocC_global {m : Mem} {w c : Nat} {l : List Int} {s : Int} (h0 : m.Lists.Own[w * 3 + c]? = some []) (h : m.Lists.Global[c]? = some (l ++ [s])) : allocC m w c = ({ m with Lists := { m.Lists with Global := m.Lists.Global.set c l } }, genInB m.Heap s * 32 + s, 0) := by
  unfold allocC popGlobal handleP
  rw [List.getD_eq_getElem?_getD, h0, List.getD_eq_getElem?_getD, h]
  simp
theorem allocC_none {m : Mem} {w c : Nat} (h0 : m.Lists.Own[w * 3 + c]? = some []) (h : m.Lists.Global[c]? = some []) (hp : idxOf (fun y => y == -1) m.Heap.Class = -1) : allocC m w c = (m, 0, 3) := by
  unfold allocC
  rw [List.getD_eq_getElem?_getD, h0, List.getD_eq_getElem?_getD, h, hp]
  simp
theorem allocC_grant {m : Mem} {w c p : Nat} (h0 : m.Lists.Own[w * 3 + c]? = some []) (h : m.Lists.Global[c]? = some []) (hp : idxOf (fun y => y == -1) m.Heap.Class = (p : Int)) : allocC m w c = (grantM m p c, genInB (grantH m.Heap p c) ((p * 4 : Nat) : Int) * 32 + ((p * 4 : Nat) : Int), 0) := by
  unfold allocC handleP
  rw [List.getD_eq_getElem?_getD, h0, List.getD_eq_getElem?_getD, h, hp]
  simp only [Option.getD_some, List.getLast?_nil, Int.toNat_natCast]
  rw [if_neg (by omega)]
end Go.Proofs.YtpjijbonpjoamaaGreat

/-
  No page left to grant: the contract.
-/
namespace Go.Proofs.YtpjijbonpjoamaaGreat
open Go.RowKit

set_option maxRecDepth 100000 in
set_option maxHeartbeats 8000000 in
theorem granted_no (w : World) (H : HMem) (x : Mem) (c : Nat) (h : RdMem w w.heap.size H x) (hs : sizeMem x ≤ 536870912) (hok : memOkB x = true) (hc : c < 3) (hp : idxOf (fun y => y == -1) x.Heap.Class = -1) :
    Calls Tryz.prog 53 #[.agg #[.slice H.Heap.Bytes.a H.Heap.Bytes.len H.Heap.Bytes.cap, .slice H.Heap.Class.a H.Heap.Class.len H.Heap.Class.cap, .slice H.Lists.Global.a H.Lists.Global.len H.Lists.Global.cap, .slice H.Lists.Own.a H.Lists.Own.len H.Lists.Own.cap], .int .i64 c] w fun e w' => ∃ H' : HMem, e = .returned (.tuple #[.agg #[.slice H'.Heap.Bytes.a H'.Heap.Bytes.len H'.Heap.Bytes.cap, .slice H'.Heap.Class.a H'.Heap.Class.len H'.Heap.Class.cap, .slice H'.Lists.Global.a H'.Lists.Global.len H'.Lists.Global.cap, .slice H'.Lists.Own.a H'.Lists.Own.len H'.Lists.Own.cap], .int .i64 (-1)]) ∧ OwMem w' H' (x) ∧ (∀ g ∈ H'.foot, w.heap.size ≤ g) ∧ Below w.heap.size w w' := by
  have hsh2 : sizeHeap x.Heap ≤ 536870912 ∧ sizeLists x.Lists ≤ 536870912 := by unfold sizeMem at hs; omega
  have hgr := fun (W : World) (hW : Below w.heap.size w W) => Grant_no W H.Heap x.Heap c (rdHeap_up h.Heap hW) hsh2.1 (mem_heap hok) hc hp
  have hcl := fun (W : World) (hW : Below w.heap.size w W) => copyLists_impl W H.Lists x.Lists (rdLists_up h.Lists hW) hsh2.2
  have B_a : Box ((w.alloc (.cells #[.slice H.Heap.Bytes.a H.Heap.Bytes.len H.Heap.Bytes.cap, .slice H.Heap.Class.a H.Heap.Class.len H.Heap.Class.cap, .slice H.Lists.Global.a H.Lists.Global.len H.Lists.Global.cap, .slice H.Lists.Own.a H.Lists.Own.len H.Lists.Own.cap] 36)).alloc (.cells #[.slice none 0 0, .slice none 0 0, .slice none 0 0, .slice none 0 0] 36)) (w.heap.size) [.slice H.Heap.Bytes.a H.Heap.Bytes.len H.Heap.Bytes.cap, .slice H.Heap.Class.a H.Heap.Class.len H.Heap.Class.cap, .slice H.Lists.Global.a H.Lists.Global.len H.Lists.Global.cap, .slice H.Lists.Own.a H.Lists.Own.len H.Lists.Own.cap] := by
    have hbx := Box.new w #[.slice H.Heap.Bytes.a H.Heap.Bytes.len H.Heap.Bytes.cap, .slice H.Heap.Class.a H.Heap.Class.len H.Heap.Class.cap, .slice H.Lists.Global.a H.Lists.Global.len H.Lists.Global.cap, .slice H.Lists.Own.a H.Lists.Own.len H.Lists.Own.cap] 36
    exact (hbx).alloc _
  have B_r : Box ((w.alloc (.cells #[.slice H.Heap.Bytes.a H.Heap.Bytes.len H.Heap.Bytes.cap, .slice H.Heap.Class.a H.Heap.Class.len H.Heap.Class.cap, .slice H.Lists.Global.a H.Lists.Global.len H.Lists.Global.cap, .slice H.Lists.Own.a H.Lists.Own.len H.Lists.Own.cap] 36)).alloc (.cells #[.slice none 0 0, .slice none 0 0, .slice none 0 0, .slice none 0 0] 36)) (w.heap.size + 1) [.slice none 0 0, .slice none 0 0, .slice none 0 0, .slice none 0 0] := by
    have hbx := Box.new (w.alloc (.cells #[.slice H.Heap.Bytes.a H.Heap.Bytes.len H.Heap.Bytes.cap, .slice H.Heap.Class.a H.Heap.Class.len H.Heap.Class.cap, .slice H.Lists.Global.a H.Lists.Global.len H.Lists.Global.cap, .slice H.Lists.Own.a H.Lists.Own.len H.Lists.Own.cap] 36)) #[.slice none 0 0, .slice none 0 0, .slice none 0 0, .slice none 0 0] 36
    simp only [World.size_alloc] at hbx
    exact hbx
  have hB : Below w.heap.size w ((w.alloc (.cells #[.slice H.Heap.Bytes.a H.Heap.Bytes.len H.Heap.Bytes.cap, .slice H.Heap.Class.a H.Heap.Class.len H.Heap.Class.cap, .slice H.Lists.Global.a H.Lists.Global.len H.Lists.Global.cap, .slice H.Lists.Own.a H.Lists.Own.len H.Lists.Own.cap] 36)).alloc (.cells #[.slice none 0 0, .slice none 0 0, .slice none 0 0, .slice none 0 0] 36)) := by repeat (first | exact Below.refl _ _ | refine Below.alloc ?_ (by simp <;> omega) _ | refine below_grow_of ?_ (by simp <;> omega) _ _ | refine Below.drew ?_ | refine below_drewN ?_ _)
  go_enter Tryz.func53, Tryz.ntmps53
  go_wp2_with fail
  generalize hW0 : ((w.alloc (.cells #[.slice H.Heap.Bytes.a H.Heap.Bytes.len H.Heap.Bytes.cap, .slice H.Heap.Class.a H.Heap.Class.len H.Heap.Class.cap, .slice H.Lists.Global.a H.Lists.Global.len H.Lists.Global.cap, .slice H.Lists.Own.a H.Lists.Own.len H.Lists.Own.cap] 36)).alloc (.cells #[.slice none 0 0, .slice none 0 0, .slice none 0 0, .slice none 0 0] 36)) = w0 at B_a B_r hB ⊢
  clear hW0
  have zz_a := B_a.lt
  have zz_r := B_r.lt
  have q_a_0 := B_a.cell 0 _ rfl
  have q_a_1 := B_a.cell 1 _ rfl
  have q_a_2 := B_a.cell 2 _ rfl
  have q_a_3 := B_a.cell 3 _ rfl
  have fr_a := B_a.fro
  have z_a := B_a.lt
  have q_r_0 := B_r.cell 0 _ rfl
  have q_r_1 := B_r.cell 1 _ rfl
  have q_r_2 := B_r.cell 2 _ rfl
  have q_r_3 := B_r.cell 3 _ rfl
  have fr_r := B_r.fro
  have z_r := B_r.lt
  clear hsh2 hs hok hp
  refine (hgr _ hB).mono ?_
  rintro e w1 ⟨K_g, A_s, c_s, rfl, o_g, l_g, hb⟩
  have u_g := o_g.lt
  replace B_a := B_a.below hb
  replace B_r := B_r.below hb
  replace hB := hB.trans (hb.mono hB.size)
  have sz := hb.size
  clear hb
  replace q_a_0 := B_a.cell 0 _ rfl
  replace q_a_1 := B_a.cell 1 _ rfl
  replace q_a_2 := B_a.cell 2 _ rfl
  replace q_a_3 := B_a.cell 3 _ rfl
  replace fr_a := B_a.fro
  replace z_a := B_a.lt
  replace q_r_0 := B_r.cell 0 _ rfl
  replace q_r_1 := B_r.cell 1 _ rfl
  replace q_r_2 := B_r.cell 2 _ rfl
  replace q_r_3 := B_r.cell 3 _ rfl
  replace fr_r := B_r.fro
  replace z_r := B_r.lt
  clear hgr
  go_upto_region 2 with (fail)
  replace B_a := B_a.alloc (.cells #[.slice K_g.Bytes.a K_g.Bytes.len K_g.Bytes.cap, .slice K_g.Class.a K_g.Class.len K_g.Class.cap] 31)
  replace B_r := B_r.alloc (.cells #[.slice K_g.Bytes.a K_g.Bytes.len K_g.Bytes.cap, .slice K_g.Class.a K_g.Class.len K_g.Class.cap] 31)
  replace o_g := o_g.alloc_ (.cells #[.slice K_g.Bytes.a K_g.Bytes.len K_g.Bytes.cap, .slice K_g.Class.a K_g.Class.len K_g.Class.cap] 31)
  replace hB := hB.alloc hB.size (.cells #[.slice K_g.Bytes.a K_g.Bytes.len K_g.Bytes.cap, .slice K_g.Class.a K_g.Class.len K_g.Class.cap] 31)
  have B_p : Box (w1.alloc (.cells #[.slice K_g.Bytes.a K_g.Bytes.len K_g.Bytes.cap, .slice K_g.Class.a K_g.Class.len K_g.Class.cap] 31)) w1.heap.size [.slice K_g.Bytes.a K_g.Bytes.len K_g.Bytes.cap, .slice K_g.Class.a K_g.Class.len K_g.Class.cap] := Box.new w1 #[.slice K_g.Bytes.a K_g.Bytes.len K_g.Bytes.cap, .slice K_g.Class.a K_g.Class.len K_g.Class.cap] 31
  have zz_p := B_p.lt
  have sz : w1.heap.size ≤ (w1.alloc (.cells #[.slice K_g.Bytes.a K_g.Bytes.len K_g.Bytes.cap, .slice K_g.Class.a K_g.Class.len K_g.Class.cap] 31)).heap.size := Nat.le_of_lt B_p.lt
  generalize hG : (w1.alloc (.cells #[.slice K_g.Bytes.a K_g.Bytes.len K_g.Bytes.cap, .slice K_g.Class.a K_g.Class.len K_g.Class.cap] 31)) = w2 at B_a B_r o_g hB B_p zz_p sz ⊢
  clear hG
  replace q_a_0 := B_a.cell 0 _ rfl
  replace q_a_1 := B_a.cell 1 _ rfl
  replace q_a_2 := B_a.cell 2 _ rfl
  replace q_a_3 := B_a.cell 3 _ rfl
  replace fr_a := B_a.fro
  replace z_a := B_a.lt
  replace q_r_0 := B_r.cell 0 _ rfl
  replace q_r_1 := B_r.cell 1 _ rfl
  replace q_r_2 := B_r.cell 2 _ rfl
  replace q_r_3 := B_r.cell 3 _ rfl
  replace fr_r := B_r.fro
  replace z_r := B_r.lt
  have q_p_0 := B_p.cell 0 _ rfl
  have q_p_1 := B_p.cell 1 _ rfl
  have fr_p := B_p.fro
  have z_p := B_p.lt
  go_upto_region 2 with (fail)
  go_cut [8] from 8 to 20 (fun v8 wx => ∃ (go : Nat) (K_l : HLists), v8 = .pointer (some ⟨go, 0, none⟩) ∧ Box wx (w.heap.size) [.slice H.Heap.Bytes.a H.Heap.Bytes.len H.Heap.Bytes.cap, .slice H.Heap.Class.a H.Heap.Class.len H.Heap.Class.cap, .slice H.Lists.Global.a H.Lists.Global.len H.Lists.Global.cap, .slice H.Lists.Own.a H.Lists.Own.len H.Lists.Own.cap] ∧ Box wx (w.heap.size + 1) [.slice none 0 0, .slice none 0 0, .slice none 0 0, .slice none 0 0] ∧ Box wx (w1.heap.size) [.slice K_g.Bytes.a K_g.Bytes.len K_g.Bytes.cap, .slice K_g.Class.a K_g.Class.len K_g.Class.cap] ∧ Box wx go [.slice K_g.Bytes.a K_g.Bytes.len K_g.Bytes.cap, .slice K_g.Class.a K_g.Class.len K_g.Class.cap, .slice K_l.Global.a K_l.Global.len K_l.Global.cap, .slice K_l.Own.a K_l.Own.len K_l.Own.cap] ∧ OwHeap wx K_g x.Heap ∧ OwLists wx K_l x.Lists ∧ (∀ g ∈ K_l.foot, w2.heap.size ≤ g ∧ g ≠ go) ∧ w2.heap.size ≤ go ∧ Below w.heap.size w wx ∧ w2.heap.size ≤ wx.heap.size)
  case first =>
    go_region_with (first | (go_at_call 77; (first | ((with_reducible refine (hcl _ hB).mono ?_); rintro e wq ⟨K_l, rfl, o_l, l_l, hb⟩; have u_l := o_l.lt; replace B_a := B_a.below hb; replace B_r := B_r.below hb; replace B_p := B_p.below hb; replace o_g := o_g.step0 hb; replace hB := hB.trans (hb.mono hB.size); have sz := hb.size; (try replace B_o := B_o.below hb); (try replace q_o_0 := B_o.cell 0 _ rfl); (try replace q_o_1 := B_o.cell 1 _ rfl); (try replace q_o_2 := B_o.cell 2 _ rfl); (try replace q_o_3 := B_o.cell 3 _ rfl); (try replace fr_o := B_o.fro); (try replace z_o := B_o.lt); clear hb; replace q_a_0 := B_a.cell 0 _ rfl; replace q_a_1 := B_a.cell 1 _ rfl; replace q_a_2 := B_a.cell 2 _ rfl; replace q_a_3 := B_a.cell 3 _ rfl; replace fr_a := B_a.fro; replace z_a := B_a.lt; replace q_r_0 := B_r.cell 0 _ rfl; replace q_r_1 := B_r.cell 1 _ rfl; replace q_r_2 := B_r.cell 2 _ rfl; replace q_r_3 := B_r.cell 3 _ rfl; replace fr_r := B_r.fro; replace z_r := B_r.lt; replace q_p_0 := B_p.cell 0 _ rfl; replace q_p_1 := B_p.cell 1 _ rfl; replace fr_p := B_p.fro; replace z_p := B_p.lt) | ((with_reducible refine (hcl _ hB.drew).mono ?_); rintro e wq ⟨K_l, rfl, o_l, l_l, hb⟩; replace hb := undrew hb; replace l_l := fcdrew l_l; have u_l := o_l.lt; replace B_a := B_a.below hb; replace B_r := B_r.below hb; replace B_p := B_p.below hb; replace o_g := o_g.step0 hb; replace hB := hB.trans (hb.mono hB.size); have sz := hb.size; (try replace B_o := B_o.below hb); (try replace q_o_0 := B_o.cell 0 _ rfl); (try replace q_o_1 := B_o.cell 1 _ rfl); (try replace q_o_2 := B_o.cell 2 _ rfl); (try replace q_o_3 := B_o.cell 3 _ rfl); (try replace fr_o := B_o.fro); (try replace z_o := B_o.lt); clear hb; replace q_a_0 := B_a.cell 0 _ rfl; replace q_a_1 := B_a.cell 1 _ rfl; replace q_a_2 := B_a.cell 2 _ rfl; replace q_a_3 := B_a.cell 3 _ rfl; replace fr_a := B_a.fro; replace z_a := B_a.lt; replace q_r_0 := B_r.cell 0 _ rfl; replace q_r_1 := B_r.cell 1 _ rfl; replace q_r_2 := B_r.cell 2 _ rfl; replace q_r_3 := B_r.cell 3 _ rfl; replace fr_r := B_r.fro; replace z_r := B_r.lt; replace q_p_0 := B_p.cell 0 _ rfl; replace q_p_1 := B_p.cell 1 _ rfl; replace fr_p := B_p.fro; replace z_p := B_p.lt) | ((with_reducible refine (hcl _ (hB.alloc hB.size _)).mono ?_); rintro e wq ⟨K_l, rfl, o_l, l_l, hb⟩; simp only [World.size_alloc] at l_l; have u_l := o_l.lt; replace B_a := (B_a.alloc _).below hb; replace B_r := (B_r.alloc _).below hb; replace B_p := (B_p.alloc _).below hb; replace o_g := o_g.step hb; replace hB := below_step hB hb hB.size; have sz := hb.size; simp only [World.size_alloc] at sz; have B_o := Box.below (Box.new _ #[.slice none 0 0, .slice none 0 0, .slice none 0 0, .slice none 0 0] 36) hb; have q_o_0 := B_o.cell 0 _ rfl; have q_o_1 := B_o.cell 1 _ rfl; have q_o_2 := B_o.cell 2 _ rfl; have q_o_3 := B_o.cell 3 _ rfl; have fr_o := B_o.fro; have z_o := B_o.lt; clear hb; replace q_a_0 := B_a.cell 0 _ rfl; replace q_a_1 := B_a.cell 1 _ rfl; replace q_a_2 := B_a.cell 2 _ rfl; replace q_a_3 := B_a.cell 3 _ rfl; replace fr_a := B_a.fro; replace z_a := B_a.lt; replace q_r_0 := B_r.cell 0 _ rfl; replace q_r_1 := B_r.cell 1 _ rfl; replace q_r_2 := B_r.cell 2 _ rfl; replace q_r_3 := B_r.cell 3 _ rfl; replace fr_r := B_r.fro; replace z_r := B_r.lt; replace q_p_0 := B_p.cell 0 _ rfl; replace q_p_1 := B_p.cell 1 _ rfl; replace fr_p := B_p.fro; replace z_p := B_p.lt) | ((with_reducible refine (hcl _ (hB.alloc hB.size _).drew).mono ?_); rintro e wq ⟨K_l, rfl, o_l, l_l, hb⟩; replace hb := undrew hb; replace l_l := fcdrew l_l; simp only [World.size_alloc] at l_l; have u_l := o_l.lt; replace B_a := (B_a.alloc _).below hb; replace B_r := (B_r.alloc _).below hb; replace B_p := (B_p.alloc _).below hb; replace o_g := o_g.step hb; replace hB := below_step hB hb hB.size; have sz := hb.size; simp only [World.size_alloc] at sz; have B_o := Box.below (Box.new _ #[.slice none 0 0, .slice none 0 0, .slice none 0 0, .slice none 0 0] 36) hb; have q_o_0 := B_o.cell 0 _ rfl; have q_o_1 := B_o.cell 1 _ rfl; have q_o_2 := B_o.cell 2 _ rfl; have q_o_3 := B_o.cell 3 _ rfl; have fr_o := B_o.fro; have z_o := B_o.lt; clear hb; replace q_a_0 := B_a.cell 0 _ rfl; replace q_a_1 := B_a.cell 1 _ rfl; replace q_a_2 := B_a.cell 2 _ rfl; replace q_a_3 := B_a.cell 3 _ rfl; replace fr_a := B_a.fro; replace z_a := B_a.lt; replace q_r_0 := B_r.cell 0 _ rfl; replace q_r_1 := B_r.cell 1 _ rfl; replace q_r_2 := B_r.cell 2 _ rfl; replace q_r_3 := B_r.cell 3 _ rfl; replace fr_r := B_r.fro; replace z_r := B_r.lt; replace q_p_0 := B_p.cell 0 _ rfl; replace q_p_1 := B_p.cell 1 _ rfl; replace fr_p := B_p.fro; replace z_p := B_p.lt))))
    all_goals
      go_wp2_with fail
      go_meet
      first | exact ⟨_, K_l, rfl, B_a.alloc _, B_r.alloc _, B_p.alloc _, Box.new _ _ _, o_g.alloc_ _, o_l.alloc_ _, fun g hg => ⟨by have := l_l g hg; omega, by have := u_l g hg; omega⟩, by omega, hB.alloc hB.size _, by simp <;> omega⟩ | (obtain ⟨go, hgo, B_go⟩ := B_o.ad; rw [← hgo]; exact ⟨go, K_l, rfl, ((((B_a.other (by omega) _).other (by omega) _).other (by omega) _).other (by omega) _), ((((B_r.other (by omega) _).other (by omega) _).other (by omega) _).other (by omega) _), ((((B_p.other (by omega) _).other (by omega) _).other (by omega) _).other (by omega) _), ((((B_go.set 0 _).set 1 _).set 2 _).set 3 _), o_g.chg (F := [go]) (by repeat (first | with_reducible exact Chg.refl _ _ | with_reducible refine Chg.set_ ?_ (by simp) _ | with_reducible refine Chg.alloc_ ?_ _ | with_reducible refine Chg.drew_ ?_)) (fun g hg hm => by simp only [List.mem_cons, List.not_mem_nil, or_false] at hm; have := l_g g hg; have := u_g g hg; omega), o_l.chg (F := [go]) (by repeat (first | with_reducible exact Chg.refl _ _ | with_reducible refine Chg.set_ ?_ (by simp) _ | with_reducible refine Chg.alloc_ ?_ _ | with_reducible refine Chg.drew_ ?_)) (fun g hg hm => by simp only [List.mem_cons, List.not_mem_nil, or_false] at hm; have := l_l g hg; have := u_l g hg; omega), fun g hg => ⟨by have := l_l g hg; omega, by have := l_l g hg; have := u_l g hg; omega⟩, by omega, Below.trans hB (by repeat (first | with_reducible exact Below.refl _ _ | with_reducible refine Below.setCell ?_ (by simp <;> omega) _ | with_reducible refine Below.alloc ?_ (by simp <;> omega) _ | with_reducible refine Below.drew ?_)), by simp <;> omega⟩)
  case rest =>
    clear B_a fr_a z_a q_a_0 q_a_1 q_a_2 q_a_3
    clear B_r fr_r z_r q_r_0 q_r_1 q_r_2 q_r_3
    clear B_p fr_p z_p q_p_0 q_p_1
    clear o_g
    clear hB
    obtain ⟨go, K_l, rfl, B_a, B_r, B_p, B_o, o_g, o_l, ln_l, lo_o, hB, sz⟩ := hcut
    have l_l := fun g hg => (ln_l g hg).1
    have ne_o := fun g hg => (ln_l g hg).2
    have u_l := o_l.lt
    clear ln_l
    have zz_o := B_o.lt
    have q_a_0 := B_a.cell 0 _ rfl
    have q_a_1 := B_a.cell 1 _ rfl
    have q_a_2 := B_a.cell 2 _ rfl
    have q_a_3 := B_a.cell 3 _ rfl
    have fr_a := B_a.fro
    have z_a := B_a.lt
    have q_r_0 := B_r.cell 0 _ rfl
    have q_r_1 := B_r.cell 1 _ rfl
    have q_r_2 := B_r.cell 2 _ rfl
    have q_r_3 := B_r.cell 3 _ rfl
    have fr_r := B_r.fro
    have z_r := B_r.lt
    have q_p_0 := B_p.cell 0 _ rfl
    have q_p_1 := B_p.cell 1 _ rfl
    have fr_p := B_p.fro
    have z_p := B_p.lt
    have q_o_0 := B_o.cell 0 _ rfl
    have q_o_1 := B_o.cell 1 _ rfl
    have q_o_2 := B_o.cell 2 _ rfl
    have q_o_3 := B_o.cell 3 _ rfl
    have fr_o := B_o.fro
    have z_o := B_o.lt
    clear hcl
    go_wp2_with fail
    refine bodyPost_ret (v := .tuple #[.agg #[.slice K_g.Bytes.a K_g.Bytes.len K_g.Bytes.cap, .slice K_g.Class.a K_g.Class.len K_g.Class.cap, .slice K_l.Global.a K_l.Global.len K_l.Global.cap, .slice K_l.Own.a K_l.Own.len K_l.Own.cap], .int .i64 (-1)]) (by simp [results, Tryz.results53, go_sem, q_r_0, q_r_1, q_r_2, q_r_3]) rfl ⟨⟨K_g, K_l⟩, rfl, ⟨o_g.chg (F := [w.heap.size + 1]) (by repeat (first | with_reducible exact Chg.refl _ _ | with_reducible refine Chg.set_ ?_ (by simp) _ | with_reducible refine Chg.alloc_ ?_ _ | with_reducible refine Chg.drew_ ?_)) (fun g hg hm => by simp only [List.mem_cons, List.not_mem_nil, or_false] at hm; have := l_g g hg; have := u_g g hg; omega), o_l.chg (F := [w.heap.size + 1]) (by repeat (first | with_reducible exact Chg.refl _ _ | with_reducible refine Chg.set_ ?_ (by simp) _ | with_reducible refine Chg.alloc_ ?_ _ | with_reducible refine Chg.drew_ ?_)) (fun g hg hm => by simp only [List.mem_cons, List.not_mem_nil, or_false] at hm; have := l_l g hg; have := u_l g hg; omega), fun b hb hm => by have := u_g b hb; have := l_g b hb; have := u_l b hm; have := l_l b hm; omega⟩, fun b hb => by rcases HMem.mem_foot.1 hb with hb | hb; (have := l_g b hb; omega); (have := l_l b hb; omega), Below.trans hB (by repeat (first | with_reducible exact Below.refl _ _ | with_reducible refine Below.setCell ?_ (by simp <;> omega) _ | with_reducible refine Below.alloc ?_ (by simp <;> omega) _ | with_reducible refine Below.drew ?_))⟩
end Go.Proofs.YtpjijbonpjoamaaGreat

