/-
  A slot given back: the reference.
-/
import Derived.Test.YtcligoicoeklfaaGreatT
import Derived.Test.YtcligoicoeklfaaGreatL
import Derived.Deep.QuietTactic
import Derived.BigQuiet
import Derived.Deep.LoopGhost
import Derived.Deep.RegionHeld3
import Derived.Test.YtcligoicoeklfaaGreatN
import Derived.Test.YtcligoicoeklfaaGreatA
import Derived.WalkSpells
import Derived.Laws.Cover3
import Derived.Test.YtcligoicoeklfaaGreatG2
namespace Go.Proofs.YtcligoicoeklfaaGreat
open Go.RowKit

theorem Chg.trans_new {F : List Nat} {a b c d : World} {g r : Nat} (h : Chg F a b) (h2 : Chg F b c) (_hg : g ∈ F) (h3 : Chg [g, r] c d) (_hr : a.heap.size ≤ r) : Chg F a d :=
  ⟨h3.os.trans (h2.os.trans h.os), h3.tape.trans (h2.tape.trans h.tape), h3.output.trans (h2.output.trans h.output), Nat.le_trans h.size (Nat.le_trans h2.size h3.size), fun k hk hn => by
    have h4 := Nat.lt_of_lt_of_le hk h.size
    have h5 := Nat.lt_of_lt_of_le h4 h2.size
    rw [h3.block k h5 (by simp only [List.mem_cons, List.not_mem_nil, or_false]; intro hh; rcases hh with rfl | rfl; exact hn _hg; omega), h2.block k h4 hn, h.block k hk hn]⟩

set_option maxRecDepth 100000 in
set_option maxHeartbeats 4000000 in
theorem l8Give_spec (w : World) (H : HLists) (x : Lists) (wk c : Nat) (s : Int) (h : OwLists w H x) (hs : sizeLists x ≤ 536870912) (hok : x.Global.length = 3 ∧ x.Own.length = 9) (hw : wk < 3) (hc : c < 3) :
    Calls Tryz.prog 69 #[.agg #[.slice H.Global.a H.Global.len H.Global.cap, .slice H.Own.a H.Own.len H.Own.cap], .int .i64 wk, .int .i64 c, .int .i64 s] w fun e w' => ∃ H' : HLists, e = .returned (.agg #[.slice H'.Global.a H'.Global.len H'.Global.cap, .slice H'.Own.a H'.Own.len H'.Own.cap]) ∧ OwLists w' H' (giveL x (wk * 3 + c) c s) ∧ (∀ g ∈ H'.foot, g ∈ H.foot ∨ w.heap.size ≤ g) ∧ Chg H.foot w w' := by
  obtain ⟨hl3, hl9⟩ := hok
  have H3 := Hid.mk_ hl3
  have H9 := Hid.mk_ hl9
  have HSZ := Hid.mk_ (show ∀ l, l ∈ x.Own ∨ l ∈ x.Global → l.length ≤ 536870912 from fun l hl => by
    unfold sizeLists at hs
    rcases hl with hl | hl
    · have := le_szLL hl
      omega
    · have := le_szLL hl
      omega)
  obtain ⟨lo, hlo⟩ : ∃ l, x.Own[wk * 3 + c]? = some l := ⟨_, List.getElem?_eq_getElem (by omega)⟩
  obtain ⟨lg, hlg⟩ : ∃ l, x.Global[c]? = some l := ⟨_, List.getElem?_eq_getElem (by omega)⟩
  have HO := Hid.mk_ hlo
  have HG := Hid.mk_ hlg
  have hso := HSZ.out lo (.inl (List.mem_of_getElem? hlo))
  have hsg := HSZ.out lg (.inr (List.mem_of_getElem? hlg))
  have hoa := fun W => OwnAt_spec wk c hw hc W
  have hk9 : wk * 3 + c < x.Own.length := by omega
  have hc3 : c < x.Global.length := by omega
  have HK9 := Hid.mk_ hk9
  have HC3 := Hid.mk_ hc3
  clear hl3 hl9 hlo hlg hk9 hc3 HSZ
  obtain ⟨k, hk⟩ : ∃ k, k = wk * 3 + c := ⟨_, rfl⟩
  rw [← hk] at hoa HO HK9 ⊢
  clear hk
  obtain ⟨⟨A1, n1, p1⟩, T1, ⟨A2, n2, p2⟩, T2⟩ := H
  obtain ⟨g1, c1, hv1, hg1⟩ := OwLL.at_form (v := .slice A1 n1 p1) h.Global (by rw [H3.out]; decide)
  obtain ⟨g2, c2, hv2, hg2⟩ := OwLL.at_form (v := .slice A2 n2 p2) h.Own (by rw [H9.out]; decide)
  injection hv1 with i1 i2 i3
  injection hv2 with j1 j2 j3
  subst i1 i2 i3 j1 j2 j3
  have u_c := h.lt
  have o_c := h
  clear h
  show Calls Tryz.prog 69 #[.agg #[.slice (some ⟨g1, 0, none⟩) x.Global.length p1, .slice (some ⟨g2, 0, none⟩) x.Own.length p2], .int .i64 wk, .int .i64 c, .int .i64 s] _ _
  replace o_c := (o_c.alloc_ (.cells #[.slice (some ⟨g1, 0, none⟩) x.Global.length p1, .slice (some ⟨g2, 0, none⟩) x.Own.length p2] 34)).alloc_ (.cells #[.slice none 0 0, .slice none 0 0] 34)
  have B_a : Box ((w.alloc (.cells #[.slice (some ⟨g1, 0, none⟩) x.Global.length p1, .slice (some ⟨g2, 0, none⟩) x.Own.length p2] 34)).alloc (.cells #[.slice none 0 0, .slice none 0 0] 34)) w.heap.size [.slice (some ⟨g1, 0, none⟩) x.Global.length p1, .slice (some ⟨g2, 0, none⟩) x.Own.length p2] := (Box.new w #[.slice (some ⟨g1, 0, none⟩) x.Global.length p1, .slice (some ⟨g2, 0, none⟩) x.Own.length p2] _).alloc _
  have B_r : Box ((w.alloc (.cells #[.slice (some ⟨g1, 0, none⟩) x.Global.length p1, .slice (some ⟨g2, 0, none⟩) x.Own.length p2] 34)).alloc (.cells #[.slice none 0 0, .slice none 0 0] 34)) (w.heap.size + 1) [.slice none 0 0, .slice none 0 0] := by
    have hb := Box.new (w.alloc (.cells #[.slice (some ⟨g1, 0, none⟩) x.Global.length p1, .slice (some ⟨g2, 0, none⟩) x.Own.length p2] 34)) #[.slice none 0 0, .slice none 0 0] 34
    rw [World.size_alloc] at hb
    exact hb
  have hB : Chg (HLists.foot ⟨⟨some ⟨g1, 0, none⟩, x.Global.length, p1⟩, T1, ⟨some ⟨g2, 0, none⟩, x.Own.length, p2⟩, T2⟩) w ((w.alloc (.cells #[.slice (some ⟨g1, 0, none⟩) x.Global.length p1, .slice (some ⟨g2, 0, none⟩) x.Own.length p2] 34)).alloc (.cells #[.slice none 0 0, .slice none 0 0] 34)) := ((Chg.refl _ _).alloc_ _).alloc_ _
  by_cases hlen : lo.length < 2
  · have HLEN := Hid.mk_ hlen
    go_enter Tryz.func69, Tryz.ntmps69
    go_wp2_with fail
    generalize hW0 : ((w.alloc (.cells #[.slice (some ⟨g1, 0, none⟩) x.Global.length p1, .slice (some ⟨g2, 0, none⟩) x.Own.length p2] 34)).alloc (.cells #[.slice none 0 0, .slice none 0 0] 34)) = w0 at o_c B_a B_r hB ⊢
    clear hW0
    refine (hoa _).mono ?_
    rintro e wv ⟨rfl, rfl⟩
    clear hoa
    have HZ0 := Hid.mk_ (show w.heap.size + 1 < w0.heap.size from B_r.lt)
    have q_a_0 := B_a.cell 0 _ rfl
    have q_a_1 := B_a.cell 1 _ rfl
    have fr_a := B_a.fro
    have z_a := B_a.lt
    have q_r_0 := B_r.cell 0 _ rfl
    have q_r_1 := B_r.cell 1 _ rfl
    have fr_r := B_r.fro
    have z_r := B_r.lt
    obtain ⟨so, hso2⟩ : ∃ q, T2[k]? = some q := ⟨_, List.getElem?_eq_getElem (by rw [o_c.Own.len]; exact HK9.out)⟩
    have ino := o_c.Own.inner k so _ hso2 HO.out
    have po := o_c.Own.outer.cell_ (j := 0) hso2 (by decide)
    simp only [FS, Nat.mul_one, Nat.add_zero] at po
    obtain ⟨Ao, co, hvo, _⟩ := ino.rd'
    obtain ⟨ao, no, bo⟩ := so
    injection hvo with k1 k2 k3
    subst k1 k2 k3
    have po2 : _ = some (Value.slice ao lo.length bo) := po
    clear po
    have ff := o_c.Own.outer.frozen_ k
    have HV := Hid.mk_ hso2
    have HNE := Hid.mk_ (OwLL.head_ne (g := g2) (n := x.Own.length) (c := p2) o_c.Own hso2)
    have hkk : k < x.Own.length := HK9.out
    have z_g : g2 < w0.heap.size := Nat.lt_of_lt_of_le hg2 hB.size
    have n_a : g2 ≠ w.heap.size := by omega
    have m_a : w.heap.size ≠ g2 := by omega
    have n_r : g2 ≠ w.heap.size + 1 := by omega
    have m_r : w.heap.size + 1 ≠ g2 := by omega
    have HSF := Hid.mk_ (show ∀ b ∈ foot1 (SV.val ⟨ao, lo.length, bo⟩), b ∈ foot2 (.slice (some ⟨g2, 0, none⟩) x.Own.length p2) T2 from fun b hb => mem_foot2.2 (.inr ⟨_, List.mem_of_getElem? HV.out, mem_foot1.1 hb⟩))
    have HFT := Hid.mk_ (show ∀ b ∈ foot1 (SV.val ⟨ao, lo.length, bo⟩), b ∈ HLists.foot ⟨⟨some ⟨g1, 0, none⟩, x.Global.length, p1⟩, T1, ⟨some ⟨g2, 0, none⟩, x.Own.length, p2⟩, T2⟩ from fun b hb => HLists.mem_foot.2 (.inr (HSF.out b hb)))
    have q0o : ((w0.alloc (.cells #[.int .i64 s] 3)).drew).heap.size = w0.heap.size + 1 := by simp
    have HQ := Hid.mk_ q0o
    clear q0o
    have hrow : OwL FI 3 ((w0.alloc (.cells #[.int .i64 s] 3)).drew) (.slice ao lo.length bo) lo := OwL.keep (OwL.alloc_ (show OwL FI 3 w0 (.slice ao lo.length bo) lo from ino) _) (fun _ _ => rfl)
    have hlit : RdL FI ((w0.alloc (.cells #[.int .i64 s] 3)).drew) ((w0.alloc (.cells #[.int .i64 s] 3)).drew).heap.size (.slice (some ⟨w0.heap.size, 0, none⟩) 1 1) [s] := ((OwL.lit FI [s] #[.int .i64 s] rfl (by simp [maxLen]) w0 3).keep (w' := ((w0.alloc (.cells #[.int .i64 s] 3)).drew)) (fun _ _ => rfl)).rd'
    go_wp2_with fail
    go_region_law (refine step_append_flat Tryz.stInt rfl (.tmp 29) (.tmp 31) rfl (v := .slice ao lo.length bo) (y := .slice (some ⟨w0.heap.size, 0, none⟩) 1 1) (l := lo) (m := [s]) (by simp [Act.eval]) (by simp [Act.eval]) hrow hlit (by simp; omega) ?_; intro v9 w9 ho9 hg9 hat9; obtain ⟨A9, c9, hv9, _⟩ := ho9.rd'; simp only [List.length_append, List.length_cons, List.length_nil] at hv9; subst hv9; have hx := Chg.of_grown hg9; have ff9 := (hx.frozen g2 k (by simp; omega) HNE.out).trans ((cell_old_frozen w0 _ g2 k z_g).trans ff); have pp9 := (hx.cell g2 k (by simp; omega) HNE.out).trans ((cell_old w0 _ g2 k z_g).trans po2); replace B_a := (B_a.alloc (.cells #[.int .i64 s] 3)).drew.chg hx (fun hm => by have := u_c _ (HFT.out _ hm); omega); replace q_a_0 := B_a.cell 0 _ rfl; replace q_a_1 := B_a.cell 1 _ rfl; replace fr_a := B_a.fro; replace z_a := B_a.lt; replace B_r := (B_r.alloc (.cells #[.int .i64 s] 3)).drew.chg hx (fun hm => by have := u_c _ (HFT.out _ hm); omega); replace q_r_0 := B_r.cell 0 _ rfl; replace q_r_1 := B_r.cell 1 _ rfl; replace fr_r := B_r.fro; replace z_r := B_r.lt)
    all_goals
      have oD : OwLists ((w0.alloc (.cells #[.int .i64 s] 3)).drew) ⟨⟨some ⟨g1, 0, none⟩, x.Global.length, p1⟩, T1, ⟨some ⟨g2, 0, none⟩, x.Own.length, p2⟩, T2⟩ x := (o_c.alloc_ (.cells #[.int .i64 s] 3)).keep (fun _ _ => rfl)
      have hN := OwLL.app_row (s' := ⟨A9, lo.length + (0 + 1), c9⟩) oD.Own HV.out ho9 hg9 hat9
      change OwLL _ _ _ (World.setCell _ _ (.slice A9 (lo.length + (0 + 1)) c9)) _ _ _ at hN
      have hfN := fun b (hb : b ∈ foot2 (.slice (some ⟨g2, 0, none⟩) x.Own.length p2) (T2.set k ⟨A9, lo.length + (0 + 1), c9⟩)) => (show b ∈ HLists.foot ⟨⟨some ⟨g1, 0, none⟩, x.Global.length, p1⟩, T1, ⟨some ⟨g2, 0, none⟩, x.Own.length, p2⟩, T2⟩ ∨ w.heap.size ≤ b by rcases foot2_set hb with hb | hb; (exact .inl (HLists.mem_foot.2 (.inr hb))); (rcases foot_app hat9 b hb with hb | hb; (exact .inl (HFT.out b hb)); (right; have := hB.size; rw [hb, HQ.out]; omega)))
      have hO : OwLL FI 3 80 _ _ _ x.Global := (oD.Global.chg hx (fun b hb hm => o_c.d01 b hb (HSF.out b hm))).chg (F := [g2]) ((Chg.refl _ w9).set_ (g := g2) (i := k) (by simp) (.slice A9 (lo.length + (0 + 1)) c9)) (fun b hb hm => by simp only [List.mem_cons, List.not_mem_nil, or_false] at hm; subst hm; exact o_c.d01 b hb (mem_foot2.2 (.inl rfl)))
      have uO := (oD.Global).lt
      have uN : ∀ b ∈ foot2 (.slice (some ⟨g2, 0, none⟩) x.Own.length p2) (T2.set k ⟨A9, lo.length + (0 + 1), c9⟩), b ≠ w.heap.size + 1 := fun b hb e => by subst e; rcases foot2_set hb with hb | hb; (have := u_c _ (HLists.mem_foot.2 (.inr hb)); omega); (rcases foot_app hat9 _ hb with hb | hb; (have := u_c _ (HFT.out _ hb); omega); (have := z_r; rw [HQ.out] at hb; have := HZ0.out; omega))
      go_wp2_with fail
      refine bodyPost_ret (v := .agg #[.slice (some ⟨g1, 0, none⟩) x.Global.length p1, .slice (some ⟨g2, 0, none⟩) x.Own.length p2]) (by simp [results, Tryz.results69, go_sem, q_r_0, q_r_1]) rfl ⟨⟨⟨some ⟨g1, 0, none⟩, x.Global.length, p1⟩, T1, ⟨some ⟨g2, 0, none⟩, x.Own.length, p2⟩, T2.set k ⟨A9, lo.length + (0 + 1), c9⟩⟩, rfl, by rw [giveL_own HO.out HLEN.out]; exact ⟨hO.chg (F := [w.heap.size + 1]) (by repeat (first | with_reducible exact Chg.refl _ _ | with_reducible refine Chg.set_ ?_ (by simp) _ | with_reducible refine Chg.alloc_ ?_ _ | with_reducible refine Chg.drew_ ?_)) (fun b hb hm => by simp only [List.mem_cons, List.not_mem_nil, or_false] at hm; have := u_c b (HLists.mem_foot.2 (.inl hb)); omega), hN.chg (F := [w.heap.size + 1]) (by repeat (first | with_reducible exact Chg.refl _ _ | with_reducible refine Chg.set_ ?_ (by simp) _ | with_reducible refine Chg.alloc_ ?_ _ | with_reducible refine Chg.drew_ ?_)) (fun b hb hm => by simp only [List.mem_cons, List.not_mem_nil, or_false] at hm; exact uN b hb hm), fun b hb hm => by rcases foot2_set hm with hm | hm; (exact o_c.d01 b hb hm); (rcases foot_app hat9 b hm with hm | hm; (exact o_c.d01 b hb (HSF.out b hm)); (have := uO b hb; omega))⟩, fun b hb => ?_, ?_⟩
      · rcases HLists.mem_foot.1 hb with hb | hb
        · exact .inl (HLists.mem_foot.2 (.inl hb))
        · exact hfN b hb
      · exact hB.trans_new (Chg.trans ((Chg.refl _ w0).alloc_ (.cells #[.int .i64 s] 3)).drew_ (hx.mono HFT.out)) (HLists.mem_foot.2 (.inr (mem_foot2.2 (.inl rfl)))) (r := w.heap.size + 1) (by repeat (first | with_reducible exact Chg.refl _ _ | with_reducible refine Chg.set_ ?_ (by simp) _ | with_reducible refine Chg.alloc_ ?_ _ | with_reducible refine Chg.drew_ ?_)) (by omega)
  · have HLEN := Hid.mk_ hlen
    go_enter Tryz.func69, Tryz.ntmps69
    go_wp2_with fail
    generalize hW0 : ((w.alloc (.cells #[.slice (some ⟨g1, 0, none⟩) x.Global.length p1, .slice (some ⟨g2, 0, none⟩) x.Own.length p2] 34)).alloc (.cells #[.slice none 0 0, .slice none 0 0] 34)) = w0 at o_c B_a B_r hB ⊢
    clear hW0
    refine (hoa _).mono ?_
    rintro e wv ⟨rfl, rfl⟩
    clear hoa
    have HZ0 := Hid.mk_ (show w.heap.size + 1 < w0.heap.size from B_r.lt)
    have q_a_0 := B_a.cell 0 _ rfl
    have q_a_1 := B_a.cell 1 _ rfl
    have fr_a := B_a.fro
    have z_a := B_a.lt
    have q_r_0 := B_r.cell 0 _ rfl
    have q_r_1 := B_r.cell 1 _ rfl
    have fr_r := B_r.fro
    have z_r := B_r.lt
    obtain ⟨so, hso2⟩ : ∃ q, T2[k]? = some q := ⟨_, List.getElem?_eq_getElem (by rw [o_c.Own.len]; exact HK9.out)⟩
    have ino := o_c.Own.inner k so _ hso2 HO.out
    have po := o_c.Own.outer.cell_ (j := 0) hso2 (by decide)
    simp only [FS, Nat.mul_one, Nat.add_zero] at po
    obtain ⟨Ao, co, hvo, _⟩ := ino.rd'
    obtain ⟨ao, no, bo⟩ := so
    injection hvo with k1 k2 k3
    subst k1 k2 k3
    have po2 : _ = some (Value.slice ao lo.length bo) := po
    clear po
    obtain ⟨sg, hsg2⟩ : ∃ q, T1[c]? = some q := ⟨_, List.getElem?_eq_getElem (by rw [o_c.Global.len]; exact HC3.out)⟩
    have ing := o_c.Global.inner c sg _ hsg2 HG.out
    have pg := o_c.Global.outer.cell_ (j := 0) hsg2 (by decide)
    simp only [FS, Nat.mul_one, Nat.add_zero] at pg
    obtain ⟨Ag, cg, hvg, _⟩ := ing.rd'
    obtain ⟨ag, ng, bg⟩ := sg
    injection hvg with k1 k2 k3
    subst k1 k2 k3
    have pg2 : _ = some (Value.slice ag lg.length bg) := pg
    clear pg
    have ff := o_c.Global.outer.frozen_ c
    have HV := Hid.mk_ hsg2
    have HNE := Hid.mk_ (OwLL.head_ne (g := g1) (n := x.Global.length) (c := p1) o_c.Global hsg2)
    have hkk : c < x.Global.length := HC3.out
    have z_g : g1 < w0.heap.size := Nat.lt_of_lt_of_le hg1 hB.size
    have n_a : g1 ≠ w.heap.size := by omega
    have m_a : w.heap.size ≠ g1 := by omega
    have n_r : g1 ≠ w.heap.size + 1 := by omega
    have m_r : w.heap.size + 1 ≠ g1 := by omega
    have HSF := Hid.mk_ (show ∀ b ∈ foot1 (SV.val ⟨ag, lg.length, bg⟩), b ∈ foot2 (.slice (some ⟨g1, 0, none⟩) x.Global.length p1) T1 from fun b hb => mem_foot2.2 (.inr ⟨_, List.mem_of_getElem? HV.out, mem_foot1.1 hb⟩))
    have HFT := Hid.mk_ (show ∀ b ∈ foot1 (SV.val ⟨ag, lg.length, bg⟩), b ∈ HLists.foot ⟨⟨some ⟨g1, 0, none⟩, x.Global.length, p1⟩, T1, ⟨some ⟨g2, 0, none⟩, x.Own.length, p2⟩, T2⟩ from fun b hb => HLists.mem_foot.2 (.inl (HSF.out b hb)))
    have q0o : ((w0.alloc (.cells #[.int .i64 s] 3)).drew).heap.size = w0.heap.size + 1 := by simp
    have HQ := Hid.mk_ q0o
    clear q0o
    have hrow : OwL FI 3 ((w0.alloc (.cells #[.int .i64 s] 3)).drew) (.slice ag lg.length bg) lg := OwL.keep (OwL.alloc_ (show OwL FI 3 w0 (.slice ag lg.length bg) lg from ing) _) (fun _ _ => rfl)
    have hlit : RdL FI ((w0.alloc (.cells #[.int .i64 s] 3)).drew) ((w0.alloc (.cells #[.int .i64 s] 3)).drew).heap.size (.slice (some ⟨w0.heap.size, 0, none⟩) 1 1) [s] := ((OwL.lit FI [s] #[.int .i64 s] rfl (by simp [maxLen]) w0 3).keep (w' := ((w0.alloc (.cells #[.int .i64 s] 3)).drew)) (fun _ _ => rfl)).rd'
    go_wp2_with fail
    go_region_law (refine step_append_flat Tryz.stInt rfl (.tmp 43) (.tmp 45) rfl (v := .slice ag lg.length bg) (y := .slice (some ⟨w0.heap.size, 0, none⟩) 1 1) (l := lg) (m := [s]) (by simp [Act.eval]) (by simp [Act.eval]) hrow hlit (by simp; omega) ?_; intro v9 w9 ho9 hg9 hat9; obtain ⟨A9, c9, hv9, _⟩ := ho9.rd'; simp only [List.length_append, List.length_cons, List.length_nil] at hv9; subst hv9; have hx := Chg.of_grown hg9; have ff9 := (hx.frozen g1 c (by simp; omega) HNE.out).trans ((cell_old_frozen w0 _ g1 c z_g).trans ff); have pp9 := (hx.cell g1 c (by simp; omega) HNE.out).trans ((cell_old w0 _ g1 c z_g).trans pg2); replace B_a := (B_a.alloc (.cells #[.int .i64 s] 3)).drew.chg hx (fun hm => by have := u_c _ (HFT.out _ hm); omega); replace q_a_0 := B_a.cell 0 _ rfl; replace q_a_1 := B_a.cell 1 _ rfl; replace fr_a := B_a.fro; replace z_a := B_a.lt; replace B_r := (B_r.alloc (.cells #[.int .i64 s] 3)).drew.chg hx (fun hm => by have := u_c _ (HFT.out _ hm); omega); replace q_r_0 := B_r.cell 0 _ rfl; replace q_r_1 := B_r.cell 1 _ rfl; replace fr_r := B_r.fro; replace z_r := B_r.lt)
    all_goals
      have oD : OwLists ((w0.alloc (.cells #[.int .i64 s] 3)).drew) ⟨⟨some ⟨g1, 0, none⟩, x.Global.length, p1⟩, T1, ⟨some ⟨g2, 0, none⟩, x.Own.length, p2⟩, T2⟩ x := (o_c.alloc_ (.cells #[.int .i64 s] 3)).keep (fun _ _ => rfl)
      have hN := OwLL.app_row (s' := ⟨A9, lg.length + (0 + 1), c9⟩) oD.Global HV.out ho9 hg9 hat9
      change OwLL _ _ _ (World.setCell _ _ (.slice A9 (lg.length + (0 + 1)) c9)) _ _ _ at hN
      have hfN := fun b (hb : b ∈ foot2 (.slice (some ⟨g1, 0, none⟩) x.Global.length p1) (T1.set c ⟨A9, lg.length + (0 + 1), c9⟩)) => (show b ∈ HLists.foot ⟨⟨some ⟨g1, 0, none⟩, x.Global.length, p1⟩, T1, ⟨some ⟨g2, 0, none⟩, x.Own.length, p2⟩, T2⟩ ∨ w.heap.size ≤ b by rcases foot2_set hb with hb | hb; (exact .inl (HLists.mem_foot.2 (.inl hb))); (rcases foot_app hat9 b hb with hb | hb; (exact .inl (HFT.out b hb)); (right; have := hB.size; rw [hb, HQ.out]; omega)))
      have hO : OwLL FI 3 80 _ _ _ x.Own := (oD.Own.chg hx (fun b hb hm => o_c.d01 b (HSF.out b hm) hb)).chg (F := [g1]) ((Chg.refl _ w9).set_ (g := g1) (i := c) (by simp) (.slice A9 (lg.length + (0 + 1)) c9)) (fun b hb hm => by simp only [List.mem_cons, List.not_mem_nil, or_false] at hm; subst hm; exact o_c.d01 b (mem_foot2.2 (.inl rfl)) hb)
      have uO := (oD.Own).lt
      have uN : ∀ b ∈ foot2 (.slice (some ⟨g1, 0, none⟩) x.Global.length p1) (T1.set c ⟨A9, lg.length + (0 + 1), c9⟩), b ≠ w.heap.size + 1 := fun b hb e => by subst e; rcases foot2_set hb with hb | hb; (have := u_c _ (HLists.mem_foot.2 (.inl hb)); omega); (rcases foot_app hat9 _ hb with hb | hb; (have := u_c _ (HFT.out _ hb); omega); (have := z_r; rw [HQ.out] at hb; have := HZ0.out; omega))
      go_wp2_with fail
      refine bodyPost_ret (v := .agg #[.slice (some ⟨g1, 0, none⟩) x.Global.length p1, .slice (some ⟨g2, 0, none⟩) x.Own.length p2]) (by simp [results, Tryz.results69, go_sem, q_r_0, q_r_1]) rfl ⟨⟨⟨some ⟨g1, 0, none⟩, x.Global.length, p1⟩, T1.set c ⟨A9, lg.length + (0 + 1), c9⟩, ⟨some ⟨g2, 0, none⟩, x.Own.length, p2⟩, T2⟩, rfl, by rw [giveL_glob HO.out HLEN.out HG.out]; exact ⟨hN.chg (F := [w.heap.size + 1]) (by repeat (first | with_reducible exact Chg.refl _ _ | with_reducible refine Chg.set_ ?_ (by simp) _ | with_reducible refine Chg.alloc_ ?_ _ | with_reducible refine Chg.drew_ ?_)) (fun b hb hm => by simp only [List.mem_cons, List.not_mem_nil, or_false] at hm; exact uN b hb hm), hO.chg (F := [w.heap.size + 1]) (by repeat (first | with_reducible exact Chg.refl _ _ | with_reducible refine Chg.set_ ?_ (by simp) _ | with_reducible refine Chg.alloc_ ?_ _ | with_reducible refine Chg.drew_ ?_)) (fun b hb hm => by simp only [List.mem_cons, List.not_mem_nil, or_false] at hm; have := u_c b (HLists.mem_foot.2 (.inr hb)); omega), fun b hb hm => by rcases foot2_set hb with hb | hb; (exact o_c.d01 b hb hm); (rcases foot_app hat9 b hb with hb | hb; (exact o_c.d01 b (HSF.out b hb) hm); (have := uO b hm; omega))⟩, fun b hb => ?_, ?_⟩
      · rcases HLists.mem_foot.1 hb with hb | hb
        · exact hfN b hb
        · exact .inl (HLists.mem_foot.2 (.inr hb))
      · exact hB.trans_new (Chg.trans ((Chg.refl _ w0).alloc_ (.cells #[.int .i64 s] 3)).drew_ (hx.mono HFT.out)) (HLists.mem_foot.2 (.inl (mem_foot2.2 (.inl rfl)))) (r := w.heap.size + 1) (by repeat (first | with_reducible exact Chg.refl _ _ | with_reducible refine Chg.set_ ?_ (by simp) _ | with_reducible refine Chg.alloc_ ?_ _ | with_reducible refine Chg.drew_ ?_)) (by omega)
end Go.Proofs.YtcligoicoeklfaaGreat
