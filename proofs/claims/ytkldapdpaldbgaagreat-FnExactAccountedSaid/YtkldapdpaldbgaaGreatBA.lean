/-
  Lists valid: the program.
-/
import Derived.Test.YtkldapdpaldbgaaGreatT
import Derived.Test.YtkldapdpaldbgaaGreatL
import Derived.Deep.QuietTactic
import Derived.BigQuiet
import Derived.Deep.LoopGhost
import Derived.Deep.RegionHeld3
import Derived.Test.YtkldapdpaldbgaaGreatN
import Derived.Test.YtkldapdpaldbgaaGreatA
import Derived.WalkSpells
import Derived.Laws.Cover3
import Derived.Test.YtkldapdpaldbgaaGreatB9
import Derived.Deep.WholeRow
namespace Go.Proofs.YtkldapdpaldbgaaGreat
open Go.RowKit
def FB : FT Bool := { n := 1, enc := fun b => [.bool b], dflt := false, len := fun _ => rfl, one := by intro x u hu; simp at hu; subst hu; rfl, pos := by decide, small := by decide }
theorem wpList_store_new_at {P : Program} {ops : Array Oper} {rest : List Oper} {o : Oper} {a : Act} {w : World} {Q : Exit → Act → World → Prop} (hgd : o.guard = none) (ty : TypeId) (x y : Operand) (ho : o.op = .store ty x y) (c : Array Value) (n : Nat) (hn : n = w.heap.size)
    (hx : a.eval x = .pointer (some ⟨n, 0, none⟩)) (hy : a.eval y = .agg c) (hi : (P.info? ty).map (·.size) = some c.size) (h1 : c.all (·.oneCell') = true)
    (h : wpList P ops Q rest (a.put o.dst undef) (w.alloc (.cells c ty))) : wpList P ops Q (o :: rest) a (w.alloc (.cells c ty)) := by
  subst hn
  refine wpList_store_row hgd ty x y ho w.heap.size c hx hy ty c (heap_alloc_last w _) hi rfl h1 ?_
  rw [World.setRow_alloc_new]
  exact h
theorem z24_built : Tryz.prog.built 207 [] = some #[.bool false, .bool false, .bool false, .bool false, .bool false, .bool false, .bool false, .bool false, .bool false, .bool false, .bool false, .bool false, .bool false, .bool false, .bool false, .bool false, .bool false, .bool false, .bool false, .bool false, .bool false, .bool false, .bool false, .bool false] := by kernel_rfl
set_option maxRecDepth 100000 in
theorem wpList_build24 {ops : Array Oper} {rest : List Oper} {o : Oper} {a : Act} {w : World} {Q : Exit → Act → World → Prop} (hg : o.guard = none) (ho : o.op = .build 207 #[])
    (h : wpList Tryz.prog ops Q rest (a.put o.dst (.agg #[.bool false, .bool false, .bool false, .bool false, .bool false, .bool false, .bool false, .bool false, .bool false, .bool false, .bool false, .bool false, .bool false, .bool false, .bool false, .bool false, .bool false, .bool false, .bool false, .bool false, .bool false, .bool false, .bool false, .bool false])) w) : wpList Tryz.prog ops Q (o :: rest) a w := by
  exact wpList_build hg 207 #[] ho (by simp [z24_built]) (by simpa [z24_built] using h)
theorem met_start (w : World) : OwL FB 207 (w.alloc (.cells #[.bool false, .bool false, .bool false, .bool false, .bool false, .bool false, .bool false, .bool false, .bool false, .bool false, .bool false, .bool false, .bool false, .bool false, .bool false, .bool false, .bool false, .bool false, .bool false, .bool false, .bool false, .bool false, .bool false, .bool false] 207)) (.slice (some ⟨w.heap.size, 0, none⟩) 24 24) (metI []) := by
  rw [metI_zero]
  exact OwL.lit FB (List.replicate 24 false) #[.bool false, .bool false, .bool false, .bool false, .bool false, .bool false, .bool false, .bool false, .bool false, .bool false, .bool false, .bool false, .bool false, .bool false, .bool false, .bool false, .bool false, .bool false, .bool false, .bool false, .bool false, .bool false, .bool false, .bool false] rfl (by simp [maxLen]) w 207
theorem ConcatSL2_ct (w : World) (gb : Nat) (A1 A2 : Option Addr) (n1 n2 c1 c2 : Nat) (T1 T2 : List SV) (bb : Box w gb [.slice A1 n1 c1, .slice A2 n2 c2]) (h1 : RdL FS w w.heap.size (.slice A1 n1 c1) T1) (h2 : RdL FS w w.heap.size (.slice A2 n2 c2) T2) (e1 : n1 = 9) (e2 : n2 = 3) :
    Calls Tryz.prog 240 #[.slice (some ⟨gb, 0, none⟩) 2 2] w fun e w' => ∃ v, e = .returned v ∧ OwL FS 163 w' v (T1 ++ T2) ∧ (∀ g ∈ foot1 v, w.heap.size ≤ g) ∧ Below w.heap.size w w' := by
  subst e1 e2
  exact ConcatSL_ct w gb A1 A2 c1 c2 T1 T2 bb h1 h2
theorem rows_cat {w : World} {B1 : Nat} {v1 v2 : Value} {T1 T2 : List SV} {gl ow : List (List Int)} (h1 : RdLL FI w B1 v1 T1 gl) (h2 : RdLL FI w B1 v2 T2 ow) (i : Nat) (hi : i < (ow ++ gl).length) :
    ∃ s : SV, (T2 ++ T1)[i]? = some s ∧ RdL FI w B1 (.slice s.a s.len s.cap) (ow ++ gl)[i] := by
  have e1 := h1.len
  have e2 := h2.len
  rw [List.length_append] at hi
  by_cases hlt : i < ow.length
  · have ht : i < T2.length := by omega
    refine ⟨T2[i], by rw [List.getElem?_append_left ht, List.getElem?_eq_getElem ht], ?_⟩
    rw [List.getElem_append_left hlt]
    exact h2.inner i _ _ (List.getElem?_eq_getElem ht) (List.getElem?_eq_getElem hlt)
  · have ht : i - T2.length < T1.length := by omega
    refine ⟨T1[i - T2.length], by rw [List.getElem?_append_right (by omega), List.getElem?_eq_getElem ht], ?_⟩
    rw [List.getElem_append_right (by omega)]
    refine h1.inner (i - T2.length) _ _ (List.getElem?_eq_getElem ht) ?_
    rw [List.getElem?_eq_getElem (by omega)]
    congr 2
    omega
set_option maxRecDepth 100000 in
set_option maxHeartbeats 4000000 in
theorem ListsOk_impl (w : World) (H : HLists) (x : Lists) (h : RdLists w w.heap.size H x) :
    Calls Tryz.prog 164 #[.agg #[.slice H.Global.a H.Global.len H.Global.cap, .slice H.Own.a H.Own.len H.Own.cap]] w fun e w' => e = .returned (.bool (listsOkB x)) ∧ Below w.heap.size w w' := by
  obtain ⟨⟨A1, n1, c1⟩, T1, ⟨A2, n2, c2⟩, T2⟩ := H
  obtain ⟨gl, ow⟩ := x
  have hr1 : RdLL FI w w.heap.size (.slice A1 n1 c1) T1 gl := h.Global
  have hr2 : RdLL FI w w.heap.size (.slice A2 n2 c2) T2 ow := h.Own
  obtain ⟨en1, _, hmx⟩ := hr1.len'
  have hlt1 : gl.length ≤ 9223372036854775807 := by unfold maxLen at hmx; omega
  clear hmx
  obtain ⟨en2, _, hmx⟩ := hr2.len'
  have hlt2 : ow.length ≤ 9223372036854775807 := by unfold maxLen at hmx; omega
  clear hmx h
  subst en1 en2
  have HE := Hid.mk_ (show listsOkB ⟨gl, ow⟩ = ((gl.length == 3) && (ow.length == 9) && ow.all shortB && seenOk (allL ⟨gl, ow⟩)) from rfl)
  have hB0 : Below w.heap.size w (w.alloc (.cells #[.slice A1 gl.length c1, .slice A2 ow.length c2] 29)) := by repeat (first | exact Below.refl _ _ | refine Below.alloc ?_ (by simp <;> omega) _ | refine below_grow_of ?_ (by simp <;> omega) _ _ | refine Below.drew ?_ | refine below_drewN ?_ _)
  show Calls Tryz.prog 164 #[.agg #[.slice A1 gl.length c1, .slice A2 ow.length c2]] _ _
  by_cases k1 : gl.length = 3
  case neg =>
    have k1' : ((gl.length : Int) != 3) = true := by simp; omega
    have HF := Hid.mk_ (show listsOkB ⟨gl, ow⟩ = false by rw [HE.out]; simp [k1])
    clear k1
    go_enter Tryz.func164, Tryz.ntmps164
    go_wp2
    go_ret
    exact ⟨ret_bool HF.out.symm, hB0⟩
  have k1' : ((gl.length : Int) != 3) = false := by simp; omega
  have K1 := Hid.mk_ k1
  clear k1
  by_cases k2 : ow.length = 9
  case neg =>
    have k2' : ((ow.length : Int) != 9) = true := by simp; omega
    have HF := Hid.mk_ (show listsOkB ⟨gl, ow⟩ = false by rw [HE.out]; simp [k2])
    clear k2
    go_enter Tryz.func164, Tryz.ntmps164
    go_wp2
    go_ret
    exact ⟨ret_bool HF.out.symm, hB0⟩
  have k2' : ((ow.length : Int) != 9) = false := by simp; omega
  have K2 := Hid.mk_ k2
  have HF := Hid.mk_ (show listsOkB ⟨gl, ow⟩ = (ow.all shortB && seenOk (ow ++ gl).flatten) by rw [HE.out, K1.out, k2, ← lists_rows ⟨gl, ow⟩]; simp)
  clear k2 HE
  have HIN := Hid.mk_ (rows_cat hr1 hr2)
  have KL := Hid.mk_ (show (ow ++ gl).length = 12 by rw [List.length_append, K1.out, K2.out])
  have HOW := Hid.mk_ (fun i (hi : i < ow.length) (hj : i < (ow ++ gl).length) => (List.getElem_append_left (bs := gl) hi : (ow ++ gl)[i] = ow[i]))
  have HT0 := Hid.mk_ (totLL_eq (ow ++ gl))
  have HFA := Hid.mk_ (flat_at (ow ++ gl))
  generalize hR : ow ++ gl = R at HF HIN KL HOW HT0 HFA
  generalize hL : R.flatten = L at HF HT0 HFA
  clear hR hL
  go_enter Tryz.func164, Tryz.ntmps164
  go_wp2_with (first | (refine wpList_build24 rfl rfl ?_) | (refine wpList_store_new_at rfl 207 (.tmp 3) (.tmp 18) rfl _ _ (by simp) rfl rfl (by kernel_rfl) (by simp [Value.oneCell']) ?_))
  have om0 := met_start (w.alloc (.cells #[.slice A1 gl.length c1, .slice A2 ow.length c2] 29))
  have bg0 : Box (((w.alloc (.cells #[.slice A1 gl.length c1, .slice A2 ow.length c2] 29)).alloc (.cells #[.bool false, .bool false, .bool false, .bool false, .bool false, .bool false, .bool false, .bool false, .bool false, .bool false, .bool false, .bool false, .bool false, .bool false, .bool false, .bool false, .bool false, .bool false, .bool false, .bool false, .bool false, .bool false, .bool false, .bool false] 207)).alloc (.cells #[.slice A2 ow.length c2, .slice A1 gl.length c1] 27)) (w.heap.size + 1 + 1) [.slice A2 ow.length c2, .slice A1 gl.length c1] := by have a := Box.new ((w.alloc (.cells #[.slice A1 gl.length c1, .slice A2 ow.length c2] 29)).alloc (.cells #[.bool false, .bool false, .bool false, .bool false, .bool false, .bool false, .bool false, .bool false, .bool false, .bool false, .bool false, .bool false, .bool false, .bool false, .bool false, .bool false, .bool false, .bool false, .bool false, .bool false, .bool false, .bool false, .bool false, .bool false] 207)) #[.slice A2 ow.length c2, .slice A1 gl.length c1] 27; simpa using a
  have om1 := om0.alloc_ (.cells #[.slice A2 ow.length c2, .slice A1 gl.length c1] 27)
  have ba1 : Box (((w.alloc (.cells #[.slice A1 gl.length c1, .slice A2 ow.length c2] 29)).alloc (.cells #[.bool false, .bool false, .bool false, .bool false, .bool false, .bool false, .bool false, .bool false, .bool false, .bool false, .bool false, .bool false, .bool false, .bool false, .bool false, .bool false, .bool false, .bool false, .bool false, .bool false, .bool false, .bool false, .bool false, .bool false] 207)).alloc (.cells #[.slice A2 ow.length c2, .slice A1 gl.length c1] 27)) w.heap.size [.slice A1 gl.length c1, .slice A2 ow.length c2] := ((Box.new w #[.slice A1 gl.length c1, .slice A2 ow.length c2] _).alloc _).alloc _
  have hB1 : Below w.heap.size w (((w.alloc (.cells #[.slice A1 gl.length c1, .slice A2 ow.length c2] 29)).alloc (.cells #[.bool false, .bool false, .bool false, .bool false, .bool false, .bool false, .bool false, .bool false, .bool false, .bool false, .bool false, .bool false, .bool false, .bool false, .bool false, .bool false, .bool false, .bool false, .bool false, .bool false, .bool false, .bool false, .bool false, .bool false] 207)).alloc (.cells #[.slice A2 ow.length c2, .slice A1 gl.length c1] 27)) := by repeat (first | exact Below.refl _ _ | refine Below.alloc ?_ (by simp <;> omega) _ | refine below_grow_of ?_ (by simp <;> omega) _ _ | refine Below.drew ?_ | refine below_drewN ?_ _)
  have hz1 : ((((w.alloc (.cells #[.slice A1 gl.length c1, .slice A2 ow.length c2] 29)).alloc (.cells #[.bool false, .bool false, .bool false, .bool false, .bool false, .bool false, .bool false, .bool false, .bool false, .bool false, .bool false, .bool false, .bool false, .bool false, .bool false, .bool false, .bool false, .bool false, .bool false, .bool false, .bool false, .bool false, .bool false, .bool false] 207)).alloc (.cells #[.slice A2 ow.length c2, .slice A1 gl.length c1] 27))).heap.size = w.heap.size + 1 + 1 + 1 := by simp
  simp only [World.size_alloc] at om1
  generalize (((w.alloc (.cells #[.slice A1 gl.length c1, .slice A2 ow.length c2] 29)).alloc (.cells #[.bool false, .bool false, .bool false, .bool false, .bool false, .bool false, .bool false, .bool false, .bool false, .bool false, .bool false, .bool false, .bool false, .bool false, .bool false, .bool false, .bool false, .bool false, .bool false, .bool false, .bool false, .bool false, .bool false, .bool false] 207)).alloc (.cells #[.slice A2 ow.length c2, .slice A1 gl.length c1] 27)) = w3 at bg0 om1 ba1 hB1 hz1 ⊢
  clear om0 hB0
  refine (ConcatSL2_ct w3 _ A2 A1 _ _ c2 c1 T2 T1 bg0 (rd_up hr2.outer hB1) (rd_up hr1.outer hB1) K2.out K1.out).mono ?_
  rintro e w4 ⟨vC, rfl, hoC, hfC, hb4⟩
  have om4 := om1.chg (Chg.of_below (F := []) hb4) (by simp)
  have ba4 := ba1.below hb4
  have hB4 := hB1.trans (hb4.mono hB1.size)
  have hz4 : w.heap.size + 1 < w4.heap.size := by have := hb4.size; omega
  have hfC' : ∀ g ∈ foot1 vC, w.heap.size + 1 < g := fun g hg => by have := hfC g hg; omega
  clear hfC hb4 om1 ba1 bg0 hB1 hz1
  have hlC : (T2 ++ T1).length = 12 := by rw [List.length_append, hr2.len, hr1.len, K2.out, K1.out]
  rcases hoC.form with ⟨_, hnil⟩ | ⟨gC, cC, rfl, hgC, _, _⟩
  · rw [hnil] at hlC
    simp at hlC
  rw [hlC] at hoC hfC' ⊢
  go_wp2
  go_loopw [4, 5, 7, 26, 45] (fun _ _ _ i _ wr => ∃ k : Nat, k ≤ 12 ∧ i = .int .i64 k ∧ Hid ((ow.take k).all shortB = true) ∧ Hid (seenOk (L.take (totLL (R.take k))) = true) ∧ Chg [w.heap.size + 1] w4 wr ∧ OwL FB 207 wr (.slice (some ⟨w.heap.size + 1, 0, none⟩) 24 24) (metI (L.take (totLL (R.take k))))) (fun _ _ _ i _ _ => 12 - (intOf i).toNat)
  case atStart => exact ⟨0, Nat.zero_le _, rfl, rfl, rfl, Chg.refl _ _, om4⟩
  case round =>
    obtain ⟨i, hi, rfl, HO, HS, hc, om⟩ := hrel
    clear om4
    have ba := ba4.chg hc (by simp)
    have hb : Below w.heap.size w wr := hB4.trans (hc.below hB4.size (by intro g hg; have := List.mem_singleton.1 hg; omega))
    have qa1 := ba.cell 1 _ rfl
    have hzw : w.heap.size + 1 < wr.heap.size := Nat.lt_of_lt_of_le hz4 hc.size
    have hzw0 : w.heap.size < wr.heap.size := Nat.lt_of_succ_lt hzw
    by_cases hlt : i < 12
    · have hiR : i < R.length := by rw [KL.out]; exact hlt
      obtain ⟨⟨sa, sl, sc⟩, hsv, hrow0⟩ := HIN.out i hiR
      have hrow : RdL FI w w.heap.size (.slice sa sl sc) R[i] := hrow0
      clear hrow0
      have hltI : (i : Int) < 12 := by omega
      have hoR := hoC.chg hc (by intro g hg hm; have a := hfC' g hg; have b := List.mem_singleton.1 hm; omega)
      have p0 : wr.cell? ⟨gC, i, none⟩ = some (.slice sa sl sc) := by simpa [FS] using hoR.cell_ (k := i) (j := 0) hsv (by decide)
      have hgw : gC < wr.heap.size := Nat.lt_of_lt_of_le hgC hc.size
      have hln := (RdL.len_ hrow).1
      have hr0 := (RdL.len_ hrow).2
      rw [hln] at p0 hrow hr0
      have HP := Hid.mk_ (totLL_take_succ R i hiR)
      have HFi := Hid.mk_ (fun j hj => HFA.out i j hiR hj)
      have htot : totLL (R.take i) + R[i].length ≤ L.length := by
        have a := totLL_take_le R (i + 1)
        have b := HT0.out
        have d := HP.out
        omega
      have HOi := Hid.mk_ (fun hi9 => HOW.out i hi9 hiR)
      clear hoR hsv
      generalize R[i] = row at p0 hrow hr0 HP HFi htot HOi
      clear hln
      generalize totLL (R.take i) = p at HS om HP HFi htot
      by_cases hs2 : i < ow.length ∧ 2 < row.length
      · obtain ⟨hs2, hs3⟩ := hs2
        have HN := Hid.mk_ (show listsOkB ⟨gl, ow⟩ = false by rw [HF.out, all_no (p := shortB) hs2 (by rw [← HOi.out hs2]; simp [shortB]; omega)]; rfl)
        clear HOi
        go_wp2
        go_ret
        exact ⟨ret_bool HN.out.symm, hb.alloc hb.size _⟩
      have HO' := Hid.mk_ (show (ow.take (i + 1)).all shortB = true by
        by_cases h9 : i < ow.length
        · exact all_step h9 HO.out (by rw [← HOi.out h9]; simp [shortB]; omega)
        · have a := HO.out
          rw [List.take_of_length_le (by omega)] at a ⊢
          exact a)
      have hbI : Chg [w.heap.size + 1] w4 (wr.alloc (.cells #[.slice sa row.length sc] 163)) := hc.alloc_ _
      have omI := om.alloc_ (.cells #[.slice sa row.length sc] 163)
      have hnS : ¬ (i < ow.length ∧ 2 < row.length) := hs2
      have HNX := Hid.mk_ hs2
      have hcase : ∀ b : Bool, b = decide (i < ow.length) → (b = true → ¬ 2 < row.length) := fun b e hb h2 => hs2 ⟨by rw [e] at hb; simpa using hb, h2⟩
      clear hs2 hnS HOi hc om
      by_cases h9 : i < ow.length
      · have h2n := hcase true (by simp [h9]) rfl
        have h2I : ¬ (2 < (row.length : Int)) := by omega
        clear hcase
        go_wp2
        obtain ⟨wo, hwo⟩ : ∃ wo : World, wo = wr.alloc (.cells #[.slice sa row.length sc] 163) := ⟨_, rfl⟩
        rw [← hwo] at hbI omI ⊢
        have hzo : wo.heap.size = wr.heap.size + 1 := by rw [hwo]; simp
        clear hwo
        go_loopw [7, 45] (fun _ j wr => ∃ k : Nat, k ≤ row.length ∧ j = .int .i64 k ∧ Hid (seenOk (L.take (p + k)) = true) ∧ Chg [w.heap.size + 1] w4 wr ∧ OwL FB 207 wr (.slice (some ⟨w.heap.size + 1, 0, none⟩) 24 24) (metI (L.take (p + k)))) (fun _ j _ => row.length - (intOf j).toNat)
        case atStart => exact ⟨0, Nat.zero_le _, rfl, HS, hbI, omI⟩
        case round =>
          obtain ⟨j, hj, rfl, HRj, hcq, omq⟩ := hrel
          clear hbI omI p0 qa1
          have hbq : Below w.heap.size w wr := hB4.trans (hcq.below hB4.size (by intro g hg; have := List.mem_singleton.1 hg; omega))
          by_cases hlj : j < row.length
          · obtain ⟨g1, o1, cap1, he1, hg1, _, _, hc1⟩ := (hrow.below hbq).at_ (List.getElem?_eq_getElem hlj)
            injection he1 with e11 e12 e13
            clear e12
            subst e11 e13
            have p1 : wr.cell? ⟨g1, o1 + j, none⟩ = some (.int .i64 row[j]) := by simpa [FI] using hc1 0 _ rfl
            clear hc1
            have hLp : p + j < L.length := by omega
            have hLe : L[p + j] = row[j] := by
              have a := HFi.out j hlj
              rw [List.getElem?_eq_getElem hLp] at a
              exact Option.some.inj a
            have Hn1 := Hid.mk_ (seen_no1 (L := L) hLp)
            have Hn2 := Hid.mk_ (seen_no2 (L := L) hLp)
            have Hst := Hid.mk_ (seen_step (L := L) hLp HRj.out)
            have HMs := Hid.mk_ (fun s hm => metI_set L (p + j) s hLp hm)
            rw [hLe] at Hn1 Hn2 Hst HMs
            generalize row[j] = y at p1 Hn1 Hn2 Hst HMs
            clear hLe hLp
            by_cases d1 : inB 0 23 y = true
            case neg =>
              have d1' : inB 0 23 y = false := (Bool.not_eq_true _).mp d1
              have HN := Hid.mk_ (show listsOkB ⟨gl, ow⟩ = false by rw [HF.out, Hn1.out d1']; simp)
              clear d1
              go_wp2_with (go_at_call 124; refine (isSlot_ct _ _).mono ?_; rw [d1']; rintro e w2 ⟨rfl, rfl⟩)
              go_ret
              exact ⟨ret_bool HN.out.symm, hbq⟩
            obtain ⟨y0, y1⟩ := inB_iff.1 d1
            obtain ⟨s, rfl⟩ := Int.eq_ofNat_of_zero_le y0
            have hs3 : s < 24 := by omega
            have hgm := metI_get (L.take (p + j)) s hs3
            have cm : wr.cell? ⟨w.heap.size + 1, s, none⟩ = some (.bool ((L.take (p + j)).any fun z => z == (s : Int))) := by simpa [FB] using omq.cell_ (k := s) (j := 0) hgm (by decide)
            have hfz := omq.frozen_ s
            have hzz : w.heap.size + 1 < wr.heap.size := Nat.lt_of_lt_of_le hz4 hcq.size
            by_cases d2 : ((L.take (p + j)).any fun z => z == (s : Int)) = true
            · have HN := Hid.mk_ (show listsOkB ⟨gl, ow⟩ = false by rw [HF.out, Hn2.out d2]; simp)
              rw [d2] at cm
              clear d2 hgm omq
              go_wp2_with (go_at_call 124; refine (isSlot_ct _ _).mono ?_; rw [d1]; rintro e w2 ⟨rfl, rfl⟩)
              go_ret
              exact ⟨ret_bool HN.out.symm, hbq⟩
            have d2' : ((L.take (p + j)).any fun z => z == (s : Int)) = false := (Bool.not_eq_true _).mp d2
            have HN := Hid.mk_ (Hst.out d1 d2')
            have HM := Hid.mk_ (HMs.out s rfl)
            rw [d2'] at cm
            clear d2 d2' Hn1 Hn2 Hst HMs
            go_wp2_with (go_at_call 124; refine (isSlot_ct _ _).mono ?_; rw [d1]; rintro e w2 ⟨rfl, rfl⟩)
            go_roundw
            case rel =>
              have hset := omq.set_ (k := s) (j := 0) (y := true) (u := .bool true) hgm (by decide) rfl
              rw [HM.out] at hset
              have hset2 : OwL FB 207 (wr.setCell ⟨w.heap.size + 1, s, none⟩ (.bool true)) (.slice (some ⟨w.heap.size + 1, 0, none⟩) 24 24) (metI (L.take (p + j + 1))) := by simpa [FB] using hset
              exact ⟨j + 1, by omega, by go_num, HN, hcq.set_ (List.mem_singleton_self _) _, hset2⟩
            case measure => simp [intOf]; omega
          · obtain rfl : j = row.length := by omega
            go_wp2
            go_roundw
            case rel => exact ⟨i + 1, by omega, by go_num, HO', by rw [HP.out]; exact HRj, hcq, by rw [HP.out]; exact omq⟩
            case measure => simp [intOf]; omega
      · clear hcase
        have h9I : ¬ ((i : Int) < (ow.length : Int)) := by omega
        go_wp2
        obtain ⟨wo, hwo⟩ : ∃ wo : World, wo = wr.alloc (.cells #[.slice sa row.length sc] 163) := ⟨_, rfl⟩
        rw [← hwo] at hbI omI ⊢
        have hzo : wo.heap.size = wr.heap.size + 1 := by rw [hwo]; simp
        clear hwo
        go_loopw [7, 45] (fun _ j wr => ∃ k : Nat, k ≤ row.length ∧ j = .int .i64 k ∧ Hid (seenOk (L.take (p + k)) = true) ∧ Chg [w.heap.size + 1] w4 wr ∧ OwL FB 207 wr (.slice (some ⟨w.heap.size + 1, 0, none⟩) 24 24) (metI (L.take (p + k)))) (fun _ j _ => row.length - (intOf j).toNat)
        case atStart => exact ⟨0, Nat.zero_le _, rfl, HS, hbI, omI⟩
        case round =>
          obtain ⟨j, hj, rfl, HRj, hcq, omq⟩ := hrel
          clear hbI omI p0 qa1
          have hbq : Below w.heap.size w wr := hB4.trans (hcq.below hB4.size (by intro g hg; have := List.mem_singleton.1 hg; omega))
          by_cases hlj : j < row.length
          · obtain ⟨g1, o1, cap1, he1, hg1, _, _, hc1⟩ := (hrow.below hbq).at_ (List.getElem?_eq_getElem hlj)
            injection he1 with e11 e12 e13
            clear e12
            subst e11 e13
            have p1 : wr.cell? ⟨g1, o1 + j, none⟩ = some (.int .i64 row[j]) := by simpa [FI] using hc1 0 _ rfl
            clear hc1
            have hLp : p + j < L.length := by omega
            have hLe : L[p + j] = row[j] := by
              have a := HFi.out j hlj
              rw [List.getElem?_eq_getElem hLp] at a
              exact Option.some.inj a
            have Hn1 := Hid.mk_ (seen_no1 (L := L) hLp)
            have Hn2 := Hid.mk_ (seen_no2 (L := L) hLp)
            have Hst := Hid.mk_ (seen_step (L := L) hLp HRj.out)
            have HMs := Hid.mk_ (fun s hm => metI_set L (p + j) s hLp hm)
            rw [hLe] at Hn1 Hn2 Hst HMs
            generalize row[j] = y at p1 Hn1 Hn2 Hst HMs
            clear hLe hLp
            by_cases d1 : inB 0 23 y = true
            case neg =>
              have d1' : inB 0 23 y = false := (Bool.not_eq_true _).mp d1
              have HN := Hid.mk_ (show listsOkB ⟨gl, ow⟩ = false by rw [HF.out, Hn1.out d1']; simp)
              clear d1
              go_wp2_with (go_at_call 124; refine (isSlot_ct _ _).mono ?_; rw [d1']; rintro e w2 ⟨rfl, rfl⟩)
              go_ret
              exact ⟨ret_bool HN.out.symm, hbq⟩
            obtain ⟨y0, y1⟩ := inB_iff.1 d1
            obtain ⟨s, rfl⟩ := Int.eq_ofNat_of_zero_le y0
            have hs3 : s < 24 := by omega
            have hgm := metI_get (L.take (p + j)) s hs3
            have cm : wr.cell? ⟨w.heap.size + 1, s, none⟩ = some (.bool ((L.take (p + j)).any fun z => z == (s : Int))) := by simpa [FB] using omq.cell_ (k := s) (j := 0) hgm (by decide)
            have hfz := omq.frozen_ s
            have hzz : w.heap.size + 1 < wr.heap.size := Nat.lt_of_lt_of_le hz4 hcq.size
            by_cases d2 : ((L.take (p + j)).any fun z => z == (s : Int)) = true
            · have HN := Hid.mk_ (show listsOkB ⟨gl, ow⟩ = false by rw [HF.out, Hn2.out d2]; simp)
              rw [d2] at cm
              clear d2 hgm omq
              go_wp2_with (go_at_call 124; refine (isSlot_ct _ _).mono ?_; rw [d1]; rintro e w2 ⟨rfl, rfl⟩)
              go_ret
              exact ⟨ret_bool HN.out.symm, hbq⟩
            have d2' : ((L.take (p + j)).any fun z => z == (s : Int)) = false := (Bool.not_eq_true _).mp d2
            have HN := Hid.mk_ (Hst.out d1 d2')
            have HM := Hid.mk_ (HMs.out s rfl)
            rw [d2'] at cm
            clear d2 d2' Hn1 Hn2 Hst HMs
            go_wp2_with (go_at_call 124; refine (isSlot_ct _ _).mono ?_; rw [d1]; rintro e w2 ⟨rfl, rfl⟩)
            go_roundw
            case rel =>
              have hset := omq.set_ (k := s) (j := 0) (y := true) (u := .bool true) hgm (by decide) rfl
              rw [HM.out] at hset
              have hset2 : OwL FB 207 (wr.setCell ⟨w.heap.size + 1, s, none⟩ (.bool true)) (.slice (some ⟨w.heap.size + 1, 0, none⟩) 24 24) (metI (L.take (p + j + 1))) := by simpa [FB] using hset
              exact ⟨j + 1, by omega, by go_num, HN, hcq.set_ (List.mem_singleton_self _) _, hset2⟩
            case measure => simp [intOf]; omega
          · obtain rfl : j = row.length := by omega
            go_wp2
            go_roundw
            case rel => exact ⟨i + 1, by omega, by go_num, HO', by rw [HP.out]; exact HRj, hcq, by rw [HP.out]; exact omq⟩
            case measure => simp [intOf]; omega
    · obtain rfl : i = 12 := by omega
      have HN := Hid.mk_ (show listsOkB ⟨gl, ow⟩ = true by
        have a := HO.out
        have b := HS.out
        have e1 : R.take 12 = R := List.take_of_length_le (by rw [KL.out]; omega)
        have e2 : ow.take 12 = ow := List.take_of_length_le (by rw [K2.out]; omega)
        rw [e1, HT0.out, List.take_length] at b
        rw [e2] at a
        rw [HF.out, a, b]
        rfl)
      go_wp2
      go_ret
      exact ⟨ret_bool HN.out.symm, hb⟩
end Go.Proofs.YtkldapdpaldbgaaGreat
