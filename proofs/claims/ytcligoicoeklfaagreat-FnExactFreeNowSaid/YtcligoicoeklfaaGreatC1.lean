/-
  Copies of lists, memories: the contracts.
-/
import Derived.Test.YtcligoicoeklfaaGreatT
import Derived.Test.YtcligoicoeklfaaGreatL
import Derived.Deep.QuietTactic
import Derived.BigQuiet
import Derived.Deep.LoopGhost
import Derived.Deep.RegionHeld3
import Derived.Test.YtcligoicoeklfaaGreatN
import Derived.Test.YtcligoicoeklfaaGreatA
import Derived.WalkSpells
import Derived.Laws.Cover3
import Derived.Test.YtcligoicoeklfaaGreatC0
import Derived.Deep.RegionLaw
namespace Go.Proofs.YtcligoicoeklfaaGreat
open Go.RowKit

theorem OwLL.nil_ {α : Type} {T : FT α} {e E : TypeId} {w : World} : OwLL T e E w (.slice none 0 0) [] [] := ⟨rfl, World.ownsRow_nil _ _ _ _, fun k s l h => by simp at h, by simp [foot2, foot1, Value.ownBlock]⟩
theorem Chg.then_ {F : List Nat} {a b c : World} (h : Chg F a b) (hb : Below a.heap.size b c) : Chg F a c :=
  ⟨hb.os.trans h.os, hb.tape.trans h.tape, hb.output.trans h.output, Nat.le_trans h.size hb.size, fun k hk hn => (hb.block k hk).trans (h.block k hk hn)⟩
set_option maxRecDepth 100000 in
set_option maxHeartbeats 4000000 in
theorem copyLists_impl (w : World) (H : HLists) (x : Lists) (h : RdLists w w.heap.size H x) (hs : sizeLists x ≤ 536870912) :
    Calls Tryz.prog 77 #[.agg #[.slice H.Global.a H.Global.len H.Global.cap, .slice H.Own.a H.Own.len H.Own.cap]] w fun e w' => ∃ H' : HLists, e = .returned (H'.val x) ∧ OwLists w' H' x ∧ (∀ g ∈ H'.foot, w.heap.size ≤ g) ∧ Below w.heap.size w w' := by
  have hs1 : szLL x.Global ≤ 536870912 := Nat.le_trans (Nat.le_add_right _ _) hs
  have hs2 : szLL x.Own ≤ 536870912 := Nat.le_trans (Nat.le_add_left _ _) hs
  have hl1 : x.Global.length ≤ 536870912 := Nat.le_trans (Nat.le_add_right _ _) hs1
  have hl2 : x.Own.length ≤ 536870912 := Nat.le_trans (Nat.le_add_right _ _) hs2
  obtain ⟨⟨A1, n1, c1⟩, t1, ⟨A2, n2, c2⟩, t2⟩ := H
  have hGlobal : RdLL FI w w.heap.size (.slice A1 n1 c1) t1 x.Global := h.Global
  have hOwn : RdLL FI w w.heap.size (.slice A2 n2 c2) t2 x.Own := h.Own
  clear h hs
  obtain ⟨rfl, _, _⟩ := hGlobal.len'
  obtain ⟨rfl, _, _⟩ := hOwn.len'
  show Calls Tryz.prog 77 #[.agg #[.slice A1 x.Global.length c1, .slice A2 x.Own.length c2]] _ _
  have ba : Box (((w.alloc (.cells #[.slice A1 x.Global.length c1, .slice A2 x.Own.length c2] 34)).alloc (.cells #[.slice none 0 0, .slice none 0 0] 34)).alloc (.cells #[.slice none 0 0, .slice none 0 0] 34)) w.heap.size [.slice A1 x.Global.length c1, .slice A2 x.Own.length c2] := ((Box.new w #[.slice A1 x.Global.length c1, .slice A2 x.Own.length c2] _).alloc _).alloc _
  have br : Box (((w.alloc (.cells #[.slice A1 x.Global.length c1, .slice A2 x.Own.length c2] 34)).alloc (.cells #[.slice none 0 0, .slice none 0 0] 34)).alloc (.cells #[.slice none 0 0, .slice none 0 0] 34)) (w.heap.size + 1) [.slice none 0 0, .slice none 0 0] := by
    have hb := (Box.new (w.alloc (.cells #[.slice A1 x.Global.length c1, .slice A2 x.Own.length c2] 34)) #[.slice none 0 0, .slice none 0 0] 34).alloc (.cells #[.slice none 0 0, .slice none 0 0] 34)
    rw [World.size_alloc] at hb
    exact hb
  have bo : Box (((w.alloc (.cells #[.slice A1 x.Global.length c1, .slice A2 x.Own.length c2] 34)).alloc (.cells #[.slice none 0 0, .slice none 0 0] 34)).alloc (.cells #[.slice none 0 0, .slice none 0 0] 34)) (w.heap.size + 1 + 1) [.slice none 0 0, .slice none 0 0] := by
    have hb := Box.new ((w.alloc (.cells #[.slice A1 x.Global.length c1, .slice A2 x.Own.length c2] 34)).alloc (.cells #[.slice none 0 0, .slice none 0 0] 34)) #[.slice none 0 0, .slice none 0 0] 34
    rw [World.size_alloc, World.size_alloc] at hb
    exact hb
  have hB : Below w.heap.size w (((w.alloc (.cells #[.slice A1 x.Global.length c1, .slice A2 x.Own.length c2] 34)).alloc (.cells #[.slice none 0 0, .slice none 0 0] 34)).alloc (.cells #[.slice none 0 0, .slice none 0 0] 34)) := by repeat (first | exact Below.refl _ _ | refine Below.alloc ?_ (by simp <;> omega) _ | refine below_grow_of ?_ (by simp <;> omega) _ _ | refine Below.drew ?_ | refine below_drewN ?_ _)
  go_enter Tryz.func77, Tryz.ntmps77
  go_wp2_with fail
  generalize hW0 : (((w.alloc (.cells #[.slice A1 x.Global.length c1, .slice A2 x.Own.length c2] 34)).alloc (.cells #[.slice none 0 0, .slice none 0 0] 34)).alloc (.cells #[.slice none 0 0, .slice none 0 0] 34)) = wS0 at ba br bo hB ⊢
  clear hW0
  have zS := bo.lt
  go_loopw [12] (fun i wr => ∃ k : Nat, k ≤ x.Global.length ∧ i = .int .i64 k ∧ (∃ (K : SV) (t' : List SV), OwLL FI 3 80 wr K.val t' (x.Global.take k) ∧ (∀ g ∈ foot2 K.val t', wS0.heap.size ≤ g) ∧ Box wr (w.heap.size + 1 + 1) [.slice K.a K.len K.cap, .slice none 0 0]) ∧ Chg [w.heap.size + 1 + 1] wS0 wr) (fun i _ => x.Global.length - (intOf i).toNat)
  case atStart => exact ⟨0, Nat.zero_le _, rfl, ⟨⟨none, 0, 0⟩, [], OwLL.nil_, by simp [foot2, foot1, SV.val, Value.ownBlock], bo⟩, Chg.refl _ _⟩
  case round =>
    obtain ⟨i, hi, rfl, ⟨K, t', ho, hfo, bo⟩, hc⟩ := hrel
    have hb : Below w.heap.size w wr := hB.trans (hc.below hB.size (by simp <;> omega)) 
    have hz : w.heap.size + 1 + 1 < wr.heap.size := Nat.lt_of_lt_of_le zS hc.size
    by_cases hlt : i < x.Global.length
    · obtain ⟨g, o, A', c', he, hg, p0, r1⟩ := hGlobal.row hb hlt
      subst he
      have hlen : x.Global[i].length ≤ 1073741824 := by have := le_szLL (List.getElem_mem hlt); omega
      have htl : t'.length ≤ 536870912 := by rw [ho.len, List.length_take]; omega
      have HTk := Hid.mk_ (List.take_succ_eq_append_getElem hlt)
      have z1 : g < wr.heap.size := Nat.lt_of_lt_of_le hg hb.size
      have HC := Hid.mk_ hc.size
      generalize x.Global[i] = row at *
      have q0 := (bo.alloc (.cells #[.slice A' row.length c'] 80)).cell 0 _ rfl
      have f0 := bo.fro 0
      have hr1 := rd_up r1 (hb.alloc hb.size (.cells #[.slice A' row.length c'] 80)).drew
      have bo1 := (bo.alloc (.cells #[.slice A' row.length c'] 80)).drew
      go_wp2_with fail
      go_region_law (first | (refine step_append_flat Tryz.stSL rfl (.tmp 17) (.tmp 22) rfl (v := K.val) (y := .slice (some ⟨w1.heap.size, 0, none⟩) 1 1) (l := t') (m := [⟨A2, row.length, c2⟩]) (by simp [Act.eval, SV.val]) (by simp [Act.eval]) (ho1.outer.alloc_ _) (OwL.lit FS [⟨A2, row.length, c2⟩] #[.slice A2 row.length c2] rfl (by simp [maxLen]) w1 80).rd' (by simp only [List.length_singleton]; omega) ?_; intro v' w3 ho3 hg3 hat3; obtain ⟨A3, c3, hv3, _⟩ := ho3.rd'; simp only [List.length_append, List.length_cons, List.length_nil] at hv3; subst hv3; have bo3 := (bo2.alloc (.cells #[.slice A2 row.length c2] 80)).chg (Chg.of_grown hg3) (fun hm => by have := hfo _ (mem_foot2.2 (.inl (mem_foot1.1 hm))); omega); have q3 := bo3.cell 0 _ rfl; have f3 := bo3.fro 0) | (go_simp; go_at_call 122; ((with_reducible refine (CloneInt_ct _ _ row hr1 hlen).mono ?_); rintro e w1 ⟨vs, rfl, hos, hfs, hb1⟩; have hb1' : Below wr.heap.size wr w1 := ((Below.refl _ _).alloc (Nat.le_refl _) _).drew.trans (hb1.mono (by simp)); have ho1 := ho.step0 hb1'; have bo2 := bo1.below hb1; have q2 := bo2.cell 0 _ rfl; have f2 := bo2.fro 0; have q2b := fun o => (bo2.alloc o).cell 0 _ rfl; have hfs2 : ∀ g ∈ foot1 vs, wr.heap.size < g := (fun g hg => by have := hfs g hg; simp at this; omega); obtain ⟨A2, c2, hv2, _⟩ := hos.rd'; subst hv2)))
      all_goals
        have hsn := OwLL.snoc (ho1.alloc_ (.cells #[.slice A2 row.length c2] 80)) (s := ⟨A2, row.length, c2⟩) (hos.alloc_ _) (fun g hg hm => by have a := hfs2 g hg; have b := ho.lt g hm; omega) ho3 hg3 hat3
        have hbN : Below wS0.heap.size wr w3 := (((Below.refl _ _).trans (hb1'.mono HC.out)).alloc (Nat.le_trans HC.out hb1'.size) _).grown hg3 (by simp; exact Nat.le_succ_of_le (Nat.le_trans HC.out hb1'.size)) (fun k hk => hfo k (mem_foot2.2 (.inl hk)))
        have hcN := (hc.then_ hbN).set_ (g := w.heap.size + 1 + 1) (i := 0) (by simp) (.slice A3 (t'.length + (0 + 1)) c3)
        have boN := bo3.set 0 (.slice A3 (t'.length + (0 + 1)) c3)
        have hfN : ∀ b ∈ foot2 (SV.val ⟨A3, t'.length + (0 + 1), c3⟩) (t' ++ [⟨A2, row.length, c2⟩]), wS0.heap.size ≤ b := by
          intro b hb'
          unfold foot2 at hb'
          rw [List.flatMap_append] at hb'
          rcases List.mem_append.1 hb' with h1 | h1
          · rcases foot_app hat3 b h1 with h2 | h2
            · exact hfo b (mem_foot2.2 (.inl (mem_foot1.1 h2)))
            · have := hb1'.size
              have := HC.out
              simp at h2
              omega
          · rcases List.mem_append.1 h1 with h2 | h2
            · exact hfo b (by unfold foot2; exact List.mem_append.2 (.inr h2))
            · have h4 : b ∈ foot1 (SV.val ⟨A2, row.length, c2⟩) := by simpa using h2
              have := hfs2 b h4
              have := HC.out
              omega
        have hoN := hsn.chg ((Chg.refl [w.heap.size + 1 + 1] w3).set_ (g := w.heap.size + 1 + 1) (i := 0) (by simp) (.slice A3 (t'.length + (0 + 1)) c3)) (fun b hb hm => by have := hfN b hb; simp only [List.mem_cons, List.not_mem_nil, or_false] at hm; omega)
        go_wp2_with fail
        go_roundw
        case rel => exact ⟨i + 1, by omega, by go_num, ⟨⟨A3, t'.length + (0 + 1), c3⟩, _, by rw [HTk.out]; exact hoN, hfN, boN⟩, hcN⟩
        case measure => simp [intOf]; omega
    · obtain rfl : i = x.Global.length := by omega
      rw [List.take_length] at ho
      obtain ⟨wS1, rfl⟩ : ∃ W : World, W = wr := ⟨_, rfl⟩
      obtain ⟨K0, rfl⟩ : ∃ Q, Q = K := ⟨_, rfl⟩
      obtain ⟨t0, rfl⟩ : ∃ Q, Q = t' := ⟨_, rfl⟩
      have oK := ho
      have fK := hfo
      have uK := ho.lt
      have ba1 := ba.chg hc (by simp <;> omega)
      have br1 := br.chg hc (by simp <;> omega)
      have qa1 := ba1.cell 1 _ rfl
      have szK := hc.size
      have zS0 := zS
      clear ba br zS ho hfo hB hc
      have zS := hz
      have hB := hb
      clear hz hb
      go_wp2_with fail
      go_loopw [29] (fun i wr => ∃ k : Nat, k ≤ x.Own.length ∧ i = .int .i64 k ∧ (∃ (K : SV) (t' : List SV), OwLL FI 3 80 wr K.val t' (x.Own.take k) ∧ (∀ g ∈ foot2 K.val t', wS1.heap.size ≤ g) ∧ Box wr (w.heap.size + 1 + 1) [.slice K0.a K0.len K0.cap, .slice K.a K.len K.cap]) ∧ Chg [w.heap.size + 1 + 1] wS1 wr) (fun i _ => x.Own.length - (intOf i).toNat)
      case atStart => exact ⟨0, Nat.zero_le _, rfl, ⟨⟨none, 0, 0⟩, [], OwLL.nil_, by simp [foot2, foot1, SV.val, Value.ownBlock], bo⟩, Chg.refl _ _⟩
      case round =>
        obtain ⟨i, hi, rfl, ⟨K, t', ho, hfo, bo⟩, hc⟩ := hrel
        have hb : Below w.heap.size w wr := hB.trans (hc.below hB.size (by simp <;> omega)) 
        have hz : w.heap.size + 1 + 1 < wr.heap.size := Nat.lt_of_lt_of_le zS hc.size
        by_cases hlt : i < x.Own.length
        · obtain ⟨g, o, A', c', he, hg, p0, r1⟩ := hOwn.row hb hlt
          subst he
          have hlen : x.Own[i].length ≤ 1073741824 := by have := le_szLL (List.getElem_mem hlt); omega
          have htl : t'.length ≤ 536870912 := by rw [ho.len, List.length_take]; omega
          have HTk := Hid.mk_ (List.take_succ_eq_append_getElem hlt)
          have z1 : g < wr.heap.size := Nat.lt_of_lt_of_le hg hb.size
          have HC := Hid.mk_ hc.size
          generalize x.Own[i] = row at *
          have q0 := (bo.alloc (.cells #[.slice A' row.length c'] 80)).cell 1 _ rfl
          have f0 := bo.fro 1
          have hr1 := rd_up r1 (hb.alloc hb.size (.cells #[.slice A' row.length c'] 80)).drew
          have bo1 := (bo.alloc (.cells #[.slice A' row.length c'] 80)).drew
          go_wp2_with fail
          go_region_law (first | (refine step_append_flat Tryz.stSL rfl (.tmp 34) (.tmp 39) rfl (v := K.val) (y := .slice (some ⟨w1.heap.size, 0, none⟩) 1 1) (l := t') (m := [⟨A2, row.length, c2⟩]) (by simp [Act.eval, SV.val]) (by simp [Act.eval]) (ho1.outer.alloc_ _) (OwL.lit FS [⟨A2, row.length, c2⟩] #[.slice A2 row.length c2] rfl (by simp [maxLen]) w1 80).rd' (by simp only [List.length_singleton]; omega) ?_; intro v' w3 ho3 hg3 hat3; obtain ⟨A3, c3, hv3, _⟩ := ho3.rd'; simp only [List.length_append, List.length_cons, List.length_nil] at hv3; subst hv3; have bo3 := (bo2.alloc (.cells #[.slice A2 row.length c2] 80)).chg (Chg.of_grown hg3) (fun hm => by have := hfo _ (mem_foot2.2 (.inl (mem_foot1.1 hm))); omega); have q3 := bo3.cell 1 _ rfl; have f3 := bo3.fro 1) | (go_simp; go_at_call 122; ((with_reducible refine (CloneInt_ct _ _ row hr1 hlen).mono ?_); rintro e w1 ⟨vs, rfl, hos, hfs, hb1⟩; have hb1' : Below wr.heap.size wr w1 := ((Below.refl _ _).alloc (Nat.le_refl _) _).drew.trans (hb1.mono (by simp)); have ho1 := ho.step0 hb1'; have bo2 := bo1.below hb1; have q2 := bo2.cell 1 _ rfl; have f2 := bo2.fro 1; have q2b := fun o => (bo2.alloc o).cell 1 _ rfl; have hfs2 : ∀ g ∈ foot1 vs, wr.heap.size < g := (fun g hg => by have := hfs g hg; simp at this; omega); obtain ⟨A2, c2, hv2, _⟩ := hos.rd'; subst hv2)))
          all_goals
            have hsn := OwLL.snoc (ho1.alloc_ (.cells #[.slice A2 row.length c2] 80)) (s := ⟨A2, row.length, c2⟩) (hos.alloc_ _) (fun g hg hm => by have a := hfs2 g hg; have b := ho.lt g hm; omega) ho3 hg3 hat3
            have hbN : Below wS1.heap.size wr w3 := (((Below.refl _ _).trans (hb1'.mono HC.out)).alloc (Nat.le_trans HC.out hb1'.size) _).grown hg3 (by simp; exact Nat.le_succ_of_le (Nat.le_trans HC.out hb1'.size)) (fun k hk => hfo k (mem_foot2.2 (.inl hk)))
            have hcN := (hc.then_ hbN).set_ (g := w.heap.size + 1 + 1) (i := 1) (by simp) (.slice A3 (t'.length + (0 + 1)) c3)
            have boN := bo3.set 1 (.slice A3 (t'.length + (0 + 1)) c3)
            have hfN : ∀ b ∈ foot2 (SV.val ⟨A3, t'.length + (0 + 1), c3⟩) (t' ++ [⟨A2, row.length, c2⟩]), wS1.heap.size ≤ b := by
              intro b hb'
              unfold foot2 at hb'
              rw [List.flatMap_append] at hb'
              rcases List.mem_append.1 hb' with h1 | h1
              · rcases foot_app hat3 b h1 with h2 | h2
                · exact hfo b (mem_foot2.2 (.inl (mem_foot1.1 h2)))
                · have := hb1'.size
                  have := HC.out
                  simp at h2
                  omega
              · rcases List.mem_append.1 h1 with h2 | h2
                · exact hfo b (by unfold foot2; exact List.mem_append.2 (.inr h2))
                · have h4 : b ∈ foot1 (SV.val ⟨A2, row.length, c2⟩) := by simpa using h2
                  have := hfs2 b h4
                  have := HC.out
                  omega
            have hoN := hsn.chg ((Chg.refl [w.heap.size + 1 + 1] w3).set_ (g := w.heap.size + 1 + 1) (i := 1) (by simp) (.slice A3 (t'.length + (0 + 1)) c3)) (fun b hb hm => by have := hfN b hb; simp only [List.mem_cons, List.not_mem_nil, or_false] at hm; omega)
            go_wp2_with fail
            go_roundw
            case rel => exact ⟨i + 1, by omega, by go_num, ⟨⟨A3, t'.length + (0 + 1), c3⟩, _, by rw [HTk.out]; exact hoN, hfN, boN⟩, hcN⟩
            case measure => simp [intOf]; omega
        · obtain rfl : i = x.Own.length := by omega
          rw [List.take_length] at ho
          have brN := br1.chg hc (by simp <;> omega)
          have oK2 := oK.chg hc (fun g hg hm => by simp only [List.mem_cons, List.not_mem_nil, or_false] at hm; have := fK g hg; omega)
          have q0 := bo.cell 0 _ rfl
          have q1 := bo.cell 1 _ rfl
          have r0 := brN.cell 0 _ rfl
          have r1 := brN.cell 1 _ rfl
          have fr := brN.fro
          have hzr := brN.lt
          go_wp2_with fail
          refine bodyPost_ret (v := .agg #[.slice K0.a K0.len K0.cap, .slice K.a K.len K.cap]) (by simp [results, Tryz.results77, go_sem, r0, r1]) rfl ⟨⟨K0, t0, K, t'⟩, rfl, ⟨oK2.chg (F := [w.heap.size + 1]) (by repeat (first | exact Chg.refl _ _ | refine Chg.set_ ?_ (by simp) _ | refine Chg.drew_ ?_)) (fun g hg hm => by simp only [List.mem_cons, List.not_mem_nil, or_false] at hm; have := fK g hg; omega), ho.chg (F := [w.heap.size + 1]) (by repeat (first | exact Chg.refl _ _ | refine Chg.set_ ?_ (by simp) _ | refine Chg.drew_ ?_)) (fun g hg hm => by simp only [List.mem_cons, List.not_mem_nil, or_false] at hm; have := hfo g hg; omega), fun g hg hm => by have := uK g hg; have := hfo g hm; omega⟩, fun g hg => ?_, ?_⟩
          · rcases HLists.mem_foot.1 hg with hg | hg
            · have := fK g hg
              omega
            · have := hfo g hg
              omega
          · exact Below.trans hb (by repeat (first | exact Below.refl _ _ | refine Below.setCell ?_ (by simp <;> omega) _ | refine Below.drew ?_))

set_option maxRecDepth 100000 in
set_option maxHeartbeats 2000000 in
theorem copyMem_impl (w : World) (H : HMem) (x : Mem) (h : RdMem w w.heap.size H x) (hs : sizeMem x ≤ 536870912) :
    Calls Tryz.prog 29 #[.agg #[.slice H.Heap.Bytes.a H.Heap.Bytes.len H.Heap.Bytes.cap, .slice H.Heap.Class.a H.Heap.Class.len H.Heap.Class.cap, .slice H.Lists.Global.a H.Lists.Global.len H.Lists.Global.cap, .slice H.Lists.Own.a H.Lists.Own.len H.Lists.Own.cap]] w fun e w' => ∃ H' : HMem, e = .returned (H'.val x) ∧ OwMem w' H' x ∧ (∀ g ∈ H'.foot, w.heap.size ≤ g) ∧ Below w.heap.size w w' := by
  have hs1 : sizeHeap x.Heap ≤ 1073741824 := by unfold sizeMem at hs; omega
  have hs2 : sizeLists x.Lists ≤ 536870912 := by unfold sizeMem at hs; omega
  clear hs
  have ba : Box ((w.alloc (.cells #[.slice H.Heap.Bytes.a H.Heap.Bytes.len H.Heap.Bytes.cap, .slice H.Heap.Class.a H.Heap.Class.len H.Heap.Class.cap, .slice H.Lists.Global.a H.Lists.Global.len H.Lists.Global.cap, .slice H.Lists.Own.a H.Lists.Own.len H.Lists.Own.cap] 36)).alloc (.cells #[.slice none 0 0, .slice none 0 0, .slice none 0 0, .slice none 0 0] 36)) w.heap.size [.slice H.Heap.Bytes.a H.Heap.Bytes.len H.Heap.Bytes.cap, .slice H.Heap.Class.a H.Heap.Class.len H.Heap.Class.cap, .slice H.Lists.Global.a H.Lists.Global.len H.Lists.Global.cap, .slice H.Lists.Own.a H.Lists.Own.len H.Lists.Own.cap] := (Box.new w #[.slice H.Heap.Bytes.a H.Heap.Bytes.len H.Heap.Bytes.cap, .slice H.Heap.Class.a H.Heap.Class.len H.Heap.Class.cap, .slice H.Lists.Global.a H.Lists.Global.len H.Lists.Global.cap, .slice H.Lists.Own.a H.Lists.Own.len H.Lists.Own.cap] _).alloc _
  have br : Box ((w.alloc (.cells #[.slice H.Heap.Bytes.a H.Heap.Bytes.len H.Heap.Bytes.cap, .slice H.Heap.Class.a H.Heap.Class.len H.Heap.Class.cap, .slice H.Lists.Global.a H.Lists.Global.len H.Lists.Global.cap, .slice H.Lists.Own.a H.Lists.Own.len H.Lists.Own.cap] 36)).alloc (.cells #[.slice none 0 0, .slice none 0 0, .slice none 0 0, .slice none 0 0] 36)) (w.heap.size + 1) [.slice none 0 0, .slice none 0 0, .slice none 0 0, .slice none 0 0] := by
    have hb := Box.new (w.alloc (.cells #[.slice H.Heap.Bytes.a H.Heap.Bytes.len H.Heap.Bytes.cap, .slice H.Heap.Class.a H.Heap.Class.len H.Heap.Class.cap, .slice H.Lists.Global.a H.Lists.Global.len H.Lists.Global.cap, .slice H.Lists.Own.a H.Lists.Own.len H.Lists.Own.cap] 36)) #[.slice none 0 0, .slice none 0 0, .slice none 0 0, .slice none 0 0] 36
    rw [World.size_alloc] at hb
    exact hb
  have hB : Below w.heap.size w ((w.alloc (.cells #[.slice H.Heap.Bytes.a H.Heap.Bytes.len H.Heap.Bytes.cap, .slice H.Heap.Class.a H.Heap.Class.len H.Heap.Class.cap, .slice H.Lists.Global.a H.Lists.Global.len H.Lists.Global.cap, .slice H.Lists.Own.a H.Lists.Own.len H.Lists.Own.cap] 36)).alloc (.cells #[.slice none 0 0, .slice none 0 0, .slice none 0 0, .slice none 0 0] 36)) := by repeat (first | exact Below.refl _ _ | refine Below.alloc ?_ (by simp <;> omega) _ | refine below_grow_of ?_ (by simp <;> omega) _ _ | refine Below.drew ?_ | refine below_drewN ?_ _)
  go_enter Tryz.func29, Tryz.ntmps29
  go_wp2_with fail
  generalize hW0 : ((w.alloc (.cells #[.slice H.Heap.Bytes.a H.Heap.Bytes.len H.Heap.Bytes.cap, .slice H.Heap.Class.a H.Heap.Class.len H.Heap.Class.cap, .slice H.Lists.Global.a H.Lists.Global.len H.Lists.Global.cap, .slice H.Lists.Own.a H.Lists.Own.len H.Lists.Own.cap] 36)).alloc (.cells #[.slice none 0 0, .slice none 0 0, .slice none 0 0, .slice none 0 0] 36)) = w0 at ba br hB ⊢
  clear hW0
  have qa0 := ba.cell 0 _ rfl
  have qr0 := br.cell 0 _ rfl
  have qa1 := ba.cell 1 _ rfl
  have qr1 := br.cell 1 _ rfl
  have qa2 := ba.cell 2 _ rfl
  have qr2 := br.cell 2 _ rfl
  have qa3 := ba.cell 3 _ rfl
  have qr3 := br.cell 3 _ rfl
  have fr := br.fro
  have z0 := br.lt
  go_region_with (first | (go_at_call 76; (first | ((with_reducible refine (copyHeap_impl _ H.Heap x.Heap (rdHeap_up h.Heap hB) hs1).mono ?_); rintro e w1 ⟨K0, rfl, o0, f0, hb⟩; replace ba := ba.below hb; replace br := br.below hb; replace hB := hB.trans (hb.mono hB.size); have sz := hb.size; have u0 := o0.lt; (try replace o1 := o1.step0 hb); replace qa0 := ba.cell 0 _ rfl; replace qr0 := br.cell 0 _ rfl; replace qa1 := ba.cell 1 _ rfl; replace qr1 := br.cell 1 _ rfl; replace qa2 := ba.cell 2 _ rfl; replace qr2 := br.cell 2 _ rfl; replace qa3 := ba.cell 3 _ rfl; replace qr3 := br.cell 3 _ rfl; replace fr := br.fro; clear hb) | ((with_reducible refine (copyHeap_impl _ H.Heap x.Heap (rdHeap_up h.Heap hB.drew) hs1).mono ?_); rintro e w1 ⟨K0, rfl, o0, f0, hb⟩; replace hb := undrew hb; replace f0 := fcdrew f0; replace ba := ba.below hb; replace br := br.below hb; replace hB := hB.trans (hb.mono hB.size); have sz := hb.size; have u0 := o0.lt; (try replace o1 := o1.step0 hb); replace qa0 := ba.cell 0 _ rfl; replace qr0 := br.cell 0 _ rfl; replace qa1 := ba.cell 1 _ rfl; replace qr1 := br.cell 1 _ rfl; replace qa2 := ba.cell 2 _ rfl; replace qr2 := br.cell 2 _ rfl; replace qa3 := ba.cell 3 _ rfl; replace qr3 := br.cell 3 _ rfl; replace fr := br.fro; clear hb))) | (go_at_call 77; (first | ((with_reducible refine (copyLists_impl _ H.Lists x.Lists (rdLists_up h.Lists hB) hs2).mono ?_); rintro e w2 ⟨K1, rfl, o1, f1, hb⟩; replace ba := ba.below hb; replace br := br.below hb; replace hB := hB.trans (hb.mono hB.size); have sz := hb.size; have u1 := o1.lt; (try replace o0 := o0.step0 hb); replace qa0 := ba.cell 0 _ rfl; replace qr0 := br.cell 0 _ rfl; replace qa1 := ba.cell 1 _ rfl; replace qr1 := br.cell 1 _ rfl; replace qa2 := ba.cell 2 _ rfl; replace qr2 := br.cell 2 _ rfl; replace qa3 := ba.cell 3 _ rfl; replace qr3 := br.cell 3 _ rfl; replace fr := br.fro; clear hb) | ((with_reducible refine (copyLists_impl _ H.Lists x.Lists (rdLists_up h.Lists hB.drew) hs2).mono ?_); rintro e w2 ⟨K1, rfl, o1, f1, hb⟩; replace hb := undrew hb; replace f1 := fcdrew f1; replace ba := ba.below hb; replace br := br.below hb; replace hB := hB.trans (hb.mono hB.size); have sz := hb.size; have u1 := o1.lt; (try replace o0 := o0.step0 hb); replace qa0 := ba.cell 0 _ rfl; replace qr0 := br.cell 0 _ rfl; replace qa1 := ba.cell 1 _ rfl; replace qr1 := br.cell 1 _ rfl; replace qa2 := ba.cell 2 _ rfl; replace qr2 := br.cell 2 _ rfl; replace qa3 := ba.cell 3 _ rfl; replace qr3 := br.cell 3 _ rfl; replace fr := br.fro; clear hb))))
  all_goals
    go_wp2_with fail
    refine bodyPost_ret (v := .agg #[.slice K0.Bytes.a K0.Bytes.len K0.Bytes.cap, .slice K0.Class.a K0.Class.len K0.Class.cap, .slice K1.Global.a K1.Global.len K1.Global.cap, .slice K1.Own.a K1.Own.len K1.Own.cap]) (by simp [results, Tryz.results29, go_sem, qr0, qr1, qr2, qr3]) rfl ⟨⟨K0, K1⟩, rfl, ⟨o0.chg (F := [w.heap.size + 1]) (by repeat (first | exact Chg.refl _ _ | refine Chg.set_ ?_ (by simp) _ | refine Chg.drew_ ?_)) (fun g hg hm => by simp only [List.mem_cons, List.not_mem_nil, or_false] at hm; have := f0 g hg; omega), o1.chg (F := [w.heap.size + 1]) (by repeat (first | exact Chg.refl _ _ | refine Chg.set_ ?_ (by simp) _ | refine Chg.drew_ ?_)) (fun g hg hm => by simp only [List.mem_cons, List.not_mem_nil, or_false] at hm; have := f1 g hg; omega), fun g hg hm => by have := u0 g hg; have := f0 g hg; have := u1 g hm; have := f1 g hm; omega⟩, fun g hg => ?_, ?_⟩
    · rcases HMem.mem_foot.1 hg with hg | hg
      · have := f0 g hg
        omega
      · have := f1 g hg
        omega
    · exact Below.trans hB (by repeat (first | exact Below.refl _ _ | refine Below.setCell ?_ (by simp <;> omega) _ | refine Below.drew ?_))

set_option maxRecDepth 100000 in
set_option maxHeartbeats 2000000 in
theorem l9Copy_spec (w : World) (H : HMem) (x : Mem) (h : RdMem w w.heap.size H x) (hs : sizeMem x ≤ 536870912) :
    Calls Tryz.prog 19 #[.agg #[.slice H.Heap.Bytes.a H.Heap.Bytes.len H.Heap.Bytes.cap, .slice H.Heap.Class.a H.Heap.Class.len H.Heap.Class.cap, .slice H.Lists.Global.a H.Lists.Global.len H.Lists.Global.cap, .slice H.Lists.Own.a H.Lists.Own.len H.Lists.Own.cap]] w fun e w' => ∃ H' : HMem, e = .returned (H'.val x) ∧ OwMem w' H' x ∧ (∀ g ∈ H'.foot, w.heap.size ≤ g) ∧ Below w.heap.size w w' := by
  have hs1 : sizeHeap x.Heap ≤ 1073741824 := by unfold sizeMem at hs; omega
  have hs2 : sizeLists x.Lists ≤ 536870912 := by unfold sizeMem at hs; omega
  clear hs
  have ba : Box ((w.alloc (.cells #[.slice H.Heap.Bytes.a H.Heap.Bytes.len H.Heap.Bytes.cap, .slice H.Heap.Class.a H.Heap.Class.len H.Heap.Class.cap, .slice H.Lists.Global.a H.Lists.Global.len H.Lists.Global.cap, .slice H.Lists.Own.a H.Lists.Own.len H.Lists.Own.cap] 36)).alloc (.cells #[.slice none 0 0, .slice none 0 0, .slice none 0 0, .slice none 0 0] 36)) w.heap.size [.slice H.Heap.Bytes.a H.Heap.Bytes.len H.Heap.Bytes.cap, .slice H.Heap.Class.a H.Heap.Class.len H.Heap.Class.cap, .slice H.Lists.Global.a H.Lists.Global.len H.Lists.Global.cap, .slice H.Lists.Own.a H.Lists.Own.len H.Lists.Own.cap] := (Box.new w #[.slice H.Heap.Bytes.a H.Heap.Bytes.len H.Heap.Bytes.cap, .slice H.Heap.Class.a H.Heap.Class.len H.Heap.Class.cap, .slice H.Lists.Global.a H.Lists.Global.len H.Lists.Global.cap, .slice H.Lists.Own.a H.Lists.Own.len H.Lists.Own.cap] _).alloc _
  have br : Box ((w.alloc (.cells #[.slice H.Heap.Bytes.a H.Heap.Bytes.len H.Heap.Bytes.cap, .slice H.Heap.Class.a H.Heap.Class.len H.Heap.Class.cap, .slice H.Lists.Global.a H.Lists.Global.len H.Lists.Global.cap, .slice H.Lists.Own.a H.Lists.Own.len H.Lists.Own.cap] 36)).alloc (.cells #[.slice none 0 0, .slice none 0 0, .slice none 0 0, .slice none 0 0] 36)) (w.heap.size + 1) [.slice none 0 0, .slice none 0 0, .slice none 0 0, .slice none 0 0] := by
    have hb := Box.new (w.alloc (.cells #[.slice H.Heap.Bytes.a H.Heap.Bytes.len H.Heap.Bytes.cap, .slice H.Heap.Class.a H.Heap.Class.len H.Heap.Class.cap, .slice H.Lists.Global.a H.Lists.Global.len H.Lists.Global.cap, .slice H.Lists.Own.a H.Lists.Own.len H.Lists.Own.cap] 36)) #[.slice none 0 0, .slice none 0 0, .slice none 0 0, .slice none 0 0] 36
    rw [World.size_alloc] at hb
    exact hb
  have hB : Below w.heap.size w ((w.alloc (.cells #[.slice H.Heap.Bytes.a H.Heap.Bytes.len H.Heap.Bytes.cap, .slice H.Heap.Class.a H.Heap.Class.len H.Heap.Class.cap, .slice H.Lists.Global.a H.Lists.Global.len H.Lists.Global.cap, .slice H.Lists.Own.a H.Lists.Own.len H.Lists.Own.cap] 36)).alloc (.cells #[.slice none 0 0, .slice none 0 0, .slice none 0 0, .slice none 0 0] 36)) := by repeat (first | exact Below.refl _ _ | refine Below.alloc ?_ (by simp <;> omega) _ | refine below_grow_of ?_ (by simp <;> omega) _ _ | refine Below.drew ?_ | refine below_drewN ?_ _)
  go_enter Tryz.func19, Tryz.ntmps19
  go_wp2_with fail
  generalize hW0 : ((w.alloc (.cells #[.slice H.Heap.Bytes.a H.Heap.Bytes.len H.Heap.Bytes.cap, .slice H.Heap.Class.a H.Heap.Class.len H.Heap.Class.cap, .slice H.Lists.Global.a H.Lists.Global.len H.Lists.Global.cap, .slice H.Lists.Own.a H.Lists.Own.len H.Lists.Own.cap] 36)).alloc (.cells #[.slice none 0 0, .slice none 0 0, .slice none 0 0, .slice none 0 0] 36)) = w0 at ba br hB ⊢
  clear hW0
  have qa0 := ba.cell 0 _ rfl
  have qr0 := br.cell 0 _ rfl
  have qa1 := ba.cell 1 _ rfl
  have qr1 := br.cell 1 _ rfl
  have qa2 := ba.cell 2 _ rfl
  have qr2 := br.cell 2 _ rfl
  have qa3 := ba.cell 3 _ rfl
  have qr3 := br.cell 3 _ rfl
  have fr := br.fro
  have z0 := br.lt
  go_region_with (first | (go_at_call 57; (first | ((with_reducible refine (l7Copy_spec _ H.Heap x.Heap (rdHeap_up h.Heap hB) hs1).mono ?_); rintro e w1 ⟨K0, rfl, o0, f0, hb⟩; replace ba := ba.below hb; replace br := br.below hb; replace hB := hB.trans (hb.mono hB.size); have sz := hb.size; have u0 := o0.lt; (try replace o1 := o1.step0 hb); replace qa0 := ba.cell 0 _ rfl; replace qr0 := br.cell 0 _ rfl; replace qa1 := ba.cell 1 _ rfl; replace qr1 := br.cell 1 _ rfl; replace qa2 := ba.cell 2 _ rfl; replace qr2 := br.cell 2 _ rfl; replace qa3 := ba.cell 3 _ rfl; replace qr3 := br.cell 3 _ rfl; replace fr := br.fro; clear hb) | ((with_reducible refine (l7Copy_spec _ H.Heap x.Heap (rdHeap_up h.Heap hB.drew) hs1).mono ?_); rintro e w1 ⟨K0, rfl, o0, f0, hb⟩; replace hb := undrew hb; replace f0 := fcdrew f0; replace ba := ba.below hb; replace br := br.below hb; replace hB := hB.trans (hb.mono hB.size); have sz := hb.size; have u0 := o0.lt; (try replace o1 := o1.step0 hb); replace qa0 := ba.cell 0 _ rfl; replace qr0 := br.cell 0 _ rfl; replace qa1 := ba.cell 1 _ rfl; replace qr1 := br.cell 1 _ rfl; replace qa2 := ba.cell 2 _ rfl; replace qr2 := br.cell 2 _ rfl; replace qa3 := ba.cell 3 _ rfl; replace qr3 := br.cell 3 _ rfl; replace fr := br.fro; clear hb))) | (go_at_call 58; (first | ((with_reducible refine (l8Copy_spec _ H.Lists x.Lists (rdLists_up h.Lists hB) hs2).mono ?_); rintro e w2 ⟨K1, rfl, o1, f1, hb⟩; replace ba := ba.below hb; replace br := br.below hb; replace hB := hB.trans (hb.mono hB.size); have sz := hb.size; have u1 := o1.lt; (try replace o0 := o0.step0 hb); replace qa0 := ba.cell 0 _ rfl; replace qr0 := br.cell 0 _ rfl; replace qa1 := ba.cell 1 _ rfl; replace qr1 := br.cell 1 _ rfl; replace qa2 := ba.cell 2 _ rfl; replace qr2 := br.cell 2 _ rfl; replace qa3 := ba.cell 3 _ rfl; replace qr3 := br.cell 3 _ rfl; replace fr := br.fro; clear hb) | ((with_reducible refine (l8Copy_spec _ H.Lists x.Lists (rdLists_up h.Lists hB.drew) hs2).mono ?_); rintro e w2 ⟨K1, rfl, o1, f1, hb⟩; replace hb := undrew hb; replace f1 := fcdrew f1; replace ba := ba.below hb; replace br := br.below hb; replace hB := hB.trans (hb.mono hB.size); have sz := hb.size; have u1 := o1.lt; (try replace o0 := o0.step0 hb); replace qa0 := ba.cell 0 _ rfl; replace qr0 := br.cell 0 _ rfl; replace qa1 := ba.cell 1 _ rfl; replace qr1 := br.cell 1 _ rfl; replace qa2 := ba.cell 2 _ rfl; replace qr2 := br.cell 2 _ rfl; replace qa3 := ba.cell 3 _ rfl; replace qr3 := br.cell 3 _ rfl; replace fr := br.fro; clear hb))))
  all_goals
    go_wp2_with fail
    refine bodyPost_ret (v := .agg #[.slice K0.Bytes.a K0.Bytes.len K0.Bytes.cap, .slice K0.Class.a K0.Class.len K0.Class.cap, .slice K1.Global.a K1.Global.len K1.Global.cap, .slice K1.Own.a K1.Own.len K1.Own.cap]) (by simp [results, Tryz.results19, go_sem, qr0, qr1, qr2, qr3]) rfl ⟨⟨K0, K1⟩, rfl, ⟨o0.chg (F := [w.heap.size + 1]) (by repeat (first | exact Chg.refl _ _ | refine Chg.set_ ?_ (by simp) _ | refine Chg.drew_ ?_)) (fun g hg hm => by simp only [List.mem_cons, List.not_mem_nil, or_false] at hm; have := f0 g hg; omega), o1.chg (F := [w.heap.size + 1]) (by repeat (first | exact Chg.refl _ _ | refine Chg.set_ ?_ (by simp) _ | refine Chg.drew_ ?_)) (fun g hg hm => by simp only [List.mem_cons, List.not_mem_nil, or_false] at hm; have := f1 g hg; omega), fun g hg hm => by have := u0 g hg; have := f0 g hg; have := u1 g hm; have := f1 g hm; omega⟩, fun g hg => ?_, ?_⟩
    · rcases HMem.mem_foot.1 hg with hg | hg
      · have := f0 g hg
        omega
      · have := f1 g hg
        omega
    · exact Below.trans hB (by repeat (first | exact Below.refl _ _ | refine Below.setCell ?_ (by simp <;> omega) _ | refine Below.drew ?_))
end Go.Proofs.YtcligoicoeklfaaGreat
