/-
  A slot freed: the reference, in place.
-/
import Derived.Test.YtcligoicoeklfaaGreatT
import Derived.Test.YtcligoicoeklfaaGreatL
import Derived.Deep.QuietTactic
import Derived.BigQuiet
import Derived.Deep.LoopGhost
import Derived.Deep.RegionHeld3
import Derived.Test.YtcligoicoeklfaaGreatN
import Derived.Test.YtcligoicoeklfaaGreatA
import Derived.WalkSpells
import Derived.Laws.Cover3
import Derived.Test.YtcligoicoeklfaaGreatG5
import Derived.Test.YtcligoicoeklfaaGreatG3
namespace Go.Proofs.YtcligoicoeklfaaGreat
open Go.RowKit

theorem Chg.set_new {F : List Nat} {w w' : World} (h : Chg F w w') {g i : Nat} (hg : w.heap.size ≤ g) (v : Value) : Chg F w (w'.setCell ⟨g, i, none⟩ v) :=
  ⟨h.os, h.tape, h.output, by simpa using h.size, fun k hk hn => (Below.heap_setCell _ _ _ _ (fun e => by have e' : k = g := e; omega)).trans (h.block k hk hn)⟩
theorem owMem_lists {w w' : World} {H : HMem} {K : HLists} {x : Mem} {l : Lists} (h : OwMem w H x) (hl : OwLists w' K l) (hc : Chg H.Lists.foot w w') (hd : ∀ g ∈ K.foot, g ∈ H.Lists.foot ∨ w.heap.size ≤ g) : OwMem w' ⟨H.Heap, K⟩ ⟨x.Heap, l⟩ :=
  ⟨h.Heap.chg hc (fun g hg hm => h.d01 g hg hm), hl, fun g hg hm => by rcases hd g hm with hh | hh; (exact h.d01 g hg hh); (have := h.Heap.lt g hg; omega)⟩

theorem Chg.trans_out {F : List Nat} {a c d : World} {g r : Nat} (h : Chg F a c) (h3 : Chg [g, r] c d) (hr : a.heap.size ≤ r ∧ a.heap.size ≤ g) : Chg F a d :=
  ⟨h3.os.trans h.os, h3.tape.trans h.tape, h3.output.trans h.output, Nat.le_trans h.size h3.size, fun k hk hn => by
    rw [h3.block k (Nat.lt_of_lt_of_le hk h.size) (by simp only [List.mem_cons, List.not_mem_nil, or_false]; omega), h.block k hk hn]⟩

set_option maxRecDepth 100000 in
set_option maxHeartbeats 4000000 in
theorem l9Free_spec (w : World) (H : HMem) (x : Mem) (wk c : Nat) (s g : Int) (h : OwMem w H x) (hs : sizeLists x.Lists ≤ 536870912) (hsh : shapeB x.Heap = true) (hll : x.Lists.Global.length = 3 ∧ x.Lists.Own.length = 9) (hw : wk < 3) (hc : classInB x.Heap s = (c : Int)) (hcn : c < 3) (hg : genInB x.Heap s = g) (g0 : 1 ≤ g) (g6 : g ≤ 6) :
    Calls Tryz.prog 23 #[.agg #[.slice H.Heap.Bytes.a H.Heap.Bytes.len H.Heap.Bytes.cap, .slice H.Heap.Class.a H.Heap.Class.len H.Heap.Class.cap, .slice H.Lists.Global.a H.Lists.Global.len H.Lists.Global.cap, .slice H.Lists.Own.a H.Lists.Own.len H.Lists.Own.cap], .int .i64 wk, .int .i64 s] w fun e w' => ∃ H' : HMem, e = .returned (.agg #[.slice H'.Heap.Bytes.a H'.Heap.Bytes.len H'.Heap.Bytes.cap, .slice H'.Heap.Class.a H'.Heap.Class.len H'.Heap.Class.cap, .slice H'.Lists.Global.a H'.Lists.Global.len H'.Lists.Global.cap, .slice H'.Lists.Own.a H'.Lists.Own.len H'.Lists.Own.cap]) ∧ OwMem w' H' (freedM x wk s) ∧ (∀ g ∈ H'.foot, g ∈ H.foot ∨ w.heap.size ≤ g) ∧ Chg H.foot w w' := by
  have k1 : ¬ classInB x.Heap s < 0 := by rw [hc]; omega
  have HE := Hid.mk_ (freedM_eq (wk := wk) hc hg)
  have hgd := genIn_bd (shape_of hsh) k1
  have hl7 := fun (W : World) (hW : RdHeap W W.heap.size H.Heap x.Heap) => l7Class_spec W H.Heap x.Heap s hW hsh
  have hlg := fun (W : World) (hW : RdHeap W W.heap.size H.Heap x.Heap) => l7Gen_spec W H.Heap x.Heap s hW hsh k1
  rw [hc] at hl7 hgd
  rw [hg] at hlg
  have hga := fun W => GenAt_spec s (c : Int) W
  obtain ⟨P, hP⟩ : ∃ P : Nat, genAt s (c : Int) = (P : Int) := ⟨(genAt s (c : Int)).toNat, by omega⟩
  rw [hP] at hga hgd
  have HSG : Hid (setGenB x.Heap s (g + 1) = { x.Heap with Bytes := putAt x.Heap.Bytes P (digs 4 (g + 1)) }) := by
    show _ = _
    unfold setGenB
    rw [hc, hP, Int.toNat_natCast]
  have hst : ∀ W : World, OwL FI 3 W (.slice H.Heap.Bytes.a H.Heap.Bytes.len H.Heap.Bytes.cap) x.Heap.Bytes → Calls Tryz.prog 40 #[(.slice H.Heap.Bytes.a H.Heap.Bytes.len H.Heap.Bytes.cap), .int .i64 (P : Int), .int .i64 4, .int .i64 (g + 1)] W fun e w' => e = .returned (.slice H.Heap.Bytes.a H.Heap.Bytes.len H.Heap.Bytes.cap) ∧ OwL FI 3 w' (.slice H.Heap.Bytes.a H.Heap.Bytes.len H.Heap.Bytes.cap) (putAt x.Heap.Bytes P (digs 4 (g + 1))) ∧ Chg (foot1 (.slice H.Heap.Bytes.a H.Heap.Bytes.len H.Heap.Bytes.cap)) W w' := fun W o => l3Store_spec W _ x.Heap.Bytes P 4 (g + 1) o (by decide) (by decide) (by omega) (by omega) (by omega)
  have hgv := fun (W : World) (o : OwLists W H.Lists x.Lists) => l8Give_spec W H.Lists x.Lists wk c s o hs hll hw hcn
  have hf := h.lt
  clear hgd hP hc hg hsh hll hs k1
  have o := (h.alloc_ (.cells #[.slice H.Heap.Bytes.a H.Heap.Bytes.len H.Heap.Bytes.cap, .slice H.Heap.Class.a H.Heap.Class.len H.Heap.Class.cap, .slice H.Lists.Global.a H.Lists.Global.len H.Lists.Global.cap, .slice H.Lists.Own.a H.Lists.Own.len H.Lists.Own.cap] 36)).alloc_ (.cells #[.slice none 0 0, .slice none 0 0, .slice none 0 0, .slice none 0 0] 36)
  clear h
  have B_a : Box ((w.alloc (.cells #[.slice H.Heap.Bytes.a H.Heap.Bytes.len H.Heap.Bytes.cap, .slice H.Heap.Class.a H.Heap.Class.len H.Heap.Class.cap, .slice H.Lists.Global.a H.Lists.Global.len H.Lists.Global.cap, .slice H.Lists.Own.a H.Lists.Own.len H.Lists.Own.cap] 36)).alloc (.cells #[.slice none 0 0, .slice none 0 0, .slice none 0 0, .slice none 0 0] 36)) w.heap.size [.slice H.Heap.Bytes.a H.Heap.Bytes.len H.Heap.Bytes.cap, .slice H.Heap.Class.a H.Heap.Class.len H.Heap.Class.cap, .slice H.Lists.Global.a H.Lists.Global.len H.Lists.Global.cap, .slice H.Lists.Own.a H.Lists.Own.len H.Lists.Own.cap] := (Box.new w #[.slice H.Heap.Bytes.a H.Heap.Bytes.len H.Heap.Bytes.cap, .slice H.Heap.Class.a H.Heap.Class.len H.Heap.Class.cap, .slice H.Lists.Global.a H.Lists.Global.len H.Lists.Global.cap, .slice H.Lists.Own.a H.Lists.Own.len H.Lists.Own.cap] _).alloc _
  have B_r : Box ((w.alloc (.cells #[.slice H.Heap.Bytes.a H.Heap.Bytes.len H.Heap.Bytes.cap, .slice H.Heap.Class.a H.Heap.Class.len H.Heap.Class.cap, .slice H.Lists.Global.a H.Lists.Global.len H.Lists.Global.cap, .slice H.Lists.Own.a H.Lists.Own.len H.Lists.Own.cap] 36)).alloc (.cells #[.slice none 0 0, .slice none 0 0, .slice none 0 0, .slice none 0 0] 36)) (w.heap.size + 1) [.slice none 0 0, .slice none 0 0, .slice none 0 0, .slice none 0 0] := by
    have hb := Box.new (w.alloc (.cells #[.slice H.Heap.Bytes.a H.Heap.Bytes.len H.Heap.Bytes.cap, .slice H.Heap.Class.a H.Heap.Class.len H.Heap.Class.cap, .slice H.Lists.Global.a H.Lists.Global.len H.Lists.Global.cap, .slice H.Lists.Own.a H.Lists.Own.len H.Lists.Own.cap] 36)) #[.slice none 0 0, .slice none 0 0, .slice none 0 0, .slice none 0 0] 36
    rw [World.size_alloc] at hb
    exact hb
  have hB : Chg H.foot w ((w.alloc (.cells #[.slice H.Heap.Bytes.a H.Heap.Bytes.len H.Heap.Bytes.cap, .slice H.Heap.Class.a H.Heap.Class.len H.Heap.Class.cap, .slice H.Lists.Global.a H.Lists.Global.len H.Lists.Global.cap, .slice H.Lists.Own.a H.Lists.Own.len H.Lists.Own.cap] 36)).alloc (.cells #[.slice none 0 0, .slice none 0 0, .slice none 0 0, .slice none 0 0] 36)) := ((Chg.refl _ _).alloc_ _).alloc_ _
  go_enter Tryz.func23, Tryz.ntmps23
  go_wp2_with fail
  generalize hW0 : ((w.alloc (.cells #[.slice H.Heap.Bytes.a H.Heap.Bytes.len H.Heap.Bytes.cap, .slice H.Heap.Class.a H.Heap.Class.len H.Heap.Class.cap, .slice H.Lists.Global.a H.Lists.Global.len H.Lists.Global.cap, .slice H.Lists.Own.a H.Lists.Own.len H.Lists.Own.cap] 36)).alloc (.cells #[.slice none 0 0, .slice none 0 0, .slice none 0 0, .slice none 0 0] 36)) = w0 at o B_a B_r hB ⊢
  clear hW0
  refine (hl7 _ o.Heap.rd').mono ?_
  clear hl7
  rintro e w1 ⟨rfl, hb⟩
  replace B_a := B_a.below hb
  replace B_r := B_r.below hb
  replace o := o.step0 hb
  replace hB := hB.then_ (hb.mono hB.size)
  clear hb
  have q_a_0 := B_a.cell 0 _ rfl
  have q_a_1 := B_a.cell 1 _ rfl
  have q_a_2 := B_a.cell 2 _ rfl
  have q_a_3 := B_a.cell 3 _ rfl
  have q_r_0 := B_r.cell 0 _ rfl
  have q_r_1 := B_r.cell 1 _ rfl
  have q_r_2 := B_r.cell 2 _ rfl
  have q_r_3 := B_r.cell 3 _ rfl
  have fr_a := B_a.fro
  have z_a := B_a.lt
  have fr_r := B_r.fro
  have z_r := B_r.lt
  go_wp2_with fail
  refine (hlg _ o.Heap.rd').mono ?_
  clear hlg
  rintro e w2 ⟨rfl, hb⟩
  replace B_a := B_a.below hb
  replace B_r := B_r.below hb
  replace o := o.step0 hb
  replace hB := hB.then_ (hb.mono hB.size)
  clear hb
  replace q_a_0 := B_a.cell 0 _ rfl
  replace q_a_1 := B_a.cell 1 _ rfl
  replace q_a_2 := B_a.cell 2 _ rfl
  replace q_a_3 := B_a.cell 3 _ rfl
  replace q_r_0 := B_r.cell 0 _ rfl
  replace q_r_1 := B_r.cell 1 _ rfl
  replace q_r_2 := B_r.cell 2 _ rfl
  replace q_r_3 := B_r.cell 3 _ rfl
  replace fr_a := B_a.fro
  replace z_a := B_a.lt
  replace fr_r := B_r.fro
  replace z_r := B_r.lt
  go_wp2_with fail
  have ob : OwL FI 3 w2 (.slice H.Heap.Bytes.a H.Heap.Bytes.len H.Heap.Bytes.cap) x.Heap.Bytes := o.Heap.Bytes
  have obd : OwL FI 3 w2.drew (.slice H.Heap.Bytes.a H.Heap.Bytes.len H.Heap.Bytes.cap) x.Heap.Bytes := ob.keep (fun _ _ => rfl)
  go_region_with (first | (go_at_call 68; refine (hga _).mono ?_; rintro e wv ⟨rfl, rfl⟩) | (go_at_call 40; (first | ((with_reducible refine (hst _ ob).mono ?_); rintro e wq ⟨rfl, hbN, hx⟩; replace hx : Chg (foot1 H.Heap.Bytes.val) w2 wq := ⟨hx.os, hx.tape, hx.output, hx.size, hx.block⟩; replace B_a := B_a.chg hx (fun hm => by have := hf _ (HMem.bytes_foot hm); omega); replace B_r := B_r.chg hx (fun hm => by have := hf _ (HMem.bytes_foot hm); omega); replace o : OwMem wq H { x with Heap := setGenB x.Heap s (g + 1) } := (by rw [HSG.out]; exact o.setBytes hbN hx); replace hB := hB.trans (hx.mono (fun b hb => HMem.bytes_foot hb)); replace q_a_0 := B_a.cell 0 _ rfl; replace q_a_1 := B_a.cell 1 _ rfl; replace q_a_2 := B_a.cell 2 _ rfl; replace q_a_3 := B_a.cell 3 _ rfl; replace q_r_0 := B_r.cell 0 _ rfl; replace q_r_1 := B_r.cell 1 _ rfl; replace q_r_2 := B_r.cell 2 _ rfl; replace q_r_3 := B_r.cell 3 _ rfl; replace fr_a := B_a.fro; replace z_a := B_a.lt; replace fr_r := B_r.fro; replace z_r := B_r.lt) | ((with_reducible refine (hst _ obd).mono ?_); rintro e wq ⟨rfl, hbN, hx⟩; replace hx : Chg (foot1 H.Heap.Bytes.val) w2 wq := ⟨hx.os, hx.tape, hx.output, hx.size, hx.block⟩; replace B_a := B_a.chg hx (fun hm => by have := hf _ (HMem.bytes_foot hm); omega); replace B_r := B_r.chg hx (fun hm => by have := hf _ (HMem.bytes_foot hm); omega); replace o : OwMem wq H { x with Heap := setGenB x.Heap s (g + 1) } := (by rw [HSG.out]; exact o.setBytes hbN hx); replace hB := hB.trans (hx.mono (fun b hb => HMem.bytes_foot hb)); replace q_a_0 := B_a.cell 0 _ rfl; replace q_a_1 := B_a.cell 1 _ rfl; replace q_a_2 := B_a.cell 2 _ rfl; replace q_a_3 := B_a.cell 3 _ rfl; replace q_r_0 := B_r.cell 0 _ rfl; replace q_r_1 := B_r.cell 1 _ rfl; replace q_r_2 := B_r.cell 2 _ rfl; replace q_r_3 := B_r.cell 3 _ rfl; replace fr_a := B_a.fro; replace z_a := B_a.lt; replace fr_r := B_r.fro; replace z_r := B_r.lt))))
  all_goals
    clear hga hst ob obd
    by_cases kg : g + 1 ≤ 6
    case pos =>
      have HF : Hid (freedM x wk s = ⟨setGenB x.Heap s (g + 1), giveL x.Lists (wk * 3 + c) c s⟩) := by rw [HE.out, if_pos kg]; exact rfl
      go_wp2_with fail
      replace B_a := B_a.set 0 (.slice H.Heap.Bytes.a H.Heap.Bytes.len H.Heap.Bytes.cap)
      replace B_r := B_r.other (g' := w.heap.size) (i := 0) (by omega) (.slice H.Heap.Bytes.a H.Heap.Bytes.len H.Heap.Bytes.cap)
      replace o := o.chg (F := [w.heap.size]) ((Chg.refl _ wq).set_ (g := w.heap.size) (i := 0) (by simp) (.slice H.Heap.Bytes.a H.Heap.Bytes.len H.Heap.Bytes.cap)) (fun b hb hm => by simp only [List.mem_cons, List.not_mem_nil, or_false] at hm; have := hf b hb; omega)
      replace hB := hB.set_new (g := w.heap.size) (i := 0) (Nat.le_refl _) (.slice H.Heap.Bytes.a H.Heap.Bytes.len H.Heap.Bytes.cap)
      generalize hW3 : wq.setCell ⟨w.heap.size, 0, none⟩ (.slice H.Heap.Bytes.a H.Heap.Bytes.len H.Heap.Bytes.cap) = w4 at o B_a B_r hB ⊢
      clear hW3
      refine (hgv _ o.Lists).mono ?_
      rintro e w5 ⟨K, rfl, hN, hfN, hx⟩
      have hsz4 := hB.size
      have hz4 : w.heap.size + 1 < w4.heap.size := B_r.lt
      have hLF := fun b (hb : b ∈ H.Lists.foot) => (show b ∈ H.foot from HMem.mem_foot.2 (.inr hb))
      replace B_a := B_a.chg hx (fun hm => by have := hf _ (hLF _ hm); omega)
      replace B_r := B_r.chg hx (fun hm => by have := hf _ (hLF _ hm); omega)
      have oN := owMem_lists o hN hx hfN
      replace hB := hB.trans (hx.mono hLF)
      have q_a_0 := B_a.cell 0 _ rfl
      have q_a_1 := B_a.cell 1 _ rfl
      have q_a_2 := B_a.cell 2 _ rfl
      have q_a_3 := B_a.cell 3 _ rfl
      have q_r_0 := B_r.cell 0 _ rfl
      have q_r_1 := B_r.cell 1 _ rfl
      have q_r_2 := B_r.cell 2 _ rfl
      have q_r_3 := B_r.cell 3 _ rfl
      have fr_a := B_a.fro
      have z_a := B_a.lt
      have fr_r := B_r.fro
      have z_r := B_r.lt
      have hfK : ∀ b ∈ HMem.foot ⟨H.Heap, K⟩, b ∈ H.foot ∨ (w4.heap.size ≤ b ∧ w.heap.size + 1 < b) := by
        intro b hb
        rcases HMem.mem_foot.1 hb with hb | hb
        · exact .inl (HMem.mem_foot.2 (.inl hb))
        · rcases hfN b hb with hh | hh
          · exact .inl (hLF b hh)
          · exact .inr ⟨hh, by omega⟩
      go_wp2_with fail
      refine bodyPost_ret (v := .agg #[.slice H.Heap.Bytes.a H.Heap.Bytes.len H.Heap.Bytes.cap, .slice H.Heap.Class.a H.Heap.Class.len H.Heap.Class.cap, .slice K.Global.a K.Global.len K.Global.cap, .slice K.Own.a K.Own.len K.Own.cap]) (by simp [results, Tryz.results23, go_sem, q_r_0, q_r_1, q_r_2, q_r_3]) rfl ⟨⟨H.Heap, K⟩, rfl, by rw [HF.out]; exact oN.chg (F := [w.heap.size + 1, w.heap.size]) (by repeat (first | with_reducible exact Chg.refl _ _ | with_reducible refine Chg.set_ ?_ (by simp) _ | with_reducible refine Chg.alloc_ ?_ _ | with_reducible refine Chg.drew_ ?_)) (fun b hb hm => by simp only [List.mem_cons, List.not_mem_nil, or_false] at hm; rcases hfK b hb with hh | hh; (have := hf b hh; omega); omega), fun b hb => by rcases hfK b hb with hh | hh; (exact .inl hh); (right; omega), ?_⟩
      exact hB.trans_out (g := w.heap.size + 1) (r := w.heap.size) (by repeat (first | with_reducible exact Chg.refl _ _ | with_reducible refine Chg.set_ ?_ (by simp) _ | with_reducible refine Chg.alloc_ ?_ _ | with_reducible refine Chg.drew_ ?_)) (by omega)
    case neg =>
      have HF : Hid (freedM x wk s = ⟨setGenB x.Heap s (g + 1), x.Lists⟩) := by rw [HE.out, if_neg kg]; exact rfl
      go_wp2_with fail
      refine bodyPost_ret (v := .agg #[.slice H.Heap.Bytes.a H.Heap.Bytes.len H.Heap.Bytes.cap, .slice H.Heap.Class.a H.Heap.Class.len H.Heap.Class.cap, .slice H.Lists.Global.a H.Lists.Global.len H.Lists.Global.cap, .slice H.Lists.Own.a H.Lists.Own.len H.Lists.Own.cap]) (by simp [results, Tryz.results23, go_sem, q_r_0, q_r_1, q_r_2, q_r_3]) rfl ⟨H, rfl, by rw [HF.out]; exact o.chg (F := [w.heap.size + 1, w.heap.size]) (by repeat (first | with_reducible exact Chg.refl _ _ | with_reducible refine Chg.set_ ?_ (by simp) _ | with_reducible refine Chg.alloc_ ?_ _ | with_reducible refine Chg.drew_ ?_)) (fun b hb hm => by simp only [List.mem_cons, List.not_mem_nil, or_false] at hm; have := hf b hb; omega), fun b hb => .inl hb, ?_⟩
      exact hB.trans_out (g := w.heap.size + 1) (r := w.heap.size) (by repeat (first | with_reducible exact Chg.refl _ _ | with_reducible refine Chg.set_ ?_ (by simp) _ | with_reducible refine Chg.alloc_ ?_ _ | with_reducible refine Chg.drew_ ?_)) (by omega)
end Go.Proofs.YtcligoicoeklfaaGreat
