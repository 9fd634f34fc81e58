/-
  Several texts in one: lemmas and contracts that the claim rests on.
-/
import Derived.Test.YtkmggglljkmjoaaGreatUHCounts1
import Derived.Deep.QuietTactic
import Derived.BigQuiet
import Derived.Deep.LoopGhost
import Derived.Deep.RegionHeld3
import Derived.WalkSpells
import Derived.Laws.Cover3
import Derived.Test.YtkmggglljkmjoaaGreatUHCounts4
import Derived.IntWalk
import Derived.Deep.RegionLaw
import Derived.Deep.CutRange
import Derived.Test.YtkmggglljkmjoaaGreatUHCounts3
import Derived.Test.YtkmggglljkmjoaaGreatUHCounts2
import Derived.Deep.WholeRow
/-
  A page granted, the other package: the contract.
-/
namespace Go.Proofs.YtkmggglljkmjoaaGreat
open Go.RowKit

theorem Chg.trans_fr {F G : List Nat} {a c d : World} (h : Chg F a c) (h3 : Chg G c d) (hr : ∀ g ∈ G, g ∈ F ∨ a.heap.size ≤ g) : Chg F a d :=
  ⟨h3.os.trans h.os, h3.tape.trans h.tape, h3.output.trans h.output, Nat.le_trans h.size h3.size, fun k hk hn => by
    rw [h3.block k (Nat.lt_of_lt_of_le hk h.size) (fun hm => by rcases hr k hm with hh | hh; (exact hn hh); omega), h.block k hk hn]⟩
theorem idx_before {l : List Int} {x : Int} {p : Nat} (h : idxOf (fun y => y == x) l = (p : Int)) {k : Nat} (hk : k < p) (hl : k < l.length) : ¬ l[k] = x := by
  intro he
  unfold idxOf at h
  cases hx : l.findIdx? (fun y => y == x) with
  | none => rw [hx] at h; simp at h
  | some i =>
    rw [hx] at h
    simp at h
    obtain rfl : i = p := by omega
    have := (List.findIdx?_eq_some_iff_getElem.1 hx).2.2 k hk
    simp [he] at this
theorem idx_at {l : List Int} {x : Int} {p : Nat} (h : idxOf (fun y => y == x) l = (p : Int)) (hl : p < l.length) : l[p] = x := by
  unfold idxOf at h
  cases hx : l.findIdx? (fun y => y == x) with
  | none => rw [hx] at h; simp at h
  | some i =>
    rw [hx] at h
    simp at h
    obtain rfl : i = p := by omega
    have := (List.findIdx?_eq_some_iff_getElem.1 hx).2.1
    simpa using this
set_option maxHeartbeats 400000 in
theorem SlotAtN_spec (p i : Nat) (hp : p < 6) (hi : i < 4) (w : World) : Calls Tryz.prog 202 #[.int .i64 p, .int .i64 i] w fun e w' => e = .returned (.int .i64 ((p * 4 + i : Nat) : Int)) ∧ w = w' := by
  have k1 : inB 0 5 (p : Int) = true := inB_iff.2 ⟨by omega, by omega⟩
  have k2 : inB 0 3 (i : Int) = true := inB_iff.2 ⟨by omega, by omega⟩
  go_enter Tryz.func202, Tryz.ntmps202
  go_wp2_with (go_at_call 102; refine (l1In_ct _ _ _ _).mono ?_; (first | rw [k1] | rw [k2]); rintro e w1 ⟨rfl, rfl⟩)
  go_ret
  exact ⟨ret_i64 (by omega), rfl⟩
theorem OwL.setI {w : World} {g n c : Nat} {l : List Int} (h : OwL FI 3 w (.slice (some ⟨g, 0, none⟩) n c) l) {k : Nat} (hk : k < l.length) (y : Int) : OwL FI 3 (w.setCell ⟨g, k, none⟩ (.int .i64 y)) (.slice (some ⟨g, 0, none⟩) n c) (l.set k y) := by
  have := h.set_ (y := y) (u := .int .i64 y) (List.getElem?_eq_getElem hk) FI.pos rfl
  rw [show k * FI.n + 0 = k by simp [FI]] at this
  exact this
theorem OwL.setO {α : Type} {T : FT α} {e : TypeId} {w : World} {g n c : Nat} {l : List α} (h : OwL T e w (.slice (some ⟨g, 0, none⟩) n c) l) {g' : Nat} (hn : g' ≠ g) (i : Nat) (v : Value) : OwL T e (w.setCell ⟨g', i, none⟩ v) (.slice (some ⟨g, 0, none⟩) n c) l :=
  h.keep fun b hb => heap_set_other w _ (fun e => by simp only [Value.ownBlock, Option.some.injEq] at hb; subst hb; exact hn e)
theorem putAt3 {b : List Int} {q : Nat} {u v t : Int} (hq : q + 3 ≤ b.length) : ((b.set q u).set (q + 1) v).set (q + 2) t = putAt b q [u, v, t] := by
  refine List.ext_getElem? fun j => ?_
  by_cases h : q ≤ j ∧ j < q + 3
  · obtain ⟨i, rfl⟩ : ∃ i, j = q + i := ⟨j - q, by omega⟩
    rw [putAt_get_in (by simp; omega) (by simp; omega)]
    obtain rfl | rfl | rfl : i = 0 ∨ i = 1 ∨ i = 2 := by omega
    · rw [List.getElem?_set_ne (by omega), List.getElem?_set_ne (by omega), Nat.add_zero, List.getElem?_set_self (by omega)]; rfl
    · rw [List.getElem?_set_ne (by omega), List.getElem?_set_self (by simp; omega)]; rfl
    · rw [List.getElem?_set_self (by simp; omega)]; rfl
  · rw [putAt_get_out (by simp; omega) (by simp; omega), List.getElem?_set_ne (by omega), List.getElem?_set_ne (by omega), List.getElem?_set_ne (by omega)]

set_option maxRecDepth 100000 in
set_option maxHeartbeats 8000000 in
theorem l7Grant_yes (w : World) (H : HHeap) (x : Heap) (p c : Nat) (h : OwHeap w H x) (hs : shapeB x = true) (hc : c < 3) (hp : idxOf (fun y => y == -1) x.Class = (p : Int)) :
    Calls Tryz.prog 165 #[.agg #[.slice H.Bytes.a H.Bytes.len H.Bytes.cap, .slice H.Class.a H.Class.len H.Class.cap], .int .i64 c] w fun e w' => ∃ v : SV, e = .returned (.tuple #[.agg #[.slice H.Bytes.a H.Bytes.len H.Bytes.cap, .slice H.Class.a H.Class.len H.Class.cap], .slice v.a v.len v.cap]) ∧ OwHeap w' H (grantH x p c) ∧ OwL FI 3 w' v.val (slotsTo p (perPage (c : Int)).toNat) ∧ (∀ g ∈ foot1 v.val, w.heap.size ≤ g) ∧ Chg H.foot w w' := by
  have sh := shape_of hs
  have hpl := idx_lt hp
  have HBL := Hid.mk_ sh.bl
  have HCL := Hid.mk_ sh.cl
  have hp6 : p < 6 := by rw [sh.cl] at hpl; exact hpl
  have hcl : inB 0 2 (c : Int) = true := inB_iff.2 ⟨by omega, by omega⟩
  obtain ⟨n, hn, hn4, hnn⟩ := perPage_nat hc
  have HGL := Hid.mk_ (fun i (hi : i ≤ n) => grTo_len (b := x.Bytes) (p := p) (c := (c : Int)) sh.bl hp6 hcl i (by omega))
  have HRM := Hid.mk_ (fun i (hi : i < n) => gens_room hcl (i := i) (by omega))
  have HNE := Hid.mk_ (fun k (hk : k < p) => idx_before hp hk (show k < x.Class.length by omega))
  have HAT := Hid.mk_ (idx_at hp hpl)
  have hpp := fun W => PerPage_spec (c : Int) W
  rw [hn] at hpp
  have hsa := fun i (hi : i < n) W => SlotAtN_spec p i hp6 (by omega) W
  have hga : ∀ i, i < n → ∀ W : World, Calls Tryz.prog 158 #[.int .i64 ((p * 4 + i : Nat) : Int), .int .i64 c] W fun e w' => e = .returned (.int .i64 ((p * 64 + 8 + i * (strideOf c).toNat : Nat) : Int)) ∧ W = w' := fun i hi W => by
    have := GenAt_spec (slotAtP p i) (c : Int) W
    rw [genAt_page hp6 hcl (by omega)] at this
    rw [show slotAtP (p : Int) (i : Int) = ((p * 4 + i : Nat) : Int) by unfold slotAtP; rw [if_pos ⟨inB_iff.2 ⟨by omega, by omega⟩, inB_iff.2 ⟨by omega, by omega⟩⟩]; omega] at this
    exact this
  have HGR : Hid (grantH x p c = ⟨grTo x.Bytes p c n, x.Class.set p c⟩) := by
    show _ = _
    unfold grantH
    rw [hnn]
  have HGS := Hid.mk_ (fun i => show grTo x.Bytes p c (i + 1) = putAt (grTo x.Bytes p c i) (p * 64 + 8 + i * (strideOf c).toNat) (digs 4 1) from rfl)
  have HG0 : Hid (((x.Bytes.set (p * 64) 171).set (p * 64 + 1) (c : Int)).set (p * 64 + 2) (n : Int) = grTo x.Bytes p c 0) := by
    show _ = _
    rw [putAt3 (by rw [sh.bl]; omega)]
    unfold grTo
    rw [hn]
  rw [hnn]
  have hlb : p * 64 + 2 < x.Bytes.length := by rw [sh.bl]; omega
  clear sh hs hp hn hnn
  obtain ⟨⟨A1, n1, pB⟩, ⟨A2, n2, pC⟩⟩ := H
  obtain ⟨gB, c1, hv1, hg1⟩ := OwL.form_pos (v := .slice A1 n1 pB) h.Bytes (by rw [HBL.out]; decide)
  obtain ⟨gC, c2, hv2, hg2⟩ := OwL.form_pos (v := .slice A2 n2 pC) h.Class (by rw [HCL.out]; decide)
  injection hv1 with i1 i2 i3
  injection hv2 with j1 j2 j3
  subst i1 i2 i3 j1 j2 j3
  have hBC : gB ≠ gC := fun e => h.d01 gB (foot1_some.2 rfl) (foot1_some.2 e)
  have hCB := hBC.symm
  have oB := (show OwL FI 3 w (.slice (some ⟨gB, 0, none⟩) x.Bytes.length pB) x.Bytes from h.Bytes).alloc_ (.cells #[.slice (some ⟨gB, 0, none⟩) x.Bytes.length pB, .slice (some ⟨gC, 0, none⟩) x.Class.length pC] 26) |>.alloc_ (.cells #[.slice none 0 0, .slice none 0 0] 26)
  have oC := (show OwL FI 3 w (.slice (some ⟨gC, 0, none⟩) x.Class.length pC) x.Class from h.Class).alloc_ (.cells #[.slice (some ⟨gB, 0, none⟩) x.Bytes.length pB, .slice (some ⟨gC, 0, none⟩) x.Class.length pC] 26) |>.alloc_ (.cells #[.slice none 0 0, .slice none 0 0] 26)
  clear h
  have B_a : Box ((w.alloc (.cells #[.slice (some ⟨gB, 0, none⟩) x.Bytes.length pB, .slice (some ⟨gC, 0, none⟩) x.Class.length pC] 26)).alloc (.cells #[.slice none 0 0, .slice none 0 0] 26)) w.heap.size [.slice (some ⟨gB, 0, none⟩) x.Bytes.length pB, .slice (some ⟨gC, 0, none⟩) x.Class.length pC] := (Box.new w #[.slice (some ⟨gB, 0, none⟩) x.Bytes.length pB, .slice (some ⟨gC, 0, none⟩) x.Class.length pC] _).alloc _
  have B_r : Box ((w.alloc (.cells #[.slice (some ⟨gB, 0, none⟩) x.Bytes.length pB, .slice (some ⟨gC, 0, none⟩) x.Class.length pC] 26)).alloc (.cells #[.slice none 0 0, .slice none 0 0] 26)) (w.heap.size + 1) [.slice none 0 0, .slice none 0 0] := by
    have hb := Box.new (w.alloc (.cells #[.slice (some ⟨gB, 0, none⟩) x.Bytes.length pB, .slice (some ⟨gC, 0, none⟩) x.Class.length pC] 26)) #[.slice none 0 0, .slice none 0 0] 26
    rw [World.size_alloc] at hb
    exact hb
  have hFB : gB ∈ HHeap.foot ⟨⟨some ⟨gB, 0, none⟩, x.Bytes.length, pB⟩, ⟨some ⟨gC, 0, none⟩, x.Class.length, pC⟩⟩ := HHeap.mem_foot.2 (.inl (foot1_some.2 rfl))
  have hFC : gC ∈ HHeap.foot ⟨⟨some ⟨gB, 0, none⟩, x.Bytes.length, pB⟩, ⟨some ⟨gC, 0, none⟩, x.Class.length, pC⟩⟩ := HHeap.mem_foot.2 (.inr (foot1_some.2 rfl))
  have hB : Chg (HHeap.foot ⟨⟨some ⟨gB, 0, none⟩, x.Bytes.length, pB⟩, ⟨some ⟨gC, 0, none⟩, x.Class.length, pC⟩⟩) w ((w.alloc (.cells #[.slice (some ⟨gB, 0, none⟩) x.Bytes.length pB, .slice (some ⟨gC, 0, none⟩) x.Class.length pC] 26)).alloc (.cells #[.slice none 0 0, .slice none 0 0] 26)) := ((Chg.refl _ _).alloc_ _).alloc_ _
  show Calls Tryz.prog 165 #[.agg #[.slice (some ⟨gB, 0, none⟩) x.Bytes.length pB, .slice (some ⟨gC, 0, none⟩) x.Class.length pC], .int .i64 c] w _
  go_enter Tryz.func165, Tryz.ntmps165
  go_wp2_with fail
  generalize hW0 : ((w.alloc (.cells #[.slice (some ⟨gB, 0, none⟩) x.Bytes.length pB, .slice (some ⟨gC, 0, none⟩) x.Class.length pC] 26)).alloc (.cells #[.slice none 0 0, .slice none 0 0] 26)) = w0 at oB oC B_a B_r hB ⊢
  clear hW0
  have q_a_0 := B_a.cell 0 _ rfl
  have q_a_1 := B_a.cell 1 _ rfl
  have q_r_0 := B_r.cell 0 _ rfl
  have q_r_1 := B_r.cell 1 _ rfl
  have fr_a := B_a.fro
  have fr_r := B_r.fro
  have z_a := B_a.lt
  have z_r := B_r.lt
  go_loop [6] (fun i => ∃ k : Nat, k ≤ p ∧ i = .int .i64 k) (fun i => p - (intOf i).toNat)
  case atStart => exact ⟨0, Nat.zero_le _, rfl⟩
  case round =>
    obtain ⟨k, hk, rfl⟩ := hrel
    by_cases hlt : k < p
    · have hkl : k < x.Class.length := by omega
      have p0 := oC.cell_ (List.getElem?_eq_getElem hkl) FI.pos
      simp only [FI, Nat.mul_one, Nat.add_zero] at p0
      have hne := HNE.out k hlt
      have hkl2 : (k : Int) < (x.Class.length : Int) := by omega
      generalize x.Class[k] = y at p0 hne
      replace p0 : w0.cell? ⟨gC, k, none⟩ = some (.int .i64 y) := p0
      go_wp2_with fail
      go_round
      · exact ⟨k + 1, by omega, by go_num⟩
      · simp [intOf]; omega
    · obtain rfl : k = p := by omega
      clear HNE hlt hk
      have p0 := oC.cell_ (List.getElem?_eq_getElem hpl) FI.pos
      simp only [FI, Nat.mul_one, Nat.add_zero] at p0
      rw [HAT.out] at p0
      replace p0 : w0.cell? ⟨gC, k, none⟩ = some (.int .i64 (-1)) := p0
      have fC := oC.frozen_ k
      have hkl2 : (k : Int) < (x.Class.length : Int) := by omega
      have fB0 := oB.frozen_ (k * 64)
      have fB1 := oB.frozen_ (k * 64 + 1)
      obtain ⟨y0, hy0⟩ : ∃ y, x.Bytes[k * 64]? = some y := ⟨_, List.getElem?_eq_getElem (by omega)⟩
      have cB0 := oB.cell_ hy0 FI.pos
      simp only [FI, Nat.mul_one, Nat.add_zero] at cB0
      replace cB0 : w0.cell? ⟨gB, k * 64, none⟩ = some (.int .i64 y0) := cB0
      obtain ⟨y1, hy1⟩ : ∃ y, x.Bytes[k * 64 + 1]? = some y := ⟨_, List.getElem?_eq_getElem (by omega)⟩
      have cB1 := oB.cell_ hy1 FI.pos
      simp only [FI, Nat.mul_one, Nat.add_zero] at cB1
      replace cB1 : w0.cell? ⟨gB, k * 64 + 1, none⟩ = some (.int .i64 y1) := cB1
      obtain ⟨q, hq⟩ : ∃ q : Nat, q = k * 64 := ⟨_, rfl⟩
      have hwr : IntKind.i64.wrap ((k : Int) * 64) = (q : Int) := by rw [IntWalk.i64_in _ ⟨by omega, by omega⟩]; omega
      have HLB := Hid.mk_ hlb
      have t0 : (q : Int) < (x.Bytes.length : Int) := by omega
      have t1 : (q : Int) + 1 < (x.Bytes.length : Int) := by omega
      have u0 : (0 : Int) ≤ (q : Int) := by omega
      have u1 : (0 : Int) ≤ (q : Int) + 1 := by omega
      have v1 : ((q : Int) + 1).toNat = q + 1 := by omega
      have r1 : IntKind.i64.wrap ((q : Int) + 1) = (q : Int) + 1 := IntWalk.i64_in _ ⟨by omega, by omega⟩
      have HQ := Hid.mk_ hq
      rw [← hq] at fB0 fB1 cB0 cB1 HG0 hy0 hy1
      clear hq hlb
      have nCa : gC ≠ w.heap.size := by omega
      have naC := nCa.symm
      have nBa : gB ≠ w.heap.size := by omega
      have naB := nBa.symm
      go_upto_region 9 with (fail)
      have oC3 : OwL FI 3 (((w0.setCell ⟨gC, k, none⟩ (.int .i64 c)).setCell ⟨gB, q, none⟩ (.int .i64 171)).setCell ⟨gB, q + 1, none⟩ (.int .i64 c)) (.slice (some ⟨gC, 0, none⟩) x.Class.length pC) (x.Class.set k c) := ((oC.setI hpl c).setO hBC _ _).setO hBC _ _
      have oB3 : OwL FI 3 (((w0.setCell ⟨gC, k, none⟩ (.int .i64 c)).setCell ⟨gB, q, none⟩ (.int .i64 171)).setCell ⟨gB, q + 1, none⟩ (.int .i64 c)) (.slice (some ⟨gB, 0, none⟩) x.Bytes.length pB) ((x.Bytes.set q 171).set (q + 1) c) := by
        have h1 := HQ.out
        have h2 := HLB.out
        exact ((oB.setO hCB _ _).setI (by omega) 171).setI (by rw [List.length_set]; omega) c
      replace hB : Chg (HHeap.foot ⟨⟨some ⟨gB, 0, none⟩, x.Bytes.length, pB⟩, ⟨some ⟨gC, 0, none⟩, x.Class.length, pC⟩⟩) w (((w0.setCell ⟨gC, k, none⟩ (.int .i64 c)).setCell ⟨gB, q, none⟩ (.int .i64 171)).setCell ⟨gB, q + 1, none⟩ (.int .i64 c)) := ((hB.set_ hFC _).set_ hFB _).set_ hFB _
      replace B_a := ((B_a.other (g' := gC) (i := k) (by omega) (.int .i64 c)).other (g' := gB) (i := q) (by omega) (.int .i64 171)).other (g' := gB) (i := q + 1) (by omega) (.int .i64 c)
      replace B_r := ((B_r.other (g' := gC) (i := k) (by omega) (.int .i64 c)).other (g' := gB) (i := q) (by omega) (.int .i64 171)).other (g' := gB) (i := q + 1) (by omega) (.int .i64 c)
      have sz3 : w0.heap.size ≤ (((w0.setCell ⟨gC, k, none⟩ (.int .i64 c)).setCell ⟨gB, q, none⟩ (.int .i64 171)).setCell ⟨gB, q + 1, none⟩ (.int .i64 c)).heap.size := by simp
      clear oB oC p0 fC fB0 fB1 cB0 cB1
      generalize hW3 : (((w0.setCell ⟨gC, k, none⟩ (.int .i64 c)).setCell ⟨gB, q, none⟩ (.int .i64 171)).setCell ⟨gB, q + 1, none⟩ (.int .i64 c)) = w3 at oC3 oB3 hB B_a B_r sz3 ⊢
      clear hW3
      replace q_a_0 := B_a.cell 0 _ rfl
      replace q_a_1 := B_a.cell 1 _ rfl
      replace q_r_0 := B_r.cell 0 _ rfl
      replace q_r_1 := B_r.cell 1 _ rfl
      replace fr_a := B_a.fro
      replace fr_r := B_r.fro
      replace z_a := B_a.lt
      replace z_r := B_r.lt
      obtain ⟨y2, hy2⟩ : ∃ y, ((x.Bytes.set q 171).set (q + 1) (c : Int))[q + 2]? = some y := ⟨_, List.getElem?_eq_getElem (by rw [List.length_set, List.length_set]; have h1 := HQ.out; have h2 := HLB.out; omega)⟩
      have cB2 := oB3.cell_ hy2 FI.pos
      simp only [FI, Nat.mul_one, Nat.add_zero] at cB2
      replace cB2 : w3.cell? ⟨gB, q + 2, none⟩ = some (.int .i64 y2) := cB2
      have fB2 := oB3.frozen_ (q + 2)
      have h1 := HQ.out
      have h2 := HLB.out
      have t2 : (q : Int) + 2 < (x.Bytes.length : Int) := by omega
      have u2 : (0 : Int) ≤ (q : Int) + 2 := by omega
      have v2 : ((q : Int) + 2).toNat = q + 2 := by omega
      have r2 : IntKind.i64.wrap ((q : Int) + 2) = (q : Int) + 2 := IntWalk.i64_in _ ⟨by omega, by omega⟩
      clear h1 h2 hy0 hy1 hy2
      have HY := Hid.mk_ (show q + 2 < ((x.Bytes.set q 171).set (q + 1) (c : Int)).length by rw [List.length_set, List.length_set]; have h1 := HQ.out; have h2 := HLB.out; omega)
      go_cut [] from 10 to 67 (fun wx => OwL FI 3 wx (.slice (some ⟨gB, 0, none⟩) x.Bytes.length pB) (grTo x.Bytes k c 0) ∧ OwL FI 3 wx (.slice (some ⟨gC, 0, none⟩) x.Class.length pC) (x.Class.set k c) ∧ Box wx w.heap.size [.slice (some ⟨gB, 0, none⟩) x.Bytes.length pB, .slice (some ⟨gC, 0, none⟩) x.Class.length pC] ∧ Box wx (w.heap.size + 1) [.slice none 0 0, .slice none 0 0] ∧ Chg (HHeap.foot ⟨⟨some ⟨gB, 0, none⟩, x.Bytes.length, pB⟩, ⟨some ⟨gC, 0, none⟩, x.Class.length, pC⟩⟩) w wx)
      case first =>
        rename_i J9 K9 hJ9 hK9
        go_region_with (go_at_call 150; refine (hpp _).mono ?_; rintro e wv ⟨rfl, rfl⟩)
        all_goals
          refine hK9 _ _ (Met.intro (hJ9 _ _ ?_))
          (repeat apply Exists.intro)
          refine ⟨?_, rfl⟩
          refine ⟨by rw [← HG0.out]; exact (OwL.keep (w' := w3.drew) oB3 (fun _ _ => rfl)).setI HY.out _, (OwL.keep (w' := w3.drew) oC3 (fun _ _ => rfl)).setO hBC _ _, B_a.drew.other (by omega) _, B_r.drew.other (by omega) _, (Chg.drew_ hB).set_ hFB _⟩
      case rest =>
        clear oB3 oC3 B_a B_r hB cB2 fB2 sz3 q_a_0 q_a_1 q_r_0 q_r_1 fr_a fr_r z_a z_r HG0
        obtain ⟨oB, oC, B_a, B_r, hB⟩ := hcut
        have q_a_0 := B_a.cell 0 _ rfl
        have q_a_1 := B_a.cell 1 _ rfl
        have q_r_0 := B_r.cell 0 _ rfl
        have q_r_1 := B_r.cell 1 _ rfl
        have fr_a := B_a.fro
        have fr_r := B_r.fro
        have z_a := B_a.lt
        have z_r := B_r.lt
        have zz := B_r.lt
        have oS : OwL FI 3 (wc.alloc (.cells #[] 3)) (.slice (some ⟨wc.heap.size, 0, none⟩) 0 0) [] := OwL.lit FI [] #[] rfl (by simp [maxLen]) wc 3
        replace oB := oB.alloc_ (.cells #[] 3)
        replace oC := oC.alloc_ (.cells #[] 3)
        replace B_a := B_a.alloc (.cells #[] 3)
        replace B_r := B_r.alloc (.cells #[] 3)
        replace hB := hB.alloc_ (.cells #[] 3)
        go_wp2_with fail
        go_loopw [8, 9] (fun s i wr => ∃ j : Nat, j ≤ n ∧ i = .int .i64 j ∧ OwL FI 3 wr (.slice (some ⟨gB, 0, none⟩) x.Bytes.length pB) (grTo x.Bytes k c j) ∧ OwL FI 3 wr (.slice (some ⟨gC, 0, none⟩) x.Class.length pC) (x.Class.set k c) ∧ OwL FI 3 wr s (slotsTo k j) ∧ (∀ b ∈ foot1 s, w.heap.size + 1 < b) ∧ Box wr w.heap.size [.slice (some ⟨gB, 0, none⟩) x.Bytes.length pB, .slice (some ⟨gC, 0, none⟩) x.Class.length pC] ∧ Box wr (w.heap.size + 1) [.slice none 0 0, .slice none 0 0] ∧ Chg (HHeap.foot ⟨⟨some ⟨gB, 0, none⟩, x.Bytes.length, pB⟩, ⟨some ⟨gC, 0, none⟩, x.Class.length, pC⟩⟩) w wr) (fun _ i _ => n - (intOf i).toNat)
        case atStart => exact ⟨0, Nat.zero_le _, rfl, oB, oC, oS, fun b hb => by have := foot1_some.1 hb; omega, B_a, B_r, hB⟩
        case round =>
          clear oB oC oS B_a B_r hB zz q_a_0 q_a_1 q_r_0 q_r_1 fr_a fr_r z_a z_r
          obtain ⟨j, hj, rfl, o_B, o_C, o_S, fS, B_a, B_r, hB⟩ := hrel
          have q_a_0 := B_a.cell 0 _ rfl
          have q_a_1 := B_a.cell 1 _ rfl
          have q_r_0 := B_r.cell 0 _ rfl
          have q_r_1 := B_r.cell 1 _ rfl
          have fr_a := B_a.fro
          have fr_r := B_r.fro
          have z_a := B_a.lt
          have z_r := B_r.lt
          have zz := B_r.lt
          have HSL := Hid.mk_ (slotsTo_len k j)
          by_cases hlt : j < n
          · have hrm := HRM.out j hlt
            have hgl := HGL.out j hj
            have HGK := Hid.mk_ (HGS.out j)
            have HST := Hid.mk_ (slotsTo_succ k j)
            have hsk := fun W => hsa j hlt W
            have hgk := fun W => hga j hlt W
            have hrm2 : k * 64 + 8 + j * (strideOf (c : Int)).toNat + 4 ≤ (grTo x.Bytes k c j).length := by rw [hgl]; omega
            clear hrm hgl hsa hga HRM HGL HGS
            obtain ⟨P, hP⟩ : ∃ P, P = k * 64 + 8 + j * (strideOf (c : Int)).toNat := ⟨_, rfl⟩
            rw [← hP] at hgk HGK hrm2
            clear hP
            have hst : ∀ W : World, OwL FI 3 W (.slice (some ⟨gB, 0, none⟩) x.Bytes.length pB) (grTo x.Bytes k c j) → Calls Tryz.prog 86 #[.slice (some ⟨gB, 0, none⟩) x.Bytes.length pB, .int .i64 (P : Int), .int .i64 4, .int .i64 1] W fun e w' => e = .returned (.slice (some ⟨gB, 0, none⟩) x.Bytes.length pB) ∧ OwL FI 3 w' (.slice (some ⟨gB, 0, none⟩) x.Bytes.length pB) (putAt (grTo x.Bytes k c j) P (digs 4 1)) ∧ Chg (foot1 (.slice (some ⟨gB, 0, none⟩) x.Bytes.length pB)) W w' := fun W o => l3Store_spec W _ (grTo x.Bytes k c j) P 4 1 o (by decide) (by decide) (by decide) (by decide) hrm2
            clear hrm2
            obtain ⟨sl, hsl⟩ : ∃ q, q = k * 4 + j := ⟨_, rfl⟩
            rw [← hsl] at hsk hgk HST
            clear hsl
            have obd : OwL FI 3 wr.drew (.slice (some ⟨gB, 0, none⟩) x.Bytes.length pB) (grTo x.Bytes k c j) := o_B.keep (fun _ _ => rfl)
            have ob : OwL FI 3 wr (.slice (some ⟨gB, 0, none⟩) x.Bytes.length pB) (grTo x.Bytes k c j) := o_B
            go_upto_region 14 with (go_at_call 150; refine (hpp _).mono ?_; rintro e wv ⟨rfl, rfl⟩)
            go_region_with (first | (go_at_call 202; refine (hsk _).mono ?_; rintro e wv ⟨rfl, rfl⟩) | (go_at_call 158; refine (hgk _).mono ?_; rintro e wv ⟨rfl, rfl⟩) | (go_at_call 86; (first | ((with_reducible refine (hst _ ob).mono ?_); rintro e wq ⟨rfl, hbN, hx⟩; replace hx : Chg (foot1 (.slice (some ⟨gB, 0, none⟩) x.Bytes.length pB)) wr wq := ⟨hx.os, hx.tape, hx.output, hx.size, hx.block⟩; replace B_a := B_a.chg hx (fun hm => by have := foot1_some.1 hm; omega); replace B_r := B_r.chg hx (fun hm => by have := foot1_some.1 hm; omega); replace o_B := hbN; replace o_C := o_C.chg hx (fun b hb hm => by have e1 := foot1_some.1 hb; have e2 := foot1_some.1 hm; omega); replace o_S := o_S.chg hx (fun b hb hm => by have e2 := foot1_some.1 hm; have := fS b hb; omega); replace hB := hB.trans (hx.mono (fun b hb => by rw [foot1_some.1 hb]; exact hFB)); replace q_a_0 := B_a.cell 0 _ rfl; replace q_a_1 := B_a.cell 1 _ rfl; replace q_r_0 := B_r.cell 0 _ rfl; replace q_r_1 := B_r.cell 1 _ rfl; replace fr_a := B_a.fro; replace fr_r := B_r.fro; replace z_a := B_a.lt; replace z_r := B_r.lt) | ((with_reducible refine (hst _ obd).mono ?_); rintro e wq ⟨rfl, hbN, hx⟩; replace hx : Chg (foot1 (.slice (some ⟨gB, 0, none⟩) x.Bytes.length pB)) wr wq := ⟨hx.os, hx.tape, hx.output, hx.size, hx.block⟩; replace B_a := B_a.chg hx (fun hm => by have := foot1_some.1 hm; omega); replace B_r := B_r.chg hx (fun hm => by have := foot1_some.1 hm; omega); replace o_B := hbN; replace o_C := o_C.chg hx (fun b hb hm => by have e1 := foot1_some.1 hb; have e2 := foot1_some.1 hm; omega); replace o_S := o_S.chg hx (fun b hb hm => by have e2 := foot1_some.1 hm; have := fS b hb; omega); replace hB := hB.trans (hx.mono (fun b hb => by rw [foot1_some.1 hb]; exact hFB)); replace q_a_0 := B_a.cell 0 _ rfl; replace q_a_1 := B_a.cell 1 _ rfl; replace q_r_0 := B_r.cell 0 _ rfl; replace q_r_1 := B_r.cell 1 _ rfl; replace fr_a := B_a.fro; replace fr_r := B_r.fro; replace z_a := B_a.lt; replace z_r := B_r.lt))))
            all_goals
              clear hgk hst ob obd
              rw [← HGK.out] at o_B
              replace B_a : Box (wq.setCell ⟨w.heap.size, 0, none⟩ (.slice (some ⟨gB, 0, none⟩) x.Bytes.length pB)) w.heap.size [.slice (some ⟨gB, 0, none⟩) x.Bytes.length pB, .slice (some ⟨gC, 0, none⟩) x.Class.length pC] := B_a.set 0 (.slice (some ⟨gB, 0, none⟩) x.Bytes.length pB)
              replace B_r := B_r.other (g' := w.heap.size) (i := 0) (by omega) (.slice (some ⟨gB, 0, none⟩) x.Bytes.length pB)
              replace o_B := o_B.setO (g' := w.heap.size) (by omega) 0 (.slice (some ⟨gB, 0, none⟩) x.Bytes.length pB)
              replace o_C := o_C.setO (g' := w.heap.size) (by omega) 0 (.slice (some ⟨gB, 0, none⟩) x.Bytes.length pB)
              replace o_S := o_S.keep (w' := wq.setCell ⟨w.heap.size, 0, none⟩ (.slice (some ⟨gB, 0, none⟩) x.Bytes.length pB)) (fun b hb => heap_set_other wq _ (fun e => by have h2 := fS b (mem_foot1.2 hb); have h3 : b = w.heap.size := e.symm; omega))
              replace hB := hB.set_new (g := w.heap.size) (i := 0) (Nat.le_refl _) (.slice (some ⟨gB, 0, none⟩) x.Bytes.length pB)
              clear q_a_0 q_a_1 q_r_0 q_r_1 fr_a fr_r z_a z_r
              generalize hW5 : wq.setCell ⟨w.heap.size, 0, none⟩ (.slice (some ⟨gB, 0, none⟩) x.Bytes.length pB) = w5 at o_B o_C o_S B_a B_r hB ⊢
              clear hW5
              have q_a_0 := B_a.cell 0 _ rfl
              have q_a_1 := B_a.cell 1 _ rfl
              have q_r_0 := B_r.cell 0 _ rfl
              have q_r_1 := B_r.cell 1 _ rfl
              have fr_a := B_a.fro
              have fr_r := B_r.fro
              have z_a := B_a.lt
              have z_r := B_r.lt
              go_wp2_with (first | (go_at_call 202; refine (hsk _).mono ?_; rintro e wv ⟨rfl, rfl⟩) | (at_builtin; refine wpList_append_flat Tryz.stInt rfl _ _ rfl (v := u8) (y := .slice (some ⟨w5.heap.size, 0, none⟩) 1 1) (l := slotsTo k j) (m := [(sl : Int)]) rfl rfl (o_S.alloc_ _) (OwL.lit FI [(sl : Int)] #[.int .i64 (sl : Int)] rfl (by simp [maxLen]) w5 3).rd' (by rw [HSL.out]; simp; omega) ?_; intro v' w7 ho' hg' hat'))
              have hx7 := Chg.of_grown hg'
              have hB7 := (hB.alloc_ (.cells #[.int .i64 (sl : Int)] 3)).trans_fr hx7 (fun b hb => .inr (by have := fS b hb; omega))
              go_roundw
              case rel =>
                refine ⟨j + 1, by omega, by go_num, (o_B.alloc_ (.cells #[.int .i64 (sl : Int)] 3)).chg hx7 (fun b hb hm => by have e1 := foot1_some.1 hb; have := fS b hm; omega), (o_C.alloc_ (.cells #[.int .i64 (sl : Int)] 3)).chg hx7 (fun b hb hm => by have e1 := foot1_some.1 hb; have := fS b hm; omega), by rw [HST.out]; exact ho', fun b hb => ?_, (B_a.alloc (.cells #[.int .i64 (sl : Int)] 3)).chg hx7 (fun hm => by have := fS _ hm; omega), (B_r.alloc (.cells #[.int .i64 (sl : Int)] 3)).chg hx7 (fun hm => by have := fS _ hm; omega), hB7⟩
                rcases foot_app hat' b hb with hh | hh
                · exact fS b hh
                · simp at hh
                  omega
              case measure => simp [intOf]; omega
          · obtain rfl : j = n := by omega
            obtain ⟨A, c', hv, _⟩ := o_S.rd'
            subst hv
            go_wp2_with (go_at_call 150; refine (hpp _).mono ?_; rintro e wv ⟨rfl, rfl⟩)
            refine bodyPost_ret (v := .tuple #[.agg #[.slice (some ⟨gB, 0, none⟩) x.Bytes.length pB, .slice (some ⟨gC, 0, none⟩) x.Class.length pC], .slice A (slotsTo k j).length c']) (by simp [results, Tryz.results165, go_sem, q_r_0, q_r_1]) rfl ⟨⟨A, (slotsTo k j).length, c'⟩, rfl, by rw [HGR.out]; exact ⟨o_B.chg (F := [w.heap.size + 1]) (by repeat (first | with_reducible exact Chg.refl _ _ | with_reducible refine Chg.set_ ?_ (by simp) _ | with_reducible refine Chg.alloc_ ?_ _ | with_reducible refine Chg.drew_ ?_)) (fun b hb hm => by simp only [List.mem_cons, List.not_mem_nil, or_false] at hm; have := foot1_some.1 hb; omega), o_C.chg (F := [w.heap.size + 1]) (by repeat (first | with_reducible exact Chg.refl _ _ | with_reducible refine Chg.set_ ?_ (by simp) _ | with_reducible refine Chg.alloc_ ?_ _ | with_reducible refine Chg.drew_ ?_)) (fun b hb hm => by simp only [List.mem_cons, List.not_mem_nil, or_false] at hm; have := foot1_some.1 hb; omega), fun b hb hm => by have e1 := foot1_some.1 hb; have e2 := foot1_some.1 hm; omega⟩, o_S.chg (F := [w.heap.size + 1]) (by repeat (first | with_reducible exact Chg.refl _ _ | with_reducible refine Chg.set_ ?_ (by simp) _ | with_reducible refine Chg.alloc_ ?_ _ | with_reducible refine Chg.drew_ ?_)) (fun b hb hm => by simp only [List.mem_cons, List.not_mem_nil, or_false] at hm; have := fS b hb; omega), fun b hb => by have := fS b hb; omega, hB.trans_fr (G := [w.heap.size + 1]) (by repeat (first | with_reducible exact Chg.refl _ _ | with_reducible refine Chg.set_ ?_ (by simp) _ | with_reducible refine Chg.alloc_ ?_ _ | with_reducible refine Chg.drew_ ?_)) (fun b hb => .inr (by simp only [List.mem_cons, List.not_mem_nil, or_false] at hb; omega))⟩
end Go.Proofs.YtkmggglljkmjoaaGreat

/-
  No page left to grant, the other package: the contract.
-/
namespace Go.Proofs.YtkmggglljkmjoaaGreat
open Go.RowKit

theorem idx_none {l : List Int} {x : Int} (h : idxOf (fun y => y == x) l = -1) {k : Nat} (hk : k < l.length) : ¬ l[k] = x := by
  intro he
  unfold idxOf at h
  cases hx : l.findIdx? (fun y => y == x) with
  | none =>
    have := List.findIdx?_eq_none_iff.1 hx l[k] (List.getElem_mem hk)
    simp [he] at this
  | some i =>
    rw [hx] at h
    simp at h
set_option maxRecDepth 100000 in
set_option maxHeartbeats 4000000 in
theorem l7Grant_no (w : World) (H : HHeap) (x : Heap) (c : Nat) (h : RdHeap w w.heap.size H x) (hs : shapeB x = true) (hp : idxOf (fun y => y == -1) x.Class = -1) :
    Calls Tryz.prog 165 #[.agg #[.slice H.Bytes.a H.Bytes.len H.Bytes.cap, .slice H.Class.a H.Class.len H.Class.cap], .int .i64 c] w fun e w' => ∃ (A : Option Addr) (cp : Nat), e = .returned (.tuple #[.agg #[.slice H.Bytes.a H.Bytes.len H.Bytes.cap, .slice H.Class.a H.Class.len H.Class.cap], .slice A 0 cp]) ∧ Below w.heap.size w w' := by
  obtain ⟨⟨A1, n1, c1⟩, ⟨A2, n2, c2⟩⟩ := H
  have hr2 : RdL FI w w.heap.size (.slice A2 n2 c2) x.Class := h.Class
  have hcl := (shape_of hs).cl
  have HN := Hid.mk_ (fun k (hk : k < x.Class.length) => idx_none hp hk)
  clear h hs hp
  have B_a : Box ((w.alloc (.cells #[.slice A1 n1 c1, .slice A2 n2 c2] 26)).alloc (.cells #[.slice none 0 0, .slice none 0 0] 26)) (w.heap.size) [.slice A1 n1 c1, .slice A2 n2 c2] := by
    have hbx := Box.new w #[.slice A1 n1 c1, .slice A2 n2 c2] 26
    exact (hbx).alloc _
  have B_r : Box ((w.alloc (.cells #[.slice A1 n1 c1, .slice A2 n2 c2] 26)).alloc (.cells #[.slice none 0 0, .slice none 0 0] 26)) (w.heap.size + 1) [.slice none 0 0, .slice none 0 0] := by
    have hbx := Box.new (w.alloc (.cells #[.slice A1 n1 c1, .slice A2 n2 c2] 26)) #[.slice none 0 0, .slice none 0 0] 26
    simp only [World.size_alloc] at hbx
    exact hbx
  have hB : Below w.heap.size w ((w.alloc (.cells #[.slice A1 n1 c1, .slice A2 n2 c2] 26)).alloc (.cells #[.slice none 0 0, .slice none 0 0] 26)) := by repeat (first | exact Below.refl _ _ | refine Below.alloc ?_ (by simp <;> omega) _ | refine below_grow_of ?_ (by simp <;> omega) _ _ | refine Below.drew ?_ | refine below_drewN ?_ _)
  go_enter Tryz.func165, Tryz.ntmps165
  go_wp2_with fail
  generalize hW0 : ((w.alloc (.cells #[.slice A1 n1 c1, .slice A2 n2 c2] 26)).alloc (.cells #[.slice none 0 0, .slice none 0 0] 26)) = w0 at B_a B_r hB ⊢
  clear hW0
  have zz_a := B_a.lt
  have zz_r := B_r.lt
  have q_a_0 := B_a.cell 0 _ rfl
  have q_a_1 := B_a.cell 1 _ rfl
  have fr_a := B_a.fro
  have z_a := B_a.lt
  have q_r_0 := B_r.cell 0 _ rfl
  have q_r_1 := B_r.cell 1 _ rfl
  have fr_r := B_r.fro
  have z_r := B_r.lt
  replace q_a_0 := B_a.cell 0 _ rfl
  replace q_a_1 := B_a.cell 1 _ rfl
  replace fr_a := B_a.fro
  replace z_a := B_a.lt
  replace q_r_0 := B_r.cell 0 _ rfl
  replace q_r_1 := B_r.cell 1 _ rfl
  replace fr_r := B_r.fro
  replace z_r := B_r.lt
  go_loop [6] (fun i => ∃ k : Nat, k ≤ 6 ∧ i = .int .i64 k) (fun i => 6 - (intOf i).toNat)
  case atStart => exact ⟨0, by omega, rfl⟩
  case round =>
    obtain ⟨k, hk, rfl⟩ := hrel
    by_cases hlt : k < 6
    · have hkl : k < x.Class.length := by omega
      obtain ⟨g, off, cap2, he, hg, _, _, hc⟩ := (rd_up hr2 hB).at_ (List.getElem?_eq_getElem hkl)
      injection he with e1 e2 e3
      subst e1 e2 e3
      have p0 : w0.cell? ⟨g, off + k, none⟩ = some (.int .i64 x.Class[k]) := by simpa [FI] using hc 0 _ rfl
      have hne := HN.out k hkl
      clear hc hr2
      have hkl2 : (k : Int) < (x.Class.length : Int) := by omega
      generalize x.Class[k] = y at p0 hne
      go_wp2_with fail
      go_round
      · exact ⟨k + 1, by omega, by go_num⟩
      · simp [intOf]; omega
    · obtain rfl : k = 6 := by omega
      go_wp2_with fail
      have hbx := ((B_r.set 0 (.slice A1 n1 c1)).set 1 (.slice A2 n2 c2)).alloc (.cells #[] 3)
      have qx0 := hbx.cell 0 _ rfl
      have qx1 := hbx.cell 1 _ rfl
      refine bodyPost_ret (v := .tuple #[.agg #[.slice A1 n1 c1, .slice A2 n2 c2], .slice (some ⟨w0.heap.size, 0, none⟩) 0 0]) (by simp [results, Tryz.results165, go_sem, qx0, qx1]) rfl ⟨⟨_, _, rfl⟩, Below.trans hB (by repeat (first | with_reducible exact Below.refl _ _ | with_reducible refine Below.setCell ?_ (by simp <;> omega) _ | with_reducible refine Below.alloc ?_ (by simp <;> omega) _ | with_reducible refine Below.drew ?_))⟩
end Go.Proofs.YtkmggglljkmjoaaGreat

/-
  Memories: what is kept: plain facts (bytes, places, pages).
-/
namespace Go.Proofs.YtkmggglljkmjoaaGreat
open Go.RowKit
-- bytes
theorem getD_putOut {b ds : List Int} {a i : Nat} (h : a + ds.length ≤ b.length) (hi : i < a ∨ a + ds.length ≤ i) : (putAt b a ds).getD i 0 = b.getD i 0 := by
  rw [List.getD_eq_getElem?_getD, List.getD_eq_getElem?_getD, putAt_get_out h hi]
theorem getD_putIn {b ds : List Int} {a j : Nat} (h : a + ds.length ≤ b.length) (hj : j < ds.length) : (putAt b a ds).getD (a + j) 0 = ds.getD j 0 := by
  rw [List.getD_eq_getElem?_getD, List.getD_eq_getElem?_getD, putAt_get_in h hj]
theorem loadTo_same {b b' : List Int} {a : Nat} : ∀ k, (∀ j < k, b'.getD (a + j) 0 = b.getD (a + j) 0) → loadTo b' a k = loadTo b a k
  | 0, _ => rfl
  | k + 1, h => by
    unfold loadTo
    rw [loadTo_same k (fun j hj => h j (by omega)), h k (by omega)]
theorem zeros_sub {b : List Int} {lo n : Nat} : zerosB ((b.drop lo).take n) = true ↔ ∀ j < n, b.getD (lo + j) 0 = 0 := by
  unfold zerosB
  rw [List.all_eq_true]
  constructor
  · intro h j hj
    by_cases hl : lo + j < b.length
    · have hm : b[lo + j] ∈ (b.drop lo).take n := List.mem_iff_getElem?.2 ⟨j, by rw [List.getElem?_take, if_pos hj, List.getElem?_drop, List.getElem?_eq_getElem hl]⟩
      have := h _ hm
      rw [getD_at hl]
      simpa using this
    · exact getD_off (by omega)
  · intro h x hx
    obtain ⟨j, hj⟩ := List.mem_iff_getElem?.1 hx
    rw [List.getElem?_take] at hj
    split at hj
    · rename_i hjn
      rw [List.getElem?_drop] at hj
      have := h j hjn
      rw [List.getD_eq_getElem?_getD, hj] at this
      simpa using this
    · cases hj
-- places
def gpos (P I : Nat) (c : Int) : Nat := P * 64 + 8 + I * (strideOf c).toNat
theorem stride_size {c : Int} (hc : inB 0 2 c = true) : (strideOf c).toNat = 4 + (sizeOfC c).toNat := by
  rcases cls hc with rfl | rfl | rfl <;> decide
theorem gpos_in {P I : Nat} {c : Int} (hc : inB 0 2 c = true) (hI : I < (perPage c).toNat) : P * 64 + 8 ≤ gpos P I c ∧ gpos P I c + (strideOf c).toNat ≤ P * 64 + 64 := by
  unfold gpos
  rcases cls hc with rfl | rfl | rfl <;> simp [perPage, strideOf] at * <;> omega
theorem gpos_sep {P I J : Nat} {c : Int} (hc : inB 0 2 c = true) (h : I ≠ J) : gpos P I c + (strideOf c).toNat ≤ gpos P J c ∨ gpos P J c + (strideOf c).toNat ≤ gpos P I c := by
  unfold gpos
  rcases cls hc with rfl | rfl | rfl <;> simp [strideOf] at * <;> omega
/-- A carved slot: its page, its place on it. -/
theorem slot_place {h : Heap} {s : Int} (k : ¬ classInB h s < 0) : ∃ P I : Nat, P < 6 ∧ I < 4 ∧ s = ((P * 4 + I : Nat) : Int) ∧ inB 0 2 (classInB h s) = true ∧ I < (perPage (classInB h s)).toNat ∧ h.Class.getD P (-1) = classInB h s ∧ genAt s (classInB h s) = ((gpos P I (classInB h s) : Nat) : Int) ∧ startAt s (classInB h s) = ((gpos P I (classInB h s) + 4 : Nat) : Int) := by
  rcases classInB_cases h s with ⟨e, _⟩ | ⟨e, k1, k2, k3, k4⟩
  · exact absurd k (by rw [e]; decide)
  · have hg := genAt_iff.1 (show 0 ≤ genAt s (clAt h s) by omega)
    rw [← e] at hg k1 k2 k4
    obtain ⟨s0, s1⟩ := inB_iff.1 k3
    have hpp := (perPage_bd (classInB h s)).2
    have hst := (strideOf_bd (classInB h s)).1
    have hga : genAt s (classInB h s) = ((gpos (s / 4).toNat (s % 4).toNat (classInB h s) : Nat) : Int) := by
      rw [genAt_yes k3 k4 hg.2.2]
      unfold gpos
      simp only [Int.natCast_add, Int.natCast_mul, Int.toNat_of_nonneg (show 0 ≤ s / 4 by omega), Int.toNat_of_nonneg (show 0 ≤ s % 4 by omega), Int.toNat_of_nonneg hst]
      rfl
    refine ⟨(s / 4).toNat, (s % 4).toNat, by omega, by omega, by omega, k4, by omega, ?_, hga, ?_⟩
    · rw [e]; rfl
    · unfold startAt
      rw [if_neg (by omega), hga]
      omega
theorem gen_load {h : Heap} {P I : Nat} {s : Int} (k : ¬ classInB h s < 0) (e : genAt s (classInB h s) = ((gpos P I (classInB h s) : Nat) : Int)) : genInB h s = loadTo h.Bytes (gpos P I (classInB h s)) 4 := by
  unfold genInB
  rw [if_neg k, e]
  rfl
theorem page_same {h h' : Heap} {p : Nat} (hc : h'.Class.getD p (-1) = h.Class.getD p (-1)) (ok : pageOkB h p = true) (hn : h.Class.getD p (-1) < 0 → ∀ j < 64, h'.Bytes.getD (p * 64 + j) 0 = h.Bytes.getD (p * 64 + j) 0)
    (hh : 0 ≤ h.Class.getD p (-1) → ∀ j < 8, h'.Bytes.getD (p * 64 + j) 0 = h.Bytes.getD (p * 64 + j) 0)
    (hg : 0 ≤ h.Class.getD p (-1) → ∀ i < (perPage (h.Class.getD p (-1))).toNat, inB 1 7 (loadTo h.Bytes (gpos p i (h.Class.getD p (-1))) 4) = true → inB 1 7 (loadTo h'.Bytes (gpos p i (h.Class.getD p (-1))) 4) = true) : pageOkB h' p = true := by
  unfold pageOkB at ok ⊢
  rw [hc]
  by_cases k : h.Class.getD p (-1) < 0
  · rw [if_pos k] at ok ⊢
    rw [zeros_sub] at ok ⊢
    exact fun j hj => by rw [hn k j hj]; exact ok j hj
  · rw [if_neg k] at ok ⊢
    have k0 : 0 ≤ h.Class.getD p (-1) := by omega
    have h0 := hh k0 0 (by omega)
    have h1 := hh k0 1 (by omega)
    have h2 := hh k0 2 (by omega)
    rw [Nat.add_zero] at h0
    simp only [Bool.and_eq_true] at ok ⊢
    obtain ⟨⟨⟨⟨a, b⟩, c⟩, d⟩, e⟩ := ok
    rw [h0, h1, h2]
    refine ⟨⟨⟨⟨a, b⟩, c⟩, ?_⟩, ?_⟩
    · rw [zeros_sub] at d ⊢
      intro j hj
      have := hh k0 (3 + j) (by omega)
      have dj := d j hj
      rw [Nat.add_assoc] at dj ⊢
      rw [this]
      exact dj
    · unfold gensB at e ⊢
      rw [List.all_eq_true] at e ⊢
      intro i hi
      exact hg k0 i (List.mem_range.1 hi) (e i hi)
theorem heap_parts {h : Heap} : heapOkB h = true ↔ shapeB h = true ∧ ∀ p < 6, pageOkB h p = true := by
  unfold heapOkB
  simp [List.all_eq_true]
theorem shape_put {h : Heap} {a : Nat} {ds : List Int} (hs : shapeB h = true) (hd : ds.all (inB 0 255) = true) (hl : a + ds.length ≤ 384) : shapeB { h with Bytes := putAt h.Bytes a ds } = true := by
  unfold shapeB bytesOkB at hs ⊢
  simp only [Bool.and_eq_true, beq_iff_eq, decide_eq_true_eq] at hs ⊢
  obtain ⟨⟨⟨h1, h2⟩, h3, h4⟩, h5⟩ := hs
  have e : (putAt h.Bytes a ds).length = h.Bytes.length := putAt_len (by omega)
  rw [e]
  exact ⟨⟨⟨h1, h2⟩, h3, putAt_all h4 hd⟩, h5⟩
/-- Bytes put into one slot's room: its generation, or its data. -/
theorem heap_put {h : Heap} {s : Int} {P I a : Nat} {ds : List Int} (ok : heapOkB h = true) (k : ¬ classInB h s < 0) (hP : P < 6) (hI : I < (perPage (classInB h s)).toNat) (hc : h.Class.getD P (-1) = classInB h s) (hcl : inB 0 2 (classInB h s) = true)
    (hd : ds.all (inB 0 255) = true) (h1 : gpos P I (classInB h s) ≤ a) (h2 : a + ds.length ≤ gpos P I (classInB h s) + (strideOf (classInB h s)).toNat)
    (hg : inB 1 7 (loadTo (putAt h.Bytes a ds) (gpos P I (classInB h s)) 4) = true) : heapOkB { h with Bytes := putAt h.Bytes a ds } = true := by
  obtain ⟨hs, hp⟩ := heap_parts.1 ok
  have sh := shape_of hs
  obtain ⟨i1, i2⟩ := gpos_in (P := P) hcl hI
  have hl : a + ds.length ≤ h.Bytes.length := by rw [sh.bl]; omega
  refine heap_parts.2 ⟨shape_put hs hd (by omega), fun p hp6 => ?_⟩
  have c0 := (inB_iff.1 hcl).1
  refine page_same (h := h) rfl (hp p hp6) ?_ ?_ ?_
  · intro hneg j hj
    have : p ≠ P := fun e => by rw [e, hc] at hneg; omega
    exact getD_putOut hl (by omega)
  · intro _ j hj
    exact getD_putOut hl (by omega)
  · intro hpos i hi hold
    by_cases e : p = P
    · subst e
      rw [hc] at hold hi ⊢
      by_cases ei : i = I
      · rw [ei]; exact hg
      · have hsp := gpos_sep (P := p) hcl ei
        have h4 := stride_ge hcl
        rw [loadTo_same 4 (fun j hj => getD_putOut hl (by omega))]
        exact hold
    · have hcl' : inB 0 2 (h.Class.getD p (-1)) = true := inB_iff.2 ⟨hpos, (sh.cs p).2⟩
      obtain ⟨j1, j2⟩ := gpos_in (P := p) hcl' hi
      have h4 := stride_ge hcl'
      rw [loadTo_same 4 (fun j hj => getD_putOut hl (by omega))]
      exact hold
theorem gen_bd {h : Heap} {s : Int} (ok : heapOkB h = true) (k : ¬ classInB h s < 0) : 1 ≤ genInB h s ∧ genInB h s ≤ 7 := by
  obtain ⟨P, I, hP, _, _, hcl, hI, hc, e, _⟩ := slot_place k
  rw [gen_load k e]
  obtain ⟨_, hp⟩ := heap_parts.1 ok
  have := hp P hP
  unfold pageOkB at this
  rw [hc, if_neg k] at this
  simp only [Bool.and_eq_true] at this
  have g := this.2
  unfold gensB at g
  exact inB_iff.1 (List.all_eq_true.1 g I (List.mem_range.2 hI))
-- another slot's room
theorem room_apart {h : Heap} {s t : Int} {P I Q J : Nat} (hcl : inB 0 2 (classInB h s) = true) (hcl' : inB 0 2 (classInB h t) = true) (hI : I < (perPage (classInB h s)).toNat) (hJ : J < (perPage (classInB h t)).toNat) (hc : h.Class.getD P (-1) = classInB h s) (hc' : h.Class.getD Q (-1) = classInB h t) (hn : ¬ (P = Q ∧ I = J)) :
    gpos P I (classInB h s) + (strideOf (classInB h s)).toNat ≤ gpos Q J (classInB h t) ∨ gpos Q J (classInB h t) + (strideOf (classInB h t)).toNat ≤ gpos P I (classInB h s) := by
  by_cases e : P = Q
  · subst e
    have ec : classInB h s = classInB h t := by rw [← hc, ← hc']
    rw [ec]
    exact gpos_sep hcl' (fun ei => hn ⟨rfl, ei⟩)
  · obtain ⟨i1, i2⟩ := gpos_in (P := P) hcl hI
    obtain ⟨j1, j2⟩ := gpos_in (P := Q) hcl' hJ
    omega
/-- What is put into one slot's room leaves all others as they are. -/
theorem put_other {h : Heap} {s t : Int} {a : Nat} {ds : List Int} {P I : Nat} (sh : Shape h) (_k : ¬ classInB h s < 0) (_kt : ¬ classInB h t < 0) (hst : t ≠ s) (es : s = ((P * 4 + I : Nat) : Int)) (_hI4 : I < 4) (hP : P < 6) (hI : I < (perPage (classInB h s)).toNat) (hc : h.Class.getD P (-1) = classInB h s) (hcl : inB 0 2 (classInB h s) = true)
    (h1 : gpos P I (classInB h s) ≤ a) (h2 : a + ds.length ≤ gpos P I (classInB h s) + (strideOf (classInB h s)).toNat) :
    ∀ Q J : Nat, t = ((Q * 4 + J : Nat) : Int) → J < 4 → J < (perPage (classInB h t)).toNat → h.Class.getD Q (-1) = classInB h t → inB 0 2 (classInB h t) = true → ∀ j < (strideOf (classInB h t)).toNat, (putAt h.Bytes a ds).getD (gpos Q J (classInB h t) + j) 0 = h.Bytes.getD (gpos Q J (classInB h t) + j) 0 := by
  intro Q J et hJ4 hJ hc' hcl' j hj
  obtain ⟨i1, i2⟩ := gpos_in (P := P) hcl hI
  have hl : a + ds.length ≤ h.Bytes.length := by rw [sh.bl]; omega
  have hn : ¬ (P = Q ∧ I = J) := fun ⟨e1, e2⟩ => hst (by rw [et, es, e1, e2])
  have := room_apart hcl hcl' hI hJ hc hc' hn
  exact getD_putOut hl (by omega)
theorem put_gen_other {h : Heap} {s t : Int} {a : Nat} {ds : List Int} {P I : Nat} (sh : Shape h) (k : ¬ classInB h s < 0) (hst : t ≠ s) (es : s = ((P * 4 + I : Nat) : Int)) (hI4 : I < 4) (hP : P < 6) (hI : I < (perPage (classInB h s)).toNat) (hc : h.Class.getD P (-1) = classInB h s) (hcl : inB 0 2 (classInB h s) = true)
    (h1 : gpos P I (classInB h s) ≤ a) (h2 : a + ds.length ≤ gpos P I (classInB h s) + (strideOf (classInB h s)).toNat) : genInB { h with Bytes := putAt h.Bytes a ds } t = genInB h t := by
  by_cases kt : classInB h t < 0
  · have kt' : classInB { h with Bytes := putAt h.Bytes a ds } t < 0 := kt
    unfold genInB
    rw [if_pos kt, if_pos kt']
  · obtain ⟨Q, J, hQ, hJ4, et, hclt, hJ, hct, e, _⟩ := slot_place kt
    have ho := put_other sh k kt hst es hI4 hP hI hc hcl h1 h2 Q J et hJ4 hJ hct hclt
    have h4 := stride_ge hclt
    rw [gen_load (h := { h with Bytes := putAt h.Bytes a ds }) (P := Q) (I := J) kt e, gen_load kt e]
    exact loadTo_same 4 (fun j hj => ho j (by omega))
end Go.Proofs.YtkmggglljkmjoaaGreat

/-
  Memories: what is kept: plain facts (lists).
-/
namespace Go.Proofs.YtkmggglljkmjoaaGreat
open Go.RowKit
/-- A right memory, in words. -/
structure MemP (m : Mem) : Prop where
  heap : heapOkB m.Heap = true
  gl : m.Lists.Global.length = 3
  ow : m.Lists.Own.length = 9
  short : ∀ l ∈ m.Lists.Own, l.length ≤ 2
  rng : ∀ s ∈ allL m.Lists, inB 0 23 s = true
  nd : (allL m.Lists).Nodup
  fg : ∀ (c : Nat) (l : List Int) (s : Int), m.Lists.Global[c]? = some l → s ∈ l → fitsB m.Heap (c : Int) s = true
  fo : ∀ (k : Nat) (l : List Int) (s : Int), m.Lists.Own[k]? = some l → s ∈ l → fitsB m.Heap ((k % 3 : Nat) : Int) s = true
theorem memP_of {m : Mem} (k : memOkB m = true) : MemP m := by
  have hl := mem_lists k
  unfold listsOkB seenOk at hl
  simp only [Bool.and_eq_true, beq_iff_eq, decide_eq_true_eq] at hl
  obtain ⟨⟨⟨h1, h2⟩, h3⟩, h4, h5⟩ := hl
  refine ⟨mem_heap k, h1, h2, fun l hl => ?_, fun s hs => List.all_eq_true.1 h4 s hs, h5, fun c l s hr hs => ?_, fun q l s hr hs => ?_⟩
  · have := List.all_eq_true.1 h3 l hl
    simpa [shortB] using this
  · exact global_fits k (by have := (List.getElem?_eq_some_iff.1 hr).1; omega) hr hs
  · exact own_fits k (by have := (List.getElem?_eq_some_iff.1 hr).1; omega) hr hs
theorem memP_ok {m : Mem} (p : MemP m) : memOkB m = true := by
  unfold memOkB listsOkB seenOk
  simp only [Bool.and_eq_true, beq_iff_eq, decide_eq_true_eq]
  refine ⟨⟨⟨p.heap, ⟨⟨p.gl, p.ow⟩, ?_⟩, ?_, p.nd⟩, ?_⟩, ?_⟩
  · exact List.all_eq_true.2 fun l hl => by simpa [shortB] using p.short l hl
  · exact List.all_eq_true.2 p.rng
  · refine List.all_eq_true.2 fun c hc => List.all_eq_true.2 fun s hs => ?_
    have hc3 := List.mem_range.1 hc
    have hr : m.Lists.Global[c]? = some (m.Lists.Global[c]'(by rw [p.gl]; exact hc3)) := List.getElem?_eq_getElem _
    rw [List.getD_eq_getElem?_getD, hr] at hs
    exact p.fg c _ s hr hs
  · refine List.all_eq_true.2 fun k hk => List.all_eq_true.2 fun s hs => ?_
    have hk9 := List.mem_range.1 hk
    have hr : m.Lists.Own[k]? = some (m.Lists.Own[k]'(by rw [p.ow]; exact hk9)) := List.getElem?_eq_getElem _
    rw [List.getD_eq_getElem?_getD, hr] at hs
    exact p.fo k _ s hr hs
theorem onL_not {x : Lists} {s : Int} : onListB x s = false ↔ s ∉ allL x := by
  rw [onListB_all, any_eq_mem, decide_eq_false_iff_not]
theorem listed_fits {m : Mem} (p : MemP m) {s : Int} (h : s ∈ allL m.Lists) : ∃ c : Nat, c < 3 ∧ fitsB m.Heap (c : Int) s = true := by
  unfold allL at h
  rcases List.mem_append.1 h with h | h
  · obtain ⟨l, hl, hs⟩ := List.mem_flatten.1 h
    obtain ⟨c, hc⟩ := List.mem_iff_getElem?.1 hl
    have := (List.getElem?_eq_some_iff.1 hc).1
    exact ⟨c, by rw [p.gl] at this; exact this, p.fg c l s hc hs⟩
  · obtain ⟨l, hl, hs⟩ := List.mem_flatten.1 h
    obtain ⟨k, hk⟩ := List.mem_iff_getElem?.1 hl
    exact ⟨k % 3, by omega, p.fo k l s hk hs⟩
theorem fits_parts {h : Heap} {c s : Int} : fitsB h c s = true ↔ classInB h s = c ∧ genInB h s ≤ 6 := by
  unfold fitsB
  simp only [Bool.and_eq_true, beq_iff_eq, decide_eq_true_eq]
/-- Another heap under the same lists. -/
theorem memP_heap {m : Mem} {h' : Heap} (p : MemP m) (ok : heapOkB h' = true) (hf : ∀ s ∈ allL m.Lists, classInB h' s = classInB m.Heap s ∧ (genInB m.Heap s ≤ 6 → genInB h' s ≤ 6)) : MemP { m with Heap := h' } := by
  refine ⟨ok, p.gl, p.ow, p.short, p.rng, p.nd, fun c l s hr hs => ?_, fun k l s hr hs => ?_⟩
  · have hm : s ∈ allL m.Lists := List.mem_append.2 (.inl (List.mem_flatten.2 ⟨l, List.mem_of_getElem? hr, hs⟩))
    obtain ⟨e1, e2⟩ := hf s hm
    have := fits_parts.1 (p.fg c l s hr hs)
    exact fits_parts.2 ⟨e1.trans this.1, e2 this.2⟩
  · have hm : s ∈ allL m.Lists := List.mem_append.2 (.inr (List.mem_flatten.2 ⟨l, List.mem_of_getElem? hr, hs⟩))
    obtain ⟨e1, e2⟩ := hf s hm
    have := fits_parts.1 (p.fo k l s hr hs)
    exact fits_parts.2 ⟨e1.trans this.1, e2 this.2⟩
theorem permSet {α : Type} {ll : List (List α)} {k : Nat} {l : List α} (r : List α) (hl : ll[k]? = some l) : (ll.set k (l ++ r)).flatten.Perm (r ++ ll.flatten) := by
  induction ll generalizing k with
  | nil => simp at hl
  | cons x xs ih =>
    cases k with
    | zero =>
      simp only [List.getElem?_cons_zero, Option.some.injEq] at hl
      subst hl
      simp only [List.set_cons_zero, List.flatten_cons]
      rw [← List.append_assoc]
      exact List.perm_append_comm.append_right _
    | succ k =>
      simp only [List.getElem?_cons_succ] at hl
      simp only [List.set_cons_succ, List.flatten_cons]
      refine ((ih hl).append_left x).trans ?_
      rw [← List.append_assoc, ← List.append_assoc]
      exact List.perm_append_comm.append_right _
theorem perm_own {x : Lists} {k : Nat} {l : List Int} (r : List Int) (hl : x.Own[k]? = some l) : (allL { x with Own := x.Own.set k (l ++ r) }).Perm (r ++ allL x) := by
  unfold allL
  simp only
  refine ((permSet r hl).append_left _).trans ?_
  rw [← List.append_assoc, ← List.append_assoc]
  exact List.perm_append_comm.append_right _
theorem perm_global {x : Lists} {k : Nat} {l : List Int} (r : List Int) (hl : x.Global[k]? = some l) : (allL { x with Global := x.Global.set k (l ++ r) }).Perm (r ++ allL x) := by
  unfold allL
  simp only
  refine ((permSet r hl).append_right _).trans ?_
  rw [List.append_assoc]
theorem set_back {α : Type} {ll : List α} {k : Nat} {a : α} (h : ll[k]? = some a) (b : α) : (ll.set k b).set k a = ll := by
  rw [List.set_set]
  apply List.ext_getElem?
  intro j
  by_cases e : k = j
  · subst e
    rw [List.getElem?_set_self (List.getElem?_eq_some_iff.1 h).1, h]
  · rw [List.getElem?_set_ne e]
theorem get_set_self {α : Type} {ll : List α} {k : Nat} {a : α} (h : ll[k]? = some a) (b : α) : (ll.set k b)[k]? = some b := List.getElem?_set_self (List.getElem?_eq_some_iff.1 h).1
theorem get_set {α : Type} {ll : List α} {k j : Nat} {b : α} {l : α} (h : (ll.set k b)[j]? = some l) : (j = k ∧ l = b) ∨ ll[j]? = some l := by
  by_cases e : k = j
  · subst e
    have hk : k < ll.length := by have := (List.getElem?_eq_some_iff.1 h).1; simpa using this
    rw [List.getElem?_set_self hk] at h
    exact .inl ⟨rfl, by cases h; rfl⟩
  · rw [List.getElem?_set_ne e] at h
    exact .inr h
/-- A slot put behind a worker's row. -/
theorem memP_own_add {m : Mem} (p : MemP m) {k : Nat} {l : List Int} {s : Int} (hl : m.Lists.Own[k]? = some l) (h2 : l.length < 2) (hs : inB 0 23 s = true) (hn : s ∉ allL m.Lists) (hf : fitsB m.Heap ((k % 3 : Nat) : Int) s = true) : MemP { m with Lists := { m.Lists with Own := m.Lists.Own.set k (l ++ [s]) } } := by
  have hp := perm_own [s] hl
  refine ⟨p.heap, p.gl, by rw [List.length_set]; exact p.ow, fun q hq => ?_, fun t ht => ?_, ?_, p.fg, fun j q t hr ht => ?_⟩
  · rcases List.mem_or_eq_of_mem_set hq with hq | rfl
    · exact p.short q hq
    · simp; omega
  · rcases List.mem_append.1 (hp.mem_iff.1 ht) with ht | ht
    · rw [List.mem_singleton.1 ht]; exact hs
    · exact p.rng t ht
  · exact hp.nodup_iff.2 (List.nodup_cons.2 ⟨hn, p.nd⟩)
  · rcases get_set hr with ⟨rfl, rfl⟩ | hr
    · rcases List.mem_append.1 ht with ht | ht
      · exact p.fo j l t hl ht
      · rw [List.mem_singleton.1 ht]; exact hf
    · exact p.fo j q t hr ht
/-- Slots put behind the row of all. -/
theorem memP_global_add {m : Mem} (p : MemP m) {k : Nat} {l r : List Int} (hl : m.Lists.Global[k]? = some l) (hs : ∀ s ∈ r, inB 0 23 s = true) (hn : (r ++ allL m.Lists).Nodup) (hf : ∀ s ∈ r, fitsB m.Heap (k : Int) s = true) : MemP { m with Lists := { m.Lists with Global := m.Lists.Global.set k (l ++ r) } } := by
  have hp := perm_global r hl
  refine ⟨p.heap, by rw [List.length_set]; exact p.gl, p.ow, p.short, fun t ht => ?_, hp.nodup_iff.2 hn, fun j q t hr ht => ?_, p.fo⟩
  · rcases List.mem_append.1 (hp.mem_iff.1 ht) with ht | ht
    · exact hs t ht
    · exact p.rng t ht
  · rcases get_set hr with ⟨rfl, rfl⟩ | hr
    · rcases List.mem_append.1 ht with ht | ht
      · exact p.fg j l t hl ht
      · exact hf t ht
    · exact p.fg j q t hr ht
theorem memP_own_pop {m : Mem} (p : MemP m) {k : Nat} {l : List Int} {s : Int} (hl : m.Lists.Own[k]? = some (l ++ [s])) : MemP { m with Lists := { m.Lists with Own := m.Lists.Own.set k l } } ∧ (∀ t, t ∈ allL m.Lists ↔ t = s ∨ t ∈ allL { m.Lists with Own := m.Lists.Own.set k l }) ∧ s ∉ allL { m.Lists with Own := m.Lists.Own.set k l } := by
  have hp := perm_own (x := { m.Lists with Own := m.Lists.Own.set k l }) [s] (get_set_self hl l)
  simp only [set_back hl] at hp
  have hnd := List.nodup_cons.1 (hp.nodup_iff.1 p.nd)
  have hm : ∀ t, t ∈ allL m.Lists ↔ t = s ∨ t ∈ allL { m.Lists with Own := m.Lists.Own.set k l } := fun t => by
    have := hp.mem_iff (a := t)
    simp only [List.cons_append, List.nil_append, List.mem_cons] at this
    exact this
  refine ⟨⟨p.heap, p.gl, by rw [List.length_set]; exact p.ow, fun q hq => ?_, fun t ht => p.rng t ((hm t).2 (.inr ht)), hnd.2, p.fg, fun j q t hr ht => ?_⟩, hm, hnd.1⟩
  · rcases List.mem_or_eq_of_mem_set hq with hq | rfl
    · exact p.short q hq
    · have := p.short _ (List.mem_of_getElem? hl)
      simp at this
      omega
  · rcases get_set hr with ⟨rfl, rfl⟩ | hr
    · exact p.fo j _ t hl (List.mem_append.2 (.inl ht))
    · exact p.fo j q t hr ht
theorem memP_global_pop {m : Mem} (p : MemP m) {k : Nat} {l : List Int} {s : Int} (hl : m.Lists.Global[k]? = some (l ++ [s])) : MemP { m with Lists := { m.Lists with Global := m.Lists.Global.set k l } } ∧ (∀ t, t ∈ allL m.Lists ↔ t = s ∨ t ∈ allL { m.Lists with Global := m.Lists.Global.set k l }) ∧ s ∉ allL { m.Lists with Global := m.Lists.Global.set k l } := by
  have hp := perm_global (x := { m.Lists with Global := m.Lists.Global.set k l }) [s] (get_set_self hl l)
  simp only [set_back hl] at hp
  have hnd := List.nodup_cons.1 (hp.nodup_iff.1 p.nd)
  have hm : ∀ t, t ∈ allL m.Lists ↔ t = s ∨ t ∈ allL { m.Lists with Global := m.Lists.Global.set k l } := fun t => by
    have := hp.mem_iff (a := t)
    simp only [List.cons_append, List.nil_append, List.mem_cons] at this
    exact this
  refine ⟨⟨p.heap, by rw [List.length_set]; exact p.gl, p.ow, p.short, fun t ht => p.rng t ((hm t).2 (.inr ht)), hnd.2, fun j q t hr ht => ?_, p.fo⟩, hm, hnd.1⟩
  rcases get_set hr with ⟨rfl, rfl⟩ | hr
  · exact p.fg j _ t hl (List.mem_append.2 (.inl ht))
  · exact p.fg j q t hr ht
theorem nodup_le {L : List Int} (h : L.Nodup) (hr : ∀ s ∈ L, inB 0 23 s = true) : L.length ≤ 24 := by
  have : L.length ≤ ((List.range 24).map fun n : Nat => (n : Int)).length := by
    refine h.length_le_of_subset fun s hs => ?_
    obtain ⟨a, b⟩ := inB_iff.1 (hr s hs)
    exact List.mem_map.2 ⟨s.toNat, List.mem_range.2 (by omega), by omega⟩
  simpa using this
theorem memP_size {m : Mem} (p : MemP m) : sizeMem m ≤ 450 := by
  have sh := shape_of (heap_parts.1 p.heap).1
  have hn := nodup_le p.nd p.rng
  unfold allL at hn
  rw [List.length_append, List.length_flatten, List.length_flatten] at hn
  unfold sizeMem sizeHeap sizeLists szLL
  rw [sh.bl, sh.cl, p.gl, p.ow]
  omega
-- what is used
theorem live_iff {m : Mem} {h : Int} : liveB m h = true ↔ handleOkB h = true ∧ ¬ classInB m.Heap (h % 32) < 0 ∧ (h % 32) ∉ allL m.Lists ∧ genInB m.Heap (h % 32) = h / 32 := by
  constructor
  · intro k
    obtain ⟨a, b, c⟩ := live_parts k
    obtain ⟨b1, b2, _⟩ := state3 b
    exact ⟨a, b1, onL_not.1 b2, c⟩
  · rintro ⟨a, b, c, d⟩
    have hb := handleOk_bd a
    unfold liveB stateB
    rw [if_neg b, onL_not.2 c, d, a]
    simp
    omega
end Go.Proofs.YtkmggglljkmjoaaGreat

/-
  Memories: what is kept: plain facts (a page granted).
-/
namespace Go.Proofs.YtkmggglljkmjoaaGreat
open Go.RowKit
/-- What stays of a memory: every carved slot but one. -/
structure Keeps (m x : Mem) (s : Int) : Prop where
  kc : ∀ t, t ≠ s → ¬ classInB m.Heap t < 0 → classInB x.Heap t = classInB m.Heap t
  kg : ∀ t, t ≠ s → ¬ classInB m.Heap t < 0 → genInB x.Heap t = genInB m.Heap t
  kl : ∀ t, t ≠ s → ¬ classInB m.Heap t < 0 → (t ∈ allL x.Lists ↔ t ∈ allL m.Lists)
  kb : ∀ t, t ≠ s → ¬ classInB m.Heap t < 0 → ∀ j < (sizeOfC (classInB m.Heap t)).toNat, x.Heap.Bytes.getD ((startAt t (classInB m.Heap t)).toNat + j) 0 = m.Heap.Bytes.getD ((startAt t (classInB m.Heap t)).toNat + j) 0
theorem Keeps.live {m x : Mem} {s h : Int} (k : Keeps m x s) (hn : h % 32 ≠ s) (hl : liveB m h = true) : liveB x h = true := by
  obtain ⟨a, b, c, d⟩ := live_iff.1 hl
  exact live_iff.2 ⟨a, by rw [k.kc _ hn b]; exact b, fun hm => c ((k.kl _ hn b).1 hm), by rw [k.kg _ hn b]; exact d⟩
theorem idxAt {l : List Int} {x : Int} {p : Nat} (h : idxOf (fun y => y == x) l = (p : Int)) : ∃ hp : p < l.length, l[p] = x := by
  unfold idxOf at h
  cases hx : l.findIdx? (fun y => y == x) with
  | none => rw [hx] at h; simp at h
  | some i =>
    rw [hx] at h
    simp at h
    obtain rfl : i = p := by omega
    obtain ⟨h1, h2, _⟩ := List.findIdx?_eq_some_iff_getElem.1 hx
    exact ⟨h1, by simpa using h2⟩
theorem idxCases (l : List Int) (x : Int) : idxOf (fun y => y == x) l = -1 ∨ ∃ p : Nat, idxOf (fun y => y == x) l = (p : Int) := by
  unfold idxOf
  cases l.findIdx? (fun y => y == x) with
  | none => exact .inl rfl
  | some i => exact .inr ⟨i, rfl⟩
-- a page granted
theorem grTo_out {b : List Int} {p : Nat} {c : Int} (hb : b.length = 384) (hp : p < 6) (hc : inB 0 2 c = true) (a : Nat) (ha : a < p * 64 ∨ p * 64 + 64 ≤ a) : ∀ k, k ≤ (perPage c).toNat → (grTo b p c k).getD a 0 = b.getD a 0
  | 0, _ => by
    unfold grTo
    exact getD_putOut (by simp; omega) (by simp; omega)
  | k + 1, hk => by
    have h1 := gens_room hc (i := k) (by omega)
    unfold grTo
    rw [getD_putOut (by rw [grTo_len hb hp hc k (by omega), digs_len]; omega) (by rw [digs_len]; omega)]
    exact grTo_out hb hp hc a ha k (by omega)
theorem grTo_head {b : List Int} {p : Nat} {c : Int} (hb : b.length = 384) (hp : p < 6) (hc : inB 0 2 c = true) (j : Nat) (hj : j < 8) : ∀ k, k ≤ (perPage c).toNat → (grTo b p c k).getD (p * 64 + j) 0 = (putAt b (p * 64) [171, c, perPage c]).getD (p * 64 + j) 0
  | 0, _ => rfl
  | k + 1, hk => by
    have h1 := gens_room hc (i := k) (by omega)
    rw [show grTo b p c (k + 1) = putAt (grTo b p c k) (p * 64 + 8 + k * (strideOf c).toNat) (digs 4 1) from rfl, getD_putOut (by rw [grTo_len hb hp hc k (by omega), digs_len]; omega) (.inl (by omega))]
    exact grTo_head hb hp hc j hj k (by omega)
theorem grTo_gen {b : List Int} {p : Nat} {c : Int} (hb : b.length = 384) (hp : p < 6) (hc : inB 0 2 c = true) : ∀ k, k ≤ (perPage c).toNat → ∀ i < k, loadTo (grTo b p c k) (gpos p i c) 4 = 1
  | 0, _, i, hi => absurd hi (by omega)
  | k + 1, hk, i, hi => by
    have h1 := gens_room hc (i := k) (by omega)
    have hlen := grTo_len hb hp hc k (by omega)
    have hl : p * 64 + 8 + k * (strideOf c).toNat + (digs 4 1).length ≤ (grTo b p c k).length := by rw [hlen, digs_len]; omega
    by_cases e : i = k
    · subst e
      refine loadTo_put 4 1 _ _ (fun j hj => ?_) (by decide) (by decide)
      exact getD_putIn hl (by rw [digs_len]; exact hj)
    · have hsep := gpos_sep (P := p) (I := i) (J := k) hc e
      have h4 := stride_ge hc
      have hk2 : gpos p k c = p * 64 + 8 + k * (strideOf c).toNat := rfl
      rw [show grTo b p c (k + 1) = putAt (grTo b p c k) (p * 64 + 8 + k * (strideOf c).toNat) (digs 4 1) from rfl, loadTo_same 4 (fun j hj => getD_putOut hl (by rw [digs_len]; omega))]
      exact grTo_gen hb hp hc k (by omega) i (by omega)
theorem getD_set_ne {α : Type} {l : List α} {i j : Nat} {v d : α} (h : i ≠ j) : (l.set i v).getD j d = l.getD j d := by
  rw [List.getD_eq_getElem?_getD, List.getD_eq_getElem?_getD, List.getElem?_set_ne h]
theorem getD_set_eq {α : Type} {l : List α} {i : Nat} {v d : α} (h : i < l.length) : (l.set i v).getD i d = v := by
  rw [List.getD_eq_getElem?_getD, List.getElem?_set_self h]
  rfl
theorem grant_shape {h : Heap} {p c : Nat} (hs : shapeB h = true) (hp : p < 6) (hc : c < 3) : shapeB (grantH h p c) = true := (grant_facts hs hp hc).1
theorem grant_page {h : Heap} {p c : Nat} (ok : heapOkB h = true) (hp : p < 6) (hc : c < 3) (hcl : h.Class.getD p (-1) = -1) : heapOkB (grantH h p c) = true := by
  obtain ⟨hs, hpg⟩ := heap_parts.1 ok
  have sh := shape_of hs
  have hci : inB 0 2 (c : Int) = true := inB_iff.2 ⟨by omega, by omega⟩
  have hpl : p < h.Class.length := by rw [sh.cl]; exact hp
  refine heap_parts.2 ⟨grant_shape hs hp hc, fun q hq => ?_⟩
  by_cases e : p = q
  · subst e
    have hz := hpg p hp
    unfold pageOkB at hz
    rw [hcl, if_pos (by decide), zeros_sub] at hz
    have ecl : (grantH h p c).Class.getD p (-1) = (c : Int) := by
      unfold grantH
      exact getD_set_eq hpl
    unfold pageOkB
    rw [ecl, if_neg (by omega)]
    have hh := fun j hj => grTo_head (b := h.Bytes) sh.bl hp hci j hj (perPage (c : Int)).toNat (Nat.le_refl _)
    have hin := fun j (hj : j < 3) => getD_putIn (b := h.Bytes) (a := p * 64) (ds := [171, (c : Int), perPage (c : Int)]) (j := j) (by rw [sh.bl]; simp; omega) (by simpa using hj)
    have hb : ∀ j, (grantH h p c).Bytes.getD j 0 = (grTo h.Bytes p c (perPage (c : Int)).toNat).getD j 0 := fun _ => rfl
    have g0 := (hh 0 (by omega)).trans (hin 0 (by omega))
    have g1 := (hh 1 (by omega)).trans (hin 1 (by omega))
    have g2 := (hh 2 (by omega)).trans (hin 2 (by omega))
    rw [Nat.add_zero] at g0
    simp only [Bool.and_eq_true]
    refine ⟨⟨⟨⟨?_, ?_⟩, ?_⟩, ?_⟩, ?_⟩
    · rw [hb, g0]; rfl
    · rw [hb, g1]; simp
    · rw [hb, g2]; simp
    · rw [zeros_sub]
      intro j hj
      rw [hb, Nat.add_assoc, hh (3 + j) (by omega), getD_putOut (by rw [sh.bl]; simp; omega) (by simp <;> omega)]
      exact hz (3 + j) (by omega)
    · unfold gensB
      refine List.all_eq_true.2 fun i hi => ?_
      have := grTo_gen (b := h.Bytes) sh.bl hp hci (perPage (c : Int)).toNat (Nat.le_refl _) i (List.mem_range.1 hi)
      show inB 1 7 (loadTo (grTo h.Bytes p c (perPage (c : Int)).toNat) (gpos p i c) 4) = true
      rw [this]
      decide
  · have ecl : (grantH h p c).Class.getD q (-1) = h.Class.getD q (-1) := by
      unfold grantH
      exact getD_set_ne e
    have ho : ∀ a, (a < p * 64 ∨ p * 64 + 64 ≤ a) → (grantH h p c).Bytes.getD a 0 = h.Bytes.getD a 0 := fun a ha => grTo_out sh.bl hp hci a ha _ (Nat.le_refl _)
    refine page_same ecl (hpg q hq) (fun _ j hj => ho _ (by omega)) (fun _ j hj => ho _ (by omega)) (fun hpos i hi hold => ?_)
    have hcl' : inB 0 2 (h.Class.getD q (-1)) = true := inB_iff.2 ⟨hpos, (sh.cs q).2⟩
    obtain ⟨j1, j2⟩ := gpos_in (P := q) hcl' hi
    have h4 := stride_ge hcl'
    rw [loadTo_same 4 (fun j hj => ho _ (by omega))]
    exact hold
theorem page_div {P I : Nat} (hI : I < 4) : (((P * 4 + I : Nat) : Int) / 4).toNat = P := by omega
/-- Every slot of the page granted: its class, its generation. -/
theorem grant_slot {h : Heap} {p c i : Nat} (hs : shapeB h = true) (hp : p < 6) (hc : c < 3) (hi : i < (perPage (c : Int)).toNat) : classInB (grantH h p c) ((p * 4 + i : Nat) : Int) = c ∧ genInB (grantH h p c) ((p * 4 + i : Nat) : Int) = 1 := by
  have sh := shape_of hs
  have hci : inB 0 2 (c : Int) = true := inB_iff.2 ⟨by omega, by omega⟩
  have hpp := perPage_bd (c : Int)
  have hca : clAt (grantH h p c) ((p * 4 + i : Nat) : Int) = c := by
    unfold clAt
    rw [page_div (by omega)]
    unfold grantH
    exact getD_set_eq (by rw [sh.cl]; exact hp)
  have hga : genAt ((p * 4 + i : Nat) : Int) (c : Int) = ((gpos p i c : Nat) : Int) := by
    have hst := (strideOf_bd (c : Int)).1
    rw [genAt_yes (inB_iff.2 ⟨by omega, by omega⟩) hci (by omega), show ((p * 4 + i : Nat) : Int) / 4 = (p : Int) by omega, show ((p * 4 + i : Nat) : Int) % 4 = (i : Int) by omega]
    unfold gpos
    simp only [Int.natCast_add, Int.natCast_mul, Int.toNat_of_nonneg hst]
    rfl
  have hcl : classInB (grantH h p c) ((p * 4 + i : Nat) : Int) = c := by
    unfold classInB
    rw [hca, if_neg (by rw [hga]; omega)]
  refine ⟨hcl, ?_⟩
  rw [gen_load (P := p) (I := i) (by rw [hcl]; omega) (by rw [hcl]; exact hga), hcl]
  exact grTo_gen sh.bl hp hci _ (Nat.le_refl _) i hi
/-- The slots of a page not granted are not carved. -/
theorem page_none {h : Heap} {p i : Nat} (hcl : h.Class.getD p (-1) = -1) (hi : i < 4) : classInB h ((p * 4 + i : Nat) : Int) < 0 := by
  unfold classInB clAt
  rw [page_div hi, hcl]
  split <;> decide
theorem grant_keeps {m : Mem} {p c : Nat} (ok : heapOkB m.Heap = true) (hp : p < 6) (hc : c < 3) (hcl : m.Heap.Class.getD p (-1) = -1) {t : Int} (kt : ¬ classInB m.Heap t < 0) : classInB (grantH m.Heap p c) t = classInB m.Heap t ∧ genInB (grantH m.Heap p c) t = genInB m.Heap t ∧ (∀ j < (sizeOfC (classInB m.Heap t)).toNat, (grantH m.Heap p c).Bytes.getD ((startAt t (classInB m.Heap t)).toNat + j) 0 = m.Heap.Bytes.getD ((startAt t (classInB m.Heap t)).toNat + j) 0) ∧ ∀ i < 4, t ≠ ((p * 4 + i : Nat) : Int) := by
  have sh := shape_of (heap_parts.1 ok).1
  have hci : inB 0 2 (c : Int) = true := inB_iff.2 ⟨by omega, by omega⟩
  obtain ⟨Q, J, hQ, hJ4, et, hclt, hJ, hct, e, est⟩ := slot_place kt
  have hne : p ≠ Q := fun e => by subst e; rw [hcl] at hct; have := (inB_iff.1 hclt).1; omega
  have ho : ∀ a, (a < p * 64 ∨ p * 64 + 64 ≤ a) → (grantH m.Heap p c).Bytes.getD a 0 = m.Heap.Bytes.getD a 0 := fun a ha => grTo_out sh.bl hp hci a ha _ (Nat.le_refl _)
  obtain ⟨j1, j2⟩ := gpos_in (P := Q) hclt hJ
  have hss := stride_size hclt
  have ecl : classInB (grantH m.Heap p c) t = classInB m.Heap t := by
    unfold classInB clAt
    rw [et, page_div hJ4, show (grantH m.Heap p c).Class.getD Q (-1) = m.Heap.Class.getD Q (-1) from getD_set_ne hne]
  refine ⟨ecl, ?_, fun j hj => ?_, fun i hi e => kt (by rw [e]; exact page_none hcl hi)⟩
  · rw [gen_load (P := Q) (I := J) (by rw [ecl]; exact kt) (by rw [ecl]; exact e), gen_load kt e, ecl]
    exact loadTo_same 4 (fun j hj => ho _ (by omega))
  · rw [est, Int.toNat_natCast]
    exact ho _ (by omega)
theorem slotsTo_mem {p k : Nat} {t : Int} : t ∈ slotsTo p k ↔ ∃ i < k, t = ((p * 4 + i : Nat) : Int) := by
  unfold slotsTo
  rw [List.mem_map]
  constructor
  · rintro ⟨i, hi, rfl⟩
    exact ⟨i, List.mem_range.1 hi, rfl⟩
  · rintro ⟨i, hi, rfl⟩
    exact ⟨i, List.mem_range.2 hi, rfl⟩
theorem slotsTo_nodup (p k : Nat) : (slotsTo p k).Nodup := by
  unfold slotsTo
  rw [List.nodup_iff_pairwise_ne, List.pairwise_map]
  exact (List.nodup_iff_pairwise_ne.1 List.nodup_range).imp fun h e => h (by omega)
theorem slotsTo_cons {p k : Nat} (hk : 0 < k) : slotsTo p k = ((p * 4 : Nat) : Int) :: (slotsTo p k).drop 1 := by
  obtain ⟨q, rfl⟩ : ∃ q, k = q + 1 := ⟨k - 1, by omega⟩
  unfold slotsTo
  rw [List.range_succ_eq_map]
  simp
end Go.Proofs.YtkmggglljkmjoaaGreat

/-
  Grant: the reference.
-/
namespace Go.Proofs.YtkmggglljkmjoaaGreat
open Go.RowKit
set_option maxRecDepth 100000 in
set_option maxHeartbeats 4000000 in
theorem l7Grant_no0 (w : World) (H : HHeap) (x : Heap) (c : Nat) (h : RdHeap w w.heap.size H x) (hs : shapeB x = true) (hp : idxOf (fun y => y == -1) x.Class = -1) :
    Calls Tryz.prog 165 #[.agg #[.slice H.Bytes.a H.Bytes.len H.Bytes.cap, .slice H.Class.a H.Class.len H.Class.cap], .int .i64 c] w fun e w' => ∃ v : SV, e = .returned (.tuple #[.agg #[.slice H.Bytes.a H.Bytes.len H.Bytes.cap, .slice H.Class.a H.Class.len H.Class.cap], .slice v.a v.len v.cap]) ∧ OwL FI 3 w' v.val [] ∧ (∀ g ∈ foot1 v.val, w.heap.size ≤ g) ∧ Below w.heap.size w w' := by
  obtain ⟨⟨A1, n1, c1⟩, ⟨A2, n2, c2⟩⟩ := H
  have hr2 : RdL FI w w.heap.size (.slice A2 n2 c2) x.Class := h.Class
  have hcl := (shape_of hs).cl
  have HN := Hid.mk_ (fun k (hk : k < x.Class.length) => idx_none hp hk)
  clear h hs hp
  have B_a : Box ((w.alloc (.cells #[.slice A1 n1 c1, .slice A2 n2 c2] 26)).alloc (.cells #[.slice none 0 0, .slice none 0 0] 26)) (w.heap.size) [.slice A1 n1 c1, .slice A2 n2 c2] := by
    have hbx := Box.new w #[.slice A1 n1 c1, .slice A2 n2 c2] 26
    exact (hbx).alloc _
  have B_r : Box ((w.alloc (.cells #[.slice A1 n1 c1, .slice A2 n2 c2] 26)).alloc (.cells #[.slice none 0 0, .slice none 0 0] 26)) (w.heap.size + 1) [.slice none 0 0, .slice none 0 0] := by
    have hbx := Box.new (w.alloc (.cells #[.slice A1 n1 c1, .slice A2 n2 c2] 26)) #[.slice none 0 0, .slice none 0 0] 26
    simp only [World.size_alloc] at hbx
    exact hbx
  have hB : Below w.heap.size w ((w.alloc (.cells #[.slice A1 n1 c1, .slice A2 n2 c2] 26)).alloc (.cells #[.slice none 0 0, .slice none 0 0] 26)) := by repeat (first | exact Below.refl _ _ | refine Below.alloc ?_ (by simp <;> omega) _ | refine below_grow_of ?_ (by simp <;> omega) _ _ | refine Below.drew ?_ | refine below_drewN ?_ _)
  go_enter Tryz.func165, Tryz.ntmps165
  go_wp2_with fail
  generalize hW0 : ((w.alloc (.cells #[.slice A1 n1 c1, .slice A2 n2 c2] 26)).alloc (.cells #[.slice none 0 0, .slice none 0 0] 26)) = w0 at B_a B_r hB ⊢
  clear hW0
  have zz_a := B_a.lt
  have zz_r := B_r.lt
  have q_a_0 := B_a.cell 0 _ rfl
  have q_a_1 := B_a.cell 1 _ rfl
  have fr_a := B_a.fro
  have z_a := B_a.lt
  have q_r_0 := B_r.cell 0 _ rfl
  have q_r_1 := B_r.cell 1 _ rfl
  have fr_r := B_r.fro
  have z_r := B_r.lt
  replace q_a_0 := B_a.cell 0 _ rfl
  replace q_a_1 := B_a.cell 1 _ rfl
  replace fr_a := B_a.fro
  replace z_a := B_a.lt
  replace q_r_0 := B_r.cell 0 _ rfl
  replace q_r_1 := B_r.cell 1 _ rfl
  replace fr_r := B_r.fro
  replace z_r := B_r.lt
  go_loop [6] (fun i => ∃ k : Nat, k ≤ 6 ∧ i = .int .i64 k) (fun i => 6 - (intOf i).toNat)
  case atStart => exact ⟨0, by omega, rfl⟩
  case round =>
    obtain ⟨k, hk, rfl⟩ := hrel
    by_cases hlt : k < 6
    · have hkl : k < x.Class.length := by omega
      obtain ⟨g, off, cap2, he, hg, _, _, hc⟩ := (rd_up hr2 hB).at_ (List.getElem?_eq_getElem hkl)
      injection he with e1 e2 e3
      subst e1 e2 e3
      have p0 : w0.cell? ⟨g, off + k, none⟩ = some (.int .i64 x.Class[k]) := by simpa [FI] using hc 0 _ rfl
      have hne := HN.out k hkl
      clear hc hr2
      have hkl2 : (k : Int) < (x.Class.length : Int) := by omega
      generalize x.Class[k] = y at p0 hne
      go_wp2_with fail
      go_round
      · exact ⟨k + 1, by omega, by go_num⟩
      · simp [intOf]; omega
    · obtain rfl : k = 6 := by omega
      go_wp2_with fail
      have hbx := ((B_r.set 0 (.slice A1 n1 c1)).set 1 (.slice A2 n2 c2)).alloc (.cells #[] 3)
      have qx0 := hbx.cell 0 _ rfl
      have qx1 := hbx.cell 1 _ rfl
      refine bodyPost_ret (v := .tuple #[.agg #[.slice A1 n1 c1, .slice A2 n2 c2], .slice (some ⟨w0.heap.size, 0, none⟩) 0 0]) (by simp [results, Tryz.results165, go_sem, qx0, qx1]) rfl ⟨⟨some ⟨w0.heap.size, 0, none⟩, 0, 0⟩, rfl, by have a := OwL.lit FI [] #[] rfl (by simp [maxLen]) ((w0.setCell ⟨w.heap.size + 1, 0, none⟩ (.slice A1 n1 c1)).setCell ⟨w.heap.size + 1, 1, none⟩ (.slice A2 n2 c2)) 3; show OwL FI 3 _ (.slice (some ⟨w0.heap.size, 0, none⟩) 0 0) []; simpa using a, fun g hg => by have a := mem_foot1.1 hg; have b := hB.size; simp [SV.val, Value.ownBlock] at a; omega, Below.trans hB (by repeat (first | with_reducible exact Below.refl _ _ | with_reducible refine Below.setCell ?_ (by simp <;> omega) _ | with_reducible refine Below.alloc ?_ (by simp <;> omega) _ | with_reducible refine Below.drew ?_))⟩


set_option maxRecDepth 100000 in
set_option maxHeartbeats 4000000 in
theorem Grant_spec (w : World) (H : HHeap) (x : Heap) (c : Nat) (h : RdHeap w w.heap.size H x) (hs : sizeHeap x ≤ 536870912) (hc : c < 3) :
    Calls Tryz.prog 223 #[.agg #[.slice H.Bytes.a H.Bytes.len H.Bytes.cap, .slice H.Class.a H.Class.len H.Class.cap], .int .i64 c] w fun e w' => ∃ (H' : HHeap) (y : Heap) (v : SV) (l : List Int), e = .returned (.tuple #[.agg #[.slice H'.Bytes.a H'.Bytes.len H'.Bytes.cap, .slice H'.Class.a H'.Class.len H'.Class.cap], .slice v.a v.len v.cap]) ∧ OwHeap w' H' y ∧ (y.Bytes.length = x.Bytes.length ∧ y.Class.length = x.Class.length) ∧ OwL FI 3 w' v.val l ∧ l.length ≤ 4 ∧ (∀ g ∈ H'.foot, w.heap.size ≤ g) ∧ (∀ g ∈ foot1 v.val, w.heap.size ≤ g) ∧ Below w.heap.size w w' := by
  have hcp := fun (W : World) (hW : Below w.heap.size w W) => l7Copy_spec W H x (rdHeap_up h hW) (by omega)
  have hho := fun (W : World) (hW : Below w.heap.size w W) => HeapOk_spec W H x (rdHeap_up h hW)
  have hiw : inB 0 2 (c : Int) = true := inB_iff.2 ⟨by omega, by omega⟩
  by_cases c1 : heapOkB x = true
  case neg =>
    have c1' := (Bool.not_eq_true _).mp c1
    rw [c1'] at hho
    clear c1 c1'
    have B_a : Box ((w.alloc (.cells #[.slice H.Bytes.a H.Bytes.len H.Bytes.cap, .slice H.Class.a H.Class.len H.Class.cap] 26)).alloc (.cells #[.slice none 0 0, .slice none 0 0] 26)) (w.heap.size) [.slice H.Bytes.a H.Bytes.len H.Bytes.cap, .slice H.Class.a H.Class.len H.Class.cap] := by
      have hbx := Box.new w #[.slice H.Bytes.a H.Bytes.len H.Bytes.cap, .slice H.Class.a H.Class.len H.Class.cap] 26
      exact (hbx).alloc _
    have B_r : Box ((w.alloc (.cells #[.slice H.Bytes.a H.Bytes.len H.Bytes.cap, .slice H.Class.a H.Class.len H.Class.cap] 26)).alloc (.cells #[.slice none 0 0, .slice none 0 0] 26)) (w.heap.size + 1) [.slice none 0 0, .slice none 0 0] := by
      have hbx := Box.new (w.alloc (.cells #[.slice H.Bytes.a H.Bytes.len H.Bytes.cap, .slice H.Class.a H.Class.len H.Class.cap] 26)) #[.slice none 0 0, .slice none 0 0] 26
      simp only [World.size_alloc] at hbx
      exact hbx
    have hB : Below w.heap.size w ((w.alloc (.cells #[.slice H.Bytes.a H.Bytes.len H.Bytes.cap, .slice H.Class.a H.Class.len H.Class.cap] 26)).alloc (.cells #[.slice none 0 0, .slice none 0 0] 26)) := by repeat (first | exact Below.refl _ _ | refine Below.alloc ?_ (by simp <;> omega) _ | refine below_grow_of ?_ (by simp <;> omega) _ _ | refine Below.drew ?_ | refine below_drewN ?_ _)
    go_enter Tryz.func223, Tryz.ntmps223
    go_wp2_with fail
    generalize hW0 : ((w.alloc (.cells #[.slice H.Bytes.a H.Bytes.len H.Bytes.cap, .slice H.Class.a H.Class.len H.Class.cap] 26)).alloc (.cells #[.slice none 0 0, .slice none 0 0] 26)) = w0 at B_a B_r hB ⊢
    clear hW0
    have zz_a := B_a.lt
    have zz_r := B_r.lt
    have q_a_0 := B_a.cell 0 _ rfl
    have q_a_1 := B_a.cell 1 _ rfl
    have fr_a := B_a.fro
    have z_a := B_a.lt
    have q_r_0 := B_r.cell 0 _ rfl
    have q_r_1 := B_r.cell 1 _ rfl
    have fr_r := B_r.fro
    have z_r := B_r.lt
    refine (hcp _ hB).mono ?_
    rintro e w1 ⟨K_c, rfl, o_c, l_c, hb⟩
    have u_c := o_c.lt
    replace B_a := B_a.below hb
    replace B_r := B_r.below hb
    replace hB := hB.trans (hb.mono hB.size)
    have sz := hb.size
    clear hb
    replace q_a_0 := B_a.cell 0 _ rfl
    replace q_a_1 := B_a.cell 1 _ rfl
    replace fr_a := B_a.fro
    replace z_a := B_a.lt
    replace q_r_0 := B_r.cell 0 _ rfl
    replace q_r_1 := B_r.cell 1 _ rfl
    replace fr_r := B_r.fro
    replace z_r := B_r.lt
    clear hcp
    go_wp2_with fail
    replace B_a := B_a.alloc (.cells #[.slice K_c.Bytes.a K_c.Bytes.len K_c.Bytes.cap, .slice K_c.Class.a K_c.Class.len K_c.Class.cap] 26)
    replace B_r := B_r.alloc (.cells #[.slice K_c.Bytes.a K_c.Bytes.len K_c.Bytes.cap, .slice K_c.Class.a K_c.Class.len K_c.Class.cap] 26)
    replace o_c := o_c.alloc_ (.cells #[.slice K_c.Bytes.a K_c.Bytes.len K_c.Bytes.cap, .slice K_c.Class.a K_c.Class.len K_c.Class.cap] 26)
    replace hB := hB.alloc hB.size (.cells #[.slice K_c.Bytes.a K_c.Bytes.len K_c.Bytes.cap, .slice K_c.Class.a K_c.Class.len K_c.Class.cap] 26)
    have B_o : Box (w1.alloc (.cells #[.slice K_c.Bytes.a K_c.Bytes.len K_c.Bytes.cap, .slice K_c.Class.a K_c.Class.len K_c.Class.cap] 26)) w1.heap.size [.slice K_c.Bytes.a K_c.Bytes.len K_c.Bytes.cap, .slice K_c.Class.a K_c.Class.len K_c.Class.cap] := Box.new w1 #[.slice K_c.Bytes.a K_c.Bytes.len K_c.Bytes.cap, .slice K_c.Class.a K_c.Class.len K_c.Class.cap] 26
    have zz_o := B_o.lt
    have sz : w1.heap.size ≤ (w1.alloc (.cells #[.slice K_c.Bytes.a K_c.Bytes.len K_c.Bytes.cap, .slice K_c.Class.a K_c.Class.len K_c.Class.cap] 26)).heap.size := Nat.le_of_lt B_o.lt
    generalize hG : (w1.alloc (.cells #[.slice K_c.Bytes.a K_c.Bytes.len K_c.Bytes.cap, .slice K_c.Class.a K_c.Class.len K_c.Class.cap] 26)) = w2 at B_a B_r o_c hB B_o zz_o sz ⊢
    clear hG
    replace q_a_0 := B_a.cell 0 _ rfl
    replace q_a_1 := B_a.cell 1 _ rfl
    replace fr_a := B_a.fro
    replace z_a := B_a.lt
    replace q_r_0 := B_r.cell 0 _ rfl
    replace q_r_1 := B_r.cell 1 _ rfl
    replace fr_r := B_r.fro
    replace z_r := B_r.lt
    have q_o_0 := B_o.cell 0 _ rfl
    have q_o_1 := B_o.cell 1 _ rfl
    have fr_o := B_o.fro
    have z_o := B_o.lt
    refine (hho _ hB).mono ?_
    rintro e w3 ⟨rfl, hb⟩
    replace B_a := B_a.below hb
    replace B_r := B_r.below hb
    replace B_o := B_o.below hb
    have o_c := o_c.step0 hb
    replace hB := hB.trans (hb.mono hB.size)
    have sz := hb.size
    clear hb
    replace q_a_0 := B_a.cell 0 _ rfl
    replace q_a_1 := B_a.cell 1 _ rfl
    replace fr_a := B_a.fro
    replace z_a := B_a.lt
    replace q_r_0 := B_r.cell 0 _ rfl
    replace q_r_1 := B_r.cell 1 _ rfl
    replace fr_r := B_r.fro
    replace z_r := B_r.lt
    replace q_o_0 := B_o.cell 0 _ rfl
    replace q_o_1 := B_o.cell 1 _ rfl
    replace fr_o := B_o.fro
    replace z_o := B_o.lt
    clear hho
    have hbx := ((B_r.set 0 (.slice K_c.Bytes.a K_c.Bytes.len K_c.Bytes.cap)).set 1 (.slice K_c.Class.a K_c.Class.len K_c.Class.cap)).alloc (.cells #[] 3)
    have qx0 := hbx.cell 0 _ rfl
    have qx1 := hbx.cell 1 _ rfl
    have o_l : OwL FI 3 (((w3.setCell ⟨w.heap.size + 1, 0, none⟩ (.slice K_c.Bytes.a K_c.Bytes.len K_c.Bytes.cap)).setCell ⟨w.heap.size + 1, 1, none⟩ (.slice K_c.Class.a K_c.Class.len K_c.Class.cap)).alloc (.cells #[] 3)) (.slice (some ⟨w3.heap.size, 0, none⟩) 0 0) [] := by have a := OwL.lit FI [] #[] rfl (by simp [maxLen]) ((w3.setCell ⟨w.heap.size + 1, 0, none⟩ (.slice K_c.Bytes.a K_c.Bytes.len K_c.Bytes.cap)).setCell ⟨w.heap.size + 1, 1, none⟩ (.slice K_c.Class.a K_c.Class.len K_c.Class.cap)) 3; simpa using a
    go_wp2_with fail
    refine bodyPost_ret (v := .tuple #[.agg #[.slice K_c.Bytes.a K_c.Bytes.len K_c.Bytes.cap, .slice K_c.Class.a K_c.Class.len K_c.Class.cap], .slice (some ⟨w3.heap.size, 0, none⟩) 0 0]) (by simp [results, Tryz.results223, go_sem, qx0, qx1]) rfl ⟨K_c, x, ⟨some ⟨w3.heap.size, 0, none⟩, 0, 0⟩, [], rfl, o_c.chg (F := [w.heap.size + 1]) (by repeat (first | with_reducible exact Chg.refl _ _ | with_reducible refine Chg.set_ ?_ (by simp) _ | with_reducible refine Chg.alloc_ ?_ _ | with_reducible refine Chg.drew_ ?_)) (fun g hg hm => by simp only [List.mem_cons, List.not_mem_nil, or_false] at hm; have := l_c g hg; have := u_c g hg; omega), ⟨rfl, rfl⟩, o_l, Nat.zero_le _, fun g hg => by have := l_c g hg; omega, fun g hg => by have a := mem_foot1.1 hg; have b := hB.size; simp [SV.val, Value.ownBlock] at a; omega, Below.trans hB (by repeat (first | with_reducible exact Below.refl _ _ | with_reducible refine Below.setCell ?_ (by simp <;> omega) _ | with_reducible refine Below.alloc ?_ (by simp <;> omega) _ | with_reducible refine Below.drew ?_))⟩
  rw [c1] at hho
  have hsh := heap_shape c1
  rcases idxCases x.Class (-1) with hp | ⟨p, hp⟩
  · have hgr := fun (W : World) (K : HHeap) (hK : RdHeap W W.heap.size K x) => l7Grant_no0 W K x c hK hsh hp
    clear hsh hp c1
    have B_a : Box ((w.alloc (.cells #[.slice H.Bytes.a H.Bytes.len H.Bytes.cap, .slice H.Class.a H.Class.len H.Class.cap] 26)).alloc (.cells #[.slice none 0 0, .slice none 0 0] 26)) (w.heap.size) [.slice H.Bytes.a H.Bytes.len H.Bytes.cap, .slice H.Class.a H.Class.len H.Class.cap] := by
      have hbx := Box.new w #[.slice H.Bytes.a H.Bytes.len H.Bytes.cap, .slice H.Class.a H.Class.len H.Class.cap] 26
      exact (hbx).alloc _
    have B_r : Box ((w.alloc (.cells #[.slice H.Bytes.a H.Bytes.len H.Bytes.cap, .slice H.Class.a H.Class.len H.Class.cap] 26)).alloc (.cells #[.slice none 0 0, .slice none 0 0] 26)) (w.heap.size + 1) [.slice none 0 0, .slice none 0 0] := by
      have hbx := Box.new (w.alloc (.cells #[.slice H.Bytes.a H.Bytes.len H.Bytes.cap, .slice H.Class.a H.Class.len H.Class.cap] 26)) #[.slice none 0 0, .slice none 0 0] 26
      simp only [World.size_alloc] at hbx
      exact hbx
    have hB : Below w.heap.size w ((w.alloc (.cells #[.slice H.Bytes.a H.Bytes.len H.Bytes.cap, .slice H.Class.a H.Class.len H.Class.cap] 26)).alloc (.cells #[.slice none 0 0, .slice none 0 0] 26)) := by repeat (first | exact Below.refl _ _ | refine Below.alloc ?_ (by simp <;> omega) _ | refine below_grow_of ?_ (by simp <;> omega) _ _ | refine Below.drew ?_ | refine below_drewN ?_ _)
    go_enter Tryz.func223, Tryz.ntmps223
    go_wp2_with fail
    generalize hW0 : ((w.alloc (.cells #[.slice H.Bytes.a H.Bytes.len H.Bytes.cap, .slice H.Class.a H.Class.len H.Class.cap] 26)).alloc (.cells #[.slice none 0 0, .slice none 0 0] 26)) = w0 at B_a B_r hB ⊢
    clear hW0
    have zz_a := B_a.lt
    have zz_r := B_r.lt
    have q_a_0 := B_a.cell 0 _ rfl
    have q_a_1 := B_a.cell 1 _ rfl
    have fr_a := B_a.fro
    have z_a := B_a.lt
    have q_r_0 := B_r.cell 0 _ rfl
    have q_r_1 := B_r.cell 1 _ rfl
    have fr_r := B_r.fro
    have z_r := B_r.lt
    refine (hcp _ hB).mono ?_
    rintro e w1 ⟨K_c, rfl, o_c, l_c, hb⟩
    have u_c := o_c.lt
    replace B_a := B_a.below hb
    replace B_r := B_r.below hb
    replace hB := hB.trans (hb.mono hB.size)
    have sz := hb.size
    clear hb
    replace q_a_0 := B_a.cell 0 _ rfl
    replace q_a_1 := B_a.cell 1 _ rfl
    replace fr_a := B_a.fro
    replace z_a := B_a.lt
    replace q_r_0 := B_r.cell 0 _ rfl
    replace q_r_1 := B_r.cell 1 _ rfl
    replace fr_r := B_r.fro
    replace z_r := B_r.lt
    clear hcp
    go_wp2_with fail
    replace B_a := B_a.alloc (.cells #[.slice K_c.Bytes.a K_c.Bytes.len K_c.Bytes.cap, .slice K_c.Class.a K_c.Class.len K_c.Class.cap] 26)
    replace B_r := B_r.alloc (.cells #[.slice K_c.Bytes.a K_c.Bytes.len K_c.Bytes.cap, .slice K_c.Class.a K_c.Class.len K_c.Class.cap] 26)
    replace o_c := o_c.alloc_ (.cells #[.slice K_c.Bytes.a K_c.Bytes.len K_c.Bytes.cap, .slice K_c.Class.a K_c.Class.len K_c.Class.cap] 26)
    replace hB := hB.alloc hB.size (.cells #[.slice K_c.Bytes.a K_c.Bytes.len K_c.Bytes.cap, .slice K_c.Class.a K_c.Class.len K_c.Class.cap] 26)
    have B_o : Box (w1.alloc (.cells #[.slice K_c.Bytes.a K_c.Bytes.len K_c.Bytes.cap, .slice K_c.Class.a K_c.Class.len K_c.Class.cap] 26)) w1.heap.size [.slice K_c.Bytes.a K_c.Bytes.len K_c.Bytes.cap, .slice K_c.Class.a K_c.Class.len K_c.Class.cap] := Box.new w1 #[.slice K_c.Bytes.a K_c.Bytes.len K_c.Bytes.cap, .slice K_c.Class.a K_c.Class.len K_c.Class.cap] 26
    have zz_o := B_o.lt
    have sz : w1.heap.size ≤ (w1.alloc (.cells #[.slice K_c.Bytes.a K_c.Bytes.len K_c.Bytes.cap, .slice K_c.Class.a K_c.Class.len K_c.Class.cap] 26)).heap.size := Nat.le_of_lt B_o.lt
    generalize hG : (w1.alloc (.cells #[.slice K_c.Bytes.a K_c.Bytes.len K_c.Bytes.cap, .slice K_c.Class.a K_c.Class.len K_c.Class.cap] 26)) = w2 at B_a B_r o_c hB B_o zz_o sz ⊢
    clear hG
    replace q_a_0 := B_a.cell 0 _ rfl
    replace q_a_1 := B_a.cell 1 _ rfl
    replace fr_a := B_a.fro
    replace z_a := B_a.lt
    replace q_r_0 := B_r.cell 0 _ rfl
    replace q_r_1 := B_r.cell 1 _ rfl
    replace fr_r := B_r.fro
    replace z_r := B_r.lt
    have q_o_0 := B_o.cell 0 _ rfl
    have q_o_1 := B_o.cell 1 _ rfl
    have fr_o := B_o.fro
    have z_o := B_o.lt
    refine (hho _ hB).mono ?_
    rintro e w3 ⟨rfl, hb⟩
    replace B_a := B_a.below hb
    replace B_r := B_r.below hb
    replace B_o := B_o.below hb
    have o_c := o_c.step0 hb
    replace hB := hB.trans (hb.mono hB.size)
    have sz := hb.size
    clear hb
    replace q_a_0 := B_a.cell 0 _ rfl
    replace q_a_1 := B_a.cell 1 _ rfl
    replace fr_a := B_a.fro
    replace z_a := B_a.lt
    replace q_r_0 := B_r.cell 0 _ rfl
    replace q_r_1 := B_r.cell 1 _ rfl
    replace fr_r := B_r.fro
    replace z_r := B_r.lt
    replace q_o_0 := B_o.cell 0 _ rfl
    replace q_o_1 := B_o.cell 1 _ rfl
    replace fr_o := B_o.fro
    replace z_o := B_o.lt
    clear hho
    go_wp2_with (go_at_call 102; refine (l1In_ct _ _ _ _).mono ?_; rw [hiw]; rintro e wv ⟨rfl, rfl⟩)
    refine (hgr _ K_c o_c.rd').mono ?_
    rintro e w4 ⟨v_l, rfl, o_l, l_l, hb⟩
    have u_l := foot_lt o_l
    replace B_a := B_a.below hb
    replace B_r := B_r.below hb
    replace B_o := B_o.below hb
    replace o_c := o_c.step0 hb
    replace hB := hB.trans (hb.mono hB.size)
    have sz := hb.size
    clear hb
    replace q_a_0 := B_a.cell 0 _ rfl
    replace q_a_1 := B_a.cell 1 _ rfl
    replace fr_a := B_a.fro
    replace z_a := B_a.lt
    replace q_r_0 := B_r.cell 0 _ rfl
    replace q_r_1 := B_r.cell 1 _ rfl
    replace fr_r := B_r.fro
    replace z_r := B_r.lt
    replace q_o_0 := B_o.cell 0 _ rfl
    replace q_o_1 := B_o.cell 1 _ rfl
    replace fr_o := B_o.fro
    replace z_o := B_o.lt
    clear hgr
    have hbx := ((B_r.set 0 (.slice K_c.Bytes.a K_c.Bytes.len K_c.Bytes.cap)).set 1 (.slice K_c.Class.a K_c.Class.len K_c.Class.cap)).alloc (.cells #[.slice K_c.Bytes.a K_c.Bytes.len K_c.Bytes.cap, .slice K_c.Class.a K_c.Class.len K_c.Class.cap] 26)
    have qx0 := hbx.cell 0 _ rfl
    have qx1 := hbx.cell 1 _ rfl
    go_wp2_with fail
    refine bodyPost_ret (v := .tuple #[.agg #[.slice K_c.Bytes.a K_c.Bytes.len K_c.Bytes.cap, .slice K_c.Class.a K_c.Class.len K_c.Class.cap], .slice v_l.a v_l.len v_l.cap]) (by simp [results, Tryz.results223, go_sem, qx0, qx1]) rfl ⟨K_c, x, v_l, [], rfl, o_c.chg (F := [w.heap.size + 1]) (by repeat (first | with_reducible exact Chg.refl _ _ | with_reducible refine Chg.set_ ?_ (by simp) _ | with_reducible refine Chg.alloc_ ?_ _ | with_reducible refine Chg.drew_ ?_)) (fun g hg hm => by simp only [List.mem_cons, List.not_mem_nil, or_false] at hm; have := l_c g hg; have := u_c g hg; omega), ⟨rfl, rfl⟩, o_l.chg (F := [w.heap.size + 1]) (by repeat (first | with_reducible exact Chg.refl _ _ | with_reducible refine Chg.set_ ?_ (by simp) _ | with_reducible refine Chg.alloc_ ?_ _ | with_reducible refine Chg.drew_ ?_)) (fun g hg hm => by simp only [List.mem_cons, List.not_mem_nil, or_false] at hm; have := l_l g hg; have := u_l g hg; omega), Nat.zero_le _, fun g hg => by have := l_c g hg; omega, fun g hg => by have := l_l g hg; omega, Below.trans hB (by repeat (first | with_reducible exact Below.refl _ _ | with_reducible refine Below.setCell ?_ (by simp <;> omega) _ | with_reducible refine Below.alloc ?_ (by simp <;> omega) _ | with_reducible refine Below.drew ?_))⟩
  · have hgr := fun (W : World) (K : HHeap) (hK : OwHeap W K x) => l7Grant_yes W K x p c hK hsh hc hp
    have HLN : Hid ((grantH x p c).Bytes.length = x.Bytes.length ∧ (grantH x p c).Class.length = x.Class.length) := by
      have hpl := (idxAt hp).1
      have sh := shape_of hsh
      have e1 := grTo_len (b := x.Bytes) (p := p) (c := (c : Int)) sh.bl (by rw [sh.cl] at hpl; exact hpl) hiw (perPage (c : Int)).toNat (Nat.le_refl _)
      exact ⟨e1.trans sh.bl.symm, List.length_set⟩
    have HSL : Hid ((slotsTo p (perPage (c : Int)).toNat).length ≤ 4) := by
      show _ ≤ 4
      rw [slotsTo_len]
      have := perPage_bd (c : Int)
      omega
    clear hsh hp c1
    generalize slotsTo p (perPage (c : Int)).toNat = l at hgr HSL
    generalize grantH x p c = y at hgr HLN
    have B_a : Box ((w.alloc (.cells #[.slice H.Bytes.a H.Bytes.len H.Bytes.cap, .slice H.Class.a H.Class.len H.Class.cap] 26)).alloc (.cells #[.slice none 0 0, .slice none 0 0] 26)) (w.heap.size) [.slice H.Bytes.a H.Bytes.len H.Bytes.cap, .slice H.Class.a H.Class.len H.Class.cap] := by
      have hbx := Box.new w #[.slice H.Bytes.a H.Bytes.len H.Bytes.cap, .slice H.Class.a H.Class.len H.Class.cap] 26
      exact (hbx).alloc _
    have B_r : Box ((w.alloc (.cells #[.slice H.Bytes.a H.Bytes.len H.Bytes.cap, .slice H.Class.a H.Class.len H.Class.cap] 26)).alloc (.cells #[.slice none 0 0, .slice none 0 0] 26)) (w.heap.size + 1) [.slice none 0 0, .slice none 0 0] := by
      have hbx := Box.new (w.alloc (.cells #[.slice H.Bytes.a H.Bytes.len H.Bytes.cap, .slice H.Class.a H.Class.len H.Class.cap] 26)) #[.slice none 0 0, .slice none 0 0] 26
      simp only [World.size_alloc] at hbx
      exact hbx
    have hB : Below w.heap.size w ((w.alloc (.cells #[.slice H.Bytes.a H.Bytes.len H.Bytes.cap, .slice H.Class.a H.Class.len H.Class.cap] 26)).alloc (.cells #[.slice none 0 0, .slice none 0 0] 26)) := by repeat (first | exact Below.refl _ _ | refine Below.alloc ?_ (by simp <;> omega) _ | refine below_grow_of ?_ (by simp <;> omega) _ _ | refine Below.drew ?_ | refine below_drewN ?_ _)
    go_enter Tryz.func223, Tryz.ntmps223
    go_wp2_with fail
    generalize hW0 : ((w.alloc (.cells #[.slice H.Bytes.a H.Bytes.len H.Bytes.cap, .slice H.Class.a H.Class.len H.Class.cap] 26)).alloc (.cells #[.slice none 0 0, .slice none 0 0] 26)) = w0 at B_a B_r hB ⊢
    clear hW0
    have zz_a := B_a.lt
    have zz_r := B_r.lt
    have q_a_0 := B_a.cell 0 _ rfl
    have q_a_1 := B_a.cell 1 _ rfl
    have fr_a := B_a.fro
    have z_a := B_a.lt
    have q_r_0 := B_r.cell 0 _ rfl
    have q_r_1 := B_r.cell 1 _ rfl
    have fr_r := B_r.fro
    have z_r := B_r.lt
    refine (hcp _ hB).mono ?_
    rintro e w1 ⟨K_c, rfl, o_c, l_c, hb⟩
    have u_c := o_c.lt
    replace B_a := B_a.below hb
    replace B_r := B_r.below hb
    replace hB := hB.trans (hb.mono hB.size)
    have sz := hb.size
    clear hb
    replace q_a_0 := B_a.cell 0 _ rfl
    replace q_a_1 := B_a.cell 1 _ rfl
    replace fr_a := B_a.fro
    replace z_a := B_a.lt
    replace q_r_0 := B_r.cell 0 _ rfl
    replace q_r_1 := B_r.cell 1 _ rfl
    replace fr_r := B_r.fro
    replace z_r := B_r.lt
    clear hcp
    go_wp2_with fail
    replace B_a := B_a.alloc (.cells #[.slice K_c.Bytes.a K_c.Bytes.len K_c.Bytes.cap, .slice K_c.Class.a K_c.Class.len K_c.Class.cap] 26)
    replace B_r := B_r.alloc (.cells #[.slice K_c.Bytes.a K_c.Bytes.len K_c.Bytes.cap, .slice K_c.Class.a K_c.Class.len K_c.Class.cap] 26)
    replace o_c := o_c.alloc_ (.cells #[.slice K_c.Bytes.a K_c.Bytes.len K_c.Bytes.cap, .slice K_c.Class.a K_c.Class.len K_c.Class.cap] 26)
    replace hB := hB.alloc hB.size (.cells #[.slice K_c.Bytes.a K_c.Bytes.len K_c.Bytes.cap, .slice K_c.Class.a K_c.Class.len K_c.Class.cap] 26)
    have B_o : Box (w1.alloc (.cells #[.slice K_c.Bytes.a K_c.Bytes.len K_c.Bytes.cap, .slice K_c.Class.a K_c.Class.len K_c.Class.cap] 26)) w1.heap.size [.slice K_c.Bytes.a K_c.Bytes.len K_c.Bytes.cap, .slice K_c.Class.a K_c.Class.len K_c.Class.cap] := Box.new w1 #[.slice K_c.Bytes.a K_c.Bytes.len K_c.Bytes.cap, .slice K_c.Class.a K_c.Class.len K_c.Class.cap] 26
    have zz_o := B_o.lt
    have sz : w1.heap.size ≤ (w1.alloc (.cells #[.slice K_c.Bytes.a K_c.Bytes.len K_c.Bytes.cap, .slice K_c.Class.a K_c.Class.len K_c.Class.cap] 26)).heap.size := Nat.le_of_lt B_o.lt
    generalize hG : (w1.alloc (.cells #[.slice K_c.Bytes.a K_c.Bytes.len K_c.Bytes.cap, .slice K_c.Class.a K_c.Class.len K_c.Class.cap] 26)) = w2 at B_a B_r o_c hB B_o zz_o sz ⊢
    clear hG
    replace q_a_0 := B_a.cell 0 _ rfl
    replace q_a_1 := B_a.cell 1 _ rfl
    replace fr_a := B_a.fro
    replace z_a := B_a.lt
    replace q_r_0 := B_r.cell 0 _ rfl
    replace q_r_1 := B_r.cell 1 _ rfl
    replace fr_r := B_r.fro
    replace z_r := B_r.lt
    have q_o_0 := B_o.cell 0 _ rfl
    have q_o_1 := B_o.cell 1 _ rfl
    have fr_o := B_o.fro
    have z_o := B_o.lt
    refine (hho _ hB).mono ?_
    rintro e w3 ⟨rfl, hb⟩
    replace B_a := B_a.below hb
    replace B_r := B_r.below hb
    replace B_o := B_o.below hb
    have o_c := o_c.step0 hb
    replace hB := hB.trans (hb.mono hB.size)
    have sz := hb.size
    clear hb
    replace q_a_0 := B_a.cell 0 _ rfl
    replace q_a_1 := B_a.cell 1 _ rfl
    replace fr_a := B_a.fro
    replace z_a := B_a.lt
    replace q_r_0 := B_r.cell 0 _ rfl
    replace q_r_1 := B_r.cell 1 _ rfl
    replace fr_r := B_r.fro
    replace z_r := B_r.lt
    replace q_o_0 := B_o.cell 0 _ rfl
    replace q_o_1 := B_o.cell 1 _ rfl
    replace fr_o := B_o.fro
    replace z_o := B_o.lt
    clear hho
    go_wp2_with (go_at_call 102; refine (l1In_ct _ _ _ _).mono ?_; rw [hiw]; rintro e wv ⟨rfl, rfl⟩)
    refine (hgr _ K_c o_c).mono ?_
    rintro e w4 ⟨v_l, rfl, o_n, o_l, l_l, hx⟩
    clear hgr
    replace hB := hB.trans (hx.below hB.size (fun g hm => by have := l_c g ((fun h => h) hm); omega))
    have sz := hx.size
    replace B_a := B_a.chg hx (fun hm => by have := l_c _ ((fun h => h) hm); have := u_c _ ((fun h => h) hm); omega)
    replace B_r := B_r.chg hx (fun hm => by have := l_c _ ((fun h => h) hm); have := u_c _ ((fun h => h) hm); omega)
    replace B_o := B_o.chg hx (fun hm => by have := l_c _ ((fun h => h) hm); have := u_c _ ((fun h => h) hm); omega)
    replace o_c := o_n
    clear hx
    replace q_a_0 := B_a.cell 0 _ rfl
    replace q_a_1 := B_a.cell 1 _ rfl
    replace fr_a := B_a.fro
    replace z_a := B_a.lt
    replace q_r_0 := B_r.cell 0 _ rfl
    replace q_r_1 := B_r.cell 1 _ rfl
    replace fr_r := B_r.fro
    replace z_r := B_r.lt
    replace q_o_0 := B_o.cell 0 _ rfl
    replace q_o_1 := B_o.cell 1 _ rfl
    replace fr_o := B_o.fro
    replace z_o := B_o.lt
    have u_l := foot_lt o_l
    have hbx := ((B_r.set 0 (.slice K_c.Bytes.a K_c.Bytes.len K_c.Bytes.cap)).set 1 (.slice K_c.Class.a K_c.Class.len K_c.Class.cap)).alloc (.cells #[.slice K_c.Bytes.a K_c.Bytes.len K_c.Bytes.cap, .slice K_c.Class.a K_c.Class.len K_c.Class.cap] 26)
    have qx0 := hbx.cell 0 _ rfl
    have qx1 := hbx.cell 1 _ rfl
    go_wp2_with fail
    refine bodyPost_ret (v := .tuple #[.agg #[.slice K_c.Bytes.a K_c.Bytes.len K_c.Bytes.cap, .slice K_c.Class.a K_c.Class.len K_c.Class.cap], .slice v_l.a v_l.len v_l.cap]) (by simp [results, Tryz.results223, go_sem, qx0, qx1]) rfl ⟨K_c, y, v_l, l, rfl, o_c.chg (F := [w.heap.size + 1]) (by repeat (first | with_reducible exact Chg.refl _ _ | with_reducible refine Chg.set_ ?_ (by simp) _ | with_reducible refine Chg.alloc_ ?_ _ | with_reducible refine Chg.drew_ ?_)) (fun g hg hm => by simp only [List.mem_cons, List.not_mem_nil, or_false] at hm; have := l_c g hg; have := u_c g hg; omega), HLN.out, o_l.chg (F := [w.heap.size + 1]) (by repeat (first | with_reducible exact Chg.refl _ _ | with_reducible refine Chg.set_ ?_ (by simp) _ | with_reducible refine Chg.alloc_ ?_ _ | with_reducible refine Chg.drew_ ?_)) (fun g hg hm => by simp only [List.mem_cons, List.not_mem_nil, or_false] at hm; have := l_l g hg; have := u_l g hg; omega), HSL.out, fun g hg => by have := l_c g hg; omega, fun g hg => by have := l_l g hg; omega, Below.trans hB (by repeat (first | with_reducible exact Below.refl _ _ | with_reducible refine Below.setCell ?_ (by simp <;> omega) _ | with_reducible refine Below.alloc ?_ (by simp <;> omega) _ | with_reducible refine Below.drew ?_))⟩
end Go.Proofs.YtkmggglljkmjoaaGreat

/-
  New lists: the contracts.
-/
namespace Go.Proofs.YtkmggglljkmjoaaGreat
open Go.RowKit

def newHeap : Heap := ⟨List.replicate 384 0, List.replicate 6 (-1)⟩
def newLists : Lists := ⟨List.replicate 3 [], List.replicate 9 []⟩
def newMem : Mem := ⟨newHeap, newLists⟩

set_option maxRecDepth 100000 in
set_option maxHeartbeats 1000000 in
theorem ListsNew_spec (w : World) : Calls Tryz.prog 222 #[] w fun e w' => ∃ H' : HLists, e = .returned (.agg #[.slice H'.Global.a H'.Global.len H'.Global.cap, .slice H'.Own.a H'.Own.len H'.Own.cap]) ∧ OwLists w' H' newLists ∧ (∀ g ∈ H'.foot, w.heap.size ≤ g) ∧ Below w.heap.size w w' := by
  have hm3 : ∀ w, (Instr.makeSlice 27 (.int .i64 3) (.int .i64 3)).run Tryz.prog w = .ok (.slice (some ⟨w.heap.size, 0, none⟩) 3 3) (w.alloc (.cells (madeCells #[.slice none 0 0] (3 * FS.n)) 94)) := run_make_flat (P := Tryz.prog) FS 27 94 (.agg #[.slice none 0 0]) 24 Tryz.underlying27 Tryz.infoSList 3 (by omega) (by omega)
  have hm9 : ∀ w, (Instr.makeSlice 27 (.int .i64 9) (.int .i64 9)).run Tryz.prog w = .ok (.slice (some ⟨w.heap.size, 0, none⟩) 9 9) (w.alloc (.cells (madeCells #[.slice none 0 0] (9 * FS.n)) 94)) := run_make_flat (P := Tryz.prog) FS 27 94 (.agg #[.slice none 0 0]) 24 Tryz.underlying27 Tryz.infoSList 9 (by omega) (by omega)
  have B_r : Box (w.alloc (.cells #[.slice none 0 0, .slice none 0 0] 29)) (w.heap.size) [.slice none 0 0, .slice none 0 0] := by
    have hbx := Box.new w #[.slice none 0 0, .slice none 0 0] 29
    exact hbx
  have hB : Below w.heap.size w (w.alloc (.cells #[.slice none 0 0, .slice none 0 0] 29)) := by repeat (first | exact Below.refl _ _ | refine Below.alloc ?_ (by simp <;> omega) _ | refine below_grow_of ?_ (by simp <;> omega) _ _ | refine Below.drew ?_ | refine below_drewN ?_ _)
  go_enter Tryz.func222, Tryz.ntmps222
  go_wp2_with fail
  generalize hW0 : (w.alloc (.cells #[.slice none 0 0, .slice none 0 0] 29)) = w0 at B_r hB ⊢
  clear hW0
  have zz_r := B_r.lt
  have q_r_0 := B_r.cell 0 _ rfl
  have q_r_1 := B_r.cell 1 _ rfl
  have fr_r := B_r.fro
  have z_r := B_r.lt
  go_region
  all_goals go_wp2_with fail
  · have br := (((((B_r.set 0 (.slice (some ⟨w0.heap.size, 0, none⟩) 3 3)).set 1 (.slice (some ⟨w0.heap.size + 1, 0, none⟩) 9 9)).alloc (.cells (madeCells #[.slice none 0 0] (3 * FS.n)) 94)).alloc (.cells (madeCells #[.slice none 0 0] (9 * FS.n)) 94)).drew)
    have e2 : ((w0.setCell ⟨w.heap.size, 0, none⟩ (.slice (some ⟨w0.heap.size, 0, none⟩) 3 3)).setCell ⟨w.heap.size, 1, none⟩ (.slice (some ⟨w0.heap.size + 1, 0, none⟩) 9 9)).heap.size = w0.heap.size := by simp
    have oa := OwLL.made #[.slice none 0 0] rfl 3 (by simp [maxLen]) ((w0.setCell ⟨w.heap.size, 0, none⟩ (.slice (some ⟨w0.heap.size, 0, none⟩) 3 3)).setCell ⟨w.heap.size, 1, none⟩ (.slice (some ⟨w0.heap.size + 1, 0, none⟩) 9 9)) FI 3 94
    rw [e2] at oa
    have ob := OwLL.made #[.slice none 0 0] rfl 9 (by simp [maxLen]) (((w0.setCell ⟨w.heap.size, 0, none⟩ (.slice (some ⟨w0.heap.size, 0, none⟩) 3 3)).setCell ⟨w.heap.size, 1, none⟩ (.slice (some ⟨w0.heap.size + 1, 0, none⟩) 9 9)).alloc (.cells (madeCells #[.slice none 0 0] (3 * FS.n)) 94)) FI 3 94
    rw [World.size_alloc, e2] at ob
    have la := oa.lt
    rw [World.size_alloc, e2] at la
    have fa := foot2_made w0.heap.size 3
    have fb := foot2_made (w0.heap.size + 1) 9
    have r0 := br.cell 0 _ rfl
    have r1 := br.cell 1 _ rfl
    exact bodyPost_ret (v := .agg #[.slice (some ⟨w0.heap.size, 0, none⟩) 3 3, .slice (some ⟨w0.heap.size + 1, 0, none⟩) 9 9]) (by simp [results, Tryz.results222, go_sem, r0, r1]) rfl ⟨⟨⟨some ⟨w0.heap.size, 0, none⟩, 3, 3⟩, (List.replicate 3 ⟨none, 0, 0⟩), ⟨some ⟨w0.heap.size + 1, 0, none⟩, 9, 9⟩, (List.replicate 9 ⟨none, 0, 0⟩)⟩, rfl, ⟨(oa.alloc_ (.cells (madeCells #[.slice none 0 0] (9 * FS.n)) 94)).keep (fun _ _ => rfl), ob.keep (fun _ _ => rfl), fun b hb hm => by have h1 := la b hb; have h2 := fb b hm; omega⟩, fun b hb => by rcases HLists.mem_foot.1 hb with hb | hb; (have := fa b hb; omega); (have := fb b hb; omega), Below.trans hB (by repeat (first | with_reducible exact Below.refl _ _ | with_reducible refine Below.setCell ?_ (by simp <;> omega) _ | with_reducible refine Below.alloc ?_ (by simp <;> omega) _ | with_reducible refine Below.drew ?_))⟩
  · have br := (((((B_r.set 0 (.slice (some ⟨w0.heap.size + 1, 0, none⟩) 3 3)).set 1 (.slice (some ⟨w0.heap.size, 0, none⟩) 9 9)).alloc (.cells (madeCells #[.slice none 0 0] (9 * FS.n)) 94)).alloc (.cells (madeCells #[.slice none 0 0] (3 * FS.n)) 94)).drew)
    have e2 : ((w0.setCell ⟨w.heap.size, 0, none⟩ (.slice (some ⟨w0.heap.size + 1, 0, none⟩) 3 3)).setCell ⟨w.heap.size, 1, none⟩ (.slice (some ⟨w0.heap.size, 0, none⟩) 9 9)).heap.size = w0.heap.size := by simp
    have oa := OwLL.made #[.slice none 0 0] rfl 9 (by simp [maxLen]) ((w0.setCell ⟨w.heap.size, 0, none⟩ (.slice (some ⟨w0.heap.size + 1, 0, none⟩) 3 3)).setCell ⟨w.heap.size, 1, none⟩ (.slice (some ⟨w0.heap.size, 0, none⟩) 9 9)) FI 3 94
    rw [e2] at oa
    have ob := OwLL.made #[.slice none 0 0] rfl 3 (by simp [maxLen]) (((w0.setCell ⟨w.heap.size, 0, none⟩ (.slice (some ⟨w0.heap.size + 1, 0, none⟩) 3 3)).setCell ⟨w.heap.size, 1, none⟩ (.slice (some ⟨w0.heap.size, 0, none⟩) 9 9)).alloc (.cells (madeCells #[.slice none 0 0] (9 * FS.n)) 94)) FI 3 94
    rw [World.size_alloc, e2] at ob
    have la := oa.lt
    rw [World.size_alloc, e2] at la
    have fa := foot2_made w0.heap.size 9
    have fb := foot2_made (w0.heap.size + 1) 3
    have r0 := br.cell 0 _ rfl
    have r1 := br.cell 1 _ rfl
    exact bodyPost_ret (v := .agg #[.slice (some ⟨w0.heap.size + 1, 0, none⟩) 3 3, .slice (some ⟨w0.heap.size, 0, none⟩) 9 9]) (by simp [results, Tryz.results222, go_sem, r0, r1]) rfl ⟨⟨⟨some ⟨w0.heap.size + 1, 0, none⟩, 3, 3⟩, (List.replicate 3 ⟨none, 0, 0⟩), ⟨some ⟨w0.heap.size, 0, none⟩, 9, 9⟩, (List.replicate 9 ⟨none, 0, 0⟩)⟩, rfl, ⟨ob.keep (fun _ _ => rfl), (oa.alloc_ (.cells (madeCells #[.slice none 0 0] (3 * FS.n)) 94)).keep (fun _ _ => rfl), fun b hb hm => by have h1 := la b hm; have h2 := fb b hb; omega⟩, fun b hb => by rcases HLists.mem_foot.1 hb with hb | hb; (have := fb b hb; omega); (have := fa b hb; omega), Below.trans hB (by repeat (first | with_reducible exact Below.refl _ _ | with_reducible refine Below.setCell ?_ (by simp <;> omega) _ | with_reducible refine Below.alloc ?_ (by simp <;> omega) _ | with_reducible refine Below.drew ?_))⟩
end Go.Proofs.YtkmggglljkmjoaaGreat

/-
  New heaps: the contracts.
-/
namespace Go.Proofs.YtkmggglljkmjoaaGreat
open Go.RowKit

set_option maxRecDepth 100000 in
set_option maxHeartbeats 1000000 in
theorem HeapNew_spec (w : World) : Calls Tryz.prog 221 #[] w fun e w' => ∃ H' : HHeap, e = .returned (.agg #[.slice H'.Bytes.a H'.Bytes.len H'.Bytes.cap, .slice H'.Class.a H'.Class.len H'.Class.cap]) ∧ OwHeap w' H' newHeap ∧ (∀ g ∈ H'.foot, w.heap.size ≤ g) ∧ Below w.heap.size w w' := by
  have hmk : ∀ w, (Instr.makeSlice 24 (.int .i64 384) (.int .i64 384)).run Tryz.prog w = .ok (.slice (some ⟨w.heap.size, 0, none⟩) 384 384) (w.alloc (.cells (madeCells #[.int .i64 0] (384 * FI.n)) 3)) := run_make_flat (P := Tryz.prog) FI 24 3 (.int .i64 0) 8 Tryz.underlying24 Tryz.infoInt 384 (by omega) (by omega)
  have B_r : Box (((w.alloc (.cells #[.slice none 0 0, .slice none 0 0] 26)).alloc (.cells (madeCells #[.int .i64 0] (384 * FI.n)) 3)).alloc (.cells #[.slice (some ⟨w.heap.size + 1, 0, none⟩) 384 384, .slice none 0 0] 26)) w.heap.size [.slice none 0 0, .slice none 0 0] := ((Box.new w #[.slice none 0 0, .slice none 0 0] 26).alloc (.cells (madeCells #[.int .i64 0] (384 * FI.n)) 3)).alloc (.cells #[.slice (some ⟨w.heap.size + 1, 0, none⟩) 384 384, .slice none 0 0] 26)
  have B_p : Box (((w.alloc (.cells #[.slice none 0 0, .slice none 0 0] 26)).alloc (.cells (madeCells #[.int .i64 0] (384 * FI.n)) 3)).alloc (.cells #[.slice (some ⟨w.heap.size + 1, 0, none⟩) 384 384, .slice none 0 0] 26)) (w.heap.size + 1 + 1) [.slice (some ⟨w.heap.size + 1, 0, none⟩) 384 384, .slice none 0 0] := by
    have hb := Box.new ((w.alloc (.cells #[.slice none 0 0, .slice none 0 0] 26)).alloc (.cells (madeCells #[.int .i64 0] (384 * FI.n)) 3)) #[.slice (some ⟨w.heap.size + 1, 0, none⟩) 384 384, .slice none 0 0] 26
    simp only [World.size_alloc] at hb
    exact hb
  have oB := (OwL.made FI #[.int .i64 0] rfl 384 (by simp [maxLen]) (w.alloc (.cells #[.slice none 0 0, .slice none 0 0] 26)) 3).alloc_ (.cells #[.slice (some ⟨w.heap.size + 1, 0, none⟩) 384 384, .slice none 0 0] 26)
  simp only [World.size_alloc] at oB
  have hB : Below w.heap.size w (((w.alloc (.cells #[.slice none 0 0, .slice none 0 0] 26)).alloc (.cells (madeCells #[.int .i64 0] (384 * FI.n)) 3)).alloc (.cells #[.slice (some ⟨w.heap.size + 1, 0, none⟩) 384 384, .slice none 0 0] 26)) := by repeat (first | exact Below.refl _ _ | refine Below.alloc ?_ (by simp <;> omega) _ | refine below_grow_of ?_ (by simp <;> omega) _ _ | refine Below.drew ?_ | refine below_drewN ?_ _)
  go_enter Tryz.func221, Tryz.ntmps221
  go_wp2_with fail
  generalize hW0 : (((w.alloc (.cells #[.slice none 0 0, .slice none 0 0] 26)).alloc (.cells (madeCells #[.int .i64 0] (384 * FI.n)) 3)).alloc (.cells #[.slice (some ⟨w.heap.size + 1, 0, none⟩) 384 384, .slice none 0 0] 26)) = w0 at B_r B_p oB hB ⊢
  clear hW0 hmk
  go_loopw [2] (fun i wr => ∃ (k : Nat) (A : Option Addr) (cp : Nat), k ≤ 6 ∧ i = .int .i64 k ∧ Box wr w.heap.size [.slice none 0 0, .slice none 0 0] ∧ Box wr (w.heap.size + 1 + 1) [.slice (some ⟨w.heap.size + 1, 0, none⟩) 384 384, .slice A k cp] ∧ OwL FI 3 wr (.slice (some ⟨w.heap.size + 1, 0, none⟩) 384 384) (List.replicate 384 0) ∧ OwL FI 3 wr (.slice A k cp) (List.replicate k (-1)) ∧ (∀ b ∈ foot1 (.slice A k cp), w.heap.size + 2 < b) ∧ Below w.heap.size w wr) (fun i _ => 6 - (intOf i).toNat)
  case atStart => exact ⟨0, none, 0, by omega, rfl, B_r, B_p, oB, ⟨rfl, .inl ⟨rfl, rfl⟩⟩, fun b hb => by simp [foot1, Value.ownBlock] at hb, hB⟩
  case round =>
    clear B_r B_p oB hB
    obtain ⟨k, A, cp, hk, rfl, B_r, B_p, oB, oC, fC, hB⟩ := hrel
    have q_p_0 := B_p.cell 0 _ rfl
    have q_p_1 := B_p.cell 1 _ rfl
    have fr_p := B_p.fro
    have z_p := B_p.lt
    have z_r := B_r.lt
    by_cases hlt : k < 6
    · have zz := z_p
      go_wp2_with (at_builtin; refine wpList_append_flat Tryz.stInt rfl _ _ rfl (v := .slice A k cp) (y := .slice (some ⟨wr.heap.size, 0, none⟩) 1 1) (l := List.replicate k (-1)) (m := [(-1 : Int)]) rfl rfl (oC.alloc_ _) (OwL.lit FI [(-1 : Int)] #[.int .i64 (-1)] rfl (by simp [maxLen]) wr 3).rd' (by simp; omega) ?_; intro v7 w7 ho7 hg7 hat7; obtain ⟨A7, c7, hv7, _⟩ := ho7.rd'; simp only [List.length_append, List.length_replicate, List.length_singleton] at hv7; subst hv7; have hx := Chg.of_grown hg7; replace B_p := (B_p.alloc _).chg hx (fun hm => by have := fC _ hm; omega); replace q_p_0 := B_p.cell 0 _ rfl; replace q_p_1 := B_p.cell 1 _ rfl; replace fr_p := B_p.fro; replace z_p := B_p.lt)
      have hB7 := (hB.alloc hB.size (.cells #[.int .i64 (-1)] 3)).trans (hx.below (by simp; exact Nat.le_succ_of_le hB.size) (fun b hb => by have := fC b hb; omega))
      go_roundw
      case rel =>
        refine ⟨k + 1, A7, c7, by omega, by go_num, ((B_r.alloc _).chg hx (fun hm => by have := fC _ hm; omega)).other (by omega) _, B_p.set 1 _, ?_, ?_, fun b hb => ?_, hB7.setCell (by simp; omega) _⟩
        · exact ((oB.alloc_ _).chg hx (fun b hb hm => by have e1 := mem_foot1.1 hb; simp [Value.ownBlock] at e1; have := fC b hm; omega)).keep (fun b hb => heap_set_other w7 _ (fun e => by simp [Value.ownBlock] at hb; have e3 : b = w.heap.size + 1 + 1 := e.symm; omega))
        · have e : List.replicate k (-1 : Int) ++ [-1] = List.replicate (k + 1) (-1) := by rw [List.replicate_succ', ]
          rw [e] at ho7
          exact ho7.keep (fun b hb => heap_set_other w7 _ (fun e => by
            have e3 : b = w.heap.size + 1 + 1 := e.symm
            rcases foot_app hat7 b (mem_foot1.2 hb) with hh | hh
            · have := fC b hh
              omega
            · simp at hh
              omega))
        · rcases foot_app hat7 b hb with hh | hh
          · exact fC b hh
          · simp at hh
            omega
      case measure => simp [intOf]; omega
    · obtain rfl : k = 6 := by omega
      have q_r_0 := B_r.cell 0 _ rfl
      have q_r_1 := B_r.cell 1 _ rfl
      have fr_r := B_r.fro
      go_wp2_with fail
      refine bodyPost_ret (v := .agg #[.slice (some ⟨w.heap.size + 1, 0, none⟩) 384 384, .slice A 6 cp]) (by simp [results, Tryz.results221, go_sem, q_r_0, q_r_1]) rfl ⟨⟨⟨some ⟨w.heap.size + 1, 0, none⟩, 384, 384⟩, ⟨A, 6, cp⟩⟩, rfl, ⟨oB.chg (F := [w.heap.size]) (by repeat (first | with_reducible exact Chg.refl _ _ | with_reducible refine Chg.set_ ?_ (by simp) _ | with_reducible refine Chg.alloc_ ?_ _ | with_reducible refine Chg.drew_ ?_)) (fun b hb hm => by have e1 := mem_foot1.1 hb; simp [SV.val, Value.ownBlock] at e1; simp only [List.mem_cons, List.not_mem_nil, or_false] at hm; omega), oC.chg (F := [w.heap.size]) (by repeat (first | with_reducible exact Chg.refl _ _ | with_reducible refine Chg.set_ ?_ (by simp) _ | with_reducible refine Chg.alloc_ ?_ _ | with_reducible refine Chg.drew_ ?_)) (fun b hb hm => by have := fC b hb; simp only [List.mem_cons, List.not_mem_nil, or_false] at hm; omega), fun b hb hm => by have e1 := mem_foot1.1 hb; simp [SV.val, Value.ownBlock] at e1; have := fC b hm; omega⟩, fun b hb => ?_, Below.trans hB (by repeat (first | with_reducible exact Below.refl _ _ | with_reducible refine Below.setCell ?_ (by simp <;> omega) _ | with_reducible refine Below.alloc ?_ (by simp <;> omega) _ | with_reducible refine Below.drew ?_))⟩
      rcases HHeap.mem_foot.1 hb with hb | hb
      · have e1 := mem_foot1.1 hb
        simp [SV.val, Value.ownBlock] at e1
        omega
      · have := fC b hb
        omega
end Go.Proofs.YtkmggglljkmjoaaGreat

/-
  Hazard pointers: the contracts of the program and of the reference. Limbo lists: size, all rows. Limbo lists: is a slot in limbo. Limbo lists valid: the contracts. Clocks: valid, copied: the contracts. Clocks valid: the contracts.
-/
namespace Go.Proofs.YtkmggglljkmjoaaGreat.Lim
open Go.RowKit

theorem Tryz.stInt : ST Tryz.prog FI 24 3 := ⟨Tryz.underlying24, .int .i64 0, 8, by kernel_rfl, rfl, by decide⟩

def idxOf {α : Type} (p : α → Bool) (l : List α) : Int := match l.findIdx? p with | some i => i | none => -1
theorem idxOf_hit {α : Type} (p : α → Bool) (l : List α) (i : Nat) (hi : i < l.length) (h : (l.take i).any p = false) (hp : p l[i] = true) : idxOf p l = i := by
  have hf : l.findIdx? p = some i := by
    rw [List.findIdx?_eq_some_iff_getElem]
    refine ⟨hi, hp, fun j hj => ?_⟩
    rw [List.any_eq_false] at h
    exact h l[j] (List.mem_take_iff_getElem.2 ⟨j, by omega, rfl⟩)
  unfold idxOf
  rw [hf]
theorem idxOf_none {α : Type} (p : α → Bool) (l : List α) (h : l.any p = false) : idxOf p l = -1 := by
  have hf : l.findIdx? p = none := by
    rw [List.findIdx?_eq_none_iff]
    intro x hx
    rw [List.any_eq_false] at h
    simpa using h x hx
  unfold idxOf
  rw [hf]
theorem any_take_succ {α : Type} (p : α → Bool) (l : List α) (i : Nat) (hi : i < l.length) (h : (l.take i).any p = false) (hp : p l[i] = false) : (l.take (i + 1)).any p = false := by
  rw [List.take_succ_eq_append_getElem hi, List.any_append, h]
  simp [hp]
theorem idxOf_ge {α : Type} (p : α → Bool) (l : List α) : decide (0 ≤ idxOf p l) = l.any p := by
  unfold idxOf
  cases h : l.findIdx? p with
  | none =>
    rw [List.findIdx?_eq_none_iff] at h
    have : l.any p = false := by
      rw [List.any_eq_false]
      intro x hx
      simp [h x hx]
    rw [this]
    rfl
  | some i =>
    rw [List.findIdx?_eq_some_iff_getElem] at h
    obtain ⟨hi, hp, _⟩ := h
    have : l.any p = true := List.any_eq_true.2 ⟨l[i], List.getElem_mem hi, hp⟩
    rw [this]
    simp

def handleOkB (h : Int) : Bool := decide (32 ≤ h) && decide (h ≤ 223) && decide (h % 32 < 24)
set_option maxHeartbeats 400000 in
theorem HandleOk_spec (h : Int) (w : World) : Calls Tryz.prog 91 #[.int .i64 h] w fun e w' => e = .returned (.bool (handleOkB h)) ∧ w' = w := by
  by_cases h1 : 32 ≤ h
  · by_cases h2 : h ≤ 223
    · go_enter Tryz.func91, Tryz.ntmps91
      go_wp2
      go_ret
      exact ⟨ret_bool (by simp [handleOkB, h1, h2]), rfl⟩
    · go_enter Tryz.func91, Tryz.ntmps91
      go_wp2
      go_ret
      exact ⟨ret_bool (by simp [handleOkB]; omega), rfl⟩
  · go_enter Tryz.func91, Tryz.ntmps91
    go_wp2
    go_ret
    exact ⟨ret_bool (by simp [handleOkB]; omega), rfl⟩

theorem ret_pair {v : Value} {a b : Bool} (h : a = b) : Ending.returned (.tuple #[v, .bool a]) = .returned (.tuple #[v, .bool b]) := by rw [h]
theorem OwL.cellI {e : TypeId} {w : World} {g n c k : Nat} {l : List Int} {x : Int} (h : OwL FI e w (.slice (some ⟨g, 0, none⟩) n c) l) (hx : l[k]? = some x) : w.cell? ⟨g, k, none⟩ = some (.int .i64 x) := by simpa [FI] using h.cell_ (k := k) (j := 0) hx (by decide)
set_option maxHeartbeats 400000 in
theorem l3Copy_ct (w : World) (v : Value) (l : List Int) (h : RdL FI w w.heap.size v l) (hs : l.length ≤ 1073741824) :
    Calls Tryz.prog 205 #[v] w fun e w' => ∃ v', e = .returned v' ∧ OwL FI 3 w' v' l ∧ (∀ g ∈ foot1 v', w.heap.size ≤ g) ∧ Below w.heap.size w w' := by
  obtain ⟨A, c, hv, _, _, q3⟩ := id h
  subst hv
  go_enter Tryz.func205, Tryz.ntmps205
  go_wp2_with (at_builtin; refine wpList_append_flat Tryz.stInt rfl _ _ rfl (v := .slice (some ⟨w.heap.size, 0, none⟩) 0 0) (y := .slice A l.length c) (l := []) (m := l) rfl rfl (OwL.lit FI [] #[] rfl (by simp [maxLen]) _ _) (h.alloc_ (Nat.le_refl _) (Nat.le_succ _) _) (by simpa using hs) ?_; intro v' w1 ho hg hat)
  go_ret
  have hb : Below w.heap.size w w1 := ((Below.refl _ _).alloc (Nat.le_refl _) _).grown hg (by simp) (by simp [Value.ownBlock])
  exact ⟨v', rfl, by simpa using ho, fun g hg' => by rcases foot_app hat g hg' with h | h; (simp [foot1, Value.ownBlock] at h; omega); (simp at h; omega), hb⟩

end Go.Proofs.YtkmggglljkmjoaaGreat.Lim
namespace Go.Proofs.YtkmggglljkmjoaaGreat.Lim
open Go.RowKit

end Go.Proofs.YtkmggglljkmjoaaGreat.Lim
namespace Go.Proofs.YtkmggglljkmjoaaGreat.Lim
open Go.RowKit

theorem any_flatten_ {α : Type} (p : α → Bool) (ll : List (List α)) : ll.flatten.any p = ll.any fun l => l.any p := by
  induction ll with
  | nil => rfl
  | cons a l ih => simp [ih]

def slotOf (h : Int) : Int := if handleOkB h = true then h % 32 else -1
set_option maxHeartbeats 400000 in
theorem HandleSlot_spec (h : Int) (w : World) : Calls Tryz.prog 30 #[.int .i64 h] w fun e w' => e = .returned (.int .i64 (slotOf h)) ∧ w' = w := by
  by_cases c1 : handleOkB h = true
  · have h0 : 0 ≤ h := by simp [handleOkB] at c1; omega
    have HS := Hid.mk_ (show slotOf h = h % 32 from if_pos c1)
    go_enter Tryz.func30, Tryz.ntmps30
    go_wp2_with (go_at_call 91; refine (HandleOk_spec _ _).mono ?_; rw [c1]; rintro e w1 ⟨rfl, rfl⟩)
    go_ret
    exact ⟨ret_i64 (by rw [HS.out]), rfl⟩
  · have HS := Hid.mk_ (show slotOf h = -1 from if_neg c1)
    have c1' : handleOkB h = false := by simpa using c1
    go_enter Tryz.func30, Tryz.ntmps30
    go_wp2_with (go_at_call 91; refine (HandleOk_spec _ _).mono ?_; rw [c1']; rintro e w1 ⟨rfl, rfl⟩)
    go_ret
    exact ⟨ret_i64 HS.out.symm, rfl⟩

end Go.Proofs.YtkmggglljkmjoaaGreat.Lim
namespace Go.Proofs.YtkmggglljkmjoaaGreat.Lim
open Go.RowKit

def slotsTo (L : List LRow) (i : Nat) : List Int := (L.take i).map fun q => q.Handle % 32
theorem slotsTo_succ (L : List LRow) (k : Nat) (hk : k < L.length) : slotsTo L (k + 1) = slotsTo L k ++ [L[k].Handle % 32] := by
  unfold slotsTo
  rw [List.take_succ_eq_append_getElem hk, List.map_append]
  rfl
theorem slotsTo_len (L : List LRow) (k : Nat) : (slotsTo L k).length ≤ k := by unfold slotsTo; simp; omega
set_option maxHeartbeats 1000000 in
theorem l8Has_ct (w : World) (v : Value) (z : List Int) (x : Int) (h : RdL FI w w.heap.size v z) :
    Calls Tryz.prog 122 #[v, .int .i64 x] w fun e w' => e = .returned (.bool (z.any fun y => y == x)) ∧ Below w.heap.size w w' := by
  obtain ⟨A, c, hv, q1, q2, _⟩ := id h
  have hlt0 : z.length ≤ 9223372036854775807 := by unfold maxLen at q2; omega
  subst hv
  clear q1 q2
  go_enter Tryz.func122, Tryz.ntmps122
  go_wp2
  go_loopw [5] (fun i wr => ∃ k : Nat, k ≤ z.length ∧ i = .int .i64 k ∧ Below w.heap.size w wr ∧ (z.take k).any (fun y => y == x) = false) (fun i _ => z.length - (intOf i).toNat)
  case atStart => exact ⟨0, Nat.zero_le _, rfl, Below.refl _ _, rfl⟩
  case round =>
    obtain ⟨i, hi, rfl, hb, hno⟩ := hrel
    have HN := Hid.mk_ hno
    clear hno
    by_cases hlt : i < z.length
    · obtain ⟨g, off, cap', he, hg, _, _, hc⟩ := (h.below hb).at_ (List.getElem?_eq_getElem hlt)
      injection he with he1 he2 he3
      clear he2
      subst he1 he3
      have p0 : wr.cell? ⟨g, off + i, none⟩ = some (.int .i64 z[i]) := by simpa [FI] using hc 0 _ rfl
      clear hc h
      by_cases hz : z[i] = x
      · have hz1 : (z[i] == x) = true := by simpa using hz
        have HP := Hid.mk_ (show (z.any fun y => y == x) = true from List.any_eq_true.2 ⟨z[i], List.getElem_mem hlt, hz1⟩)
        clear hz
        go_wp2
        go_ret
        exact ⟨ret_bool HP.out.symm, hb⟩
      · have hz1 : (z[i] == x) = false := by simpa using hz
        have HP := Hid.mk_ (any_take_succ (fun y => y == x) z i hlt HN.out hz1)
        clear hz
        go_wp2
        go_roundw
        case rel => exact ⟨i + 1, by omega, by go_num, hb, HP.out⟩
        case measure => simp [intOf]; omega
    · go_wp2
      go_ret
      obtain rfl : i = z.length := by omega
      exact ⟨ret_bool (by simpa using HN.out.symm), hb⟩

def FB : FT Bool := { n := 1, enc := fun b => [.bool b], dflt := false, len := fun _ => rfl, one := by intro x u hu; simp at hu; subst hu; rfl, pos := by decide, small := by decide }
def metOf (L : List LRow) (p : Nat) : List Bool := (List.range 24).map fun (s : Nat) => (slotsTo L p).any fun z => z == (s : Int)
theorem metOf_zero (L : List LRow) : metOf L 0 = List.replicate 24 false := rfl
theorem flat_at {α : Type} (ll : List (List α)) (i j : Nat) (hi : i < ll.length) (hj : j < ll[i].length) : ll.flatten[totLL (ll.take i) + j]? = some ll[i][j] := by
  have e : ll.flatten = (ll.take i).flatten ++ (ll[i] ++ (ll.drop (i + 1)).flatten) := by
    rw [← List.flatten_cons, ← List.flatten_append, ← List.drop_eq_getElem_cons hi, List.take_append_drop]
  rw [e, totLL_eq, List.getElem?_append_right (by omega), Nat.add_sub_cancel_left, List.getElem?_append_left hj, List.getElem?_eq_getElem hj]

theorem z24_built : Tryz.prog.built 167 [] = some #[.bool false, .bool false, .bool false, .bool false, .bool false, .bool false, .bool false, .bool false, .bool false, .bool false, .bool false, .bool false, .bool false, .bool false, .bool false, .bool false, .bool false, .bool false, .bool false, .bool false, .bool false, .bool false, .bool false, .bool false] := by kernel_rfl
set_option maxRecDepth 100000 in
theorem wpList_build24 {ops : Array Oper} {rest : List Oper} {o : Oper} {a : Act} {w : World} {Q : Exit → Act → World → Prop} (hg : o.guard = none) (ho : o.op = .build 167 #[])
    (h : wpList Tryz.prog ops Q rest (a.put o.dst (.agg #[.bool false, .bool false, .bool false, .bool false, .bool false, .bool false, .bool false, .bool false, .bool false, .bool false, .bool false, .bool false, .bool false, .bool false, .bool false, .bool false, .bool false, .bool false, .bool false, .bool false, .bool false, .bool false, .bool false, .bool false])) w) : wpList Tryz.prog ops Q (o :: rest) a w := by
  exact wpList_build hg 167 #[] ho (by simp [z24_built]) (by simpa [z24_built] using h)
theorem met_start (w : World) (L : List LRow) : OwL FB 167 (w.alloc (.cells #[.bool false, .bool false, .bool false, .bool false, .bool false, .bool false, .bool false, .bool false, .bool false, .bool false, .bool false, .bool false, .bool false, .bool false, .bool false, .bool false, .bool false, .bool false, .bool false, .bool false, .bool false, .bool false, .bool false, .bool false] 167)) (.slice (some ⟨w.heap.size, 0, none⟩) 24 24) (metOf L 0) := by
  rw [metOf_zero]
  exact OwL.lit FB (List.replicate 24 false) #[.bool false, .bool false, .bool false, .bool false, .bool false, .bool false, .bool false, .bool false, .bool false, .bool false, .bool false, .bool false, .bool false, .bool false, .bool false, .bool false, .bool false, .bool false, .bool false, .bool false, .bool false, .bool false, .bool false, .bool false] rfl (by simp [maxLen]) w 167
end Go.Proofs.YtkmggglljkmjoaaGreat.Lim
namespace Go.Proofs.YtkmggglljkmjoaaGreat.Clk
open Go.RowKit
instance : DecidableEq Pin := fun a b => decidable_of_iff (a.On = b.On ∧ a.Epoch = b.Epoch ∧ a.Marked = b.Marked ∧ a.Seen = b.Seen) (by cases a; cases b; simp)
end Go.Proofs.YtkmggglljkmjoaaGreat.Clk
namespace Go.Proofs.YtkmggglljkmjoaaGreat.Clk
open Go.RowKit

theorem cell_old (w : World) (o : Obj) (g i : Nat) (hg : g < w.heap.size) : (w.alloc o).cell? ⟨g, i, none⟩ = w.cell? ⟨g, i, none⟩ := by
  simp [World.cell?, Below.heap_alloc w o g hg]
theorem cell_old_frozen (w : World) (o : Obj) (g i : Nat) (hg : g < w.heap.size) : (w.alloc o).frozen? ⟨g, i, none⟩ = w.frozen? ⟨g, i, none⟩ := by
  simp [World.frozen?, Below.heap_alloc w o g hg]
theorem cell_up {w w' : World} {g i : Nat} {u : Value} (hb : Below w.heap.size w w') (hg : g < w.heap.size) (h : w.cell? ⟨g, i, none⟩ = some u) : w'.cell? ⟨g, i, none⟩ = some u := (hb.cell (p := ⟨g, i, none⟩) hg).trans h

def idxOf {α : Type} (p : α → Bool) (l : List α) : Int := match l.findIdx? p with | some i => i | none => -1
theorem idxOf_hit {α : Type} (p : α → Bool) (l : List α) (i : Nat) (hi : i < l.length) (h : (l.take i).any p = false) (hp : p l[i] = true) : idxOf p l = i := by
  have hf : l.findIdx? p = some i := by
    rw [List.findIdx?_eq_some_iff_getElem]
    refine ⟨hi, hp, fun j hj => ?_⟩
    rw [List.any_eq_false] at h
    exact h l[j] (List.mem_take_iff_getElem.2 ⟨j, by omega, rfl⟩)
  unfold idxOf
  rw [hf]
theorem idxOf_none {α : Type} (p : α → Bool) (l : List α) (h : l.any p = false) : idxOf p l = -1 := by
  have hf : l.findIdx? p = none := by
    rw [List.findIdx?_eq_none_iff]
    intro x hx
    rw [List.any_eq_false] at h
    simpa using h x hx
  unfold idxOf
  rw [hf]
theorem any_take_succ {α : Type} (p : α → Bool) (l : List α) (i : Nat) (hi : i < l.length) (h : (l.take i).any p = false) (hp : p l[i] = false) : (l.take (i + 1)).any p = false := by
  rw [List.take_succ_eq_append_getElem hi, List.any_append, h]
  simp [hp]
theorem idxOf_ge {α : Type} (p : α → Bool) (l : List α) : decide (0 ≤ idxOf p l) = l.any p := by
  unfold idxOf
  cases h : l.findIdx? p with
  | none =>
    rw [List.findIdx?_eq_none_iff] at h
    have : l.any p = false := by
      rw [List.any_eq_false]
      intro x hx
      simp [h x hx]
    rw [this]
    rfl
  | some i =>
    rw [List.findIdx?_eq_some_iff_getElem] at h
    obtain ⟨hi, hp, _⟩ := h
    have : l.any p = true := List.any_eq_true.2 ⟨l[i], List.getElem_mem hi, hp⟩
    rw [this]
    simp

theorem all_not_any {α : Type} (p : α → Bool) (l : List α) : l.all p = !(l.any fun x => !p x) := by
  induction l with
  | nil => rfl
  | cons x l ih => simp [ih]
end Go.Proofs.YtkmggglljkmjoaaGreat.Clk

/-
  Drawn values: the cursor over a code, and its numbers.
-/
namespace Go.Proofs.YtkmggglljkmjoaaGreat.Lim
open Go.RowKit
def FU8 : FT Int := { n := 1, enc := fun x => [.int .u8 x], dflt := 0, len := fun _ => rfl, one := by intro x u hu; simp at hu; subst hu; rfl, pos := by decide, small := by decide }
/-- The cursor in block g, over a code that lies below it. -/
structure Cur (w : World) (g : Nat) (code : List Int) : Prop where
  lt : g < w.heap.size
  bytes : ∀ x ∈ code, 0 ≤ x ∧ x ≤ 255
  c0 : ∃ A cap, w.cell? ⟨g, 0, none⟩ = some (.slice A code.length cap) ∧ RdL FU8 w g (.slice A code.length cap) code
  c1 : ∃ i : Nat, w.cell? ⟨g, 1, none⟩ = some (.int .i64 i) ∧ i ≤ code.length
  c2 : ∃ h : Int, w.cell? ⟨g, 2, none⟩ = some (.int .i64 h)
  f1 : w.frozen? ⟨g, 1, none⟩ = false
  f2 : w.frozen? ⟨g, 2, none⟩ = false
theorem Cur.up {w w' : World} {g : Nat} {code : List Int} (h : Cur w g code) (hb : Below w.heap.size w w') : Cur w' g code := by
  obtain ⟨lt, by_, ⟨A, cap, p0, r⟩, ⟨i, p1, hi⟩, ⟨hh, p2⟩, f1, f2⟩ := h
  have e : ∀ j, w'.cell? ⟨g, j, none⟩ = w.cell? ⟨g, j, none⟩ := fun j => hb.cell (p := ⟨g, j, none⟩) lt
  have ef : ∀ j, w'.frozen? ⟨g, j, none⟩ = w.frozen? ⟨g, j, none⟩ := fun j => hb.frozen (p := ⟨g, j, none⟩) lt
  exact ⟨Nat.lt_of_lt_of_le lt hb.size, by_, ⟨A, cap, (e 0).trans p0, r.keep (fun k hk => hb.block k (by omega)) (Nat.le_refl _)⟩, ⟨i, (e 1).trans p1, hi⟩, ⟨hh, (e 2).trans p2⟩, (ef 1).trans f1, (ef 2).trans f2⟩
theorem Cur.set2 {w : World} {g : Nat} {code : List Int} (h : Cur w g code) (x : Int) : Cur (w.setCell ⟨g, 2, none⟩ (.int .i64 x)) g code := by
  obtain ⟨lt, by_, ⟨A, cap, p0, r⟩, ⟨i, p1, hi⟩, ⟨hh, p2⟩, f1, f2⟩ := h
  refine ⟨by simpa using lt, by_, ⟨A, cap, by simp [go_sem, p0], r.keep (fun k hk => Below.heap_setCell _ _ _ _ (by simp; omega)) (Nat.le_refl _)⟩, ⟨i, by simp [go_sem, p1], hi⟩, ⟨x, by simp [go_sem, p2]⟩, by simp [go_sem, f1], by simp [go_sem, f2]⟩
theorem Cur.set1 {w : World} {g : Nat} {code : List Int} (h : Cur w g code) (j : Nat) (hj : j ≤ code.length) : Cur (w.setCell ⟨g, 1, none⟩ (.int .i64 j)) g code := by
  obtain ⟨lt, by_, ⟨A, cap, p0, r⟩, ⟨i, p1, hi⟩, ⟨hh, p2⟩, f1, f2⟩ := h
  refine ⟨by simpa using lt, by_, ⟨A, cap, by simp [go_sem, p0], r.keep (fun k hk => Below.heap_setCell _ _ _ _ (by simp; omega)) (Nat.le_refl _)⟩, ⟨j, by simp [go_sem, p1], hj⟩, ⟨hh, by simp [go_sem, p2]⟩, by simp [go_sem, f1], by simp [go_sem, f2]⟩
theorem Cur.drewN {w : World} {g : Nat} {code : List Int} (h : Cur w g code) (n : Nat) : Cur (w.drewN n) g code := by
  obtain ⟨lt, by_, ⟨A, cap, p0, r⟩, c1, c2, f1, f2⟩ := h
  exact ⟨lt, by_, ⟨A, cap, p0, r.keep (fun _ _ => rfl) (Nat.le_refl _)⟩, c1, c2, f1, f2⟩
theorem _root_.Go.Proofs.YtkmggglljkmjoaaGreat.Chg.set {F : List Nat} {w w' : World} (h : Chg F w w') {g i : Nat} (hg : g ∈ F) (v : Value) : Chg F w (w'.setCell ⟨g, i, none⟩ v) :=
  ⟨h.os, h.tape, h.output, by simpa using h.size, fun k hk hn => (Below.heap_setCell _ _ _ _ (fun e => by have e' : k = g := e; exact hn (e' ▸ hg))).trans (h.block k hk hn)⟩
theorem _root_.Go.Proofs.YtkmggglljkmjoaaGreat.Chg.drewN {F : List Nat} {w w' : World} (h : Chg F w w') (n : Nat) : Chg F w (w'.drewN n) := ⟨h.os, h.tape, h.output, h.size, h.block⟩
/-- A drawn number between lo and hi. -/
def DrawI (lo hi : Int) (w : World) (g : Nat) (code : List Int) (e : Ending) (w' : World) : Prop := ∃ x : Int, e = .returned (.int .i64 x) ∧ lo ≤ x ∧ x ≤ hi ∧ Cur w' g code ∧ Chg [g] w w'

theorem and255 (n : Int) : bits .and .i64 n 255 = n % 256 := by
  have hm : (BitVec.ofInt 64 255).toNat = 2 ^ 8 - 1 := by decide
  have key : (BitVec.ofInt 64 n &&& BitVec.ofInt 64 255).toNat = (n % ((2 ^ 64 : Nat) : Int)).toNat % 2 ^ 8 := by
    rw [BitVec.toNat_and, BitVec.toNat_ofInt, hm, Nat.and_two_pow_sub_one_eq_mod]
  show IntKind.i64.wrap ((BitVec.ofInt 64 n &&& BitVec.ofInt 64 255).toNat : Nat) = n % 256
  rw [key, IntKind.wrap_i64]
  omega
theorem and255_bd (n : Int) : 0 ≤ bits .and .i64 n 255 ∧ bits .and .i64 n 255 ≤ 255 := by
  rw [and255]
  omega
set_option maxRecDepth 100000 in
set_option maxHeartbeats 1000000 in
theorem l1Byte_ct (w : World) (g : Nat) (code : List Int) (hc : Cur w g code) : Calls Tryz.prog 133 #[.pointer (some ⟨g, 0, none⟩)] w (DrawI 0 255 w g code) := by
  obtain ⟨lt, by_, ⟨A, cap, p0, r⟩, ⟨i, p1, hi⟩, ⟨hh, p2⟩, f1, f2⟩ := id hc
  by_cases hlt : i < code.length
  case neg =>
    go_enter Tryz.func133, Tryz.ntmps133
    go_wp2
    go_quiet (fail)
    go_wp2
    go_quiet (fail)
    go_wp2
    go_ret
    refine ⟨_, rfl, (and255_bd _).1, (and255_bd _).2, ?_, ?_⟩
    · exact ((hc.set2 _).drewN _).drewN _
    · exact (((Chg.refl _ _).set (by simp) _).drewN _).drewN _
  have hi1 : i + 1 ≤ code.length := hlt
  obtain ⟨gb, ob, cb, hvb, hgb, _, hcapb, hqb⟩ := r.at_ (List.getElem?_eq_getElem hlt)
  injection hvb with e1 e2 e3
  clear e2
  subst e1 e3
  have pb : w.cell? ⟨gb, ob + i, none⟩ = some (.int .u8 code[i]) := by simpa [FU8] using hqb 0 _ rfl
  have bb := by_ code[i] (List.getElem_mem hlt)
  obtain ⟨b0, b1⟩ := bb
  clear hqb
  have ngb : ¬ gb = g := by omega
  have ngb2 : ¬ g = gb := by omega
  have hlc : code.length ≤ 9223372036854775807 := by obtain ⟨_, _, hv, u1, u2, _⟩ := id r; injection hv with _ _ e; unfold maxLen at u2; omega
  generalize code[i] = b at *
  go_enter Tryz.func133, Tryz.ntmps133
  go_wp2
  go_quiet (fail)
  go_wp2
  go_quiet (fail)
  go_wp2
  go_quiet (fail)
  go_wp2
  go_ret
  refine ⟨_, rfl, (and255_bd _).1, (and255_bd _).2, ?_, ?_⟩
  · exact ((hc.set2 _).drewN _).set1 (i + 1) hi1
  · exact ((((Chg.refl _ _).set (by simp) _).drewN _).set (by simp) _)
end Go.Proofs.YtkmggglljkmjoaaGreat.Lim

/-
  Drawn values: numbers below a bound, picks, workers, handles.
-/
namespace Go.Proofs.YtkmggglljkmjoaaGreat.Lim
open Go.RowKit
def DrawB (n : Int) (w : World) (g : Nat) (code : List Int) (e : Ending) (w' : World) : Prop := ∃ x : Int, e = .returned (.int .i64 x) ∧ 0 ≤ x ∧ (x < n ∨ x = 0) ∧ Cur w' g code ∧ Chg [g] w w'
set_option maxHeartbeats 1000000 in
theorem l1Below_ct (w : World) (g : Nat) (code : List Int) (n : Int) (hn : I64 n) (hc : Cur w g code) : Calls Tryz.prog 63 #[.pointer (some ⟨g, 0, none⟩), .int .i64 n] w (DrawB n w g code) := by
  unfold I64 at hn
  by_cases h1 : n ≤ 0
  · go_enter Tryz.func63, Tryz.ntmps63
    go_wp2
    go_ret
    exact ⟨0, rfl, by omega, .inr rfl, hc, Chg.refl _ _⟩
  have h1' : 0 < n := by omega
  have hnz : ¬ n = 0 := by omega
  by_cases h2 : n ≤ 256
  · go_enter Tryz.func63, Tryz.ntmps63
    go_wp2_with fail
    refine (l1Byte_ct _ g code hc).mono ?_
    rintro e w1 ⟨x, rfl, x0, x1, hc1, hg1⟩
    go_wp2_with fail
    go_ret
    exact ⟨_, rfl, Int.emod_nonneg _ hnz, .inl (Int.emod_lt_of_pos _ h1'), hc1, hg1⟩
  · go_enter Tryz.func63, Tryz.ntmps63
    go_wp2_with fail
    refine (l1Byte_ct _ g code hc).mono ?_
    rintro e w1 ⟨x, rfl, x0, x1, hc1, hg1⟩
    go_wp2_with fail
    refine (l1Byte_ct _ g code hc1).mono ?_
    rintro e w2 ⟨y, rfl, y0, y1, hc2, hg2⟩
    go_wp2_with fail
    refine (l1Byte_ct _ g code hc2).mono ?_
    rintro e w3 ⟨z, rfl, z0, z1, hc3, hg3⟩
    go_wp2_with fail
    refine (l1Byte_ct _ g code hc3).mono ?_
    rintro e w4 ⟨u, rfl, u0, u1, hc4, hg4⟩
    go_wp2_with fail
    go_ret
    exact ⟨_, rfl, Int.emod_nonneg _ hnz, .inl (Int.emod_lt_of_pos _ h1'), hc4, ((hg1.trans hg2).trans hg3).trans hg4⟩
def DrawT (w : World) (g : Nat) (code : List Int) (e : Ending) (w' : World) : Prop := ∃ b : Bool, e = .returned (.bool b) ∧ Cur w' g code ∧ Chg [g] w w'
theorem l1Once_ct (w : World) (g : Nat) (code : List Int) (n : Int) (hn : I64 n) (hc : Cur w g code) : Calls Tryz.prog 136 #[.pointer (some ⟨g, 0, none⟩), .int .i64 n] w (DrawT w g code) := by
  go_enter Tryz.func136, Tryz.ntmps136
  go_wp2_with fail
  refine (l1Below_ct _ g code n hn hc).mono ?_
  rintro e w1 ⟨x, rfl, x0, x1, hc1, hg1⟩
  go_wp2_with fail
  go_ret
  exact ⟨_, rfl, hc1, hg1⟩
def DrawE (l : List Int) (w : World) (g : Nat) (code : List Int) (e : Ending) (w' : World) : Prop := ∃ x : Int, e = .returned (.int .i64 x) ∧ x ∈ l ∧ Cur w' g code ∧ Chg [g] w w'
set_option maxHeartbeats 1000000 in
theorem l1PickInt_ct (w : World) (g : Nat) (code : List Int) (v : Value) (l : List Int) (ho : OwL FI 3 w v l) (hd : g ∉ foot1 v) (hl : 0 < l.length) (hl2 : l.length ≤ 1048576) (hc : Cur w g code) : Calls Tryz.prog 64 #[.pointer (some ⟨g, 0, none⟩), v] w (DrawE l w g code) := by
  obtain ⟨b, cap, rfl, hb⟩ := ho.form_pos hl
  go_enter Tryz.func64, Tryz.ntmps64
  go_wp2_with fail
  refine (l1Below_ct _ g code l.length (by unfold I64; omega) hc).mono ?_
  rintro e w1 ⟨x, rfl, x0, x1, hc1, hg1⟩
  obtain ⟨k, rfl⟩ := Int.eq_ofNat_of_zero_le x0
  have hk : k < l.length := by rcases x1 with h | h <;> omega
  have ho1 := ho.chg hg1 (fun b hb hm => by simp at hm; subst hm; exact hd hb)
  have p0 := OwL.cellI ho1 (List.getElem?_eq_getElem hk)
  have hm := List.getElem_mem hk
  generalize l[k] = y at p0 hm
  go_wp2_with fail
  go_ret
  exact ⟨y, rfl, hm, hc1, hg1⟩
theorem _root_.Go.Proofs.YtkmggglljkmjoaaGreat.Chg.alloc_first {F : List Nat} {w w' : World} {o : Obj} (h : Chg F (w.alloc o) w') : Chg F w w' :=
  ⟨h.os, h.tape, h.output, Nat.le_trans (by simp) h.size, fun k hk hn => (h.block k (by simp; omega) hn).trans (Below.heap_alloc w o k hk)⟩
theorem Cur.alloc {w : World} {g : Nat} {code : List Int} (h : Cur w g code) (o : Obj) : Cur (w.alloc o) g code := h.up ((Below.refl _ _).alloc (Nat.le_refl _) _)
def handleOfL (s k : Int) : Int := if inB 0 23 s = true ∧ inB 1 6 k = true then k * 32 + s else 0
theorem handleOf_bd (s k : Int) : 0 ≤ handleOfL s k ∧ handleOfL s k ≤ 223 := by
  unfold handleOfL
  split
  · rename_i h
    have a := inB_iff.1 h.1
    have b := inB_iff.1 h.2
    omega
  · omega
set_option maxHeartbeats 400000 in
theorem HandleOf_spec (s k : Int) (w : World) : Calls Tryz.prog 41 #[.int .i64 s, .int .i64 k] w fun e w' => e = .returned (.int .i64 (handleOfL s k)) ∧ w = w' := by
  by_cases c1 : inB 0 23 s = true
  case neg =>
    have c1' := (Bool.not_eq_true _).mp c1
    have HN := Hid.mk_ (show handleOfL s k = 0 from if_neg (fun h => c1 h.1))
    clear c1
    go_enter Tryz.func41, Tryz.ntmps41
    go_wp2_with (go_at_call 102; refine (l1In_ct _ _ _ _).mono ?_; rintro e w3 ⟨rfl, rfl⟩)
    go_ret
    exact ⟨ret_i64 HN.out.symm, rfl⟩
  by_cases c2 : inB 1 6 k = true
  case neg =>
    have c2' := (Bool.not_eq_true _).mp c2
    have HN := Hid.mk_ (show handleOfL s k = 0 from if_neg (fun h => c2 h.2))
    clear c2
    go_enter Tryz.func41, Tryz.ntmps41
    go_wp2_with (go_at_call 102; refine (l1In_ct _ _ _ _).mono ?_; rintro e w3 ⟨rfl, rfl⟩)
    go_ret
    exact ⟨ret_i64 HN.out.symm, rfl⟩
  have HN := Hid.mk_ (show handleOfL s k = k * 32 + s from if_pos ⟨c1, c2⟩)
  have a := inB_iff.1 c1
  have b := inB_iff.1 c2
  go_enter Tryz.func41, Tryz.ntmps41
  go_wp2_with (go_at_call 102; refine (l1In_ct _ _ _ _).mono ?_; rintro e w3 ⟨rfl, rfl⟩)
  go_ret
  exact ⟨ret_i64 HN.out.symm, rfl⟩
set_option maxHeartbeats 1000000 in
theorem l6Handle_ct (w : World) (g : Nat) (code : List Int) (hc : Cur w g code) : Calls Tryz.prog 137 #[.pointer (some ⟨g, 0, none⟩)] w (DrawI (-1) 224 w g code) := by
  go_enter Tryz.func137, Tryz.ntmps137
  go_wp2_with fail
  refine (l1Once_ct _ g code 8 (by unfold I64; omega) hc).mono ?_
  rintro e w1 ⟨b, rfl, hc1, hg1⟩
  have hlt1 := hc1.lt
  cases b with
  | true =>
    go_wp2_with fail
    have ho := OwL.lit FI [0, -1, 31, 32, 55, 56, 63, 64, 192, 215, 216, 223, 224] #[.int .i64 0, .int .i64 (-1), .int .i64 31, .int .i64 32, .int .i64 55, .int .i64 56, .int .i64 63, .int .i64 64, .int .i64 192, .int .i64 215, .int .i64 216, .int .i64 223, .int .i64 224] rfl (by decide) w1 3
    refine (l1PickInt_ct _ g code _ [0, -1, 31, 32, 55, 56, 63, 64, 192, 215, 216, 223, 224] ho (by simp [foot1, Value.ownBlock]; omega) (by decide) (by decide) (hc1.alloc _)).mono ?_
    rintro e w2 ⟨x, rfl, hx, hc2, hg2⟩
    go_wp2_with fail
    go_ret
    refine ⟨x, rfl, ?_, ?_, hc2, hg1.trans hg2.alloc_first⟩
    all_goals (simp at hx; omega)
  | false =>
    go_wp2_with fail
    refine (l1Below_ct _ g code 24 (by unfold I64; omega) hc1).mono ?_
    rintro e w2 ⟨x, rfl, x0, x1, hc2, hg2⟩
    go_wp2_with fail
    refine (l1Below_ct _ g code 6 (by unfold I64; omega) hc2).mono ?_
    rintro e w3 ⟨y, rfl, y0, y1, hc3, hg3⟩
    have y6 : y ≤ 6 := by omega
    go_wp2_with fail
    refine (HandleOf_spec _ _ _).mono ?_
    rintro e w4 ⟨rfl, rfl⟩
    go_wp2_with fail
    go_ret
    exact ⟨_, rfl, by have := (handleOf_bd x (1 + y)).1; omega, by have := (handleOf_bd x (1 + y)).2; omega, hc3, (hg1.trans hg2).trans hg3⟩
end Go.Proofs.YtkmggglljkmjoaaGreat.Lim

/-
  Words for draws.
-/
namespace Go.Proofs.YtkmggglljkmjoaaGreat
open Go.RowKit
open Go.Proofs.YtkmggglljkmjoaaGreat.Lim

theorem _root_.Go.Proofs.YtkmggglljkmjoaaGreat.Lim.Cur.keepB {w w' : World} {g B : Nat} {code : List Int} (h : Cur w g code) (hg : g < B) (hb : Below B w w') (_hB : B ≤ w.heap.size) : Cur w' g code := by
  obtain ⟨lt, by_, ⟨A, cap, p0, r⟩, ⟨j, p1, hi⟩, ⟨hh, p2⟩, f1, f2⟩ := h
  have e : ∀ k, k ≤ g → w'.heap[k]? = w.heap[k]? := fun k hk => hb.block k (by omega)
  have ec : ∀ j, w'.cell? ⟨g, j, none⟩ = w.cell? ⟨g, j, none⟩ := fun j => by simp only [World.cell?, e g (Nat.le_refl _)]
  have ef : ∀ j, w'.frozen? ⟨g, j, none⟩ = w.frozen? ⟨g, j, none⟩ := fun j => by simp only [World.frozen?, e g (Nat.le_refl _)]
  exact ⟨Nat.lt_of_lt_of_le lt hb.size, by_, ⟨A, cap, (ec 0).trans p0, r.keep (fun k hk => e k (by omega)) (Nat.le_refl _)⟩, ⟨j, (ec 1).trans p1, hi⟩, ⟨hh, (ec 2).trans p2⟩, (ef 1).trans f1, (ef 2).trans f2⟩
theorem _root_.Go.Proofs.YtkmggglljkmjoaaGreat.Lim.Cur.drew_ {w : World} {g : Nat} {code : List Int} (h : Cur w g code) : Cur w.drew g code := h.drewN 1
theorem cell_set_o {w : World} {g j a i : Nat} {u v : Value} (h : w.cell? ⟨g, j, none⟩ = some v) (hn : a ≠ g) : (w.setCell ⟨a, i, none⟩ u).cell? ⟨g, j, none⟩ = some v := by
  have e := heap_set_other w u (i := i) hn
  simp only [World.cell?] at h ⊢
  rw [e]
  exact h
theorem cell_alloc_o {w : World} {g j : Nat} {o : Obj} {v : Value} (h : w.cell? ⟨g, j, none⟩ = some v) (hn : g < w.heap.size) : (w.alloc o).cell? ⟨g, j, none⟩ = some v := (cell_old w o g j hn).trans h
theorem cell_drew_o {w : World} {g j : Nat} {v : Value} (h : w.cell? ⟨g, j, none⟩ = some v) : w.drew.cell? ⟨g, j, none⟩ = some v := h
theorem wrap1 {x : Int} (h0 : 0 ≤ x) (h1 : x ≤ 1000) : IntKind.i64.wrap (1 + x) = 1 + x := by
  rw [IntKind.wrap_i64]
  omega
theorem sz_alloc {w : World} {o : Obj} {n : Nat} (h : (w.alloc o).heap.size ≤ n) : w.heap.size + 1 ≤ n := by rwa [World.size_alloc] at h
theorem sz_drew {w : World} {n : Nat} (h : w.drew.heap.size ≤ n) : w.heap.size ≤ n := h
theorem sz_alloc_drew {w : World} {o : Obj} {n : Nat} (h : (w.drew.alloc o).heap.size ≤ n) : w.heap.size + 1 ≤ n := by rwa [World.size_alloc] at h
theorem lc_alloc {w : World} {o : Obj} {F : List Nat} (h : ∀ g ∈ F, (w.alloc o).heap.size ≤ g) : ∀ g ∈ F, w.heap.size + 1 ≤ g := fun g hg => sz_alloc (h g hg)
theorem lc_alloc_drew {w : World} {o : Obj} {F : List Nat} (h : ∀ g ∈ F, (w.drew.alloc o).heap.size ≤ g) : ∀ g ∈ F, w.heap.size + 1 ≤ g := fun g hg => sz_alloc_drew (h g hg)
theorem size_drew_ (w : World) : w.drew.heap.size = w.heap.size := rfl
theorem l1PickB_ct (w : World) (g a : Nat) (code : List Int) (l : List Int) (vs : List Value) (n : Nat) (bx : Box w a vs) (hvs : vs = l.map (Value.int .i64)) (hn : n = l.length) (hd : a ∉ [g]) (hl : 0 < l.length) (hl2 : l.length ≤ 1048576) (hc : Cur w g code) : Calls Tryz.prog 64 #[.pointer (some ⟨g, 0, none⟩), .slice (some ⟨a, 0, none⟩) n n] w (DrawE l w g code) := by
  subst hn hvs
  go_enter Tryz.func64, Tryz.ntmps64
  go_wp2_with fail
  refine (l1Below_ct _ g code l.length (by unfold I64; omega) hc).mono ?_
  rintro e w1 ⟨x, rfl, x0, x1, hc1, hg1⟩
  obtain ⟨k, rfl⟩ := Int.eq_ofNat_of_zero_le x0
  have hk : k < l.length := by rcases x1 with h | h <;> omega
  have p0 := (bx.chg hg1 hd).cell k (.int .i64 l[k]) (by simp [hk])
  have hz := (bx.chg hg1 hd).lt
  have hm := List.getElem_mem hk
  generalize l[k] = y at p0 hm
  go_wp2_with fail
  go_ret
  exact ⟨y, rfl, hm, hc1, hg1⟩
theorem OwL.cutTo {α : Type} {T : FT α} {e : TypeId} {w : World} {g n c i : Nat} {l : List α} (h : OwL T e w (.slice (some ⟨g, 0, none⟩) n c) l) (hi : i ≤ l.length) : OwL T e w (.slice (some ⟨g, 0, none⟩) i c) (l.take i) := by
  have a := OwL.prefix_ (l := l.take i) (r := l.drop i) (by rw [List.take_append_drop]; exact h)
  rwa [List.length_take, Nat.min_eq_left hi] at a
theorem OwL.cellsI {w : World} {g n c : Nat} {l : List Int} (h : OwL FI 3 w (.slice (some ⟨g, 0, none⟩) n c) l) : ∀ j, j < l.length → w.cell? ⟨g, j, none⟩ = some (.int .i64 (l.getD j 0)) := fun j hj => by
  rw [Lim.OwL.cellI h (List.getElem?_eq_getElem hj), getD_at hj]
theorem OwL.drew_ {α : Type} {T : FT α} {e : TypeId} {w : World} {v : Value} {l : List α} (h : OwL T e w v l) : OwL T e w.drew v l := h.keep (fun _ _ => rfl)
theorem OwLL.drew_ {α : Type} {T : FT α} {e E : TypeId} {w : World} {v : Value} {s : List SV} {l : List (List α)} (h : OwLL T e E w v s l) : OwLL T e E w.drew v s l := h.keep (fun _ _ => rfl)
theorem OwHeap.drew_ {w : World} {H : HHeap} {x : Heap} (h : OwHeap w H x) : OwHeap w.drew H x := h.keep (fun _ _ => rfl)
theorem OwLists.drew_ {w : World} {H : HLists} {x : Lists} (h : OwLists w H x) : OwLists w.drew H x := h.keep (fun _ _ => rfl)
theorem OwMem.drew_ {w : World} {H : HMem} {x : Mem} (h : OwMem w H x) : OwMem w.drew H x := h.keep (fun _ _ => rfl)
end Go.Proofs.YtkmggglljkmjoaaGreat

