/-
  Several texts in one: lemmas and contracts that the claim rests on.
-/
import Derived.Test.YtkmggglljkmjoaaGreatUHCounts1
import Derived.Deep.QuietTactic
import Derived.BigQuiet
import Derived.Deep.LoopGhost
import Derived.Deep.RegionHeld3
import Derived.WalkSpells
import Derived.Laws.Cover3
import Derived.Test.YtkmggglljkmjoaaGreatUHCounts8
import Derived.Test.YtkmggglljkmjoaaGreatUHCounts9
import Derived.Test.YtkmggglljkmjoaaGreatUHCounts5
import Derived.Deep.CutRange
import Derived.Test.YtkmggglljkmjoaaGreatUHCounts6
import Derived.Test.YtkmggglljkmjoaaGreatUHCounts7
import Derived.Deep.RegionLaw
import Derived.Lib.SliceRun
/-
  Drawn memories.
-/
namespace Go.Proofs.YtkmggglljkmjoaaGreat
open Go.RowKit
open Go.Proofs.YtkmggglljkmjoaaGreat.Lim

theorem alloc_memP {m : Mem} {w n : Int} (p : MemP m) : MemP (allocP m w n).1 := by
  by_cases h : (allocP m w n).2.2 = 0
  · obtain ⟨_, _, p2, _⟩ := alloc_law h
    exact p2
  · rw [(alloc_fail h).1]
    exact p
theorem free_memP {m : Mem} {w h : Int} (p : MemP m) : MemP (freeP m w h).1 := by
  by_cases k : (freeP m w h).2 = 0
  · exact (free_law k).2.2.1
  · rw [free_fail k]
    exact p
theorem store_memP {m : Mem} {h a k n : Int} (p : MemP m) : MemP (storeInP m h a k n).1 := by
  by_cases c : (storeInP m h a k n).2 = 0
  · exact (store_law c).2.2.1
  · have e : (storeInP m h a k n).1 = m := by
      unfold storeInP at c ⊢
      split
      · rfl
      · rename_i c1
        rw [if_neg c1] at c
        split
        · rfl
        · rename_i c2
          rw [if_neg c2] at c
          exact absurd rfl c
    rw [e]
    exact p
theorem memP_sz {m : Mem} (p : MemP m) : sizeMem m ≤ 536870912 := Nat.le_trans (memP_size p) (by decide)
theorem AllocNow_draw (w : World) (H : HMem) (x : Mem) (wk n : Int) (h : RdMem w w.heap.size H x) (p : MemP x) :
    Calls Tryz.prog 35 #[.agg #[.slice H.Heap.Bytes.a H.Heap.Bytes.len H.Heap.Bytes.cap, .slice H.Heap.Class.a H.Heap.Class.len H.Heap.Class.cap, .slice H.Lists.Global.a H.Lists.Global.len H.Lists.Global.cap, .slice H.Lists.Own.a H.Lists.Own.len H.Lists.Own.cap], .int .i64 wk, .int .i64 n] w fun e w' => ∃ (H' : HMem) (y : Mem) (a c : Int), e = .returned (.tuple #[.agg #[.slice H'.Heap.Bytes.a H'.Heap.Bytes.len H'.Heap.Bytes.cap, .slice H'.Heap.Class.a H'.Heap.Class.len H'.Heap.Class.cap, .slice H'.Lists.Global.a H'.Lists.Global.len H'.Lists.Global.cap, .slice H'.Lists.Own.a H'.Lists.Own.len H'.Lists.Own.cap], .int .i64 a, .int .i64 c]) ∧ OwMem w' H' y ∧ MemP y ∧ (∀ g ∈ H'.foot, w.heap.size ≤ g) ∧ Below w.heap.size w w' :=
  (AllocNow_spec w H x wk n h (memP_sz p)).mono fun _ _ ⟨H', a, b, c, d⟩ => ⟨H', _, _, _, a, b, alloc_memP p, c, d⟩
theorem FreeNow_draw (w : World) (H : HMem) (x : Mem) (wk a : Int) (h : RdMem w w.heap.size H x) (p : MemP x) :
    Calls Tryz.prog 46 #[.agg #[.slice H.Heap.Bytes.a H.Heap.Bytes.len H.Heap.Bytes.cap, .slice H.Heap.Class.a H.Heap.Class.len H.Heap.Class.cap, .slice H.Lists.Global.a H.Lists.Global.len H.Lists.Global.cap, .slice H.Lists.Own.a H.Lists.Own.len H.Lists.Own.cap], .int .i64 wk, .int .i64 a] w fun e w' => ∃ (H' : HMem) (y : Mem) (c : Int), e = .returned (.tuple #[.agg #[.slice H'.Heap.Bytes.a H'.Heap.Bytes.len H'.Heap.Bytes.cap, .slice H'.Heap.Class.a H'.Heap.Class.len H'.Heap.Class.cap, .slice H'.Lists.Global.a H'.Lists.Global.len H'.Lists.Global.cap, .slice H'.Lists.Own.a H'.Lists.Own.len H'.Lists.Own.cap], .int .i64 c]) ∧ OwMem w' H' y ∧ MemP y ∧ (∀ g ∈ H'.foot, w.heap.size ≤ g) ∧ Below w.heap.size w w' :=
  (FreeNow_spec w H x wk a h (memP_sz p)).mono fun _ _ ⟨H', a, b, c, d⟩ => ⟨H', _, _, a, b, free_memP p, c, d⟩
theorem StoreIn_draw (w : World) (H : HMem) (x : Mem) (s a k n : Int) (h : RdMem w w.heap.size H x) (p : MemP x) (hn : I64 n) :
    Calls Tryz.prog 25 #[.agg #[.slice H.Heap.Bytes.a H.Heap.Bytes.len H.Heap.Bytes.cap, .slice H.Heap.Class.a H.Heap.Class.len H.Heap.Class.cap, .slice H.Lists.Global.a H.Lists.Global.len H.Lists.Global.cap, .slice H.Lists.Own.a H.Lists.Own.len H.Lists.Own.cap], .int .i64 s, .int .i64 a, .int .i64 k, .int .i64 n] w fun e w' => ∃ (H' : HMem) (y : Mem) (c : Int), e = .returned (.tuple #[.agg #[.slice H'.Heap.Bytes.a H'.Heap.Bytes.len H'.Heap.Bytes.cap, .slice H'.Heap.Class.a H'.Heap.Class.len H'.Heap.Class.cap, .slice H'.Lists.Global.a H'.Lists.Global.len H'.Lists.Global.cap, .slice H'.Lists.Own.a H'.Lists.Own.len H'.Lists.Own.cap], .int .i64 c]) ∧ OwMem w' H' y ∧ MemP y ∧ (∀ g ∈ H'.foot, w.heap.size ≤ g) ∧ Below w.heap.size w w' :=
  (StoreIn_spec w H x s a k n h (memP_sz p) hn).mono fun _ _ ⟨H', a, b, c, d⟩ => ⟨H', _, _, a, b, store_memP p, c, d⟩

def DrawMem (w : World) (g : Nat) (code : List Int) (e : Ending) (w' : World) : Prop := ∃ (H : HMem) (x : Mem) (a : Int), e = .returned (.tuple #[.agg #[.slice H.Heap.Bytes.a H.Heap.Bytes.len H.Heap.Bytes.cap, .slice H.Heap.Class.a H.Heap.Class.len H.Heap.Class.cap, .slice H.Lists.Global.a H.Lists.Global.len H.Lists.Global.cap, .slice H.Lists.Own.a H.Lists.Own.len H.Lists.Own.cap], .int .i64 a]) ∧ OwMem w' H x ∧ MemP x ∧ (∀ b ∈ H.foot, w.heap.size ≤ b) ∧ Cur w' g code ∧ Chg [g] w w'

set_option maxRecDepth 100000 in
set_option maxHeartbeats 16000000 in
theorem l9Some_ct (w : World) (g : Nat) (code : List Int) (hc : Cur w g code) : Calls Tryz.prog 135 #[.pointer (some ⟨g, 0, none⟩), .int .i64 22] w (DrawMem w g code) := by
  have hgl := hc.lt
  have B_r : Box (w.alloc (.cells #[.slice none 0 0, .slice none 0 0, .slice none 0 0, .slice none 0 0] 31)) (w.heap.size) [.slice none 0 0, .slice none 0 0, .slice none 0 0, .slice none 0 0] := by
    have hbx := Box.new w #[.slice none 0 0, .slice none 0 0, .slice none 0 0, .slice none 0 0] 31
    exact hbx
  have hC : Chg [g] w (w.alloc (.cells #[.slice none 0 0, .slice none 0 0, .slice none 0 0, .slice none 0 0] 31)) := (Chg.refl [g] w).alloc_ _
  replace hc : Cur (w.alloc (.cells #[.slice none 0 0, .slice none 0 0, .slice none 0 0, .slice none 0 0] 31)) g code := (hc).alloc _
  go_enter Tryz.func135, Tryz.ntmps135
  go_wp2_with fail
  generalize hW0 : (w.alloc (.cells #[.slice none 0 0, .slice none 0 0, .slice none 0 0, .slice none 0 0] 31)) = w0 at B_r hC hc ⊢
  clear hW0
  have zz_r := B_r.lt
  have la_r : w.heap.size ≤ w.heap.size := by omega
  have sC := hC.size
  have q_r_0 := B_r.cell 0 _ rfl
  have q_r_1 := B_r.cell 1 _ rfl
  have q_r_2 := B_r.cell 2 _ rfl
  have q_r_3 := B_r.cell 3 _ rfl
  have fr_r := B_r.fro
  have z_r := B_r.lt
  refine (MemNew_spec _).mono ?_
  rintro e w1 ⟨K_m, rfl, o_m, l_m, hb⟩
  have u_m := o_m.lt
  replace B_r := B_r.below hb
  replace hC := hC.trans (Chg.of_below hb)
  replace hc := hc.up hb
  have sz := hb.size
  replace sC := hC.size
  clear hb
  replace q_r_0 := B_r.cell 0 _ rfl
  replace q_r_1 := B_r.cell 1 _ rfl
  replace q_r_2 := B_r.cell 2 _ rfl
  replace q_r_3 := B_r.cell 3 _ rfl
  replace fr_r := B_r.fro
  replace z_r := B_r.lt
  have HP := new_ok
  generalize newMem = x0 at *
  go_wp2_with fail
  have hsz_m : (w1.alloc (.cells #[.slice K_m.Heap.Bytes.a K_m.Heap.Bytes.len K_m.Heap.Bytes.cap, .slice K_m.Heap.Class.a K_m.Heap.Class.len K_m.Heap.Class.cap, .slice K_m.Lists.Global.a K_m.Lists.Global.len K_m.Lists.Global.cap, .slice K_m.Lists.Own.a K_m.Lists.Own.len K_m.Lists.Own.cap] 31)).heap.size = w1.heap.size + 1 := World.size_alloc _ _
  replace B_r := B_r.alloc (.cells #[.slice K_m.Heap.Bytes.a K_m.Heap.Bytes.len K_m.Heap.Bytes.cap, .slice K_m.Heap.Class.a K_m.Heap.Class.len K_m.Heap.Class.cap, .slice K_m.Lists.Global.a K_m.Lists.Global.len K_m.Lists.Global.cap, .slice K_m.Lists.Own.a K_m.Lists.Own.len K_m.Lists.Own.cap] 31)
  replace o_m := o_m.alloc_ (.cells #[.slice K_m.Heap.Bytes.a K_m.Heap.Bytes.len K_m.Heap.Bytes.cap, .slice K_m.Heap.Class.a K_m.Heap.Class.len K_m.Heap.Class.cap, .slice K_m.Lists.Global.a K_m.Lists.Global.len K_m.Lists.Global.cap, .slice K_m.Lists.Own.a K_m.Lists.Own.len K_m.Lists.Own.cap] 31)
  replace hC := hC.alloc_ (.cells #[.slice K_m.Heap.Bytes.a K_m.Heap.Bytes.len K_m.Heap.Bytes.cap, .slice K_m.Heap.Class.a K_m.Heap.Class.len K_m.Heap.Class.cap, .slice K_m.Lists.Global.a K_m.Lists.Global.len K_m.Lists.Global.cap, .slice K_m.Lists.Own.a K_m.Lists.Own.len K_m.Lists.Own.cap] 31)
  replace hc := hc.alloc (.cells #[.slice K_m.Heap.Bytes.a K_m.Heap.Bytes.len K_m.Heap.Bytes.cap, .slice K_m.Heap.Class.a K_m.Heap.Class.len K_m.Heap.Class.cap, .slice K_m.Lists.Global.a K_m.Lists.Global.len K_m.Lists.Global.cap, .slice K_m.Lists.Own.a K_m.Lists.Own.len K_m.Lists.Own.cap] 31)
  have B_m : Box (w1.alloc (.cells #[.slice K_m.Heap.Bytes.a K_m.Heap.Bytes.len K_m.Heap.Bytes.cap, .slice K_m.Heap.Class.a K_m.Heap.Class.len K_m.Heap.Class.cap, .slice K_m.Lists.Global.a K_m.Lists.Global.len K_m.Lists.Global.cap, .slice K_m.Lists.Own.a K_m.Lists.Own.len K_m.Lists.Own.cap] 31)) w1.heap.size [.slice K_m.Heap.Bytes.a K_m.Heap.Bytes.len K_m.Heap.Bytes.cap, .slice K_m.Heap.Class.a K_m.Heap.Class.len K_m.Heap.Class.cap, .slice K_m.Lists.Global.a K_m.Lists.Global.len K_m.Lists.Global.cap, .slice K_m.Lists.Own.a K_m.Lists.Own.len K_m.Lists.Own.cap] := Box.new w1 #[.slice K_m.Heap.Bytes.a K_m.Heap.Bytes.len K_m.Heap.Bytes.cap, .slice K_m.Heap.Class.a K_m.Heap.Class.len K_m.Heap.Class.cap, .slice K_m.Lists.Global.a K_m.Lists.Global.len K_m.Lists.Global.cap, .slice K_m.Lists.Own.a K_m.Lists.Own.len K_m.Lists.Own.cap] 31
  have zz_m := B_m.lt
  have sz : w1.heap.size ≤ (w1.alloc (.cells #[.slice K_m.Heap.Bytes.a K_m.Heap.Bytes.len K_m.Heap.Bytes.cap, .slice K_m.Heap.Class.a K_m.Heap.Class.len K_m.Heap.Class.cap, .slice K_m.Lists.Global.a K_m.Lists.Global.len K_m.Lists.Global.cap, .slice K_m.Lists.Own.a K_m.Lists.Own.len K_m.Lists.Own.cap] 31)).heap.size := Nat.le_of_lt B_m.lt
  have la_m : w.heap.size ≤ w1.heap.size := by omega
  generalize hG : (w1.alloc (.cells #[.slice K_m.Heap.Bytes.a K_m.Heap.Bytes.len K_m.Heap.Bytes.cap, .slice K_m.Heap.Class.a K_m.Heap.Class.len K_m.Heap.Class.cap, .slice K_m.Lists.Global.a K_m.Lists.Global.len K_m.Lists.Global.cap, .slice K_m.Lists.Own.a K_m.Lists.Own.len K_m.Lists.Own.cap] 31)) = w2 at hsz_m B_r o_m hC hc B_m zz_m sz ⊢
  clear hG
  replace sC := hC.size
  replace q_r_0 := B_r.cell 0 _ rfl
  replace q_r_1 := B_r.cell 1 _ rfl
  replace q_r_2 := B_r.cell 2 _ rfl
  replace q_r_3 := B_r.cell 3 _ rfl
  replace fr_r := B_r.fro
  replace z_r := B_r.lt
  have q_m_0 := B_m.cell 0 _ rfl
  have q_m_1 := B_m.cell 1 _ rfl
  have q_m_2 := B_m.cell 2 _ rfl
  have q_m_3 := B_m.cell 3 _ rfl
  have fr_m := B_m.fro
  have z_m := B_m.lt
  replace B_r := B_r.alloc (.cells #[.int .i64 0] 3)
  replace B_m := B_m.alloc (.cells #[.int .i64 0] 3)
  replace o_m := o_m.alloc_ (.cells #[.int .i64 0] 3)
  replace hC := hC.alloc_ (.cells #[.int .i64 0] 3)
  replace hc := hc.alloc (.cells #[.int .i64 0] 3)
  have o_l : OwL FI 3 (w2.alloc (.cells #[.int .i64 0] 3)) (.slice (some ⟨w2.heap.size, 0, none⟩) 1 1) [0] := OwL.lit FI [0] #[.int .i64 0] rfl (by simp [maxLen]) w2 3
  have sz : w2.heap.size ≤ (w2.alloc (.cells #[.int .i64 0] 3)).heap.size := by simp
  have zl_l : w2.heap.size < (w2.alloc (.cells #[.int .i64 0] 3)).heap.size := by simp
  generalize hG : (w2.alloc (.cells #[.int .i64 0] 3)) = w3 at B_r B_m o_m hC hc o_l sz zl_l ⊢
  clear hG
  replace sC := hC.size
  have l_l : ∀ b ∈ foot1 (.slice (some ⟨w2.heap.size, 0, none⟩) 1 1), w2.heap.size ≤ b := fun b hb => by have := foot1_some.1 hb; omega
  have u_l := foot_lt o_l
  rw [hsz_m] at o_l l_l u_l zl_l
  have sz : w1.heap.size + 1 ≤ w3.heap.size := by omega
  clear hsz_m
  replace q_r_0 := B_r.cell 0 _ rfl
  replace q_r_1 := B_r.cell 1 _ rfl
  replace q_r_2 := B_r.cell 2 _ rfl
  replace q_r_3 := B_r.cell 3 _ rfl
  replace fr_r := B_r.fro
  replace z_r := B_r.lt
  replace q_m_0 := B_m.cell 0 _ rfl
  replace q_m_1 := B_m.cell 1 _ rfl
  replace q_m_2 := B_m.cell 2 _ rfl
  replace q_m_3 := B_m.cell 3 _ rfl
  replace fr_m := B_m.fro
  replace z_m := B_m.lt
  refine (l1Below_ct _ g code 22 (by unfold I64; omega) hc).mono ?_
  rintro e w4 ⟨n0, rfl, n0a, n0b, hcn, hx⟩
  replace hc := hcn
  replace B_r := B_r.chg hx (by simp only [List.mem_cons, List.not_mem_nil, or_false]; omega)
  replace B_m := B_m.chg hx (by simp only [List.mem_cons, List.not_mem_nil, or_false]; omega)
  replace o_m := o_m.chg hx (fun b hb hm => by simp only [List.mem_cons, List.not_mem_nil, or_false] at hm; have := l_m b hb; have := u_m b hb; omega)
  replace o_l := o_l.chg hx (fun b hb hm => by simp only [List.mem_cons, List.not_mem_nil, or_false] at hm; have := l_l b hb; have := u_l b hb; omega)
  replace hC := hC.trans hx
  have sz := hx.size
  replace sC := hC.size
  clear hx
  skip
  replace q_r_0 := B_r.cell 0 _ rfl
  replace q_r_1 := B_r.cell 1 _ rfl
  replace q_r_2 := B_r.cell 2 _ rfl
  replace q_r_3 := B_r.cell 3 _ rfl
  replace fr_r := B_r.fro
  replace z_r := B_r.lt
  replace q_m_0 := B_m.cell 0 _ rfl
  replace q_m_1 := B_m.cell 1 _ rfl
  replace q_m_2 := B_m.cell 2 _ rfl
  replace q_m_3 := B_m.cell 3 _ rfl
  replace fr_m := B_m.fro
  replace z_m := B_m.lt
  obtain ⟨m0, rfl⟩ := Int.eq_ofNat_of_zero_le n0a
  have hah : w.heap.size < w1.heap.size := by omega
  go_wp2_with fail
  go_loopw [7, 8] (fun v i wr => ∃ (k : Nat) (H : HMem) (x : Mem) (l : List Int), i = .int .i64 k ∧ k ≤ 21 ∧ Box wr (w1.heap.size) [.slice H.Heap.Bytes.a H.Heap.Bytes.len H.Heap.Bytes.cap, .slice H.Heap.Class.a H.Heap.Class.len H.Heap.Class.cap, .slice H.Lists.Global.a H.Lists.Global.len H.Lists.Global.cap, .slice H.Lists.Own.a H.Lists.Own.len H.Lists.Own.cap] ∧ Box wr w.heap.size [.slice none 0 0, .slice none 0 0, .slice none 0 0, .slice none 0 0] ∧ OwMem wr H x ∧ MemP x ∧ (∀ b ∈ H.foot, w.heap.size < b ∧ b ≠ w1.heap.size) ∧ OwL FI 3 wr v l ∧ (∀ b ∈ foot1 v, w.heap.size < b ∧ b ≠ w1.heap.size ∧ b ∉ H.foot) ∧ 0 < l.length ∧ l.length + k ≤ 22 ∧ Cur wr g code ∧ Chg [g] w wr) (fun _ i _ => (intOf i).toNat)
  case atStart => exact ⟨m0, K_m, x0, [0], rfl, by omega, B_m, B_r, o_m, HP, fun b hb => by have := l_m b hb; have := u_m b hb; omega, o_l, fun b hb => ⟨by have := l_l b hb; omega, by have := l_l b hb; omega, fun hm => by have := l_l b hb; have := u_m b hm; omega⟩, by decide, by simp; omega, hc, hC⟩
  case round =>
    clear B_m fr_m z_m q_m_0 q_m_1 q_m_2 q_m_3
    clear B_r fr_r z_r q_r_0 q_r_1 q_r_2 q_r_3
    clear o_m l_m u_m HP hc hC sC o_l l_l u_l
    obtain ⟨wo, rfl⟩ : ∃ W : World, W = wr := ⟨_, rfl⟩
    obtain ⟨k, K_m, x, l, rfl, hk21, B_m, B_r, o_m, HP, n_m, o_l, n_l, hl0, hlk, hc, hC⟩ := hrel
    obtain ⟨gl, cp, rfl, hgl2⟩ := OwL.form_pos o_l hl0
    have ngl := n_l gl (foot1_some.2 rfl)
    have u_m := o_m.lt
    have u_l := foot_lt o_l
    have sC := hC.size
    have q_m_0 := B_m.cell 0 _ rfl
    have q_m_1 := B_m.cell 1 _ rfl
    have q_m_2 := B_m.cell 2 _ rfl
    have q_m_3 := B_m.cell 3 _ rfl
    have fr_m := B_m.fro
    have z_m := B_m.lt
    have q_r_0 := B_r.cell 0 _ rfl
    have q_r_1 := B_r.cell 1 _ rfl
    have q_r_2 := B_r.cell 2 _ rfl
    have q_r_3 := B_r.cell 3 _ rfl
    have fr_r := B_r.fro
    have z_r := B_r.lt
    have pL := OwL.cellsI o_l
    by_cases hk : 0 < k
    case neg =>
      go_wp2_with fail
      go_region_held3 (fun w' => w'.cell? ⟨w1.heap.size, 0, none⟩ = some (.slice K_m.Heap.Bytes.a K_m.Heap.Bytes.len K_m.Heap.Bytes.cap) ∧ w'.cell? ⟨w1.heap.size, 1, none⟩ = some (.slice K_m.Heap.Class.a K_m.Heap.Class.len K_m.Heap.Class.cap) ∧ w'.cell? ⟨w1.heap.size, 2, none⟩ = some (.slice K_m.Lists.Global.a K_m.Lists.Global.len K_m.Lists.Global.cap) ∧ w'.cell? ⟨w1.heap.size, 3, none⟩ = some (.slice K_m.Lists.Own.a K_m.Lists.Own.len K_m.Lists.Own.cap) ∧ ∀ j, j < l.length → w'.cell? ⟨gl, j, none⟩ = some (.int .i64 (l.getD j 0))) (first | (with_reducible exact ⟨q_m_0, q_m_1, q_m_2, q_m_3, pL⟩) | (refine ⟨?_, ?_, ?_, ?_, ?_⟩ <;> (repeat (first | with_reducible assumption | with_reducible refine cell_set_o ?_ (by omega) | with_reducible refine cell_alloc_o ?_ (by omega) | with_reducible refine cell_drew_o ?_ | intro _ _ | (with_reducible apply pL; with_reducible assumption))); done) | (go_keep; done)) (first | (go_at_call 63; (first | ((with_reducible refine (l1Below_ct _ g code _ (by unfold I64; omega) hc).mono ?_); rintro e wq ⟨c_, rfl, c0, c1, hcn, hx⟩; replace B_m := B_m.chg hx (by simp only [List.mem_cons, List.not_mem_nil, or_false]; omega); replace B_r := B_r.chg hx (by simp only [List.mem_cons, List.not_mem_nil, or_false]; omega); replace o_m := o_m.chg hx (fun b hb hm => by simp only [List.mem_cons, List.not_mem_nil, or_false] at hm; have := n_m b hb; have := u_m b hb; omega); replace o_l := o_l.chg hx (fun b hb hm => by simp only [List.mem_cons, List.not_mem_nil, or_false] at hm; have := n_l b hb; have := u_l b hb; omega); replace hC := Chg.trans hC hx; replace hc := hcn; have sz := hx.size; replace sC := hC.size; clear hx; replace q_m_0 := B_m.cell 0 _ rfl; replace q_m_1 := B_m.cell 1 _ rfl; replace q_m_2 := B_m.cell 2 _ rfl; replace q_m_3 := B_m.cell 3 _ rfl; replace fr_m := B_m.fro; replace z_m := B_m.lt; replace q_r_0 := B_r.cell 0 _ rfl; replace q_r_1 := B_r.cell 1 _ rfl; replace q_r_2 := B_r.cell 2 _ rfl; replace q_r_3 := B_r.cell 3 _ rfl; replace fr_r := B_r.fro; replace z_r := B_r.lt; replace pL := OwL.cellsI o_l; obtain ⟨c, rfl⟩ := Int.eq_ofNat_of_zero_le c0; have hcl : c < l.length := (by omega); have hclI : (c : Int) < (l.length : Int) := (by omega)) | ((with_reducible refine (l1Below_ct _ g code _ (by unfold I64; omega) (hc.drew_)).mono ?_); rintro e wq ⟨c_, rfl, c0, c1, hcn, hx⟩; replace B_m := B_m.drew.chg hx (by simp only [List.mem_cons, List.not_mem_nil, or_false]; omega); replace B_r := B_r.drew.chg hx (by simp only [List.mem_cons, List.not_mem_nil, or_false]; omega); replace o_m := (o_m.drew_).chg hx (fun b hb hm => by simp only [List.mem_cons, List.not_mem_nil, or_false] at hm; have := n_m b hb; have := u_m b hb; omega); replace o_l := (o_l.drew_).chg hx (fun b hb hm => by simp only [List.mem_cons, List.not_mem_nil, or_false] at hm; have := n_l b hb; have := u_l b hb; omega); replace hC := Chg.trans hC.drew_ hx; replace hc := hcn; have sz := sz_drew hx.size; replace sC := hC.size; clear hx; replace q_m_0 := B_m.cell 0 _ rfl; replace q_m_1 := B_m.cell 1 _ rfl; replace q_m_2 := B_m.cell 2 _ rfl; replace q_m_3 := B_m.cell 3 _ rfl; replace fr_m := B_m.fro; replace z_m := B_m.lt; replace q_r_0 := B_r.cell 0 _ rfl; replace q_r_1 := B_r.cell 1 _ rfl; replace q_r_2 := B_r.cell 2 _ rfl; replace q_r_3 := B_r.cell 3 _ rfl; replace fr_r := B_r.fro; replace z_r := B_r.lt; replace pL := OwL.cellsI o_l; obtain ⟨c, rfl⟩ := Int.eq_ofNat_of_zero_le c0; have hcl : c < l.length := (by omega); have hclI : (c : Int) < (l.length : Int) := (by omega)))))
      all_goals
        go_wp2_with fail
        refine bodyPost_ret (v := .tuple #[.agg #[.slice K_m.Heap.Bytes.a K_m.Heap.Bytes.len K_m.Heap.Bytes.cap, .slice K_m.Heap.Class.a K_m.Heap.Class.len K_m.Heap.Class.cap, .slice K_m.Lists.Global.a K_m.Lists.Global.len K_m.Lists.Global.cap, .slice K_m.Lists.Own.a K_m.Lists.Own.len K_m.Lists.Own.cap], .int .i64 l[c]]) (by simp [results, Tryz.results135, go_sem, q_r_0, q_r_1, q_r_2, q_r_3]) rfl ⟨K_m, x, l[c], rfl, o_m.chg (F := [w.heap.size]) (by repeat (first | with_reducible exact Chg.refl _ _ | with_reducible refine Chg.set_ ?_ (by simp) _ | with_reducible refine Chg.alloc_ ?_ _ | with_reducible refine Chg.drew_ ?_)) (fun b hb hm => by simp only [List.mem_cons, List.not_mem_nil, or_false] at hm; have := n_m b hb; have := u_m b hb; omega), HP, fun b hb => by have := n_m b hb; omega, hc.keepB (B := w.heap.size) hgl (by repeat (first | with_reducible exact Below.refl _ _ | with_reducible refine Below.setCell ?_ (by simp <;> omega) _ | with_reducible refine Below.alloc ?_ (by simp <;> omega) _ | with_reducible refine Below.drew ?_)) hC.size, hC.then_ (by repeat (first | with_reducible exact Below.refl _ _ | with_reducible refine Below.setCell ?_ (by simp <;> omega) _ | with_reducible refine Below.alloc ?_ (by simp <;> omega) _ | with_reducible refine Below.drew ?_))⟩
    go_wp2_with fail
    refine (l1Once_ct _ g code 3 (by unfold I64; omega) hc).mono ?_
    rintro e w11 ⟨b, rfl, hcn, hx⟩
    replace hc := hcn
    replace B_m := B_m.chg hx (by simp only [List.mem_cons, List.not_mem_nil, or_false]; omega)
    replace B_r := B_r.chg hx (by simp only [List.mem_cons, List.not_mem_nil, or_false]; omega)
    replace o_m := o_m.chg hx (fun b hb hm => by simp only [List.mem_cons, List.not_mem_nil, or_false] at hm; have := n_m b hb; have := u_m b hb; omega)
    replace o_l := o_l.chg hx (fun b hb hm => by simp only [List.mem_cons, List.not_mem_nil, or_false] at hm; have := n_l b hb; have := u_l b hb; omega)
    replace hC := hC.trans hx
    have sz := hx.size
    replace sC := hC.size
    clear hx
    skip
    replace q_m_0 := B_m.cell 0 _ rfl
    replace q_m_1 := B_m.cell 1 _ rfl
    replace q_m_2 := B_m.cell 2 _ rfl
    replace q_m_3 := B_m.cell 3 _ rfl
    replace fr_m := B_m.fro
    replace z_m := B_m.lt
    replace q_r_0 := B_r.cell 0 _ rfl
    replace q_r_1 := B_r.cell 1 _ rfl
    replace q_r_2 := B_r.cell 2 _ rfl
    replace q_r_3 := B_r.cell 3 _ rfl
    replace fr_r := B_r.fro
    replace z_r := B_r.lt
    replace pL := OwL.cellsI o_l
    have hcase : (b = true ∧ 1 < l.length) ∨ ¬ (b = true ∧ 1 < l.length) := Classical.em _
    rcases hcase with ⟨hbt, h1⟩ | hnb
    · subst hbt
      have zp_m := z_m
      have zp_r := z_r
      go_upto_region 7 with (fail)
      go_cut [9, 10] from 23 to 45 (fun v9 v10 wx => ∃ (go : Nat) (K_n : HMem) (y : Mem) (cd : Int), v9 = .pointer (some ⟨go, 0, none⟩) ∧ v10 = .int .i64 cd ∧ (MemP y) ∧ Box wx (w1.heap.size) [.slice K_m.Heap.Bytes.a K_m.Heap.Bytes.len K_m.Heap.Bytes.cap, .slice K_m.Heap.Class.a K_m.Heap.Class.len K_m.Heap.Class.cap, .slice K_m.Lists.Global.a K_m.Lists.Global.len K_m.Lists.Global.cap, .slice K_m.Lists.Own.a K_m.Lists.Own.len K_m.Lists.Own.cap] ∧ Box wx (w.heap.size) [.slice none 0 0, .slice none 0 0, .slice none 0 0, .slice none 0 0] ∧ Box wx go [.slice K_n.Heap.Bytes.a K_n.Heap.Bytes.len K_n.Heap.Bytes.cap, .slice K_n.Heap.Class.a K_n.Heap.Class.len K_n.Heap.Class.cap, .slice K_n.Lists.Global.a K_n.Lists.Global.len K_n.Lists.Global.cap, .slice K_n.Lists.Own.a K_n.Lists.Own.len K_n.Lists.Own.cap] ∧ OwMem wx K_m x ∧ OwL FI 3 wx (.slice (some ⟨gl, 0, none⟩) l.length cp) l ∧ OwMem wx K_n y ∧ (∀ b ∈ K_n.foot, w11.heap.size ≤ b ∧ b ≠ go) ∧ w11.heap.size ≤ go ∧ Cur wx g code ∧ Chg [g] w wx ∧ w11.heap.size ≤ wx.heap.size)
      case first =>
        go_region_held3 (fun w' => w'.cell? ⟨w1.heap.size, 0, none⟩ = some (.slice K_m.Heap.Bytes.a K_m.Heap.Bytes.len K_m.Heap.Bytes.cap) ∧ w'.cell? ⟨w1.heap.size, 1, none⟩ = some (.slice K_m.Heap.Class.a K_m.Heap.Class.len K_m.Heap.Class.cap) ∧ w'.cell? ⟨w1.heap.size, 2, none⟩ = some (.slice K_m.Lists.Global.a K_m.Lists.Global.len K_m.Lists.Global.cap) ∧ w'.cell? ⟨w1.heap.size, 3, none⟩ = some (.slice K_m.Lists.Own.a K_m.Lists.Own.len K_m.Lists.Own.cap) ∧ ∀ j, j < l.length → w'.cell? ⟨gl, j, none⟩ = some (.int .i64 (l.getD j 0))) (first | (with_reducible exact ⟨q_m_0, q_m_1, q_m_2, q_m_3, pL⟩) | (refine ⟨?_, ?_, ?_, ?_, ?_⟩ <;> (repeat (first | with_reducible assumption | with_reducible refine cell_set_o ?_ (by omega) | with_reducible refine cell_alloc_o ?_ (by omega) | with_reducible refine cell_drew_o ?_ | intro _ _ | (with_reducible apply pL; with_reducible assumption))); done) | (go_keep; done)) (first | (go_at_call 63; (first | ((with_reducible refine (l1Below_ct _ g code _ (by unfold I64; omega) hc).mono ?_); rintro e wq ⟨c_, rfl, c0, c1, hcn, hx⟩; replace B_m := B_m.chg hx (by simp only [List.mem_cons, List.not_mem_nil, or_false]; omega); replace B_r := B_r.chg hx (by simp only [List.mem_cons, List.not_mem_nil, or_false]; omega); replace o_m := o_m.chg hx (fun b hb hm => by simp only [List.mem_cons, List.not_mem_nil, or_false] at hm; have := n_m b hb; have := u_m b hb; omega); replace o_l := o_l.chg hx (fun b hb hm => by simp only [List.mem_cons, List.not_mem_nil, or_false] at hm; have := n_l b hb; have := u_l b hb; omega); (try replace o_n := o_n.chg hx (fun b hb hm => by simp only [List.mem_cons, List.not_mem_nil, or_false] at hm; have := l_n b hb; have := u_n b hb; omega)); (try replace B_x := B_x.chg hx (by simp only [List.mem_cons, List.not_mem_nil, or_false]; omega)); (try replace q_x_0 := B_x.cell 0 _ rfl); (try replace q_x_1 := B_x.cell 1 _ rfl); (try replace q_x_2 := B_x.cell 2 _ rfl); (try replace q_x_3 := B_x.cell 3 _ rfl); (try replace q_x_f := B_x.fro); (try replace z_x := B_x.lt); replace hC := Chg.trans hC hx; replace hc := hcn; have sz := hx.size; replace sC := hC.size; clear hx; replace q_m_0 := B_m.cell 0 _ rfl; replace q_m_1 := B_m.cell 1 _ rfl; replace q_m_2 := B_m.cell 2 _ rfl; replace q_m_3 := B_m.cell 3 _ rfl; replace fr_m := B_m.fro; replace z_m := B_m.lt; replace q_r_0 := B_r.cell 0 _ rfl; replace q_r_1 := B_r.cell 1 _ rfl; replace q_r_2 := B_r.cell 2 _ rfl; replace q_r_3 := B_r.cell 3 _ rfl; replace fr_r := B_r.fro; replace z_r := B_r.lt; replace pL := OwL.cellsI o_l; obtain ⟨c, rfl⟩ := Int.eq_ofNat_of_zero_le c0; (try have hcl : c < l.length := (by omega)); (try have hclI : (c : Int) < (l.length : Int) := (by omega))) | ((with_reducible refine (l1Below_ct _ g code _ (by unfold I64; omega) (hc.alloc _)).mono ?_); rintro e wq ⟨c_, rfl, c0, c1, hcn, hx⟩; have ly_m := B_m.lt; have ly_r := B_r.lt; replace B_m := (B_m.alloc _).chg hx (by simp only [List.mem_cons, List.not_mem_nil, or_false]; omega); replace B_r := (B_r.alloc _).chg hx (by simp only [List.mem_cons, List.not_mem_nil, or_false]; omega); replace o_m := (o_m.alloc_ _).chg hx (fun b hb hm => by simp only [List.mem_cons, List.not_mem_nil, or_false] at hm; have := n_m b hb; have := u_m b hb; omega); replace o_l := (o_l.alloc_ _).chg hx (fun b hb hm => by simp only [List.mem_cons, List.not_mem_nil, or_false] at hm; have := n_l b hb; have := u_l b hb; omega); (try replace o_n := (o_n.alloc_ _).chg hx (fun b hb hm => by simp only [List.mem_cons, List.not_mem_nil, or_false] at hm; have := l_n b hb; have := u_n b hb; omega)); have B_x := Box.chg (Box.new _ #[.slice none 0 0, .slice none 0 0, .slice none 0 0, .slice none 0 0] 31) hx (by simp only [List.mem_cons, List.not_mem_nil, or_false]; omega); have la_x := hC.size; have q_x_f := B_x.fro; have z_x := B_x.lt; have q_x_0 := B_x.cell 0 _ rfl; have q_x_1 := B_x.cell 1 _ rfl; have q_x_2 := B_x.cell 2 _ rfl; have q_x_3 := B_x.cell 3 _ rfl; replace hC := Chg.trans (hC.alloc_ _) hx; replace hc := hcn; have sz := sz_alloc hx.size; replace sC := hC.size; clear hx; replace q_m_0 := B_m.cell 0 _ rfl; replace q_m_1 := B_m.cell 1 _ rfl; replace q_m_2 := B_m.cell 2 _ rfl; replace q_m_3 := B_m.cell 3 _ rfl; replace fr_m := B_m.fro; replace z_m := B_m.lt; replace q_r_0 := B_r.cell 0 _ rfl; replace q_r_1 := B_r.cell 1 _ rfl; replace q_r_2 := B_r.cell 2 _ rfl; replace q_r_3 := B_r.cell 3 _ rfl; replace fr_r := B_r.fro; replace z_r := B_r.lt; replace pL := OwL.cellsI o_l; obtain ⟨c, rfl⟩ := Int.eq_ofNat_of_zero_le c0; (try have hcl : c < l.length := (by omega)); (try have hclI : (c : Int) < (l.length : Int) := (by omega))) | ((with_reducible refine (l1Below_ct _ g code _ (by unfold I64; omega) (hc.drew_)).mono ?_); rintro e wq ⟨c_, rfl, c0, c1, hcn, hx⟩; replace B_m := B_m.drew.chg hx (by simp only [List.mem_cons, List.not_mem_nil, or_false]; omega); replace B_r := B_r.drew.chg hx (by simp only [List.mem_cons, List.not_mem_nil, or_false]; omega); replace o_m := (o_m.drew_).chg hx (fun b hb hm => by simp only [List.mem_cons, List.not_mem_nil, or_false] at hm; have := n_m b hb; have := u_m b hb; omega); replace o_l := (o_l.drew_).chg hx (fun b hb hm => by simp only [List.mem_cons, List.not_mem_nil, or_false] at hm; have := n_l b hb; have := u_l b hb; omega); (try replace o_n := (o_n.drew_).chg hx (fun b hb hm => by simp only [List.mem_cons, List.not_mem_nil, or_false] at hm; have := l_n b hb; have := u_n b hb; omega)); (try replace B_x := B_x.drew.chg hx (by simp only [List.mem_cons, List.not_mem_nil, or_false]; omega)); (try replace q_x_0 := B_x.cell 0 _ rfl); (try replace q_x_1 := B_x.cell 1 _ rfl); (try replace q_x_2 := B_x.cell 2 _ rfl); (try replace q_x_3 := B_x.cell 3 _ rfl); (try replace q_x_f := B_x.fro); (try replace z_x := B_x.lt); replace hC := Chg.trans hC.drew_ hx; replace hc := hcn; have sz := sz_drew hx.size; replace sC := hC.size; clear hx; replace q_m_0 := B_m.cell 0 _ rfl; replace q_m_1 := B_m.cell 1 _ rfl; replace q_m_2 := B_m.cell 2 _ rfl; replace q_m_3 := B_m.cell 3 _ rfl; replace fr_m := B_m.fro; replace z_m := B_m.lt; replace q_r_0 := B_r.cell 0 _ rfl; replace q_r_1 := B_r.cell 1 _ rfl; replace q_r_2 := B_r.cell 2 _ rfl; replace q_r_3 := B_r.cell 3 _ rfl; replace fr_r := B_r.fro; replace z_r := B_r.lt; replace pL := OwL.cellsI o_l; obtain ⟨c, rfl⟩ := Int.eq_ofNat_of_zero_le c0; (try have hcl : c < l.length := (by omega)); (try have hclI : (c : Int) < (l.length : Int) := (by omega))) | ((with_reducible refine (l1Below_ct _ g code _ (by unfold I64; omega) ((hc.drew_).alloc _)).mono ?_); rintro e wq ⟨c_, rfl, c0, c1, hcn, hx⟩; have ly_m := B_m.lt; have ly_r := B_r.lt; replace B_m := ((B_m.drew).alloc _).chg hx (by simp only [List.mem_cons, List.not_mem_nil, or_false]; omega); replace B_r := ((B_r.drew).alloc _).chg hx (by simp only [List.mem_cons, List.not_mem_nil, or_false]; omega); replace o_m := ((o_m.drew_).alloc_ _).chg hx (fun b hb hm => by simp only [List.mem_cons, List.not_mem_nil, or_false] at hm; have := n_m b hb; have := u_m b hb; omega); replace o_l := ((o_l.drew_).alloc_ _).chg hx (fun b hb hm => by simp only [List.mem_cons, List.not_mem_nil, or_false] at hm; have := n_l b hb; have := u_l b hb; omega); (try replace o_n := ((o_n.drew_).alloc_ _).chg hx (fun b hb hm => by simp only [List.mem_cons, List.not_mem_nil, or_false] at hm; have := l_n b hb; have := u_n b hb; omega)); have B_x := Box.chg (Box.new _ #[.slice none 0 0, .slice none 0 0, .slice none 0 0, .slice none 0 0] 31) hx (by simp only [List.mem_cons, List.not_mem_nil, or_false]; omega); (try simp only [size_drew_] at B_x); have la_x := hC.size; have q_x_f := B_x.fro; have z_x := B_x.lt; have q_x_0 := B_x.cell 0 _ rfl; have q_x_1 := B_x.cell 1 _ rfl; have q_x_2 := B_x.cell 2 _ rfl; have q_x_3 := B_x.cell 3 _ rfl; replace hC := Chg.trans (hC.drew_.alloc_ _) hx; replace hc := hcn; have sz := sz_alloc_drew hx.size; replace sC := hC.size; clear hx; replace q_m_0 := B_m.cell 0 _ rfl; replace q_m_1 := B_m.cell 1 _ rfl; replace q_m_2 := B_m.cell 2 _ rfl; replace q_m_3 := B_m.cell 3 _ rfl; replace fr_m := B_m.fro; replace z_m := B_m.lt; replace q_r_0 := B_r.cell 0 _ rfl; replace q_r_1 := B_r.cell 1 _ rfl; replace q_r_2 := B_r.cell 2 _ rfl; replace q_r_3 := B_r.cell 3 _ rfl; replace fr_r := B_r.fro; replace z_r := B_r.lt; replace pL := OwL.cellsI o_l; obtain ⟨c, rfl⟩ := Int.eq_ofNat_of_zero_le c0; (try have hcl : c < l.length := (by omega)); (try have hclI : (c : Int) < (l.length : Int) := (by omega))) | ((with_reducible refine (l1Below_ct _ g code _ (by unfold I64; omega) ((hc.alloc _).drew_)).mono ?_); rintro e wq ⟨c_, rfl, c0, c1, hcn, hx⟩; have ly_m := B_m.lt; have ly_r := B_r.lt; replace B_m := (B_m.alloc _).drew.chg hx (by simp only [List.mem_cons, List.not_mem_nil, or_false]; omega); replace B_r := (B_r.alloc _).drew.chg hx (by simp only [List.mem_cons, List.not_mem_nil, or_false]; omega); replace o_m := ((o_m.alloc_ _).drew_).chg hx (fun b hb hm => by simp only [List.mem_cons, List.not_mem_nil, or_false] at hm; have := n_m b hb; have := u_m b hb; omega); replace o_l := ((o_l.alloc_ _).drew_).chg hx (fun b hb hm => by simp only [List.mem_cons, List.not_mem_nil, or_false] at hm; have := n_l b hb; have := u_l b hb; omega); (try replace o_n := ((o_n.alloc_ _).drew_).chg hx (fun b hb hm => by simp only [List.mem_cons, List.not_mem_nil, or_false] at hm; have := l_n b hb; have := u_n b hb; omega)); have B_x := Box.chg (Box.new _ #[.slice none 0 0, .slice none 0 0, .slice none 0 0, .slice none 0 0] 31).drew hx (by simp only [List.mem_cons, List.not_mem_nil, or_false]; omega); have la_x := hC.size; have q_x_f := B_x.fro; have z_x := B_x.lt; have q_x_0 := B_x.cell 0 _ rfl; have q_x_1 := B_x.cell 1 _ rfl; have q_x_2 := B_x.cell 2 _ rfl; have q_x_3 := B_x.cell 3 _ rfl; replace hC := Chg.trans (hC.alloc_ _).drew_ hx; replace hc := hcn; have sz := sz_alloc (sz_drew hx.size); replace sC := hC.size; clear hx; replace q_m_0 := B_m.cell 0 _ rfl; replace q_m_1 := B_m.cell 1 _ rfl; replace q_m_2 := B_m.cell 2 _ rfl; replace q_m_3 := B_m.cell 3 _ rfl; replace fr_m := B_m.fro; replace z_m := B_m.lt; replace q_r_0 := B_r.cell 0 _ rfl; replace q_r_1 := B_r.cell 1 _ rfl; replace q_r_2 := B_r.cell 2 _ rfl; replace q_r_3 := B_r.cell 3 _ rfl; replace fr_r := B_r.fro; replace z_r := B_r.lt; replace pL := OwL.cellsI o_l; obtain ⟨c, rfl⟩ := Int.eq_ofNat_of_zero_le c0; (try have hcl : c < l.length := (by omega)); (try have hclI : (c : Int) < (l.length : Int) := (by omega))))) | (go_at_call 46; (first | ((with_reducible refine (FreeNow_draw _ K_m x _ _ (o_m).rd' HP).mono ?_); rintro e wq ⟨K_n, y, cd, rfl, o_n, HY, l_n, hb⟩; have u_n := o_n.lt; replace B_m := B_m.below hb; replace B_r := B_r.below hb; replace o_m := o_m.step0 hb; replace o_l := o_l.step0 hb; (try replace B_x := B_x.below hb); (try replace q_x_0 := B_x.cell 0 _ rfl); (try replace q_x_1 := B_x.cell 1 _ rfl); (try replace q_x_2 := B_x.cell 2 _ rfl); (try replace q_x_3 := B_x.cell 3 _ rfl); (try replace q_x_f := B_x.fro); (try replace z_x := B_x.lt); replace hc := Cur.up hc hb; replace hC := Chg.trans hC (Chg.of_below hb); have sz := hb.size; replace sC := hC.size; clear hb; replace q_m_0 := B_m.cell 0 _ rfl; replace q_m_1 := B_m.cell 1 _ rfl; replace q_m_2 := B_m.cell 2 _ rfl; replace q_m_3 := B_m.cell 3 _ rfl; replace fr_m := B_m.fro; replace z_m := B_m.lt; replace q_r_0 := B_r.cell 0 _ rfl; replace q_r_1 := B_r.cell 1 _ rfl; replace q_r_2 := B_r.cell 2 _ rfl; replace q_r_3 := B_r.cell 3 _ rfl; replace fr_r := B_r.fro; replace z_r := B_r.lt; replace pL := OwL.cellsI o_l) | ((with_reducible refine (FreeNow_draw _ K_m x _ _ ((o_m.alloc_ _)).rd' HP).mono ?_); rintro e wq ⟨K_n, y, cd, rfl, o_n, HY, l_n, hb⟩; replace l_n := lc_alloc l_n; have u_n := o_n.lt; have ly_m := B_m.lt; have ly_r := B_r.lt; replace B_m := (B_m.alloc _).below hb; replace B_r := (B_r.alloc _).below hb; replace o_m := (o_m.alloc_ _).step0 hb; replace o_l := (o_l.alloc_ _).step0 hb; have B_x := Box.below (Box.new _ #[.slice none 0 0, .slice none 0 0, .slice none 0 0, .slice none 0 0] 31) hb; have la_x := hC.size; have q_x_f := B_x.fro; have z_x := B_x.lt; have q_x_0 := B_x.cell 0 _ rfl; have q_x_1 := B_x.cell 1 _ rfl; have q_x_2 := B_x.cell 2 _ rfl; have q_x_3 := B_x.cell 3 _ rfl; replace hc := Cur.up (hc.alloc _) hb; replace hC := Chg.trans (hC.alloc_ _) (Chg.of_below hb); have sz := sz_alloc hb.size; replace sC := hC.size; clear hb; replace q_m_0 := B_m.cell 0 _ rfl; replace q_m_1 := B_m.cell 1 _ rfl; replace q_m_2 := B_m.cell 2 _ rfl; replace q_m_3 := B_m.cell 3 _ rfl; replace fr_m := B_m.fro; replace z_m := B_m.lt; replace q_r_0 := B_r.cell 0 _ rfl; replace q_r_1 := B_r.cell 1 _ rfl; replace q_r_2 := B_r.cell 2 _ rfl; replace q_r_3 := B_r.cell 3 _ rfl; replace fr_r := B_r.fro; replace z_r := B_r.lt; replace pL := OwL.cellsI o_l) | ((with_reducible refine (FreeNow_draw _ K_m x _ _ ((o_m.drew_)).rd' HP).mono ?_); rintro e wq ⟨K_n, y, cd, rfl, o_n, HY, l_n, hb⟩; replace hb := undrew hb; replace l_n := fcdrew l_n; have u_n := o_n.lt; replace B_m := B_m.below hb; replace B_r := B_r.below hb; replace o_m := o_m.step0 hb; replace o_l := o_l.step0 hb; (try replace B_x := B_x.below hb); (try replace q_x_0 := B_x.cell 0 _ rfl); (try replace q_x_1 := B_x.cell 1 _ rfl); (try replace q_x_2 := B_x.cell 2 _ rfl); (try replace q_x_3 := B_x.cell 3 _ rfl); (try replace q_x_f := B_x.fro); (try replace z_x := B_x.lt); replace hc := Cur.up hc hb; replace hC := Chg.trans hC (Chg.of_below hb); have sz := hb.size; replace sC := hC.size; clear hb; replace q_m_0 := B_m.cell 0 _ rfl; replace q_m_1 := B_m.cell 1 _ rfl; replace q_m_2 := B_m.cell 2 _ rfl; replace q_m_3 := B_m.cell 3 _ rfl; replace fr_m := B_m.fro; replace z_m := B_m.lt; replace q_r_0 := B_r.cell 0 _ rfl; replace q_r_1 := B_r.cell 1 _ rfl; replace q_r_2 := B_r.cell 2 _ rfl; replace q_r_3 := B_r.cell 3 _ rfl; replace fr_r := B_r.fro; replace z_r := B_r.lt; replace pL := OwL.cellsI o_l) | ((with_reducible refine (FreeNow_draw _ K_m x _ _ (((o_m.drew_).alloc_ _)).rd' HP).mono ?_); rintro e wq ⟨K_n, y, cd, rfl, o_n, HY, l_n, hb⟩; replace l_n := lc_alloc_drew l_n; have u_n := o_n.lt; have ly_m := B_m.lt; have ly_r := B_r.lt; replace B_m := ((B_m.drew).alloc _).below hb; replace B_r := ((B_r.drew).alloc _).below hb; replace o_m := ((o_m.drew_).alloc_ _).step0 hb; replace o_l := ((o_l.drew_).alloc_ _).step0 hb; have B_x := Box.below (Box.new _ #[.slice none 0 0, .slice none 0 0, .slice none 0 0, .slice none 0 0] 31) hb; (try simp only [size_drew_] at B_x); have la_x := hC.size; have q_x_f := B_x.fro; have z_x := B_x.lt; have q_x_0 := B_x.cell 0 _ rfl; have q_x_1 := B_x.cell 1 _ rfl; have q_x_2 := B_x.cell 2 _ rfl; have q_x_3 := B_x.cell 3 _ rfl; replace hc := Cur.up ((hc.drew_).alloc _) hb; replace hC := Chg.trans (hC.drew_.alloc_ _) (Chg.of_below hb); have sz := sz_alloc_drew hb.size; replace sC := hC.size; clear hb; replace q_m_0 := B_m.cell 0 _ rfl; replace q_m_1 := B_m.cell 1 _ rfl; replace q_m_2 := B_m.cell 2 _ rfl; replace q_m_3 := B_m.cell 3 _ rfl; replace fr_m := B_m.fro; replace z_m := B_m.lt; replace q_r_0 := B_r.cell 0 _ rfl; replace q_r_1 := B_r.cell 1 _ rfl; replace q_r_2 := B_r.cell 2 _ rfl; replace q_r_3 := B_r.cell 3 _ rfl; replace fr_r := B_r.fro; replace z_r := B_r.lt; replace pL := OwL.cellsI o_l) | ((with_reducible refine (FreeNow_draw _ K_m x _ _ (((o_m.alloc_ _).drew_)).rd' HP).mono ?_); rintro e wq ⟨K_n, y, cd, rfl, o_n, HY, l_n, hb⟩; replace hb := undrew hb; replace l_n := fcdrew l_n; replace l_n := lc_alloc l_n; have u_n := o_n.lt; have ly_m := B_m.lt; have ly_r := B_r.lt; replace B_m := (B_m.alloc _).below hb; replace B_r := (B_r.alloc _).below hb; replace o_m := (o_m.alloc_ _).step0 hb; replace o_l := (o_l.alloc_ _).step0 hb; have B_x := Box.below (Box.new _ #[.slice none 0 0, .slice none 0 0, .slice none 0 0, .slice none 0 0] 31) hb; have la_x := hC.size; have q_x_f := B_x.fro; have z_x := B_x.lt; have q_x_0 := B_x.cell 0 _ rfl; have q_x_1 := B_x.cell 1 _ rfl; have q_x_2 := B_x.cell 2 _ rfl; have q_x_3 := B_x.cell 3 _ rfl; replace hc := Cur.up (hc.alloc _) hb; replace hC := Chg.trans (hC.alloc_ _) (Chg.of_below hb); have sz := sz_alloc hb.size; replace sC := hC.size; clear hb; replace q_m_0 := B_m.cell 0 _ rfl; replace q_m_1 := B_m.cell 1 _ rfl; replace q_m_2 := B_m.cell 2 _ rfl; replace q_m_3 := B_m.cell 3 _ rfl; replace fr_m := B_m.fro; replace z_m := B_m.lt; replace q_r_0 := B_r.cell 0 _ rfl; replace q_r_1 := B_r.cell 1 _ rfl; replace q_r_2 := B_r.cell 2 _ rfl; replace q_r_3 := B_r.cell 3 _ rfl; replace fr_r := B_r.fro; replace z_r := B_r.lt; replace pL := OwL.cellsI o_l))))
        all_goals
          go_wp2_with fail
          go_meet
          first | exact ⟨_, K_n, y, cd, rfl, rfl, HY, B_m.alloc _, B_r.alloc _, Box.new _ _ _, o_m.alloc_ _, o_l.alloc_ _, o_n.alloc_ _, fun b hb => ⟨by have := l_n b hb; omega, by have := u_n b hb; omega⟩, by omega, hc.alloc _, hC.alloc_ _, by simp <;> omega⟩ | (obtain ⟨go, hgo, B_go⟩ := B_x.ad; rw [← hgo]; rw [← hgo] at la_x; exact ⟨go, K_n, y, cd, rfl, rfl, HY, ((((B_m.other (by omega) _).other (by omega) _).other (by omega) _).other (by omega) _), ((((B_r.other (by omega) _).other (by omega) _).other (by omega) _).other (by omega) _), ((((B_go.set 0 _).set 1 _).set 2 _).set 3 _), o_m.chg (F := [go]) (by repeat (first | with_reducible exact Chg.refl _ _ | with_reducible refine Chg.set_ ?_ (by simp) _ | with_reducible refine Chg.alloc_ ?_ _ | with_reducible refine Chg.drew_ ?_)) (fun b hb hm => by simp only [List.mem_cons, List.not_mem_nil, or_false] at hm; have := n_m b hb; have := u_m b hb; omega), o_l.chg (F := [go]) (by repeat (first | with_reducible exact Chg.refl _ _ | with_reducible refine Chg.set_ ?_ (by simp) _ | with_reducible refine Chg.alloc_ ?_ _ | with_reducible refine Chg.drew_ ?_)) (fun b hb hm => by simp only [List.mem_cons, List.not_mem_nil, or_false] at hm; have := n_l b hb; have := u_l b hb; omega), o_n.chg (F := [go]) (by repeat (first | with_reducible exact Chg.refl _ _ | with_reducible refine Chg.set_ ?_ (by simp) _ | with_reducible refine Chg.alloc_ ?_ _ | with_reducible refine Chg.drew_ ?_)) (fun b hb hm => by simp only [List.mem_cons, List.not_mem_nil, or_false] at hm; have := l_n b hb; have := u_n b hb; omega), fun b hb => ⟨by have := l_n b hb; omega, by have := l_n b hb; have := u_n b hb; omega⟩, by omega, hc.keepB (B := w.heap.size) hgl (by repeat (first | with_reducible exact Below.refl _ _ | with_reducible refine Below.setCell ?_ (by simp <;> omega) _ | with_reducible refine Below.alloc ?_ (by simp <;> omega) _ | with_reducible refine Below.drew ?_)) hC.size, ((((hC.set_new (by omega) _).set_new (by omega) _).set_new (by omega) _).set_new (by omega) _), by simp <;> omega⟩)
      case rest =>
        clear B_m fr_m z_m q_m_0 q_m_1 q_m_2 q_m_3
        clear B_r fr_r z_r q_r_0 q_r_1 q_r_2 q_r_3
        clear o_m
        clear o_l
        clear pL
        clear hC hc
        obtain ⟨go, K_n, y, cd, rfl, rfl, HY, B_m, B_r, B_x, o_m, o_l, o_n, l_n, lo_x, hc, hC, sz⟩ := hcut
        have zz_x := B_x.lt
        have la_x : w.heap.size ≤ go := by omega
        have u_n := o_n.lt
        have sC := hC.size
        have q_m_0 := B_m.cell 0 _ rfl
        have q_m_1 := B_m.cell 1 _ rfl
        have q_m_2 := B_m.cell 2 _ rfl
        have q_m_3 := B_m.cell 3 _ rfl
        have fr_m := B_m.fro
        have z_m := B_m.lt
        have q_r_0 := B_r.cell 0 _ rfl
        have q_r_1 := B_r.cell 1 _ rfl
        have q_r_2 := B_r.cell 2 _ rfl
        have q_r_3 := B_r.cell 3 _ rfl
        have fr_r := B_r.fro
        have z_r := B_r.lt
        have q_x_0 := B_x.cell 0 _ rfl
        have q_x_1 := B_x.cell 1 _ rfl
        have q_x_2 := B_x.cell 2 _ rfl
        have q_x_3 := B_x.cell 3 _ rfl
        have fr_x := B_x.fro
        have z_x := B_x.lt
        have pL := OwL.cellsI o_l
        go_upto_region 5 with (fail)
        clear o_m
        replace B_m : Box ((((wc.setCell ⟨w1.heap.size, 0, none⟩ (.slice K_n.Heap.Bytes.a K_n.Heap.Bytes.len K_n.Heap.Bytes.cap)).setCell ⟨w1.heap.size, 1, none⟩ (.slice K_n.Heap.Class.a K_n.Heap.Class.len K_n.Heap.Class.cap)).setCell ⟨w1.heap.size, 2, none⟩ (.slice K_n.Lists.Global.a K_n.Lists.Global.len K_n.Lists.Global.cap)).setCell ⟨w1.heap.size, 3, none⟩ (.slice K_n.Lists.Own.a K_n.Lists.Own.len K_n.Lists.Own.cap)) (w1.heap.size) [.slice K_n.Heap.Bytes.a K_n.Heap.Bytes.len K_n.Heap.Bytes.cap, .slice K_n.Heap.Class.a K_n.Heap.Class.len K_n.Heap.Class.cap, .slice K_n.Lists.Global.a K_n.Lists.Global.len K_n.Lists.Global.cap, .slice K_n.Lists.Own.a K_n.Lists.Own.len K_n.Lists.Own.cap] := ((((B_m.set 0 (.slice K_n.Heap.Bytes.a K_n.Heap.Bytes.len K_n.Heap.Bytes.cap)).set 1 (.slice K_n.Heap.Class.a K_n.Heap.Class.len K_n.Heap.Class.cap)).set 2 (.slice K_n.Lists.Global.a K_n.Lists.Global.len K_n.Lists.Global.cap)).set 3 (.slice K_n.Lists.Own.a K_n.Lists.Own.len K_n.Lists.Own.cap))
        replace B_r : Box ((((wc.setCell ⟨w1.heap.size, 0, none⟩ (.slice K_n.Heap.Bytes.a K_n.Heap.Bytes.len K_n.Heap.Bytes.cap)).setCell ⟨w1.heap.size, 1, none⟩ (.slice K_n.Heap.Class.a K_n.Heap.Class.len K_n.Heap.Class.cap)).setCell ⟨w1.heap.size, 2, none⟩ (.slice K_n.Lists.Global.a K_n.Lists.Global.len K_n.Lists.Global.cap)).setCell ⟨w1.heap.size, 3, none⟩ (.slice K_n.Lists.Own.a K_n.Lists.Own.len K_n.Lists.Own.cap)) (w.heap.size) [.slice none 0 0, .slice none 0 0, .slice none 0 0, .slice none 0 0] := ((((B_r.other (by omega) _).other (by omega) _).other (by omega) _).other (by omega) _)
        replace B_x : Box ((((wc.setCell ⟨w1.heap.size, 0, none⟩ (.slice K_n.Heap.Bytes.a K_n.Heap.Bytes.len K_n.Heap.Bytes.cap)).setCell ⟨w1.heap.size, 1, none⟩ (.slice K_n.Heap.Class.a K_n.Heap.Class.len K_n.Heap.Class.cap)).setCell ⟨w1.heap.size, 2, none⟩ (.slice K_n.Lists.Global.a K_n.Lists.Global.len K_n.Lists.Global.cap)).setCell ⟨w1.heap.size, 3, none⟩ (.slice K_n.Lists.Own.a K_n.Lists.Own.len K_n.Lists.Own.cap)) (go) [.slice K_n.Heap.Bytes.a K_n.Heap.Bytes.len K_n.Heap.Bytes.cap, .slice K_n.Heap.Class.a K_n.Heap.Class.len K_n.Heap.Class.cap, .slice K_n.Lists.Global.a K_n.Lists.Global.len K_n.Lists.Global.cap, .slice K_n.Lists.Own.a K_n.Lists.Own.len K_n.Lists.Own.cap] := ((((B_x.other (by omega) _).other (by omega) _).other (by omega) _).other (by omega) _)
        replace o_l := o_l.chg (F := [w1.heap.size]) (w' := ((((wc.setCell ⟨w1.heap.size, 0, none⟩ (.slice K_n.Heap.Bytes.a K_n.Heap.Bytes.len K_n.Heap.Bytes.cap)).setCell ⟨w1.heap.size, 1, none⟩ (.slice K_n.Heap.Class.a K_n.Heap.Class.len K_n.Heap.Class.cap)).setCell ⟨w1.heap.size, 2, none⟩ (.slice K_n.Lists.Global.a K_n.Lists.Global.len K_n.Lists.Global.cap)).setCell ⟨w1.heap.size, 3, none⟩ (.slice K_n.Lists.Own.a K_n.Lists.Own.len K_n.Lists.Own.cap))) (by repeat (first | with_reducible exact Chg.refl _ _ | with_reducible refine Chg.set_ ?_ (by simp) _ | with_reducible refine Chg.alloc_ ?_ _ | with_reducible refine Chg.drew_ ?_)) (fun b hb hm => by simp only [List.mem_cons, List.not_mem_nil, or_false] at hm; have := n_l b hb; have := u_l b hb; omega)
        replace o_n := o_n.chg (F := [w1.heap.size]) (w' := ((((wc.setCell ⟨w1.heap.size, 0, none⟩ (.slice K_n.Heap.Bytes.a K_n.Heap.Bytes.len K_n.Heap.Bytes.cap)).setCell ⟨w1.heap.size, 1, none⟩ (.slice K_n.Heap.Class.a K_n.Heap.Class.len K_n.Heap.Class.cap)).setCell ⟨w1.heap.size, 2, none⟩ (.slice K_n.Lists.Global.a K_n.Lists.Global.len K_n.Lists.Global.cap)).setCell ⟨w1.heap.size, 3, none⟩ (.slice K_n.Lists.Own.a K_n.Lists.Own.len K_n.Lists.Own.cap))) (by repeat (first | with_reducible exact Chg.refl _ _ | with_reducible refine Chg.set_ ?_ (by simp) _ | with_reducible refine Chg.alloc_ ?_ _ | with_reducible refine Chg.drew_ ?_)) (fun b hb hm => by simp only [List.mem_cons, List.not_mem_nil, or_false] at hm; have := l_n b hb; have := u_n b hb; omega)
        replace hc : Cur ((((wc.setCell ⟨w1.heap.size, 0, none⟩ (.slice K_n.Heap.Bytes.a K_n.Heap.Bytes.len K_n.Heap.Bytes.cap)).setCell ⟨w1.heap.size, 1, none⟩ (.slice K_n.Heap.Class.a K_n.Heap.Class.len K_n.Heap.Class.cap)).setCell ⟨w1.heap.size, 2, none⟩ (.slice K_n.Lists.Global.a K_n.Lists.Global.len K_n.Lists.Global.cap)).setCell ⟨w1.heap.size, 3, none⟩ (.slice K_n.Lists.Own.a K_n.Lists.Own.len K_n.Lists.Own.cap)) g code := hc.keepB (B := w.heap.size) hgl (by repeat (first | with_reducible exact Below.refl _ _ | with_reducible refine Below.setCell ?_ (by simp <;> omega) _ | with_reducible refine Below.alloc ?_ (by simp <;> omega) _ | with_reducible refine Below.drew ?_)) hC.size
        replace hC : Chg [g] w ((((wc.setCell ⟨w1.heap.size, 0, none⟩ (.slice K_n.Heap.Bytes.a K_n.Heap.Bytes.len K_n.Heap.Bytes.cap)).setCell ⟨w1.heap.size, 1, none⟩ (.slice K_n.Heap.Class.a K_n.Heap.Class.len K_n.Heap.Class.cap)).setCell ⟨w1.heap.size, 2, none⟩ (.slice K_n.Lists.Global.a K_n.Lists.Global.len K_n.Lists.Global.cap)).setCell ⟨w1.heap.size, 3, none⟩ (.slice K_n.Lists.Own.a K_n.Lists.Own.len K_n.Lists.Own.cap)) := ((((hC.set_new (by omega) _).set_new (by omega) _).set_new (by omega) _).set_new (by omega) _)
        have sz : wc.heap.size ≤ ((((wc.setCell ⟨w1.heap.size, 0, none⟩ (.slice K_n.Heap.Bytes.a K_n.Heap.Bytes.len K_n.Heap.Bytes.cap)).setCell ⟨w1.heap.size, 1, none⟩ (.slice K_n.Heap.Class.a K_n.Heap.Class.len K_n.Heap.Class.cap)).setCell ⟨w1.heap.size, 2, none⟩ (.slice K_n.Lists.Global.a K_n.Lists.Global.len K_n.Lists.Global.cap)).setCell ⟨w1.heap.size, 3, none⟩ (.slice K_n.Lists.Own.a K_n.Lists.Own.len K_n.Lists.Own.cap)).heap.size := by simp
        generalize hG : ((((wc.setCell ⟨w1.heap.size, 0, none⟩ (.slice K_n.Heap.Bytes.a K_n.Heap.Bytes.len K_n.Heap.Bytes.cap)).setCell ⟨w1.heap.size, 1, none⟩ (.slice K_n.Heap.Class.a K_n.Heap.Class.len K_n.Heap.Class.cap)).setCell ⟨w1.heap.size, 2, none⟩ (.slice K_n.Lists.Global.a K_n.Lists.Global.len K_n.Lists.Global.cap)).setCell ⟨w1.heap.size, 3, none⟩ (.slice K_n.Lists.Own.a K_n.Lists.Own.len K_n.Lists.Own.cap)) = w21 at B_m B_r B_x o_l o_n hC hc sz ⊢
        clear hG
        replace sC := hC.size
        replace q_m_0 := B_m.cell 0 _ rfl
        replace q_m_1 := B_m.cell 1 _ rfl
        replace q_m_2 := B_m.cell 2 _ rfl
        replace q_m_3 := B_m.cell 3 _ rfl
        replace fr_m := B_m.fro
        replace z_m := B_m.lt
        replace q_r_0 := B_r.cell 0 _ rfl
        replace q_r_1 := B_r.cell 1 _ rfl
        replace q_r_2 := B_r.cell 2 _ rfl
        replace q_r_3 := B_r.cell 3 _ rfl
        replace fr_r := B_r.fro
        replace z_r := B_r.lt
        replace q_x_0 := B_x.cell 0 _ rfl
        replace q_x_1 := B_x.cell 1 _ rfl
        replace q_x_2 := B_x.cell 2 _ rfl
        replace q_x_3 := B_x.cell 3 _ rfl
        replace fr_x := B_x.fro
        replace z_x := B_x.lt
        replace pL := OwL.cellsI o_l
        go_wp2_with fail
        go_roundw
        case rel => exact ⟨k - 1, K_n, y, l, by go_num, by omega, B_m, B_r, o_n, HY, fun b hb => by have := l_n b hb; omega, o_l, fun b hb => ⟨(n_l b hb).1, (n_l b hb).2.1, fun hm => by have := l_n b hm; have := u_l b hb; omega⟩, hl0, by omega, hc, hC⟩
        case measure => simp [intOf]; omega
    · have hbs : b = false ∨ (b = true ∧ ¬ 1 < l.length) := by cases b with | false => exact .inl rfl | true => exact .inr ⟨rfl, fun h => hnb ⟨rfl, h⟩⟩
      clear hnb
      rcases hbs with rfl | ⟨rfl, h1n⟩
      all_goals
        have zp_m := z_m
        have zp_r := z_r
        go_upto_region 9 with (fail)
        go_cut [11, 12, 13] from 23 to 57 (fun v11 v12 v13 wx => ∃ (go : Nat) (K_n : HMem) (y : Mem) (h_ : Int) (cd : Int), v11 = .pointer (some ⟨go, 0, none⟩) ∧ v12 = .int .i64 h_ ∧ v13 = .int .i64 cd ∧ (MemP y) ∧ Box wx (w1.heap.size) [.slice K_m.Heap.Bytes.a K_m.Heap.Bytes.len K_m.Heap.Bytes.cap, .slice K_m.Heap.Class.a K_m.Heap.Class.len K_m.Heap.Class.cap, .slice K_m.Lists.Global.a K_m.Lists.Global.len K_m.Lists.Global.cap, .slice K_m.Lists.Own.a K_m.Lists.Own.len K_m.Lists.Own.cap] ∧ Box wx (w.heap.size) [.slice none 0 0, .slice none 0 0, .slice none 0 0, .slice none 0 0] ∧ Box wx go [.slice K_n.Heap.Bytes.a K_n.Heap.Bytes.len K_n.Heap.Bytes.cap, .slice K_n.Heap.Class.a K_n.Heap.Class.len K_n.Heap.Class.cap, .slice K_n.Lists.Global.a K_n.Lists.Global.len K_n.Lists.Global.cap, .slice K_n.Lists.Own.a K_n.Lists.Own.len K_n.Lists.Own.cap] ∧ OwMem wx K_m x ∧ OwL FI 3 wx (.slice (some ⟨gl, 0, none⟩) l.length cp) l ∧ OwMem wx K_n y ∧ (∀ b ∈ K_n.foot, w11.heap.size ≤ b ∧ b ≠ go) ∧ w11.heap.size ≤ go ∧ Cur wx g code ∧ Chg [g] w wx ∧ w11.heap.size ≤ wx.heap.size)
        case first =>
          go_region_held3 (fun w' => w'.cell? ⟨w1.heap.size, 0, none⟩ = some (.slice K_m.Heap.Bytes.a K_m.Heap.Bytes.len K_m.Heap.Bytes.cap) ∧ w'.cell? ⟨w1.heap.size, 1, none⟩ = some (.slice K_m.Heap.Class.a K_m.Heap.Class.len K_m.Heap.Class.cap) ∧ w'.cell? ⟨w1.heap.size, 2, none⟩ = some (.slice K_m.Lists.Global.a K_m.Lists.Global.len K_m.Lists.Global.cap) ∧ w'.cell? ⟨w1.heap.size, 3, none⟩ = some (.slice K_m.Lists.Own.a K_m.Lists.Own.len K_m.Lists.Own.cap)) (first | (with_reducible exact ⟨q_m_0, q_m_1, q_m_2, q_m_3⟩) | (refine ⟨?_, ?_, ?_, ?_⟩ <;> (repeat (first | with_reducible assumption | with_reducible refine cell_set_o ?_ (by omega) | with_reducible refine cell_alloc_o ?_ (by omega) | with_reducible refine cell_drew_o ?_ | intro _ _ | (with_reducible apply pL; with_reducible assumption))); done) | (go_keep; done)) (first | (go_at_call 63; (first | ((with_reducible refine (l1Below_ct _ g code _ (by unfold I64; omega) hc).mono ?_); rintro e wq ⟨c_, rfl, c0, c1, hcn, hx⟩; replace B_m := B_m.chg hx (by simp only [List.mem_cons, List.not_mem_nil, or_false]; omega); replace B_r := B_r.chg hx (by simp only [List.mem_cons, List.not_mem_nil, or_false]; omega); replace o_m := o_m.chg hx (fun b hb hm => by simp only [List.mem_cons, List.not_mem_nil, or_false] at hm; have := n_m b hb; have := u_m b hb; omega); replace o_l := o_l.chg hx (fun b hb hm => by simp only [List.mem_cons, List.not_mem_nil, or_false] at hm; have := n_l b hb; have := u_l b hb; omega); (try replace o_n := o_n.chg hx (fun b hb hm => by simp only [List.mem_cons, List.not_mem_nil, or_false] at hm; have := l_n b hb; have := u_n b hb; omega)); (try replace B_x := B_x.chg hx (by simp only [List.mem_cons, List.not_mem_nil, or_false]; omega)); (try replace q_x_0 := B_x.cell 0 _ rfl); (try replace q_x_1 := B_x.cell 1 _ rfl); (try replace q_x_2 := B_x.cell 2 _ rfl); (try replace q_x_3 := B_x.cell 3 _ rfl); (try replace q_x_f := B_x.fro); (try replace z_x := B_x.lt); replace hC := Chg.trans hC hx; replace hc := hcn; have sz := hx.size; replace sC := hC.size; clear hx; replace q_m_0 := B_m.cell 0 _ rfl; replace q_m_1 := B_m.cell 1 _ rfl; replace q_m_2 := B_m.cell 2 _ rfl; replace q_m_3 := B_m.cell 3 _ rfl; replace fr_m := B_m.fro; replace z_m := B_m.lt; replace q_r_0 := B_r.cell 0 _ rfl; replace q_r_1 := B_r.cell 1 _ rfl; replace q_r_2 := B_r.cell 2 _ rfl; replace q_r_3 := B_r.cell 3 _ rfl; replace fr_r := B_r.fro; replace z_r := B_r.lt; replace pL := OwL.cellsI o_l; obtain ⟨c_, rfl⟩ := Int.eq_ofNat_of_zero_le c0) | ((with_reducible refine (l1Below_ct _ g code _ (by unfold I64; omega) (hc.alloc _)).mono ?_); rintro e wq ⟨c_, rfl, c0, c1, hcn, hx⟩; have ly_m := B_m.lt; have ly_r := B_r.lt; replace B_m := (B_m.alloc _).chg hx (by simp only [List.mem_cons, List.not_mem_nil, or_false]; omega); replace B_r := (B_r.alloc _).chg hx (by simp only [List.mem_cons, List.not_mem_nil, or_false]; omega); replace o_m := (o_m.alloc_ _).chg hx (fun b hb hm => by simp only [List.mem_cons, List.not_mem_nil, or_false] at hm; have := n_m b hb; have := u_m b hb; omega); replace o_l := (o_l.alloc_ _).chg hx (fun b hb hm => by simp only [List.mem_cons, List.not_mem_nil, or_false] at hm; have := n_l b hb; have := u_l b hb; omega); (try replace o_n := (o_n.alloc_ _).chg hx (fun b hb hm => by simp only [List.mem_cons, List.not_mem_nil, or_false] at hm; have := l_n b hb; have := u_n b hb; omega)); have B_x := Box.chg (Box.new _ #[.slice none 0 0, .slice none 0 0, .slice none 0 0, .slice none 0 0] 31) hx (by simp only [List.mem_cons, List.not_mem_nil, or_false]; omega); have la_x := hC.size; have q_x_f := B_x.fro; have z_x := B_x.lt; have q_x_0 := B_x.cell 0 _ rfl; have q_x_1 := B_x.cell 1 _ rfl; have q_x_2 := B_x.cell 2 _ rfl; have q_x_3 := B_x.cell 3 _ rfl; replace hC := Chg.trans (hC.alloc_ _) hx; replace hc := hcn; have sz := sz_alloc hx.size; replace sC := hC.size; clear hx; replace q_m_0 := B_m.cell 0 _ rfl; replace q_m_1 := B_m.cell 1 _ rfl; replace q_m_2 := B_m.cell 2 _ rfl; replace q_m_3 := B_m.cell 3 _ rfl; replace fr_m := B_m.fro; replace z_m := B_m.lt; replace q_r_0 := B_r.cell 0 _ rfl; replace q_r_1 := B_r.cell 1 _ rfl; replace q_r_2 := B_r.cell 2 _ rfl; replace q_r_3 := B_r.cell 3 _ rfl; replace fr_r := B_r.fro; replace z_r := B_r.lt; replace pL := OwL.cellsI o_l; obtain ⟨c_, rfl⟩ := Int.eq_ofNat_of_zero_le c0) | ((with_reducible refine (l1Below_ct _ g code _ (by unfold I64; omega) (hc.drew_)).mono ?_); rintro e wq ⟨c_, rfl, c0, c1, hcn, hx⟩; replace B_m := B_m.drew.chg hx (by simp only [List.mem_cons, List.not_mem_nil, or_false]; omega); replace B_r := B_r.drew.chg hx (by simp only [List.mem_cons, List.not_mem_nil, or_false]; omega); replace o_m := (o_m.drew_).chg hx (fun b hb hm => by simp only [List.mem_cons, List.not_mem_nil, or_false] at hm; have := n_m b hb; have := u_m b hb; omega); replace o_l := (o_l.drew_).chg hx (fun b hb hm => by simp only [List.mem_cons, List.not_mem_nil, or_false] at hm; have := n_l b hb; have := u_l b hb; omega); (try replace o_n := (o_n.drew_).chg hx (fun b hb hm => by simp only [List.mem_cons, List.not_mem_nil, or_false] at hm; have := l_n b hb; have := u_n b hb; omega)); (try replace B_x := B_x.drew.chg hx (by simp only [List.mem_cons, List.not_mem_nil, or_false]; omega)); (try replace q_x_0 := B_x.cell 0 _ rfl); (try replace q_x_1 := B_x.cell 1 _ rfl); (try replace q_x_2 := B_x.cell 2 _ rfl); (try replace q_x_3 := B_x.cell 3 _ rfl); (try replace q_x_f := B_x.fro); (try replace z_x := B_x.lt); replace hC := Chg.trans hC.drew_ hx; replace hc := hcn; have sz := sz_drew hx.size; replace sC := hC.size; clear hx; replace q_m_0 := B_m.cell 0 _ rfl; replace q_m_1 := B_m.cell 1 _ rfl; replace q_m_2 := B_m.cell 2 _ rfl; replace q_m_3 := B_m.cell 3 _ rfl; replace fr_m := B_m.fro; replace z_m := B_m.lt; replace q_r_0 := B_r.cell 0 _ rfl; replace q_r_1 := B_r.cell 1 _ rfl; replace q_r_2 := B_r.cell 2 _ rfl; replace q_r_3 := B_r.cell 3 _ rfl; replace fr_r := B_r.fro; replace z_r := B_r.lt; replace pL := OwL.cellsI o_l; obtain ⟨c_, rfl⟩ := Int.eq_ofNat_of_zero_le c0) | ((with_reducible refine (l1Below_ct _ g code _ (by unfold I64; omega) ((hc.drew_).alloc _)).mono ?_); rintro e wq ⟨c_, rfl, c0, c1, hcn, hx⟩; have ly_m := B_m.lt; have ly_r := B_r.lt; replace B_m := ((B_m.drew).alloc _).chg hx (by simp only [List.mem_cons, List.not_mem_nil, or_false]; omega); replace B_r := ((B_r.drew).alloc _).chg hx (by simp only [List.mem_cons, List.not_mem_nil, or_false]; omega); replace o_m := ((o_m.drew_).alloc_ _).chg hx (fun b hb hm => by simp only [List.mem_cons, List.not_mem_nil, or_false] at hm; have := n_m b hb; have := u_m b hb; omega); replace o_l := ((o_l.drew_).alloc_ _).chg hx (fun b hb hm => by simp only [List.mem_cons, List.not_mem_nil, or_false] at hm; have := n_l b hb; have := u_l b hb; omega); (try replace o_n := ((o_n.drew_).alloc_ _).chg hx (fun b hb hm => by simp only [List.mem_cons, List.not_mem_nil, or_false] at hm; have := l_n b hb; have := u_n b hb; omega)); have B_x := Box.chg (Box.new _ #[.slice none 0 0, .slice none 0 0, .slice none 0 0, .slice none 0 0] 31) hx (by simp only [List.mem_cons, List.not_mem_nil, or_false]; omega); (try simp only [size_drew_] at B_x); have la_x := hC.size; have q_x_f := B_x.fro; have z_x := B_x.lt; have q_x_0 := B_x.cell 0 _ rfl; have q_x_1 := B_x.cell 1 _ rfl; have q_x_2 := B_x.cell 2 _ rfl; have q_x_3 := B_x.cell 3 _ rfl; replace hC := Chg.trans (hC.drew_.alloc_ _) hx; replace hc := hcn; have sz := sz_alloc_drew hx.size; replace sC := hC.size; clear hx; replace q_m_0 := B_m.cell 0 _ rfl; replace q_m_1 := B_m.cell 1 _ rfl; replace q_m_2 := B_m.cell 2 _ rfl; replace q_m_3 := B_m.cell 3 _ rfl; replace fr_m := B_m.fro; replace z_m := B_m.lt; replace q_r_0 := B_r.cell 0 _ rfl; replace q_r_1 := B_r.cell 1 _ rfl; replace q_r_2 := B_r.cell 2 _ rfl; replace q_r_3 := B_r.cell 3 _ rfl; replace fr_r := B_r.fro; replace z_r := B_r.lt; replace pL := OwL.cellsI o_l; obtain ⟨c_, rfl⟩ := Int.eq_ofNat_of_zero_le c0) | ((with_reducible refine (l1Below_ct _ g code _ (by unfold I64; omega) ((hc.alloc _).drew_)).mono ?_); rintro e wq ⟨c_, rfl, c0, c1, hcn, hx⟩; have ly_m := B_m.lt; have ly_r := B_r.lt; replace B_m := (B_m.alloc _).drew.chg hx (by simp only [List.mem_cons, List.not_mem_nil, or_false]; omega); replace B_r := (B_r.alloc _).drew.chg hx (by simp only [List.mem_cons, List.not_mem_nil, or_false]; omega); replace o_m := ((o_m.alloc_ _).drew_).chg hx (fun b hb hm => by simp only [List.mem_cons, List.not_mem_nil, or_false] at hm; have := n_m b hb; have := u_m b hb; omega); replace o_l := ((o_l.alloc_ _).drew_).chg hx (fun b hb hm => by simp only [List.mem_cons, List.not_mem_nil, or_false] at hm; have := n_l b hb; have := u_l b hb; omega); (try replace o_n := ((o_n.alloc_ _).drew_).chg hx (fun b hb hm => by simp only [List.mem_cons, List.not_mem_nil, or_false] at hm; have := l_n b hb; have := u_n b hb; omega)); have B_x := Box.chg (Box.new _ #[.slice none 0 0, .slice none 0 0, .slice none 0 0, .slice none 0 0] 31).drew hx (by simp only [List.mem_cons, List.not_mem_nil, or_false]; omega); have la_x := hC.size; have q_x_f := B_x.fro; have z_x := B_x.lt; have q_x_0 := B_x.cell 0 _ rfl; have q_x_1 := B_x.cell 1 _ rfl; have q_x_2 := B_x.cell 2 _ rfl; have q_x_3 := B_x.cell 3 _ rfl; replace hC := Chg.trans (hC.alloc_ _).drew_ hx; replace hc := hcn; have sz := sz_alloc (sz_drew hx.size); replace sC := hC.size; clear hx; replace q_m_0 := B_m.cell 0 _ rfl; replace q_m_1 := B_m.cell 1 _ rfl; replace q_m_2 := B_m.cell 2 _ rfl; replace q_m_3 := B_m.cell 3 _ rfl; replace fr_m := B_m.fro; replace z_m := B_m.lt; replace q_r_0 := B_r.cell 0 _ rfl; replace q_r_1 := B_r.cell 1 _ rfl; replace q_r_2 := B_r.cell 2 _ rfl; replace q_r_3 := B_r.cell 3 _ rfl; replace fr_r := B_r.fro; replace z_r := B_r.lt; replace pL := OwL.cellsI o_l; obtain ⟨c_, rfl⟩ := Int.eq_ofNat_of_zero_le c0))) | (go_at_call 35; (first | ((with_reducible refine (AllocNow_draw _ K_m x _ _ (o_m).rd' HP).mono ?_); rintro e wq ⟨K_n, y, h_, cd, rfl, o_n, HY, l_n, hb⟩; have u_n := o_n.lt; replace B_m := B_m.below hb; replace B_r := B_r.below hb; replace o_m := o_m.step0 hb; replace o_l := o_l.step0 hb; (try replace B_x := B_x.below hb); (try replace q_x_0 := B_x.cell 0 _ rfl); (try replace q_x_1 := B_x.cell 1 _ rfl); (try replace q_x_2 := B_x.cell 2 _ rfl); (try replace q_x_3 := B_x.cell 3 _ rfl); (try replace q_x_f := B_x.fro); (try replace z_x := B_x.lt); replace hc := Cur.up hc hb; replace hC := Chg.trans hC (Chg.of_below hb); have sz := hb.size; replace sC := hC.size; clear hb; replace q_m_0 := B_m.cell 0 _ rfl; replace q_m_1 := B_m.cell 1 _ rfl; replace q_m_2 := B_m.cell 2 _ rfl; replace q_m_3 := B_m.cell 3 _ rfl; replace fr_m := B_m.fro; replace z_m := B_m.lt; replace q_r_0 := B_r.cell 0 _ rfl; replace q_r_1 := B_r.cell 1 _ rfl; replace q_r_2 := B_r.cell 2 _ rfl; replace q_r_3 := B_r.cell 3 _ rfl; replace fr_r := B_r.fro; replace z_r := B_r.lt; replace pL := OwL.cellsI o_l) | ((with_reducible refine (AllocNow_draw _ K_m x _ _ ((o_m.alloc_ _)).rd' HP).mono ?_); rintro e wq ⟨K_n, y, h_, cd, rfl, o_n, HY, l_n, hb⟩; replace l_n := lc_alloc l_n; have u_n := o_n.lt; have ly_m := B_m.lt; have ly_r := B_r.lt; replace B_m := (B_m.alloc _).below hb; replace B_r := (B_r.alloc _).below hb; replace o_m := (o_m.alloc_ _).step0 hb; replace o_l := (o_l.alloc_ _).step0 hb; have B_x := Box.below (Box.new _ #[.slice none 0 0, .slice none 0 0, .slice none 0 0, .slice none 0 0] 31) hb; have la_x := hC.size; have q_x_f := B_x.fro; have z_x := B_x.lt; have q_x_0 := B_x.cell 0 _ rfl; have q_x_1 := B_x.cell 1 _ rfl; have q_x_2 := B_x.cell 2 _ rfl; have q_x_3 := B_x.cell 3 _ rfl; replace hc := Cur.up (hc.alloc _) hb; replace hC := Chg.trans (hC.alloc_ _) (Chg.of_below hb); have sz := sz_alloc hb.size; replace sC := hC.size; clear hb; replace q_m_0 := B_m.cell 0 _ rfl; replace q_m_1 := B_m.cell 1 _ rfl; replace q_m_2 := B_m.cell 2 _ rfl; replace q_m_3 := B_m.cell 3 _ rfl; replace fr_m := B_m.fro; replace z_m := B_m.lt; replace q_r_0 := B_r.cell 0 _ rfl; replace q_r_1 := B_r.cell 1 _ rfl; replace q_r_2 := B_r.cell 2 _ rfl; replace q_r_3 := B_r.cell 3 _ rfl; replace fr_r := B_r.fro; replace z_r := B_r.lt; replace pL := OwL.cellsI o_l) | ((with_reducible refine (AllocNow_draw _ K_m x _ _ ((o_m.drew_)).rd' HP).mono ?_); rintro e wq ⟨K_n, y, h_, cd, rfl, o_n, HY, l_n, hb⟩; replace hb := undrew hb; replace l_n := fcdrew l_n; have u_n := o_n.lt; replace B_m := B_m.below hb; replace B_r := B_r.below hb; replace o_m := o_m.step0 hb; replace o_l := o_l.step0 hb; (try replace B_x := B_x.below hb); (try replace q_x_0 := B_x.cell 0 _ rfl); (try replace q_x_1 := B_x.cell 1 _ rfl); (try replace q_x_2 := B_x.cell 2 _ rfl); (try replace q_x_3 := B_x.cell 3 _ rfl); (try replace q_x_f := B_x.fro); (try replace z_x := B_x.lt); replace hc := Cur.up hc hb; replace hC := Chg.trans hC (Chg.of_below hb); have sz := hb.size; replace sC := hC.size; clear hb; replace q_m_0 := B_m.cell 0 _ rfl; replace q_m_1 := B_m.cell 1 _ rfl; replace q_m_2 := B_m.cell 2 _ rfl; replace q_m_3 := B_m.cell 3 _ rfl; replace fr_m := B_m.fro; replace z_m := B_m.lt; replace q_r_0 := B_r.cell 0 _ rfl; replace q_r_1 := B_r.cell 1 _ rfl; replace q_r_2 := B_r.cell 2 _ rfl; replace q_r_3 := B_r.cell 3 _ rfl; replace fr_r := B_r.fro; replace z_r := B_r.lt; replace pL := OwL.cellsI o_l) | ((with_reducible refine (AllocNow_draw _ K_m x _ _ (((o_m.drew_).alloc_ _)).rd' HP).mono ?_); rintro e wq ⟨K_n, y, h_, cd, rfl, o_n, HY, l_n, hb⟩; replace l_n := lc_alloc_drew l_n; have u_n := o_n.lt; have ly_m := B_m.lt; have ly_r := B_r.lt; replace B_m := ((B_m.drew).alloc _).below hb; replace B_r := ((B_r.drew).alloc _).below hb; replace o_m := ((o_m.drew_).alloc_ _).step0 hb; replace o_l := ((o_l.drew_).alloc_ _).step0 hb; have B_x := Box.below (Box.new _ #[.slice none 0 0, .slice none 0 0, .slice none 0 0, .slice none 0 0] 31) hb; (try simp only [size_drew_] at B_x); have la_x := hC.size; have q_x_f := B_x.fro; have z_x := B_x.lt; have q_x_0 := B_x.cell 0 _ rfl; have q_x_1 := B_x.cell 1 _ rfl; have q_x_2 := B_x.cell 2 _ rfl; have q_x_3 := B_x.cell 3 _ rfl; replace hc := Cur.up ((hc.drew_).alloc _) hb; replace hC := Chg.trans (hC.drew_.alloc_ _) (Chg.of_below hb); have sz := sz_alloc_drew hb.size; replace sC := hC.size; clear hb; replace q_m_0 := B_m.cell 0 _ rfl; replace q_m_1 := B_m.cell 1 _ rfl; replace q_m_2 := B_m.cell 2 _ rfl; replace q_m_3 := B_m.cell 3 _ rfl; replace fr_m := B_m.fro; replace z_m := B_m.lt; replace q_r_0 := B_r.cell 0 _ rfl; replace q_r_1 := B_r.cell 1 _ rfl; replace q_r_2 := B_r.cell 2 _ rfl; replace q_r_3 := B_r.cell 3 _ rfl; replace fr_r := B_r.fro; replace z_r := B_r.lt; replace pL := OwL.cellsI o_l) | ((with_reducible refine (AllocNow_draw _ K_m x _ _ (((o_m.alloc_ _).drew_)).rd' HP).mono ?_); rintro e wq ⟨K_n, y, h_, cd, rfl, o_n, HY, l_n, hb⟩; replace hb := undrew hb; replace l_n := fcdrew l_n; replace l_n := lc_alloc l_n; have u_n := o_n.lt; have ly_m := B_m.lt; have ly_r := B_r.lt; replace B_m := (B_m.alloc _).below hb; replace B_r := (B_r.alloc _).below hb; replace o_m := (o_m.alloc_ _).step0 hb; replace o_l := (o_l.alloc_ _).step0 hb; have B_x := Box.below (Box.new _ #[.slice none 0 0, .slice none 0 0, .slice none 0 0, .slice none 0 0] 31) hb; have la_x := hC.size; have q_x_f := B_x.fro; have z_x := B_x.lt; have q_x_0 := B_x.cell 0 _ rfl; have q_x_1 := B_x.cell 1 _ rfl; have q_x_2 := B_x.cell 2 _ rfl; have q_x_3 := B_x.cell 3 _ rfl; replace hc := Cur.up (hc.alloc _) hb; replace hC := Chg.trans (hC.alloc_ _) (Chg.of_below hb); have sz := sz_alloc hb.size; replace sC := hC.size; clear hb; replace q_m_0 := B_m.cell 0 _ rfl; replace q_m_1 := B_m.cell 1 _ rfl; replace q_m_2 := B_m.cell 2 _ rfl; replace q_m_3 := B_m.cell 3 _ rfl; replace fr_m := B_m.fro; replace z_m := B_m.lt; replace q_r_0 := B_r.cell 0 _ rfl; replace q_r_1 := B_r.cell 1 _ rfl; replace q_r_2 := B_r.cell 2 _ rfl; replace q_r_3 := B_r.cell 3 _ rfl; replace fr_r := B_r.fro; replace z_r := B_r.lt; replace pL := OwL.cellsI o_l))))
          all_goals
            go_wp2_with fail
            go_meet
            first | exact ⟨_, K_n, y, h_, cd, rfl, rfl, rfl, HY, B_m.alloc _, B_r.alloc _, Box.new _ _ _, o_m.alloc_ _, o_l.alloc_ _, o_n.alloc_ _, fun b hb => ⟨by have := l_n b hb; omega, by have := u_n b hb; omega⟩, by omega, hc.alloc _, hC.alloc_ _, by simp <;> omega⟩ | (obtain ⟨go, hgo, B_go⟩ := B_x.ad; rw [← hgo]; rw [← hgo] at la_x; exact ⟨go, K_n, y, h_, cd, rfl, rfl, rfl, HY, ((((B_m.other (by omega) _).other (by omega) _).other (by omega) _).other (by omega) _), ((((B_r.other (by omega) _).other (by omega) _).other (by omega) _).other (by omega) _), ((((B_go.set 0 _).set 1 _).set 2 _).set 3 _), o_m.chg (F := [go]) (by repeat (first | with_reducible exact Chg.refl _ _ | with_reducible refine Chg.set_ ?_ (by simp) _ | with_reducible refine Chg.alloc_ ?_ _ | with_reducible refine Chg.drew_ ?_)) (fun b hb hm => by simp only [List.mem_cons, List.not_mem_nil, or_false] at hm; have := n_m b hb; have := u_m b hb; omega), o_l.chg (F := [go]) (by repeat (first | with_reducible exact Chg.refl _ _ | with_reducible refine Chg.set_ ?_ (by simp) _ | with_reducible refine Chg.alloc_ ?_ _ | with_reducible refine Chg.drew_ ?_)) (fun b hb hm => by simp only [List.mem_cons, List.not_mem_nil, or_false] at hm; have := n_l b hb; have := u_l b hb; omega), o_n.chg (F := [go]) (by repeat (first | with_reducible exact Chg.refl _ _ | with_reducible refine Chg.set_ ?_ (by simp) _ | with_reducible refine Chg.alloc_ ?_ _ | with_reducible refine Chg.drew_ ?_)) (fun b hb hm => by simp only [List.mem_cons, List.not_mem_nil, or_false] at hm; have := l_n b hb; have := u_n b hb; omega), fun b hb => ⟨by have := l_n b hb; omega, by have := l_n b hb; have := u_n b hb; omega⟩, by omega, hc.keepB (B := w.heap.size) hgl (by repeat (first | with_reducible exact Below.refl _ _ | with_reducible refine Below.setCell ?_ (by simp <;> omega) _ | with_reducible refine Below.alloc ?_ (by simp <;> omega) _ | with_reducible refine Below.drew ?_)) hC.size, ((((hC.set_new (by omega) _).set_new (by omega) _).set_new (by omega) _).set_new (by omega) _), by simp <;> omega⟩)
        case rest =>
          clear B_m fr_m z_m q_m_0 q_m_1 q_m_2 q_m_3
          clear B_r fr_r z_r q_r_0 q_r_1 q_r_2 q_r_3
          clear o_m
          clear o_l
          clear pL
          clear hC hc
          obtain ⟨go, K_n, y, h_, cd, rfl, rfl, rfl, HY, B_m, B_r, B_x, o_m, o_l, o_n, l_n, lo_x, hc, hC, sz⟩ := hcut
          have zz_x := B_x.lt
          have la_x : w.heap.size ≤ go := by omega
          have u_n := o_n.lt
          have sC := hC.size
          have q_m_0 := B_m.cell 0 _ rfl
          have q_m_1 := B_m.cell 1 _ rfl
          have q_m_2 := B_m.cell 2 _ rfl
          have q_m_3 := B_m.cell 3 _ rfl
          have fr_m := B_m.fro
          have z_m := B_m.lt
          have q_r_0 := B_r.cell 0 _ rfl
          have q_r_1 := B_r.cell 1 _ rfl
          have q_r_2 := B_r.cell 2 _ rfl
          have q_r_3 := B_r.cell 3 _ rfl
          have fr_r := B_r.fro
          have z_r := B_r.lt
          have q_x_0 := B_x.cell 0 _ rfl
          have q_x_1 := B_x.cell 1 _ rfl
          have q_x_2 := B_x.cell 2 _ rfl
          have q_x_3 := B_x.cell 3 _ rfl
          have fr_x := B_x.fro
          have z_x := B_x.lt
          have pL := OwL.cellsI o_l
          go_upto_region 11 with (fail)
          clear o_m
          replace B_m : Box ((((wc.setCell ⟨w1.heap.size, 0, none⟩ (.slice K_n.Heap.Bytes.a K_n.Heap.Bytes.len K_n.Heap.Bytes.cap)).setCell ⟨w1.heap.size, 1, none⟩ (.slice K_n.Heap.Class.a K_n.Heap.Class.len K_n.Heap.Class.cap)).setCell ⟨w1.heap.size, 2, none⟩ (.slice K_n.Lists.Global.a K_n.Lists.Global.len K_n.Lists.Global.cap)).setCell ⟨w1.heap.size, 3, none⟩ (.slice K_n.Lists.Own.a K_n.Lists.Own.len K_n.Lists.Own.cap)) (w1.heap.size) [.slice K_n.Heap.Bytes.a K_n.Heap.Bytes.len K_n.Heap.Bytes.cap, .slice K_n.Heap.Class.a K_n.Heap.Class.len K_n.Heap.Class.cap, .slice K_n.Lists.Global.a K_n.Lists.Global.len K_n.Lists.Global.cap, .slice K_n.Lists.Own.a K_n.Lists.Own.len K_n.Lists.Own.cap] := ((((B_m.set 0 (.slice K_n.Heap.Bytes.a K_n.Heap.Bytes.len K_n.Heap.Bytes.cap)).set 1 (.slice K_n.Heap.Class.a K_n.Heap.Class.len K_n.Heap.Class.cap)).set 2 (.slice K_n.Lists.Global.a K_n.Lists.Global.len K_n.Lists.Global.cap)).set 3 (.slice K_n.Lists.Own.a K_n.Lists.Own.len K_n.Lists.Own.cap))
          replace B_r : Box ((((wc.setCell ⟨w1.heap.size, 0, none⟩ (.slice K_n.Heap.Bytes.a K_n.Heap.Bytes.len K_n.Heap.Bytes.cap)).setCell ⟨w1.heap.size, 1, none⟩ (.slice K_n.Heap.Class.a K_n.Heap.Class.len K_n.Heap.Class.cap)).setCell ⟨w1.heap.size, 2, none⟩ (.slice K_n.Lists.Global.a K_n.Lists.Global.len K_n.Lists.Global.cap)).setCell ⟨w1.heap.size, 3, none⟩ (.slice K_n.Lists.Own.a K_n.Lists.Own.len K_n.Lists.Own.cap)) (w.heap.size) [.slice none 0 0, .slice none 0 0, .slice none 0 0, .slice none 0 0] := ((((B_r.other (by omega) _).other (by omega) _).other (by omega) _).other (by omega) _)
          replace B_x : Box ((((wc.setCell ⟨w1.heap.size, 0, none⟩ (.slice K_n.Heap.Bytes.a K_n.Heap.Bytes.len K_n.Heap.Bytes.cap)).setCell ⟨w1.heap.size, 1, none⟩ (.slice K_n.Heap.Class.a K_n.Heap.Class.len K_n.Heap.Class.cap)).setCell ⟨w1.heap.size, 2, none⟩ (.slice K_n.Lists.Global.a K_n.Lists.Global.len K_n.Lists.Global.cap)).setCell ⟨w1.heap.size, 3, none⟩ (.slice K_n.Lists.Own.a K_n.Lists.Own.len K_n.Lists.Own.cap)) (go) [.slice K_n.Heap.Bytes.a K_n.Heap.Bytes.len K_n.Heap.Bytes.cap, .slice K_n.Heap.Class.a K_n.Heap.Class.len K_n.Heap.Class.cap, .slice K_n.Lists.Global.a K_n.Lists.Global.len K_n.Lists.Global.cap, .slice K_n.Lists.Own.a K_n.Lists.Own.len K_n.Lists.Own.cap] := ((((B_x.other (by omega) _).other (by omega) _).other (by omega) _).other (by omega) _)
          replace o_l := o_l.chg (F := [w1.heap.size]) (w' := ((((wc.setCell ⟨w1.heap.size, 0, none⟩ (.slice K_n.Heap.Bytes.a K_n.Heap.Bytes.len K_n.Heap.Bytes.cap)).setCell ⟨w1.heap.size, 1, none⟩ (.slice K_n.Heap.Class.a K_n.Heap.Class.len K_n.Heap.Class.cap)).setCell ⟨w1.heap.size, 2, none⟩ (.slice K_n.Lists.Global.a K_n.Lists.Global.len K_n.Lists.Global.cap)).setCell ⟨w1.heap.size, 3, none⟩ (.slice K_n.Lists.Own.a K_n.Lists.Own.len K_n.Lists.Own.cap))) (by repeat (first | with_reducible exact Chg.refl _ _ | with_reducible refine Chg.set_ ?_ (by simp) _ | with_reducible refine Chg.alloc_ ?_ _ | with_reducible refine Chg.drew_ ?_)) (fun b hb hm => by simp only [List.mem_cons, List.not_mem_nil, or_false] at hm; have := n_l b hb; have := u_l b hb; omega)
          replace o_n := o_n.chg (F := [w1.heap.size]) (w' := ((((wc.setCell ⟨w1.heap.size, 0, none⟩ (.slice K_n.Heap.Bytes.a K_n.Heap.Bytes.len K_n.Heap.Bytes.cap)).setCell ⟨w1.heap.size, 1, none⟩ (.slice K_n.Heap.Class.a K_n.Heap.Class.len K_n.Heap.Class.cap)).setCell ⟨w1.heap.size, 2, none⟩ (.slice K_n.Lists.Global.a K_n.Lists.Global.len K_n.Lists.Global.cap)).setCell ⟨w1.heap.size, 3, none⟩ (.slice K_n.Lists.Own.a K_n.Lists.Own.len K_n.Lists.Own.cap))) (by repeat (first | with_reducible exact Chg.refl _ _ | with_reducible refine Chg.set_ ?_ (by simp) _ | with_reducible refine Chg.alloc_ ?_ _ | with_reducible refine Chg.drew_ ?_)) (fun b hb hm => by simp only [List.mem_cons, List.not_mem_nil, or_false] at hm; have := l_n b hb; have := u_n b hb; omega)
          replace hc : Cur ((((wc.setCell ⟨w1.heap.size, 0, none⟩ (.slice K_n.Heap.Bytes.a K_n.Heap.Bytes.len K_n.Heap.Bytes.cap)).setCell ⟨w1.heap.size, 1, none⟩ (.slice K_n.Heap.Class.a K_n.Heap.Class.len K_n.Heap.Class.cap)).setCell ⟨w1.heap.size, 2, none⟩ (.slice K_n.Lists.Global.a K_n.Lists.Global.len K_n.Lists.Global.cap)).setCell ⟨w1.heap.size, 3, none⟩ (.slice K_n.Lists.Own.a K_n.Lists.Own.len K_n.Lists.Own.cap)) g code := hc.keepB (B := w.heap.size) hgl (by repeat (first | with_reducible exact Below.refl _ _ | with_reducible refine Below.setCell ?_ (by simp <;> omega) _ | with_reducible refine Below.alloc ?_ (by simp <;> omega) _ | with_reducible refine Below.drew ?_)) hC.size
          replace hC : Chg [g] w ((((wc.setCell ⟨w1.heap.size, 0, none⟩ (.slice K_n.Heap.Bytes.a K_n.Heap.Bytes.len K_n.Heap.Bytes.cap)).setCell ⟨w1.heap.size, 1, none⟩ (.slice K_n.Heap.Class.a K_n.Heap.Class.len K_n.Heap.Class.cap)).setCell ⟨w1.heap.size, 2, none⟩ (.slice K_n.Lists.Global.a K_n.Lists.Global.len K_n.Lists.Global.cap)).setCell ⟨w1.heap.size, 3, none⟩ (.slice K_n.Lists.Own.a K_n.Lists.Own.len K_n.Lists.Own.cap)) := ((((hC.set_new (by omega) _).set_new (by omega) _).set_new (by omega) _).set_new (by omega) _)
          have sz : wc.heap.size ≤ ((((wc.setCell ⟨w1.heap.size, 0, none⟩ (.slice K_n.Heap.Bytes.a K_n.Heap.Bytes.len K_n.Heap.Bytes.cap)).setCell ⟨w1.heap.size, 1, none⟩ (.slice K_n.Heap.Class.a K_n.Heap.Class.len K_n.Heap.Class.cap)).setCell ⟨w1.heap.size, 2, none⟩ (.slice K_n.Lists.Global.a K_n.Lists.Global.len K_n.Lists.Global.cap)).setCell ⟨w1.heap.size, 3, none⟩ (.slice K_n.Lists.Own.a K_n.Lists.Own.len K_n.Lists.Own.cap)).heap.size := by simp
          generalize hG : ((((wc.setCell ⟨w1.heap.size, 0, none⟩ (.slice K_n.Heap.Bytes.a K_n.Heap.Bytes.len K_n.Heap.Bytes.cap)).setCell ⟨w1.heap.size, 1, none⟩ (.slice K_n.Heap.Class.a K_n.Heap.Class.len K_n.Heap.Class.cap)).setCell ⟨w1.heap.size, 2, none⟩ (.slice K_n.Lists.Global.a K_n.Lists.Global.len K_n.Lists.Global.cap)).setCell ⟨w1.heap.size, 3, none⟩ (.slice K_n.Lists.Own.a K_n.Lists.Own.len K_n.Lists.Own.cap)) = w31 at B_m B_r B_x o_l o_n hC hc sz ⊢
          clear hG
          replace sC := hC.size
          replace q_m_0 := B_m.cell 0 _ rfl
          replace q_m_1 := B_m.cell 1 _ rfl
          replace q_m_2 := B_m.cell 2 _ rfl
          replace q_m_3 := B_m.cell 3 _ rfl
          replace fr_m := B_m.fro
          replace z_m := B_m.lt
          replace q_r_0 := B_r.cell 0 _ rfl
          replace q_r_1 := B_r.cell 1 _ rfl
          replace q_r_2 := B_r.cell 2 _ rfl
          replace q_r_3 := B_r.cell 3 _ rfl
          replace fr_r := B_r.fro
          replace z_r := B_r.lt
          replace q_x_0 := B_x.cell 0 _ rfl
          replace q_x_1 := B_x.cell 1 _ rfl
          replace q_x_2 := B_x.cell 2 _ rfl
          replace q_x_3 := B_x.cell 3 _ rfl
          replace fr_x := B_x.fro
          replace z_x := B_x.lt
          clear B_x fr_x z_x q_x_0 q_x_1 q_x_2 q_x_3
          by_cases hcd : cd = 0
          case neg =>
            have hcd' : (cd == 0) = false := by simpa using hcd
            go_wp2_with fail
            go_roundw
            case rel => exact ⟨k - 1, K_n, y, l, by go_num, by omega, B_m, B_r, o_n, HY, fun b hb => by have := l_n b hb; omega, o_l, fun b hb => ⟨(n_l b hb).1, (n_l b hb).2.1, fun hm => by have := l_n b hm; have := u_l b hb; omega⟩, hl0, by omega, hc, hC⟩
            case measure => simp [intOf]; omega
          subst hcd
          have hgn : gl ∉ K_n.foot := fun hm => by have := l_n gl hm; omega
          go_wp2_with (at_builtin; refine wpList_append_flat Tryz.stInt rfl _ _ rfl (v := .slice (some ⟨gl, 0, none⟩) l.length cp) (y := .slice (some ⟨w31.heap.size, 0, none⟩) 1 1) (l := l) (m := [h_]) rfl rfl (OwL.alloc_ o_l _) (OwL.lit FI [h_] #[.int .i64 h_] rfl (by simp [maxLen]) w31 3).rd' (by simp; omega) ?_; intro v4 w4 ho4 hg4 hat4; obtain ⟨A4, c4, hv4, _⟩ := id ho4.rd'; simp only [List.length_append, List.length_cons, List.length_nil] at hv4; subst hv4; have hx4 := Chg.of_grown hg4; have hx5 : Chg [gl] (w31.alloc (.cells #[.int .i64 h_] 3)) w4 := hx4.mono (fun b hb => by have := foot1_some.1 hb; simp [this]); have o_n5 := (o_n.alloc_ (.cells #[.int .i64 h_] 3)).chg hx5 (fun b hb hm => by simp only [List.mem_cons, List.not_mem_nil, or_false] at hm; subst hm; exact hgn hb); replace B_m := (B_m.alloc (.cells #[.int .i64 h_] 3)).chg hx5 (by simp; omega); replace q_m_0 := B_m.cell 0 _ rfl; replace q_m_1 := B_m.cell 1 _ rfl; replace q_m_2 := B_m.cell 2 _ rfl; replace q_m_3 := B_m.cell 3 _ rfl; replace fr_m := B_m.fro; replace z_m := B_m.lt; replace B_r := (B_r.alloc (.cells #[.int .i64 h_] 3)).chg hx5 (by simp; omega); replace q_r_0 := B_r.cell 0 _ rfl; replace q_r_1 := B_r.cell 1 _ rfl; replace q_r_2 := B_r.cell 2 _ rfl; replace q_r_3 := B_r.cell 3 _ rfl; replace fr_r := B_r.fro; replace z_r := B_r.lt; have hbl4 : Below w.heap.size w31 w4 := ((Below.refl _ _).alloc hC.size _).grown hg4 (by simp; omega) (fun b hb => by have := foot1_some.1 (mem_foot1.2 hb); omega))
          have hc5 := hc.keepB (B := w.heap.size) hgl hbl4 hC.size
          have hC5 := hC.then_ hbl4
          have sz5 := hbl4.size
          have sx5 := hx5.size
          simp only [World.size_alloc] at sx5
          have f4 : ∀ b ∈ foot1 (.slice A4 (l.length + (0 + 1)) c4), b = gl ∨ b = w31.heap.size + 1 := fun b hb => by rcases hat4 with h1 | h1; (rw [mem_foot1] at hb; rw [h1] at hb; exact .inl (foot1_some.1 (mem_foot1.2 hb))); (rw [mem_foot1] at hb; rw [h1] at hb; injection hb with hb; simp at hb; exact .inr hb.symm)
          clear hc hC o_l o_n
          have hc := hc5
          have hC := hC5
          have o_n := o_n5
          have o_l := ho4
          clear hc5 hC5 o_n5 ho4 hat4 hg4 hx4 hx5 hbl4 pL
          replace sC := hC.size
          have u_z := foot_lt o_l
          have zp_m := z_m
          have zp_r := z_r
          go_upto_region 13 with (fail)
          go_cut [14, 15] from 58 to 77 (fun v14 v15 wx => ∃ (go : Nat) (K_p : HMem) (z : Mem) (ce : Int), v14 = .pointer (some ⟨go, 0, none⟩) ∧ v15 = .int .i64 ce ∧ (MemP z) ∧ Box wx (w1.heap.size) [.slice K_n.Heap.Bytes.a K_n.Heap.Bytes.len K_n.Heap.Bytes.cap, .slice K_n.Heap.Class.a K_n.Heap.Class.len K_n.Heap.Class.cap, .slice K_n.Lists.Global.a K_n.Lists.Global.len K_n.Lists.Global.cap, .slice K_n.Lists.Own.a K_n.Lists.Own.len K_n.Lists.Own.cap] ∧ Box wx (w.heap.size) [.slice none 0 0, .slice none 0 0, .slice none 0 0, .slice none 0 0] ∧ Box wx go [.slice K_p.Heap.Bytes.a K_p.Heap.Bytes.len K_p.Heap.Bytes.cap, .slice K_p.Heap.Class.a K_p.Heap.Class.len K_p.Heap.Class.cap, .slice K_p.Lists.Global.a K_p.Lists.Global.len K_p.Lists.Global.cap, .slice K_p.Lists.Own.a K_p.Lists.Own.len K_p.Lists.Own.cap] ∧ OwMem wx K_n y ∧ OwL FI 3 wx (.slice A4 (l.length + (0 + 1)) c4) (l ++ [h_]) ∧ OwMem wx K_p z ∧ (∀ b ∈ K_p.foot, w4.heap.size ≤ b ∧ b ≠ go) ∧ w4.heap.size ≤ go ∧ Cur wx g code ∧ Chg [g] w wx ∧ w4.heap.size ≤ wx.heap.size)
          case first =>
            go_region_held3 (fun w' => w'.cell? ⟨w1.heap.size, 0, none⟩ = some (.slice K_n.Heap.Bytes.a K_n.Heap.Bytes.len K_n.Heap.Bytes.cap) ∧ w'.cell? ⟨w1.heap.size, 1, none⟩ = some (.slice K_n.Heap.Class.a K_n.Heap.Class.len K_n.Heap.Class.cap) ∧ w'.cell? ⟨w1.heap.size, 2, none⟩ = some (.slice K_n.Lists.Global.a K_n.Lists.Global.len K_n.Lists.Global.cap) ∧ w'.cell? ⟨w1.heap.size, 3, none⟩ = some (.slice K_n.Lists.Own.a K_n.Lists.Own.len K_n.Lists.Own.cap)) (first | (with_reducible exact ⟨q_m_0, q_m_1, q_m_2, q_m_3⟩) | (refine ⟨?_, ?_, ?_, ?_⟩ <;> (repeat (first | with_reducible assumption | with_reducible refine cell_set_o ?_ (by omega) | with_reducible refine cell_alloc_o ?_ (by omega) | with_reducible refine cell_drew_o ?_)); done) | (go_keep; done)) (first | (go_at_call 63; (first | ((with_reducible refine (l1Below_ct _ g code _ (by unfold I64; omega) hc).mono ?_); rintro e wq ⟨c_, rfl, c0, c1, hcn, hx⟩; replace B_m := B_m.chg hx (by simp only [List.mem_cons, List.not_mem_nil, or_false]; omega); replace B_r := B_r.chg hx (by simp only [List.mem_cons, List.not_mem_nil, or_false]; omega); replace o_n := o_n.chg hx (fun b hb hm => by simp only [List.mem_cons, List.not_mem_nil, or_false] at hm; have := l_n b hb; have := u_n b hb; omega); replace o_l := o_l.chg hx (fun b hb hm => by simp only [List.mem_cons, List.not_mem_nil, or_false] at hm; have := f4 b hb; have := u_z b hb; omega); (try replace o_p := o_p.chg hx (fun b hb hm => by simp only [List.mem_cons, List.not_mem_nil, or_false] at hm; have := l_p b hb; have := u_p b hb; omega)); (try replace B_x := B_x.chg hx (by simp only [List.mem_cons, List.not_mem_nil, or_false]; omega)); (try replace q_x_0 := B_x.cell 0 _ rfl); (try replace q_x_1 := B_x.cell 1 _ rfl); (try replace q_x_2 := B_x.cell 2 _ rfl); (try replace q_x_3 := B_x.cell 3 _ rfl); (try replace q_x_f := B_x.fro); (try replace z_x := B_x.lt); replace hC := Chg.trans hC hx; replace hc := hcn; have sz := hx.size; replace sC := hC.size; clear hx; replace q_m_0 := B_m.cell 0 _ rfl; replace q_m_1 := B_m.cell 1 _ rfl; replace q_m_2 := B_m.cell 2 _ rfl; replace q_m_3 := B_m.cell 3 _ rfl; replace fr_m := B_m.fro; replace z_m := B_m.lt; replace q_r_0 := B_r.cell 0 _ rfl; replace q_r_1 := B_r.cell 1 _ rfl; replace q_r_2 := B_r.cell 2 _ rfl; replace q_r_3 := B_r.cell 3 _ rfl; replace fr_r := B_r.fro; replace z_r := B_r.lt; obtain ⟨c_, rfl⟩ := Int.eq_ofNat_of_zero_le c0) | ((with_reducible refine (l1Below_ct _ g code _ (by unfold I64; omega) (hc.alloc _)).mono ?_); rintro e wq ⟨c_, rfl, c0, c1, hcn, hx⟩; have ly_m := B_m.lt; have ly_r := B_r.lt; replace B_m := (B_m.alloc _).chg hx (by simp only [List.mem_cons, List.not_mem_nil, or_false]; omega); replace B_r := (B_r.alloc _).chg hx (by simp only [List.mem_cons, List.not_mem_nil, or_false]; omega); replace o_n := (o_n.alloc_ _).chg hx (fun b hb hm => by simp only [List.mem_cons, List.not_mem_nil, or_false] at hm; have := l_n b hb; have := u_n b hb; omega); replace o_l := (o_l.alloc_ _).chg hx (fun b hb hm => by simp only [List.mem_cons, List.not_mem_nil, or_false] at hm; have := f4 b hb; have := u_z b hb; omega); (try replace o_p := (o_p.alloc_ _).chg hx (fun b hb hm => by simp only [List.mem_cons, List.not_mem_nil, or_false] at hm; have := l_p b hb; have := u_p b hb; omega)); have B_x := Box.chg (Box.new _ #[.slice none 0 0, .slice none 0 0, .slice none 0 0, .slice none 0 0] 31) hx (by simp only [List.mem_cons, List.not_mem_nil, or_false]; omega); have la_x := hC.size; have q_x_f := B_x.fro; have z_x := B_x.lt; have q_x_0 := B_x.cell 0 _ rfl; have q_x_1 := B_x.cell 1 _ rfl; have q_x_2 := B_x.cell 2 _ rfl; have q_x_3 := B_x.cell 3 _ rfl; replace hC := Chg.trans (hC.alloc_ _) hx; replace hc := hcn; have sz := sz_alloc hx.size; replace sC := hC.size; clear hx; replace q_m_0 := B_m.cell 0 _ rfl; replace q_m_1 := B_m.cell 1 _ rfl; replace q_m_2 := B_m.cell 2 _ rfl; replace q_m_3 := B_m.cell 3 _ rfl; replace fr_m := B_m.fro; replace z_m := B_m.lt; replace q_r_0 := B_r.cell 0 _ rfl; replace q_r_1 := B_r.cell 1 _ rfl; replace q_r_2 := B_r.cell 2 _ rfl; replace q_r_3 := B_r.cell 3 _ rfl; replace fr_r := B_r.fro; replace z_r := B_r.lt; obtain ⟨c_, rfl⟩ := Int.eq_ofNat_of_zero_le c0) | ((with_reducible refine (l1Below_ct _ g code _ (by unfold I64; omega) (hc.drew_)).mono ?_); rintro e wq ⟨c_, rfl, c0, c1, hcn, hx⟩; replace B_m := B_m.drew.chg hx (by simp only [List.mem_cons, List.not_mem_nil, or_false]; omega); replace B_r := B_r.drew.chg hx (by simp only [List.mem_cons, List.not_mem_nil, or_false]; omega); replace o_n := (o_n.drew_).chg hx (fun b hb hm => by simp only [List.mem_cons, List.not_mem_nil, or_false] at hm; have := l_n b hb; have := u_n b hb; omega); replace o_l := (o_l.drew_).chg hx (fun b hb hm => by simp only [List.mem_cons, List.not_mem_nil, or_false] at hm; have := f4 b hb; have := u_z b hb; omega); (try replace o_p := (o_p.drew_).chg hx (fun b hb hm => by simp only [List.mem_cons, List.not_mem_nil, or_false] at hm; have := l_p b hb; have := u_p b hb; omega)); (try replace B_x := B_x.drew.chg hx (by simp only [List.mem_cons, List.not_mem_nil, or_false]; omega)); (try replace q_x_0 := B_x.cell 0 _ rfl); (try replace q_x_1 := B_x.cell 1 _ rfl); (try replace q_x_2 := B_x.cell 2 _ rfl); (try replace q_x_3 := B_x.cell 3 _ rfl); (try replace q_x_f := B_x.fro); (try replace z_x := B_x.lt); replace hC := Chg.trans hC.drew_ hx; replace hc := hcn; have sz := sz_drew hx.size; replace sC := hC.size; clear hx; replace q_m_0 := B_m.cell 0 _ rfl; replace q_m_1 := B_m.cell 1 _ rfl; replace q_m_2 := B_m.cell 2 _ rfl; replace q_m_3 := B_m.cell 3 _ rfl; replace fr_m := B_m.fro; replace z_m := B_m.lt; replace q_r_0 := B_r.cell 0 _ rfl; replace q_r_1 := B_r.cell 1 _ rfl; replace q_r_2 := B_r.cell 2 _ rfl; replace q_r_3 := B_r.cell 3 _ rfl; replace fr_r := B_r.fro; replace z_r := B_r.lt; obtain ⟨c_, rfl⟩ := Int.eq_ofNat_of_zero_le c0) | ((with_reducible refine (l1Below_ct _ g code _ (by unfold I64; omega) ((hc.drew_).alloc _)).mono ?_); rintro e wq ⟨c_, rfl, c0, c1, hcn, hx⟩; have ly_m := B_m.lt; have ly_r := B_r.lt; replace B_m := ((B_m.drew).alloc _).chg hx (by simp only [List.mem_cons, List.not_mem_nil, or_false]; omega); replace B_r := ((B_r.drew).alloc _).chg hx (by simp only [List.mem_cons, List.not_mem_nil, or_false]; omega); replace o_n := ((o_n.drew_).alloc_ _).chg hx (fun b hb hm => by simp only [List.mem_cons, List.not_mem_nil, or_false] at hm; have := l_n b hb; have := u_n b hb; omega); replace o_l := ((o_l.drew_).alloc_ _).chg hx (fun b hb hm => by simp only [List.mem_cons, List.not_mem_nil, or_false] at hm; have := f4 b hb; have := u_z b hb; omega); (try replace o_p := ((o_p.drew_).alloc_ _).chg hx (fun b hb hm => by simp only [List.mem_cons, List.not_mem_nil, or_false] at hm; have := l_p b hb; have := u_p b hb; omega)); have B_x := Box.chg (Box.new _ #[.slice none 0 0, .slice none 0 0, .slice none 0 0, .slice none 0 0] 31) hx (by simp only [List.mem_cons, List.not_mem_nil, or_false]; omega); (try simp only [size_drew_] at B_x); have la_x := hC.size; have q_x_f := B_x.fro; have z_x := B_x.lt; have q_x_0 := B_x.cell 0 _ rfl; have q_x_1 := B_x.cell 1 _ rfl; have q_x_2 := B_x.cell 2 _ rfl; have q_x_3 := B_x.cell 3 _ rfl; replace hC := Chg.trans (hC.drew_.alloc_ _) hx; replace hc := hcn; have sz := sz_alloc_drew hx.size; replace sC := hC.size; clear hx; replace q_m_0 := B_m.cell 0 _ rfl; replace q_m_1 := B_m.cell 1 _ rfl; replace q_m_2 := B_m.cell 2 _ rfl; replace q_m_3 := B_m.cell 3 _ rfl; replace fr_m := B_m.fro; replace z_m := B_m.lt; replace q_r_0 := B_r.cell 0 _ rfl; replace q_r_1 := B_r.cell 1 _ rfl; replace q_r_2 := B_r.cell 2 _ rfl; replace q_r_3 := B_r.cell 3 _ rfl; replace fr_r := B_r.fro; replace z_r := B_r.lt; obtain ⟨c_, rfl⟩ := Int.eq_ofNat_of_zero_le c0) | ((with_reducible refine (l1Below_ct _ g code _ (by unfold I64; omega) ((hc.alloc _).drew_)).mono ?_); rintro e wq ⟨c_, rfl, c0, c1, hcn, hx⟩; have ly_m := B_m.lt; have ly_r := B_r.lt; replace B_m := (B_m.alloc _).drew.chg hx (by simp only [List.mem_cons, List.not_mem_nil, or_false]; omega); replace B_r := (B_r.alloc _).drew.chg hx (by simp only [List.mem_cons, List.not_mem_nil, or_false]; omega); replace o_n := ((o_n.alloc_ _).drew_).chg hx (fun b hb hm => by simp only [List.mem_cons, List.not_mem_nil, or_false] at hm; have := l_n b hb; have := u_n b hb; omega); replace o_l := ((o_l.alloc_ _).drew_).chg hx (fun b hb hm => by simp only [List.mem_cons, List.not_mem_nil, or_false] at hm; have := f4 b hb; have := u_z b hb; omega); (try replace o_p := ((o_p.alloc_ _).drew_).chg hx (fun b hb hm => by simp only [List.mem_cons, List.not_mem_nil, or_false] at hm; have := l_p b hb; have := u_p b hb; omega)); have B_x := Box.chg (Box.new _ #[.slice none 0 0, .slice none 0 0, .slice none 0 0, .slice none 0 0] 31).drew hx (by simp only [List.mem_cons, List.not_mem_nil, or_false]; omega); have la_x := hC.size; have q_x_f := B_x.fro; have z_x := B_x.lt; have q_x_0 := B_x.cell 0 _ rfl; have q_x_1 := B_x.cell 1 _ rfl; have q_x_2 := B_x.cell 2 _ rfl; have q_x_3 := B_x.cell 3 _ rfl; replace hC := Chg.trans (hC.alloc_ _).drew_ hx; replace hc := hcn; have sz := sz_alloc (sz_drew hx.size); replace sC := hC.size; clear hx; replace q_m_0 := B_m.cell 0 _ rfl; replace q_m_1 := B_m.cell 1 _ rfl; replace q_m_2 := B_m.cell 2 _ rfl; replace q_m_3 := B_m.cell 3 _ rfl; replace fr_m := B_m.fro; replace z_m := B_m.lt; replace q_r_0 := B_r.cell 0 _ rfl; replace q_r_1 := B_r.cell 1 _ rfl; replace q_r_2 := B_r.cell 2 _ rfl; replace q_r_3 := B_r.cell 3 _ rfl; replace fr_r := B_r.fro; replace z_r := B_r.lt; obtain ⟨c_, rfl⟩ := Int.eq_ofNat_of_zero_le c0))) | (go_at_call 25; (first | ((with_reducible refine (StoreIn_draw _ K_n y _ _ _ _ (o_n).rd' HY (by unfold I64; omega)).mono ?_); rintro e wq ⟨K_p, z, ce, rfl, o_p, HZ, l_p, hb⟩; have u_p := o_p.lt; replace B_m := B_m.below hb; replace B_r := B_r.below hb; replace o_n := o_n.step0 hb; replace o_l := o_l.step0 hb; (try replace B_x := B_x.below hb); (try replace q_x_0 := B_x.cell 0 _ rfl); (try replace q_x_1 := B_x.cell 1 _ rfl); (try replace q_x_2 := B_x.cell 2 _ rfl); (try replace q_x_3 := B_x.cell 3 _ rfl); (try replace q_x_f := B_x.fro); (try replace z_x := B_x.lt); replace hc := Cur.up hc hb; replace hC := Chg.trans hC (Chg.of_below hb); have sz := hb.size; replace sC := hC.size; clear hb; replace q_m_0 := B_m.cell 0 _ rfl; replace q_m_1 := B_m.cell 1 _ rfl; replace q_m_2 := B_m.cell 2 _ rfl; replace q_m_3 := B_m.cell 3 _ rfl; replace fr_m := B_m.fro; replace z_m := B_m.lt; replace q_r_0 := B_r.cell 0 _ rfl; replace q_r_1 := B_r.cell 1 _ rfl; replace q_r_2 := B_r.cell 2 _ rfl; replace q_r_3 := B_r.cell 3 _ rfl; replace fr_r := B_r.fro; replace z_r := B_r.lt) | ((with_reducible refine (StoreIn_draw _ K_n y _ _ _ _ ((o_n.alloc_ _)).rd' HY (by unfold I64; omega)).mono ?_); rintro e wq ⟨K_p, z, ce, rfl, o_p, HZ, l_p, hb⟩; replace l_p := lc_alloc l_p; have u_p := o_p.lt; have ly_m := B_m.lt; have ly_r := B_r.lt; replace B_m := (B_m.alloc _).below hb; replace B_r := (B_r.alloc _).below hb; replace o_n := (o_n.alloc_ _).step0 hb; replace o_l := (o_l.alloc_ _).step0 hb; have B_x := Box.below (Box.new _ #[.slice none 0 0, .slice none 0 0, .slice none 0 0, .slice none 0 0] 31) hb; have la_x := hC.size; have q_x_f := B_x.fro; have z_x := B_x.lt; have q_x_0 := B_x.cell 0 _ rfl; have q_x_1 := B_x.cell 1 _ rfl; have q_x_2 := B_x.cell 2 _ rfl; have q_x_3 := B_x.cell 3 _ rfl; replace hc := Cur.up (hc.alloc _) hb; replace hC := Chg.trans (hC.alloc_ _) (Chg.of_below hb); have sz := sz_alloc hb.size; replace sC := hC.size; clear hb; replace q_m_0 := B_m.cell 0 _ rfl; replace q_m_1 := B_m.cell 1 _ rfl; replace q_m_2 := B_m.cell 2 _ rfl; replace q_m_3 := B_m.cell 3 _ rfl; replace fr_m := B_m.fro; replace z_m := B_m.lt; replace q_r_0 := B_r.cell 0 _ rfl; replace q_r_1 := B_r.cell 1 _ rfl; replace q_r_2 := B_r.cell 2 _ rfl; replace q_r_3 := B_r.cell 3 _ rfl; replace fr_r := B_r.fro; replace z_r := B_r.lt) | ((with_reducible refine (StoreIn_draw _ K_n y _ _ _ _ ((o_n.drew_)).rd' HY (by unfold I64; omega)).mono ?_); rintro e wq ⟨K_p, z, ce, rfl, o_p, HZ, l_p, hb⟩; replace hb := undrew hb; replace l_p := fcdrew l_p; have u_p := o_p.lt; replace B_m := B_m.below hb; replace B_r := B_r.below hb; replace o_n := o_n.step0 hb; replace o_l := o_l.step0 hb; (try replace B_x := B_x.below hb); (try replace q_x_0 := B_x.cell 0 _ rfl); (try replace q_x_1 := B_x.cell 1 _ rfl); (try replace q_x_2 := B_x.cell 2 _ rfl); (try replace q_x_3 := B_x.cell 3 _ rfl); (try replace q_x_f := B_x.fro); (try replace z_x := B_x.lt); replace hc := Cur.up hc hb; replace hC := Chg.trans hC (Chg.of_below hb); have sz := hb.size; replace sC := hC.size; clear hb; replace q_m_0 := B_m.cell 0 _ rfl; replace q_m_1 := B_m.cell 1 _ rfl; replace q_m_2 := B_m.cell 2 _ rfl; replace q_m_3 := B_m.cell 3 _ rfl; replace fr_m := B_m.fro; replace z_m := B_m.lt; replace q_r_0 := B_r.cell 0 _ rfl; replace q_r_1 := B_r.cell 1 _ rfl; replace q_r_2 := B_r.cell 2 _ rfl; replace q_r_3 := B_r.cell 3 _ rfl; replace fr_r := B_r.fro; replace z_r := B_r.lt) | ((with_reducible refine (StoreIn_draw _ K_n y _ _ _ _ (((o_n.drew_).alloc_ _)).rd' HY (by unfold I64; omega)).mono ?_); rintro e wq ⟨K_p, z, ce, rfl, o_p, HZ, l_p, hb⟩; replace l_p := lc_alloc_drew l_p; have u_p := o_p.lt; have ly_m := B_m.lt; have ly_r := B_r.lt; replace B_m := ((B_m.drew).alloc _).below hb; replace B_r := ((B_r.drew).alloc _).below hb; replace o_n := ((o_n.drew_).alloc_ _).step0 hb; replace o_l := ((o_l.drew_).alloc_ _).step0 hb; have B_x := Box.below (Box.new _ #[.slice none 0 0, .slice none 0 0, .slice none 0 0, .slice none 0 0] 31) hb; (try simp only [size_drew_] at B_x); have la_x := hC.size; have q_x_f := B_x.fro; have z_x := B_x.lt; have q_x_0 := B_x.cell 0 _ rfl; have q_x_1 := B_x.cell 1 _ rfl; have q_x_2 := B_x.cell 2 _ rfl; have q_x_3 := B_x.cell 3 _ rfl; replace hc := Cur.up ((hc.drew_).alloc _) hb; replace hC := Chg.trans (hC.drew_.alloc_ _) (Chg.of_below hb); have sz := sz_alloc_drew hb.size; replace sC := hC.size; clear hb; replace q_m_0 := B_m.cell 0 _ rfl; replace q_m_1 := B_m.cell 1 _ rfl; replace q_m_2 := B_m.cell 2 _ rfl; replace q_m_3 := B_m.cell 3 _ rfl; replace fr_m := B_m.fro; replace z_m := B_m.lt; replace q_r_0 := B_r.cell 0 _ rfl; replace q_r_1 := B_r.cell 1 _ rfl; replace q_r_2 := B_r.cell 2 _ rfl; replace q_r_3 := B_r.cell 3 _ rfl; replace fr_r := B_r.fro; replace z_r := B_r.lt) | ((with_reducible refine (StoreIn_draw _ K_n y _ _ _ _ (((o_n.alloc_ _).drew_)).rd' HY (by unfold I64; omega)).mono ?_); rintro e wq ⟨K_p, z, ce, rfl, o_p, HZ, l_p, hb⟩; replace hb := undrew hb; replace l_p := fcdrew l_p; replace l_p := lc_alloc l_p; have u_p := o_p.lt; have ly_m := B_m.lt; have ly_r := B_r.lt; replace B_m := (B_m.alloc _).below hb; replace B_r := (B_r.alloc _).below hb; replace o_n := (o_n.alloc_ _).step0 hb; replace o_l := (o_l.alloc_ _).step0 hb; have B_x := Box.below (Box.new _ #[.slice none 0 0, .slice none 0 0, .slice none 0 0, .slice none 0 0] 31) hb; have la_x := hC.size; have q_x_f := B_x.fro; have z_x := B_x.lt; have q_x_0 := B_x.cell 0 _ rfl; have q_x_1 := B_x.cell 1 _ rfl; have q_x_2 := B_x.cell 2 _ rfl; have q_x_3 := B_x.cell 3 _ rfl; replace hc := Cur.up (hc.alloc _) hb; replace hC := Chg.trans (hC.alloc_ _) (Chg.of_below hb); have sz := sz_alloc hb.size; replace sC := hC.size; clear hb; replace q_m_0 := B_m.cell 0 _ rfl; replace q_m_1 := B_m.cell 1 _ rfl; replace q_m_2 := B_m.cell 2 _ rfl; replace q_m_3 := B_m.cell 3 _ rfl; replace fr_m := B_m.fro; replace z_m := B_m.lt; replace q_r_0 := B_r.cell 0 _ rfl; replace q_r_1 := B_r.cell 1 _ rfl; replace q_r_2 := B_r.cell 2 _ rfl; replace q_r_3 := B_r.cell 3 _ rfl; replace fr_r := B_r.fro; replace z_r := B_r.lt))))
            all_goals
              go_wp2_with fail
              go_meet
              first | exact ⟨_, K_p, z, ce, rfl, rfl, HZ, B_m.alloc _, B_r.alloc _, Box.new _ _ _, o_n.alloc_ _, o_l.alloc_ _, o_p.alloc_ _, fun b hb => ⟨by have := l_p b hb; omega, by have := u_p b hb; omega⟩, by omega, hc.alloc _, hC.alloc_ _, by simp <;> omega⟩ | (obtain ⟨go, hgo, B_go⟩ := B_x.ad; rw [← hgo]; rw [← hgo] at la_x; exact ⟨go, K_p, z, ce, rfl, rfl, HZ, ((((B_m.other (by omega) _).other (by omega) _).other (by omega) _).other (by omega) _), ((((B_r.other (by omega) _).other (by omega) _).other (by omega) _).other (by omega) _), ((((B_go.set 0 _).set 1 _).set 2 _).set 3 _), o_n.chg (F := [go]) (by repeat (first | with_reducible exact Chg.refl _ _ | with_reducible refine Chg.set_ ?_ (by simp) _ | with_reducible refine Chg.alloc_ ?_ _ | with_reducible refine Chg.drew_ ?_)) (fun b hb hm => by simp only [List.mem_cons, List.not_mem_nil, or_false] at hm; have := l_n b hb; have := u_n b hb; omega), o_l.chg (F := [go]) (by repeat (first | with_reducible exact Chg.refl _ _ | with_reducible refine Chg.set_ ?_ (by simp) _ | with_reducible refine Chg.alloc_ ?_ _ | with_reducible refine Chg.drew_ ?_)) (fun b hb hm => by simp only [List.mem_cons, List.not_mem_nil, or_false] at hm; have := f4 b hb; have := u_z b hb; omega), o_p.chg (F := [go]) (by repeat (first | with_reducible exact Chg.refl _ _ | with_reducible refine Chg.set_ ?_ (by simp) _ | with_reducible refine Chg.alloc_ ?_ _ | with_reducible refine Chg.drew_ ?_)) (fun b hb hm => by simp only [List.mem_cons, List.not_mem_nil, or_false] at hm; have := l_p b hb; have := u_p b hb; omega), fun b hb => ⟨by have := l_p b hb; omega, by have := l_p b hb; have := u_p b hb; omega⟩, by omega, hc.keepB (B := w.heap.size) hgl (by repeat (first | with_reducible exact Below.refl _ _ | with_reducible refine Below.setCell ?_ (by simp <;> omega) _ | with_reducible refine Below.alloc ?_ (by simp <;> omega) _ | with_reducible refine Below.drew ?_)) hC.size, ((((hC.set_new (by omega) _).set_new (by omega) _).set_new (by omega) _).set_new (by omega) _), by simp <;> omega⟩)
          case rest =>
            clear B_m fr_m z_m q_m_0 q_m_1 q_m_2 q_m_3
            clear B_r fr_r z_r q_r_0 q_r_1 q_r_2 q_r_3
            clear o_n
            clear o_l
            clear hC hc
            obtain ⟨go, K_p, z, ce, rfl, rfl, HZ, B_m, B_r, B_x, o_n, o_l, o_p, l_p, lo_x, hc, hC, sz⟩ := hcut
            have zz_x := B_x.lt
            have la_x : w.heap.size ≤ go := by omega
            have u_p := o_p.lt
            have sC := hC.size
            have q_m_0 := B_m.cell 0 _ rfl
            have q_m_1 := B_m.cell 1 _ rfl
            have q_m_2 := B_m.cell 2 _ rfl
            have q_m_3 := B_m.cell 3 _ rfl
            have fr_m := B_m.fro
            have z_m := B_m.lt
            have q_r_0 := B_r.cell 0 _ rfl
            have q_r_1 := B_r.cell 1 _ rfl
            have q_r_2 := B_r.cell 2 _ rfl
            have q_r_3 := B_r.cell 3 _ rfl
            have fr_r := B_r.fro
            have z_r := B_r.lt
            have q_x_0 := B_x.cell 0 _ rfl
            have q_x_1 := B_x.cell 1 _ rfl
            have q_x_2 := B_x.cell 2 _ rfl
            have q_x_3 := B_x.cell 3 _ rfl
            have fr_x := B_x.fro
            have z_x := B_x.lt
            go_upto_region 5 with (fail)
            clear o_n
            replace B_m : Box ((((wc.setCell ⟨w1.heap.size, 0, none⟩ (.slice K_p.Heap.Bytes.a K_p.Heap.Bytes.len K_p.Heap.Bytes.cap)).setCell ⟨w1.heap.size, 1, none⟩ (.slice K_p.Heap.Class.a K_p.Heap.Class.len K_p.Heap.Class.cap)).setCell ⟨w1.heap.size, 2, none⟩ (.slice K_p.Lists.Global.a K_p.Lists.Global.len K_p.Lists.Global.cap)).setCell ⟨w1.heap.size, 3, none⟩ (.slice K_p.Lists.Own.a K_p.Lists.Own.len K_p.Lists.Own.cap)) (w1.heap.size) [.slice K_p.Heap.Bytes.a K_p.Heap.Bytes.len K_p.Heap.Bytes.cap, .slice K_p.Heap.Class.a K_p.Heap.Class.len K_p.Heap.Class.cap, .slice K_p.Lists.Global.a K_p.Lists.Global.len K_p.Lists.Global.cap, .slice K_p.Lists.Own.a K_p.Lists.Own.len K_p.Lists.Own.cap] := ((((B_m.set 0 (.slice K_p.Heap.Bytes.a K_p.Heap.Bytes.len K_p.Heap.Bytes.cap)).set 1 (.slice K_p.Heap.Class.a K_p.Heap.Class.len K_p.Heap.Class.cap)).set 2 (.slice K_p.Lists.Global.a K_p.Lists.Global.len K_p.Lists.Global.cap)).set 3 (.slice K_p.Lists.Own.a K_p.Lists.Own.len K_p.Lists.Own.cap))
            replace B_r : Box ((((wc.setCell ⟨w1.heap.size, 0, none⟩ (.slice K_p.Heap.Bytes.a K_p.Heap.Bytes.len K_p.Heap.Bytes.cap)).setCell ⟨w1.heap.size, 1, none⟩ (.slice K_p.Heap.Class.a K_p.Heap.Class.len K_p.Heap.Class.cap)).setCell ⟨w1.heap.size, 2, none⟩ (.slice K_p.Lists.Global.a K_p.Lists.Global.len K_p.Lists.Global.cap)).setCell ⟨w1.heap.size, 3, none⟩ (.slice K_p.Lists.Own.a K_p.Lists.Own.len K_p.Lists.Own.cap)) (w.heap.size) [.slice none 0 0, .slice none 0 0, .slice none 0 0, .slice none 0 0] := ((((B_r.other (by omega) _).other (by omega) _).other (by omega) _).other (by omega) _)
            replace B_x : Box ((((wc.setCell ⟨w1.heap.size, 0, none⟩ (.slice K_p.Heap.Bytes.a K_p.Heap.Bytes.len K_p.Heap.Bytes.cap)).setCell ⟨w1.heap.size, 1, none⟩ (.slice K_p.Heap.Class.a K_p.Heap.Class.len K_p.Heap.Class.cap)).setCell ⟨w1.heap.size, 2, none⟩ (.slice K_p.Lists.Global.a K_p.Lists.Global.len K_p.Lists.Global.cap)).setCell ⟨w1.heap.size, 3, none⟩ (.slice K_p.Lists.Own.a K_p.Lists.Own.len K_p.Lists.Own.cap)) (go) [.slice K_p.Heap.Bytes.a K_p.Heap.Bytes.len K_p.Heap.Bytes.cap, .slice K_p.Heap.Class.a K_p.Heap.Class.len K_p.Heap.Class.cap, .slice K_p.Lists.Global.a K_p.Lists.Global.len K_p.Lists.Global.cap, .slice K_p.Lists.Own.a K_p.Lists.Own.len K_p.Lists.Own.cap] := ((((B_x.other (by omega) _).other (by omega) _).other (by omega) _).other (by omega) _)
            replace o_l := o_l.chg (F := [w1.heap.size]) (w' := ((((wc.setCell ⟨w1.heap.size, 0, none⟩ (.slice K_p.Heap.Bytes.a K_p.Heap.Bytes.len K_p.Heap.Bytes.cap)).setCell ⟨w1.heap.size, 1, none⟩ (.slice K_p.Heap.Class.a K_p.Heap.Class.len K_p.Heap.Class.cap)).setCell ⟨w1.heap.size, 2, none⟩ (.slice K_p.Lists.Global.a K_p.Lists.Global.len K_p.Lists.Global.cap)).setCell ⟨w1.heap.size, 3, none⟩ (.slice K_p.Lists.Own.a K_p.Lists.Own.len K_p.Lists.Own.cap))) (by repeat (first | with_reducible exact Chg.refl _ _ | with_reducible refine Chg.set_ ?_ (by simp) _ | with_reducible refine Chg.alloc_ ?_ _ | with_reducible refine Chg.drew_ ?_)) (fun b hb hm => by simp only [List.mem_cons, List.not_mem_nil, or_false] at hm; have := f4 b hb; have := u_z b hb; omega)
            replace o_p := o_p.chg (F := [w1.heap.size]) (w' := ((((wc.setCell ⟨w1.heap.size, 0, none⟩ (.slice K_p.Heap.Bytes.a K_p.Heap.Bytes.len K_p.Heap.Bytes.cap)).setCell ⟨w1.heap.size, 1, none⟩ (.slice K_p.Heap.Class.a K_p.Heap.Class.len K_p.Heap.Class.cap)).setCell ⟨w1.heap.size, 2, none⟩ (.slice K_p.Lists.Global.a K_p.Lists.Global.len K_p.Lists.Global.cap)).setCell ⟨w1.heap.size, 3, none⟩ (.slice K_p.Lists.Own.a K_p.Lists.Own.len K_p.Lists.Own.cap))) (by repeat (first | with_reducible exact Chg.refl _ _ | with_reducible refine Chg.set_ ?_ (by simp) _ | with_reducible refine Chg.alloc_ ?_ _ | with_reducible refine Chg.drew_ ?_)) (fun b hb hm => by simp only [List.mem_cons, List.not_mem_nil, or_false] at hm; have := l_p b hb; have := u_p b hb; omega)
            replace hc : Cur ((((wc.setCell ⟨w1.heap.size, 0, none⟩ (.slice K_p.Heap.Bytes.a K_p.Heap.Bytes.len K_p.Heap.Bytes.cap)).setCell ⟨w1.heap.size, 1, none⟩ (.slice K_p.Heap.Class.a K_p.Heap.Class.len K_p.Heap.Class.cap)).setCell ⟨w1.heap.size, 2, none⟩ (.slice K_p.Lists.Global.a K_p.Lists.Global.len K_p.Lists.Global.cap)).setCell ⟨w1.heap.size, 3, none⟩ (.slice K_p.Lists.Own.a K_p.Lists.Own.len K_p.Lists.Own.cap)) g code := hc.keepB (B := w.heap.size) hgl (by repeat (first | with_reducible exact Below.refl _ _ | with_reducible refine Below.setCell ?_ (by simp <;> omega) _ | with_reducible refine Below.alloc ?_ (by simp <;> omega) _ | with_reducible refine Below.drew ?_)) hC.size
            replace hC : Chg [g] w ((((wc.setCell ⟨w1.heap.size, 0, none⟩ (.slice K_p.Heap.Bytes.a K_p.Heap.Bytes.len K_p.Heap.Bytes.cap)).setCell ⟨w1.heap.size, 1, none⟩ (.slice K_p.Heap.Class.a K_p.Heap.Class.len K_p.Heap.Class.cap)).setCell ⟨w1.heap.size, 2, none⟩ (.slice K_p.Lists.Global.a K_p.Lists.Global.len K_p.Lists.Global.cap)).setCell ⟨w1.heap.size, 3, none⟩ (.slice K_p.Lists.Own.a K_p.Lists.Own.len K_p.Lists.Own.cap)) := ((((hC.set_new (by omega) _).set_new (by omega) _).set_new (by omega) _).set_new (by omega) _)
            have sz : wc.heap.size ≤ ((((wc.setCell ⟨w1.heap.size, 0, none⟩ (.slice K_p.Heap.Bytes.a K_p.Heap.Bytes.len K_p.Heap.Bytes.cap)).setCell ⟨w1.heap.size, 1, none⟩ (.slice K_p.Heap.Class.a K_p.Heap.Class.len K_p.Heap.Class.cap)).setCell ⟨w1.heap.size, 2, none⟩ (.slice K_p.Lists.Global.a K_p.Lists.Global.len K_p.Lists.Global.cap)).setCell ⟨w1.heap.size, 3, none⟩ (.slice K_p.Lists.Own.a K_p.Lists.Own.len K_p.Lists.Own.cap)).heap.size := by simp
            generalize hG : ((((wc.setCell ⟨w1.heap.size, 0, none⟩ (.slice K_p.Heap.Bytes.a K_p.Heap.Bytes.len K_p.Heap.Bytes.cap)).setCell ⟨w1.heap.size, 1, none⟩ (.slice K_p.Heap.Class.a K_p.Heap.Class.len K_p.Heap.Class.cap)).setCell ⟨w1.heap.size, 2, none⟩ (.slice K_p.Lists.Global.a K_p.Lists.Global.len K_p.Lists.Global.cap)).setCell ⟨w1.heap.size, 3, none⟩ (.slice K_p.Lists.Own.a K_p.Lists.Own.len K_p.Lists.Own.cap)) = w46 at B_m B_r B_x o_l o_p hC hc sz ⊢
            clear hG
            replace sC := hC.size
            replace q_m_0 := B_m.cell 0 _ rfl
            replace q_m_1 := B_m.cell 1 _ rfl
            replace q_m_2 := B_m.cell 2 _ rfl
            replace q_m_3 := B_m.cell 3 _ rfl
            replace fr_m := B_m.fro
            replace z_m := B_m.lt
            replace q_r_0 := B_r.cell 0 _ rfl
            replace q_r_1 := B_r.cell 1 _ rfl
            replace q_r_2 := B_r.cell 2 _ rfl
            replace q_r_3 := B_r.cell 3 _ rfl
            replace fr_r := B_r.fro
            replace z_r := B_r.lt
            replace q_x_0 := B_x.cell 0 _ rfl
            replace q_x_1 := B_x.cell 1 _ rfl
            replace q_x_2 := B_x.cell 2 _ rfl
            replace q_x_3 := B_x.cell 3 _ rfl
            replace fr_x := B_x.fro
            replace z_x := B_x.lt
            go_wp2_with fail
            go_roundw
            case rel => exact ⟨k - 1, K_p, z, l ++ [h_], by go_num, by omega, B_m, B_r, o_p, HZ, fun b hb => by have := l_p b hb; omega, o_l, fun b hb => ⟨by rcases f4 b hb with e | e <;> omega, by rcases f4 b hb with e | e <;> omega, fun hm => by have := l_p b hm; have := u_z b hb; omega⟩, by simp, by simp; omega, hc, hC⟩
            case measure => simp [intOf]; omega
end Go.Proofs.YtkmggglljkmjoaaGreat

/-
  Drawn memories, spoilt: any.
-/
namespace Go.Proofs.YtkmggglljkmjoaaGreat
open Go.RowKit
open Go.Proofs.YtkmggglljkmjoaaGreat.Lim

def DrawMA (w : World) (g : Nat) (code : List Int) (e : Ending) (w' : World) : Prop := ∃ (H : HMem) (x : Mem) (a : Int), e = .returned (.tuple #[.agg #[.slice H.Heap.Bytes.a H.Heap.Bytes.len H.Heap.Bytes.cap, .slice H.Heap.Class.a H.Heap.Class.len H.Heap.Class.cap, .slice H.Lists.Global.a H.Lists.Global.len H.Lists.Global.cap, .slice H.Lists.Own.a H.Lists.Own.len H.Lists.Own.cap], .int .i64 a]) ∧ OwMem w' H x ∧ sizeMem x ≤ 1000 ∧ (∀ b ∈ H.foot, w.heap.size ≤ b) ∧ Cur w' g code ∧ Chg [g] w w'

set_option maxRecDepth 100000 in
set_option maxHeartbeats 8000000 in
theorem l9Any_ct (w : World) (g : Nat) (code : List Int) (hc : Cur w g code) : Calls Tryz.prog 69 #[.pointer (some ⟨g, 0, none⟩)] w (DrawMA w g code) := by
  have hgl := hc.lt
  have B_r : Box (w.alloc (.cells #[.slice none 0 0, .slice none 0 0, .slice none 0 0, .slice none 0 0] 31)) (w.heap.size) [.slice none 0 0, .slice none 0 0, .slice none 0 0, .slice none 0 0] := by
    have hbx := Box.new w #[.slice none 0 0, .slice none 0 0, .slice none 0 0, .slice none 0 0] 31
    exact hbx
  have hC : Chg [g] w (w.alloc (.cells #[.slice none 0 0, .slice none 0 0, .slice none 0 0, .slice none 0 0] 31)) := (Chg.refl [g] w).alloc_ _
  replace hc : Cur (w.alloc (.cells #[.slice none 0 0, .slice none 0 0, .slice none 0 0, .slice none 0 0] 31)) g code := (hc).alloc _
  go_enter Tryz.func69, Tryz.ntmps69
  go_wp2_with fail
  generalize hW0 : (w.alloc (.cells #[.slice none 0 0, .slice none 0 0, .slice none 0 0, .slice none 0 0] 31)) = w0 at B_r hC hc ⊢
  clear hW0
  have zz_r := B_r.lt
  have la_r : w.heap.size ≤ w.heap.size := by omega
  have sC := hC.size
  have q_r_0 := B_r.cell 0 _ rfl
  have q_r_1 := B_r.cell 1 _ rfl
  have q_r_2 := B_r.cell 2 _ rfl
  have q_r_3 := B_r.cell 3 _ rfl
  have fr_r := B_r.fro
  have z_r := B_r.lt
  refine (l9Some_ct _ g code hc).mono ?_
  rintro e w1 ⟨K_m, x, a, rfl, o_m, HP, l_m, hcn, hx⟩
  replace hc := hcn
  replace B_r := B_r.chg hx (by simp only [List.mem_cons, List.not_mem_nil, or_false]; omega)
  replace hC := hC.trans hx
  have sz := hx.size
  replace sC := hC.size
  clear hx
  have u_m := o_m.lt
  replace q_r_0 := B_r.cell 0 _ rfl
  replace q_r_1 := B_r.cell 1 _ rfl
  replace q_r_2 := B_r.cell 2 _ rfl
  replace q_r_3 := B_r.cell 3 _ rfl
  replace fr_r := B_r.fro
  replace z_r := B_r.lt
  have hsz := memP_size HP
  clear HP
  go_wp2_with fail
  replace B_r := B_r.alloc (.cells #[.slice K_m.Heap.Bytes.a K_m.Heap.Bytes.len K_m.Heap.Bytes.cap, .slice K_m.Heap.Class.a K_m.Heap.Class.len K_m.Heap.Class.cap, .slice K_m.Lists.Global.a K_m.Lists.Global.len K_m.Lists.Global.cap, .slice K_m.Lists.Own.a K_m.Lists.Own.len K_m.Lists.Own.cap] 31)
  replace o_m := o_m.alloc_ (.cells #[.slice K_m.Heap.Bytes.a K_m.Heap.Bytes.len K_m.Heap.Bytes.cap, .slice K_m.Heap.Class.a K_m.Heap.Class.len K_m.Heap.Class.cap, .slice K_m.Lists.Global.a K_m.Lists.Global.len K_m.Lists.Global.cap, .slice K_m.Lists.Own.a K_m.Lists.Own.len K_m.Lists.Own.cap] 31)
  replace hC := hC.alloc_ (.cells #[.slice K_m.Heap.Bytes.a K_m.Heap.Bytes.len K_m.Heap.Bytes.cap, .slice K_m.Heap.Class.a K_m.Heap.Class.len K_m.Heap.Class.cap, .slice K_m.Lists.Global.a K_m.Lists.Global.len K_m.Lists.Global.cap, .slice K_m.Lists.Own.a K_m.Lists.Own.len K_m.Lists.Own.cap] 31)
  replace hc := hc.alloc (.cells #[.slice K_m.Heap.Bytes.a K_m.Heap.Bytes.len K_m.Heap.Bytes.cap, .slice K_m.Heap.Class.a K_m.Heap.Class.len K_m.Heap.Class.cap, .slice K_m.Lists.Global.a K_m.Lists.Global.len K_m.Lists.Global.cap, .slice K_m.Lists.Own.a K_m.Lists.Own.len K_m.Lists.Own.cap] 31)
  have B_m : Box (w1.alloc (.cells #[.slice K_m.Heap.Bytes.a K_m.Heap.Bytes.len K_m.Heap.Bytes.cap, .slice K_m.Heap.Class.a K_m.Heap.Class.len K_m.Heap.Class.cap, .slice K_m.Lists.Global.a K_m.Lists.Global.len K_m.Lists.Global.cap, .slice K_m.Lists.Own.a K_m.Lists.Own.len K_m.Lists.Own.cap] 31)) w1.heap.size [.slice K_m.Heap.Bytes.a K_m.Heap.Bytes.len K_m.Heap.Bytes.cap, .slice K_m.Heap.Class.a K_m.Heap.Class.len K_m.Heap.Class.cap, .slice K_m.Lists.Global.a K_m.Lists.Global.len K_m.Lists.Global.cap, .slice K_m.Lists.Own.a K_m.Lists.Own.len K_m.Lists.Own.cap] := Box.new w1 #[.slice K_m.Heap.Bytes.a K_m.Heap.Bytes.len K_m.Heap.Bytes.cap, .slice K_m.Heap.Class.a K_m.Heap.Class.len K_m.Heap.Class.cap, .slice K_m.Lists.Global.a K_m.Lists.Global.len K_m.Lists.Global.cap, .slice K_m.Lists.Own.a K_m.Lists.Own.len K_m.Lists.Own.cap] 31
  have zz_m := B_m.lt
  have sz : w1.heap.size ≤ (w1.alloc (.cells #[.slice K_m.Heap.Bytes.a K_m.Heap.Bytes.len K_m.Heap.Bytes.cap, .slice K_m.Heap.Class.a K_m.Heap.Class.len K_m.Heap.Class.cap, .slice K_m.Lists.Global.a K_m.Lists.Global.len K_m.Lists.Global.cap, .slice K_m.Lists.Own.a K_m.Lists.Own.len K_m.Lists.Own.cap] 31)).heap.size := Nat.le_of_lt B_m.lt
  have la_m : w.heap.size ≤ w1.heap.size := by omega
  generalize hG : (w1.alloc (.cells #[.slice K_m.Heap.Bytes.a K_m.Heap.Bytes.len K_m.Heap.Bytes.cap, .slice K_m.Heap.Class.a K_m.Heap.Class.len K_m.Heap.Class.cap, .slice K_m.Lists.Global.a K_m.Lists.Global.len K_m.Lists.Global.cap, .slice K_m.Lists.Own.a K_m.Lists.Own.len K_m.Lists.Own.cap] 31)) = w2 at B_r o_m hC hc B_m zz_m sz ⊢
  clear hG
  replace sC := hC.size
  replace q_r_0 := B_r.cell 0 _ rfl
  replace q_r_1 := B_r.cell 1 _ rfl
  replace q_r_2 := B_r.cell 2 _ rfl
  replace q_r_3 := B_r.cell 3 _ rfl
  replace fr_r := B_r.fro
  replace z_r := B_r.lt
  have q_m_0 := B_m.cell 0 _ rfl
  have q_m_1 := B_m.cell 1 _ rfl
  have q_m_2 := B_m.cell 2 _ rfl
  have q_m_3 := B_m.cell 3 _ rfl
  have fr_m := B_m.fro
  have z_m := B_m.lt
  refine (l1Once_ct _ g code 6 (by unfold I64; omega) hc).mono ?_
  rintro e w3 ⟨b, rfl, hcn, hx⟩
  replace hc := hcn
  replace B_r := B_r.chg hx (by simp only [List.mem_cons, List.not_mem_nil, or_false]; omega)
  replace B_m := B_m.chg hx (by simp only [List.mem_cons, List.not_mem_nil, or_false]; omega)
  replace o_m := o_m.chg hx (fun b hb hm => by simp only [List.mem_cons, List.not_mem_nil, or_false] at hm; have := l_m b hb; have := u_m b hb; omega)
  replace hC := hC.trans hx
  have sz := hx.size
  replace sC := hC.size
  clear hx
  skip
  replace q_r_0 := B_r.cell 0 _ rfl
  replace q_r_1 := B_r.cell 1 _ rfl
  replace q_r_2 := B_r.cell 2 _ rfl
  replace q_r_3 := B_r.cell 3 _ rfl
  replace fr_r := B_r.fro
  replace z_r := B_r.lt
  replace q_m_0 := B_m.cell 0 _ rfl
  replace q_m_1 := B_m.cell 1 _ rfl
  replace q_m_2 := B_m.cell 2 _ rfl
  replace q_m_3 := B_m.cell 3 _ rfl
  replace fr_m := B_m.fro
  replace z_m := B_m.lt
  cases b with
  | false =>
    go_wp2_with fail
    refine (l1Below_ct _ g code 24 (by unfold I64; omega) hc).mono ?_
    rintro e w41 ⟨k, rfl, k0, k1, hcn, hx⟩
    replace hc := hcn
    replace B_r := B_r.chg hx (by simp only [List.mem_cons, List.not_mem_nil, or_false]; omega)
    replace B_m := B_m.chg hx (by simp only [List.mem_cons, List.not_mem_nil, or_false]; omega)
    replace o_m := o_m.chg hx (fun b hb hm => by simp only [List.mem_cons, List.not_mem_nil, or_false] at hm; have := l_m b hb; have := u_m b hb; omega)
    replace hC := hC.trans hx
    have sz := hx.size
    replace sC := hC.size
    clear hx
    skip
    replace q_r_0 := B_r.cell 0 _ rfl
    replace q_r_1 := B_r.cell 1 _ rfl
    replace q_r_2 := B_r.cell 2 _ rfl
    replace q_r_3 := B_r.cell 3 _ rfl
    replace fr_r := B_r.fro
    replace z_r := B_r.lt
    replace q_m_0 := B_m.cell 0 _ rfl
    replace q_m_1 := B_m.cell 1 _ rfl
    replace q_m_2 := B_m.cell 2 _ rfl
    replace q_m_3 := B_m.cell 3 _ rfl
    replace fr_m := B_m.fro
    replace z_m := B_m.lt
    by_cases e0 : k = 0
    case pos =>
      subst e0
      go_wp2_with fail
      refine (l7Any_ct _ g code hc).mono ?_
      rintro e wk ⟨K_p, y, rfl, o_p, hy, l_p, hcn, hx⟩
      replace hc := hcn
      replace B_r := B_r.chg hx (by simp only [List.mem_cons, List.not_mem_nil, or_false]; omega)
      replace B_m := B_m.chg hx (by simp only [List.mem_cons, List.not_mem_nil, or_false]; omega)
      replace o_m := o_m.chg hx (fun b hb hm => by simp only [List.mem_cons, List.not_mem_nil, or_false] at hm; have := l_m b hb; have := u_m b hb; omega)
      replace hC := hC.trans hx
      have sz := hx.size
      replace sC := hC.size
      clear hx
      replace q_r_0 := B_r.cell 0 _ rfl
      replace q_r_1 := B_r.cell 1 _ rfl
      replace q_r_2 := B_r.cell 2 _ rfl
      replace q_r_3 := B_r.cell 3 _ rfl
      replace fr_r := B_r.fro
      replace z_r := B_r.lt
      replace q_m_0 := B_m.cell 0 _ rfl
      replace q_m_1 := B_m.cell 1 _ rfl
      replace q_m_2 := B_m.cell 2 _ rfl
      replace q_m_3 := B_m.cell 3 _ rfl
      replace fr_m := B_m.fro
      replace z_m := B_m.lt
      have u_p := o_p.lt
      have oW : OwMem wk ⟨K_p, K_m.Lists⟩ ⟨y, x.Lists⟩ := ⟨o_p, o_m.Lists, fun b hb hm => by have := l_p b hb; have := u_m b (HMem.mem_foot.2 (.inr hm)); omega⟩
      have gW : ∀ b ∈ HMem.foot ⟨K_p, K_m.Lists⟩, w.heap.size < b ∧ b ≠ w1.heap.size := fun b hb => by rcases HMem.mem_foot.1 hb with h1 | h1; (have := l_p b h1; omega); (have := l_m b (HMem.mem_foot.2 (.inr h1)); have := u_m b (HMem.mem_foot.2 (.inr h1)); omega)
      go_wp2_with fail
      refine bodyPost_ret (v := .tuple #[.agg #[.slice K_p.Bytes.a K_p.Bytes.len K_p.Bytes.cap, .slice K_p.Class.a K_p.Class.len K_p.Class.cap, .slice K_m.Lists.Global.a K_m.Lists.Global.len K_m.Lists.Global.cap, .slice K_m.Lists.Own.a K_m.Lists.Own.len K_m.Lists.Own.cap], .int .i64 a]) (by simp [results, Tryz.results69, go_sem, q_r_0, q_r_1, q_r_2, q_r_3]) rfl ⟨⟨K_p, K_m.Lists⟩, ⟨y, x.Lists⟩, a, rfl, oW.chg (F := [w.heap.size, w1.heap.size]) (by repeat (first | with_reducible exact Chg.refl _ _ | with_reducible refine Chg.set_ ?_ (by simp) _ | with_reducible refine Chg.alloc_ ?_ _ | with_reducible refine Chg.drew_ ?_)) (fun b hb hm => by simp only [List.mem_cons, List.not_mem_nil, or_false] at hm; have := gW b hb; omega), by unfold sizeMem at hsz ⊢; simp only; omega, fun b hb => by have := gW b hb; omega, hc.keepB (B := w.heap.size) hgl (by repeat (first | with_reducible exact Below.refl _ _ | with_reducible refine Below.setCell ?_ (by simp <;> omega) _ | with_reducible refine Below.alloc ?_ (by simp <;> omega) _ | with_reducible refine Below.drew ?_)) hC.size, hC.then_ (by repeat (first | with_reducible exact Below.refl _ _ | with_reducible refine Below.setCell ?_ (by simp <;> omega) _ | with_reducible refine Below.alloc ?_ (by simp <;> omega) _ | with_reducible refine Below.drew ?_))⟩
    have e0' : (k == 0) = false := by simpa using e0
    by_cases e1 : k = 1
    case pos =>
      subst e1
      go_wp2_with fail
      refine (l8Any_ct _ g code hc).mono ?_
      rintro e wk ⟨K_p, y, rfl, o_p, hy, l_p, hcn, hx⟩
      replace hc := hcn
      replace B_r := B_r.chg hx (by simp only [List.mem_cons, List.not_mem_nil, or_false]; omega)
      replace B_m := B_m.chg hx (by simp only [List.mem_cons, List.not_mem_nil, or_false]; omega)
      replace o_m := o_m.chg hx (fun b hb hm => by simp only [List.mem_cons, List.not_mem_nil, or_false] at hm; have := l_m b hb; have := u_m b hb; omega)
      replace hC := hC.trans hx
      have sz := hx.size
      replace sC := hC.size
      clear hx
      replace q_r_0 := B_r.cell 0 _ rfl
      replace q_r_1 := B_r.cell 1 _ rfl
      replace q_r_2 := B_r.cell 2 _ rfl
      replace q_r_3 := B_r.cell 3 _ rfl
      replace fr_r := B_r.fro
      replace z_r := B_r.lt
      replace q_m_0 := B_m.cell 0 _ rfl
      replace q_m_1 := B_m.cell 1 _ rfl
      replace q_m_2 := B_m.cell 2 _ rfl
      replace q_m_3 := B_m.cell 3 _ rfl
      replace fr_m := B_m.fro
      replace z_m := B_m.lt
      have u_p := o_p.lt
      have oW : OwMem wk ⟨K_m.Heap, K_p⟩ ⟨x.Heap, y⟩ := ⟨o_m.Heap, o_p, fun b hb hm => by have := l_p b hm; have := u_m b (HMem.mem_foot.2 (.inl hb)); omega⟩
      have gW : ∀ b ∈ HMem.foot ⟨K_m.Heap, K_p⟩, w.heap.size < b ∧ b ≠ w1.heap.size := fun b hb => by rcases HMem.mem_foot.1 hb with h1 | h1; (have := l_m b (HMem.mem_foot.2 (.inl h1)); have := u_m b (HMem.mem_foot.2 (.inl h1)); omega); (have := l_p b h1; omega)
      go_wp2_with fail
      refine bodyPost_ret (v := .tuple #[.agg #[.slice K_m.Heap.Bytes.a K_m.Heap.Bytes.len K_m.Heap.Bytes.cap, .slice K_m.Heap.Class.a K_m.Heap.Class.len K_m.Heap.Class.cap, .slice K_p.Global.a K_p.Global.len K_p.Global.cap, .slice K_p.Own.a K_p.Own.len K_p.Own.cap], .int .i64 a]) (by simp [results, Tryz.results69, go_sem, q_r_0, q_r_1, q_r_2, q_r_3]) rfl ⟨⟨K_m.Heap, K_p⟩, ⟨x.Heap, y⟩, a, rfl, oW.chg (F := [w.heap.size, w1.heap.size]) (by repeat (first | with_reducible exact Chg.refl _ _ | with_reducible refine Chg.set_ ?_ (by simp) _ | with_reducible refine Chg.alloc_ ?_ _ | with_reducible refine Chg.drew_ ?_)) (fun b hb hm => by simp only [List.mem_cons, List.not_mem_nil, or_false] at hm; have := gW b hb; omega), by unfold sizeMem at hsz ⊢; simp only; omega, fun b hb => by have := gW b hb; omega, hc.keepB (B := w.heap.size) hgl (by repeat (first | with_reducible exact Below.refl _ _ | with_reducible refine Below.setCell ?_ (by simp <;> omega) _ | with_reducible refine Below.alloc ?_ (by simp <;> omega) _ | with_reducible refine Below.drew ?_)) hC.size, hC.then_ (by repeat (first | with_reducible exact Below.refl _ _ | with_reducible refine Below.setCell ?_ (by simp <;> omega) _ | with_reducible refine Below.alloc ?_ (by simp <;> omega) _ | with_reducible refine Below.drew ?_))⟩
    have e1' : (k == 1) = false := by simpa using e1
    clear e0 e1
    go_wp2_with fail
    refine bodyPost_ret (v := .tuple #[.agg #[.slice K_m.Heap.Bytes.a K_m.Heap.Bytes.len K_m.Heap.Bytes.cap, .slice K_m.Heap.Class.a K_m.Heap.Class.len K_m.Heap.Class.cap, .slice K_m.Lists.Global.a K_m.Lists.Global.len K_m.Lists.Global.cap, .slice K_m.Lists.Own.a K_m.Lists.Own.len K_m.Lists.Own.cap], .int .i64 a]) (by simp [results, Tryz.results69, go_sem, q_r_0, q_r_1, q_r_2, q_r_3]) rfl ⟨K_m, x, a, rfl, o_m.chg (F := [w.heap.size]) (by repeat (first | with_reducible exact Chg.refl _ _ | with_reducible refine Chg.set_ ?_ (by simp) _ | with_reducible refine Chg.alloc_ ?_ _ | with_reducible refine Chg.drew_ ?_)) (fun b hb hm => by simp only [List.mem_cons, List.not_mem_nil, or_false] at hm; have := l_m b hb; have := u_m b hb; omega), by omega, fun b hb => by have := l_m b hb; omega, hc.keepB (B := w.heap.size) hgl (by repeat (first | with_reducible exact Below.refl _ _ | with_reducible refine Below.setCell ?_ (by simp <;> omega) _ | with_reducible refine Below.alloc ?_ (by simp <;> omega) _ | with_reducible refine Below.drew ?_)) hC.size, hC.then_ (by repeat (first | with_reducible exact Below.refl _ _ | with_reducible refine Below.setCell ?_ (by simp <;> omega) _ | with_reducible refine Below.alloc ?_ (by simp <;> omega) _ | with_reducible refine Below.drew ?_))⟩
  | true =>
    go_wp2_with fail
    refine (l6Handle_ct _ g code hc).mono ?_
    rintro e w81 ⟨h6, rfl, h60, h61, hcn, hx⟩
    replace hc := hcn
    replace B_r := B_r.chg hx (by simp only [List.mem_cons, List.not_mem_nil, or_false]; omega)
    replace B_m := B_m.chg hx (by simp only [List.mem_cons, List.not_mem_nil, or_false]; omega)
    replace o_m := o_m.chg hx (fun b hb hm => by simp only [List.mem_cons, List.not_mem_nil, or_false] at hm; have := l_m b hb; have := u_m b hb; omega)
    replace hC := hC.trans hx
    have sz := hx.size
    replace sC := hC.size
    clear hx
    skip
    replace q_r_0 := B_r.cell 0 _ rfl
    replace q_r_1 := B_r.cell 1 _ rfl
    replace q_r_2 := B_r.cell 2 _ rfl
    replace q_r_3 := B_r.cell 3 _ rfl
    replace fr_r := B_r.fro
    replace z_r := B_r.lt
    replace q_m_0 := B_m.cell 0 _ rfl
    replace q_m_1 := B_m.cell 1 _ rfl
    replace q_m_2 := B_m.cell 2 _ rfl
    replace q_m_3 := B_m.cell 3 _ rfl
    replace fr_m := B_m.fro
    replace z_m := B_m.lt
    go_wp2_with fail
    refine (l1Below_ct _ g code 24 (by unfold I64; omega) hc).mono ?_
    rintro e w82 ⟨k, rfl, k0, k1, hcn, hx⟩
    replace hc := hcn
    replace B_r := B_r.chg hx (by simp only [List.mem_cons, List.not_mem_nil, or_false]; omega)
    replace B_m := B_m.chg hx (by simp only [List.mem_cons, List.not_mem_nil, or_false]; omega)
    replace o_m := o_m.chg hx (fun b hb hm => by simp only [List.mem_cons, List.not_mem_nil, or_false] at hm; have := l_m b hb; have := u_m b hb; omega)
    replace hC := hC.trans hx
    have sz := hx.size
    replace sC := hC.size
    clear hx
    skip
    replace q_r_0 := B_r.cell 0 _ rfl
    replace q_r_1 := B_r.cell 1 _ rfl
    replace q_r_2 := B_r.cell 2 _ rfl
    replace q_r_3 := B_r.cell 3 _ rfl
    replace fr_r := B_r.fro
    replace z_r := B_r.lt
    replace q_m_0 := B_m.cell 0 _ rfl
    replace q_m_1 := B_m.cell 1 _ rfl
    replace q_m_2 := B_m.cell 2 _ rfl
    replace q_m_3 := B_m.cell 3 _ rfl
    replace fr_m := B_m.fro
    replace z_m := B_m.lt
    by_cases e0 : k = 0
    case pos =>
      subst e0
      go_wp2_with fail
      refine (l7Any_ct _ g code hc).mono ?_
      rintro e wk ⟨K_p, y, rfl, o_p, hy, l_p, hcn, hx⟩
      replace hc := hcn
      replace B_r := B_r.chg hx (by simp only [List.mem_cons, List.not_mem_nil, or_false]; omega)
      replace B_m := B_m.chg hx (by simp only [List.mem_cons, List.not_mem_nil, or_false]; omega)
      replace o_m := o_m.chg hx (fun b hb hm => by simp only [List.mem_cons, List.not_mem_nil, or_false] at hm; have := l_m b hb; have := u_m b hb; omega)
      replace hC := hC.trans hx
      have sz := hx.size
      replace sC := hC.size
      clear hx
      replace q_r_0 := B_r.cell 0 _ rfl
      replace q_r_1 := B_r.cell 1 _ rfl
      replace q_r_2 := B_r.cell 2 _ rfl
      replace q_r_3 := B_r.cell 3 _ rfl
      replace fr_r := B_r.fro
      replace z_r := B_r.lt
      replace q_m_0 := B_m.cell 0 _ rfl
      replace q_m_1 := B_m.cell 1 _ rfl
      replace q_m_2 := B_m.cell 2 _ rfl
      replace q_m_3 := B_m.cell 3 _ rfl
      replace fr_m := B_m.fro
      replace z_m := B_m.lt
      have u_p := o_p.lt
      have oW : OwMem wk ⟨K_p, K_m.Lists⟩ ⟨y, x.Lists⟩ := ⟨o_p, o_m.Lists, fun b hb hm => by have := l_p b hb; have := u_m b (HMem.mem_foot.2 (.inr hm)); omega⟩
      have gW : ∀ b ∈ HMem.foot ⟨K_p, K_m.Lists⟩, w.heap.size < b ∧ b ≠ w1.heap.size := fun b hb => by rcases HMem.mem_foot.1 hb with h1 | h1; (have := l_p b h1; omega); (have := l_m b (HMem.mem_foot.2 (.inr h1)); have := u_m b (HMem.mem_foot.2 (.inr h1)); omega)
      go_wp2_with fail
      refine bodyPost_ret (v := .tuple #[.agg #[.slice K_p.Bytes.a K_p.Bytes.len K_p.Bytes.cap, .slice K_p.Class.a K_p.Class.len K_p.Class.cap, .slice K_m.Lists.Global.a K_m.Lists.Global.len K_m.Lists.Global.cap, .slice K_m.Lists.Own.a K_m.Lists.Own.len K_m.Lists.Own.cap], .int .i64 h6]) (by simp [results, Tryz.results69, go_sem, q_r_0, q_r_1, q_r_2, q_r_3]) rfl ⟨⟨K_p, K_m.Lists⟩, ⟨y, x.Lists⟩, h6, rfl, oW.chg (F := [w.heap.size, w1.heap.size]) (by repeat (first | with_reducible exact Chg.refl _ _ | with_reducible refine Chg.set_ ?_ (by simp) _ | with_reducible refine Chg.alloc_ ?_ _ | with_reducible refine Chg.drew_ ?_)) (fun b hb hm => by simp only [List.mem_cons, List.not_mem_nil, or_false] at hm; have := gW b hb; omega), by unfold sizeMem at hsz ⊢; simp only; omega, fun b hb => by have := gW b hb; omega, hc.keepB (B := w.heap.size) hgl (by repeat (first | with_reducible exact Below.refl _ _ | with_reducible refine Below.setCell ?_ (by simp <;> omega) _ | with_reducible refine Below.alloc ?_ (by simp <;> omega) _ | with_reducible refine Below.drew ?_)) hC.size, hC.then_ (by repeat (first | with_reducible exact Below.refl _ _ | with_reducible refine Below.setCell ?_ (by simp <;> omega) _ | with_reducible refine Below.alloc ?_ (by simp <;> omega) _ | with_reducible refine Below.drew ?_))⟩
    have e0' : (k == 0) = false := by simpa using e0
    by_cases e1 : k = 1
    case pos =>
      subst e1
      go_wp2_with fail
      refine (l8Any_ct _ g code hc).mono ?_
      rintro e wk ⟨K_p, y, rfl, o_p, hy, l_p, hcn, hx⟩
      replace hc := hcn
      replace B_r := B_r.chg hx (by simp only [List.mem_cons, List.not_mem_nil, or_false]; omega)
      replace B_m := B_m.chg hx (by simp only [List.mem_cons, List.not_mem_nil, or_false]; omega)
      replace o_m := o_m.chg hx (fun b hb hm => by simp only [List.mem_cons, List.not_mem_nil, or_false] at hm; have := l_m b hb; have := u_m b hb; omega)
      replace hC := hC.trans hx
      have sz := hx.size
      replace sC := hC.size
      clear hx
      replace q_r_0 := B_r.cell 0 _ rfl
      replace q_r_1 := B_r.cell 1 _ rfl
      replace q_r_2 := B_r.cell 2 _ rfl
      replace q_r_3 := B_r.cell 3 _ rfl
      replace fr_r := B_r.fro
      replace z_r := B_r.lt
      replace q_m_0 := B_m.cell 0 _ rfl
      replace q_m_1 := B_m.cell 1 _ rfl
      replace q_m_2 := B_m.cell 2 _ rfl
      replace q_m_3 := B_m.cell 3 _ rfl
      replace fr_m := B_m.fro
      replace z_m := B_m.lt
      have u_p := o_p.lt
      have oW : OwMem wk ⟨K_m.Heap, K_p⟩ ⟨x.Heap, y⟩ := ⟨o_m.Heap, o_p, fun b hb hm => by have := l_p b hm; have := u_m b (HMem.mem_foot.2 (.inl hb)); omega⟩
      have gW : ∀ b ∈ HMem.foot ⟨K_m.Heap, K_p⟩, w.heap.size < b ∧ b ≠ w1.heap.size := fun b hb => by rcases HMem.mem_foot.1 hb with h1 | h1; (have := l_m b (HMem.mem_foot.2 (.inl h1)); have := u_m b (HMem.mem_foot.2 (.inl h1)); omega); (have := l_p b h1; omega)
      go_wp2_with fail
      refine bodyPost_ret (v := .tuple #[.agg #[.slice K_m.Heap.Bytes.a K_m.Heap.Bytes.len K_m.Heap.Bytes.cap, .slice K_m.Heap.Class.a K_m.Heap.Class.len K_m.Heap.Class.cap, .slice K_p.Global.a K_p.Global.len K_p.Global.cap, .slice K_p.Own.a K_p.Own.len K_p.Own.cap], .int .i64 h6]) (by simp [results, Tryz.results69, go_sem, q_r_0, q_r_1, q_r_2, q_r_3]) rfl ⟨⟨K_m.Heap, K_p⟩, ⟨x.Heap, y⟩, h6, rfl, oW.chg (F := [w.heap.size, w1.heap.size]) (by repeat (first | with_reducible exact Chg.refl _ _ | with_reducible refine Chg.set_ ?_ (by simp) _ | with_reducible refine Chg.alloc_ ?_ _ | with_reducible refine Chg.drew_ ?_)) (fun b hb hm => by simp only [List.mem_cons, List.not_mem_nil, or_false] at hm; have := gW b hb; omega), by unfold sizeMem at hsz ⊢; simp only; omega, fun b hb => by have := gW b hb; omega, hc.keepB (B := w.heap.size) hgl (by repeat (first | with_reducible exact Below.refl _ _ | with_reducible refine Below.setCell ?_ (by simp <;> omega) _ | with_reducible refine Below.alloc ?_ (by simp <;> omega) _ | with_reducible refine Below.drew ?_)) hC.size, hC.then_ (by repeat (first | with_reducible exact Below.refl _ _ | with_reducible refine Below.setCell ?_ (by simp <;> omega) _ | with_reducible refine Below.alloc ?_ (by simp <;> omega) _ | with_reducible refine Below.drew ?_))⟩
    have e1' : (k == 1) = false := by simpa using e1
    clear e0 e1
    go_wp2_with fail
    refine bodyPost_ret (v := .tuple #[.agg #[.slice K_m.Heap.Bytes.a K_m.Heap.Bytes.len K_m.Heap.Bytes.cap, .slice K_m.Heap.Class.a K_m.Heap.Class.len K_m.Heap.Class.cap, .slice K_m.Lists.Global.a K_m.Lists.Global.len K_m.Lists.Global.cap, .slice K_m.Lists.Own.a K_m.Lists.Own.len K_m.Lists.Own.cap], .int .i64 h6]) (by simp [results, Tryz.results69, go_sem, q_r_0, q_r_1, q_r_2, q_r_3]) rfl ⟨K_m, x, h6, rfl, o_m.chg (F := [w.heap.size]) (by repeat (first | with_reducible exact Chg.refl _ _ | with_reducible refine Chg.set_ ?_ (by simp) _ | with_reducible refine Chg.alloc_ ?_ _ | with_reducible refine Chg.drew_ ?_)) (fun b hb hm => by simp only [List.mem_cons, List.not_mem_nil, or_false] at hm; have := l_m b hb; have := u_m b hb; omega), by omega, fun b hb => by have := l_m b hb; omega, hc.keepB (B := w.heap.size) hgl (by repeat (first | with_reducible exact Below.refl _ _ | with_reducible refine Below.setCell ?_ (by simp <;> omega) _ | with_reducible refine Below.alloc ?_ (by simp <;> omega) _ | with_reducible refine Below.drew ?_)) hC.size, hC.then_ (by repeat (first | with_reducible exact Below.refl _ _ | with_reducible refine Below.setCell ?_ (by simp <;> omega) _ | with_reducible refine Below.alloc ?_ (by simp <;> omega) _ | with_reducible refine Below.drew ?_))⟩
end Go.Proofs.YtkmggglljkmjoaaGreat

/-
  Slices cut, appended to within their room, cleared: words for slices that the call owns.
  Plain definitions and theorems.
-/
namespace Go.Proofs.YtkmggglljkmjoaaGreat
open Go.RowKit
variable {α : Type} {T : FT α} {w : World} {t e : TypeId} {P : Program}

/-- Cells behind the slice's end, within its capacity. -/
theorem OwL.spare {g n c : Nat} {l : List α} (h : OwL T e w (.slice (some ⟨g, 0, none⟩) n c) l) (j : Nat) (hj : j < c * T.n) : (w.cell? ⟨g, j, none⟩).isSome = true := by
  rcases h.2 with ⟨h', _⟩ | ⟨g', cap', cur, h', _, hg, hnc, hcm, hcs, htake⟩
  · simp at h'
  · simp only [Value.slice.injEq, Option.some.injEq, Addr.mk.injEq, and_true] at h'
    obtain ⟨rfl, _, rfl⟩ := h'
    rw [cell_of_row w g j cur e (0, 0) hg, Array.getElem?_eq_getElem (by omega)]
    rfl

end Go.Proofs.YtkmggglljkmjoaaGreat

/-
  Drawn hazard pointers.
-/
namespace Go.Proofs.YtkmggglljkmjoaaGreat.Lim
open Go.RowKit
set_option maxRecDepth 1000000 in
set_option maxHeartbeats 1000000 in
theorem l1New_ct (w : World) (v : Value) (code : List Int) (h : RdL FU8 w w.heap.size v code) (hb : ∀ x ∈ code, 0 ≤ x ∧ x ≤ 255) (hs : code.length ≤ 1073741824) :
    Calls Tryz.prog 51 #[v] w fun e w' => e = .returned (.pointer (some ⟨w.heap.size, 0, none⟩)) ∧ Cur w' w.heap.size code ∧ Below w.heap.size w w' := by
  obtain ⟨A, cap, hv, _⟩ := id h
  subst hv
  go_enter Tryz.func51, Tryz.ntmps51
  go_wp2
  go_loop [3, 4] (fun h i => ∃ (k : Nat) (x : Int), k ≤ code.length ∧ i = .int .i64 k ∧ h = .int .i64 x) (fun _ i => code.length - (intOf i).toNat)
  case atStart => exact ⟨0, _, Nat.zero_le _, rfl, rfl⟩
  case round =>
    obtain ⟨k, x, hk, rfl, rfl⟩ := hrel
    have fin : ∀ y : Int, Cur (w.alloc (.cells #[.slice A code.length cap, .int .i64 0, .int .i64 y] 118)) w.heap.size code := fun y =>
      ⟨by simp, hb, ⟨A, cap, by simp [go_sem], h.keep (fun k hk => Below.heap_alloc w _ k hk) (Nat.le_refl _)⟩, ⟨0, by simp [go_sem], Nat.zero_le _⟩, ⟨y, by simp [go_sem]⟩, by simp [go_sem], by simp [go_sem]⟩
    have HFin := Hid.mk_ fin
    clear fin
    by_cases hlt : k < code.length
    · by_cases h4 : k < 4000
      · obtain ⟨g, off, cap', he, hg, _, _, hc⟩ := h.at_ (List.getElem?_eq_getElem hlt)
        injection he with he1 he2 he3
        clear he2
        subst he1 he3
        have p0 : w.cell? ⟨g, off + k, none⟩ = some (.int .u8 code[k]) := by simpa [FU8] using hc 0 _ rfl
        have bb := hb code[k] (List.getElem_mem hlt)
        obtain ⟨b0, b1⟩ := bb
        clear hc
        go_wp2
        go_round
        case rel => exact ⟨k + 1, _, by omega, by go_num, rfl⟩
        case measure => simp [intOf]; omega
      · go_wp2
        go_ret
        exact ⟨rfl, HFin.out _, (Below.refl _ _).alloc (Nat.le_refl _) _⟩
    · go_wp2
      go_ret
      exact ⟨rfl, HFin.out _, (Below.refl _ _).alloc (Nat.le_refl _) _⟩
theorem Cur.other {w : World} {g gz i : Nat} {code : List Int} (h : Cur w g code) (hg : g < gz) (v : Value) : Cur (w.setCell ⟨gz, i, none⟩ v) g code := by
  obtain ⟨lt, by_, ⟨A, cap, p0, r⟩, ⟨j, p1, hi⟩, ⟨hh, p2⟩, f1, f2⟩ := h
  have e : ∀ k, k ≤ g → (w.setCell ⟨gz, i, none⟩ v).heap[k]? = w.heap[k]? := fun k hk => Below.heap_setCell _ _ _ _ (by simp; omega)
  have ec : ∀ j, (w.setCell ⟨gz, i, none⟩ v).cell? ⟨g, j, none⟩ = w.cell? ⟨g, j, none⟩ := fun j => by simp only [World.cell?, e g (Nat.le_refl _)]
  have ef : ∀ j, (w.setCell ⟨gz, i, none⟩ v).frozen? ⟨g, j, none⟩ = w.frozen? ⟨g, j, none⟩ := fun j => by simp only [World.frozen?, e g (Nat.le_refl _)]
  exact ⟨by simpa using lt, by_, ⟨A, cap, (ec 0).trans p0, r.keep (fun k hk => e k (by omega)) (Nat.le_refl _)⟩, ⟨j, (ec 1).trans p1, hi⟩, ⟨hh, (ec 2).trans p2⟩, (ef 1).trans f1, (ef 2).trans f2⟩
end Go.Proofs.YtkmggglljkmjoaaGreat.Lim

/-
  Draws of the laws on memories.
-/
namespace Go.Proofs.YtkmggglljkmjoaaGreat
open Go.RowKit
open Go.Proofs.YtkmggglljkmjoaaGreat.Lim

set_option maxRecDepth 100000 in
set_option maxHeartbeats 4000000 in
theorem DrawCounts_ct (w : World) (v : Value) (code : List Int) (h : RdL FU8 w w.heap.size v code) (hb : ∀ x ∈ code, 0 ≤ x ∧ x ≤ 255) (hs : code.length ≤ 1073741824) :
    Calls Tryz.prog 17 #[v] w fun e w' => ∃ (H : HMem) (x : Mem), e = .returned (.agg #[.slice H.Heap.Bytes.a H.Heap.Bytes.len H.Heap.Bytes.cap, .slice H.Heap.Class.a H.Heap.Class.len H.Heap.Class.cap, .slice H.Lists.Global.a H.Lists.Global.len H.Lists.Global.cap, .slice H.Lists.Own.a H.Lists.Own.len H.Lists.Own.cap]) ∧ OwMem w' H x ∧ sizeMem x ≤ 1000 ∧ (∀ g ∈ H.foot, w.heap.size ≤ g) ∧ Below w.heap.size w w' := by
  go_enter Tryz.func17, Tryz.ntmps17
  go_wp2_with fail
  refine (l1New_ct _ _ code (h.alloc_ (Nat.le_refl _) (by simp) _) hb hs).mono ?_
  rintro e w1 ⟨rfl, hc, hb1⟩
  have hsz1 := hb1.size
  simp only [World.size_alloc] at hc hsz1 ⊢
  have B_r : Box w1 w.heap.size [.slice none 0 0, .slice none 0 0, .slice none 0 0, .slice none 0 0] := (Box.new w #[.slice none 0 0, .slice none 0 0, .slice none 0 0, .slice none 0 0] 31).below hb1
  have hbw : Below w.heap.size w w1 := ((Below.refl _ w).alloc (Nat.le_refl _) _).trans (hb1.mono (by simp))
  have hlt1 := hc.lt
  go_wp2_with fail
  refine (l9Any_ct _ _ code hc).mono ?_
  rintro e w2 ⟨H, x, av, rfl, o_m, hz, l_m, hcn, hx⟩
  have nr : w.heap.size ∉ [w.heap.size + 1] := by simp
  replace B_r := B_r.chg hx nr
  have hB : Below w.heap.size w w2 := hbw.trans (hx.below hbw.size (fun g hm => by simp at hm; omega))
  replace hc := hcn
  have u_m := o_m.lt
  have fl : ∀ b ∈ H.foot, w.heap.size + 1 < b ∧ b < w2.heap.size := fun b hb => by have := l_m b hb; have := u_m b hb; omega
  have sz2 := hx.size
  clear hb1 hcn l_m u_m hbw
  have q_r_0 := B_r.cell 0 _ rfl
  have q_r_1 := B_r.cell 1 _ rfl
  have q_r_2 := B_r.cell 2 _ rfl
  have q_r_3 := B_r.cell 3 _ rfl
  have fr_r := B_r.fro
  have z_r := B_r.lt
  go_wp2_with fail
  have hbx := ((((B_r.set 0 (.slice H.Heap.Bytes.a H.Heap.Bytes.len H.Heap.Bytes.cap)).set 1 (.slice H.Heap.Class.a H.Heap.Class.len H.Heap.Class.cap)).set 2 (.slice H.Lists.Global.a H.Lists.Global.len H.Lists.Global.cap)).set 3 (.slice H.Lists.Own.a H.Lists.Own.len H.Lists.Own.cap)).alloc (.cells #[.slice H.Heap.Bytes.a H.Heap.Bytes.len H.Heap.Bytes.cap, .slice H.Heap.Class.a H.Heap.Class.len H.Heap.Class.cap, .slice H.Lists.Global.a H.Lists.Global.len H.Lists.Global.cap, .slice H.Lists.Own.a H.Lists.Own.len H.Lists.Own.cap] 31)
  have qx0 := hbx.cell 0 _ rfl
  have qx1 := hbx.cell 1 _ rfl
  have qx2 := hbx.cell 2 _ rfl
  have qx3 := hbx.cell 3 _ rfl
  refine bodyPost_ret (v := .agg #[.slice H.Heap.Bytes.a H.Heap.Bytes.len H.Heap.Bytes.cap, .slice H.Heap.Class.a H.Heap.Class.len H.Heap.Class.cap, .slice H.Lists.Global.a H.Lists.Global.len H.Lists.Global.cap, .slice H.Lists.Own.a H.Lists.Own.len H.Lists.Own.cap]) (by simp [results, Tryz.results17, go_sem, qx0, qx1, qx2, qx3]) rfl ⟨H, x, rfl, o_m.chg (F := [w.heap.size]) (by repeat (first | with_reducible exact Chg.refl _ _ | with_reducible refine Chg.set_ ?_ (by simp) _ | with_reducible refine Chg.alloc_ ?_ _ | with_reducible refine Chg.drew_ ?_)) (fun b hb hm => by simp only [List.mem_cons, List.not_mem_nil, or_false] at hm; have := fl b hb; omega), hz, fun b hb => by have := fl b hb; omega, Below.trans hB (by repeat (first | with_reducible exact Below.refl _ _ | with_reducible refine Below.setCell ?_ (by simp <;> omega) _ | with_reducible refine Below.alloc ?_ (by simp <;> omega) _ | with_reducible refine Below.drew ?_))⟩
end Go.Proofs.YtkmggglljkmjoaaGreat

