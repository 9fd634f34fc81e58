/-
  Several texts in one: lemmas and contracts that the claim rests on.
-/
import Derived.Test.YtkmggglljkmjoaaGreatUHCounts1
import Derived.Deep.QuietTactic
import Derived.BigQuiet
import Derived.Deep.LoopGhost
import Derived.Deep.RegionHeld3
import Derived.WalkSpells
import Derived.Laws.Cover3
import Derived.Test.YtkmggglljkmjoaaGreatUHCounts4
import Derived.Test.YtkmggglljkmjoaaGreatUHCounts5
import Derived.Deep.CutRange
import Derived.Test.YtkmggglljkmjoaaGreatUHCounts3
/-
  Drawn heaps.
-/
namespace Go.Proofs.YtkmggglljkmjoaaGreat
open Go.RowKit
open Go.Proofs.YtkmggglljkmjoaaGreat.Lim

structure HeapS (x : Heap) : Prop where
  bl : x.Bytes.length = 384
  cl : x.Class.length = 6
theorem HeapS.sz {x : Heap} (h : HeapS x) : sizeHeap x ≤ 536870912 := by
  have := h.bl
  have := h.cl
  unfold sizeHeap
  omega
theorem HeapS.new : HeapS newHeap := ⟨List.length_replicate, List.length_replicate⟩
theorem HeapS.of {x y : Heap} (h : HeapS x) (e : y.Bytes.length = x.Bytes.length ∧ y.Class.length = x.Class.length) : HeapS y := ⟨e.1.trans h.bl, e.2.trans h.cl⟩
def DrawH (w : World) (g : Nat) (code : List Int) (e : Ending) (w' : World) : Prop := ∃ (H : HHeap) (x : Heap), e = .returned (H.val x) ∧ OwHeap w' H x ∧ HeapS x ∧ (∀ b ∈ H.foot, w.heap.size ≤ b) ∧ Cur w' g code ∧ Chg [g] w w'

set_option maxRecDepth 100000 in
set_option maxHeartbeats 8000000 in
theorem l7Heap_ct (w : World) (g : Nat) (code : List Int) (hc : Cur w g code) : Calls Tryz.prog 193 #[.pointer (some ⟨g, 0, none⟩)] w (DrawH w g code) := by
  have hgl := hc.lt
  have B_r : Box (w.alloc (.cells #[.slice none 0 0, .slice none 0 0] 26)) (w.heap.size) [.slice none 0 0, .slice none 0 0] := by
    have hbx := Box.new w #[.slice none 0 0, .slice none 0 0] 26
    exact hbx
  have hC : Chg [g] w (w.alloc (.cells #[.slice none 0 0, .slice none 0 0] 26)) := (Chg.refl [g] w).alloc_ _
  replace hc : Cur (w.alloc (.cells #[.slice none 0 0, .slice none 0 0] 26)) g code := (hc).alloc _
  go_enter Tryz.func193, Tryz.ntmps193
  go_wp2_with fail
  generalize hW0 : (w.alloc (.cells #[.slice none 0 0, .slice none 0 0] 26)) = w0 at B_r hC hc ⊢
  clear hW0
  have zz_r := B_r.lt
  have la_r : w.heap.size ≤ w.heap.size := by omega
  have sC := hC.size
  have q_r_0 := B_r.cell 0 _ rfl
  have q_r_1 := B_r.cell 1 _ rfl
  have fr_r := B_r.fro
  have z_r := B_r.lt
  refine (HeapNew_spec _).mono ?_
  rintro e w1 ⟨K_h, rfl, o_h, l_h, hb⟩
  have u_h := o_h.lt
  replace B_r := B_r.below hb
  replace hC := hC.trans (Chg.of_below hb)
  replace hc := hc.up hb
  have sz := hb.size
  replace sC := hC.size
  clear hb
  replace q_r_0 := B_r.cell 0 _ rfl
  replace q_r_1 := B_r.cell 1 _ rfl
  replace fr_r := B_r.fro
  replace z_r := B_r.lt
  have HS := HeapS.new
  generalize newHeap = x0 at *
  go_wp2_with fail
  replace B_r := B_r.alloc (.cells #[.slice K_h.Bytes.a K_h.Bytes.len K_h.Bytes.cap, .slice K_h.Class.a K_h.Class.len K_h.Class.cap] 26)
  replace o_h := o_h.alloc_ (.cells #[.slice K_h.Bytes.a K_h.Bytes.len K_h.Bytes.cap, .slice K_h.Class.a K_h.Class.len K_h.Class.cap] 26)
  replace hC := hC.alloc_ (.cells #[.slice K_h.Bytes.a K_h.Bytes.len K_h.Bytes.cap, .slice K_h.Class.a K_h.Class.len K_h.Class.cap] 26)
  replace hc := hc.alloc (.cells #[.slice K_h.Bytes.a K_h.Bytes.len K_h.Bytes.cap, .slice K_h.Class.a K_h.Class.len K_h.Class.cap] 26)
  have B_h : Box (w1.alloc (.cells #[.slice K_h.Bytes.a K_h.Bytes.len K_h.Bytes.cap, .slice K_h.Class.a K_h.Class.len K_h.Class.cap] 26)) w1.heap.size [.slice K_h.Bytes.a K_h.Bytes.len K_h.Bytes.cap, .slice K_h.Class.a K_h.Class.len K_h.Class.cap] := Box.new w1 #[.slice K_h.Bytes.a K_h.Bytes.len K_h.Bytes.cap, .slice K_h.Class.a K_h.Class.len K_h.Class.cap] 26
  have zz_h := B_h.lt
  have sz : w1.heap.size ≤ (w1.alloc (.cells #[.slice K_h.Bytes.a K_h.Bytes.len K_h.Bytes.cap, .slice K_h.Class.a K_h.Class.len K_h.Class.cap] 26)).heap.size := Nat.le_of_lt B_h.lt
  have la_h : w.heap.size ≤ w1.heap.size := by omega
  generalize hG : (w1.alloc (.cells #[.slice K_h.Bytes.a K_h.Bytes.len K_h.Bytes.cap, .slice K_h.Class.a K_h.Class.len K_h.Class.cap] 26)) = w2 at B_r o_h hC hc B_h zz_h sz ⊢
  clear hG
  replace sC := hC.size
  replace q_r_0 := B_r.cell 0 _ rfl
  replace q_r_1 := B_r.cell 1 _ rfl
  replace fr_r := B_r.fro
  replace z_r := B_r.lt
  have q_h_0 := B_h.cell 0 _ rfl
  have q_h_1 := B_h.cell 1 _ rfl
  have fr_h := B_h.fro
  have z_h := B_h.lt
  refine (l1Below_ct _ g code 7 (by unfold I64; omega) hc).mono ?_
  rintro e w3 ⟨n0, rfl, n0a, n0b, hcn, hx⟩
  replace hc := hcn
  replace B_r := B_r.chg hx (by simp only [List.mem_cons, List.not_mem_nil, or_false]; omega)
  replace B_h := B_h.chg hx (by simp only [List.mem_cons, List.not_mem_nil, or_false]; omega)
  replace o_h := o_h.chg hx (fun b hb hm => by simp only [List.mem_cons, List.not_mem_nil, or_false] at hm; have := l_h b hb; have := u_h b hb; omega)
  replace hC := hC.trans hx
  have sz := hx.size
  replace sC := hC.size
  clear hx
  skip
  replace q_r_0 := B_r.cell 0 _ rfl
  replace q_r_1 := B_r.cell 1 _ rfl
  replace fr_r := B_r.fro
  replace z_r := B_r.lt
  replace q_h_0 := B_h.cell 0 _ rfl
  replace q_h_1 := B_h.cell 1 _ rfl
  replace fr_h := B_h.fro
  replace z_h := B_h.lt
  obtain ⟨m0, rfl⟩ := Int.eq_ofNat_of_zero_le n0a
  have hah : w.heap.size < w1.heap.size := by omega
  go_wp2_with fail
  go_loopw [4] (fun i wr => ∃ (k : Nat) (H : HHeap) (x : Heap), i = .int .i64 k ∧ k ≤ 6 ∧ Box wr (w1.heap.size) [.slice H.Bytes.a H.Bytes.len H.Bytes.cap, .slice H.Class.a H.Class.len H.Class.cap] ∧ Box wr w.heap.size [.slice none 0 0, .slice none 0 0] ∧ OwHeap wr H x ∧ HeapS x ∧ (∀ b ∈ H.foot, w.heap.size < b ∧ b ≠ w1.heap.size) ∧ Cur wr g code ∧ Chg [g] w wr) (fun i _ => (intOf i).toNat)
  case atStart => exact ⟨m0, K_h, x0, rfl, by omega, B_h, B_r, o_h, HS, fun b hb => by have := l_h b hb; have := u_h b hb; omega, hc, hC⟩
  case round =>
    clear B_h fr_h z_h q_h_0 q_h_1
    clear B_r fr_r z_r q_r_0 q_r_1
    clear o_h l_h u_h HS hc hC sC
    obtain ⟨wo, rfl⟩ : ∃ W : World, W = wr := ⟨_, rfl⟩
    obtain ⟨k, K_h, x, rfl, hk6, B_h, B_r, o_h, HS, n_h, hc, hC⟩ := hrel
    have u_h := o_h.lt
    have sC := hC.size
    have q_h_0 := B_h.cell 0 _ rfl
    have q_h_1 := B_h.cell 1 _ rfl
    have fr_h := B_h.fro
    have z_h := B_h.lt
    have q_r_0 := B_r.cell 0 _ rfl
    have q_r_1 := B_r.cell 1 _ rfl
    have fr_r := B_r.fro
    have z_r := B_r.lt
    by_cases hk : 0 < k
    case neg =>
      go_wp2_with fail
      refine bodyPost_ret (v := K_h.val x) (by simp [results, Tryz.results193, go_sem, q_r_0, q_r_1]) rfl ⟨K_h, x, rfl, o_h.chg (F := [w.heap.size]) (by repeat (first | with_reducible exact Chg.refl _ _ | with_reducible refine Chg.set_ ?_ (by simp) _ | with_reducible refine Chg.alloc_ ?_ _ | with_reducible refine Chg.drew_ ?_)) (fun b hb hm => by simp only [List.mem_cons, List.not_mem_nil, or_false] at hm; have := n_h b hb; have := u_h b hb; omega), HS, fun b hb => by have := n_h b hb; omega, hc.keepB (B := w.heap.size) hgl (by repeat (first | with_reducible exact Below.refl _ _ | with_reducible refine Below.setCell ?_ (by simp <;> omega) _ | with_reducible refine Below.alloc ?_ (by simp <;> omega) _ | with_reducible refine Below.drew ?_)) hC.size, hC.then_ (by repeat (first | with_reducible exact Below.refl _ _ | with_reducible refine Below.setCell ?_ (by simp <;> omega) _ | with_reducible refine Below.alloc ?_ (by simp <;> omega) _ | with_reducible refine Below.drew ?_))⟩
    have hsz := HS.sz
    have zp_h := z_h
    have zp_r := z_r
    go_upto_region 5 with (fail)
    go_cut [5, 6] from 13 to 23 (fun v5 v6 wx => ∃ (go : Nat) (K_n : HHeap) (y : Heap)  (v_l : SV) (l : List Int), v5 = .pointer (some ⟨go, 0, none⟩) ∧ v6 = .slice v_l.a v_l.len v_l.cap ∧ (HeapS y ∧ l.length ≤ 4) ∧ Box wx (w1.heap.size) [.slice K_h.Bytes.a K_h.Bytes.len K_h.Bytes.cap, .slice K_h.Class.a K_h.Class.len K_h.Class.cap] ∧ Box wx (w.heap.size) [.slice none 0 0, .slice none 0 0] ∧ Box wx go [.slice K_n.Bytes.a K_n.Bytes.len K_n.Bytes.cap, .slice K_n.Class.a K_n.Class.len K_n.Class.cap] ∧ OwHeap wx K_h x ∧ OwHeap wx K_n y ∧ (∀ b ∈ K_n.foot, wo.heap.size ≤ b ∧ b ≠ go) ∧ OwL FI 3 wx v_l.val l ∧ (∀ b ∈ foot1 v_l.val, wo.heap.size ≤ b ∧ b ≠ go) ∧ wo.heap.size ≤ go ∧ Cur wx g code ∧ Chg [g] w wx ∧ wo.heap.size ≤ wx.heap.size)
    case first =>
      go_region_held3 (fun w' => w'.cell? ⟨w1.heap.size, 0, none⟩ = some (.slice K_h.Bytes.a K_h.Bytes.len K_h.Bytes.cap) ∧ w'.cell? ⟨w1.heap.size, 1, none⟩ = some (.slice K_h.Class.a K_h.Class.len K_h.Class.cap)) (first | (with_reducible exact ⟨q_h_0, q_h_1⟩) | (refine ⟨?_, ?_⟩ <;> (repeat (first | with_reducible assumption | with_reducible refine cell_set_o ?_ (by omega) | with_reducible refine cell_alloc_o ?_ (by omega) | with_reducible refine cell_drew_o ?_)); done) | (go_keep; done)) (first | (go_at_call 63; (first | ((with_reducible refine (l1Below_ct _ g code 3 (by unfold I64; omega) hc).mono ?_); rintro e wq ⟨c_, rfl, c0, c1, hcn, hx⟩; replace B_h := B_h.chg hx (by simp only [List.mem_cons, List.not_mem_nil, or_false]; omega); replace B_r := B_r.chg hx (by simp only [List.mem_cons, List.not_mem_nil, or_false]; omega); replace o_h := o_h.chg hx (fun b hb hm => by simp only [List.mem_cons, List.not_mem_nil, or_false] at hm; have := n_h b hb; have := u_h b hb; omega); (try replace o_n := o_n.chg hx (fun b hb hm => by simp only [List.mem_cons, List.not_mem_nil, or_false] at hm; have := l_n b hb; have := u_n b hb; omega)); (try replace o_l := o_l.chg hx (fun b hb hm => by simp only [List.mem_cons, List.not_mem_nil, or_false] at hm; have := l_l b hb; have := u_l b hb; omega)); (try replace B_x := B_x.chg hx (by simp only [List.mem_cons, List.not_mem_nil, or_false]; omega)); (try replace q_x_0 := B_x.cell 0 _ rfl); (try replace q_x_1 := B_x.cell 1 _ rfl); (try replace q_x_f := B_x.fro); (try replace z_x := B_x.lt); replace hC := Chg.trans hC hx; replace hc := hcn; have sz := hx.size; replace sC := hC.size; clear hx; replace q_h_0 := B_h.cell 0 _ rfl; replace q_h_1 := B_h.cell 1 _ rfl; replace fr_h := B_h.fro; replace z_h := B_h.lt; replace q_r_0 := B_r.cell 0 _ rfl; replace q_r_1 := B_r.cell 1 _ rfl; replace fr_r := B_r.fro; replace z_r := B_r.lt; obtain ⟨c, rfl⟩ := Int.eq_ofNat_of_zero_le c0; have hc3 : c < 3 := (by omega)) | ((with_reducible refine (l1Below_ct _ g code 3 (by unfold I64; omega) (hc.alloc _)).mono ?_); rintro e wq ⟨c_, rfl, c0, c1, hcn, hx⟩; have ly_h := B_h.lt; have ly_r := B_r.lt; replace B_h := (B_h.alloc _).chg hx (by simp only [List.mem_cons, List.not_mem_nil, or_false]; omega); replace B_r := (B_r.alloc _).chg hx (by simp only [List.mem_cons, List.not_mem_nil, or_false]; omega); replace o_h := (o_h.alloc_ _).chg hx (fun b hb hm => by simp only [List.mem_cons, List.not_mem_nil, or_false] at hm; have := n_h b hb; have := u_h b hb; omega); (try replace o_n := (o_n.alloc_ _).chg hx (fun b hb hm => by simp only [List.mem_cons, List.not_mem_nil, or_false] at hm; have := l_n b hb; have := u_n b hb; omega)); (try replace o_l := (o_l.alloc_ _).chg hx (fun b hb hm => by simp only [List.mem_cons, List.not_mem_nil, or_false] at hm; have := l_l b hb; have := u_l b hb; omega)); have B_x := Box.chg (Box.new _ #[.slice none 0 0, .slice none 0 0] 26) hx (by simp only [List.mem_cons, List.not_mem_nil, or_false]; omega); have la_x := hC.size; have q_x_f := B_x.fro; have z_x := B_x.lt; have q_x_0 := B_x.cell 0 _ rfl; have q_x_1 := B_x.cell 1 _ rfl; replace hC := Chg.trans (hC.alloc_ _) hx; replace hc := hcn; have sz := sz_alloc hx.size; replace sC := hC.size; clear hx; replace q_h_0 := B_h.cell 0 _ rfl; replace q_h_1 := B_h.cell 1 _ rfl; replace fr_h := B_h.fro; replace z_h := B_h.lt; replace q_r_0 := B_r.cell 0 _ rfl; replace q_r_1 := B_r.cell 1 _ rfl; replace fr_r := B_r.fro; replace z_r := B_r.lt; obtain ⟨c, rfl⟩ := Int.eq_ofNat_of_zero_le c0; have hc3 : c < 3 := (by omega)) | ((with_reducible refine (l1Below_ct _ g code 3 (by unfold I64; omega) (hc.drew_)).mono ?_); rintro e wq ⟨c_, rfl, c0, c1, hcn, hx⟩; replace B_h := B_h.drew.chg hx (by simp only [List.mem_cons, List.not_mem_nil, or_false]; omega); replace B_r := B_r.drew.chg hx (by simp only [List.mem_cons, List.not_mem_nil, or_false]; omega); replace o_h := (o_h.drew_).chg hx (fun b hb hm => by simp only [List.mem_cons, List.not_mem_nil, or_false] at hm; have := n_h b hb; have := u_h b hb; omega); (try replace o_n := (o_n.drew_).chg hx (fun b hb hm => by simp only [List.mem_cons, List.not_mem_nil, or_false] at hm; have := l_n b hb; have := u_n b hb; omega)); (try replace o_l := (o_l.drew_).chg hx (fun b hb hm => by simp only [List.mem_cons, List.not_mem_nil, or_false] at hm; have := l_l b hb; have := u_l b hb; omega)); (try replace B_x := B_x.drew.chg hx (by simp only [List.mem_cons, List.not_mem_nil, or_false]; omega)); (try replace q_x_0 := B_x.cell 0 _ rfl); (try replace q_x_1 := B_x.cell 1 _ rfl); (try replace q_x_f := B_x.fro); (try replace z_x := B_x.lt); replace hC := Chg.trans hC.drew_ hx; replace hc := hcn; have sz := sz_drew hx.size; replace sC := hC.size; clear hx; replace q_h_0 := B_h.cell 0 _ rfl; replace q_h_1 := B_h.cell 1 _ rfl; replace fr_h := B_h.fro; replace z_h := B_h.lt; replace q_r_0 := B_r.cell 0 _ rfl; replace q_r_1 := B_r.cell 1 _ rfl; replace fr_r := B_r.fro; replace z_r := B_r.lt; obtain ⟨c, rfl⟩ := Int.eq_ofNat_of_zero_le c0; have hc3 : c < 3 := (by omega)) | ((with_reducible refine (l1Below_ct _ g code 3 (by unfold I64; omega) ((hc.drew_).alloc _)).mono ?_); rintro e wq ⟨c_, rfl, c0, c1, hcn, hx⟩; have ly_h := B_h.lt; have ly_r := B_r.lt; replace B_h := ((B_h.drew).alloc _).chg hx (by simp only [List.mem_cons, List.not_mem_nil, or_false]; omega); replace B_r := ((B_r.drew).alloc _).chg hx (by simp only [List.mem_cons, List.not_mem_nil, or_false]; omega); replace o_h := ((o_h.drew_).alloc_ _).chg hx (fun b hb hm => by simp only [List.mem_cons, List.not_mem_nil, or_false] at hm; have := n_h b hb; have := u_h b hb; omega); (try replace o_n := ((o_n.drew_).alloc_ _).chg hx (fun b hb hm => by simp only [List.mem_cons, List.not_mem_nil, or_false] at hm; have := l_n b hb; have := u_n b hb; omega)); (try replace o_l := ((o_l.drew_).alloc_ _).chg hx (fun b hb hm => by simp only [List.mem_cons, List.not_mem_nil, or_false] at hm; have := l_l b hb; have := u_l b hb; omega)); have B_x := Box.chg (Box.new _ #[.slice none 0 0, .slice none 0 0] 26) hx (by simp only [List.mem_cons, List.not_mem_nil, or_false]; omega); (try simp only [size_drew_] at B_x); have la_x := hC.size; have q_x_f := B_x.fro; have z_x := B_x.lt; have q_x_0 := B_x.cell 0 _ rfl; have q_x_1 := B_x.cell 1 _ rfl; replace hC := Chg.trans (hC.drew_.alloc_ _) hx; replace hc := hcn; have sz := sz_alloc_drew hx.size; replace sC := hC.size; clear hx; replace q_h_0 := B_h.cell 0 _ rfl; replace q_h_1 := B_h.cell 1 _ rfl; replace fr_h := B_h.fro; replace z_h := B_h.lt; replace q_r_0 := B_r.cell 0 _ rfl; replace q_r_1 := B_r.cell 1 _ rfl; replace fr_r := B_r.fro; replace z_r := B_r.lt; obtain ⟨c, rfl⟩ := Int.eq_ofNat_of_zero_le c0; have hc3 : c < 3 := (by omega)) | ((with_reducible refine (l1Below_ct _ g code 3 (by unfold I64; omega) ((hc.alloc _).drew_)).mono ?_); rintro e wq ⟨c_, rfl, c0, c1, hcn, hx⟩; have ly_h := B_h.lt; have ly_r := B_r.lt; replace B_h := (B_h.alloc _).drew.chg hx (by simp only [List.mem_cons, List.not_mem_nil, or_false]; omega); replace B_r := (B_r.alloc _).drew.chg hx (by simp only [List.mem_cons, List.not_mem_nil, or_false]; omega); replace o_h := ((o_h.alloc_ _).drew_).chg hx (fun b hb hm => by simp only [List.mem_cons, List.not_mem_nil, or_false] at hm; have := n_h b hb; have := u_h b hb; omega); (try replace o_n := ((o_n.alloc_ _).drew_).chg hx (fun b hb hm => by simp only [List.mem_cons, List.not_mem_nil, or_false] at hm; have := l_n b hb; have := u_n b hb; omega)); (try replace o_l := ((o_l.alloc_ _).drew_).chg hx (fun b hb hm => by simp only [List.mem_cons, List.not_mem_nil, or_false] at hm; have := l_l b hb; have := u_l b hb; omega)); have B_x := Box.chg (Box.new _ #[.slice none 0 0, .slice none 0 0] 26).drew hx (by simp only [List.mem_cons, List.not_mem_nil, or_false]; omega); have la_x := hC.size; have q_x_f := B_x.fro; have z_x := B_x.lt; have q_x_0 := B_x.cell 0 _ rfl; have q_x_1 := B_x.cell 1 _ rfl; replace hC := Chg.trans (hC.alloc_ _).drew_ hx; replace hc := hcn; have sz := sz_alloc (sz_drew hx.size); replace sC := hC.size; clear hx; replace q_h_0 := B_h.cell 0 _ rfl; replace q_h_1 := B_h.cell 1 _ rfl; replace fr_h := B_h.fro; replace z_h := B_h.lt; replace q_r_0 := B_r.cell 0 _ rfl; replace q_r_1 := B_r.cell 1 _ rfl; replace fr_r := B_r.fro; replace z_r := B_r.lt; obtain ⟨c, rfl⟩ := Int.eq_ofNat_of_zero_le c0; have hc3 : c < 3 := (by omega)))) | (go_at_call 223; (first | ((with_reducible refine (Grant_spec _ K_h x c (o_h).rd' hsz hc3).mono ?_); rintro e wq ⟨K_n, y, v_l, l, rfl, o_n, hly, o_l, hl4, l_n, l_l, hb⟩; have u_n := o_n.lt; have u_l := foot_lt o_l; replace B_h := B_h.below hb; replace B_r := B_r.below hb; replace o_h := o_h.step0 hb; (try replace B_x := B_x.below hb); (try replace q_x_0 := B_x.cell 0 _ rfl); (try replace q_x_1 := B_x.cell 1 _ rfl); (try replace q_x_f := B_x.fro); (try replace z_x := B_x.lt); replace hc := Cur.up hc hb; replace hC := Chg.trans hC (Chg.of_below hb); have sz := hb.size; replace sC := hC.size; clear hb; replace q_h_0 := B_h.cell 0 _ rfl; replace q_h_1 := B_h.cell 1 _ rfl; replace fr_h := B_h.fro; replace z_h := B_h.lt; replace q_r_0 := B_r.cell 0 _ rfl; replace q_r_1 := B_r.cell 1 _ rfl; replace fr_r := B_r.fro; replace z_r := B_r.lt; have HY := HS.of hly) | ((with_reducible refine (Grant_spec _ K_h x c ((o_h.alloc_ _)).rd' hsz hc3).mono ?_); rintro e wq ⟨K_n, y, v_l, l, rfl, o_n, hly, o_l, hl4, l_n, l_l, hb⟩; replace l_n := lc_alloc l_n; have u_n := o_n.lt; replace l_l := lc_alloc l_l; have u_l := foot_lt o_l; have ly_h := B_h.lt; have ly_r := B_r.lt; replace B_h := (B_h.alloc _).below hb; replace B_r := (B_r.alloc _).below hb; replace o_h := (o_h.alloc_ _).step0 hb; have B_x := Box.below (Box.new _ #[.slice none 0 0, .slice none 0 0] 26) hb; have la_x := hC.size; have q_x_f := B_x.fro; have z_x := B_x.lt; have q_x_0 := B_x.cell 0 _ rfl; have q_x_1 := B_x.cell 1 _ rfl; replace hc := Cur.up (hc.alloc _) hb; replace hC := Chg.trans (hC.alloc_ _) (Chg.of_below hb); have sz := sz_alloc hb.size; replace sC := hC.size; clear hb; replace q_h_0 := B_h.cell 0 _ rfl; replace q_h_1 := B_h.cell 1 _ rfl; replace fr_h := B_h.fro; replace z_h := B_h.lt; replace q_r_0 := B_r.cell 0 _ rfl; replace q_r_1 := B_r.cell 1 _ rfl; replace fr_r := B_r.fro; replace z_r := B_r.lt; have HY := HS.of hly) | ((with_reducible refine (Grant_spec _ K_h x c ((o_h.drew_)).rd' hsz hc3).mono ?_); rintro e wq ⟨K_n, y, v_l, l, rfl, o_n, hly, o_l, hl4, l_n, l_l, hb⟩; replace hb := undrew hb; replace l_n := fcdrew l_n; have u_n := o_n.lt; replace l_l := fcdrew l_l; have u_l := foot_lt o_l; replace B_h := B_h.below hb; replace B_r := B_r.below hb; replace o_h := o_h.step0 hb; (try replace B_x := B_x.below hb); (try replace q_x_0 := B_x.cell 0 _ rfl); (try replace q_x_1 := B_x.cell 1 _ rfl); (try replace q_x_f := B_x.fro); (try replace z_x := B_x.lt); replace hc := Cur.up hc hb; replace hC := Chg.trans hC (Chg.of_below hb); have sz := hb.size; replace sC := hC.size; clear hb; replace q_h_0 := B_h.cell 0 _ rfl; replace q_h_1 := B_h.cell 1 _ rfl; replace fr_h := B_h.fro; replace z_h := B_h.lt; replace q_r_0 := B_r.cell 0 _ rfl; replace q_r_1 := B_r.cell 1 _ rfl; replace fr_r := B_r.fro; replace z_r := B_r.lt; have HY := HS.of hly) | ((with_reducible refine (Grant_spec _ K_h x c (((o_h.drew_).alloc_ _)).rd' hsz hc3).mono ?_); rintro e wq ⟨K_n, y, v_l, l, rfl, o_n, hly, o_l, hl4, l_n, l_l, hb⟩; replace l_n := lc_alloc_drew l_n; have u_n := o_n.lt; replace l_l := lc_alloc_drew l_l; have u_l := foot_lt o_l; have ly_h := B_h.lt; have ly_r := B_r.lt; replace B_h := ((B_h.drew).alloc _).below hb; replace B_r := ((B_r.drew).alloc _).below hb; replace o_h := ((o_h.drew_).alloc_ _).step0 hb; have B_x := Box.below (Box.new _ #[.slice none 0 0, .slice none 0 0] 26) hb; (try simp only [size_drew_] at B_x); have la_x := hC.size; have q_x_f := B_x.fro; have z_x := B_x.lt; have q_x_0 := B_x.cell 0 _ rfl; have q_x_1 := B_x.cell 1 _ rfl; replace hc := Cur.up ((hc.drew_).alloc _) hb; replace hC := Chg.trans (hC.drew_.alloc_ _) (Chg.of_below hb); have sz := sz_alloc_drew hb.size; replace sC := hC.size; clear hb; replace q_h_0 := B_h.cell 0 _ rfl; replace q_h_1 := B_h.cell 1 _ rfl; replace fr_h := B_h.fro; replace z_h := B_h.lt; replace q_r_0 := B_r.cell 0 _ rfl; replace q_r_1 := B_r.cell 1 _ rfl; replace fr_r := B_r.fro; replace z_r := B_r.lt; have HY := HS.of hly) | ((with_reducible refine (Grant_spec _ K_h x c (((o_h.alloc_ _).drew_)).rd' hsz hc3).mono ?_); rintro e wq ⟨K_n, y, v_l, l, rfl, o_n, hly, o_l, hl4, l_n, l_l, hb⟩; replace hb := undrew hb; replace l_n := fcdrew l_n; replace l_n := lc_alloc l_n; have u_n := o_n.lt; replace l_l := fcdrew l_l; replace l_l := lc_alloc l_l; have u_l := foot_lt o_l; have ly_h := B_h.lt; have ly_r := B_r.lt; replace B_h := (B_h.alloc _).below hb; replace B_r := (B_r.alloc _).below hb; replace o_h := (o_h.alloc_ _).step0 hb; have B_x := Box.below (Box.new _ #[.slice none 0 0, .slice none 0 0] 26) hb; have la_x := hC.size; have q_x_f := B_x.fro; have z_x := B_x.lt; have q_x_0 := B_x.cell 0 _ rfl; have q_x_1 := B_x.cell 1 _ rfl; replace hc := Cur.up (hc.alloc _) hb; replace hC := Chg.trans (hC.alloc_ _) (Chg.of_below hb); have sz := sz_alloc hb.size; replace sC := hC.size; clear hb; replace q_h_0 := B_h.cell 0 _ rfl; replace q_h_1 := B_h.cell 1 _ rfl; replace fr_h := B_h.fro; replace z_h := B_h.lt; replace q_r_0 := B_r.cell 0 _ rfl; replace q_r_1 := B_r.cell 1 _ rfl; replace fr_r := B_r.fro; replace z_r := B_r.lt; have HY := HS.of hly))))
      all_goals
        go_wp2_with fail
        go_meet
        first | exact ⟨_, K_n, y, v_l, l, rfl, rfl, ⟨HY, hl4⟩, B_h.alloc _, B_r.alloc _, Box.new _ _ _, o_h.alloc_ _, o_n.alloc_ _, fun b hb => ⟨by have := l_n b hb; omega, by have := u_n b hb; omega⟩, o_l.alloc_ _, fun b hb => ⟨by have := l_l b hb; omega, by have := u_l b hb; omega⟩, by omega, hc.alloc _, hC.alloc_ _, by simp <;> omega⟩ | (obtain ⟨go, hgo, B_go⟩ := B_x.ad; rw [← hgo]; rw [← hgo] at la_x; exact ⟨go, K_n, y, v_l, l, rfl, rfl, ⟨HY, hl4⟩, ((B_h.other (by omega) _).other (by omega) _), ((B_r.other (by omega) _).other (by omega) _), ((B_go.set 0 _).set 1 _), o_h.chg (F := [go]) (by repeat (first | with_reducible exact Chg.refl _ _ | with_reducible refine Chg.set_ ?_ (by simp) _ | with_reducible refine Chg.alloc_ ?_ _ | with_reducible refine Chg.drew_ ?_)) (fun b hb hm => by simp only [List.mem_cons, List.not_mem_nil, or_false] at hm; have := n_h b hb; have := u_h b hb; omega), o_n.chg (F := [go]) (by repeat (first | with_reducible exact Chg.refl _ _ | with_reducible refine Chg.set_ ?_ (by simp) _ | with_reducible refine Chg.alloc_ ?_ _ | with_reducible refine Chg.drew_ ?_)) (fun b hb hm => by simp only [List.mem_cons, List.not_mem_nil, or_false] at hm; have := l_n b hb; have := u_n b hb; omega), fun b hb => ⟨by have := l_n b hb; omega, by have := l_n b hb; have := u_n b hb; omega⟩, o_l.chg (F := [go]) (by repeat (first | with_reducible exact Chg.refl _ _ | with_reducible refine Chg.set_ ?_ (by simp) _ | with_reducible refine Chg.alloc_ ?_ _ | with_reducible refine Chg.drew_ ?_)) (fun b hb hm => by simp only [List.mem_cons, List.not_mem_nil, or_false] at hm; have := l_l b hb; have := u_l b hb; omega), fun b hb => ⟨by have := l_l b hb; omega, by have := l_l b hb; have := u_l b hb; omega⟩, by omega, hc.keepB (B := w.heap.size) hgl (by repeat (first | with_reducible exact Below.refl _ _ | with_reducible refine Below.setCell ?_ (by simp <;> omega) _ | with_reducible refine Below.alloc ?_ (by simp <;> omega) _ | with_reducible refine Below.drew ?_)) hC.size, ((hC.set_new (by omega) _).set_new (by omega) _), by simp <;> omega⟩)
    case rest =>
      clear B_h fr_h z_h q_h_0 q_h_1
      clear B_r fr_r z_r q_r_0 q_r_1
      clear o_h
      clear hC hc
      obtain ⟨go, K_n, y, v_l, l, rfl, rfl, ⟨HY, hl4⟩, B_h, B_r, B_x, o_h, o_n, l_n, o_l, l_l, lo_x, hc, hC, sz⟩ := hcut
      have zz_x := B_x.lt
      have la_x : w.heap.size ≤ go := by omega
      have u_n := o_n.lt
      have u_l := foot_lt o_l
      have sC := hC.size
      have q_h_0 := B_h.cell 0 _ rfl
      have q_h_1 := B_h.cell 1 _ rfl
      have fr_h := B_h.fro
      have z_h := B_h.lt
      have q_r_0 := B_r.cell 0 _ rfl
      have q_r_1 := B_r.cell 1 _ rfl
      have fr_r := B_r.fro
      have z_r := B_r.lt
      have q_x_0 := B_x.cell 0 _ rfl
      have q_x_1 := B_x.cell 1 _ rfl
      have fr_x := B_x.fro
      have z_x := B_x.lt
      clear o_h
      obtain ⟨A_l, n_l, cp_l⟩ := v_l
      obtain ⟨rfl, _⟩ : n_l = l.length ∧ True := ⟨(RdL.len_ (show RdL FI wc wc.heap.size (.slice A_l n_l cp_l) l from o_l.rd')).1, trivial⟩
      go_upto_region 7 with (fail)
      replace B_h : Box ((wc.setCell ⟨w1.heap.size, 0, none⟩ (.slice K_n.Bytes.a K_n.Bytes.len K_n.Bytes.cap)).setCell ⟨w1.heap.size, 1, none⟩ (.slice K_n.Class.a K_n.Class.len K_n.Class.cap)) (w1.heap.size) [.slice K_n.Bytes.a K_n.Bytes.len K_n.Bytes.cap, .slice K_n.Class.a K_n.Class.len K_n.Class.cap] := ((B_h.set 0 (.slice K_n.Bytes.a K_n.Bytes.len K_n.Bytes.cap)).set 1 (.slice K_n.Class.a K_n.Class.len K_n.Class.cap))
      replace B_r : Box ((wc.setCell ⟨w1.heap.size, 0, none⟩ (.slice K_n.Bytes.a K_n.Bytes.len K_n.Bytes.cap)).setCell ⟨w1.heap.size, 1, none⟩ (.slice K_n.Class.a K_n.Class.len K_n.Class.cap)) (w.heap.size) [.slice none 0 0, .slice none 0 0] := ((B_r.other (by omega) _).other (by omega) _)
      replace B_x : Box ((wc.setCell ⟨w1.heap.size, 0, none⟩ (.slice K_n.Bytes.a K_n.Bytes.len K_n.Bytes.cap)).setCell ⟨w1.heap.size, 1, none⟩ (.slice K_n.Class.a K_n.Class.len K_n.Class.cap)) (go) [.slice K_n.Bytes.a K_n.Bytes.len K_n.Bytes.cap, .slice K_n.Class.a K_n.Class.len K_n.Class.cap] := ((B_x.other (by omega) _).other (by omega) _)
      replace o_n := o_n.chg (F := [w1.heap.size]) (w' := ((wc.setCell ⟨w1.heap.size, 0, none⟩ (.slice K_n.Bytes.a K_n.Bytes.len K_n.Bytes.cap)).setCell ⟨w1.heap.size, 1, none⟩ (.slice K_n.Class.a K_n.Class.len K_n.Class.cap))) (by repeat (first | with_reducible exact Chg.refl _ _ | with_reducible refine Chg.set_ ?_ (by simp) _ | with_reducible refine Chg.alloc_ ?_ _ | with_reducible refine Chg.drew_ ?_)) (fun b hb hm => by simp only [List.mem_cons, List.not_mem_nil, or_false] at hm; have := l_n b hb; have := u_n b hb; omega)
      replace o_l := o_l.chg (F := [w1.heap.size]) (w' := ((wc.setCell ⟨w1.heap.size, 0, none⟩ (.slice K_n.Bytes.a K_n.Bytes.len K_n.Bytes.cap)).setCell ⟨w1.heap.size, 1, none⟩ (.slice K_n.Class.a K_n.Class.len K_n.Class.cap))) (by repeat (first | with_reducible exact Chg.refl _ _ | with_reducible refine Chg.set_ ?_ (by simp) _ | with_reducible refine Chg.alloc_ ?_ _ | with_reducible refine Chg.drew_ ?_)) (fun b hb hm => by simp only [List.mem_cons, List.not_mem_nil, or_false] at hm; have := l_l b hb; have := u_l b hb; omega)
      replace hc : Cur ((wc.setCell ⟨w1.heap.size, 0, none⟩ (.slice K_n.Bytes.a K_n.Bytes.len K_n.Bytes.cap)).setCell ⟨w1.heap.size, 1, none⟩ (.slice K_n.Class.a K_n.Class.len K_n.Class.cap)) g code := hc.keepB (B := w.heap.size) hgl (by repeat (first | with_reducible exact Below.refl _ _ | with_reducible refine Below.setCell ?_ (by simp <;> omega) _ | with_reducible refine Below.alloc ?_ (by simp <;> omega) _ | with_reducible refine Below.drew ?_)) hC.size
      replace hC : Chg [g] w ((wc.setCell ⟨w1.heap.size, 0, none⟩ (.slice K_n.Bytes.a K_n.Bytes.len K_n.Bytes.cap)).setCell ⟨w1.heap.size, 1, none⟩ (.slice K_n.Class.a K_n.Class.len K_n.Class.cap)) := ((hC.set_new (by omega) _).set_new (by omega) _)
      have sz : wc.heap.size ≤ ((wc.setCell ⟨w1.heap.size, 0, none⟩ (.slice K_n.Bytes.a K_n.Bytes.len K_n.Bytes.cap)).setCell ⟨w1.heap.size, 1, none⟩ (.slice K_n.Class.a K_n.Class.len K_n.Class.cap)).heap.size := by simp
      generalize hG : ((wc.setCell ⟨w1.heap.size, 0, none⟩ (.slice K_n.Bytes.a K_n.Bytes.len K_n.Bytes.cap)).setCell ⟨w1.heap.size, 1, none⟩ (.slice K_n.Class.a K_n.Class.len K_n.Class.cap)) = w11 at B_h B_r B_x o_n o_l hC hc sz ⊢
      clear hG
      replace sC := hC.size
      replace q_h_0 := B_h.cell 0 _ rfl
      replace q_h_1 := B_h.cell 1 _ rfl
      replace fr_h := B_h.fro
      replace z_h := B_h.lt
      replace q_r_0 := B_r.cell 0 _ rfl
      replace q_r_1 := B_r.cell 1 _ rfl
      replace fr_r := B_r.fro
      replace z_r := B_r.lt
      replace q_x_0 := B_x.cell 0 _ rfl
      replace q_x_1 := B_x.cell 1 _ rfl
      replace fr_x := B_x.fro
      replace z_x := B_x.lt
      clear B_x fr_x z_x q_x_0 q_x_1
      have n_n : ∀ b ∈ K_n.foot, w.heap.size < b ∧ b ≠ w1.heap.size := fun b hb => by have := l_n b hb; omega
      go_wp2_with fail
      go_loopw [7] (fun i wr => ∃ (j : Nat) (H : HHeap) (x : Heap), i = .int .i64 j ∧ j ≤ l.length ∧ Box wr (w1.heap.size) [.slice H.Bytes.a H.Bytes.len H.Bytes.cap, .slice H.Class.a H.Class.len H.Class.cap] ∧ Box wr w.heap.size [.slice none 0 0, .slice none 0 0] ∧ OwHeap wr H x ∧ HeapS x ∧ (∀ b ∈ H.foot, w.heap.size < b ∧ b ≠ w1.heap.size) ∧ OwL FI 3 wr (.slice A_l l.length cp_l) l ∧ Cur wr g code ∧ Chg [g] w wr) (fun i _ => l.length - (intOf i).toNat)
      case atStart => exact ⟨0, K_n, y, rfl, Nat.zero_le _, B_h, B_r, o_n, HY, n_n, o_l, hc, hC⟩
      case round =>
        clear B_h fr_h z_h q_h_0 q_h_1
        clear B_r fr_r z_r q_r_0 q_r_1
        clear o_n o_l hc hC sC n_n l_n u_n n_h u_h HS HY hsz
        obtain ⟨wi, rfl⟩ : ∃ W : World, W = wr := ⟨_, rfl⟩
        clear x
        skip
        obtain ⟨j, K_h, x, rfl, hj, B_h, B_r, o_h, HS, n_h, o_l, hc, hC⟩ := hrel
        clear u_l
        have u_l := foot_lt o_l
        have u_h := o_h.lt
        have sC := hC.size
        have q_h_0 := B_h.cell 0 _ rfl
        have q_h_1 := B_h.cell 1 _ rfl
        have fr_h := B_h.fro
        have z_h := B_h.lt
        have q_r_0 := B_r.cell 0 _ rfl
        have q_r_1 := B_r.cell 1 _ rfl
        have fr_r := B_r.fro
        have z_r := B_r.lt
        by_cases hlt : j < l.length
        case neg =>
          go_wp2_with fail
          go_roundw
          case rel => first | exact ⟨k - 1, K_h, x, by go_num, by omega, B_h, B_r, o_h, HS, n_h, hc, hC⟩ | ((repeat apply Exists.intro); exact ⟨⟨k - 1, K_h, x, by go_num, by omega, B_h, B_r, o_h, HS, n_h, hc, hC⟩, rfl⟩)
          case measure => simp [intOf]; omega
        obtain ⟨gl, cq, hv, hgl2⟩ := OwL.form_pos o_l (by omega)
        injection hv with e1 e2 e3
        clear e2
        subst e1 e3
        obtain ⟨yv, hyv⟩ : ∃ y, l[j]? = some y := ⟨_, List.getElem?_eq_getElem hlt⟩
        have HYV := Hid.mk_ hyv
        clear hyv
        replace q_h_0 := B_h.cell 0 _ rfl
        replace q_h_1 := B_h.cell 1 _ rfl
        replace fr_h := B_h.fro
        replace z_h := B_h.lt
        replace q_r_0 := B_r.cell 0 _ rfl
        replace q_r_1 := B_r.cell 1 _ rfl
        replace fr_r := B_r.fro
        replace z_r := B_r.lt
        have p0 := OwL.cellI o_l HYV.out
        have hsz := HS.sz
        go_wp2_with fail
        refine (l1Once_ct _ g code 3 (by unfold I64; omega) hc).mono ?_
        rintro e w21 ⟨b, rfl, hcn, hx⟩
        replace hc := hcn
        replace B_h := B_h.chg hx (by simp only [List.mem_cons, List.not_mem_nil, or_false]; omega)
        replace B_r := B_r.chg hx (by simp only [List.mem_cons, List.not_mem_nil, or_false]; omega)
        replace o_h := o_h.chg hx (fun b hb hm => by simp only [List.mem_cons, List.not_mem_nil, or_false] at hm; have := n_h b hb; have := u_h b hb; omega)
        replace o_l := o_l.chg hx (fun b hb hm => by simp only [List.mem_cons, List.not_mem_nil, or_false] at hm; have := l_l b hb; have := u_l b hb; omega)
        replace hC := hC.trans hx
        have sz := hx.size
        replace sC := hC.size
        clear hx
        skip
        replace q_h_0 := B_h.cell 0 _ rfl
        replace q_h_1 := B_h.cell 1 _ rfl
        replace fr_h := B_h.fro
        replace z_h := B_h.lt
        replace q_r_0 := B_r.cell 0 _ rfl
        replace q_r_1 := B_r.cell 1 _ rfl
        replace fr_r := B_r.fro
        replace z_r := B_r.lt
        replace p0 := OwL.cellI o_l HYV.out
        cases b with
        | false =>
          go_wp2_with fail
          go_roundw
          case rel => exact ⟨j + 1, K_h, x, by go_num, by omega, B_h, B_r, o_h, HS, n_h, o_l, hc, hC⟩
          case measure => simp [intOf]; omega
        | true =>
          have zp_h := z_h
          have zp_r := z_r
          go_upto_region 11 with (fail)
          go_cut [8, 9] from 29 to 44 (fun v8 v9 wx => ∃ (go : Nat) (K_n : HHeap) (y : Heap) (b_ : Bool), v8 = .pointer (some ⟨go, 0, none⟩) ∧ v9 = .bool b_ ∧ (HeapS y) ∧ Box wx (w1.heap.size) [.slice K_h.Bytes.a K_h.Bytes.len K_h.Bytes.cap, .slice K_h.Class.a K_h.Class.len K_h.Class.cap] ∧ Box wx (w.heap.size) [.slice none 0 0, .slice none 0 0] ∧ Box wx go [.slice K_n.Bytes.a K_n.Bytes.len K_n.Bytes.cap, .slice K_n.Class.a K_n.Class.len K_n.Class.cap] ∧ OwHeap wx K_h x ∧ OwL FI 3 wx (.slice (some ⟨gl, 0, none⟩) l.length cp_l) l ∧ OwHeap wx K_n y ∧ (∀ b ∈ K_n.foot, w21.heap.size ≤ b ∧ b ≠ go) ∧ w21.heap.size ≤ go ∧ Cur wx g code ∧ Chg [g] w wx ∧ w21.heap.size ≤ wx.heap.size)
          case first =>
            go_region_held3 (fun w' => w'.cell? ⟨w1.heap.size, 0, none⟩ = some (.slice K_h.Bytes.a K_h.Bytes.len K_h.Bytes.cap) ∧ w'.cell? ⟨w1.heap.size, 1, none⟩ = some (.slice K_h.Class.a K_h.Class.len K_h.Class.cap) ∧ w'.cell? ⟨gl, j, none⟩ = some (.int .i64 yv)) (first | (with_reducible exact ⟨q_h_0, q_h_1, p0⟩) | (refine ⟨?_, ?_, ?_⟩ <;> (repeat (first | with_reducible assumption | with_reducible refine cell_set_o ?_ (by omega) | with_reducible refine cell_alloc_o ?_ (by omega) | with_reducible refine cell_drew_o ?_)); done) | (go_keep; done)) (first | (go_at_call 63; (first | ((with_reducible refine (l1Below_ct _ g code 7 (by unfold I64; omega) hc).mono ?_); rintro e wq ⟨t_, rfl, t0, t1, hcn, hx⟩; replace B_h := B_h.chg hx (by simp only [List.mem_cons, List.not_mem_nil, or_false]; omega); replace B_r := B_r.chg hx (by simp only [List.mem_cons, List.not_mem_nil, or_false]; omega); replace o_h := o_h.chg hx (fun b hb hm => by simp only [List.mem_cons, List.not_mem_nil, or_false] at hm; have := n_h b hb; have := u_h b hb; omega); replace o_l := o_l.chg hx (fun b hb hm => by simp only [List.mem_cons, List.not_mem_nil, or_false] at hm; have := l_l b hb; have := u_l b hb; omega); (try replace o_n := o_n.chg hx (fun b hb hm => by simp only [List.mem_cons, List.not_mem_nil, or_false] at hm; have := l_n b hb; have := u_n b hb; omega)); (try replace B_x := B_x.chg hx (by simp only [List.mem_cons, List.not_mem_nil, or_false]; omega)); (try replace q_x_0 := B_x.cell 0 _ rfl); (try replace q_x_1 := B_x.cell 1 _ rfl); (try replace q_x_f := B_x.fro); (try replace z_x := B_x.lt); replace hC := Chg.trans hC hx; replace hc := hcn; have sz := hx.size; replace sC := hC.size; clear hx; replace q_h_0 := B_h.cell 0 _ rfl; replace q_h_1 := B_h.cell 1 _ rfl; replace fr_h := B_h.fro; replace z_h := B_h.lt; replace q_r_0 := B_r.cell 0 _ rfl; replace q_r_1 := B_r.cell 1 _ rfl; replace fr_r := B_r.fro; replace z_r := B_r.lt; replace p0 := OwL.cellI o_l HYV.out; have HW := Hid.mk_ (wrap1 (x := t_) t0 (by omega))) | ((with_reducible refine (l1Below_ct _ g code 7 (by unfold I64; omega) (hc.alloc _)).mono ?_); rintro e wq ⟨t_, rfl, t0, t1, hcn, hx⟩; have ly_h := B_h.lt; have ly_r := B_r.lt; replace B_h := (B_h.alloc _).chg hx (by simp only [List.mem_cons, List.not_mem_nil, or_false]; omega); replace B_r := (B_r.alloc _).chg hx (by simp only [List.mem_cons, List.not_mem_nil, or_false]; omega); replace o_h := (o_h.alloc_ _).chg hx (fun b hb hm => by simp only [List.mem_cons, List.not_mem_nil, or_false] at hm; have := n_h b hb; have := u_h b hb; omega); replace o_l := (o_l.alloc_ _).chg hx (fun b hb hm => by simp only [List.mem_cons, List.not_mem_nil, or_false] at hm; have := l_l b hb; have := u_l b hb; omega); (try replace o_n := (o_n.alloc_ _).chg hx (fun b hb hm => by simp only [List.mem_cons, List.not_mem_nil, or_false] at hm; have := l_n b hb; have := u_n b hb; omega)); have B_x := Box.chg (Box.new _ #[.slice none 0 0, .slice none 0 0] 26) hx (by simp only [List.mem_cons, List.not_mem_nil, or_false]; omega); have la_x := hC.size; have q_x_f := B_x.fro; have z_x := B_x.lt; have q_x_0 := B_x.cell 0 _ rfl; have q_x_1 := B_x.cell 1 _ rfl; replace hC := Chg.trans (hC.alloc_ _) hx; replace hc := hcn; have sz := sz_alloc hx.size; replace sC := hC.size; clear hx; replace q_h_0 := B_h.cell 0 _ rfl; replace q_h_1 := B_h.cell 1 _ rfl; replace fr_h := B_h.fro; replace z_h := B_h.lt; replace q_r_0 := B_r.cell 0 _ rfl; replace q_r_1 := B_r.cell 1 _ rfl; replace fr_r := B_r.fro; replace z_r := B_r.lt; replace p0 := OwL.cellI o_l HYV.out; have HW := Hid.mk_ (wrap1 (x := t_) t0 (by omega))) | ((with_reducible refine (l1Below_ct _ g code 7 (by unfold I64; omega) (hc.drew_)).mono ?_); rintro e wq ⟨t_, rfl, t0, t1, hcn, hx⟩; replace B_h := B_h.drew.chg hx (by simp only [List.mem_cons, List.not_mem_nil, or_false]; omega); replace B_r := B_r.drew.chg hx (by simp only [List.mem_cons, List.not_mem_nil, or_false]; omega); replace o_h := (o_h.drew_).chg hx (fun b hb hm => by simp only [List.mem_cons, List.not_mem_nil, or_false] at hm; have := n_h b hb; have := u_h b hb; omega); replace o_l := (o_l.drew_).chg hx (fun b hb hm => by simp only [List.mem_cons, List.not_mem_nil, or_false] at hm; have := l_l b hb; have := u_l b hb; omega); (try replace o_n := (o_n.drew_).chg hx (fun b hb hm => by simp only [List.mem_cons, List.not_mem_nil, or_false] at hm; have := l_n b hb; have := u_n b hb; omega)); (try replace B_x := B_x.drew.chg hx (by simp only [List.mem_cons, List.not_mem_nil, or_false]; omega)); (try replace q_x_0 := B_x.cell 0 _ rfl); (try replace q_x_1 := B_x.cell 1 _ rfl); (try replace q_x_f := B_x.fro); (try replace z_x := B_x.lt); replace hC := Chg.trans hC.drew_ hx; replace hc := hcn; have sz := sz_drew hx.size; replace sC := hC.size; clear hx; replace q_h_0 := B_h.cell 0 _ rfl; replace q_h_1 := B_h.cell 1 _ rfl; replace fr_h := B_h.fro; replace z_h := B_h.lt; replace q_r_0 := B_r.cell 0 _ rfl; replace q_r_1 := B_r.cell 1 _ rfl; replace fr_r := B_r.fro; replace z_r := B_r.lt; replace p0 := OwL.cellI o_l HYV.out; have HW := Hid.mk_ (wrap1 (x := t_) t0 (by omega))) | ((with_reducible refine (l1Below_ct _ g code 7 (by unfold I64; omega) ((hc.drew_).alloc _)).mono ?_); rintro e wq ⟨t_, rfl, t0, t1, hcn, hx⟩; have ly_h := B_h.lt; have ly_r := B_r.lt; replace B_h := ((B_h.drew).alloc _).chg hx (by simp only [List.mem_cons, List.not_mem_nil, or_false]; omega); replace B_r := ((B_r.drew).alloc _).chg hx (by simp only [List.mem_cons, List.not_mem_nil, or_false]; omega); replace o_h := ((o_h.drew_).alloc_ _).chg hx (fun b hb hm => by simp only [List.mem_cons, List.not_mem_nil, or_false] at hm; have := n_h b hb; have := u_h b hb; omega); replace o_l := ((o_l.drew_).alloc_ _).chg hx (fun b hb hm => by simp only [List.mem_cons, List.not_mem_nil, or_false] at hm; have := l_l b hb; have := u_l b hb; omega); (try replace o_n := ((o_n.drew_).alloc_ _).chg hx (fun b hb hm => by simp only [List.mem_cons, List.not_mem_nil, or_false] at hm; have := l_n b hb; have := u_n b hb; omega)); have B_x := Box.chg (Box.new _ #[.slice none 0 0, .slice none 0 0] 26) hx (by simp only [List.mem_cons, List.not_mem_nil, or_false]; omega); (try simp only [size_drew_] at B_x); have la_x := hC.size; have q_x_f := B_x.fro; have z_x := B_x.lt; have q_x_0 := B_x.cell 0 _ rfl; have q_x_1 := B_x.cell 1 _ rfl; replace hC := Chg.trans (hC.drew_.alloc_ _) hx; replace hc := hcn; have sz := sz_alloc_drew hx.size; replace sC := hC.size; clear hx; replace q_h_0 := B_h.cell 0 _ rfl; replace q_h_1 := B_h.cell 1 _ rfl; replace fr_h := B_h.fro; replace z_h := B_h.lt; replace q_r_0 := B_r.cell 0 _ rfl; replace q_r_1 := B_r.cell 1 _ rfl; replace fr_r := B_r.fro; replace z_r := B_r.lt; replace p0 := OwL.cellI o_l HYV.out; have HW := Hid.mk_ (wrap1 (x := t_) t0 (by omega))) | ((with_reducible refine (l1Below_ct _ g code 7 (by unfold I64; omega) ((hc.alloc _).drew_)).mono ?_); rintro e wq ⟨t_, rfl, t0, t1, hcn, hx⟩; have ly_h := B_h.lt; have ly_r := B_r.lt; replace B_h := (B_h.alloc _).drew.chg hx (by simp only [List.mem_cons, List.not_mem_nil, or_false]; omega); replace B_r := (B_r.alloc _).drew.chg hx (by simp only [List.mem_cons, List.not_mem_nil, or_false]; omega); replace o_h := ((o_h.alloc_ _).drew_).chg hx (fun b hb hm => by simp only [List.mem_cons, List.not_mem_nil, or_false] at hm; have := n_h b hb; have := u_h b hb; omega); replace o_l := ((o_l.alloc_ _).drew_).chg hx (fun b hb hm => by simp only [List.mem_cons, List.not_mem_nil, or_false] at hm; have := l_l b hb; have := u_l b hb; omega); (try replace o_n := ((o_n.alloc_ _).drew_).chg hx (fun b hb hm => by simp only [List.mem_cons, List.not_mem_nil, or_false] at hm; have := l_n b hb; have := u_n b hb; omega)); have B_x := Box.chg (Box.new _ #[.slice none 0 0, .slice none 0 0] 26).drew hx (by simp only [List.mem_cons, List.not_mem_nil, or_false]; omega); have la_x := hC.size; have q_x_f := B_x.fro; have z_x := B_x.lt; have q_x_0 := B_x.cell 0 _ rfl; have q_x_1 := B_x.cell 1 _ rfl; replace hC := Chg.trans (hC.alloc_ _).drew_ hx; replace hc := hcn; have sz := sz_alloc (sz_drew hx.size); replace sC := hC.size; clear hx; replace q_h_0 := B_h.cell 0 _ rfl; replace q_h_1 := B_h.cell 1 _ rfl; replace fr_h := B_h.fro; replace z_h := B_h.lt; replace q_r_0 := B_r.cell 0 _ rfl; replace q_r_1 := B_r.cell 1 _ rfl; replace fr_r := B_r.fro; replace z_r := B_r.lt; replace p0 := OwL.cellI o_l HYV.out; have HW := Hid.mk_ (wrap1 (x := t_) t0 (by omega))))) | (go_at_call 224; (first | ((with_reducible refine (SetGen_spec _ K_h x yv _ (o_h).rd' hsz (by first | omega | (rw [HW.out]; omega)) (by first | omega | (rw [HW.out]; omega))).mono ?_); rintro e wq ⟨K_n, y, b_, rfl, o_n, hly, l_n, hb⟩; have u_n := o_n.lt; replace B_h := B_h.below hb; replace B_r := B_r.below hb; replace o_h := o_h.step0 hb; replace o_l := o_l.step0 hb; (try replace B_x := B_x.below hb); (try replace q_x_0 := B_x.cell 0 _ rfl); (try replace q_x_1 := B_x.cell 1 _ rfl); (try replace q_x_f := B_x.fro); (try replace z_x := B_x.lt); replace hc := Cur.up hc hb; replace hC := Chg.trans hC (Chg.of_below hb); have sz := hb.size; replace sC := hC.size; clear hb; replace q_h_0 := B_h.cell 0 _ rfl; replace q_h_1 := B_h.cell 1 _ rfl; replace fr_h := B_h.fro; replace z_h := B_h.lt; replace q_r_0 := B_r.cell 0 _ rfl; replace q_r_1 := B_r.cell 1 _ rfl; replace fr_r := B_r.fro; replace z_r := B_r.lt; replace p0 := OwL.cellI o_l HYV.out; have HY := HS.of hly) | ((with_reducible refine (SetGen_spec _ K_h x yv _ ((o_h.alloc_ _)).rd' hsz (by first | omega | (rw [HW.out]; omega)) (by first | omega | (rw [HW.out]; omega))).mono ?_); rintro e wq ⟨K_n, y, b_, rfl, o_n, hly, l_n, hb⟩; replace l_n := lc_alloc l_n; have u_n := o_n.lt; have ly_h := B_h.lt; have ly_r := B_r.lt; replace B_h := (B_h.alloc _).below hb; replace B_r := (B_r.alloc _).below hb; replace o_h := (o_h.alloc_ _).step0 hb; replace o_l := (o_l.alloc_ _).step0 hb; have B_x := Box.below (Box.new _ #[.slice none 0 0, .slice none 0 0] 26) hb; have la_x := hC.size; have q_x_f := B_x.fro; have z_x := B_x.lt; have q_x_0 := B_x.cell 0 _ rfl; have q_x_1 := B_x.cell 1 _ rfl; replace hc := Cur.up (hc.alloc _) hb; replace hC := Chg.trans (hC.alloc_ _) (Chg.of_below hb); have sz := sz_alloc hb.size; replace sC := hC.size; clear hb; replace q_h_0 := B_h.cell 0 _ rfl; replace q_h_1 := B_h.cell 1 _ rfl; replace fr_h := B_h.fro; replace z_h := B_h.lt; replace q_r_0 := B_r.cell 0 _ rfl; replace q_r_1 := B_r.cell 1 _ rfl; replace fr_r := B_r.fro; replace z_r := B_r.lt; replace p0 := OwL.cellI o_l HYV.out; have HY := HS.of hly) | ((with_reducible refine (SetGen_spec _ K_h x yv _ ((o_h.drew_)).rd' hsz (by first | omega | (rw [HW.out]; omega)) (by first | omega | (rw [HW.out]; omega))).mono ?_); rintro e wq ⟨K_n, y, b_, rfl, o_n, hly, l_n, hb⟩; replace hb := undrew hb; replace l_n := fcdrew l_n; have u_n := o_n.lt; replace B_h := B_h.below hb; replace B_r := B_r.below hb; replace o_h := o_h.step0 hb; replace o_l := o_l.step0 hb; (try replace B_x := B_x.below hb); (try replace q_x_0 := B_x.cell 0 _ rfl); (try replace q_x_1 := B_x.cell 1 _ rfl); (try replace q_x_f := B_x.fro); (try replace z_x := B_x.lt); replace hc := Cur.up hc hb; replace hC := Chg.trans hC (Chg.of_below hb); have sz := hb.size; replace sC := hC.size; clear hb; replace q_h_0 := B_h.cell 0 _ rfl; replace q_h_1 := B_h.cell 1 _ rfl; replace fr_h := B_h.fro; replace z_h := B_h.lt; replace q_r_0 := B_r.cell 0 _ rfl; replace q_r_1 := B_r.cell 1 _ rfl; replace fr_r := B_r.fro; replace z_r := B_r.lt; replace p0 := OwL.cellI o_l HYV.out; have HY := HS.of hly) | ((with_reducible refine (SetGen_spec _ K_h x yv _ (((o_h.drew_).alloc_ _)).rd' hsz (by first | omega | (rw [HW.out]; omega)) (by first | omega | (rw [HW.out]; omega))).mono ?_); rintro e wq ⟨K_n, y, b_, rfl, o_n, hly, l_n, hb⟩; replace l_n := lc_alloc_drew l_n; have u_n := o_n.lt; have ly_h := B_h.lt; have ly_r := B_r.lt; replace B_h := ((B_h.drew).alloc _).below hb; replace B_r := ((B_r.drew).alloc _).below hb; replace o_h := ((o_h.drew_).alloc_ _).step0 hb; replace o_l := ((o_l.drew_).alloc_ _).step0 hb; have B_x := Box.below (Box.new _ #[.slice none 0 0, .slice none 0 0] 26) hb; (try simp only [size_drew_] at B_x); have la_x := hC.size; have q_x_f := B_x.fro; have z_x := B_x.lt; have q_x_0 := B_x.cell 0 _ rfl; have q_x_1 := B_x.cell 1 _ rfl; replace hc := Cur.up ((hc.drew_).alloc _) hb; replace hC := Chg.trans (hC.drew_.alloc_ _) (Chg.of_below hb); have sz := sz_alloc_drew hb.size; replace sC := hC.size; clear hb; replace q_h_0 := B_h.cell 0 _ rfl; replace q_h_1 := B_h.cell 1 _ rfl; replace fr_h := B_h.fro; replace z_h := B_h.lt; replace q_r_0 := B_r.cell 0 _ rfl; replace q_r_1 := B_r.cell 1 _ rfl; replace fr_r := B_r.fro; replace z_r := B_r.lt; replace p0 := OwL.cellI o_l HYV.out; have HY := HS.of hly) | ((with_reducible refine (SetGen_spec _ K_h x yv _ (((o_h.alloc_ _).drew_)).rd' hsz (by first | omega | (rw [HW.out]; omega)) (by first | omega | (rw [HW.out]; omega))).mono ?_); rintro e wq ⟨K_n, y, b_, rfl, o_n, hly, l_n, hb⟩; replace hb := undrew hb; replace l_n := fcdrew l_n; replace l_n := lc_alloc l_n; have u_n := o_n.lt; have ly_h := B_h.lt; have ly_r := B_r.lt; replace B_h := (B_h.alloc _).below hb; replace B_r := (B_r.alloc _).below hb; replace o_h := (o_h.alloc_ _).step0 hb; replace o_l := (o_l.alloc_ _).step0 hb; have B_x := Box.below (Box.new _ #[.slice none 0 0, .slice none 0 0] 26) hb; have la_x := hC.size; have q_x_f := B_x.fro; have z_x := B_x.lt; have q_x_0 := B_x.cell 0 _ rfl; have q_x_1 := B_x.cell 1 _ rfl; replace hc := Cur.up (hc.alloc _) hb; replace hC := Chg.trans (hC.alloc_ _) (Chg.of_below hb); have sz := sz_alloc hb.size; replace sC := hC.size; clear hb; replace q_h_0 := B_h.cell 0 _ rfl; replace q_h_1 := B_h.cell 1 _ rfl; replace fr_h := B_h.fro; replace z_h := B_h.lt; replace q_r_0 := B_r.cell 0 _ rfl; replace q_r_1 := B_r.cell 1 _ rfl; replace fr_r := B_r.fro; replace z_r := B_r.lt; replace p0 := OwL.cellI o_l HYV.out; have HY := HS.of hly))))
            all_goals
              go_wp2_with fail
              go_meet
              first | exact ⟨_, K_n, y, b_, rfl, rfl, HY, B_h.alloc _, B_r.alloc _, Box.new _ _ _, o_h.alloc_ _, o_l.alloc_ _, o_n.alloc_ _, fun b hb => ⟨by have := l_n b hb; omega, by have := u_n b hb; omega⟩, by omega, hc.alloc _, hC.alloc_ _, by simp <;> omega⟩ | (obtain ⟨go, hgo, B_go⟩ := B_x.ad; rw [← hgo]; rw [← hgo] at la_x; exact ⟨go, K_n, y, b_, rfl, rfl, HY, ((B_h.other (by omega) _).other (by omega) _), ((B_r.other (by omega) _).other (by omega) _), ((B_go.set 0 _).set 1 _), o_h.chg (F := [go]) (by repeat (first | with_reducible exact Chg.refl _ _ | with_reducible refine Chg.set_ ?_ (by simp) _ | with_reducible refine Chg.alloc_ ?_ _ | with_reducible refine Chg.drew_ ?_)) (fun b hb hm => by simp only [List.mem_cons, List.not_mem_nil, or_false] at hm; have := n_h b hb; have := u_h b hb; omega), o_l.chg (F := [go]) (by repeat (first | with_reducible exact Chg.refl _ _ | with_reducible refine Chg.set_ ?_ (by simp) _ | with_reducible refine Chg.alloc_ ?_ _ | with_reducible refine Chg.drew_ ?_)) (fun b hb hm => by simp only [List.mem_cons, List.not_mem_nil, or_false] at hm; have := l_l b hb; have := u_l b hb; omega), o_n.chg (F := [go]) (by repeat (first | with_reducible exact Chg.refl _ _ | with_reducible refine Chg.set_ ?_ (by simp) _ | with_reducible refine Chg.alloc_ ?_ _ | with_reducible refine Chg.drew_ ?_)) (fun b hb hm => by simp only [List.mem_cons, List.not_mem_nil, or_false] at hm; have := l_n b hb; have := u_n b hb; omega), fun b hb => ⟨by have := l_n b hb; omega, by have := l_n b hb; have := u_n b hb; omega⟩, by omega, hc.keepB (B := w.heap.size) hgl (by repeat (first | with_reducible exact Below.refl _ _ | with_reducible refine Below.setCell ?_ (by simp <;> omega) _ | with_reducible refine Below.alloc ?_ (by simp <;> omega) _ | with_reducible refine Below.drew ?_)) hC.size, ((hC.set_new (by omega) _).set_new (by omega) _), by simp <;> omega⟩)
          case rest =>
            clear B_h fr_h z_h q_h_0 q_h_1
            clear B_r fr_r z_r q_r_0 q_r_1
            clear o_h
            clear o_l
            clear p0
            clear hC hc
            obtain ⟨go, K_n, y, b_, rfl, rfl, HY, B_h, B_r, B_x, o_h, o_l, o_n, l_n, lo_x, hc, hC, sz⟩ := hcut
            have zz_x := B_x.lt
            have la_x : w.heap.size ≤ go := by omega
            have u_n := o_n.lt
            have sC := hC.size
            have q_h_0 := B_h.cell 0 _ rfl
            have q_h_1 := B_h.cell 1 _ rfl
            have fr_h := B_h.fro
            have z_h := B_h.lt
            have q_r_0 := B_r.cell 0 _ rfl
            have q_r_1 := B_r.cell 1 _ rfl
            have fr_r := B_r.fro
            have z_r := B_r.lt
            have q_x_0 := B_x.cell 0 _ rfl
            have q_x_1 := B_x.cell 1 _ rfl
            have fr_x := B_x.fro
            have z_x := B_x.lt
            have p0 := OwL.cellI o_l HYV.out
            go_upto_region 9 with (fail)
            clear o_h
            replace B_h : Box ((wc.setCell ⟨w1.heap.size, 0, none⟩ (.slice K_n.Bytes.a K_n.Bytes.len K_n.Bytes.cap)).setCell ⟨w1.heap.size, 1, none⟩ (.slice K_n.Class.a K_n.Class.len K_n.Class.cap)) (w1.heap.size) [.slice K_n.Bytes.a K_n.Bytes.len K_n.Bytes.cap, .slice K_n.Class.a K_n.Class.len K_n.Class.cap] := ((B_h.set 0 (.slice K_n.Bytes.a K_n.Bytes.len K_n.Bytes.cap)).set 1 (.slice K_n.Class.a K_n.Class.len K_n.Class.cap))
            replace B_r : Box ((wc.setCell ⟨w1.heap.size, 0, none⟩ (.slice K_n.Bytes.a K_n.Bytes.len K_n.Bytes.cap)).setCell ⟨w1.heap.size, 1, none⟩ (.slice K_n.Class.a K_n.Class.len K_n.Class.cap)) (w.heap.size) [.slice none 0 0, .slice none 0 0] := ((B_r.other (by omega) _).other (by omega) _)
            replace B_x : Box ((wc.setCell ⟨w1.heap.size, 0, none⟩ (.slice K_n.Bytes.a K_n.Bytes.len K_n.Bytes.cap)).setCell ⟨w1.heap.size, 1, none⟩ (.slice K_n.Class.a K_n.Class.len K_n.Class.cap)) (go) [.slice K_n.Bytes.a K_n.Bytes.len K_n.Bytes.cap, .slice K_n.Class.a K_n.Class.len K_n.Class.cap] := ((B_x.other (by omega) _).other (by omega) _)
            replace o_l := o_l.chg (F := [w1.heap.size]) (w' := ((wc.setCell ⟨w1.heap.size, 0, none⟩ (.slice K_n.Bytes.a K_n.Bytes.len K_n.Bytes.cap)).setCell ⟨w1.heap.size, 1, none⟩ (.slice K_n.Class.a K_n.Class.len K_n.Class.cap))) (by repeat (first | with_reducible exact Chg.refl _ _ | with_reducible refine Chg.set_ ?_ (by simp) _ | with_reducible refine Chg.alloc_ ?_ _ | with_reducible refine Chg.drew_ ?_)) (fun b hb hm => by simp only [List.mem_cons, List.not_mem_nil, or_false] at hm; have := l_l b hb; have := u_l b hb; omega)
            replace o_n := o_n.chg (F := [w1.heap.size]) (w' := ((wc.setCell ⟨w1.heap.size, 0, none⟩ (.slice K_n.Bytes.a K_n.Bytes.len K_n.Bytes.cap)).setCell ⟨w1.heap.size, 1, none⟩ (.slice K_n.Class.a K_n.Class.len K_n.Class.cap))) (by repeat (first | with_reducible exact Chg.refl _ _ | with_reducible refine Chg.set_ ?_ (by simp) _ | with_reducible refine Chg.alloc_ ?_ _ | with_reducible refine Chg.drew_ ?_)) (fun b hb hm => by simp only [List.mem_cons, List.not_mem_nil, or_false] at hm; have := l_n b hb; have := u_n b hb; omega)
            replace hc : Cur ((wc.setCell ⟨w1.heap.size, 0, none⟩ (.slice K_n.Bytes.a K_n.Bytes.len K_n.Bytes.cap)).setCell ⟨w1.heap.size, 1, none⟩ (.slice K_n.Class.a K_n.Class.len K_n.Class.cap)) g code := hc.keepB (B := w.heap.size) hgl (by repeat (first | with_reducible exact Below.refl _ _ | with_reducible refine Below.setCell ?_ (by simp <;> omega) _ | with_reducible refine Below.alloc ?_ (by simp <;> omega) _ | with_reducible refine Below.drew ?_)) hC.size
            replace hC : Chg [g] w ((wc.setCell ⟨w1.heap.size, 0, none⟩ (.slice K_n.Bytes.a K_n.Bytes.len K_n.Bytes.cap)).setCell ⟨w1.heap.size, 1, none⟩ (.slice K_n.Class.a K_n.Class.len K_n.Class.cap)) := ((hC.set_new (by omega) _).set_new (by omega) _)
            have sz : wc.heap.size ≤ ((wc.setCell ⟨w1.heap.size, 0, none⟩ (.slice K_n.Bytes.a K_n.Bytes.len K_n.Bytes.cap)).setCell ⟨w1.heap.size, 1, none⟩ (.slice K_n.Class.a K_n.Class.len K_n.Class.cap)).heap.size := by simp
            generalize hG : ((wc.setCell ⟨w1.heap.size, 0, none⟩ (.slice K_n.Bytes.a K_n.Bytes.len K_n.Bytes.cap)).setCell ⟨w1.heap.size, 1, none⟩ (.slice K_n.Class.a K_n.Class.len K_n.Class.cap)) = w22 at B_h B_r B_x o_l o_n hC hc sz ⊢
            clear hG
            replace sC := hC.size
            replace q_h_0 := B_h.cell 0 _ rfl
            replace q_h_1 := B_h.cell 1 _ rfl
            replace fr_h := B_h.fro
            replace z_h := B_h.lt
            replace q_r_0 := B_r.cell 0 _ rfl
            replace q_r_1 := B_r.cell 1 _ rfl
            replace fr_r := B_r.fro
            replace z_r := B_r.lt
            replace q_x_0 := B_x.cell 0 _ rfl
            replace q_x_1 := B_x.cell 1 _ rfl
            replace fr_x := B_x.fro
            replace z_x := B_x.lt
            go_wp2_with fail
            go_roundw
            case rel => exact ⟨j + 1, K_n, y, by go_num, by omega, B_h, B_r, o_n, HY, fun b hb => by have := l_n b hb; omega, o_l, hc, hC⟩
            case measure => simp [intOf]; omega
end Go.Proofs.YtkmggglljkmjoaaGreat

/-
  Drawn heaps, spoilt: any.
-/
namespace Go.Proofs.YtkmggglljkmjoaaGreat
open Go.RowKit
open Go.Proofs.YtkmggglljkmjoaaGreat.Lim

def DrawHA (w : World) (g : Nat) (code : List Int) (e : Ending) (w' : World) : Prop := ∃ (H : HHeap) (x : Heap), e = .returned (H.val x) ∧ OwHeap w' H x ∧ sizeHeap x ≤ 400 ∧ (∀ b ∈ H.foot, w.heap.size ≤ b) ∧ Cur w' g code ∧ Chg [g] w w'
theorem foot_b {gB n p : Nat} {K : SV} : gB ∈ HHeap.foot ⟨⟨some ⟨gB, 0, none⟩, n, p⟩, K⟩ := HHeap.mem_foot.2 (.inl (foot1_some.2 rfl))
theorem foot_c {gC n p : Nat} {K : SV} : gC ∈ HHeap.foot ⟨K, ⟨some ⟨gC, 0, none⟩, n, p⟩⟩ := HHeap.mem_foot.2 (.inr (foot1_some.2 rfl))
theorem OwHeap.setB {w : World} {gB gC n m p q k : Nat} {x : Heap} (h : OwHeap w ⟨⟨some ⟨gB, 0, none⟩, n, p⟩, ⟨some ⟨gC, 0, none⟩, m, q⟩⟩ x) (hk : k < x.Bytes.length) (y : Int) : OwHeap (w.setCell ⟨gB, k, none⟩ (.int .i64 y)) ⟨⟨some ⟨gB, 0, none⟩, n, p⟩, ⟨some ⟨gC, 0, none⟩, m, q⟩⟩ { x with Bytes := x.Bytes.set k y } :=
  ⟨OwL.setI h.Bytes hk y, OwL.setO h.Class (fun e => h.d01 gB (foot1_some.2 rfl) (foot1_some.2 e)) _ _, h.d01⟩
theorem OwHeap.setC {w : World} {gB gC n m p q k : Nat} {x : Heap} (h : OwHeap w ⟨⟨some ⟨gB, 0, none⟩, n, p⟩, ⟨some ⟨gC, 0, none⟩, m, q⟩⟩ x) (hk : k < x.Class.length) (y : Int) : OwHeap (w.setCell ⟨gC, k, none⟩ (.int .i64 y)) ⟨⟨some ⟨gB, 0, none⟩, n, p⟩, ⟨some ⟨gC, 0, none⟩, m, q⟩⟩ { x with Class := x.Class.set k y } :=
  ⟨OwL.setO h.Bytes (fun e => h.d01 gB (foot1_some.2 rfl) (foot1_some.2 e.symm)) _ _, OwL.setI h.Class hk y, h.d01⟩

set_option maxRecDepth 100000 in
set_option maxHeartbeats 8000000 in
theorem l7Any_ct (w : World) (g : Nat) (code : List Int) (hc : Cur w g code) : Calls Tryz.prog 138 #[.pointer (some ⟨g, 0, none⟩)] w (DrawHA w g code) := by
  have hgl := hc.lt
  have B_r : Box (w.alloc (.cells #[.slice none 0 0, .slice none 0 0] 26)) (w.heap.size) [.slice none 0 0, .slice none 0 0] := by
    have hbx := Box.new w #[.slice none 0 0, .slice none 0 0] 26
    exact hbx
  have hC : Chg [g] w (w.alloc (.cells #[.slice none 0 0, .slice none 0 0] 26)) := (Chg.refl [g] w).alloc_ _
  replace hc : Cur (w.alloc (.cells #[.slice none 0 0, .slice none 0 0] 26)) g code := (hc).alloc _
  go_enter Tryz.func138, Tryz.ntmps138
  go_wp2_with fail
  generalize hW0 : (w.alloc (.cells #[.slice none 0 0, .slice none 0 0] 26)) = w0 at B_r hC hc ⊢
  clear hW0
  have zz_r := B_r.lt
  have la_r : w.heap.size ≤ w.heap.size := by omega
  have sC := hC.size
  have q_r_0 := B_r.cell 0 _ rfl
  have q_r_1 := B_r.cell 1 _ rfl
  have fr_r := B_r.fro
  have z_r := B_r.lt
  refine (l7Heap_ct _ g code hc).mono ?_
  rintro e w1 ⟨K_h, x, rfl, o_h, HS, l_h, hcn, hx⟩
  replace hc := hcn
  skip
  replace B_r := B_r.chg hx (by simp only [List.mem_cons, List.not_mem_nil, or_false]; omega)
  replace hC := hC.trans hx
  have sz := hx.size
  replace sC := hC.size
  clear hx
  have u_h := o_h.lt
  replace q_r_0 := B_r.cell 0 _ rfl
  replace q_r_1 := B_r.cell 1 _ rfl
  replace fr_r := B_r.fro
  replace z_r := B_r.lt
  obtain ⟨⟨A1, n1, pB⟩, ⟨A2, n2, pC⟩⟩ := K_h
  obtain ⟨gB, q1, hv1, hg1⟩ := OwL.form_pos (v := .slice A1 n1 pB) o_h.Bytes (by rw [HS.bl]; decide)
  obtain ⟨gC, q2, hv2, hg2⟩ := OwL.form_pos (v := .slice A2 n2 pC) o_h.Class (by rw [HS.cl]; decide)
  injection hv1 with i1 i2 i3
  injection hv2 with j1 j2 j3
  subst i1 i2 i3 j1 j2 j3
  obtain ⟨_, hpB⟩ : True ∧ x.Bytes.length ≤ pB := ⟨trivial, by obtain ⟨_, c, hv, h1, _⟩ := id o_h.Bytes.rd'; injection hv with _ _ e; subst e; exact h1⟩
  obtain ⟨_, hpC⟩ : True ∧ x.Class.length ≤ pC := ⟨trivial, by obtain ⟨_, c, hv, h1, _⟩ := id o_h.Class.rd'; injection hv with _ _ e; subst e; exact h1⟩
  have hB0 : 0 < x.Bytes.length := by rw [HS.bl]; decide
  have hB1 : x.Bytes.length ≤ 384 := by rw [HS.bl]; decide
  have hB2 : 384 ≤ x.Bytes.length := by rw [HS.bl]; decide
  have hC0 : 0 < x.Class.length := by rw [HS.cl]; decide
  have hC1 : x.Class.length ≤ 6 := by rw [HS.cl]; decide
  have lB := l_h gB foot_b
  have lC := l_h gC foot_c
  have uB := u_h gB foot_b
  have uC := u_h gC foot_c
  clear HS
  go_wp2_with fail
  replace B_r := B_r.alloc (.cells #[.slice (some ⟨gB, 0, none⟩) x.Bytes.length pB, .slice (some ⟨gC, 0, none⟩) x.Class.length pC] 26)
  replace o_h := o_h.alloc_ (.cells #[.slice (some ⟨gB, 0, none⟩) x.Bytes.length pB, .slice (some ⟨gC, 0, none⟩) x.Class.length pC] 26)
  replace hC := hC.alloc_ (.cells #[.slice (some ⟨gB, 0, none⟩) x.Bytes.length pB, .slice (some ⟨gC, 0, none⟩) x.Class.length pC] 26)
  replace hc := hc.alloc (.cells #[.slice (some ⟨gB, 0, none⟩) x.Bytes.length pB, .slice (some ⟨gC, 0, none⟩) x.Class.length pC] 26)
  have B_h : Box (w1.alloc (.cells #[.slice (some ⟨gB, 0, none⟩) x.Bytes.length pB, .slice (some ⟨gC, 0, none⟩) x.Class.length pC] 26)) w1.heap.size [.slice (some ⟨gB, 0, none⟩) x.Bytes.length pB, .slice (some ⟨gC, 0, none⟩) x.Class.length pC] := Box.new w1 #[.slice (some ⟨gB, 0, none⟩) x.Bytes.length pB, .slice (some ⟨gC, 0, none⟩) x.Class.length pC] 26
  have zz_h := B_h.lt
  have sz : w1.heap.size ≤ (w1.alloc (.cells #[.slice (some ⟨gB, 0, none⟩) x.Bytes.length pB, .slice (some ⟨gC, 0, none⟩) x.Class.length pC] 26)).heap.size := Nat.le_of_lt B_h.lt
  have la_h : w.heap.size ≤ w1.heap.size := by omega
  generalize hG : (w1.alloc (.cells #[.slice (some ⟨gB, 0, none⟩) x.Bytes.length pB, .slice (some ⟨gC, 0, none⟩) x.Class.length pC] 26)) = w2 at B_r o_h hC hc B_h zz_h sz ⊢
  clear hG
  replace sC := hC.size
  replace q_r_0 := B_r.cell 0 _ rfl
  replace q_r_1 := B_r.cell 1 _ rfl
  replace fr_r := B_r.fro
  replace z_r := B_r.lt
  have q_h_0 := B_h.cell 0 _ rfl
  have q_h_1 := B_h.cell 1 _ rfl
  have fr_h := B_h.fro
  have z_h := B_h.lt
  have nb1 : ¬ gB = w1.heap.size := by omega
  have nb2 : ¬ w1.heap.size = gB := by omega
  have nc1 : ¬ gC = w1.heap.size := by omega
  have nc2 : ¬ w1.heap.size = gC := by omega
  have nr1 : ¬ gB = w.heap.size := by omega
  have nr2 : ¬ w.heap.size = gB := by omega
  have nr3 : ¬ gC = w.heap.size := by omega
  have nr4 : ¬ w.heap.size = gC := by omega
  refine (l1Below_ct _ g code 24 (by unfold I64; omega) hc).mono ?_
  rintro e w3 ⟨k, rfl, k0, k1, hcn, hx⟩
  replace hc := hcn
  replace B_r := B_r.chg hx (by simp only [List.mem_cons, List.not_mem_nil, or_false]; omega)
  replace B_h := B_h.chg hx (by simp only [List.mem_cons, List.not_mem_nil, or_false]; omega)
  replace o_h := o_h.chg hx (fun b hb hm => by simp only [List.mem_cons, List.not_mem_nil, or_false] at hm; have := l_h b hb; have := u_h b hb; omega)
  replace hC := hC.trans hx
  have sz := hx.size
  replace sC := hC.size
  clear hx
  skip
  replace q_r_0 := B_r.cell 0 _ rfl
  replace q_r_1 := B_r.cell 1 _ rfl
  replace fr_r := B_r.fro
  replace z_r := B_r.lt
  replace q_h_0 := B_h.cell 0 _ rfl
  replace q_h_1 := B_h.cell 1 _ rfl
  replace fr_h := B_h.fro
  replace z_h := B_h.lt
  by_cases e0 : k = 0
  case pos =>
    subst e0
    go_wp2_with fail
    go_region_with (first | (go_at_call 63; (first | ((with_reducible refine (l1Below_ct _ g code _ (by unfold I64; omega) hc).mono ?_); rintro e wq ⟨c_, rfl, c0, c1, hcn, hx⟩; replace B_r := B_r.chg hx (by simp only [List.mem_cons, List.not_mem_nil, or_false]; omega); replace B_h := B_h.chg hx (by simp only [List.mem_cons, List.not_mem_nil, or_false]; omega); replace o_h := o_h.chg hx (fun b hb hm => by simp only [List.mem_cons, List.not_mem_nil, or_false] at hm; have := l_h b hb; have := u_h b hb; omega); replace hC := Chg.trans hC hx; replace hc := hcn; have sz := hx.size; replace sC := hC.size; clear hx; replace q_r_0 := B_r.cell 0 _ rfl; replace q_r_1 := B_r.cell 1 _ rfl; replace fr_r := B_r.fro; replace z_r := B_r.lt; replace q_h_0 := B_h.cell 0 _ rfl; replace q_h_1 := B_h.cell 1 _ rfl; replace fr_h := B_h.fro; replace z_h := B_h.lt; obtain ⟨c, rfl⟩ := Int.eq_ofNat_of_zero_le c0; have hcl : c ≤ x.Bytes.length := (by omega); have hcp : c ≤ pB := (by omega)) | ((with_reducible refine (l1Below_ct _ g code _ (by unfold I64; omega) (hc.drew_)).mono ?_); rintro e wq ⟨c_, rfl, c0, c1, hcn, hx⟩; replace B_r := B_r.drew.chg hx (by simp only [List.mem_cons, List.not_mem_nil, or_false]; omega); replace B_h := B_h.drew.chg hx (by simp only [List.mem_cons, List.not_mem_nil, or_false]; omega); replace o_h := (o_h.drew_).chg hx (fun b hb hm => by simp only [List.mem_cons, List.not_mem_nil, or_false] at hm; have := l_h b hb; have := u_h b hb; omega); replace hC := Chg.trans hC.drew_ hx; replace hc := hcn; have sz := sz_drew hx.size; replace sC := hC.size; clear hx; replace q_r_0 := B_r.cell 0 _ rfl; replace q_r_1 := B_r.cell 1 _ rfl; replace fr_r := B_r.fro; replace z_r := B_r.lt; replace q_h_0 := B_h.cell 0 _ rfl; replace q_h_1 := B_h.cell 1 _ rfl; replace fr_h := B_h.fro; replace z_h := B_h.lt; obtain ⟨c, rfl⟩ := Int.eq_ofNat_of_zero_le c0; have hcl : c ≤ x.Bytes.length := (by omega); have hcp : c ≤ pB := (by omega)))))
    all_goals
      go_wp2_with fail
      refine bodyPost_ret (v := .agg #[.slice (some ⟨gB, 0, none⟩) c pB, .slice (some ⟨gC, 0, none⟩) x.Class.length pC]) (by simp [results, Tryz.results138, go_sem, q_r_0, q_r_1]) rfl ⟨⟨⟨some ⟨gB, 0, none⟩, c, pB⟩, ⟨some ⟨gC, 0, none⟩, x.Class.length, pC⟩⟩, { x with Bytes := x.Bytes.take c }, rfl, OwHeap.chg (F := [w.heap.size, w1.heap.size]) (⟨OwL.cutTo o_h.Bytes hcl, o_h.Class, o_h.d01⟩ : OwHeap wq ⟨⟨some ⟨gB, 0, none⟩, c, pB⟩, ⟨some ⟨gC, 0, none⟩, x.Class.length, pC⟩⟩ { x with Bytes := x.Bytes.take c }) (by repeat (first | with_reducible exact Chg.refl _ _ | with_reducible refine Chg.set_ ?_ (by simp) _ | with_reducible refine Chg.alloc_ ?_ _ | with_reducible refine Chg.drew_ ?_)) (fun b hb hm => by simp only [List.mem_cons, List.not_mem_nil, or_false] at hm; have := l_h b hb; have := u_h b hb; omega), by unfold sizeHeap; simp only [List.length_take]; omega, fun b hb => by have := l_h b hb; omega, hc.keepB (B := w.heap.size) hgl (by repeat (first | with_reducible exact Below.refl _ _ | with_reducible refine Below.setCell ?_ (by simp <;> omega) _ | with_reducible refine Below.alloc ?_ (by simp <;> omega) _ | with_reducible refine Below.drew ?_)) hC.size, hC.then_ (by repeat (first | with_reducible exact Below.refl _ _ | with_reducible refine Below.setCell ?_ (by simp <;> omega) _ | with_reducible refine Below.alloc ?_ (by simp <;> omega) _ | with_reducible refine Below.drew ?_))⟩
  have e0' : (k == 0) = false := by simpa using e0
  by_cases e1 : k = 1
  case pos =>
    subst e1
    go_wp2_with (at_builtin; refine wpList_append_flat Tryz.stInt rfl _ _ rfl (v := .slice (some ⟨gC, 0, none⟩) x.Class.length pC) (y := .slice (some ⟨w3.heap.size, 0, none⟩) 1 1) (l := x.Class) (m := [0]) rfl rfl (OwL.alloc_ o_h.Class _) (OwL.lit FI [0] #[.int .i64 0] rfl (by simp [maxLen]) w3 3).rd' (by simp; omega) ?_; intro v4 w4 ho4 hg4 hat4; obtain ⟨A4, c4, hv4, _⟩ := id ho4.rd'; simp only [List.length_append, List.length_cons, List.length_nil] at hv4; subst hv4; have hx4 := Chg.of_grown hg4; have hx5 : Chg [gC] (w3.alloc (.cells #[.int .i64 0] 3)) w4 := hx4.mono (fun b hb => by have := foot1_some.1 hb; simp [this]); replace B_h := (B_h.alloc (.cells #[.int .i64 0] 3)).chg hx5 (by simp; omega); replace B_r := (B_r.alloc (.cells #[.int .i64 0] 3)).chg hx5 (by simp; omega); replace q_h_0 := B_h.cell 0 _ rfl; replace q_h_1 := B_h.cell 1 _ rfl; replace fr_h := B_h.fro; replace z_h := B_h.lt; replace q_r_0 := B_r.cell 0 _ rfl; replace q_r_1 := B_r.cell 1 _ rfl; replace fr_r := B_r.fro; replace z_r := B_r.lt; have hbl4 : Below w.heap.size w3 w4 := ((Below.refl _ _).alloc hC.size _).grown hg4 (by simp; omega) (fun b hb => by have := foot1_some.1 (mem_foot1.2 hb); omega))
    have hBC : gB ≠ gC := fun e => o_h.d01 gB (foot1_some.2 rfl) (foot1_some.2 e)
    have oB4 := (OwL.alloc_ o_h.Bytes (.cells #[.int .i64 0] 3)).chg hx5 (fun b hb hm => by have := foot1_some.1 hb; simp only [List.mem_cons, List.not_mem_nil, or_false] at hm; exact hBC (this.symm.trans hm))
    replace hc := hc.keepB (B := w.heap.size) hgl hbl4 hC.size
    replace hC := hC.then_ hbl4
    have f4 : ∀ b ∈ foot1 (.slice A4 (x.Class.length + (0 + 1)) c4), b = gC ∨ b = w3.heap.size + 1 := fun b hb => by rcases hat4 with h1 | h1; (rw [mem_foot1] at hb; rw [h1] at hb; exact .inl (foot1_some.1 (mem_foot1.2 hb))); (rw [mem_foot1] at hb; rw [h1] at hb; injection hb with hb; simp at hb; exact .inr hb.symm)
    have o4 : OwHeap w4 ⟨⟨some ⟨gB, 0, none⟩, x.Bytes.length, pB⟩, ⟨A4, x.Class.length + (0 + 1), c4⟩⟩ { x with Class := x.Class ++ [0] } := ⟨oB4, ho4, fun b hb hm => by have e1 := foot1_some.1 hb; rcases f4 b hm with e | e <;> omega⟩
    have g4 : ∀ b ∈ HHeap.foot ⟨⟨some ⟨gB, 0, none⟩, x.Bytes.length, pB⟩, ⟨A4, x.Class.length + (0 + 1), c4⟩⟩, w.heap.size < b ∧ b ≠ w1.heap.size := fun b hb => by rcases HHeap.mem_foot.1 hb with h1 | h1; (have := foot1_some.1 h1; omega); (rcases f4 b h1 with e | e <;> omega)
    go_wp2_with fail
    refine bodyPost_ret (v := .agg #[.slice (some ⟨gB, 0, none⟩) x.Bytes.length pB, .slice A4 (x.Class.length + (0 + 1)) c4]) (by simp [results, Tryz.results138, go_sem, q_r_0, q_r_1]) rfl ⟨⟨⟨some ⟨gB, 0, none⟩, x.Bytes.length, pB⟩, ⟨A4, x.Class.length + (0 + 1), c4⟩⟩, { x with Class := x.Class ++ [0] }, rfl, o4.chg (F := [w.heap.size, w1.heap.size]) (by repeat (first | with_reducible exact Chg.refl _ _ | with_reducible refine Chg.set_ ?_ (by simp) _ | with_reducible refine Chg.alloc_ ?_ _ | with_reducible refine Chg.drew_ ?_)) (fun b hb hm => by simp only [List.mem_cons, List.not_mem_nil, or_false] at hm; have := g4 b hb; omega), by unfold sizeHeap; simp; omega, fun b hb => by have := g4 b hb; omega, hc.keepB (B := w.heap.size) hgl (by repeat (first | with_reducible exact Below.refl _ _ | with_reducible refine Below.setCell ?_ (by simp <;> omega) _ | with_reducible refine Below.alloc ?_ (by simp <;> omega) _ | with_reducible refine Below.drew ?_)) hC.size, hC.then_ (by repeat (first | with_reducible exact Below.refl _ _ | with_reducible refine Below.setCell ?_ (by simp <;> omega) _ | with_reducible refine Below.alloc ?_ (by simp <;> omega) _ | with_reducible refine Below.drew ?_))⟩
  have e1' : (k == 1) = false := by simpa using e1
  by_cases e2 : k = 2
  case pos =>
    subst e2
    go_wp2_with fail
    go_region_held3 (fun w' => w'.cell? ⟨w1.heap.size, 0, none⟩ = some (.slice (some ⟨gB, 0, none⟩) x.Bytes.length pB) ∧ w'.cell? ⟨w1.heap.size, 1, none⟩ = some (.slice (some ⟨gC, 0, none⟩) x.Class.length pC)) (first | (with_reducible exact ⟨q_h_0, q_h_1⟩) | (refine ⟨?_, ?_⟩ <;> (repeat (first | with_reducible assumption | with_reducible refine cell_set_o ?_ (by omega) | with_reducible refine cell_alloc_o ?_ (by omega) | with_reducible refine cell_drew_o ?_)); done) | (go_keep; done)) (first | (go_at_call 63; (first | ((with_reducible refine (l1Below_ct _ g code _ (by unfold I64; omega) hc).mono ?_); rintro e wq ⟨c_, rfl, c0, c1, hcn, hx⟩; replace B_r := B_r.chg hx (by simp only [List.mem_cons, List.not_mem_nil, or_false]; omega); replace B_h := B_h.chg hx (by simp only [List.mem_cons, List.not_mem_nil, or_false]; omega); replace o_h := o_h.chg hx (fun b hb hm => by simp only [List.mem_cons, List.not_mem_nil, or_false] at hm; have := l_h b hb; have := u_h b hb; omega); (try replace B_z := B_z.chg hx (by simp only [List.mem_cons, List.not_mem_nil, or_false]; omega)); (try replace q_z_0 := B_z.cell 0 _ rfl); (try replace q_z_1 := B_z.cell 1 _ rfl); (try replace q_z_2 := B_z.cell 2 _ rfl); (try replace q_z_3 := B_z.cell 3 _ rfl); (try replace q_z_f := B_z.fro); (try replace z_z := B_z.lt); replace hC := Chg.trans hC hx; replace hc := hcn; have sz := hx.size; replace sC := hC.size; clear hx; replace q_r_0 := B_r.cell 0 _ rfl; replace q_r_1 := B_r.cell 1 _ rfl; replace fr_r := B_r.fro; replace z_r := B_r.lt; replace q_h_0 := B_h.cell 0 _ rfl; replace q_h_1 := B_h.cell 1 _ rfl; replace fr_h := B_h.fro; replace z_h := B_h.lt; obtain ⟨c, rfl⟩ := Int.eq_ofNat_of_zero_le c0; have hcl : c < x.Class.length := (by omega); have hcl2 : (c : Int) < (x.Class.length : Int) := (by omega); have p0 := OwL.cellI o_h.Class (List.getElem?_eq_getElem (show c < x.Class.length by omega)); have pf := o_h.Class.frozen_ c) | ((with_reducible refine (l1Below_ct _ g code _ (by unfold I64; omega) (hc.alloc _)).mono ?_); rintro e wq ⟨c_, rfl, c0, c1, hcn, hx⟩; have ly_r := B_r.lt; have ly_h := B_h.lt; replace B_r := (B_r.alloc _).chg hx (by simp only [List.mem_cons, List.not_mem_nil, or_false]; omega); replace B_h := (B_h.alloc _).chg hx (by simp only [List.mem_cons, List.not_mem_nil, or_false]; omega); replace o_h := (o_h.alloc_ _).chg hx (fun b hb hm => by simp only [List.mem_cons, List.not_mem_nil, or_false] at hm; have := l_h b hb; have := u_h b hb; omega); have B_z := Box.chg (Box.new _ #[.int .i64 (-2), .int .i64 3, .int .i64 0, .int .i64 (-1)] 3) hx (by simp only [List.mem_cons, List.not_mem_nil, or_false]; omega); have la_z := hC.size; have q_z_f := B_z.fro; have z_z := B_z.lt; have q_z_0 := B_z.cell 0 _ rfl; have q_z_1 := B_z.cell 1 _ rfl; have q_z_2 := B_z.cell 2 _ rfl; have q_z_3 := B_z.cell 3 _ rfl; replace hC := Chg.trans (hC.alloc_ _) hx; replace hc := hcn; have sz := sz_alloc hx.size; replace sC := hC.size; clear hx; replace q_r_0 := B_r.cell 0 _ rfl; replace q_r_1 := B_r.cell 1 _ rfl; replace fr_r := B_r.fro; replace z_r := B_r.lt; replace q_h_0 := B_h.cell 0 _ rfl; replace q_h_1 := B_h.cell 1 _ rfl; replace fr_h := B_h.fro; replace z_h := B_h.lt; obtain ⟨c, rfl⟩ := Int.eq_ofNat_of_zero_le c0; have hcl : c < x.Class.length := (by omega); have hcl2 : (c : Int) < (x.Class.length : Int) := (by omega); have p0 := OwL.cellI o_h.Class (List.getElem?_eq_getElem (show c < x.Class.length by omega)); have pf := o_h.Class.frozen_ c) | ((with_reducible refine (l1Below_ct _ g code _ (by unfold I64; omega) (hc.drew_)).mono ?_); rintro e wq ⟨c_, rfl, c0, c1, hcn, hx⟩; replace B_r := B_r.drew.chg hx (by simp only [List.mem_cons, List.not_mem_nil, or_false]; omega); replace B_h := B_h.drew.chg hx (by simp only [List.mem_cons, List.not_mem_nil, or_false]; omega); replace o_h := (o_h.drew_).chg hx (fun b hb hm => by simp only [List.mem_cons, List.not_mem_nil, or_false] at hm; have := l_h b hb; have := u_h b hb; omega); (try replace B_z := B_z.drew.chg hx (by simp only [List.mem_cons, List.not_mem_nil, or_false]; omega)); (try replace q_z_0 := B_z.cell 0 _ rfl); (try replace q_z_1 := B_z.cell 1 _ rfl); (try replace q_z_2 := B_z.cell 2 _ rfl); (try replace q_z_3 := B_z.cell 3 _ rfl); (try replace q_z_f := B_z.fro); (try replace z_z := B_z.lt); replace hC := Chg.trans hC.drew_ hx; replace hc := hcn; have sz := sz_drew hx.size; replace sC := hC.size; clear hx; replace q_r_0 := B_r.cell 0 _ rfl; replace q_r_1 := B_r.cell 1 _ rfl; replace fr_r := B_r.fro; replace z_r := B_r.lt; replace q_h_0 := B_h.cell 0 _ rfl; replace q_h_1 := B_h.cell 1 _ rfl; replace fr_h := B_h.fro; replace z_h := B_h.lt; obtain ⟨c, rfl⟩ := Int.eq_ofNat_of_zero_le c0; have hcl : c < x.Class.length := (by omega); have hcl2 : (c : Int) < (x.Class.length : Int) := (by omega); have p0 := OwL.cellI o_h.Class (List.getElem?_eq_getElem (show c < x.Class.length by omega)); have pf := o_h.Class.frozen_ c) | ((with_reducible refine (l1Below_ct _ g code _ (by unfold I64; omega) ((hc.drew_).alloc _)).mono ?_); rintro e wq ⟨c_, rfl, c0, c1, hcn, hx⟩; have ly_r := B_r.lt; have ly_h := B_h.lt; replace B_r := ((B_r.drew).alloc _).chg hx (by simp only [List.mem_cons, List.not_mem_nil, or_false]; omega); replace B_h := ((B_h.drew).alloc _).chg hx (by simp only [List.mem_cons, List.not_mem_nil, or_false]; omega); replace o_h := ((o_h.drew_).alloc_ _).chg hx (fun b hb hm => by simp only [List.mem_cons, List.not_mem_nil, or_false] at hm; have := l_h b hb; have := u_h b hb; omega); have B_z := Box.chg (Box.new _ #[.int .i64 (-2), .int .i64 3, .int .i64 0, .int .i64 (-1)] 3) hx (by simp only [List.mem_cons, List.not_mem_nil, or_false]; omega); (try simp only [size_drew_] at B_z); have la_z := hC.size; have q_z_f := B_z.fro; have z_z := B_z.lt; have q_z_0 := B_z.cell 0 _ rfl; have q_z_1 := B_z.cell 1 _ rfl; have q_z_2 := B_z.cell 2 _ rfl; have q_z_3 := B_z.cell 3 _ rfl; replace hC := Chg.trans (hC.drew_.alloc_ _) hx; replace hc := hcn; have sz := sz_alloc_drew hx.size; replace sC := hC.size; clear hx; replace q_r_0 := B_r.cell 0 _ rfl; replace q_r_1 := B_r.cell 1 _ rfl; replace fr_r := B_r.fro; replace z_r := B_r.lt; replace q_h_0 := B_h.cell 0 _ rfl; replace q_h_1 := B_h.cell 1 _ rfl; replace fr_h := B_h.fro; replace z_h := B_h.lt; obtain ⟨c, rfl⟩ := Int.eq_ofNat_of_zero_le c0; have hcl : c < x.Class.length := (by omega); have hcl2 : (c : Int) < (x.Class.length : Int) := (by omega); have p0 := OwL.cellI o_h.Class (List.getElem?_eq_getElem (show c < x.Class.length by omega)); have pf := o_h.Class.frozen_ c) | ((with_reducible refine (l1Below_ct _ g code _ (by unfold I64; omega) ((hc.alloc _).drew_)).mono ?_); rintro e wq ⟨c_, rfl, c0, c1, hcn, hx⟩; have ly_r := B_r.lt; have ly_h := B_h.lt; replace B_r := (B_r.alloc _).drew.chg hx (by simp only [List.mem_cons, List.not_mem_nil, or_false]; omega); replace B_h := (B_h.alloc _).drew.chg hx (by simp only [List.mem_cons, List.not_mem_nil, or_false]; omega); replace o_h := ((o_h.alloc_ _).drew_).chg hx (fun b hb hm => by simp only [List.mem_cons, List.not_mem_nil, or_false] at hm; have := l_h b hb; have := u_h b hb; omega); have B_z := Box.chg (Box.new _ #[.int .i64 (-2), .int .i64 3, .int .i64 0, .int .i64 (-1)] 3).drew hx (by simp only [List.mem_cons, List.not_mem_nil, or_false]; omega); have la_z := hC.size; have q_z_f := B_z.fro; have z_z := B_z.lt; have q_z_0 := B_z.cell 0 _ rfl; have q_z_1 := B_z.cell 1 _ rfl; have q_z_2 := B_z.cell 2 _ rfl; have q_z_3 := B_z.cell 3 _ rfl; replace hC := Chg.trans (hC.alloc_ _).drew_ hx; replace hc := hcn; have sz := sz_alloc (sz_drew hx.size); replace sC := hC.size; clear hx; replace q_r_0 := B_r.cell 0 _ rfl; replace q_r_1 := B_r.cell 1 _ rfl; replace fr_r := B_r.fro; replace z_r := B_r.lt; replace q_h_0 := B_h.cell 0 _ rfl; replace q_h_1 := B_h.cell 1 _ rfl; replace fr_h := B_h.fro; replace z_h := B_h.lt; obtain ⟨c, rfl⟩ := Int.eq_ofNat_of_zero_le c0; have hcl : c < x.Class.length := (by omega); have hcl2 : (c : Int) < (x.Class.length : Int) := (by omega); have p0 := OwL.cellI o_h.Class (List.getElem?_eq_getElem (show c < x.Class.length by omega)); have pf := o_h.Class.frozen_ c))) | (go_at_call 64; (first | ((with_reducible refine (l1PickB_ct _ g _ code [-2, 3, 0, -1] _ 4 (show Box _ _ [.int .i64 (-2), .int .i64 3, .int .i64 0, .int .i64 (-1)] from B_z) (by simp) (by simp) (by simp; omega) (by decide) (by decide) hc).mono ?_); rintro e wq ⟨y, rfl, hy, hcn, hx⟩; replace B_r := B_r.chg hx (by simp only [List.mem_cons, List.not_mem_nil, or_false]; omega); replace B_h := B_h.chg hx (by simp only [List.mem_cons, List.not_mem_nil, or_false]; omega); replace o_h := o_h.chg hx (fun b hb hm => by simp only [List.mem_cons, List.not_mem_nil, or_false] at hm; have := l_h b hb; have := u_h b hb; omega); (try replace B_z := B_z.chg hx (by simp only [List.mem_cons, List.not_mem_nil, or_false]; omega)); (try replace q_z_0 := B_z.cell 0 _ rfl); (try replace q_z_1 := B_z.cell 1 _ rfl); (try replace q_z_2 := B_z.cell 2 _ rfl); (try replace q_z_3 := B_z.cell 3 _ rfl); (try replace q_z_f := B_z.fro); (try replace z_z := B_z.lt); replace hC := Chg.trans hC hx; replace hc := hcn; have sz := hx.size; replace sC := hC.size; clear hx; replace q_r_0 := B_r.cell 0 _ rfl; replace q_r_1 := B_r.cell 1 _ rfl; replace fr_r := B_r.fro; replace z_r := B_r.lt; replace q_h_0 := B_h.cell 0 _ rfl; replace q_h_1 := B_h.cell 1 _ rfl; replace fr_h := B_h.fro; replace z_h := B_h.lt; have p0 := OwL.cellI o_h.Class (List.getElem?_eq_getElem (show c < x.Class.length by omega)); have pf := o_h.Class.frozen_ c) | ((with_reducible refine (l1PickB_ct _ g _ code [-2, 3, 0, -1] _ 4 (show Box _ _ [.int .i64 (-2), .int .i64 3, .int .i64 0, .int .i64 (-1)] from (Box.new _ #[.int .i64 (-2), .int .i64 3, .int .i64 0, .int .i64 (-1)] 3)) (by simp) (by simp) (by simp; omega) (by decide) (by decide) (hc.alloc _)).mono ?_); rintro e wq ⟨y, rfl, hy, hcn, hx⟩; have ly_r := B_r.lt; have ly_h := B_h.lt; replace B_r := (B_r.alloc _).chg hx (by simp only [List.mem_cons, List.not_mem_nil, or_false]; omega); replace B_h := (B_h.alloc _).chg hx (by simp only [List.mem_cons, List.not_mem_nil, or_false]; omega); replace o_h := (o_h.alloc_ _).chg hx (fun b hb hm => by simp only [List.mem_cons, List.not_mem_nil, or_false] at hm; have := l_h b hb; have := u_h b hb; omega); have B_z := Box.chg (Box.new _ #[.int .i64 (-2), .int .i64 3, .int .i64 0, .int .i64 (-1)] 3) hx (by simp only [List.mem_cons, List.not_mem_nil, or_false]; omega); have la_z := hC.size; have q_z_f := B_z.fro; have z_z := B_z.lt; have q_z_0 := B_z.cell 0 _ rfl; have q_z_1 := B_z.cell 1 _ rfl; have q_z_2 := B_z.cell 2 _ rfl; have q_z_3 := B_z.cell 3 _ rfl; replace hC := Chg.trans (hC.alloc_ _) hx; replace hc := hcn; have sz := sz_alloc hx.size; replace sC := hC.size; clear hx; replace q_r_0 := B_r.cell 0 _ rfl; replace q_r_1 := B_r.cell 1 _ rfl; replace fr_r := B_r.fro; replace z_r := B_r.lt; replace q_h_0 := B_h.cell 0 _ rfl; replace q_h_1 := B_h.cell 1 _ rfl; replace fr_h := B_h.fro; replace z_h := B_h.lt; have p0 := OwL.cellI o_h.Class (List.getElem?_eq_getElem (show c < x.Class.length by omega)); have pf := o_h.Class.frozen_ c) | ((with_reducible refine (l1PickB_ct _ g _ code [-2, 3, 0, -1] _ 4 (show Box _ _ [.int .i64 (-2), .int .i64 3, .int .i64 0, .int .i64 (-1)] from B_z.drew) (by simp) (by simp) (by simp; omega) (by decide) (by decide) (hc.drew_)).mono ?_); rintro e wq ⟨y, rfl, hy, hcn, hx⟩; replace B_r := B_r.drew.chg hx (by simp only [List.mem_cons, List.not_mem_nil, or_false]; omega); replace B_h := B_h.drew.chg hx (by simp only [List.mem_cons, List.not_mem_nil, or_false]; omega); replace o_h := (o_h.drew_).chg hx (fun b hb hm => by simp only [List.mem_cons, List.not_mem_nil, or_false] at hm; have := l_h b hb; have := u_h b hb; omega); (try replace B_z := B_z.drew.chg hx (by simp only [List.mem_cons, List.not_mem_nil, or_false]; omega)); (try replace q_z_0 := B_z.cell 0 _ rfl); (try replace q_z_1 := B_z.cell 1 _ rfl); (try replace q_z_2 := B_z.cell 2 _ rfl); (try replace q_z_3 := B_z.cell 3 _ rfl); (try replace q_z_f := B_z.fro); (try replace z_z := B_z.lt); replace hC := Chg.trans hC.drew_ hx; replace hc := hcn; have sz := sz_drew hx.size; replace sC := hC.size; clear hx; replace q_r_0 := B_r.cell 0 _ rfl; replace q_r_1 := B_r.cell 1 _ rfl; replace fr_r := B_r.fro; replace z_r := B_r.lt; replace q_h_0 := B_h.cell 0 _ rfl; replace q_h_1 := B_h.cell 1 _ rfl; replace fr_h := B_h.fro; replace z_h := B_h.lt; have p0 := OwL.cellI o_h.Class (List.getElem?_eq_getElem (show c < x.Class.length by omega)); have pf := o_h.Class.frozen_ c) | ((with_reducible refine (l1PickB_ct _ g _ code [-2, 3, 0, -1] _ 4 (show Box _ _ [.int .i64 (-2), .int .i64 3, .int .i64 0, .int .i64 (-1)] from (Box.new _ #[.int .i64 (-2), .int .i64 3, .int .i64 0, .int .i64 (-1)] 3)) (by simp) (by simp) (by simp; omega) (by decide) (by decide) ((hc.drew_).alloc _)).mono ?_); rintro e wq ⟨y, rfl, hy, hcn, hx⟩; have ly_r := B_r.lt; have ly_h := B_h.lt; replace B_r := ((B_r.drew).alloc _).chg hx (by simp only [List.mem_cons, List.not_mem_nil, or_false]; omega); replace B_h := ((B_h.drew).alloc _).chg hx (by simp only [List.mem_cons, List.not_mem_nil, or_false]; omega); replace o_h := ((o_h.drew_).alloc_ _).chg hx (fun b hb hm => by simp only [List.mem_cons, List.not_mem_nil, or_false] at hm; have := l_h b hb; have := u_h b hb; omega); have B_z := Box.chg (Box.new _ #[.int .i64 (-2), .int .i64 3, .int .i64 0, .int .i64 (-1)] 3) hx (by simp only [List.mem_cons, List.not_mem_nil, or_false]; omega); (try simp only [size_drew_] at B_z); have la_z := hC.size; have q_z_f := B_z.fro; have z_z := B_z.lt; have q_z_0 := B_z.cell 0 _ rfl; have q_z_1 := B_z.cell 1 _ rfl; have q_z_2 := B_z.cell 2 _ rfl; have q_z_3 := B_z.cell 3 _ rfl; replace hC := Chg.trans (hC.drew_.alloc_ _) hx; replace hc := hcn; have sz := sz_alloc_drew hx.size; replace sC := hC.size; clear hx; replace q_r_0 := B_r.cell 0 _ rfl; replace q_r_1 := B_r.cell 1 _ rfl; replace fr_r := B_r.fro; replace z_r := B_r.lt; replace q_h_0 := B_h.cell 0 _ rfl; replace q_h_1 := B_h.cell 1 _ rfl; replace fr_h := B_h.fro; replace z_h := B_h.lt; have p0 := OwL.cellI o_h.Class (List.getElem?_eq_getElem (show c < x.Class.length by omega)); have pf := o_h.Class.frozen_ c) | ((with_reducible refine (l1PickB_ct _ g _ code [-2, 3, 0, -1] _ 4 (show Box _ _ [.int .i64 (-2), .int .i64 3, .int .i64 0, .int .i64 (-1)] from (Box.new _ #[.int .i64 (-2), .int .i64 3, .int .i64 0, .int .i64 (-1)] 3).drew) (by simp) (by simp) (by simp; omega) (by decide) (by decide) ((hc.alloc _).drew_)).mono ?_); rintro e wq ⟨y, rfl, hy, hcn, hx⟩; have ly_r := B_r.lt; have ly_h := B_h.lt; replace B_r := (B_r.alloc _).drew.chg hx (by simp only [List.mem_cons, List.not_mem_nil, or_false]; omega); replace B_h := (B_h.alloc _).drew.chg hx (by simp only [List.mem_cons, List.not_mem_nil, or_false]; omega); replace o_h := ((o_h.alloc_ _).drew_).chg hx (fun b hb hm => by simp only [List.mem_cons, List.not_mem_nil, or_false] at hm; have := l_h b hb; have := u_h b hb; omega); have B_z := Box.chg (Box.new _ #[.int .i64 (-2), .int .i64 3, .int .i64 0, .int .i64 (-1)] 3).drew hx (by simp only [List.mem_cons, List.not_mem_nil, or_false]; omega); have la_z := hC.size; have q_z_f := B_z.fro; have z_z := B_z.lt; have q_z_0 := B_z.cell 0 _ rfl; have q_z_1 := B_z.cell 1 _ rfl; have q_z_2 := B_z.cell 2 _ rfl; have q_z_3 := B_z.cell 3 _ rfl; replace hC := Chg.trans (hC.alloc_ _).drew_ hx; replace hc := hcn; have sz := sz_alloc (sz_drew hx.size); replace sC := hC.size; clear hx; replace q_r_0 := B_r.cell 0 _ rfl; replace q_r_1 := B_r.cell 1 _ rfl; replace fr_r := B_r.fro; replace z_r := B_r.lt; replace q_h_0 := B_h.cell 0 _ rfl; replace q_h_1 := B_h.cell 1 _ rfl; replace fr_h := B_h.fro; replace z_h := B_h.lt; have p0 := OwL.cellI o_h.Class (List.getElem?_eq_getElem (show c < x.Class.length by omega)); have pf := o_h.Class.frozen_ c))))
    all_goals
      go_wp2_with fail
      refine bodyPost_ret (v := .agg #[.slice (some ⟨gB, 0, none⟩) x.Bytes.length pB, .slice (some ⟨gC, 0, none⟩) x.Class.length pC]) (by simp [results, Tryz.results138, go_sem, q_r_0, q_r_1]) rfl ⟨⟨⟨some ⟨gB, 0, none⟩, x.Bytes.length, pB⟩, ⟨some ⟨gC, 0, none⟩, x.Class.length, pC⟩⟩, { x with Class := x.Class.set c y }, rfl, (o_h.setC hcl y).chg (F := [w.heap.size]) (by repeat (first | with_reducible exact Chg.refl _ _ | with_reducible refine Chg.set_ ?_ (by simp) _ | with_reducible refine Chg.alloc_ ?_ _ | with_reducible refine Chg.drew_ ?_)) (fun b hb hm => by simp only [List.mem_cons, List.not_mem_nil, or_false] at hm; have := l_h b hb; have := u_h b hb; omega), by unfold sizeHeap; simp only [List.length_set]; omega, fun b hb => by have := l_h b hb; omega, hc.keepB (B := w.heap.size) hgl (by repeat (first | with_reducible exact Below.refl _ _ | with_reducible refine Below.setCell ?_ (by simp <;> omega) _ | with_reducible refine Below.alloc ?_ (by simp <;> omega) _ | with_reducible refine Below.drew ?_)) hC.size, hC.then_ (by repeat (first | with_reducible exact Below.refl _ _ | with_reducible refine Below.setCell ?_ (by simp <;> omega) _ | with_reducible refine Below.alloc ?_ (by simp <;> omega) _ | with_reducible refine Below.drew ?_))⟩
  have e2' : (k == 2) = false := by simpa using e2
  by_cases e3 : k = 3
  case pos =>
    subst e3
    go_wp2_with fail
    go_region_held3 (fun w' => w'.cell? ⟨w1.heap.size, 0, none⟩ = some (.slice (some ⟨gB, 0, none⟩) x.Bytes.length pB) ∧ w'.cell? ⟨w1.heap.size, 1, none⟩ = some (.slice (some ⟨gC, 0, none⟩) x.Class.length pC)) (first | (with_reducible exact ⟨q_h_0, q_h_1⟩) | (refine ⟨?_, ?_⟩ <;> (repeat (first | with_reducible assumption | with_reducible refine cell_set_o ?_ (by omega) | with_reducible refine cell_alloc_o ?_ (by omega) | with_reducible refine cell_drew_o ?_)); done) | (go_keep; done)) (first | (go_at_call 63; (first | ((with_reducible refine (l1Below_ct _ g code _ (by unfold I64; omega) hc).mono ?_); rintro e wq ⟨c_, rfl, c0, c1, hcn, hx⟩; replace B_r := B_r.chg hx (by simp only [List.mem_cons, List.not_mem_nil, or_false]; omega); replace B_h := B_h.chg hx (by simp only [List.mem_cons, List.not_mem_nil, or_false]; omega); replace o_h := o_h.chg hx (fun b hb hm => by simp only [List.mem_cons, List.not_mem_nil, or_false] at hm; have := l_h b hb; have := u_h b hb; omega); (try replace B_z := B_z.chg hx (by simp only [List.mem_cons, List.not_mem_nil, or_false]; omega)); (try replace q_z_0 := B_z.cell 0 _ rfl); (try replace q_z_1 := B_z.cell 1 _ rfl); (try replace q_z_2 := B_z.cell 2 _ rfl); (try replace q_z_3 := B_z.cell 3 _ rfl); (try replace q_z_f := B_z.fro); (try replace z_z := B_z.lt); replace hC := Chg.trans hC hx; replace hc := hcn; have sz := hx.size; replace sC := hC.size; clear hx; replace q_r_0 := B_r.cell 0 _ rfl; replace q_r_1 := B_r.cell 1 _ rfl; replace fr_r := B_r.fro; replace z_r := B_r.lt; replace q_h_0 := B_h.cell 0 _ rfl; replace q_h_1 := B_h.cell 1 _ rfl; replace fr_h := B_h.fro; replace z_h := B_h.lt; obtain ⟨c, rfl⟩ := Int.eq_ofNat_of_zero_le c0; have hcl : c < x.Bytes.length := (by omega); have hcl2 : (c : Int) < (x.Bytes.length : Int) := (by omega); have p0 := OwL.cellI o_h.Bytes (List.getElem?_eq_getElem (show c < x.Bytes.length by omega)); have pf := o_h.Bytes.frozen_ c) | ((with_reducible refine (l1Below_ct _ g code _ (by unfold I64; omega) (hc.alloc _)).mono ?_); rintro e wq ⟨c_, rfl, c0, c1, hcn, hx⟩; have ly_r := B_r.lt; have ly_h := B_h.lt; replace B_r := (B_r.alloc _).chg hx (by simp only [List.mem_cons, List.not_mem_nil, or_false]; omega); replace B_h := (B_h.alloc _).chg hx (by simp only [List.mem_cons, List.not_mem_nil, or_false]; omega); replace o_h := (o_h.alloc_ _).chg hx (fun b hb hm => by simp only [List.mem_cons, List.not_mem_nil, or_false] at hm; have := l_h b hb; have := u_h b hb; omega); have B_z := Box.chg (Box.new _ #[.int .i64 (-1), .int .i64 256, .int .i64 171, .int .i64 1] 3) hx (by simp only [List.mem_cons, List.not_mem_nil, or_false]; omega); have la_z := hC.size; have q_z_f := B_z.fro; have z_z := B_z.lt; have q_z_0 := B_z.cell 0 _ rfl; have q_z_1 := B_z.cell 1 _ rfl; have q_z_2 := B_z.cell 2 _ rfl; have q_z_3 := B_z.cell 3 _ rfl; replace hC := Chg.trans (hC.alloc_ _) hx; replace hc := hcn; have sz := sz_alloc hx.size; replace sC := hC.size; clear hx; replace q_r_0 := B_r.cell 0 _ rfl; replace q_r_1 := B_r.cell 1 _ rfl; replace fr_r := B_r.fro; replace z_r := B_r.lt; replace q_h_0 := B_h.cell 0 _ rfl; replace q_h_1 := B_h.cell 1 _ rfl; replace fr_h := B_h.fro; replace z_h := B_h.lt; obtain ⟨c, rfl⟩ := Int.eq_ofNat_of_zero_le c0; have hcl : c < x.Bytes.length := (by omega); have hcl2 : (c : Int) < (x.Bytes.length : Int) := (by omega); have p0 := OwL.cellI o_h.Bytes (List.getElem?_eq_getElem (show c < x.Bytes.length by omega)); have pf := o_h.Bytes.frozen_ c) | ((with_reducible refine (l1Below_ct _ g code _ (by unfold I64; omega) (hc.drew_)).mono ?_); rintro e wq ⟨c_, rfl, c0, c1, hcn, hx⟩; replace B_r := B_r.drew.chg hx (by simp only [List.mem_cons, List.not_mem_nil, or_false]; omega); replace B_h := B_h.drew.chg hx (by simp only [List.mem_cons, List.not_mem_nil, or_false]; omega); replace o_h := (o_h.drew_).chg hx (fun b hb hm => by simp only [List.mem_cons, List.not_mem_nil, or_false] at hm; have := l_h b hb; have := u_h b hb; omega); (try replace B_z := B_z.drew.chg hx (by simp only [List.mem_cons, List.not_mem_nil, or_false]; omega)); (try replace q_z_0 := B_z.cell 0 _ rfl); (try replace q_z_1 := B_z.cell 1 _ rfl); (try replace q_z_2 := B_z.cell 2 _ rfl); (try replace q_z_3 := B_z.cell 3 _ rfl); (try replace q_z_f := B_z.fro); (try replace z_z := B_z.lt); replace hC := Chg.trans hC.drew_ hx; replace hc := hcn; have sz := sz_drew hx.size; replace sC := hC.size; clear hx; replace q_r_0 := B_r.cell 0 _ rfl; replace q_r_1 := B_r.cell 1 _ rfl; replace fr_r := B_r.fro; replace z_r := B_r.lt; replace q_h_0 := B_h.cell 0 _ rfl; replace q_h_1 := B_h.cell 1 _ rfl; replace fr_h := B_h.fro; replace z_h := B_h.lt; obtain ⟨c, rfl⟩ := Int.eq_ofNat_of_zero_le c0; have hcl : c < x.Bytes.length := (by omega); have hcl2 : (c : Int) < (x.Bytes.length : Int) := (by omega); have p0 := OwL.cellI o_h.Bytes (List.getElem?_eq_getElem (show c < x.Bytes.length by omega)); have pf := o_h.Bytes.frozen_ c) | ((with_reducible refine (l1Below_ct _ g code _ (by unfold I64; omega) ((hc.drew_).alloc _)).mono ?_); rintro e wq ⟨c_, rfl, c0, c1, hcn, hx⟩; have ly_r := B_r.lt; have ly_h := B_h.lt; replace B_r := ((B_r.drew).alloc _).chg hx (by simp only [List.mem_cons, List.not_mem_nil, or_false]; omega); replace B_h := ((B_h.drew).alloc _).chg hx (by simp only [List.mem_cons, List.not_mem_nil, or_false]; omega); replace o_h := ((o_h.drew_).alloc_ _).chg hx (fun b hb hm => by simp only [List.mem_cons, List.not_mem_nil, or_false] at hm; have := l_h b hb; have := u_h b hb; omega); have B_z := Box.chg (Box.new _ #[.int .i64 (-1), .int .i64 256, .int .i64 171, .int .i64 1] 3) hx (by simp only [List.mem_cons, List.not_mem_nil, or_false]; omega); (try simp only [size_drew_] at B_z); have la_z := hC.size; have q_z_f := B_z.fro; have z_z := B_z.lt; have q_z_0 := B_z.cell 0 _ rfl; have q_z_1 := B_z.cell 1 _ rfl; have q_z_2 := B_z.cell 2 _ rfl; have q_z_3 := B_z.cell 3 _ rfl; replace hC := Chg.trans (hC.drew_.alloc_ _) hx; replace hc := hcn; have sz := sz_alloc_drew hx.size; replace sC := hC.size; clear hx; replace q_r_0 := B_r.cell 0 _ rfl; replace q_r_1 := B_r.cell 1 _ rfl; replace fr_r := B_r.fro; replace z_r := B_r.lt; replace q_h_0 := B_h.cell 0 _ rfl; replace q_h_1 := B_h.cell 1 _ rfl; replace fr_h := B_h.fro; replace z_h := B_h.lt; obtain ⟨c, rfl⟩ := Int.eq_ofNat_of_zero_le c0; have hcl : c < x.Bytes.length := (by omega); have hcl2 : (c : Int) < (x.Bytes.length : Int) := (by omega); have p0 := OwL.cellI o_h.Bytes (List.getElem?_eq_getElem (show c < x.Bytes.length by omega)); have pf := o_h.Bytes.frozen_ c) | ((with_reducible refine (l1Below_ct _ g code _ (by unfold I64; omega) ((hc.alloc _).drew_)).mono ?_); rintro e wq ⟨c_, rfl, c0, c1, hcn, hx⟩; have ly_r := B_r.lt; have ly_h := B_h.lt; replace B_r := (B_r.alloc _).drew.chg hx (by simp only [List.mem_cons, List.not_mem_nil, or_false]; omega); replace B_h := (B_h.alloc _).drew.chg hx (by simp only [List.mem_cons, List.not_mem_nil, or_false]; omega); replace o_h := ((o_h.alloc_ _).drew_).chg hx (fun b hb hm => by simp only [List.mem_cons, List.not_mem_nil, or_false] at hm; have := l_h b hb; have := u_h b hb; omega); have B_z := Box.chg (Box.new _ #[.int .i64 (-1), .int .i64 256, .int .i64 171, .int .i64 1] 3).drew hx (by simp only [List.mem_cons, List.not_mem_nil, or_false]; omega); have la_z := hC.size; have q_z_f := B_z.fro; have z_z := B_z.lt; have q_z_0 := B_z.cell 0 _ rfl; have q_z_1 := B_z.cell 1 _ rfl; have q_z_2 := B_z.cell 2 _ rfl; have q_z_3 := B_z.cell 3 _ rfl; replace hC := Chg.trans (hC.alloc_ _).drew_ hx; replace hc := hcn; have sz := sz_alloc (sz_drew hx.size); replace sC := hC.size; clear hx; replace q_r_0 := B_r.cell 0 _ rfl; replace q_r_1 := B_r.cell 1 _ rfl; replace fr_r := B_r.fro; replace z_r := B_r.lt; replace q_h_0 := B_h.cell 0 _ rfl; replace q_h_1 := B_h.cell 1 _ rfl; replace fr_h := B_h.fro; replace z_h := B_h.lt; obtain ⟨c, rfl⟩ := Int.eq_ofNat_of_zero_le c0; have hcl : c < x.Bytes.length := (by omega); have hcl2 : (c : Int) < (x.Bytes.length : Int) := (by omega); have p0 := OwL.cellI o_h.Bytes (List.getElem?_eq_getElem (show c < x.Bytes.length by omega)); have pf := o_h.Bytes.frozen_ c))) | (go_at_call 64; (first | ((with_reducible refine (l1PickB_ct _ g _ code [-1, 256, 171, 1] _ 4 (show Box _ _ [.int .i64 (-1), .int .i64 256, .int .i64 171, .int .i64 1] from B_z) (by simp) (by simp) (by simp; omega) (by decide) (by decide) hc).mono ?_); rintro e wq ⟨y, rfl, hy, hcn, hx⟩; replace B_r := B_r.chg hx (by simp only [List.mem_cons, List.not_mem_nil, or_false]; omega); replace B_h := B_h.chg hx (by simp only [List.mem_cons, List.not_mem_nil, or_false]; omega); replace o_h := o_h.chg hx (fun b hb hm => by simp only [List.mem_cons, List.not_mem_nil, or_false] at hm; have := l_h b hb; have := u_h b hb; omega); (try replace B_z := B_z.chg hx (by simp only [List.mem_cons, List.not_mem_nil, or_false]; omega)); (try replace q_z_0 := B_z.cell 0 _ rfl); (try replace q_z_1 := B_z.cell 1 _ rfl); (try replace q_z_2 := B_z.cell 2 _ rfl); (try replace q_z_3 := B_z.cell 3 _ rfl); (try replace q_z_f := B_z.fro); (try replace z_z := B_z.lt); replace hC := Chg.trans hC hx; replace hc := hcn; have sz := hx.size; replace sC := hC.size; clear hx; replace q_r_0 := B_r.cell 0 _ rfl; replace q_r_1 := B_r.cell 1 _ rfl; replace fr_r := B_r.fro; replace z_r := B_r.lt; replace q_h_0 := B_h.cell 0 _ rfl; replace q_h_1 := B_h.cell 1 _ rfl; replace fr_h := B_h.fro; replace z_h := B_h.lt; have p0 := OwL.cellI o_h.Bytes (List.getElem?_eq_getElem (show c < x.Bytes.length by omega)); have pf := o_h.Bytes.frozen_ c) | ((with_reducible refine (l1PickB_ct _ g _ code [-1, 256, 171, 1] _ 4 (show Box _ _ [.int .i64 (-1), .int .i64 256, .int .i64 171, .int .i64 1] from (Box.new _ #[.int .i64 (-1), .int .i64 256, .int .i64 171, .int .i64 1] 3)) (by simp) (by simp) (by simp; omega) (by decide) (by decide) (hc.alloc _)).mono ?_); rintro e wq ⟨y, rfl, hy, hcn, hx⟩; have ly_r := B_r.lt; have ly_h := B_h.lt; replace B_r := (B_r.alloc _).chg hx (by simp only [List.mem_cons, List.not_mem_nil, or_false]; omega); replace B_h := (B_h.alloc _).chg hx (by simp only [List.mem_cons, List.not_mem_nil, or_false]; omega); replace o_h := (o_h.alloc_ _).chg hx (fun b hb hm => by simp only [List.mem_cons, List.not_mem_nil, or_false] at hm; have := l_h b hb; have := u_h b hb; omega); have B_z := Box.chg (Box.new _ #[.int .i64 (-1), .int .i64 256, .int .i64 171, .int .i64 1] 3) hx (by simp only [List.mem_cons, List.not_mem_nil, or_false]; omega); have la_z := hC.size; have q_z_f := B_z.fro; have z_z := B_z.lt; have q_z_0 := B_z.cell 0 _ rfl; have q_z_1 := B_z.cell 1 _ rfl; have q_z_2 := B_z.cell 2 _ rfl; have q_z_3 := B_z.cell 3 _ rfl; replace hC := Chg.trans (hC.alloc_ _) hx; replace hc := hcn; have sz := sz_alloc hx.size; replace sC := hC.size; clear hx; replace q_r_0 := B_r.cell 0 _ rfl; replace q_r_1 := B_r.cell 1 _ rfl; replace fr_r := B_r.fro; replace z_r := B_r.lt; replace q_h_0 := B_h.cell 0 _ rfl; replace q_h_1 := B_h.cell 1 _ rfl; replace fr_h := B_h.fro; replace z_h := B_h.lt; have p0 := OwL.cellI o_h.Bytes (List.getElem?_eq_getElem (show c < x.Bytes.length by omega)); have pf := o_h.Bytes.frozen_ c) | ((with_reducible refine (l1PickB_ct _ g _ code [-1, 256, 171, 1] _ 4 (show Box _ _ [.int .i64 (-1), .int .i64 256, .int .i64 171, .int .i64 1] from B_z.drew) (by simp) (by simp) (by simp; omega) (by decide) (by decide) (hc.drew_)).mono ?_); rintro e wq ⟨y, rfl, hy, hcn, hx⟩; replace B_r := B_r.drew.chg hx (by simp only [List.mem_cons, List.not_mem_nil, or_false]; omega); replace B_h := B_h.drew.chg hx (by simp only [List.mem_cons, List.not_mem_nil, or_false]; omega); replace o_h := (o_h.drew_).chg hx (fun b hb hm => by simp only [List.mem_cons, List.not_mem_nil, or_false] at hm; have := l_h b hb; have := u_h b hb; omega); (try replace B_z := B_z.drew.chg hx (by simp only [List.mem_cons, List.not_mem_nil, or_false]; omega)); (try replace q_z_0 := B_z.cell 0 _ rfl); (try replace q_z_1 := B_z.cell 1 _ rfl); (try replace q_z_2 := B_z.cell 2 _ rfl); (try replace q_z_3 := B_z.cell 3 _ rfl); (try replace q_z_f := B_z.fro); (try replace z_z := B_z.lt); replace hC := Chg.trans hC.drew_ hx; replace hc := hcn; have sz := sz_drew hx.size; replace sC := hC.size; clear hx; replace q_r_0 := B_r.cell 0 _ rfl; replace q_r_1 := B_r.cell 1 _ rfl; replace fr_r := B_r.fro; replace z_r := B_r.lt; replace q_h_0 := B_h.cell 0 _ rfl; replace q_h_1 := B_h.cell 1 _ rfl; replace fr_h := B_h.fro; replace z_h := B_h.lt; have p0 := OwL.cellI o_h.Bytes (List.getElem?_eq_getElem (show c < x.Bytes.length by omega)); have pf := o_h.Bytes.frozen_ c) | ((with_reducible refine (l1PickB_ct _ g _ code [-1, 256, 171, 1] _ 4 (show Box _ _ [.int .i64 (-1), .int .i64 256, .int .i64 171, .int .i64 1] from (Box.new _ #[.int .i64 (-1), .int .i64 256, .int .i64 171, .int .i64 1] 3)) (by simp) (by simp) (by simp; omega) (by decide) (by decide) ((hc.drew_).alloc _)).mono ?_); rintro e wq ⟨y, rfl, hy, hcn, hx⟩; have ly_r := B_r.lt; have ly_h := B_h.lt; replace B_r := ((B_r.drew).alloc _).chg hx (by simp only [List.mem_cons, List.not_mem_nil, or_false]; omega); replace B_h := ((B_h.drew).alloc _).chg hx (by simp only [List.mem_cons, List.not_mem_nil, or_false]; omega); replace o_h := ((o_h.drew_).alloc_ _).chg hx (fun b hb hm => by simp only [List.mem_cons, List.not_mem_nil, or_false] at hm; have := l_h b hb; have := u_h b hb; omega); have B_z := Box.chg (Box.new _ #[.int .i64 (-1), .int .i64 256, .int .i64 171, .int .i64 1] 3) hx (by simp only [List.mem_cons, List.not_mem_nil, or_false]; omega); (try simp only [size_drew_] at B_z); have la_z := hC.size; have q_z_f := B_z.fro; have z_z := B_z.lt; have q_z_0 := B_z.cell 0 _ rfl; have q_z_1 := B_z.cell 1 _ rfl; have q_z_2 := B_z.cell 2 _ rfl; have q_z_3 := B_z.cell 3 _ rfl; replace hC := Chg.trans (hC.drew_.alloc_ _) hx; replace hc := hcn; have sz := sz_alloc_drew hx.size; replace sC := hC.size; clear hx; replace q_r_0 := B_r.cell 0 _ rfl; replace q_r_1 := B_r.cell 1 _ rfl; replace fr_r := B_r.fro; replace z_r := B_r.lt; replace q_h_0 := B_h.cell 0 _ rfl; replace q_h_1 := B_h.cell 1 _ rfl; replace fr_h := B_h.fro; replace z_h := B_h.lt; have p0 := OwL.cellI o_h.Bytes (List.getElem?_eq_getElem (show c < x.Bytes.length by omega)); have pf := o_h.Bytes.frozen_ c) | ((with_reducible refine (l1PickB_ct _ g _ code [-1, 256, 171, 1] _ 4 (show Box _ _ [.int .i64 (-1), .int .i64 256, .int .i64 171, .int .i64 1] from (Box.new _ #[.int .i64 (-1), .int .i64 256, .int .i64 171, .int .i64 1] 3).drew) (by simp) (by simp) (by simp; omega) (by decide) (by decide) ((hc.alloc _).drew_)).mono ?_); rintro e wq ⟨y, rfl, hy, hcn, hx⟩; have ly_r := B_r.lt; have ly_h := B_h.lt; replace B_r := (B_r.alloc _).drew.chg hx (by simp only [List.mem_cons, List.not_mem_nil, or_false]; omega); replace B_h := (B_h.alloc _).drew.chg hx (by simp only [List.mem_cons, List.not_mem_nil, or_false]; omega); replace o_h := ((o_h.alloc_ _).drew_).chg hx (fun b hb hm => by simp only [List.mem_cons, List.not_mem_nil, or_false] at hm; have := l_h b hb; have := u_h b hb; omega); have B_z := Box.chg (Box.new _ #[.int .i64 (-1), .int .i64 256, .int .i64 171, .int .i64 1] 3).drew hx (by simp only [List.mem_cons, List.not_mem_nil, or_false]; omega); have la_z := hC.size; have q_z_f := B_z.fro; have z_z := B_z.lt; have q_z_0 := B_z.cell 0 _ rfl; have q_z_1 := B_z.cell 1 _ rfl; have q_z_2 := B_z.cell 2 _ rfl; have q_z_3 := B_z.cell 3 _ rfl; replace hC := Chg.trans (hC.alloc_ _).drew_ hx; replace hc := hcn; have sz := sz_alloc (sz_drew hx.size); replace sC := hC.size; clear hx; replace q_r_0 := B_r.cell 0 _ rfl; replace q_r_1 := B_r.cell 1 _ rfl; replace fr_r := B_r.fro; replace z_r := B_r.lt; replace q_h_0 := B_h.cell 0 _ rfl; replace q_h_1 := B_h.cell 1 _ rfl; replace fr_h := B_h.fro; replace z_h := B_h.lt; have p0 := OwL.cellI o_h.Bytes (List.getElem?_eq_getElem (show c < x.Bytes.length by omega)); have pf := o_h.Bytes.frozen_ c))))
    all_goals
      go_wp2_with fail
      refine bodyPost_ret (v := .agg #[.slice (some ⟨gB, 0, none⟩) x.Bytes.length pB, .slice (some ⟨gC, 0, none⟩) x.Class.length pC]) (by simp [results, Tryz.results138, go_sem, q_r_0, q_r_1]) rfl ⟨⟨⟨some ⟨gB, 0, none⟩, x.Bytes.length, pB⟩, ⟨some ⟨gC, 0, none⟩, x.Class.length, pC⟩⟩, { x with Bytes := x.Bytes.set c y }, rfl, (o_h.setB hcl y).chg (F := [w.heap.size]) (by repeat (first | with_reducible exact Chg.refl _ _ | with_reducible refine Chg.set_ ?_ (by simp) _ | with_reducible refine Chg.alloc_ ?_ _ | with_reducible refine Chg.drew_ ?_)) (fun b hb hm => by simp only [List.mem_cons, List.not_mem_nil, or_false] at hm; have := l_h b hb; have := u_h b hb; omega), by unfold sizeHeap; simp only [List.length_set]; omega, fun b hb => by have := l_h b hb; omega, hc.keepB (B := w.heap.size) hgl (by repeat (first | with_reducible exact Below.refl _ _ | with_reducible refine Below.setCell ?_ (by simp <;> omega) _ | with_reducible refine Below.alloc ?_ (by simp <;> omega) _ | with_reducible refine Below.drew ?_)) hC.size, hC.then_ (by repeat (first | with_reducible exact Below.refl _ _ | with_reducible refine Below.setCell ?_ (by simp <;> omega) _ | with_reducible refine Below.alloc ?_ (by simp <;> omega) _ | with_reducible refine Below.drew ?_))⟩
  have e3' : (k == 3) = false := by simpa using e3
  by_cases e4 : k = 4
  case pos =>
    subst e4
    go_wp2_with fail
    go_region_held3 (fun w' => w'.cell? ⟨w1.heap.size, 0, none⟩ = some (.slice (some ⟨gB, 0, none⟩) x.Bytes.length pB) ∧ w'.cell? ⟨w1.heap.size, 1, none⟩ = some (.slice (some ⟨gC, 0, none⟩) x.Class.length pC)) (first | (with_reducible exact ⟨q_h_0, q_h_1⟩) | (refine ⟨?_, ?_⟩ <;> (repeat (first | with_reducible assumption | with_reducible refine cell_set_o ?_ (by omega) | with_reducible refine cell_alloc_o ?_ (by omega) | with_reducible refine cell_drew_o ?_)); done) | (go_keep; done)) (first | (go_at_call 63; (first | ((with_reducible refine (l1Below_ct _ g code 6 (by unfold I64; omega) hc).mono ?_); rintro e wq ⟨a_, rfl, a0, a1, hcn, hx⟩; replace B_r := B_r.chg hx (by simp only [List.mem_cons, List.not_mem_nil, or_false]; omega); replace B_h := B_h.chg hx (by simp only [List.mem_cons, List.not_mem_nil, or_false]; omega); replace o_h := o_h.chg hx (fun b hb hm => by simp only [List.mem_cons, List.not_mem_nil, or_false] at hm; have := l_h b hb; have := u_h b hb; omega); replace hC := Chg.trans hC hx; replace hc := hcn; have sz := hx.size; replace sC := hC.size; clear hx; replace q_r_0 := B_r.cell 0 _ rfl; replace q_r_1 := B_r.cell 1 _ rfl; replace fr_r := B_r.fro; replace z_r := B_r.lt; replace q_h_0 := B_h.cell 0 _ rfl; replace q_h_1 := B_h.cell 1 _ rfl; replace fr_h := B_h.fro; replace z_h := B_h.lt; obtain ⟨a, rfl⟩ := Int.eq_ofNat_of_zero_le a0; have ha6 : a < 6 := (by omega); have hw1 : IntKind.i64.wrap ((a : Int) * 64) = (a : Int) * 64 := (by rw [IntKind.wrap_i64]; omega)) | ((with_reducible refine (l1Below_ct _ g code 6 (by unfold I64; omega) (hc.drew_)).mono ?_); rintro e wq ⟨a_, rfl, a0, a1, hcn, hx⟩; replace B_r := B_r.drew.chg hx (by simp only [List.mem_cons, List.not_mem_nil, or_false]; omega); replace B_h := B_h.drew.chg hx (by simp only [List.mem_cons, List.not_mem_nil, or_false]; omega); replace o_h := (o_h.drew_).chg hx (fun b hb hm => by simp only [List.mem_cons, List.not_mem_nil, or_false] at hm; have := l_h b hb; have := u_h b hb; omega); replace hC := Chg.trans hC.drew_ hx; replace hc := hcn; have sz := sz_drew hx.size; replace sC := hC.size; clear hx; replace q_r_0 := B_r.cell 0 _ rfl; replace q_r_1 := B_r.cell 1 _ rfl; replace fr_r := B_r.fro; replace z_r := B_r.lt; replace q_h_0 := B_h.cell 0 _ rfl; replace q_h_1 := B_h.cell 1 _ rfl; replace fr_h := B_h.fro; replace z_h := B_h.lt; obtain ⟨a, rfl⟩ := Int.eq_ofNat_of_zero_le a0; have ha6 : a < 6 := (by omega); have hw1 : IntKind.i64.wrap ((a : Int) * 64) = (a : Int) * 64 := (by rw [IntKind.wrap_i64]; omega)))) | (go_at_call 63; (first | ((with_reducible refine (l1Below_ct _ g code 12 (by unfold I64; omega) hc).mono ?_); rintro e wq ⟨b_, rfl, b0, b1, hcn, hx⟩; replace B_r := B_r.chg hx (by simp only [List.mem_cons, List.not_mem_nil, or_false]; omega); replace B_h := B_h.chg hx (by simp only [List.mem_cons, List.not_mem_nil, or_false]; omega); replace o_h := o_h.chg hx (fun b hb hm => by simp only [List.mem_cons, List.not_mem_nil, or_false] at hm; have := l_h b hb; have := u_h b hb; omega); replace hC := Chg.trans hC hx; replace hc := hcn; have sz := hx.size; replace sC := hC.size; clear hx; replace q_r_0 := B_r.cell 0 _ rfl; replace q_r_1 := B_r.cell 1 _ rfl; replace fr_r := B_r.fro; replace z_r := B_r.lt; replace q_h_0 := B_h.cell 0 _ rfl; replace q_h_1 := B_h.cell 1 _ rfl; replace fr_h := B_h.fro; replace z_h := B_h.lt; obtain ⟨b, rfl⟩ := Int.eq_ofNat_of_zero_le b0; have hb12 : b < 12 := (by omega); obtain ⟨ix, hix⟩ : ∃ ix : Nat, ix = a * 64 + b := ⟨_, rfl⟩; have hixl : ix < x.Bytes.length := (by omega); have hixl2 : (ix : Int) < (x.Bytes.length : Int) := (by omega); have hw2 : IntKind.i64.wrap ((a : Int) * 64 + (b : Int)) = (ix : Int) := (by rw [IntKind.wrap_i64]; omega); have HIX := Hid.mk_ hix; clear hix; have p0 := OwL.cellI o_h.Bytes (List.getElem?_eq_getElem (show ix < x.Bytes.length by omega)); have pf := o_h.Bytes.frozen_ ix) | ((with_reducible refine (l1Below_ct _ g code 12 (by unfold I64; omega) (hc.drew_)).mono ?_); rintro e wq ⟨b_, rfl, b0, b1, hcn, hx⟩; replace B_r := B_r.drew.chg hx (by simp only [List.mem_cons, List.not_mem_nil, or_false]; omega); replace B_h := B_h.drew.chg hx (by simp only [List.mem_cons, List.not_mem_nil, or_false]; omega); replace o_h := (o_h.drew_).chg hx (fun b hb hm => by simp only [List.mem_cons, List.not_mem_nil, or_false] at hm; have := l_h b hb; have := u_h b hb; omega); replace hC := Chg.trans hC.drew_ hx; replace hc := hcn; have sz := sz_drew hx.size; replace sC := hC.size; clear hx; replace q_r_0 := B_r.cell 0 _ rfl; replace q_r_1 := B_r.cell 1 _ rfl; replace fr_r := B_r.fro; replace z_r := B_r.lt; replace q_h_0 := B_h.cell 0 _ rfl; replace q_h_1 := B_h.cell 1 _ rfl; replace fr_h := B_h.fro; replace z_h := B_h.lt; obtain ⟨b, rfl⟩ := Int.eq_ofNat_of_zero_le b0; have hb12 : b < 12 := (by omega); obtain ⟨ix, hix⟩ : ∃ ix : Nat, ix = a * 64 + b := ⟨_, rfl⟩; have hixl : ix < x.Bytes.length := (by omega); have hixl2 : (ix : Int) < (x.Bytes.length : Int) := (by omega); have hw2 : IntKind.i64.wrap ((a : Int) * 64 + (b : Int)) = (ix : Int) := (by rw [IntKind.wrap_i64]; omega); have HIX := Hid.mk_ hix; clear hix; have p0 := OwL.cellI o_h.Bytes (List.getElem?_eq_getElem (show ix < x.Bytes.length by omega)); have pf := o_h.Bytes.frozen_ ix))) | (go_at_call 63; (first | ((with_reducible refine (l1Below_ct _ g code 9 (by unfold I64; omega) hc).mono ?_); rintro e wq ⟨y, rfl, y0, y1, hcn, hx⟩; replace B_r := B_r.chg hx (by simp only [List.mem_cons, List.not_mem_nil, or_false]; omega); replace B_h := B_h.chg hx (by simp only [List.mem_cons, List.not_mem_nil, or_false]; omega); replace o_h := o_h.chg hx (fun b hb hm => by simp only [List.mem_cons, List.not_mem_nil, or_false] at hm; have := l_h b hb; have := u_h b hb; omega); replace hC := Chg.trans hC hx; replace hc := hcn; have sz := hx.size; replace sC := hC.size; clear hx; replace q_r_0 := B_r.cell 0 _ rfl; replace q_r_1 := B_r.cell 1 _ rfl; replace fr_r := B_r.fro; replace z_r := B_r.lt; replace q_h_0 := B_h.cell 0 _ rfl; replace q_h_1 := B_h.cell 1 _ rfl; replace fr_h := B_h.fro; replace z_h := B_h.lt; have p0 := OwL.cellI o_h.Bytes (List.getElem?_eq_getElem (show ix < x.Bytes.length by omega)); have pf := o_h.Bytes.frozen_ ix) | ((with_reducible refine (l1Below_ct _ g code 9 (by unfold I64; omega) (hc.drew_)).mono ?_); rintro e wq ⟨y, rfl, y0, y1, hcn, hx⟩; replace B_r := B_r.drew.chg hx (by simp only [List.mem_cons, List.not_mem_nil, or_false]; omega); replace B_h := B_h.drew.chg hx (by simp only [List.mem_cons, List.not_mem_nil, or_false]; omega); replace o_h := (o_h.drew_).chg hx (fun b hb hm => by simp only [List.mem_cons, List.not_mem_nil, or_false] at hm; have := l_h b hb; have := u_h b hb; omega); replace hC := Chg.trans hC.drew_ hx; replace hc := hcn; have sz := sz_drew hx.size; replace sC := hC.size; clear hx; replace q_r_0 := B_r.cell 0 _ rfl; replace q_r_1 := B_r.cell 1 _ rfl; replace fr_r := B_r.fro; replace z_r := B_r.lt; replace q_h_0 := B_h.cell 0 _ rfl; replace q_h_1 := B_h.cell 1 _ rfl; replace fr_h := B_h.fro; replace z_h := B_h.lt; have p0 := OwL.cellI o_h.Bytes (List.getElem?_eq_getElem (show ix < x.Bytes.length by omega)); have pf := o_h.Bytes.frozen_ ix))))
    all_goals
      go_wp2_with fail
      refine bodyPost_ret (v := .agg #[.slice (some ⟨gB, 0, none⟩) x.Bytes.length pB, .slice (some ⟨gC, 0, none⟩) x.Class.length pC]) (by simp [results, Tryz.results138, go_sem, q_r_0, q_r_1]) rfl ⟨⟨⟨some ⟨gB, 0, none⟩, x.Bytes.length, pB⟩, ⟨some ⟨gC, 0, none⟩, x.Class.length, pC⟩⟩, { x with Bytes := x.Bytes.set ix y }, rfl, (o_h.setB hixl y).chg (F := [w.heap.size]) (by repeat (first | with_reducible exact Chg.refl _ _ | with_reducible refine Chg.set_ ?_ (by simp) _ | with_reducible refine Chg.alloc_ ?_ _ | with_reducible refine Chg.drew_ ?_)) (fun b hb hm => by simp only [List.mem_cons, List.not_mem_nil, or_false] at hm; have := l_h b hb; have := u_h b hb; omega), by unfold sizeHeap; simp only [List.length_set]; omega, fun b hb => by have := l_h b hb; omega, hc.keepB (B := w.heap.size) hgl (by repeat (first | with_reducible exact Below.refl _ _ | with_reducible refine Below.setCell ?_ (by simp <;> omega) _ | with_reducible refine Below.alloc ?_ (by simp <;> omega) _ | with_reducible refine Below.drew ?_)) hC.size, hC.then_ (by repeat (first | with_reducible exact Below.refl _ _ | with_reducible refine Below.setCell ?_ (by simp <;> omega) _ | with_reducible refine Below.alloc ?_ (by simp <;> omega) _ | with_reducible refine Below.drew ?_))⟩
  have e4' : (k == 4) = false := by simpa using e4
  clear e0 e1 e2 e3 e4
  go_wp2_with fail
  refine bodyPost_ret (v := .agg #[.slice (some ⟨gB, 0, none⟩) x.Bytes.length pB, .slice (some ⟨gC, 0, none⟩) x.Class.length pC]) (by simp [results, Tryz.results138, go_sem, q_r_0, q_r_1]) rfl ⟨⟨⟨some ⟨gB, 0, none⟩, x.Bytes.length, pB⟩, ⟨some ⟨gC, 0, none⟩, x.Class.length, pC⟩⟩, x, rfl, o_h.chg (F := [w.heap.size]) (by repeat (first | with_reducible exact Chg.refl _ _ | with_reducible refine Chg.set_ ?_ (by simp) _ | with_reducible refine Chg.alloc_ ?_ _ | with_reducible refine Chg.drew_ ?_)) (fun b hb hm => by simp only [List.mem_cons, List.not_mem_nil, or_false] at hm; have := l_h b hb; have := u_h b hb; omega), by unfold sizeHeap; omega, fun b hb => by have := l_h b hb; omega, hc.keepB (B := w.heap.size) hgl (by repeat (first | with_reducible exact Below.refl _ _ | with_reducible refine Below.setCell ?_ (by simp <;> omega) _ | with_reducible refine Below.alloc ?_ (by simp <;> omega) _ | with_reducible refine Below.drew ?_)) hC.size, hC.then_ (by repeat (first | with_reducible exact Below.refl _ _ | with_reducible refine Below.setCell ?_ (by simp <;> omega) _ | with_reducible refine Below.alloc ?_ (by simp <;> omega) _ | with_reducible refine Below.drew ?_))⟩
end Go.Proofs.YtkmggglljkmjoaaGreat

/-
  Give: the reference.
-/
namespace Go.Proofs.YtkmggglljkmjoaaGreat
open Go.RowKit

theorem szLL_app {ll : List (List Int)} (k : Nat) (s : Int) : szLL (ll.set k (ll.getD k [] ++ [s])) ≤ szLL ll + 1 ∧ (ll.set k (ll.getD k [] ++ [s])).length = ll.length := by
  refine ⟨?_, List.length_set⟩
  by_cases hk : k < ll.length
  · have hl : ll[k]? = some ll[k] := List.getElem?_eq_getElem hk
    have e : ll.getD k [] = ll[k] := by rw [List.getD_eq_getElem?_getD, hl]; rfl
    rw [e]
    have hp := (permSet [s] hl).length_eq
    rw [List.length_append, List.length_flatten, List.length_flatten] at hp
    unfold szLL
    rw [List.length_set, hp]
    simp
    omega
  · rw [List.set_eq_of_length_le (by omega)]
    omega
theorem giveL_sz (x : Lists) (k c : Nat) (s : Int) : sizeLists (giveL x k c s) ≤ sizeLists x + 1 ∧ (giveL x k c s).Global.length = x.Global.length ∧ (giveL x k c s).Own.length = x.Own.length := by
  unfold giveL
  split
  · have h := szLL_app (ll := x.Own) k s
    exact ⟨by unfold sizeLists; simp only; omega, rfl, h.2⟩
  · have h := szLL_app (ll := x.Global) c s
    exact ⟨by unfold sizeLists; simp only; omega, h.2, rfl⟩

set_option maxRecDepth 100000 in
set_option maxHeartbeats 4000000 in
theorem Give_spec (w : World) (H : HLists) (x : Lists) (wk c : Nat) (s : Int) (h : RdLists w w.heap.size H x) (hs : sizeLists x ≤ 536870912) (hw : wk < 3) (hc : c < 3) (hsl : inB 0 23 s = true) :
    Calls Tryz.prog 225 #[.agg #[.slice H.Global.a H.Global.len H.Global.cap, .slice H.Own.a H.Own.len H.Own.cap], .int .i64 wk, .int .i64 c, .int .i64 s] w fun e w' => ∃ (H' : HLists) (y : Lists) (b : Bool), e = .returned (.tuple #[.agg #[.slice H'.Global.a H'.Global.len H'.Global.cap, .slice H'.Own.a H'.Own.len H'.Own.cap], .bool b]) ∧ OwLists w' H' y ∧ (sizeLists y ≤ sizeLists x + 1 ∧ y.Global.length = x.Global.length ∧ y.Own.length = x.Own.length) ∧ (∀ g ∈ H'.foot, w.heap.size ≤ g) ∧ Below w.heap.size w w' := by
  have hcp := fun (W : World) (hW : Below w.heap.size w W) => l8Copy_spec W H x (rdLists_up h hW) hs
  have hlo := fun (W : World) (hW : Below w.heap.size w W) => ListsOk_spec W H x (rdLists_up h hW) (by unfold sizeLists at hs; omega) (by unfold sizeLists at hs; omega)
  have hla := fun (W : World) (hW : Below w.heap.size w W) => l8All_ct W H x (rdLists_up h hW) (by unfold sizeLists at hs; omega) (by unfold sizeLists at hs; omega)
  by_cases c1 : listsOkB x = true
  case neg =>
    have c1' := (Bool.not_eq_true _).mp c1
    rw [c1'] at hlo
    clear c1 c1' hla
    have B_a : Box ((w.alloc (.cells #[.slice H.Global.a H.Global.len H.Global.cap, .slice H.Own.a H.Own.len H.Own.cap] 29)).alloc (.cells #[.slice none 0 0, .slice none 0 0] 29)) (w.heap.size) [.slice H.Global.a H.Global.len H.Global.cap, .slice H.Own.a H.Own.len H.Own.cap] := by
      have hbx := Box.new w #[.slice H.Global.a H.Global.len H.Global.cap, .slice H.Own.a H.Own.len H.Own.cap] 29
      exact (hbx).alloc _
    have B_r : Box ((w.alloc (.cells #[.slice H.Global.a H.Global.len H.Global.cap, .slice H.Own.a H.Own.len H.Own.cap] 29)).alloc (.cells #[.slice none 0 0, .slice none 0 0] 29)) (w.heap.size + 1) [.slice none 0 0, .slice none 0 0] := by
      have hbx := Box.new (w.alloc (.cells #[.slice H.Global.a H.Global.len H.Global.cap, .slice H.Own.a H.Own.len H.Own.cap] 29)) #[.slice none 0 0, .slice none 0 0] 29
      simp only [World.size_alloc] at hbx
      exact hbx
    have hB : Below w.heap.size w ((w.alloc (.cells #[.slice H.Global.a H.Global.len H.Global.cap, .slice H.Own.a H.Own.len H.Own.cap] 29)).alloc (.cells #[.slice none 0 0, .slice none 0 0] 29)) := by repeat (first | exact Below.refl _ _ | refine Below.alloc ?_ (by simp <;> omega) _ | refine below_grow_of ?_ (by simp <;> omega) _ _ | refine Below.drew ?_ | refine below_drewN ?_ _)
    go_enter Tryz.func225, Tryz.ntmps225
    go_wp2_with fail
    generalize hW0 : ((w.alloc (.cells #[.slice H.Global.a H.Global.len H.Global.cap, .slice H.Own.a H.Own.len H.Own.cap] 29)).alloc (.cells #[.slice none 0 0, .slice none 0 0] 29)) = w0 at B_a B_r hB ⊢
    clear hW0
    have zz_a := B_a.lt
    have zz_r := B_r.lt
    have q_a_0 := B_a.cell 0 _ rfl
    have q_a_1 := B_a.cell 1 _ rfl
    have fr_a := B_a.fro
    have z_a := B_a.lt
    have q_r_0 := B_r.cell 0 _ rfl
    have q_r_1 := B_r.cell 1 _ rfl
    have fr_r := B_r.fro
    have z_r := B_r.lt
    refine (hcp _ hB).mono ?_
    rintro e w1 ⟨K_c, rfl, o_c, l_c, hb⟩
    have u_c := o_c.lt
    replace B_a := B_a.below hb
    replace B_r := B_r.below hb
    replace hB := hB.trans (hb.mono hB.size)
    have sz := hb.size
    clear hb
    replace q_a_0 := B_a.cell 0 _ rfl
    replace q_a_1 := B_a.cell 1 _ rfl
    replace fr_a := B_a.fro
    replace z_a := B_a.lt
    replace q_r_0 := B_r.cell 0 _ rfl
    replace q_r_1 := B_r.cell 1 _ rfl
    replace fr_r := B_r.fro
    replace z_r := B_r.lt
    clear hcp
    go_wp2_with fail
    replace B_a := B_a.alloc (.cells #[.slice K_c.Global.a K_c.Global.len K_c.Global.cap, .slice K_c.Own.a K_c.Own.len K_c.Own.cap] 29)
    replace B_r := B_r.alloc (.cells #[.slice K_c.Global.a K_c.Global.len K_c.Global.cap, .slice K_c.Own.a K_c.Own.len K_c.Own.cap] 29)
    replace o_c := o_c.alloc_ (.cells #[.slice K_c.Global.a K_c.Global.len K_c.Global.cap, .slice K_c.Own.a K_c.Own.len K_c.Own.cap] 29)
    replace hB := hB.alloc hB.size (.cells #[.slice K_c.Global.a K_c.Global.len K_c.Global.cap, .slice K_c.Own.a K_c.Own.len K_c.Own.cap] 29)
    have B_o : Box (w1.alloc (.cells #[.slice K_c.Global.a K_c.Global.len K_c.Global.cap, .slice K_c.Own.a K_c.Own.len K_c.Own.cap] 29)) w1.heap.size [.slice K_c.Global.a K_c.Global.len K_c.Global.cap, .slice K_c.Own.a K_c.Own.len K_c.Own.cap] := Box.new w1 #[.slice K_c.Global.a K_c.Global.len K_c.Global.cap, .slice K_c.Own.a K_c.Own.len K_c.Own.cap] 29
    have zz_o := B_o.lt
    have sz : w1.heap.size ≤ (w1.alloc (.cells #[.slice K_c.Global.a K_c.Global.len K_c.Global.cap, .slice K_c.Own.a K_c.Own.len K_c.Own.cap] 29)).heap.size := Nat.le_of_lt B_o.lt
    generalize hG : (w1.alloc (.cells #[.slice K_c.Global.a K_c.Global.len K_c.Global.cap, .slice K_c.Own.a K_c.Own.len K_c.Own.cap] 29)) = w2 at B_a B_r o_c hB B_o zz_o sz ⊢
    clear hG
    replace q_a_0 := B_a.cell 0 _ rfl
    replace q_a_1 := B_a.cell 1 _ rfl
    replace fr_a := B_a.fro
    replace z_a := B_a.lt
    replace q_r_0 := B_r.cell 0 _ rfl
    replace q_r_1 := B_r.cell 1 _ rfl
    replace fr_r := B_r.fro
    replace z_r := B_r.lt
    have q_o_0 := B_o.cell 0 _ rfl
    have q_o_1 := B_o.cell 1 _ rfl
    have fr_o := B_o.fro
    have z_o := B_o.lt
    refine (hlo _ hB).mono ?_
    rintro e w3 ⟨rfl, hb⟩
    replace B_a := B_a.below hb
    replace B_r := B_r.below hb
    replace B_o := B_o.below hb
    have o_c := o_c.step0 hb
    replace hB := hB.trans (hb.mono hB.size)
    have sz := hb.size
    clear hb
    replace q_a_0 := B_a.cell 0 _ rfl
    replace q_a_1 := B_a.cell 1 _ rfl
    replace fr_a := B_a.fro
    replace z_a := B_a.lt
    replace q_r_0 := B_r.cell 0 _ rfl
    replace q_r_1 := B_r.cell 1 _ rfl
    replace fr_r := B_r.fro
    replace z_r := B_r.lt
    replace q_o_0 := B_o.cell 0 _ rfl
    replace q_o_1 := B_o.cell 1 _ rfl
    replace fr_o := B_o.fro
    replace z_o := B_o.lt
    clear hlo
    go_wp2_with fail
    refine bodyPost_ret (v := .tuple #[.agg #[.slice K_c.Global.a K_c.Global.len K_c.Global.cap, .slice K_c.Own.a K_c.Own.len K_c.Own.cap], .bool false]) (by simp [results, Tryz.results225, go_sem, q_r_0, q_r_1]) rfl ⟨K_c, x, false, rfl, o_c.chg (F := [w.heap.size + 1]) (by repeat (first | with_reducible exact Chg.refl _ _ | with_reducible refine Chg.set_ ?_ (by simp) _ | with_reducible refine Chg.alloc_ ?_ _ | with_reducible refine Chg.drew_ ?_)) (fun g hg hm => by simp only [List.mem_cons, List.not_mem_nil, or_false] at hm; have := l_c g hg; have := u_c g hg; omega), ⟨Nat.le_succ _, rfl, rfl⟩, fun g hg => by have := l_c g hg; omega, Below.trans hB (by repeat (first | with_reducible exact Below.refl _ _ | with_reducible refine Below.setCell ?_ (by simp <;> omega) _ | with_reducible refine Below.alloc ?_ (by simp <;> omega) _ | with_reducible refine Below.drew ?_))⟩
  rw [c1] at hlo
  have hll := lists_len c1
  have hgv := fun (W : World) (K : HLists) (oK : OwLists W K x) => l8Give_spec W K x wk c s oK hs hll hw hc
  have HSZ := Hid.mk_ (giveL_sz x (wk * 3 + c) c s)
  clear hll c1
  generalize giveL x (wk * 3 + c) c s = y at hgv HSZ
  by_cases c2 : ((allL x).any fun y => y == s) = true
  case pos =>
    clear hgv
    have B_a : Box ((w.alloc (.cells #[.slice H.Global.a H.Global.len H.Global.cap, .slice H.Own.a H.Own.len H.Own.cap] 29)).alloc (.cells #[.slice none 0 0, .slice none 0 0] 29)) (w.heap.size) [.slice H.Global.a H.Global.len H.Global.cap, .slice H.Own.a H.Own.len H.Own.cap] := by
      have hbx := Box.new w #[.slice H.Global.a H.Global.len H.Global.cap, .slice H.Own.a H.Own.len H.Own.cap] 29
      exact (hbx).alloc _
    have B_r : Box ((w.alloc (.cells #[.slice H.Global.a H.Global.len H.Global.cap, .slice H.Own.a H.Own.len H.Own.cap] 29)).alloc (.cells #[.slice none 0 0, .slice none 0 0] 29)) (w.heap.size + 1) [.slice none 0 0, .slice none 0 0] := by
      have hbx := Box.new (w.alloc (.cells #[.slice H.Global.a H.Global.len H.Global.cap, .slice H.Own.a H.Own.len H.Own.cap] 29)) #[.slice none 0 0, .slice none 0 0] 29
      simp only [World.size_alloc] at hbx
      exact hbx
    have hB : Below w.heap.size w ((w.alloc (.cells #[.slice H.Global.a H.Global.len H.Global.cap, .slice H.Own.a H.Own.len H.Own.cap] 29)).alloc (.cells #[.slice none 0 0, .slice none 0 0] 29)) := by repeat (first | exact Below.refl _ _ | refine Below.alloc ?_ (by simp <;> omega) _ | refine below_grow_of ?_ (by simp <;> omega) _ _ | refine Below.drew ?_ | refine below_drewN ?_ _)
    go_enter Tryz.func225, Tryz.ntmps225
    go_wp2_with fail
    generalize hW0 : ((w.alloc (.cells #[.slice H.Global.a H.Global.len H.Global.cap, .slice H.Own.a H.Own.len H.Own.cap] 29)).alloc (.cells #[.slice none 0 0, .slice none 0 0] 29)) = w0 at B_a B_r hB ⊢
    clear hW0
    have zz_a := B_a.lt
    have zz_r := B_r.lt
    have q_a_0 := B_a.cell 0 _ rfl
    have q_a_1 := B_a.cell 1 _ rfl
    have fr_a := B_a.fro
    have z_a := B_a.lt
    have q_r_0 := B_r.cell 0 _ rfl
    have q_r_1 := B_r.cell 1 _ rfl
    have fr_r := B_r.fro
    have z_r := B_r.lt
    refine (hcp _ hB).mono ?_
    rintro e w1 ⟨K_c, rfl, o_c, l_c, hb⟩
    have u_c := o_c.lt
    replace B_a := B_a.below hb
    replace B_r := B_r.below hb
    replace hB := hB.trans (hb.mono hB.size)
    have sz := hb.size
    clear hb
    replace q_a_0 := B_a.cell 0 _ rfl
    replace q_a_1 := B_a.cell 1 _ rfl
    replace fr_a := B_a.fro
    replace z_a := B_a.lt
    replace q_r_0 := B_r.cell 0 _ rfl
    replace q_r_1 := B_r.cell 1 _ rfl
    replace fr_r := B_r.fro
    replace z_r := B_r.lt
    clear hcp
    go_wp2_with fail
    replace B_a := B_a.alloc (.cells #[.slice K_c.Global.a K_c.Global.len K_c.Global.cap, .slice K_c.Own.a K_c.Own.len K_c.Own.cap] 29)
    replace B_r := B_r.alloc (.cells #[.slice K_c.Global.a K_c.Global.len K_c.Global.cap, .slice K_c.Own.a K_c.Own.len K_c.Own.cap] 29)
    replace o_c := o_c.alloc_ (.cells #[.slice K_c.Global.a K_c.Global.len K_c.Global.cap, .slice K_c.Own.a K_c.Own.len K_c.Own.cap] 29)
    replace hB := hB.alloc hB.size (.cells #[.slice K_c.Global.a K_c.Global.len K_c.Global.cap, .slice K_c.Own.a K_c.Own.len K_c.Own.cap] 29)
    have B_o : Box (w1.alloc (.cells #[.slice K_c.Global.a K_c.Global.len K_c.Global.cap, .slice K_c.Own.a K_c.Own.len K_c.Own.cap] 29)) w1.heap.size [.slice K_c.Global.a K_c.Global.len K_c.Global.cap, .slice K_c.Own.a K_c.Own.len K_c.Own.cap] := Box.new w1 #[.slice K_c.Global.a K_c.Global.len K_c.Global.cap, .slice K_c.Own.a K_c.Own.len K_c.Own.cap] 29
    have zz_o := B_o.lt
    have sz : w1.heap.size ≤ (w1.alloc (.cells #[.slice K_c.Global.a K_c.Global.len K_c.Global.cap, .slice K_c.Own.a K_c.Own.len K_c.Own.cap] 29)).heap.size := Nat.le_of_lt B_o.lt
    generalize hG : (w1.alloc (.cells #[.slice K_c.Global.a K_c.Global.len K_c.Global.cap, .slice K_c.Own.a K_c.Own.len K_c.Own.cap] 29)) = w2 at B_a B_r o_c hB B_o zz_o sz ⊢
    clear hG
    replace q_a_0 := B_a.cell 0 _ rfl
    replace q_a_1 := B_a.cell 1 _ rfl
    replace fr_a := B_a.fro
    replace z_a := B_a.lt
    replace q_r_0 := B_r.cell 0 _ rfl
    replace q_r_1 := B_r.cell 1 _ rfl
    replace fr_r := B_r.fro
    replace z_r := B_r.lt
    have q_o_0 := B_o.cell 0 _ rfl
    have q_o_1 := B_o.cell 1 _ rfl
    have fr_o := B_o.fro
    have z_o := B_o.lt
    refine (hlo _ hB).mono ?_
    rintro e w3 ⟨rfl, hb⟩
    replace B_a := B_a.below hb
    replace B_r := B_r.below hb
    replace B_o := B_o.below hb
    have o_c := o_c.step0 hb
    replace hB := hB.trans (hb.mono hB.size)
    have sz := hb.size
    clear hb
    replace q_a_0 := B_a.cell 0 _ rfl
    replace q_a_1 := B_a.cell 1 _ rfl
    replace fr_a := B_a.fro
    replace z_a := B_a.lt
    replace q_r_0 := B_r.cell 0 _ rfl
    replace q_r_1 := B_r.cell 1 _ rfl
    replace fr_r := B_r.fro
    replace z_r := B_r.lt
    replace q_o_0 := B_o.cell 0 _ rfl
    replace q_o_1 := B_o.cell 1 _ rfl
    replace fr_o := B_o.fro
    replace z_o := B_o.lt
    clear hlo
    go_wp2_with (first | (go_at_call 75; refine (OwnAt_spec wk c hw hc _).mono ?_; rintro e wv ⟨rfl, rfl⟩) | (go_at_call 102; refine (l1In_ct _ _ _ _).mono ?_; rw [hsl]; rintro e wv ⟨rfl, rfl⟩))
    refine (hla _ hB).mono ?_
    rintro e w4 ⟨v_z, rfl, o_z, l_z, hb⟩
    have u_z := foot_lt o_z
    replace B_a := B_a.below hb
    replace B_r := B_r.below hb
    replace B_o := B_o.below hb
    replace o_c := o_c.step0 hb
    replace hB := hB.trans (hb.mono hB.size)
    have sz := hb.size
    clear hb
    replace q_a_0 := B_a.cell 0 _ rfl
    replace q_a_1 := B_a.cell 1 _ rfl
    replace fr_a := B_a.fro
    replace z_a := B_a.lt
    replace q_r_0 := B_r.cell 0 _ rfl
    replace q_r_1 := B_r.cell 1 _ rfl
    replace fr_r := B_r.fro
    replace z_r := B_r.lt
    replace q_o_0 := B_o.cell 0 _ rfl
    replace q_o_1 := B_o.cell 1 _ rfl
    replace fr_o := B_o.fro
    replace z_o := B_o.lt
    clear hla
    go_wp2_with fail
    refine (l8Has_ct _ v_z (allL x) s o_z.rd').mono ?_
    rw [c2]
    rintro e w5 ⟨rfl, hb⟩
    replace B_a := B_a.below hb
    replace B_r := B_r.below hb
    replace B_o := B_o.below hb
    replace o_c := o_c.step0 hb
    have o_z := o_z.step0 hb
    replace hB := hB.trans (hb.mono hB.size)
    have sz := hb.size
    clear hb
    replace q_a_0 := B_a.cell 0 _ rfl
    replace q_a_1 := B_a.cell 1 _ rfl
    replace fr_a := B_a.fro
    replace z_a := B_a.lt
    replace q_r_0 := B_r.cell 0 _ rfl
    replace q_r_1 := B_r.cell 1 _ rfl
    replace fr_r := B_r.fro
    replace z_r := B_r.lt
    replace q_o_0 := B_o.cell 0 _ rfl
    replace q_o_1 := B_o.cell 1 _ rfl
    replace fr_o := B_o.fro
    replace z_o := B_o.lt
    go_wp2_with fail
    refine bodyPost_ret (v := .tuple #[.agg #[.slice K_c.Global.a K_c.Global.len K_c.Global.cap, .slice K_c.Own.a K_c.Own.len K_c.Own.cap], .bool false]) (by simp [results, Tryz.results225, go_sem, q_r_0, q_r_1]) rfl ⟨K_c, x, false, rfl, o_c.chg (F := [w.heap.size + 1]) (by repeat (first | with_reducible exact Chg.refl _ _ | with_reducible refine Chg.set_ ?_ (by simp) _ | with_reducible refine Chg.alloc_ ?_ _ | with_reducible refine Chg.drew_ ?_)) (fun g hg hm => by simp only [List.mem_cons, List.not_mem_nil, or_false] at hm; have := l_c g hg; have := u_c g hg; omega), ⟨Nat.le_succ _, rfl, rfl⟩, fun g hg => by have := l_c g hg; omega, Below.trans hB (by repeat (first | with_reducible exact Below.refl _ _ | with_reducible refine Below.setCell ?_ (by simp <;> omega) _ | with_reducible refine Below.alloc ?_ (by simp <;> omega) _ | with_reducible refine Below.drew ?_))⟩
  have c2' := (Bool.not_eq_true _).mp c2
  clear c2
  have B_a : Box ((w.alloc (.cells #[.slice H.Global.a H.Global.len H.Global.cap, .slice H.Own.a H.Own.len H.Own.cap] 29)).alloc (.cells #[.slice none 0 0, .slice none 0 0] 29)) (w.heap.size) [.slice H.Global.a H.Global.len H.Global.cap, .slice H.Own.a H.Own.len H.Own.cap] := by
    have hbx := Box.new w #[.slice H.Global.a H.Global.len H.Global.cap, .slice H.Own.a H.Own.len H.Own.cap] 29
    exact (hbx).alloc _
  have B_r : Box ((w.alloc (.cells #[.slice H.Global.a H.Global.len H.Global.cap, .slice H.Own.a H.Own.len H.Own.cap] 29)).alloc (.cells #[.slice none 0 0, .slice none 0 0] 29)) (w.heap.size + 1) [.slice none 0 0, .slice none 0 0] := by
    have hbx := Box.new (w.alloc (.cells #[.slice H.Global.a H.Global.len H.Global.cap, .slice H.Own.a H.Own.len H.Own.cap] 29)) #[.slice none 0 0, .slice none 0 0] 29
    simp only [World.size_alloc] at hbx
    exact hbx
  have hB : Below w.heap.size w ((w.alloc (.cells #[.slice H.Global.a H.Global.len H.Global.cap, .slice H.Own.a H.Own.len H.Own.cap] 29)).alloc (.cells #[.slice none 0 0, .slice none 0 0] 29)) := by repeat (first | exact Below.refl _ _ | refine Below.alloc ?_ (by simp <;> omega) _ | refine below_grow_of ?_ (by simp <;> omega) _ _ | refine Below.drew ?_ | refine below_drewN ?_ _)
  go_enter Tryz.func225, Tryz.ntmps225
  go_wp2_with fail
  generalize hW0 : ((w.alloc (.cells #[.slice H.Global.a H.Global.len H.Global.cap, .slice H.Own.a H.Own.len H.Own.cap] 29)).alloc (.cells #[.slice none 0 0, .slice none 0 0] 29)) = w0 at B_a B_r hB ⊢
  clear hW0
  have zz_a := B_a.lt
  have zz_r := B_r.lt
  have q_a_0 := B_a.cell 0 _ rfl
  have q_a_1 := B_a.cell 1 _ rfl
  have fr_a := B_a.fro
  have z_a := B_a.lt
  have q_r_0 := B_r.cell 0 _ rfl
  have q_r_1 := B_r.cell 1 _ rfl
  have fr_r := B_r.fro
  have z_r := B_r.lt
  refine (hcp _ hB).mono ?_
  rintro e w1 ⟨K_c, rfl, o_c, l_c, hb⟩
  have u_c := o_c.lt
  replace B_a := B_a.below hb
  replace B_r := B_r.below hb
  replace hB := hB.trans (hb.mono hB.size)
  have sz := hb.size
  clear hb
  replace q_a_0 := B_a.cell 0 _ rfl
  replace q_a_1 := B_a.cell 1 _ rfl
  replace fr_a := B_a.fro
  replace z_a := B_a.lt
  replace q_r_0 := B_r.cell 0 _ rfl
  replace q_r_1 := B_r.cell 1 _ rfl
  replace fr_r := B_r.fro
  replace z_r := B_r.lt
  clear hcp
  go_wp2_with fail
  replace B_a := B_a.alloc (.cells #[.slice K_c.Global.a K_c.Global.len K_c.Global.cap, .slice K_c.Own.a K_c.Own.len K_c.Own.cap] 29)
  replace B_r := B_r.alloc (.cells #[.slice K_c.Global.a K_c.Global.len K_c.Global.cap, .slice K_c.Own.a K_c.Own.len K_c.Own.cap] 29)
  replace o_c := o_c.alloc_ (.cells #[.slice K_c.Global.a K_c.Global.len K_c.Global.cap, .slice K_c.Own.a K_c.Own.len K_c.Own.cap] 29)
  replace hB := hB.alloc hB.size (.cells #[.slice K_c.Global.a K_c.Global.len K_c.Global.cap, .slice K_c.Own.a K_c.Own.len K_c.Own.cap] 29)
  have B_o : Box (w1.alloc (.cells #[.slice K_c.Global.a K_c.Global.len K_c.Global.cap, .slice K_c.Own.a K_c.Own.len K_c.Own.cap] 29)) w1.heap.size [.slice K_c.Global.a K_c.Global.len K_c.Global.cap, .slice K_c.Own.a K_c.Own.len K_c.Own.cap] := Box.new w1 #[.slice K_c.Global.a K_c.Global.len K_c.Global.cap, .slice K_c.Own.a K_c.Own.len K_c.Own.cap] 29
  have zz_o := B_o.lt
  have sz : w1.heap.size ≤ (w1.alloc (.cells #[.slice K_c.Global.a K_c.Global.len K_c.Global.cap, .slice K_c.Own.a K_c.Own.len K_c.Own.cap] 29)).heap.size := Nat.le_of_lt B_o.lt
  generalize hG : (w1.alloc (.cells #[.slice K_c.Global.a K_c.Global.len K_c.Global.cap, .slice K_c.Own.a K_c.Own.len K_c.Own.cap] 29)) = w2 at B_a B_r o_c hB B_o zz_o sz ⊢
  clear hG
  replace q_a_0 := B_a.cell 0 _ rfl
  replace q_a_1 := B_a.cell 1 _ rfl
  replace fr_a := B_a.fro
  replace z_a := B_a.lt
  replace q_r_0 := B_r.cell 0 _ rfl
  replace q_r_1 := B_r.cell 1 _ rfl
  replace fr_r := B_r.fro
  replace z_r := B_r.lt
  have q_o_0 := B_o.cell 0 _ rfl
  have q_o_1 := B_o.cell 1 _ rfl
  have fr_o := B_o.fro
  have z_o := B_o.lt
  refine (hlo _ hB).mono ?_
  rintro e w3 ⟨rfl, hb⟩
  replace B_a := B_a.below hb
  replace B_r := B_r.below hb
  replace B_o := B_o.below hb
  have o_c := o_c.step0 hb
  replace hB := hB.trans (hb.mono hB.size)
  have sz := hb.size
  clear hb
  replace q_a_0 := B_a.cell 0 _ rfl
  replace q_a_1 := B_a.cell 1 _ rfl
  replace fr_a := B_a.fro
  replace z_a := B_a.lt
  replace q_r_0 := B_r.cell 0 _ rfl
  replace q_r_1 := B_r.cell 1 _ rfl
  replace fr_r := B_r.fro
  replace z_r := B_r.lt
  replace q_o_0 := B_o.cell 0 _ rfl
  replace q_o_1 := B_o.cell 1 _ rfl
  replace fr_o := B_o.fro
  replace z_o := B_o.lt
  clear hlo
  go_wp2_with (first | (go_at_call 75; refine (OwnAt_spec wk c hw hc _).mono ?_; rintro e wv ⟨rfl, rfl⟩) | (go_at_call 102; refine (l1In_ct _ _ _ _).mono ?_; rw [hsl]; rintro e wv ⟨rfl, rfl⟩))
  refine (hla _ hB).mono ?_
  rintro e w4 ⟨v_z, rfl, o_z, l_z, hb⟩
  have u_z := foot_lt o_z
  replace B_a := B_a.below hb
  replace B_r := B_r.below hb
  replace B_o := B_o.below hb
  replace o_c := o_c.step0 hb
  replace hB := hB.trans (hb.mono hB.size)
  have sz := hb.size
  clear hb
  replace q_a_0 := B_a.cell 0 _ rfl
  replace q_a_1 := B_a.cell 1 _ rfl
  replace fr_a := B_a.fro
  replace z_a := B_a.lt
  replace q_r_0 := B_r.cell 0 _ rfl
  replace q_r_1 := B_r.cell 1 _ rfl
  replace fr_r := B_r.fro
  replace z_r := B_r.lt
  replace q_o_0 := B_o.cell 0 _ rfl
  replace q_o_1 := B_o.cell 1 _ rfl
  replace fr_o := B_o.fro
  replace z_o := B_o.lt
  clear hla
  go_wp2_with fail
  refine (l8Has_ct _ v_z (allL x) s o_z.rd').mono ?_
  rw [c2']
  rintro e w5 ⟨rfl, hb⟩
  replace B_a := B_a.below hb
  replace B_r := B_r.below hb
  replace B_o := B_o.below hb
  replace o_c := o_c.step0 hb
  have o_z := o_z.step0 hb
  replace hB := hB.trans (hb.mono hB.size)
  have sz := hb.size
  clear hb
  replace q_a_0 := B_a.cell 0 _ rfl
  replace q_a_1 := B_a.cell 1 _ rfl
  replace fr_a := B_a.fro
  replace z_a := B_a.lt
  replace q_r_0 := B_r.cell 0 _ rfl
  replace q_r_1 := B_r.cell 1 _ rfl
  replace fr_r := B_r.fro
  replace z_r := B_r.lt
  replace q_o_0 := B_o.cell 0 _ rfl
  replace q_o_1 := B_o.cell 1 _ rfl
  replace fr_o := B_o.fro
  replace z_o := B_o.lt
  go_wp2_with fail
  refine (hgv _ K_c o_c).mono ?_
  rintro e w6 ⟨K_n, rfl, o_n, f_n, hx⟩
  clear hgv
  clear o_z
  replace hB := hB.trans (hx.below hB.size (fun b hb => by have := l_c b hb; omega))
  have sz := hx.size
  replace B_a := B_a.chg hx (fun hm => by have := l_c _ hm; have := u_c _ hm; omega)
  replace B_r := B_r.chg hx (fun hm => by have := l_c _ hm; have := u_c _ hm; omega)
  replace B_o := B_o.chg hx (fun hm => by have := l_c _ hm; have := u_c _ hm; omega)
  have l_n : ∀ b ∈ K_n.foot, w0.heap.size ≤ b := fun b hb => by rcases f_n b hb with hh | hh; (exact l_c b hh); omega
  have n_n : ∀ b ∈ K_n.foot, ¬ b = w1.heap.size := fun b hb => by rcases f_n b hb with hh | hh; (have := u_c b hh; omega); omega
  have u_n := o_n.lt
  clear hx o_c
  replace q_a_0 := B_a.cell 0 _ rfl
  replace q_a_1 := B_a.cell 1 _ rfl
  replace fr_a := B_a.fro
  replace z_a := B_a.lt
  replace q_r_0 := B_r.cell 0 _ rfl
  replace q_r_1 := B_r.cell 1 _ rfl
  replace fr_r := B_r.fro
  replace z_r := B_r.lt
  replace q_o_0 := B_o.cell 0 _ rfl
  replace q_o_1 := B_o.cell 1 _ rfl
  replace fr_o := B_o.fro
  replace z_o := B_o.lt
  go_wp2_with fail
  refine bodyPost_ret (v := .tuple #[.agg #[.slice K_n.Global.a K_n.Global.len K_n.Global.cap, .slice K_n.Own.a K_n.Own.len K_n.Own.cap], .bool true]) (by simp [results, Tryz.results225, go_sem, q_r_0, q_r_1]) rfl ⟨K_n, y, true, rfl, o_n.chg (F := [w.heap.size + 1]) (by repeat (first | with_reducible exact Chg.refl _ _ | with_reducible refine Chg.set_ ?_ (by simp) _ | with_reducible refine Chg.alloc_ ?_ _ | with_reducible refine Chg.drew_ ?_)) (fun g hg hm => by simp only [List.mem_cons, List.not_mem_nil, or_false] at hm; have := l_n g hg; have := u_n g hg; omega), HSZ.out, fun g hg => by have := l_n g hg; omega, Below.trans hB (by repeat (first | with_reducible exact Below.refl _ _ | with_reducible refine Below.setCell ?_ (by simp <;> omega) _ | with_reducible refine Below.alloc ?_ (by simp <;> omega) _ | with_reducible refine Below.drew ?_))⟩
end Go.Proofs.YtkmggglljkmjoaaGreat

