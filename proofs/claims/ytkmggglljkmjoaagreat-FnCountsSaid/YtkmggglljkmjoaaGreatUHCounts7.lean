/-
  Several texts in one: lemmas and contracts that the claim rests on.
-/
import Derived.Test.YtkmggglljkmjoaaGreatUHCounts1
import Derived.Deep.QuietTactic
import Derived.BigQuiet
import Derived.Deep.LoopGhost
import Derived.Deep.RegionHeld3
import Derived.WalkSpells
import Derived.Laws.Cover3
import Derived.Test.YtkmggglljkmjoaaGreatUHCounts6
import Derived.Test.YtkmggglljkmjoaaGreatUHCounts5
import Derived.Test.YtkmggglljkmjoaaGreatUHCounts4
import Derived.Deep.CutRange
import Derived.Test.YtkmggglljkmjoaaGreatUHCounts3
import Derived.Test.YtkmggglljkmjoaaGreatUHCounts2
import Derived.Deep.RegionLaw
/-
  Drawn lists.
-/
namespace Go.Proofs.YtkmggglljkmjoaaGreat
open Go.RowKit
open Go.Proofs.YtkmggglljkmjoaaGreat.Lim

structure ListsS (x : Lists) (n : Nat) : Prop where
  gl : x.Global.length = 3
  ow : x.Own.length = 9
  sz : sizeLists x ≤ n
theorem ListsS.new : ListsS newLists 12 := ⟨rfl, rfl, by decide⟩
theorem ListsS.of {x y : Lists} {n m : Nat} (h : ListsS x n) (e : sizeLists y ≤ sizeLists x + 1 ∧ y.Global.length = x.Global.length ∧ y.Own.length = x.Own.length) (hm : n + 1 ≤ m) : ListsS y m := ⟨e.2.1.trans h.gl, e.2.2.trans h.ow, by have := h.sz; omega⟩
def DrawLs (w : World) (g : Nat) (code : List Int) (e : Ending) (w' : World) : Prop := ∃ (H : HLists) (x : Lists), e = .returned (H.val x) ∧ OwLists w' H x ∧ ListsS x 25 ∧ (∀ b ∈ H.foot, w.heap.size ≤ b) ∧ Cur w' g code ∧ Chg [g] w w'

set_option maxRecDepth 100000 in
set_option maxHeartbeats 8000000 in
theorem l8Lists_ct (w : World) (g : Nat) (code : List Int) (hc : Cur w g code) : Calls Tryz.prog 194 #[.pointer (some ⟨g, 0, none⟩)] w (DrawLs w g code) := by
  have hgl := hc.lt
  have B_r : Box (w.alloc (.cells #[.slice none 0 0, .slice none 0 0] 29)) (w.heap.size) [.slice none 0 0, .slice none 0 0] := by
    have hbx := Box.new w #[.slice none 0 0, .slice none 0 0] 29
    exact hbx
  have hC : Chg [g] w (w.alloc (.cells #[.slice none 0 0, .slice none 0 0] 29)) := (Chg.refl [g] w).alloc_ _
  replace hc : Cur (w.alloc (.cells #[.slice none 0 0, .slice none 0 0] 29)) g code := (hc).alloc _
  go_enter Tryz.func194, Tryz.ntmps194
  go_wp2_with fail
  generalize hW0 : (w.alloc (.cells #[.slice none 0 0, .slice none 0 0] 29)) = w0 at B_r hC hc ⊢
  clear hW0
  have zz_r := B_r.lt
  have la_r : w.heap.size ≤ w.heap.size := by omega
  have sC := hC.size
  have q_r_0 := B_r.cell 0 _ rfl
  have q_r_1 := B_r.cell 1 _ rfl
  have fr_r := B_r.fro
  have z_r := B_r.lt
  refine (ListsNew_spec _).mono ?_
  rintro e w1 ⟨K_h, rfl, o_h, l_h, hb⟩
  have u_h := o_h.lt
  replace B_r := B_r.below hb
  replace hC := hC.trans (Chg.of_below hb)
  replace hc := hc.up hb
  have sz := hb.size
  replace sC := hC.size
  clear hb
  replace q_r_0 := B_r.cell 0 _ rfl
  replace q_r_1 := B_r.cell 1 _ rfl
  replace fr_r := B_r.fro
  replace z_r := B_r.lt
  have HS := ListsS.new
  generalize newLists = x0 at *
  go_wp2_with fail
  replace B_r := B_r.alloc (.cells #[.slice K_h.Global.a K_h.Global.len K_h.Global.cap, .slice K_h.Own.a K_h.Own.len K_h.Own.cap] 29)
  replace o_h := o_h.alloc_ (.cells #[.slice K_h.Global.a K_h.Global.len K_h.Global.cap, .slice K_h.Own.a K_h.Own.len K_h.Own.cap] 29)
  replace hC := hC.alloc_ (.cells #[.slice K_h.Global.a K_h.Global.len K_h.Global.cap, .slice K_h.Own.a K_h.Own.len K_h.Own.cap] 29)
  replace hc := hc.alloc (.cells #[.slice K_h.Global.a K_h.Global.len K_h.Global.cap, .slice K_h.Own.a K_h.Own.len K_h.Own.cap] 29)
  have B_h : Box (w1.alloc (.cells #[.slice K_h.Global.a K_h.Global.len K_h.Global.cap, .slice K_h.Own.a K_h.Own.len K_h.Own.cap] 29)) w1.heap.size [.slice K_h.Global.a K_h.Global.len K_h.Global.cap, .slice K_h.Own.a K_h.Own.len K_h.Own.cap] := Box.new w1 #[.slice K_h.Global.a K_h.Global.len K_h.Global.cap, .slice K_h.Own.a K_h.Own.len K_h.Own.cap] 29
  have zz_h := B_h.lt
  have sz : w1.heap.size ≤ (w1.alloc (.cells #[.slice K_h.Global.a K_h.Global.len K_h.Global.cap, .slice K_h.Own.a K_h.Own.len K_h.Own.cap] 29)).heap.size := Nat.le_of_lt B_h.lt
  have la_h : w.heap.size ≤ w1.heap.size := by omega
  generalize hG : (w1.alloc (.cells #[.slice K_h.Global.a K_h.Global.len K_h.Global.cap, .slice K_h.Own.a K_h.Own.len K_h.Own.cap] 29)) = w2 at B_r o_h hC hc B_h zz_h sz ⊢
  clear hG
  replace sC := hC.size
  replace q_r_0 := B_r.cell 0 _ rfl
  replace q_r_1 := B_r.cell 1 _ rfl
  replace fr_r := B_r.fro
  replace z_r := B_r.lt
  have q_h_0 := B_h.cell 0 _ rfl
  have q_h_1 := B_h.cell 1 _ rfl
  have fr_h := B_h.fro
  have z_h := B_h.lt
  refine (l1Below_ct _ g code 14 (by unfold I64; omega) hc).mono ?_
  rintro e w3 ⟨n0, rfl, n0a, n0b, hcn, hx⟩
  replace hc := hcn
  replace B_r := B_r.chg hx (by simp only [List.mem_cons, List.not_mem_nil, or_false]; omega)
  replace B_h := B_h.chg hx (by simp only [List.mem_cons, List.not_mem_nil, or_false]; omega)
  replace o_h := o_h.chg hx (fun b hb hm => by simp only [List.mem_cons, List.not_mem_nil, or_false] at hm; have := l_h b hb; have := u_h b hb; omega)
  replace hC := hC.trans hx
  have sz := hx.size
  replace sC := hC.size
  clear hx
  skip
  replace q_r_0 := B_r.cell 0 _ rfl
  replace q_r_1 := B_r.cell 1 _ rfl
  replace fr_r := B_r.fro
  replace z_r := B_r.lt
  replace q_h_0 := B_h.cell 0 _ rfl
  replace q_h_1 := B_h.cell 1 _ rfl
  replace fr_h := B_h.fro
  replace z_h := B_h.lt
  obtain ⟨m0, rfl⟩ := Int.eq_ofNat_of_zero_le n0a
  have hah : w.heap.size < w1.heap.size := by omega
  go_wp2_with fail
  go_loopw [4] (fun i wr => ∃ (k : Nat) (H : HLists) (x : Lists), i = .int .i64 k ∧ k ≤ 13 ∧ Box wr (w1.heap.size) [.slice H.Global.a H.Global.len H.Global.cap, .slice H.Own.a H.Own.len H.Own.cap] ∧ Box wr w.heap.size [.slice none 0 0, .slice none 0 0] ∧ OwLists wr H x ∧ ListsS x (25 - k) ∧ (∀ b ∈ H.foot, w.heap.size < b ∧ b ≠ w1.heap.size) ∧ Cur wr g code ∧ Chg [g] w wr) (fun i _ => (intOf i).toNat)
  case atStart => exact ⟨m0, K_h, x0, rfl, by omega, B_h, B_r, o_h, ⟨HS.gl, HS.ow, by have := HS.sz; omega⟩, fun b hb => by have := l_h b hb; have := u_h b hb; omega, hc, hC⟩
  case round =>
    clear B_h fr_h z_h q_h_0 q_h_1
    clear B_r fr_r z_r q_r_0 q_r_1
    clear o_h l_h u_h HS hc hC sC
    obtain ⟨wo, rfl⟩ : ∃ W : World, W = wr := ⟨_, rfl⟩
    obtain ⟨k, K_h, x, rfl, hk6, B_h, B_r, o_h, HS, n_h, hc, hC⟩ := hrel
    have u_h := o_h.lt
    have sC := hC.size
    have q_h_0 := B_h.cell 0 _ rfl
    have q_h_1 := B_h.cell 1 _ rfl
    have fr_h := B_h.fro
    have z_h := B_h.lt
    have q_r_0 := B_r.cell 0 _ rfl
    have q_r_1 := B_r.cell 1 _ rfl
    have fr_r := B_r.fro
    have z_r := B_r.lt
    by_cases hk : 0 < k
    case neg =>
      go_wp2_with fail
      refine bodyPost_ret (v := K_h.val x) (by simp [results, Tryz.results194, go_sem, q_r_0, q_r_1]) rfl ⟨K_h, x, rfl, o_h.chg (F := [w.heap.size]) (by repeat (first | with_reducible exact Chg.refl _ _ | with_reducible refine Chg.set_ ?_ (by simp) _ | with_reducible refine Chg.alloc_ ?_ _ | with_reducible refine Chg.drew_ ?_)) (fun b hb hm => by simp only [List.mem_cons, List.not_mem_nil, or_false] at hm; have := n_h b hb; have := u_h b hb; omega), ⟨HS.gl, HS.ow, by have := HS.sz; omega⟩, fun b hb => by have := n_h b hb; omega, hc.keepB (B := w.heap.size) hgl (by repeat (first | with_reducible exact Below.refl _ _ | with_reducible refine Below.setCell ?_ (by simp <;> omega) _ | with_reducible refine Below.alloc ?_ (by simp <;> omega) _ | with_reducible refine Below.drew ?_)) hC.size, hC.then_ (by repeat (first | with_reducible exact Below.refl _ _ | with_reducible refine Below.setCell ?_ (by simp <;> omega) _ | with_reducible refine Below.alloc ?_ (by simp <;> omega) _ | with_reducible refine Below.drew ?_))⟩
    have hsz : sizeLists x ≤ 536870912 := by have := HS.sz; omega
    have zp_h := z_h
    have zp_r := z_r
    go_upto_region 5 with (fail)
    go_cut [5, 6] from 12 to 24 (fun v5 v6 wx => ∃ (go : Nat) (K_n : HLists) (y : Lists) (b_ : Bool), v5 = .pointer (some ⟨go, 0, none⟩) ∧ v6 = .bool b_ ∧ (ListsS y (25 - (k - 1))) ∧ Box wx (w1.heap.size) [.slice K_h.Global.a K_h.Global.len K_h.Global.cap, .slice K_h.Own.a K_h.Own.len K_h.Own.cap] ∧ Box wx (w.heap.size) [.slice none 0 0, .slice none 0 0] ∧ Box wx go [.slice K_n.Global.a K_n.Global.len K_n.Global.cap, .slice K_n.Own.a K_n.Own.len K_n.Own.cap] ∧ OwLists wx K_h x ∧ OwLists wx K_n y ∧ (∀ b ∈ K_n.foot, wo.heap.size ≤ b ∧ b ≠ go) ∧ wo.heap.size ≤ go ∧ Cur wx g code ∧ Chg [g] w wx ∧ wo.heap.size ≤ wx.heap.size)
    case first =>
      go_region_held3 (fun w' => w'.cell? ⟨w1.heap.size, 0, none⟩ = some (.slice K_h.Global.a K_h.Global.len K_h.Global.cap) ∧ w'.cell? ⟨w1.heap.size, 1, none⟩ = some (.slice K_h.Own.a K_h.Own.len K_h.Own.cap)) (first | (with_reducible exact ⟨q_h_0, q_h_1⟩) | (refine ⟨?_, ?_⟩ <;> (repeat (first | with_reducible assumption | with_reducible refine cell_set_o ?_ (by omega) | with_reducible refine cell_alloc_o ?_ (by omega) | with_reducible refine cell_drew_o ?_)); done) | (go_keep; done)) (first | (go_at_call 63; (first | ((with_reducible refine (l1Below_ct _ g code _ (by unfold I64; omega) hc).mono ?_); rintro e wq ⟨c_, rfl, c0, c1, hcn, hx⟩; replace B_h := B_h.chg hx (by simp only [List.mem_cons, List.not_mem_nil, or_false]; omega); replace B_r := B_r.chg hx (by simp only [List.mem_cons, List.not_mem_nil, or_false]; omega); replace o_h := o_h.chg hx (fun b hb hm => by simp only [List.mem_cons, List.not_mem_nil, or_false] at hm; have := n_h b hb; have := u_h b hb; omega); (try replace o_n := o_n.chg hx (fun b hb hm => by simp only [List.mem_cons, List.not_mem_nil, or_false] at hm; have := l_n b hb; have := u_n b hb; omega)); (try replace B_x := B_x.chg hx (by simp only [List.mem_cons, List.not_mem_nil, or_false]; omega)); (try replace q_x_0 := B_x.cell 0 _ rfl); (try replace q_x_1 := B_x.cell 1 _ rfl); (try replace q_x_f := B_x.fro); (try replace z_x := B_x.lt); replace hC := Chg.trans hC hx; replace hc := hcn; have sz := hx.size; replace sC := hC.size; clear hx; replace q_h_0 := B_h.cell 0 _ rfl; replace q_h_1 := B_h.cell 1 _ rfl; replace fr_h := B_h.fro; replace z_h := B_h.lt; replace q_r_0 := B_r.cell 0 _ rfl; replace q_r_1 := B_r.cell 1 _ rfl; replace fr_r := B_r.fro; replace z_r := B_r.lt; obtain ⟨c_, rfl⟩ := Int.eq_ofNat_of_zero_le c0) | ((with_reducible refine (l1Below_ct _ g code _ (by unfold I64; omega) (hc.alloc _)).mono ?_); rintro e wq ⟨c_, rfl, c0, c1, hcn, hx⟩; have ly_h := B_h.lt; have ly_r := B_r.lt; replace B_h := (B_h.alloc _).chg hx (by simp only [List.mem_cons, List.not_mem_nil, or_false]; omega); replace B_r := (B_r.alloc _).chg hx (by simp only [List.mem_cons, List.not_mem_nil, or_false]; omega); replace o_h := (o_h.alloc_ _).chg hx (fun b hb hm => by simp only [List.mem_cons, List.not_mem_nil, or_false] at hm; have := n_h b hb; have := u_h b hb; omega); (try replace o_n := (o_n.alloc_ _).chg hx (fun b hb hm => by simp only [List.mem_cons, List.not_mem_nil, or_false] at hm; have := l_n b hb; have := u_n b hb; omega)); have B_x := Box.chg (Box.new _ #[.slice none 0 0, .slice none 0 0] 29) hx (by simp only [List.mem_cons, List.not_mem_nil, or_false]; omega); have la_x := hC.size; have q_x_f := B_x.fro; have z_x := B_x.lt; have q_x_0 := B_x.cell 0 _ rfl; have q_x_1 := B_x.cell 1 _ rfl; replace hC := Chg.trans (hC.alloc_ _) hx; replace hc := hcn; have sz := sz_alloc hx.size; replace sC := hC.size; clear hx; replace q_h_0 := B_h.cell 0 _ rfl; replace q_h_1 := B_h.cell 1 _ rfl; replace fr_h := B_h.fro; replace z_h := B_h.lt; replace q_r_0 := B_r.cell 0 _ rfl; replace q_r_1 := B_r.cell 1 _ rfl; replace fr_r := B_r.fro; replace z_r := B_r.lt; obtain ⟨c_, rfl⟩ := Int.eq_ofNat_of_zero_le c0) | ((with_reducible refine (l1Below_ct _ g code _ (by unfold I64; omega) (hc.drew_)).mono ?_); rintro e wq ⟨c_, rfl, c0, c1, hcn, hx⟩; replace B_h := B_h.drew.chg hx (by simp only [List.mem_cons, List.not_mem_nil, or_false]; omega); replace B_r := B_r.drew.chg hx (by simp only [List.mem_cons, List.not_mem_nil, or_false]; omega); replace o_h := (o_h.drew_).chg hx (fun b hb hm => by simp only [List.mem_cons, List.not_mem_nil, or_false] at hm; have := n_h b hb; have := u_h b hb; omega); (try replace o_n := (o_n.drew_).chg hx (fun b hb hm => by simp only [List.mem_cons, List.not_mem_nil, or_false] at hm; have := l_n b hb; have := u_n b hb; omega)); (try replace B_x := B_x.drew.chg hx (by simp only [List.mem_cons, List.not_mem_nil, or_false]; omega)); (try replace q_x_0 := B_x.cell 0 _ rfl); (try replace q_x_1 := B_x.cell 1 _ rfl); (try replace q_x_f := B_x.fro); (try replace z_x := B_x.lt); replace hC := Chg.trans hC.drew_ hx; replace hc := hcn; have sz := sz_drew hx.size; replace sC := hC.size; clear hx; replace q_h_0 := B_h.cell 0 _ rfl; replace q_h_1 := B_h.cell 1 _ rfl; replace fr_h := B_h.fro; replace z_h := B_h.lt; replace q_r_0 := B_r.cell 0 _ rfl; replace q_r_1 := B_r.cell 1 _ rfl; replace fr_r := B_r.fro; replace z_r := B_r.lt; obtain ⟨c_, rfl⟩ := Int.eq_ofNat_of_zero_le c0) | ((with_reducible refine (l1Below_ct _ g code _ (by unfold I64; omega) ((hc.drew_).alloc _)).mono ?_); rintro e wq ⟨c_, rfl, c0, c1, hcn, hx⟩; have ly_h := B_h.lt; have ly_r := B_r.lt; replace B_h := ((B_h.drew).alloc _).chg hx (by simp only [List.mem_cons, List.not_mem_nil, or_false]; omega); replace B_r := ((B_r.drew).alloc _).chg hx (by simp only [List.mem_cons, List.not_mem_nil, or_false]; omega); replace o_h := ((o_h.drew_).alloc_ _).chg hx (fun b hb hm => by simp only [List.mem_cons, List.not_mem_nil, or_false] at hm; have := n_h b hb; have := u_h b hb; omega); (try replace o_n := ((o_n.drew_).alloc_ _).chg hx (fun b hb hm => by simp only [List.mem_cons, List.not_mem_nil, or_false] at hm; have := l_n b hb; have := u_n b hb; omega)); have B_x := Box.chg (Box.new _ #[.slice none 0 0, .slice none 0 0] 29) hx (by simp only [List.mem_cons, List.not_mem_nil, or_false]; omega); (try simp only [size_drew_] at B_x); have la_x := hC.size; have q_x_f := B_x.fro; have z_x := B_x.lt; have q_x_0 := B_x.cell 0 _ rfl; have q_x_1 := B_x.cell 1 _ rfl; replace hC := Chg.trans (hC.drew_.alloc_ _) hx; replace hc := hcn; have sz := sz_alloc_drew hx.size; replace sC := hC.size; clear hx; replace q_h_0 := B_h.cell 0 _ rfl; replace q_h_1 := B_h.cell 1 _ rfl; replace fr_h := B_h.fro; replace z_h := B_h.lt; replace q_r_0 := B_r.cell 0 _ rfl; replace q_r_1 := B_r.cell 1 _ rfl; replace fr_r := B_r.fro; replace z_r := B_r.lt; obtain ⟨c_, rfl⟩ := Int.eq_ofNat_of_zero_le c0) | ((with_reducible refine (l1Below_ct _ g code _ (by unfold I64; omega) ((hc.alloc _).drew_)).mono ?_); rintro e wq ⟨c_, rfl, c0, c1, hcn, hx⟩; have ly_h := B_h.lt; have ly_r := B_r.lt; replace B_h := (B_h.alloc _).drew.chg hx (by simp only [List.mem_cons, List.not_mem_nil, or_false]; omega); replace B_r := (B_r.alloc _).drew.chg hx (by simp only [List.mem_cons, List.not_mem_nil, or_false]; omega); replace o_h := ((o_h.alloc_ _).drew_).chg hx (fun b hb hm => by simp only [List.mem_cons, List.not_mem_nil, or_false] at hm; have := n_h b hb; have := u_h b hb; omega); (try replace o_n := ((o_n.alloc_ _).drew_).chg hx (fun b hb hm => by simp only [List.mem_cons, List.not_mem_nil, or_false] at hm; have := l_n b hb; have := u_n b hb; omega)); have B_x := Box.chg (Box.new _ #[.slice none 0 0, .slice none 0 0] 29).drew hx (by simp only [List.mem_cons, List.not_mem_nil, or_false]; omega); have la_x := hC.size; have q_x_f := B_x.fro; have z_x := B_x.lt; have q_x_0 := B_x.cell 0 _ rfl; have q_x_1 := B_x.cell 1 _ rfl; replace hC := Chg.trans (hC.alloc_ _).drew_ hx; replace hc := hcn; have sz := sz_alloc (sz_drew hx.size); replace sC := hC.size; clear hx; replace q_h_0 := B_h.cell 0 _ rfl; replace q_h_1 := B_h.cell 1 _ rfl; replace fr_h := B_h.fro; replace z_h := B_h.lt; replace q_r_0 := B_r.cell 0 _ rfl; replace q_r_1 := B_r.cell 1 _ rfl; replace fr_r := B_r.fro; replace z_r := B_r.lt; obtain ⟨c_, rfl⟩ := Int.eq_ofNat_of_zero_le c0))) | (go_at_call 225; (first | ((with_reducible refine (Give_spec _ K_h x _ _ _ (o_h).rd' hsz (by omega) (by omega) (inB_iff.2 ⟨by omega, by omega⟩)).mono ?_); rintro e wq ⟨K_n, y, b_, rfl, o_n, hly, l_n, hb⟩; have u_n := o_n.lt; replace B_h := B_h.below hb; replace B_r := B_r.below hb; replace o_h := o_h.step0 hb; (try replace B_x := B_x.below hb); (try replace q_x_0 := B_x.cell 0 _ rfl); (try replace q_x_1 := B_x.cell 1 _ rfl); (try replace q_x_f := B_x.fro); (try replace z_x := B_x.lt); replace hc := Cur.up hc hb; replace hC := Chg.trans hC (Chg.of_below hb); have sz := hb.size; replace sC := hC.size; clear hb; replace q_h_0 := B_h.cell 0 _ rfl; replace q_h_1 := B_h.cell 1 _ rfl; replace fr_h := B_h.fro; replace z_h := B_h.lt; replace q_r_0 := B_r.cell 0 _ rfl; replace q_r_1 := B_r.cell 1 _ rfl; replace fr_r := B_r.fro; replace z_r := B_r.lt; have HY : ListsS y (25 - (k - 1)) := HS.of hly (by omega)) | ((with_reducible refine (Give_spec _ K_h x _ _ _ ((o_h.alloc_ _)).rd' hsz (by omega) (by omega) (inB_iff.2 ⟨by omega, by omega⟩)).mono ?_); rintro e wq ⟨K_n, y, b_, rfl, o_n, hly, l_n, hb⟩; replace l_n := lc_alloc l_n; have u_n := o_n.lt; have ly_h := B_h.lt; have ly_r := B_r.lt; replace B_h := (B_h.alloc _).below hb; replace B_r := (B_r.alloc _).below hb; replace o_h := (o_h.alloc_ _).step0 hb; have B_x := Box.below (Box.new _ #[.slice none 0 0, .slice none 0 0] 29) hb; have la_x := hC.size; have q_x_f := B_x.fro; have z_x := B_x.lt; have q_x_0 := B_x.cell 0 _ rfl; have q_x_1 := B_x.cell 1 _ rfl; replace hc := Cur.up (hc.alloc _) hb; replace hC := Chg.trans (hC.alloc_ _) (Chg.of_below hb); have sz := sz_alloc hb.size; replace sC := hC.size; clear hb; replace q_h_0 := B_h.cell 0 _ rfl; replace q_h_1 := B_h.cell 1 _ rfl; replace fr_h := B_h.fro; replace z_h := B_h.lt; replace q_r_0 := B_r.cell 0 _ rfl; replace q_r_1 := B_r.cell 1 _ rfl; replace fr_r := B_r.fro; replace z_r := B_r.lt; have HY : ListsS y (25 - (k - 1)) := HS.of hly (by omega)) | ((with_reducible refine (Give_spec _ K_h x _ _ _ ((o_h.drew_)).rd' hsz (by omega) (by omega) (inB_iff.2 ⟨by omega, by omega⟩)).mono ?_); rintro e wq ⟨K_n, y, b_, rfl, o_n, hly, l_n, hb⟩; replace hb := undrew hb; replace l_n := fcdrew l_n; have u_n := o_n.lt; replace B_h := B_h.below hb; replace B_r := B_r.below hb; replace o_h := o_h.step0 hb; (try replace B_x := B_x.below hb); (try replace q_x_0 := B_x.cell 0 _ rfl); (try replace q_x_1 := B_x.cell 1 _ rfl); (try replace q_x_f := B_x.fro); (try replace z_x := B_x.lt); replace hc := Cur.up hc hb; replace hC := Chg.trans hC (Chg.of_below hb); have sz := hb.size; replace sC := hC.size; clear hb; replace q_h_0 := B_h.cell 0 _ rfl; replace q_h_1 := B_h.cell 1 _ rfl; replace fr_h := B_h.fro; replace z_h := B_h.lt; replace q_r_0 := B_r.cell 0 _ rfl; replace q_r_1 := B_r.cell 1 _ rfl; replace fr_r := B_r.fro; replace z_r := B_r.lt; have HY : ListsS y (25 - (k - 1)) := HS.of hly (by omega)) | ((with_reducible refine (Give_spec _ K_h x _ _ _ (((o_h.drew_).alloc_ _)).rd' hsz (by omega) (by omega) (inB_iff.2 ⟨by omega, by omega⟩)).mono ?_); rintro e wq ⟨K_n, y, b_, rfl, o_n, hly, l_n, hb⟩; replace l_n := lc_alloc_drew l_n; have u_n := o_n.lt; have ly_h := B_h.lt; have ly_r := B_r.lt; replace B_h := ((B_h.drew).alloc _).below hb; replace B_r := ((B_r.drew).alloc _).below hb; replace o_h := ((o_h.drew_).alloc_ _).step0 hb; have B_x := Box.below (Box.new _ #[.slice none 0 0, .slice none 0 0] 29) hb; (try simp only [size_drew_] at B_x); have la_x := hC.size; have q_x_f := B_x.fro; have z_x := B_x.lt; have q_x_0 := B_x.cell 0 _ rfl; have q_x_1 := B_x.cell 1 _ rfl; replace hc := Cur.up ((hc.drew_).alloc _) hb; replace hC := Chg.trans (hC.drew_.alloc_ _) (Chg.of_below hb); have sz := sz_alloc_drew hb.size; replace sC := hC.size; clear hb; replace q_h_0 := B_h.cell 0 _ rfl; replace q_h_1 := B_h.cell 1 _ rfl; replace fr_h := B_h.fro; replace z_h := B_h.lt; replace q_r_0 := B_r.cell 0 _ rfl; replace q_r_1 := B_r.cell 1 _ rfl; replace fr_r := B_r.fro; replace z_r := B_r.lt; have HY : ListsS y (25 - (k - 1)) := HS.of hly (by omega)) | ((with_reducible refine (Give_spec _ K_h x _ _ _ (((o_h.alloc_ _).drew_)).rd' hsz (by omega) (by omega) (inB_iff.2 ⟨by omega, by omega⟩)).mono ?_); rintro e wq ⟨K_n, y, b_, rfl, o_n, hly, l_n, hb⟩; replace hb := undrew hb; replace l_n := fcdrew l_n; replace l_n := lc_alloc l_n; have u_n := o_n.lt; have ly_h := B_h.lt; have ly_r := B_r.lt; replace B_h := (B_h.alloc _).below hb; replace B_r := (B_r.alloc _).below hb; replace o_h := (o_h.alloc_ _).step0 hb; have B_x := Box.below (Box.new _ #[.slice none 0 0, .slice none 0 0] 29) hb; have la_x := hC.size; have q_x_f := B_x.fro; have z_x := B_x.lt; have q_x_0 := B_x.cell 0 _ rfl; have q_x_1 := B_x.cell 1 _ rfl; replace hc := Cur.up (hc.alloc _) hb; replace hC := Chg.trans (hC.alloc_ _) (Chg.of_below hb); have sz := sz_alloc hb.size; replace sC := hC.size; clear hb; replace q_h_0 := B_h.cell 0 _ rfl; replace q_h_1 := B_h.cell 1 _ rfl; replace fr_h := B_h.fro; replace z_h := B_h.lt; replace q_r_0 := B_r.cell 0 _ rfl; replace q_r_1 := B_r.cell 1 _ rfl; replace fr_r := B_r.fro; replace z_r := B_r.lt; have HY : ListsS y (25 - (k - 1)) := HS.of hly (by omega)))))
      all_goals
        go_wp2_with fail
        go_meet
        first | exact ⟨_, K_n, y, b_, rfl, rfl, HY, B_h.alloc _, B_r.alloc _, Box.new _ _ _, o_h.alloc_ _, o_n.alloc_ _, fun b hb => ⟨by have := l_n b hb; omega, by have := u_n b hb; omega⟩, by omega, hc.alloc _, hC.alloc_ _, by simp <;> omega⟩ | (obtain ⟨go, hgo, B_go⟩ := B_x.ad; rw [← hgo]; rw [← hgo] at la_x; exact ⟨go, K_n, y, b_, rfl, rfl, HY, ((B_h.other (by omega) _).other (by omega) _), ((B_r.other (by omega) _).other (by omega) _), ((B_go.set 0 _).set 1 _), o_h.chg (F := [go]) (by repeat (first | with_reducible exact Chg.refl _ _ | with_reducible refine Chg.set_ ?_ (by simp) _ | with_reducible refine Chg.alloc_ ?_ _ | with_reducible refine Chg.drew_ ?_)) (fun b hb hm => by simp only [List.mem_cons, List.not_mem_nil, or_false] at hm; have := n_h b hb; have := u_h b hb; omega), o_n.chg (F := [go]) (by repeat (first | with_reducible exact Chg.refl _ _ | with_reducible refine Chg.set_ ?_ (by simp) _ | with_reducible refine Chg.alloc_ ?_ _ | with_reducible refine Chg.drew_ ?_)) (fun b hb hm => by simp only [List.mem_cons, List.not_mem_nil, or_false] at hm; have := l_n b hb; have := u_n b hb; omega), fun b hb => ⟨by have := l_n b hb; omega, by have := l_n b hb; have := u_n b hb; omega⟩, by omega, hc.keepB (B := w.heap.size) hgl (by repeat (first | with_reducible exact Below.refl _ _ | with_reducible refine Below.setCell ?_ (by simp <;> omega) _ | with_reducible refine Below.alloc ?_ (by simp <;> omega) _ | with_reducible refine Below.drew ?_)) hC.size, ((hC.set_new (by omega) _).set_new (by omega) _), by simp <;> omega⟩)
    case rest =>
      clear B_h fr_h z_h q_h_0 q_h_1
      clear B_r fr_r z_r q_r_0 q_r_1
      clear o_h
      clear hC hc
      obtain ⟨go, K_n, y, b_, rfl, rfl, HY, B_h, B_r, B_x, o_h, o_n, l_n, lo_x, hc, hC, sz⟩ := hcut
      have zz_x := B_x.lt
      have la_x : w.heap.size ≤ go := by omega
      have u_n := o_n.lt
      have sC := hC.size
      have q_h_0 := B_h.cell 0 _ rfl
      have q_h_1 := B_h.cell 1 _ rfl
      have fr_h := B_h.fro
      have z_h := B_h.lt
      have q_r_0 := B_r.cell 0 _ rfl
      have q_r_1 := B_r.cell 1 _ rfl
      have fr_r := B_r.fro
      have z_r := B_r.lt
      have q_x_0 := B_x.cell 0 _ rfl
      have q_x_1 := B_x.cell 1 _ rfl
      have fr_x := B_x.fro
      have z_x := B_x.lt
      go_upto_region 4 with (fail)
      clear o_h
      replace B_h : Box ((wc.setCell ⟨w1.heap.size, 0, none⟩ (.slice K_n.Global.a K_n.Global.len K_n.Global.cap)).setCell ⟨w1.heap.size, 1, none⟩ (.slice K_n.Own.a K_n.Own.len K_n.Own.cap)) (w1.heap.size) [.slice K_n.Global.a K_n.Global.len K_n.Global.cap, .slice K_n.Own.a K_n.Own.len K_n.Own.cap] := ((B_h.set 0 (.slice K_n.Global.a K_n.Global.len K_n.Global.cap)).set 1 (.slice K_n.Own.a K_n.Own.len K_n.Own.cap))
      replace B_r : Box ((wc.setCell ⟨w1.heap.size, 0, none⟩ (.slice K_n.Global.a K_n.Global.len K_n.Global.cap)).setCell ⟨w1.heap.size, 1, none⟩ (.slice K_n.Own.a K_n.Own.len K_n.Own.cap)) (w.heap.size) [.slice none 0 0, .slice none 0 0] := ((B_r.other (by omega) _).other (by omega) _)
      replace B_x : Box ((wc.setCell ⟨w1.heap.size, 0, none⟩ (.slice K_n.Global.a K_n.Global.len K_n.Global.cap)).setCell ⟨w1.heap.size, 1, none⟩ (.slice K_n.Own.a K_n.Own.len K_n.Own.cap)) (go) [.slice K_n.Global.a K_n.Global.len K_n.Global.cap, .slice K_n.Own.a K_n.Own.len K_n.Own.cap] := ((B_x.other (by omega) _).other (by omega) _)
      replace o_n := o_n.chg (F := [w1.heap.size]) (w' := ((wc.setCell ⟨w1.heap.size, 0, none⟩ (.slice K_n.Global.a K_n.Global.len K_n.Global.cap)).setCell ⟨w1.heap.size, 1, none⟩ (.slice K_n.Own.a K_n.Own.len K_n.Own.cap))) (by repeat (first | with_reducible exact Chg.refl _ _ | with_reducible refine Chg.set_ ?_ (by simp) _ | with_reducible refine Chg.alloc_ ?_ _ | with_reducible refine Chg.drew_ ?_)) (fun b hb hm => by simp only [List.mem_cons, List.not_mem_nil, or_false] at hm; have := l_n b hb; have := u_n b hb; omega)
      replace hc : Cur ((wc.setCell ⟨w1.heap.size, 0, none⟩ (.slice K_n.Global.a K_n.Global.len K_n.Global.cap)).setCell ⟨w1.heap.size, 1, none⟩ (.slice K_n.Own.a K_n.Own.len K_n.Own.cap)) g code := hc.keepB (B := w.heap.size) hgl (by repeat (first | with_reducible exact Below.refl _ _ | with_reducible refine Below.setCell ?_ (by simp <;> omega) _ | with_reducible refine Below.alloc ?_ (by simp <;> omega) _ | with_reducible refine Below.drew ?_)) hC.size
      replace hC : Chg [g] w ((wc.setCell ⟨w1.heap.size, 0, none⟩ (.slice K_n.Global.a K_n.Global.len K_n.Global.cap)).setCell ⟨w1.heap.size, 1, none⟩ (.slice K_n.Own.a K_n.Own.len K_n.Own.cap)) := ((hC.set_new (by omega) _).set_new (by omega) _)
      have sz : wc.heap.size ≤ ((wc.setCell ⟨w1.heap.size, 0, none⟩ (.slice K_n.Global.a K_n.Global.len K_n.Global.cap)).setCell ⟨w1.heap.size, 1, none⟩ (.slice K_n.Own.a K_n.Own.len K_n.Own.cap)).heap.size := by simp
      generalize hG : ((wc.setCell ⟨w1.heap.size, 0, none⟩ (.slice K_n.Global.a K_n.Global.len K_n.Global.cap)).setCell ⟨w1.heap.size, 1, none⟩ (.slice K_n.Own.a K_n.Own.len K_n.Own.cap)) = w11 at B_h B_r B_x o_n hC hc sz ⊢
      clear hG
      replace sC := hC.size
      replace q_h_0 := B_h.cell 0 _ rfl
      replace q_h_1 := B_h.cell 1 _ rfl
      replace fr_h := B_h.fro
      replace z_h := B_h.lt
      replace q_r_0 := B_r.cell 0 _ rfl
      replace q_r_1 := B_r.cell 1 _ rfl
      replace fr_r := B_r.fro
      replace z_r := B_r.lt
      replace q_x_0 := B_x.cell 0 _ rfl
      replace q_x_1 := B_x.cell 1 _ rfl
      replace fr_x := B_x.fro
      replace z_x := B_x.lt
      go_wp2_with fail
      go_roundw
      case rel => exact ⟨k - 1, K_n, y, by go_num, by omega, B_h, B_r, o_n, HY, fun b hb => by have := l_n b hb; omega, hc, hC⟩
      case measure => simp [intOf]; omega
end Go.Proofs.YtkmggglljkmjoaaGreat

/-
  Drawn lists, spoilt: any.
-/
namespace Go.Proofs.YtkmggglljkmjoaaGreat
open Go.RowKit
open Go.Proofs.YtkmggglljkmjoaaGreat.Lim

theorem OwL.cellS {w : World} {g n c E : Nat} {l : List SV} (h : OwL FS E w (.slice (some ⟨g, 0, none⟩) n c) l) {k : Nat} {s : SV} (hs : l[k]? = some s) : w.cell? ⟨g, k, none⟩ = some (.slice s.a s.len s.cap) := by
  simpa [FS] using OwL.cell_ h (j := 0) hs (by decide)
def DrawLsA (w : World) (g : Nat) (code : List Int) (e : Ending) (w' : World) : Prop := ∃ (H : HLists) (x : Lists), e = .returned (H.val x) ∧ OwLists w' H x ∧ sizeLists x ≤ 60 ∧ (∀ b ∈ H.foot, w.heap.size ≤ b) ∧ Cur w' g code ∧ Chg [g] w w'
theorem OwLL.cutTo {α : Type} {T : FT α} {e E : TypeId} {w : World} {g n c : Nat} {svs : List SV} {ll : List (List α)} (h : OwLL T e E w (.slice (some ⟨g, 0, none⟩) n c) svs ll) {i : Nat} (hi : i ≤ ll.length) : OwLL T e E w (.slice (some ⟨g, 0, none⟩) i c) (svs.take i) (ll.take i) := by
  have hs : i ≤ svs.length := by rw [h.len]; exact hi
  refine ⟨by rw [List.length_take, List.length_take, h.len], OwL.cutTo h.outer hs, fun k s l hk hl => ?_, ?_⟩
  · rw [List.getElem?_take] at hk hl
    split at hk
    · rename_i hlt
      rw [if_pos hlt] at hl
      exact h.inner k s l hk hl
    · cases hk
  · have hn := h.nodup
    unfold foot2 at hn ⊢
    have e : svs.flatMap (fun s => foot1 s.val) = (svs.take i).flatMap (fun s => foot1 s.val) ++ (svs.drop i).flatMap (fun s => foot1 s.val) := by rw [← List.flatMap_append, List.take_append_drop]
    rw [e, ← List.append_assoc, List.nodup_append] at hn
    exact hn.1
theorem foot2_cut {svs : List SV} {i : Nat} {b : Nat} {g n c m d : Nat} (h : b ∈ foot2 (.slice (some ⟨g, 0, none⟩) n c) (svs.take i)) : b ∈ foot2 (.slice (some ⟨g, 0, none⟩) m d) svs := by
  rcases mem_foot2.1 h with h1 | ⟨s, hs, h1⟩
  · exact mem_foot2.2 (.inl h1)
  · exact mem_foot2.2 (.inr ⟨s, List.mem_of_mem_take hs, h1⟩)
theorem szLL_cut (ll : List (List Int)) (i : Nat) : szLL (ll.take i) ≤ szLL ll := by
  have a : (ll.take i).length ≤ ll.length := by simp; omega
  have b := totLL_take_le ll i
  have c : szLL ll = ll.length + totLL ll := rfl
  have d : szLL (ll.take i) = (ll.take i).length + totLL (ll.take i) := rfl
  omega
theorem foot_g {gG n p b : Nat} {tG : List SV} {K : SV} {tO : List SV} (h : b ∈ foot2 (.slice (some ⟨gG, 0, none⟩) n p) tG) : b ∈ HLists.foot ⟨⟨some ⟨gG, 0, none⟩, n, p⟩, tG, K, tO⟩ := HLists.mem_foot.2 (.inl h)
theorem foot_o {gO n p b : Nat} {tO : List SV} {K : SV} {tG : List SV} (h : b ∈ foot2 (.slice (some ⟨gO, 0, none⟩) n p) tO) : b ∈ HLists.foot ⟨K, tG, ⟨some ⟨gO, 0, none⟩, n, p⟩, tO⟩ := HLists.mem_foot.2 (.inr h)

set_option maxRecDepth 100000 in
set_option maxHeartbeats 8000000 in
theorem l8Any_ct (w : World) (g : Nat) (code : List Int) (hc : Cur w g code) : Calls Tryz.prog 139 #[.pointer (some ⟨g, 0, none⟩)] w (DrawLsA w g code) := by
  have hgl := hc.lt
  have B_r : Box (w.alloc (.cells #[.slice none 0 0, .slice none 0 0] 29)) (w.heap.size) [.slice none 0 0, .slice none 0 0] := by
    have hbx := Box.new w #[.slice none 0 0, .slice none 0 0] 29
    exact hbx
  have hC : Chg [g] w (w.alloc (.cells #[.slice none 0 0, .slice none 0 0] 29)) := (Chg.refl [g] w).alloc_ _
  replace hc : Cur (w.alloc (.cells #[.slice none 0 0, .slice none 0 0] 29)) g code := (hc).alloc _
  go_enter Tryz.func139, Tryz.ntmps139
  go_wp2_with fail
  generalize hW0 : (w.alloc (.cells #[.slice none 0 0, .slice none 0 0] 29)) = w0 at B_r hC hc ⊢
  clear hW0
  have zz_r := B_r.lt
  have la_r : w.heap.size ≤ w.heap.size := by omega
  have sC := hC.size
  have q_r_0 := B_r.cell 0 _ rfl
  have q_r_1 := B_r.cell 1 _ rfl
  have fr_r := B_r.fro
  have z_r := B_r.lt
  refine (l8Lists_ct _ g code hc).mono ?_
  rintro e w1 ⟨K_h, x, rfl, o_h, HS, l_h, hcn, hx⟩
  replace hc := hcn
  replace B_r := B_r.chg hx (by simp only [List.mem_cons, List.not_mem_nil, or_false]; omega)
  replace hC := hC.trans hx
  have sz := hx.size
  replace sC := hC.size
  clear hx
  have u_h := o_h.lt
  replace q_r_0 := B_r.cell 0 _ rfl
  replace q_r_1 := B_r.cell 1 _ rfl
  replace fr_r := B_r.fro
  replace z_r := B_r.lt
  obtain ⟨⟨A1, n1, pG⟩, tG, ⟨A2, n2, pO⟩, tO⟩ := K_h
  obtain ⟨gG, q1, hv1, hg1⟩ := OwLL.at_form (v := .slice A1 n1 pG) o_h.Global (by rw [HS.gl]; decide)
  obtain ⟨gO, q2, hv2, hg2⟩ := OwLL.at_form (v := .slice A2 n2 pO) o_h.Own (by rw [HS.ow]; decide)
  injection hv1 with i1 i2 i3
  injection hv2 with j1 j2 j3
  subst i1 i2 i3 j1 j2 j3
  have hpG : x.Global.length ≤ pG := (o_h.Global.rd'.len').2.1
  have hpO : x.Own.length ≤ pO := (o_h.Own.rd'.len').2.1
  have hGlobal0 : 3 ≤ x.Global.length := by rw [HS.gl]; decide
  have hGlobal1 : x.Global.length ≤ 3 := by rw [HS.gl]; decide
  have hOwn0 : 9 ≤ x.Own.length := by rw [HS.ow]; decide
  have hOwn1 : x.Own.length ≤ 9 := by rw [HS.ow]; decide
  have hsz := HS.sz
  clear HS
  have HTG := Hid.mk_ o_h.Global.len
  have HTO := Hid.mk_ o_h.Own.len
  have mG : gG ∈ foot2 (.slice (some ⟨gG, 0, none⟩) x.Global.length pG) tG := mem_foot2.2 (.inl rfl)
  have mO : gO ∈ foot2 (.slice (some ⟨gO, 0, none⟩) x.Own.length pO) tO := mem_foot2.2 (.inl rfl)
  have lG := l_h gG (foot_g mG)
  have lO := l_h gO (foot_o mO)
  have uG := u_h gG (foot_g mG)
  have uO := u_h gO (foot_o mO)
  have hGO : gG ≠ gO := fun e => o_h.d01 gG mG (e ▸ mO)
  have hOG : ∀ b ∈ foot2 (.slice (some ⟨gG, 0, none⟩) x.Global.length pG) tG, b ≠ gO := fun b hb e => o_h.d01 b hb (e ▸ mO)
  have D01 := o_h.d01
  go_wp2_with fail
  replace B_r := B_r.alloc (.cells #[.slice (some ⟨gG, 0, none⟩) x.Global.length pG, .slice (some ⟨gO, 0, none⟩) x.Own.length pO] 29)
  replace o_h := o_h.alloc_ (.cells #[.slice (some ⟨gG, 0, none⟩) x.Global.length pG, .slice (some ⟨gO, 0, none⟩) x.Own.length pO] 29)
  replace hC := hC.alloc_ (.cells #[.slice (some ⟨gG, 0, none⟩) x.Global.length pG, .slice (some ⟨gO, 0, none⟩) x.Own.length pO] 29)
  replace hc := hc.alloc (.cells #[.slice (some ⟨gG, 0, none⟩) x.Global.length pG, .slice (some ⟨gO, 0, none⟩) x.Own.length pO] 29)
  have B_h : Box (w1.alloc (.cells #[.slice (some ⟨gG, 0, none⟩) x.Global.length pG, .slice (some ⟨gO, 0, none⟩) x.Own.length pO] 29)) w1.heap.size [.slice (some ⟨gG, 0, none⟩) x.Global.length pG, .slice (some ⟨gO, 0, none⟩) x.Own.length pO] := Box.new w1 #[.slice (some ⟨gG, 0, none⟩) x.Global.length pG, .slice (some ⟨gO, 0, none⟩) x.Own.length pO] 29
  have zz_h := B_h.lt
  have sz : w1.heap.size ≤ (w1.alloc (.cells #[.slice (some ⟨gG, 0, none⟩) x.Global.length pG, .slice (some ⟨gO, 0, none⟩) x.Own.length pO] 29)).heap.size := Nat.le_of_lt B_h.lt
  have la_h : w.heap.size ≤ w1.heap.size := by omega
  generalize hG : (w1.alloc (.cells #[.slice (some ⟨gG, 0, none⟩) x.Global.length pG, .slice (some ⟨gO, 0, none⟩) x.Own.length pO] 29)) = w2 at B_r o_h hC hc B_h zz_h sz ⊢
  clear hG
  replace sC := hC.size
  replace q_r_0 := B_r.cell 0 _ rfl
  replace q_r_1 := B_r.cell 1 _ rfl
  replace fr_r := B_r.fro
  replace z_r := B_r.lt
  have q_h_0 := B_h.cell 0 _ rfl
  have q_h_1 := B_h.cell 1 _ rfl
  have fr_h := B_h.fro
  have z_h := B_h.lt
  have n1gG : ¬ gG = w1.heap.size := by omega
  have n2gG : ¬ w1.heap.size = gG := by omega
  have n3gG : ¬ gG = w.heap.size := by omega
  have n4gG : ¬ w.heap.size = gG := by omega
  have n1gO : ¬ gO = w1.heap.size := by omega
  have n2gO : ¬ w1.heap.size = gO := by omega
  have n3gO : ¬ gO = w.heap.size := by omega
  have n4gO : ¬ w.heap.size = gO := by omega
  refine (l1Below_ct _ g code 20 (by unfold I64; omega) hc).mono ?_
  rintro e w3 ⟨k, rfl, k0, k1, hcn, hx⟩
  replace hc := hcn
  replace B_r := B_r.chg hx (by simp only [List.mem_cons, List.not_mem_nil, or_false]; omega)
  replace B_h := B_h.chg hx (by simp only [List.mem_cons, List.not_mem_nil, or_false]; omega)
  replace o_h := o_h.chg hx (fun b hb hm => by simp only [List.mem_cons, List.not_mem_nil, or_false] at hm; have := l_h b hb; have := u_h b hb; omega)
  replace hC := hC.trans hx
  have sz := hx.size
  replace sC := hC.size
  clear hx
  skip
  replace q_r_0 := B_r.cell 0 _ rfl
  replace q_r_1 := B_r.cell 1 _ rfl
  replace fr_r := B_r.fro
  replace z_r := B_r.lt
  replace q_h_0 := B_h.cell 0 _ rfl
  replace q_h_1 := B_h.cell 1 _ rfl
  replace fr_h := B_h.fro
  replace z_h := B_h.lt
  by_cases e0 : k = 0
  case pos =>
    subst e0
    have ft : ∀ b ∈ HLists.foot ⟨⟨some ⟨gG, 0, none⟩, 2, pG⟩, tG.take 2, ⟨some ⟨gO, 0, none⟩, x.Own.length, pO⟩, tO⟩, b ∈ HLists.foot ⟨⟨some ⟨gG, 0, none⟩, x.Global.length, pG⟩, tG, ⟨some ⟨gO, 0, none⟩, x.Own.length, pO⟩, tO⟩ := fun b hb => by rcases HLists.mem_foot.1 hb with h1 | h1; (exact foot_g (foot2_cut h1)); (exact foot_o h1)
    go_wp2_with fail
    refine bodyPost_ret (v := .agg #[.slice (some ⟨gG, 0, none⟩) 2 pG, .slice (some ⟨gO, 0, none⟩) x.Own.length pO]) (by simp [results, Tryz.results139, go_sem, q_r_0, q_r_1]) rfl ⟨⟨⟨some ⟨gG, 0, none⟩, 2, pG⟩, tG.take 2, ⟨some ⟨gO, 0, none⟩, x.Own.length, pO⟩, tO⟩, { x with Global := x.Global.take 2 }, rfl, OwLists.chg (F := [w.heap.size, w1.heap.size]) (⟨OwLL.cutTo (i := 2) o_h.Global (show 2 ≤ x.Global.length by omega), o_h.Own, fun b hb => D01 b (foot2_cut hb)⟩ : OwLists _ ⟨⟨some ⟨gG, 0, none⟩, 2, pG⟩, tG.take 2, ⟨some ⟨gO, 0, none⟩, x.Own.length, pO⟩, tO⟩ { x with Global := x.Global.take 2 }) (by repeat (first | with_reducible exact Chg.refl _ _ | with_reducible refine Chg.set_ ?_ (by simp) _ | with_reducible refine Chg.alloc_ ?_ _ | with_reducible refine Chg.drew_ ?_)) (fun b hb hm => by simp only [List.mem_cons, List.not_mem_nil, or_false] at hm; have := l_h b (ft b hb); have := u_h b (ft b hb); omega), by have := szLL_cut x.Global 2; unfold sizeLists at hsz ⊢; simp only; omega, fun b hb => by have := l_h b (ft b hb); omega, hc.keepB (B := w.heap.size) hgl (by repeat (first | with_reducible exact Below.refl _ _ | with_reducible refine Below.setCell ?_ (by simp <;> omega) _ | with_reducible refine Below.alloc ?_ (by simp <;> omega) _ | with_reducible refine Below.drew ?_)) hC.size, hC.then_ (by repeat (first | with_reducible exact Below.refl _ _ | with_reducible refine Below.setCell ?_ (by simp <;> omega) _ | with_reducible refine Below.alloc ?_ (by simp <;> omega) _ | with_reducible refine Below.drew ?_))⟩
  have e0' : (k == 0) = false := by simpa using e0
  by_cases e1 : k = 1
  case pos =>
    subst e1
    go_wp2_with (at_builtin; refine wpList_append_flat Tryz.stSL rfl _ _ rfl (v := .slice (some ⟨gO, 0, none⟩) x.Own.length pO) (y := .slice (some ⟨w3.heap.size, 0, none⟩) 1 1) (l := tO) (m := [⟨none, 0, 0⟩]) rfl rfl (OwL.alloc_ o_h.Own.outer _) (OwL.lit FS [⟨none, 0, 0⟩] #[.slice none 0 0] rfl (by simp [maxLen]) w3 94).rd' (by simp only [List.length_singleton]; have := HTO.out; omega) ?_; intro v4 w4 ho4 hg4 hat4; obtain ⟨A4, c4, hv4, _⟩ := id ho4.rd'; simp only [List.length_append, List.length_cons, List.length_nil] at hv4; subst hv4; have hx4 := Chg.of_grown hg4; have hx5 : Chg [gO] (w3.alloc (.cells #[.slice none 0 0] 94)) w4 := hx4.mono (fun b hb => by have := foot1_some.1 hb; simp [this]); replace B_h := (B_h.alloc (.cells #[.slice none 0 0] 94)).chg hx5 (by simp; omega); replace q_h_0 := B_h.cell 0 _ rfl; replace q_h_1 := B_h.cell 1 _ rfl; replace fr_h := B_h.fro; replace z_h := B_h.lt; replace B_r := (B_r.alloc (.cells #[.slice none 0 0] 94)).chg hx5 (by simp; omega); replace q_r_0 := B_r.cell 0 _ rfl; replace q_r_1 := B_r.cell 1 _ rfl; replace fr_r := B_r.fro; replace z_r := B_r.lt; have hbl4 : Below w.heap.size w3 w4 := ((Below.refl _ _).alloc hC.size _).grown hg4 (by simp; omega) (fun b hb => by have := foot1_some.1 (mem_foot1.2 hb); omega))
    replace hc := hc.keepB (B := w.heap.size) hgl hbl4 hC.size
    replace hC := hC.then_ hbl4
    have oO4 := OwLL.snoc (o_h.Own.alloc_ (.cells #[.slice none 0 0] 94)) (s := ⟨none, 0, 0⟩) (l := []) (World.ownsRow_nil _ _ _ _) (fun b hb => by simp [foot1, SV.val, Value.ownBlock] at hb) ho4 hg4 hat4
    have oG4 := (o_h.Global.alloc_ (.cells #[.slice none 0 0] 94)).chg hx5 (fun b hb hm => by simp only [List.mem_cons, List.not_mem_nil, or_false] at hm; exact hOG b hb hm)
    have f4 : ∀ b ∈ foot2 (.slice A4 (tO.length + (0 + 1)) c4) (tO ++ [⟨none, 0, 0⟩]), b ∈ foot2 (.slice (some ⟨gO, 0, none⟩) x.Own.length pO) tO ∨ b = w3.heap.size + 1 := fun b hb => by
      rcases mem_foot2.1 hb with h1 | ⟨s, hs, h1⟩
      · rcases hat4 with h2 | h2; (rw [h2] at h1; exact .inl (mem_foot2.2 (.inl h1))); (rw [h2] at h1; injection h1 with h1; simp at h1; exact .inr h1.symm)
      · rcases List.mem_append.1 hs with hs | hs; (exact .inl (mem_foot2.2 (.inr ⟨s, hs, h1⟩))); (rw [List.mem_singleton.1 hs] at h1; simp [SV.val, Value.ownBlock] at h1)
    have o4 : OwLists w4 ⟨⟨some ⟨gG, 0, none⟩, x.Global.length, pG⟩, tG, ⟨A4, tO.length + (0 + 1), c4⟩, tO ++ [⟨none, 0, 0⟩]⟩ { x with Own := x.Own ++ [[]] } := ⟨oG4, oO4, fun b hb hm => by rcases f4 b hm with e | e; (exact D01 b hb e); (have := u_h b (foot_g hb); omega)⟩
    have g4 : ∀ b ∈ HLists.foot ⟨⟨some ⟨gG, 0, none⟩, x.Global.length, pG⟩, tG, ⟨A4, tO.length + (0 + 1), c4⟩, tO ++ [⟨none, 0, 0⟩]⟩, w.heap.size < b ∧ b ≠ w1.heap.size := fun b hb => by rcases HLists.mem_foot.1 hb with h1 | h1; (have := l_h b (foot_g h1); have := u_h b (foot_g h1); omega); (rcases f4 b h1 with e | e; (have := l_h b (foot_o e); have := u_h b (foot_o e); omega); omega)
    go_wp2_with fail
    refine bodyPost_ret (v := .agg #[.slice (some ⟨gG, 0, none⟩) x.Global.length pG, .slice A4 (tO.length + (0 + 1)) c4]) (by simp [results, Tryz.results139, go_sem, q_r_0, q_r_1]) rfl ⟨⟨⟨some ⟨gG, 0, none⟩, x.Global.length, pG⟩, tG, ⟨A4, tO.length + (0 + 1), c4⟩, tO ++ [⟨none, 0, 0⟩]⟩, { x with Own := x.Own ++ [[]] }, rfl, o4.chg (F := [w.heap.size, w1.heap.size]) (by repeat (first | with_reducible exact Chg.refl _ _ | with_reducible refine Chg.set_ ?_ (by simp) _ | with_reducible refine Chg.alloc_ ?_ _ | with_reducible refine Chg.drew_ ?_)) (fun b hb hm => by simp only [List.mem_cons, List.not_mem_nil, or_false] at hm; have := g4 b hb; omega), by unfold sizeLists szLL at hsz ⊢; simp; omega, fun b hb => by have := g4 b hb; omega, hc.keepB (B := w.heap.size) hgl (by repeat (first | with_reducible exact Below.refl _ _ | with_reducible refine Below.setCell ?_ (by simp <;> omega) _ | with_reducible refine Below.alloc ?_ (by simp <;> omega) _ | with_reducible refine Below.drew ?_)) hC.size, hC.then_ (by repeat (first | with_reducible exact Below.refl _ _ | with_reducible refine Below.setCell ?_ (by simp <;> omega) _ | with_reducible refine Below.alloc ?_ (by simp <;> omega) _ | with_reducible refine Below.drew ?_))⟩
  have e1' : (k == 1) = false := by simpa using e1
  by_cases e2 : k = 2
  case pos =>
    subst e2
    go_wp2_with fail
    go_region_held3 (fun w' => w'.cell? ⟨w1.heap.size, 0, none⟩ = some (.slice (some ⟨gG, 0, none⟩) x.Global.length pG) ∧ w'.cell? ⟨w1.heap.size, 1, none⟩ = some (.slice (some ⟨gO, 0, none⟩) x.Own.length pO)) (first | (with_reducible exact ⟨q_h_0, q_h_1⟩) | (refine ⟨?_, ?_⟩ <;> (repeat (first | with_reducible assumption | with_reducible refine cell_set_o ?_ (by omega) | with_reducible refine cell_alloc_o ?_ (by omega) | with_reducible refine cell_drew_o ?_)); done) | (go_keep; done)) (first | (go_at_call 63; (first | ((with_reducible refine (l1Below_ct _ g code _ (by unfold I64; omega) hc).mono ?_); rintro e wq ⟨c_, rfl, c0, c1, hcn, hx⟩; replace B_r := B_r.chg hx (by simp only [List.mem_cons, List.not_mem_nil, or_false]; omega); replace B_h := B_h.chg hx (by simp only [List.mem_cons, List.not_mem_nil, or_false]; omega); replace o_h := o_h.chg hx (fun b hb hm => by simp only [List.mem_cons, List.not_mem_nil, or_false] at hm; have := l_h b hb; have := u_h b hb; omega); (try replace o_z := o_z.chg hx (fun b hb hm => by simp only [List.mem_cons, List.not_mem_nil, or_false] at hm; have := l_z b hb; have := u_z b hb; omega)); (try replace B_z := B_z.chg hx (by simp only [List.mem_cons, List.not_mem_nil, or_false]; omega)); (try replace q_z_0 := B_z.cell 0 _ rfl); (try replace q_z_1 := B_z.cell 1 _ rfl); (try replace q_z_2 := B_z.cell 2 _ rfl); (try replace q_z_f := B_z.fro); (try replace z_z := B_z.lt); replace hC := Chg.trans hC hx; replace hc := hcn; have sz := hx.size; replace sC := hC.size; clear hx; replace q_r_0 := B_r.cell 0 _ rfl; replace q_r_1 := B_r.cell 1 _ rfl; replace fr_r := B_r.fro; replace z_r := B_r.lt; replace q_h_0 := B_h.cell 0 _ rfl; replace q_h_1 := B_h.cell 1 _ rfl; replace fr_h := B_h.fro; replace z_h := B_h.lt; obtain ⟨c, rfl⟩ := Int.eq_ofNat_of_zero_le c0; have hcl : c < x.Own.length := (by omega); have hcl2 : (c : Int) < (x.Own.length : Int) := (by omega); have hct : c < tO.length := (by have := HTO.out; omega); have p0 := OwL.cellS o_h.Own.outer (List.getElem?_eq_getElem hct); have pf := OwL.frozen_ o_h.Own.outer c; have zO : gO < wq.heap.size := (by omega)) | ((with_reducible refine (l1Below_ct _ g code _ (by unfold I64; omega) (hc.alloc _)).mono ?_); rintro e wq ⟨c_, rfl, c0, c1, hcn, hx⟩; have ly_r := B_r.lt; have ly_h := B_h.lt; replace B_r := (B_r.alloc _).chg hx (by simp only [List.mem_cons, List.not_mem_nil, or_false]; omega); replace B_h := (B_h.alloc _).chg hx (by simp only [List.mem_cons, List.not_mem_nil, or_false]; omega); replace o_h := (o_h.alloc_ _).chg hx (fun b hb hm => by simp only [List.mem_cons, List.not_mem_nil, or_false] at hm; have := l_h b hb; have := u_h b hb; omega); have B_z := Box.chg (Box.new _ #[.int .i64 1, .int .i64 2, .int .i64 3] 3) hx (by simp only [List.mem_cons, List.not_mem_nil, or_false]; omega); have la_z := hC.size; have q_z_f := B_z.fro; have z_z := B_z.lt; have q_z_0 := B_z.cell 0 _ rfl; have q_z_1 := B_z.cell 1 _ rfl; have q_z_2 := B_z.cell 2 _ rfl; have o_z := OwL.chg (OwL.lit FI [1, 2, 3] #[.int .i64 1, .int .i64 2, .int .i64 3] rfl (by simp [maxLen]) _ 3) hx (fun b hb hm => by have e1 := foot1_some.1 hb; simp only [List.mem_cons, List.not_mem_nil, or_false, size_drew_] at hm e1; omega); replace hC := Chg.trans (hC.alloc_ _) hx; replace hc := hcn; have sz := sz_alloc hx.size; replace sC := hC.size; clear hx; replace q_r_0 := B_r.cell 0 _ rfl; replace q_r_1 := B_r.cell 1 _ rfl; replace fr_r := B_r.fro; replace z_r := B_r.lt; replace q_h_0 := B_h.cell 0 _ rfl; replace q_h_1 := B_h.cell 1 _ rfl; replace fr_h := B_h.fro; replace z_h := B_h.lt; obtain ⟨c, rfl⟩ := Int.eq_ofNat_of_zero_le c0; have hcl : c < x.Own.length := (by omega); have hcl2 : (c : Int) < (x.Own.length : Int) := (by omega); have hct : c < tO.length := (by have := HTO.out; omega); have p0 := OwL.cellS o_h.Own.outer (List.getElem?_eq_getElem hct); have pf := OwL.frozen_ o_h.Own.outer c; have zO : gO < wq.heap.size := (by omega)) | ((with_reducible refine (l1Below_ct _ g code _ (by unfold I64; omega) (hc.drew_)).mono ?_); rintro e wq ⟨c_, rfl, c0, c1, hcn, hx⟩; replace B_r := B_r.drew.chg hx (by simp only [List.mem_cons, List.not_mem_nil, or_false]; omega); replace B_h := B_h.drew.chg hx (by simp only [List.mem_cons, List.not_mem_nil, or_false]; omega); replace o_h := (o_h.drew_).chg hx (fun b hb hm => by simp only [List.mem_cons, List.not_mem_nil, or_false] at hm; have := l_h b hb; have := u_h b hb; omega); (try replace o_z := (o_z.drew_).chg hx (fun b hb hm => by simp only [List.mem_cons, List.not_mem_nil, or_false] at hm; have := l_z b hb; have := u_z b hb; omega)); (try replace B_z := B_z.drew.chg hx (by simp only [List.mem_cons, List.not_mem_nil, or_false]; omega)); (try replace q_z_0 := B_z.cell 0 _ rfl); (try replace q_z_1 := B_z.cell 1 _ rfl); (try replace q_z_2 := B_z.cell 2 _ rfl); (try replace q_z_f := B_z.fro); (try replace z_z := B_z.lt); replace hC := Chg.trans hC.drew_ hx; replace hc := hcn; have sz := sz_drew hx.size; replace sC := hC.size; clear hx; replace q_r_0 := B_r.cell 0 _ rfl; replace q_r_1 := B_r.cell 1 _ rfl; replace fr_r := B_r.fro; replace z_r := B_r.lt; replace q_h_0 := B_h.cell 0 _ rfl; replace q_h_1 := B_h.cell 1 _ rfl; replace fr_h := B_h.fro; replace z_h := B_h.lt; obtain ⟨c, rfl⟩ := Int.eq_ofNat_of_zero_le c0; have hcl : c < x.Own.length := (by omega); have hcl2 : (c : Int) < (x.Own.length : Int) := (by omega); have hct : c < tO.length := (by have := HTO.out; omega); have p0 := OwL.cellS o_h.Own.outer (List.getElem?_eq_getElem hct); have pf := OwL.frozen_ o_h.Own.outer c; have zO : gO < wq.heap.size := (by omega)) | ((with_reducible refine (l1Below_ct _ g code _ (by unfold I64; omega) ((hc.drew_).alloc _)).mono ?_); rintro e wq ⟨c_, rfl, c0, c1, hcn, hx⟩; have ly_r := B_r.lt; have ly_h := B_h.lt; replace B_r := ((B_r.drew).alloc _).chg hx (by simp only [List.mem_cons, List.not_mem_nil, or_false]; omega); replace B_h := ((B_h.drew).alloc _).chg hx (by simp only [List.mem_cons, List.not_mem_nil, or_false]; omega); replace o_h := ((o_h.drew_).alloc_ _).chg hx (fun b hb hm => by simp only [List.mem_cons, List.not_mem_nil, or_false] at hm; have := l_h b hb; have := u_h b hb; omega); have B_z := Box.chg (Box.new _ #[.int .i64 1, .int .i64 2, .int .i64 3] 3) hx (by simp only [List.mem_cons, List.not_mem_nil, or_false]; omega); (try simp only [size_drew_] at B_z); have la_z := hC.size; have q_z_f := B_z.fro; have z_z := B_z.lt; have q_z_0 := B_z.cell 0 _ rfl; have q_z_1 := B_z.cell 1 _ rfl; have q_z_2 := B_z.cell 2 _ rfl; have o_z := OwL.chg (OwL.lit FI [1, 2, 3] #[.int .i64 1, .int .i64 2, .int .i64 3] rfl (by simp [maxLen]) _ 3) hx (fun b hb hm => by have e1 := foot1_some.1 hb; simp only [List.mem_cons, List.not_mem_nil, or_false, size_drew_] at hm e1; omega); (try simp only [size_drew_] at o_z); replace hC := Chg.trans (hC.drew_.alloc_ _) hx; replace hc := hcn; have sz := sz_alloc_drew hx.size; replace sC := hC.size; clear hx; replace q_r_0 := B_r.cell 0 _ rfl; replace q_r_1 := B_r.cell 1 _ rfl; replace fr_r := B_r.fro; replace z_r := B_r.lt; replace q_h_0 := B_h.cell 0 _ rfl; replace q_h_1 := B_h.cell 1 _ rfl; replace fr_h := B_h.fro; replace z_h := B_h.lt; obtain ⟨c, rfl⟩ := Int.eq_ofNat_of_zero_le c0; have hcl : c < x.Own.length := (by omega); have hcl2 : (c : Int) < (x.Own.length : Int) := (by omega); have hct : c < tO.length := (by have := HTO.out; omega); have p0 := OwL.cellS o_h.Own.outer (List.getElem?_eq_getElem hct); have pf := OwL.frozen_ o_h.Own.outer c; have zO : gO < wq.heap.size := (by omega)) | ((with_reducible refine (l1Below_ct _ g code _ (by unfold I64; omega) ((hc.alloc _).drew_)).mono ?_); rintro e wq ⟨c_, rfl, c0, c1, hcn, hx⟩; have ly_r := B_r.lt; have ly_h := B_h.lt; replace B_r := (B_r.alloc _).drew.chg hx (by simp only [List.mem_cons, List.not_mem_nil, or_false]; omega); replace B_h := (B_h.alloc _).drew.chg hx (by simp only [List.mem_cons, List.not_mem_nil, or_false]; omega); replace o_h := ((o_h.alloc_ _).drew_).chg hx (fun b hb hm => by simp only [List.mem_cons, List.not_mem_nil, or_false] at hm; have := l_h b hb; have := u_h b hb; omega); have B_z := Box.chg (Box.new _ #[.int .i64 1, .int .i64 2, .int .i64 3] 3).drew hx (by simp only [List.mem_cons, List.not_mem_nil, or_false]; omega); have la_z := hC.size; have q_z_f := B_z.fro; have z_z := B_z.lt; have q_z_0 := B_z.cell 0 _ rfl; have q_z_1 := B_z.cell 1 _ rfl; have q_z_2 := B_z.cell 2 _ rfl; have o_z := OwL.chg (OwL.lit FI [1, 2, 3] #[.int .i64 1, .int .i64 2, .int .i64 3] rfl (by simp [maxLen]) _ 3).drew_ hx (fun b hb hm => by have e1 := foot1_some.1 hb; simp only [List.mem_cons, List.not_mem_nil, or_false, size_drew_] at hm e1; omega); replace hC := Chg.trans (hC.alloc_ _).drew_ hx; replace hc := hcn; have sz := sz_alloc (sz_drew hx.size); replace sC := hC.size; clear hx; replace q_r_0 := B_r.cell 0 _ rfl; replace q_r_1 := B_r.cell 1 _ rfl; replace fr_r := B_r.fro; replace z_r := B_r.lt; replace q_h_0 := B_h.cell 0 _ rfl; replace q_h_1 := B_h.cell 1 _ rfl; replace fr_h := B_h.fro; replace z_h := B_h.lt; obtain ⟨c, rfl⟩ := Int.eq_ofNat_of_zero_le c0; have hcl : c < x.Own.length := (by omega); have hcl2 : (c : Int) < (x.Own.length : Int) := (by omega); have hct : c < tO.length := (by have := HTO.out; omega); have p0 := OwL.cellS o_h.Own.outer (List.getElem?_eq_getElem hct); have pf := OwL.frozen_ o_h.Own.outer c; have zO : gO < wq.heap.size := (by omega)))))
    all_goals
      have hts : tO[c]? = some tO[c] := List.getElem?_eq_getElem hct
      go_wp2_with fail
      first
      | ((have oz := OwL.lit FI [1, 2, 3] #[.int .i64 1, .int .i64 2, .int .i64 3] rfl (by simp [maxLen]) wq 3); (have s1 := (o_h.Own.alloc_ (.cells #[.int .i64 1, .int .i64 2, .int .i64 3] 3)).set_sv (s := (⟨some ⟨wq.heap.size, 0, none⟩, 3, 3⟩ : SV)) hts oz (fun b hb hm => by have e1 := foot1_some.1 hb; have := u_h b (foot_o hm); omega)); simp only [SV.val] at s1; (have oW : OwLists ((wq.alloc (.cells #[.int .i64 1, .int .i64 2, .int .i64 3] 3)).setCell ⟨gO, c, none⟩ (.slice (some ⟨wq.heap.size, 0, none⟩) 3 3)) ⟨⟨some ⟨gG, 0, none⟩, x.Global.length, pG⟩, tG, ⟨some ⟨gO, 0, none⟩, x.Own.length, pO⟩, tO.set c ⟨some ⟨wq.heap.size, 0, none⟩, 3, 3⟩⟩ { x with Own := x.Own.set c [1, 2, 3] } := ⟨o_h.Global.chg (F := [gO]) (by repeat (first | with_reducible exact Chg.refl _ _ | with_reducible refine Chg.set_ ?_ (by simp) _ | with_reducible refine Chg.alloc_ ?_ _ | with_reducible refine Chg.drew_ ?_)) (fun b hb hm => by simp only [List.mem_cons, List.not_mem_nil, or_false] at hm; exact hOG b hb hm), s1, fun b hb hm => by rcases foot2_set hm with h1 | h1; (exact D01 b hb h1); (have e1 := foot1_some.1 h1; have := u_h b (foot_g hb); omega)⟩); (have gW : ∀ b ∈ HLists.foot ⟨⟨some ⟨gG, 0, none⟩, x.Global.length, pG⟩, tG, ⟨some ⟨gO, 0, none⟩, x.Own.length, pO⟩, tO.set c ⟨some ⟨wq.heap.size, 0, none⟩, 3, 3⟩⟩, w.heap.size < b ∧ b ≠ w1.heap.size := fun b hb => by rcases HLists.mem_foot.1 hb with h1 | h1; (have := l_h b (foot_g h1); have := u_h b (foot_g h1); omega); (rcases foot2_set h1 with e | e; (have := l_h b (foot_o e); have := u_h b (foot_o e); omega); (have e1 := foot1_some.1 e; omega))); (have oF := oW.chg (F := [w.heap.size]) (w' := (((wq.alloc (.cells #[.int .i64 1, .int .i64 2, .int .i64 3] 3)).setCell ⟨gO, c, none⟩ (.slice (some ⟨wq.heap.size, 0, none⟩) 3 3)).setCell ⟨w.heap.size, 0, none⟩ (.slice (some ⟨gG, 0, none⟩) x.Global.length pG)).setCell ⟨w.heap.size, 1, none⟩ (.slice (some ⟨gO, 0, none⟩) x.Own.length pO)) (by repeat (first | with_reducible exact Chg.refl _ _ | with_reducible refine Chg.set_ ?_ (by simp) _ | with_reducible refine Chg.alloc_ ?_ _ | with_reducible refine Chg.drew_ ?_)) (fun b hb hm => by simp only [List.mem_cons, List.not_mem_nil, or_false] at hm; have := gW b hb; omega)); rw [World.setCell_alloc_past _ _ _ _ zO, World.setCell_alloc_past _ _ _ _ (show w.heap.size < (wq.setCell _ _).heap.size by simpa using z_r), World.setCell_alloc_past _ _ _ _ (show w.heap.size < ((wq.setCell _ _).setCell _ _).heap.size by simpa using z_r)] at oF; (have hbx := (((B_r.other (g' := gO) (i := c) (by omega) (.slice (some ⟨wq.heap.size, 0, none⟩) 3 3)).set 0 (.slice (some ⟨gG, 0, none⟩) x.Global.length pG)).set 1 (.slice (some ⟨gO, 0, none⟩) x.Own.length pO)).alloc (.cells #[.int .i64 1, .int .i64 2, .int .i64 3] 3)); (have qx0 := hbx.cell 0 _ rfl); (have qx1 := hbx.cell 1 _ rfl); (refine bodyPost_ret (v := .agg #[.slice (some ⟨gG, 0, none⟩) x.Global.length pG, .slice (some ⟨gO, 0, none⟩) x.Own.length pO]) (by simp [results, Tryz.results139, go_sem, qx0, qx1]) rfl ⟨⟨⟨some ⟨gG, 0, none⟩, x.Global.length, pG⟩, tG, ⟨some ⟨gO, 0, none⟩, x.Own.length, pO⟩, tO.set c ⟨some ⟨wq.heap.size, 0, none⟩, 3, 3⟩⟩, { x with Own := x.Own.set c [1, 2, 3] }, rfl, oF, (by have := szLL_set_le x.Own c [1, 2, 3]; unfold sizeLists at hsz ⊢; simp only [List.length_cons, List.length_nil] at *; omega), (fun b hb => by have := gW b hb; omega), hc.keepB (B := w.heap.size) hgl (by repeat (first | with_reducible exact Below.refl _ _ | with_reducible refine Below.setCell ?_ (by simp <;> omega) _ | with_reducible refine Below.alloc ?_ (by simp <;> omega) _ | with_reducible refine Below.drew ?_)) hC.size, hC.then_ (by repeat (first | with_reducible exact Below.refl _ _ | with_reducible refine Below.setCell ?_ (by simp <;> omega) _ | with_reducible refine Below.alloc ?_ (by simp <;> omega) _ | with_reducible refine Below.drew ?_))⟩))
      | ((have s1 := o_h.Own.set_sv (s := (⟨some ⟨w3.heap.size, 0, none⟩, 3, 3⟩ : SV)) hts o_z (fun b hb hm => by have e1 := foot1_some.1 hb; have := u_h b (foot_o hm); omega)); simp only [SV.val] at s1; (have oW : OwLists (wq.setCell ⟨gO, c, none⟩ (.slice (some ⟨w3.heap.size, 0, none⟩) 3 3)) ⟨⟨some ⟨gG, 0, none⟩, x.Global.length, pG⟩, tG, ⟨some ⟨gO, 0, none⟩, x.Own.length, pO⟩, tO.set c ⟨some ⟨w3.heap.size, 0, none⟩, 3, 3⟩⟩ { x with Own := x.Own.set c [1, 2, 3] } := ⟨o_h.Global.chg (F := [gO]) (by repeat (first | with_reducible exact Chg.refl _ _ | with_reducible refine Chg.set_ ?_ (by simp) _ | with_reducible refine Chg.alloc_ ?_ _ | with_reducible refine Chg.drew_ ?_)) (fun b hb hm => by simp only [List.mem_cons, List.not_mem_nil, or_false] at hm; exact hOG b hb hm), s1, fun b hb hm => by rcases foot2_set hm with h1 | h1; (exact D01 b hb h1); (have e1 := foot1_some.1 h1; have := u_h b (foot_g hb); omega)⟩); (have gW : ∀ b ∈ HLists.foot ⟨⟨some ⟨gG, 0, none⟩, x.Global.length, pG⟩, tG, ⟨some ⟨gO, 0, none⟩, x.Own.length, pO⟩, tO.set c ⟨some ⟨w3.heap.size, 0, none⟩, 3, 3⟩⟩, w.heap.size < b ∧ b ≠ w1.heap.size := fun b hb => by rcases HLists.mem_foot.1 hb with h1 | h1; (have := l_h b (foot_g h1); have := u_h b (foot_g h1); omega); (rcases foot2_set h1 with e | e; (have := l_h b (foot_o e); have := u_h b (foot_o e); omega); (have e1 := foot1_some.1 e; omega))); (have oF := oW.chg (F := [w.heap.size]) (w' := ((wq.setCell ⟨gO, c, none⟩ (.slice (some ⟨w3.heap.size, 0, none⟩) 3 3)).setCell ⟨w.heap.size, 0, none⟩ (.slice (some ⟨gG, 0, none⟩) x.Global.length pG)).setCell ⟨w.heap.size, 1, none⟩ (.slice (some ⟨gO, 0, none⟩) x.Own.length pO)) (by repeat (first | with_reducible exact Chg.refl _ _ | with_reducible refine Chg.set_ ?_ (by simp) _ | with_reducible refine Chg.alloc_ ?_ _ | with_reducible refine Chg.drew_ ?_)) (fun b hb hm => by simp only [List.mem_cons, List.not_mem_nil, or_false] at hm; have := gW b hb; omega)); (refine bodyPost_ret (v := .agg #[.slice (some ⟨gG, 0, none⟩) x.Global.length pG, .slice (some ⟨gO, 0, none⟩) x.Own.length pO]) (by simp [results, Tryz.results139, go_sem, q_r_0, q_r_1]) rfl ⟨⟨⟨some ⟨gG, 0, none⟩, x.Global.length, pG⟩, tG, ⟨some ⟨gO, 0, none⟩, x.Own.length, pO⟩, tO.set c ⟨some ⟨w3.heap.size, 0, none⟩, 3, 3⟩⟩, { x with Own := x.Own.set c [1, 2, 3] }, rfl, oF, (by have := szLL_set_le x.Own c [1, 2, 3]; unfold sizeLists at hsz ⊢; simp only [List.length_cons, List.length_nil] at *; omega), (fun b hb => by have := gW b hb; omega), hc.keepB (B := w.heap.size) hgl (by repeat (first | with_reducible exact Below.refl _ _ | with_reducible refine Below.setCell ?_ (by simp <;> omega) _ | with_reducible refine Below.alloc ?_ (by simp <;> omega) _ | with_reducible refine Below.drew ?_)) hC.size, hC.then_ (by repeat (first | with_reducible exact Below.refl _ _ | with_reducible refine Below.setCell ?_ (by simp <;> omega) _ | with_reducible refine Below.alloc ?_ (by simp <;> omega) _ | with_reducible refine Below.drew ?_))⟩))
  have e2' : (k == 2) = false := by simpa using e2
  by_cases e3 : k = 3
  case pos =>
    subst e3
    go_wp2_with fail
    refine (l1Below_ct _ g code 3 (by unfold I64; omega) hc).mono ?_
    rintro e w61 ⟨kk_, rfl, kk0, kk1, hcn, hx⟩
    replace hc := hcn
    replace B_r := B_r.chg hx (by simp only [List.mem_cons, List.not_mem_nil, or_false]; omega)
    replace B_h := B_h.chg hx (by simp only [List.mem_cons, List.not_mem_nil, or_false]; omega)
    replace o_h := o_h.chg hx (fun b hb hm => by simp only [List.mem_cons, List.not_mem_nil, or_false] at hm; have := l_h b hb; have := u_h b hb; omega)
    replace hC := hC.trans hx
    have sz := hx.size
    replace sC := hC.size
    clear hx
    skip
    replace q_r_0 := B_r.cell 0 _ rfl
    replace q_r_1 := B_r.cell 1 _ rfl
    replace fr_r := B_r.fro
    replace z_r := B_r.lt
    replace q_h_0 := B_h.cell 0 _ rfl
    replace q_h_1 := B_h.cell 1 _ rfl
    replace fr_h := B_h.fro
    replace z_h := B_h.lt
    obtain ⟨kk, rfl⟩ := Int.eq_ofNat_of_zero_le kk0
    have hkl : kk < x.Global.length := by omega
    have hkl2 : (kk : Int) < (x.Global.length : Int) := by omega
    obtain ⟨s, hsv⟩ : ∃ s, tG[kk]? = some s := ⟨_, List.getElem?_eq_getElem (by rw [HTG.out]; exact hkl)⟩
    have HV := Hid.mk_ hsv
    clear hsv
    obtain ⟨l, hl⟩ : ∃ l, x.Global[kk]? = some l := ⟨_, List.getElem?_eq_getElem hkl⟩
    have HLL := Hid.mk_ hl
    have hll : l.length ≤ 25 := by have := le_szLL (List.mem_of_getElem? hl); unfold sizeLists at hsz; omega
    clear hl
    have hsf : ∀ b ∈ foot1 s.val, b ∈ foot2 (.slice (some ⟨gG, 0, none⟩) x.Global.length pG) tG := fun b hb => mem_foot2.2 (.inr ⟨s, List.mem_of_getElem? HV.out, mem_foot1.1 hb⟩)
    have hin := o_h.Global.inner kk s l HV.out HLL.out
    have p0 := OwL.cellS o_h.Global.outer HV.out
    have pf := OwL.frozen_ o_h.Global.outer kk
    have zG : gG < w61.heap.size := by omega
    have hne := o_h.Global.head_ne HV.out
    have hnh : w1.heap.size ∉ foot1 s.val := fun hm => by have := u_h _ (foot_g (hsf _ hm)); omega
    have hnr : w.heap.size ∉ foot1 s.val := fun hm => by have := l_h _ (foot_g (hsf _ hm)); omega
    go_wp2_with fail
    refine wp_region_held_drew (S := (fun w' => w'.cell? ⟨w1.heap.size, 0, none⟩ = some (.slice (some ⟨gG, 0, none⟩) x.Global.length pG) ∧ w'.cell? ⟨w1.heap.size, 1, none⟩ = some (.slice (some ⟨gO, 0, none⟩) x.Own.length pO))) (by kernel_rfl) ?hd (fun hHeld => ?hr)
    case hd =>
      (try dsimp only)
      (first | (with_reducible exact ⟨q_h_0, q_h_1⟩) | (refine ⟨?_, ?_⟩ <;> (repeat (first | with_reducible assumption | with_reducible refine cell_set_o ?_ (by omega) | with_reducible refine cell_alloc_o ?_ (by omega) | with_reducible refine cell_drew_o ?_)); done) | (go_keep; done))
    case hr =>
      refine wpAnyH_take (i := 0) (v := ?_) rfl (by kernel_rfl) (by kernel_rfl) (by kernel_rfl) (fun _ _ _ h => h) (Or.inl ⟨by kernel_rfl, ?_⟩) (by assumption) ?_
      rotate_left
      · (intro wz hSw; (try dsimp only at hSw); go_simp; (try with_reducible rfl))
      try simp only [List.getElem_toArray, List.getElem_cons_succ, List.getElem_cons_zero, Act.put, List.setIfInBounds_toArray, List.set_cons_zero, List.set_cons_succ]
      refine wpAnyH_take (i := 1) (v := ?_) rfl (by kernel_rfl) (by kernel_rfl) (by kernel_rfl) (fun _ _ _ h => h) (Or.inl ⟨by kernel_rfl, ?_⟩) (by assumption) ?_
      rotate_left
      · (intro wz hSw; (try dsimp only at hSw); go_simp; (try with_reducible rfl))
      try simp only [List.getElem_toArray, List.getElem_cons_succ, List.getElem_cons_zero, Act.put, List.setIfInBounds_toArray, List.set_cons_zero, List.set_cons_succ]
      refine wpAnyH_take (i := 2) (v := ?_) rfl (by kernel_rfl) (by kernel_rfl) (by kernel_rfl) (fun _ _ _ h => h) (Or.inl ⟨by kernel_rfl, ?_⟩) (by assumption) ?_
      rotate_left
      · (intro wz hSw; (try dsimp only at hSw); go_simp; (try with_reducible rfl))
      try simp only [List.getElem_toArray, List.getElem_cons_succ, List.getElem_cons_zero, Act.put, List.setIfInBounds_toArray, List.set_cons_zero, List.set_cons_succ]
      refine wpAnyH_take (i := 3) (v := ?_) rfl (by kernel_rfl) (by kernel_rfl) (by kernel_rfl) (fun _ _ _ h => h) (Or.inl ⟨by kernel_rfl, ?_⟩) (by assumption) ?_
      rotate_left
      · (intro wz hSw; (try dsimp only at hSw); go_simp; (try with_reducible rfl))
      try simp only [List.getElem_toArray, List.getElem_cons_succ, List.getElem_cons_zero, Act.put, List.setIfInBounds_toArray, List.set_cons_zero, List.set_cons_succ]
      refine wpAnyH_take (i := 4) (v := ?_) rfl (by kernel_rfl) (by kernel_rfl) (by kernel_rfl) (fun _ _ _ h => h) (Or.inl ⟨by kernel_rfl, ?_⟩) (by assumption) ?_
      rotate_left
      · (intro wz hSw; (try dsimp only at hSw); go_simp; (try with_reducible rfl))
      try simp only [List.getElem_toArray, List.getElem_cons_succ, List.getElem_cons_zero, Act.put, List.setIfInBounds_toArray, List.set_cons_zero, List.set_cons_succ]
      refine wpAnyH_take (i := 5) (v := ?_) rfl (by kernel_rfl) (by kernel_rfl) (by kernel_rfl) (fun _ _ _ h => h) (Or.inl ⟨by kernel_rfl, ?_⟩) (by assumption) ?_
      rotate_left
      · (intro wz hSw; (try dsimp only at hSw); go_simp; (try with_reducible rfl))
      try simp only [List.getElem_toArray, List.getElem_cons_succ, List.getElem_cons_zero, Act.put, List.setIfInBounds_toArray, List.set_cons_zero, List.set_cons_succ]
      refine wpAnyH_take (i := 6) (v := ?_) rfl (by kernel_rfl) (by kernel_rfl) (by kernel_rfl) (fun _ _ _ h => h) (Or.inl ⟨by kernel_rfl, ?_⟩) (by assumption) ?_
      rotate_left
      · (intro wz hSw; (try dsimp only at hSw); go_simp; (try with_reducible rfl))
      try simp only [List.getElem_toArray, List.getElem_cons_succ, List.getElem_cons_zero, Act.put, List.setIfInBounds_toArray, List.set_cons_zero, List.set_cons_succ]
      refine wpAnyH_take (i := 7) (v := ?_) rfl (by kernel_rfl) (by kernel_rfl) (by kernel_rfl) (fun _ _ _ h => h) (Or.inl ⟨by kernel_rfl, ?_⟩) (by assumption) ?_
      rotate_left
      · (intro wz hSw; (try dsimp only at hSw); go_simp; (try with_reducible rfl))
      try simp only [List.getElem_toArray, List.getElem_cons_succ, List.getElem_cons_zero, Act.put, List.setIfInBounds_toArray, List.set_cons_zero, List.set_cons_succ]
      refine wpAnyH_take (i := 9) (v := ?_) rfl (by kernel_rfl) (by kernel_rfl) (by kernel_rfl) (fun _ _ _ h => h) (Or.inl ⟨by kernel_rfl, ?_⟩) (by assumption) ?_
      rotate_left
      · (intro wz hSw; (try dsimp only at hSw); go_simp; (try with_reducible rfl))
      try simp only [List.getElem_toArray, List.getElem_cons_succ, List.getElem_cons_zero, Act.put, List.setIfInBounds_toArray, List.set_cons_zero, List.set_cons_succ]
      refine wpAnyH_ready (rs := [8, 10]) (by kernel_rfl) (by simp) ?_
      refine (AllReadyH.cons rfl (fun K hK => ?_) (AllReadyH.cons rfl (fun K hK => ?_) AllReadyH.nil))
      · go_simp
        refine hK.out _ _ ?hS (fun hHeld => ?hr)
        case hS =>
          (try dsimp only)
          (first | (with_reducible exact ⟨q_h_0, q_h_1⟩) | (refine ⟨?_, ?_⟩ <;> (repeat (first | with_reducible assumption | with_reducible refine cell_set_o ?_ (by omega) | with_reducible refine cell_alloc_o ?_ (by omega) | with_reducible refine cell_drew_o ?_)); done) | (go_keep; done))
        case hr =>
          clear hK K
          try simp only [List.getElem_toArray, List.getElem_cons_succ, List.getElem_cons_zero, Act.put, List.setIfInBounds_toArray, List.set_cons_zero, List.set_cons_succ]
          refine wpAnyH_ready (rs := [10]) (by kernel_rfl) (by simp) ?_
          refine (AllReadyH.cons rfl (fun K hK => ?_) AllReadyH.nil)
          go_simp
          refine hK.out _ _ ?hS (fun hHeld => ?hr)
          case hS =>
            (try dsimp only)
            (first | (with_reducible exact ⟨q_h_0, q_h_1⟩) | (refine ⟨?_, ?_⟩ <;> (repeat (first | with_reducible assumption | with_reducible refine cell_set_o ?_ (by omega) | with_reducible refine cell_alloc_o ?_ (by omega) | with_reducible refine cell_drew_o ?_)); done) | (go_keep; done))
          case hr =>
            clear hK K
            try simp only [List.getElem_toArray, List.getElem_cons_succ, List.getElem_cons_zero, Act.put, List.setIfInBounds_toArray, List.set_cons_zero, List.set_cons_succ]
            refine wpAnyH_ready (rs := [11]) (by kernel_rfl) (by simp) ?_
            refine (AllReadyH.cons rfl (fun K hK => ?_) AllReadyH.nil)
            go_simp
            (go_at_call 64; (first | ((with_reducible refine (l1PickB_ct _ g _ code [-1, 24, 5, 6] _ 4 (show Box _ _ [.int .i64 (-1), .int .i64 24, .int .i64 5, .int .i64 6] from (Box.new _ #[.int .i64 (-1), .int .i64 24, .int .i64 5, .int .i64 6] 3)) (by simp) (by simp) (by simp; omega) (by decide) (by decide) (hc.alloc _)).mono ?_); rintro e wq ⟨y, rfl, hy, hcn, hx⟩; replace B_h := (B_h.alloc _).chg hx (by simp only [List.mem_cons, List.not_mem_nil, or_false]; omega); replace B_r := (B_r.alloc _).chg hx (by simp only [List.mem_cons, List.not_mem_nil, or_false]; omega); replace o_h := (o_h.alloc_ _).chg hx (fun b hb hm => by simp only [List.mem_cons, List.not_mem_nil, or_false] at hm; have := l_h b hb; have := u_h b hb; omega); replace hC := Chg.trans (hC.alloc_ _) hx; replace hc := hcn; have sz := hx.size; (try simp only [World.size_alloc, size_drew_] at sz); replace sC := hC.size; clear hx; replace q_h_0 := B_h.cell 0 _ rfl; replace q_h_1 := B_h.cell 1 _ rfl; replace q_r_0 := B_r.cell 0 _ rfl; replace q_r_1 := B_r.cell 1 _ rfl; replace fr_h := B_h.fro; replace z_h := B_h.lt; replace fr_r := B_r.fro; replace z_r := B_r.lt; replace hin := o_h.Global.inner kk s l HV.out HLL.out; replace p0 := OwL.cellS o_h.Global.outer HV.out; replace pf := OwL.frozen_ o_h.Global.outer kk; replace zG : gG < wq.heap.size := (by omega); clear hy) | ((with_reducible refine (l1PickB_ct _ g _ code [-1, 24, 5, 6] _ 4 (show Box _ _ [.int .i64 (-1), .int .i64 24, .int .i64 5, .int .i64 6] from (Box.new _ #[.int .i64 (-1), .int .i64 24, .int .i64 5, .int .i64 6] 3)) (by simp) (by simp) (by simp; omega) (by decide) (by decide) ((hc.drew_).alloc _)).mono ?_); rintro e wq ⟨y, rfl, hy, hcn, hx⟩; replace B_h := ((B_h.drew).alloc _).chg hx (by simp only [List.mem_cons, List.not_mem_nil, or_false]; omega); replace B_r := ((B_r.drew).alloc _).chg hx (by simp only [List.mem_cons, List.not_mem_nil, or_false]; omega); replace o_h := ((o_h.drew_).alloc_ _).chg hx (fun b hb hm => by simp only [List.mem_cons, List.not_mem_nil, or_false] at hm; have := l_h b hb; have := u_h b hb; omega); replace hC := Chg.trans (hC.drew_.alloc_ _) hx; replace hc := hcn; have sz := hx.size; (try simp only [World.size_alloc, size_drew_] at sz); replace sC := hC.size; clear hx; replace q_h_0 := B_h.cell 0 _ rfl; replace q_h_1 := B_h.cell 1 _ rfl; replace q_r_0 := B_r.cell 0 _ rfl; replace q_r_1 := B_r.cell 1 _ rfl; replace fr_h := B_h.fro; replace z_h := B_h.lt; replace fr_r := B_r.fro; replace z_r := B_r.lt; replace hin := o_h.Global.inner kk s l HV.out HLL.out; replace p0 := OwL.cellS o_h.Global.outer HV.out; replace pf := OwL.frozen_ o_h.Global.outer kk; replace zG : gG < wq.heap.size := (by omega); clear hy) | ((with_reducible refine (l1PickB_ct _ g _ code [-1, 24, 5, 6] _ 4 (show Box _ _ [.int .i64 (-1), .int .i64 24, .int .i64 5, .int .i64 6] from (Box.new _ #[.int .i64 (-1), .int .i64 24, .int .i64 5, .int .i64 6] 3).drew) (by simp) (by simp) (by simp; omega) (by decide) (by decide) ((hc.alloc _).drew_)).mono ?_); rintro e wq ⟨y, rfl, hy, hcn, hx⟩; replace B_h := (B_h.alloc _).drew.chg hx (by simp only [List.mem_cons, List.not_mem_nil, or_false]; omega); replace B_r := (B_r.alloc _).drew.chg hx (by simp only [List.mem_cons, List.not_mem_nil, or_false]; omega); replace o_h := ((o_h.alloc_ _).drew_).chg hx (fun b hb hm => by simp only [List.mem_cons, List.not_mem_nil, or_false] at hm; have := l_h b hb; have := u_h b hb; omega); replace hC := Chg.trans (hC.alloc_ _).drew_ hx; replace hc := hcn; have sz := hx.size; (try simp only [World.size_alloc, size_drew_] at sz); replace sC := hC.size; clear hx; replace q_h_0 := B_h.cell 0 _ rfl; replace q_h_1 := B_h.cell 1 _ rfl; replace q_r_0 := B_r.cell 0 _ rfl; replace q_r_1 := B_r.cell 1 _ rfl; replace fr_h := B_h.fro; replace z_h := B_h.lt; replace fr_r := B_r.fro; replace z_r := B_r.lt; replace hin := o_h.Global.inner kk s l HV.out HLL.out; replace p0 := OwL.cellS o_h.Global.outer HV.out; replace pf := OwL.frozen_ o_h.Global.outer kk; replace zG : gG < wq.heap.size := (by omega); clear hy)))
            (try go_wp2_with fail)
            refine hK.out _ _ ?hS (fun hHeld => ?hr)
            case hS =>
              (try dsimp only)
              (first | (with_reducible exact ⟨q_h_0, q_h_1⟩) | (refine ⟨?_, ?_⟩ <;> (repeat (first | with_reducible assumption | with_reducible refine cell_set_o ?_ (by omega) | with_reducible refine cell_alloc_o ?_ (by omega) | with_reducible refine cell_drew_o ?_)); done) | (go_keep; done))
            case hr =>
              clear hK K
              try simp only [List.getElem_toArray, List.getElem_cons_succ, List.getElem_cons_zero, Act.put, List.setIfInBounds_toArray, List.set_cons_zero, List.set_cons_succ]
              refine wpAnyH_ready (rs := [12]) (by kernel_rfl) (by simp) ?_
              refine (AllReadyH.cons rfl (fun K hK => ?_) AllReadyH.nil)
              go_simp
              refine hK.out _ _ ?hS (fun hHeld => ?hr)
              case hS =>
                (try dsimp only)
                (first | (with_reducible exact ⟨q_h_0, q_h_1⟩) | (refine ⟨?_, ?_⟩ <;> (repeat (first | with_reducible assumption | with_reducible refine cell_set_o ?_ (by omega) | with_reducible refine cell_alloc_o ?_ (by omega) | with_reducible refine cell_drew_o ?_)); done) | (go_keep; done))
              case hr =>
                clear hK K
                try simp only [List.getElem_toArray, List.getElem_cons_succ, List.getElem_cons_zero, Act.put, List.setIfInBounds_toArray, List.set_cons_zero, List.set_cons_succ]
                refine wpAnyH_ready (rs := [13]) (by kernel_rfl) (by simp) ?_
                refine (AllReadyH.cons rfl (fun K hK => ?_) AllReadyH.nil)
                (refine step_append_flat Tryz.stInt rfl (.tmp 47) (.tmp 51) rfl (v := s.val) (y := .slice (some ⟨wq.heap.size, 0, none⟩) 1 1) (l := l) (m := [y]) (by simp [Act.eval, SV.val]) (by simp [Act.eval]) (OwL.alloc_ hin _) (OwL.lit FI [y] #[.int .i64 y] rfl (by simp [maxLen]) wq 3).rd' (by simp; omega) ?_; intro v5 w5 ho5 hg5 hat5; obtain ⟨A5, c5, hv5, _⟩ := id ho5.rd'; simp only [List.length_append, List.length_cons, List.length_nil] at hv5; subst hv5; have hx5 := Chg.of_grown hg5; have hf5 := (hx5.frozen gG kk (by simp; omega) hne).trans ((cell_old_frozen wq _ gG kk zG).trans pf); have hp5 := (hx5.cell gG kk (by simp; omega) hne).trans ((cell_old wq _ gG kk zG).trans p0); replace B_h := (B_h.alloc (.cells #[.int .i64 y] 3)).chg hx5 hnh; replace B_r := (B_r.alloc (.cells #[.int .i64 y] 3)).chg hx5 hnr; replace q_h_0 := B_h.cell 0 _ rfl; replace q_h_1 := B_h.cell 1 _ rfl; replace q_r_0 := B_r.cell 0 _ rfl; replace q_r_1 := B_r.cell 1 _ rfl; replace fr_h := B_h.fro; replace z_h := B_h.lt; replace fr_r := B_r.fro; replace z_r := B_r.lt; have zG5 : gG < w5.heap.size := Nat.lt_of_lt_of_le zG (Nat.le_trans (by simp) hx5.size))
                refine hK.out _ _ ?hS (fun hHeld => ?hr)
                case hS =>
                  (try dsimp only)
                  (first | (with_reducible exact ⟨q_h_0, q_h_1⟩) | (refine ⟨?_, ?_⟩ <;> (repeat (first | with_reducible assumption | with_reducible refine cell_set_o ?_ (by omega) | with_reducible refine cell_alloc_o ?_ (by omega) | with_reducible refine cell_drew_o ?_)); done) | (go_keep; done))
                case hr =>
                  clear hK K
                  try simp only [List.getElem_toArray, List.getElem_cons_succ, List.getElem_cons_zero, Act.put, List.setIfInBounds_toArray, List.set_cons_zero, List.set_cons_succ]
                  refine wpAnyH_take (i := 14) (v := ?_) rfl (by kernel_rfl) (by kernel_rfl) (by kernel_rfl) (fun _ _ _ h => h) (Or.inl ⟨by kernel_rfl, ?_⟩) (by assumption) ?_
                  rotate_left
                  · (intro wz hSw; (try dsimp only at hSw); go_simp; (try with_reducible rfl))
                  try simp only [List.getElem_toArray, List.getElem_cons_succ, List.getElem_cons_zero, Act.put, List.setIfInBounds_toArray, List.set_cons_zero, List.set_cons_succ]
                  refine wpAnyH_take (i := 15) (v := ?_) rfl (by kernel_rfl) (by kernel_rfl) (by kernel_rfl) (fun _ _ _ h => h) (Or.inl ⟨by kernel_rfl, ?_⟩) (by assumption) ?_
                  rotate_left
                  · (intro wz hSw; (try dsimp only at hSw); go_simp; (try with_reducible rfl))
                  try simp only [List.getElem_toArray, List.getElem_cons_succ, List.getElem_cons_zero, Act.put, List.setIfInBounds_toArray, List.set_cons_zero, List.set_cons_succ]
                  refine wpAnyH_ready (rs := [16]) (by kernel_rfl) (by simp) ?_
                  refine (AllReadyH.cons rfl (fun K hK => ?_) AllReadyH.nil)
                  go_simp
                  refine hK.out _ _ ?hS (fun hHeld => ?hr)
                  case hS =>
                    (try dsimp only)
                    (first | (with_reducible exact ⟨q_h_0, q_h_1⟩) | (refine ⟨?_, ?_⟩ <;> (repeat (first | with_reducible assumption | with_reducible refine cell_set_o ?_ (by omega) | with_reducible refine cell_alloc_o ?_ (by omega) | with_reducible refine cell_drew_o ?_)); done) | (go_keep; done))
                  case hr =>
                    clear hK K
                    try simp only [List.getElem_toArray, List.getElem_cons_succ, List.getElem_cons_zero, Act.put, List.setIfInBounds_toArray, List.set_cons_zero, List.set_cons_succ]
                    refine wpAnyH_done (by kernel_rfl) ?_ _
                    have hN := OwLL.app_row (s' := ⟨A5, l.length + (0 + 1), c5⟩) (o_h.Global.alloc_ (.cells #[.int .i64 y] 3)) HV.out ho5 hg5 hat5
                    simp only [SV.val] at hN
                    have f5 : ∀ b ∈ foot2 (.slice (some ⟨gG, 0, none⟩) x.Global.length pG) (tG.set kk ⟨A5, l.length + (0 + 1), c5⟩), b ∈ foot2 (.slice (some ⟨gG, 0, none⟩) x.Global.length pG) tG ∨ b = wq.heap.size + 1 := fun b hb => by
                      rcases foot2_set hb with h1 | h1
                      · exact .inl h1
                      · have h3 : (Value.slice A5 (l.length + (0 + 1)) c5).ownBlock = some b := mem_foot1.1 h1; rcases hat5 with h2 | h2; (rw [h2] at h3; exact .inl (hsf b (mem_foot1.2 h3))); (rw [h2] at h3; injection h3 with h3; simp at h3; exact .inr h3.symm)
                    have oO5 : OwLL FI 3 94 (w5.setCell ⟨gG, kk, none⟩ (.slice A5 (l.length + (0 + 1)) c5)) (.slice (some ⟨gO, 0, none⟩) x.Own.length pO) tO x.Own := ((o_h.Own.alloc_ (.cells #[.int .i64 y] 3)).chg hx5 (fun b hb hm => D01 b (hsf b hm) hb)).chg (F := [gG]) (by repeat (first | with_reducible exact Chg.refl _ _ | with_reducible refine Chg.set_ ?_ (by simp) _ | with_reducible refine Chg.alloc_ ?_ _ | with_reducible refine Chg.drew_ ?_)) (fun b hb hm => by simp only [List.mem_cons, List.not_mem_nil, or_false] at hm; subst hm; exact D01 _ mG hb)
                    have oW : OwLists (w5.setCell ⟨gG, kk, none⟩ (.slice A5 (l.length + (0 + 1)) c5)) ⟨⟨some ⟨gG, 0, none⟩, x.Global.length, pG⟩, tG.set kk ⟨A5, l.length + (0 + 1), c5⟩, ⟨some ⟨gO, 0, none⟩, x.Own.length, pO⟩, tO⟩ { x with Global := x.Global.set kk (l ++ [y]) } := ⟨hN, oO5, fun b hb hm => by rcases f5 b hb with e | e; (exact D01 b e hm); (have := u_h b (foot_o hm); omega)⟩
                    have gW : ∀ b ∈ HLists.foot ⟨⟨some ⟨gG, 0, none⟩, x.Global.length, pG⟩, tG.set kk ⟨A5, l.length + (0 + 1), c5⟩, ⟨some ⟨gO, 0, none⟩, x.Own.length, pO⟩, tO⟩, w.heap.size < b ∧ b ≠ w1.heap.size := fun b hb => by rcases HLists.mem_foot.1 hb with h1 | h1; (rcases f5 b h1 with e | e; (have := l_h b (foot_g e); have := u_h b (foot_g e); omega); omega); (have := l_h b (foot_o h1); have := u_h b (foot_o h1); omega)
                    have hbl5 : Below w.heap.size wq w5 := ((Below.refl _ _).alloc hC.size _).grown hg5 (by simp; omega) (fun b hb => by have := l_h b (foot_g (hsf b (mem_foot1.2 hb))); omega)
                    replace hc := hc.keepB (B := w.heap.size) hgl hbl5 hC.size
                    replace hC := hC.then_ hbl5
                    have hszN := szLL_set_le x.Global kk (l ++ [y])
                    simp only [List.length_append, List.length_cons, List.length_nil] at hszN
                    clear hN oO5 ho5 hg5 hat5 hx5
                    go_wp2_with fail
                    refine bodyPost_ret (v := .agg #[.slice (some ⟨gG, 0, none⟩) x.Global.length pG, .slice (some ⟨gO, 0, none⟩) x.Own.length pO]) (by simp [results, Tryz.results139, go_sem, q_r_0, q_r_1]) rfl ⟨⟨⟨some ⟨gG, 0, none⟩, x.Global.length, pG⟩, tG.set kk ⟨A5, l.length + (0 + 1), c5⟩, ⟨some ⟨gO, 0, none⟩, x.Own.length, pO⟩, tO⟩, { x with Global := x.Global.set kk (l ++ [y]) }, rfl, oW.chg (F := [w.heap.size]) (by repeat (first | with_reducible exact Chg.refl _ _ | with_reducible refine Chg.set_ ?_ (by simp) _ | with_reducible refine Chg.alloc_ ?_ _ | with_reducible refine Chg.drew_ ?_)) (fun b hb hm => by simp only [List.mem_cons, List.not_mem_nil, or_false] at hm; have := gW b hb; omega), by unfold sizeLists at hsz ⊢; simp only; omega, fun b hb => by have := gW b hb; omega, hc.keepB (B := w.heap.size) hgl (by repeat (first | with_reducible exact Below.refl _ _ | with_reducible refine Below.setCell ?_ (by simp <;> omega) _ | with_reducible refine Below.alloc ?_ (by simp <;> omega) _ | with_reducible refine Below.drew ?_)) hC.size, hC.then_ (by repeat (first | with_reducible exact Below.refl _ _ | with_reducible refine Below.setCell ?_ (by simp <;> omega) _ | with_reducible refine Below.alloc ?_ (by simp <;> omega) _ | with_reducible refine Below.drew ?_))⟩
      · go_simp
        refine hK.out _ _ ?hS (fun hHeld => ?hr)
        case hS =>
          (try dsimp only)
          (first | (with_reducible exact ⟨q_h_0, q_h_1⟩) | (refine ⟨?_, ?_⟩ <;> (repeat (first | with_reducible assumption | with_reducible refine cell_set_o ?_ (by omega) | with_reducible refine cell_alloc_o ?_ (by omega) | with_reducible refine cell_drew_o ?_)); done) | (go_keep; done))
        case hr =>
          clear hK K
          try simp only [List.getElem_toArray, List.getElem_cons_succ, List.getElem_cons_zero, Act.put, List.setIfInBounds_toArray, List.set_cons_zero, List.set_cons_succ]
          refine wpAnyH_ready (rs := [8, 11]) (by kernel_rfl) (by simp) ?_
          refine (AllReadyH.cons rfl (fun K hK => ?_) (AllReadyH.cons rfl (fun K hK => ?_) AllReadyH.nil))
          · go_simp
            refine hK.out _ _ ?hS (fun hHeld => ?hr)
            case hS =>
              (try dsimp only)
              (first | (with_reducible exact ⟨q_h_0, q_h_1⟩) | (refine ⟨?_, ?_⟩ <;> (repeat (first | with_reducible assumption | with_reducible refine cell_set_o ?_ (by omega) | with_reducible refine cell_alloc_o ?_ (by omega) | with_reducible refine cell_drew_o ?_)); done) | (go_keep; done))
            case hr =>
              clear hK K
              try simp only [List.getElem_toArray, List.getElem_cons_succ, List.getElem_cons_zero, Act.put, List.setIfInBounds_toArray, List.set_cons_zero, List.set_cons_succ]
              refine wpAnyH_ready (rs := [11]) (by kernel_rfl) (by simp) ?_
              refine (AllReadyH.cons rfl (fun K hK => ?_) AllReadyH.nil)
              go_simp
              (go_at_call 64; (first | ((with_reducible refine (l1PickB_ct _ g _ code [-1, 24, 5, 6] _ 4 (show Box _ _ [.int .i64 (-1), .int .i64 24, .int .i64 5, .int .i64 6] from (Box.new _ #[.int .i64 (-1), .int .i64 24, .int .i64 5, .int .i64 6] 3)) (by simp) (by simp) (by simp; omega) (by decide) (by decide) (hc.alloc _)).mono ?_); rintro e wq ⟨y, rfl, hy, hcn, hx⟩; replace B_h := (B_h.alloc _).chg hx (by simp only [List.mem_cons, List.not_mem_nil, or_false]; omega); replace B_r := (B_r.alloc _).chg hx (by simp only [List.mem_cons, List.not_mem_nil, or_false]; omega); replace o_h := (o_h.alloc_ _).chg hx (fun b hb hm => by simp only [List.mem_cons, List.not_mem_nil, or_false] at hm; have := l_h b hb; have := u_h b hb; omega); replace hC := Chg.trans (hC.alloc_ _) hx; replace hc := hcn; have sz := hx.size; (try simp only [World.size_alloc, size_drew_] at sz); replace sC := hC.size; clear hx; replace q_h_0 := B_h.cell 0 _ rfl; replace q_h_1 := B_h.cell 1 _ rfl; replace q_r_0 := B_r.cell 0 _ rfl; replace q_r_1 := B_r.cell 1 _ rfl; replace fr_h := B_h.fro; replace z_h := B_h.lt; replace fr_r := B_r.fro; replace z_r := B_r.lt; replace hin := o_h.Global.inner kk s l HV.out HLL.out; replace p0 := OwL.cellS o_h.Global.outer HV.out; replace pf := OwL.frozen_ o_h.Global.outer kk; replace zG : gG < wq.heap.size := (by omega); clear hy) | ((with_reducible refine (l1PickB_ct _ g _ code [-1, 24, 5, 6] _ 4 (show Box _ _ [.int .i64 (-1), .int .i64 24, .int .i64 5, .int .i64 6] from (Box.new _ #[.int .i64 (-1), .int .i64 24, .int .i64 5, .int .i64 6] 3)) (by simp) (by simp) (by simp; omega) (by decide) (by decide) ((hc.drew_).alloc _)).mono ?_); rintro e wq ⟨y, rfl, hy, hcn, hx⟩; replace B_h := ((B_h.drew).alloc _).chg hx (by simp only [List.mem_cons, List.not_mem_nil, or_false]; omega); replace B_r := ((B_r.drew).alloc _).chg hx (by simp only [List.mem_cons, List.not_mem_nil, or_false]; omega); replace o_h := ((o_h.drew_).alloc_ _).chg hx (fun b hb hm => by simp only [List.mem_cons, List.not_mem_nil, or_false] at hm; have := l_h b hb; have := u_h b hb; omega); replace hC := Chg.trans (hC.drew_.alloc_ _) hx; replace hc := hcn; have sz := hx.size; (try simp only [World.size_alloc, size_drew_] at sz); replace sC := hC.size; clear hx; replace q_h_0 := B_h.cell 0 _ rfl; replace q_h_1 := B_h.cell 1 _ rfl; replace q_r_0 := B_r.cell 0 _ rfl; replace q_r_1 := B_r.cell 1 _ rfl; replace fr_h := B_h.fro; replace z_h := B_h.lt; replace fr_r := B_r.fro; replace z_r := B_r.lt; replace hin := o_h.Global.inner kk s l HV.out HLL.out; replace p0 := OwL.cellS o_h.Global.outer HV.out; replace pf := OwL.frozen_ o_h.Global.outer kk; replace zG : gG < wq.heap.size := (by omega); clear hy) | ((with_reducible refine (l1PickB_ct _ g _ code [-1, 24, 5, 6] _ 4 (show Box _ _ [.int .i64 (-1), .int .i64 24, .int .i64 5, .int .i64 6] from (Box.new _ #[.int .i64 (-1), .int .i64 24, .int .i64 5, .int .i64 6] 3).drew) (by simp) (by simp) (by simp; omega) (by decide) (by decide) ((hc.alloc _).drew_)).mono ?_); rintro e wq ⟨y, rfl, hy, hcn, hx⟩; replace B_h := (B_h.alloc _).drew.chg hx (by simp only [List.mem_cons, List.not_mem_nil, or_false]; omega); replace B_r := (B_r.alloc _).drew.chg hx (by simp only [List.mem_cons, List.not_mem_nil, or_false]; omega); replace o_h := ((o_h.alloc_ _).drew_).chg hx (fun b hb hm => by simp only [List.mem_cons, List.not_mem_nil, or_false] at hm; have := l_h b hb; have := u_h b hb; omega); replace hC := Chg.trans (hC.alloc_ _).drew_ hx; replace hc := hcn; have sz := hx.size; (try simp only [World.size_alloc, size_drew_] at sz); replace sC := hC.size; clear hx; replace q_h_0 := B_h.cell 0 _ rfl; replace q_h_1 := B_h.cell 1 _ rfl; replace q_r_0 := B_r.cell 0 _ rfl; replace q_r_1 := B_r.cell 1 _ rfl; replace fr_h := B_h.fro; replace z_h := B_h.lt; replace fr_r := B_r.fro; replace z_r := B_r.lt; replace hin := o_h.Global.inner kk s l HV.out HLL.out; replace p0 := OwL.cellS o_h.Global.outer HV.out; replace pf := OwL.frozen_ o_h.Global.outer kk; replace zG : gG < wq.heap.size := (by omega); clear hy)))
              (try go_wp2_with fail)
              refine hK.out _ _ ?hS (fun hHeld => ?hr)
              case hS =>
                (try dsimp only)
                (first | (with_reducible exact ⟨q_h_0, q_h_1⟩) | (refine ⟨?_, ?_⟩ <;> (repeat (first | with_reducible assumption | with_reducible refine cell_set_o ?_ (by omega) | with_reducible refine cell_alloc_o ?_ (by omega) | with_reducible refine cell_drew_o ?_)); done) | (go_keep; done))
              case hr =>
                clear hK K
                try simp only [List.getElem_toArray, List.getElem_cons_succ, List.getElem_cons_zero, Act.put, List.setIfInBounds_toArray, List.set_cons_zero, List.set_cons_succ]
                refine wpAnyH_ready (rs := [12]) (by kernel_rfl) (by simp) ?_
                refine (AllReadyH.cons rfl (fun K hK => ?_) AllReadyH.nil)
                go_simp
                refine hK.out _ _ ?hS (fun hHeld => ?hr)
                case hS =>
                  (try dsimp only)
                  (first | (with_reducible exact ⟨q_h_0, q_h_1⟩) | (refine ⟨?_, ?_⟩ <;> (repeat (first | with_reducible assumption | with_reducible refine cell_set_o ?_ (by omega) | with_reducible refine cell_alloc_o ?_ (by omega) | with_reducible refine cell_drew_o ?_)); done) | (go_keep; done))
                case hr =>
                  clear hK K
                  try simp only [List.getElem_toArray, List.getElem_cons_succ, List.getElem_cons_zero, Act.put, List.setIfInBounds_toArray, List.set_cons_zero, List.set_cons_succ]
                  refine wpAnyH_ready (rs := [13]) (by kernel_rfl) (by simp) ?_
                  refine (AllReadyH.cons rfl (fun K hK => ?_) AllReadyH.nil)
                  (refine step_append_flat Tryz.stInt rfl (.tmp 47) (.tmp 51) rfl (v := s.val) (y := .slice (some ⟨wq.heap.size, 0, none⟩) 1 1) (l := l) (m := [y]) (by simp [Act.eval, SV.val]) (by simp [Act.eval]) (OwL.alloc_ hin _) (OwL.lit FI [y] #[.int .i64 y] rfl (by simp [maxLen]) wq 3).rd' (by simp; omega) ?_; intro v5 w5 ho5 hg5 hat5; obtain ⟨A5, c5, hv5, _⟩ := id ho5.rd'; simp only [List.length_append, List.length_cons, List.length_nil] at hv5; subst hv5; have hx5 := Chg.of_grown hg5; have hf5 := (hx5.frozen gG kk (by simp; omega) hne).trans ((cell_old_frozen wq _ gG kk zG).trans pf); have hp5 := (hx5.cell gG kk (by simp; omega) hne).trans ((cell_old wq _ gG kk zG).trans p0); replace B_h := (B_h.alloc (.cells #[.int .i64 y] 3)).chg hx5 hnh; replace B_r := (B_r.alloc (.cells #[.int .i64 y] 3)).chg hx5 hnr; replace q_h_0 := B_h.cell 0 _ rfl; replace q_h_1 := B_h.cell 1 _ rfl; replace q_r_0 := B_r.cell 0 _ rfl; replace q_r_1 := B_r.cell 1 _ rfl; replace fr_h := B_h.fro; replace z_h := B_h.lt; replace fr_r := B_r.fro; replace z_r := B_r.lt; have zG5 : gG < w5.heap.size := Nat.lt_of_lt_of_le zG (Nat.le_trans (by simp) hx5.size))
                  refine hK.out _ _ ?hS (fun hHeld => ?hr)
                  case hS =>
                    (try dsimp only)
                    (first | (with_reducible exact ⟨q_h_0, q_h_1⟩) | (refine ⟨?_, ?_⟩ <;> (repeat (first | with_reducible assumption | with_reducible refine cell_set_o ?_ (by omega) | with_reducible refine cell_alloc_o ?_ (by omega) | with_reducible refine cell_drew_o ?_)); done) | (go_keep; done))
                  case hr =>
                    clear hK K
                    try simp only [List.getElem_toArray, List.getElem_cons_succ, List.getElem_cons_zero, Act.put, List.setIfInBounds_toArray, List.set_cons_zero, List.set_cons_succ]
                    refine wpAnyH_take (i := 14) (v := ?_) rfl (by kernel_rfl) (by kernel_rfl) (by kernel_rfl) (fun _ _ _ h => h) (Or.inl ⟨by kernel_rfl, ?_⟩) (by assumption) ?_
                    rotate_left
                    · (intro wz hSw; (try dsimp only at hSw); go_simp; (try with_reducible rfl))
                    try simp only [List.getElem_toArray, List.getElem_cons_succ, List.getElem_cons_zero, Act.put, List.setIfInBounds_toArray, List.set_cons_zero, List.set_cons_succ]
                    refine wpAnyH_take (i := 15) (v := ?_) rfl (by kernel_rfl) (by kernel_rfl) (by kernel_rfl) (fun _ _ _ h => h) (Or.inl ⟨by kernel_rfl, ?_⟩) (by assumption) ?_
                    rotate_left
                    · (intro wz hSw; (try dsimp only at hSw); go_simp; (try with_reducible rfl))
                    try simp only [List.getElem_toArray, List.getElem_cons_succ, List.getElem_cons_zero, Act.put, List.setIfInBounds_toArray, List.set_cons_zero, List.set_cons_succ]
                    refine wpAnyH_ready (rs := [16]) (by kernel_rfl) (by simp) ?_
                    refine (AllReadyH.cons rfl (fun K hK => ?_) AllReadyH.nil)
                    go_simp
                    refine hK.out _ _ ?hS (fun hHeld => ?hr)
                    case hS =>
                      (try dsimp only)
                      (first | (with_reducible exact ⟨q_h_0, q_h_1⟩) | (refine ⟨?_, ?_⟩ <;> (repeat (first | with_reducible assumption | with_reducible refine cell_set_o ?_ (by omega) | with_reducible refine cell_alloc_o ?_ (by omega) | with_reducible refine cell_drew_o ?_)); done) | (go_keep; done))
                    case hr =>
                      clear hK K
                      try simp only [List.getElem_toArray, List.getElem_cons_succ, List.getElem_cons_zero, Act.put, List.setIfInBounds_toArray, List.set_cons_zero, List.set_cons_succ]
                      refine wpAnyH_done (by kernel_rfl) ?_ _
                      have hN := OwLL.app_row (s' := ⟨A5, l.length + (0 + 1), c5⟩) (o_h.Global.alloc_ (.cells #[.int .i64 y] 3)) HV.out ho5 hg5 hat5
                      simp only [SV.val] at hN
                      have f5 : ∀ b ∈ foot2 (.slice (some ⟨gG, 0, none⟩) x.Global.length pG) (tG.set kk ⟨A5, l.length + (0 + 1), c5⟩), b ∈ foot2 (.slice (some ⟨gG, 0, none⟩) x.Global.length pG) tG ∨ b = wq.heap.size + 1 := fun b hb => by
                        rcases foot2_set hb with h1 | h1
                        · exact .inl h1
                        · have h3 : (Value.slice A5 (l.length + (0 + 1)) c5).ownBlock = some b := mem_foot1.1 h1; rcases hat5 with h2 | h2; (rw [h2] at h3; exact .inl (hsf b (mem_foot1.2 h3))); (rw [h2] at h3; injection h3 with h3; simp at h3; exact .inr h3.symm)
                      have oO5 : OwLL FI 3 94 (w5.setCell ⟨gG, kk, none⟩ (.slice A5 (l.length + (0 + 1)) c5)) (.slice (some ⟨gO, 0, none⟩) x.Own.length pO) tO x.Own := ((o_h.Own.alloc_ (.cells #[.int .i64 y] 3)).chg hx5 (fun b hb hm => D01 b (hsf b hm) hb)).chg (F := [gG]) (by repeat (first | with_reducible exact Chg.refl _ _ | with_reducible refine Chg.set_ ?_ (by simp) _ | with_reducible refine Chg.alloc_ ?_ _ | with_reducible refine Chg.drew_ ?_)) (fun b hb hm => by simp only [List.mem_cons, List.not_mem_nil, or_false] at hm; subst hm; exact D01 _ mG hb)
                      have oW : OwLists (w5.setCell ⟨gG, kk, none⟩ (.slice A5 (l.length + (0 + 1)) c5)) ⟨⟨some ⟨gG, 0, none⟩, x.Global.length, pG⟩, tG.set kk ⟨A5, l.length + (0 + 1), c5⟩, ⟨some ⟨gO, 0, none⟩, x.Own.length, pO⟩, tO⟩ { x with Global := x.Global.set kk (l ++ [y]) } := ⟨hN, oO5, fun b hb hm => by rcases f5 b hb with e | e; (exact D01 b e hm); (have := u_h b (foot_o hm); omega)⟩
                      have gW : ∀ b ∈ HLists.foot ⟨⟨some ⟨gG, 0, none⟩, x.Global.length, pG⟩, tG.set kk ⟨A5, l.length + (0 + 1), c5⟩, ⟨some ⟨gO, 0, none⟩, x.Own.length, pO⟩, tO⟩, w.heap.size < b ∧ b ≠ w1.heap.size := fun b hb => by rcases HLists.mem_foot.1 hb with h1 | h1; (rcases f5 b h1 with e | e; (have := l_h b (foot_g e); have := u_h b (foot_g e); omega); omega); (have := l_h b (foot_o h1); have := u_h b (foot_o h1); omega)
                      have hbl5 : Below w.heap.size wq w5 := ((Below.refl _ _).alloc hC.size _).grown hg5 (by simp; omega) (fun b hb => by have := l_h b (foot_g (hsf b (mem_foot1.2 hb))); omega)
                      replace hc := hc.keepB (B := w.heap.size) hgl hbl5 hC.size
                      replace hC := hC.then_ hbl5
                      have hszN := szLL_set_le x.Global kk (l ++ [y])
                      simp only [List.length_append, List.length_cons, List.length_nil] at hszN
                      clear hN oO5 ho5 hg5 hat5 hx5
                      go_wp2_with fail
                      refine bodyPost_ret (v := .agg #[.slice (some ⟨gG, 0, none⟩) x.Global.length pG, .slice (some ⟨gO, 0, none⟩) x.Own.length pO]) (by simp [results, Tryz.results139, go_sem, q_r_0, q_r_1]) rfl ⟨⟨⟨some ⟨gG, 0, none⟩, x.Global.length, pG⟩, tG.set kk ⟨A5, l.length + (0 + 1), c5⟩, ⟨some ⟨gO, 0, none⟩, x.Own.length, pO⟩, tO⟩, { x with Global := x.Global.set kk (l ++ [y]) }, rfl, oW.chg (F := [w.heap.size]) (by repeat (first | with_reducible exact Chg.refl _ _ | with_reducible refine Chg.set_ ?_ (by simp) _ | with_reducible refine Chg.alloc_ ?_ _ | with_reducible refine Chg.drew_ ?_)) (fun b hb hm => by simp only [List.mem_cons, List.not_mem_nil, or_false] at hm; have := gW b hb; omega), by unfold sizeLists at hsz ⊢; simp only; omega, fun b hb => by have := gW b hb; omega, hc.keepB (B := w.heap.size) hgl (by repeat (first | with_reducible exact Below.refl _ _ | with_reducible refine Below.setCell ?_ (by simp <;> omega) _ | with_reducible refine Below.alloc ?_ (by simp <;> omega) _ | with_reducible refine Below.drew ?_)) hC.size, hC.then_ (by repeat (first | with_reducible exact Below.refl _ _ | with_reducible refine Below.setCell ?_ (by simp <;> omega) _ | with_reducible refine Below.alloc ?_ (by simp <;> omega) _ | with_reducible refine Below.drew ?_))⟩
          · go_simp
            (go_at_call 64; (first | ((with_reducible refine (l1PickB_ct _ g _ code [-1, 24, 5, 6] _ 4 (show Box _ _ [.int .i64 (-1), .int .i64 24, .int .i64 5, .int .i64 6] from (Box.new _ #[.int .i64 (-1), .int .i64 24, .int .i64 5, .int .i64 6] 3)) (by simp) (by simp) (by simp; omega) (by decide) (by decide) (hc.alloc _)).mono ?_); rintro e wq ⟨y, rfl, hy, hcn, hx⟩; replace B_h := (B_h.alloc _).chg hx (by simp only [List.mem_cons, List.not_mem_nil, or_false]; omega); replace B_r := (B_r.alloc _).chg hx (by simp only [List.mem_cons, List.not_mem_nil, or_false]; omega); replace o_h := (o_h.alloc_ _).chg hx (fun b hb hm => by simp only [List.mem_cons, List.not_mem_nil, or_false] at hm; have := l_h b hb; have := u_h b hb; omega); replace hC := Chg.trans (hC.alloc_ _) hx; replace hc := hcn; have sz := hx.size; (try simp only [World.size_alloc, size_drew_] at sz); replace sC := hC.size; clear hx; replace q_h_0 := B_h.cell 0 _ rfl; replace q_h_1 := B_h.cell 1 _ rfl; replace q_r_0 := B_r.cell 0 _ rfl; replace q_r_1 := B_r.cell 1 _ rfl; replace fr_h := B_h.fro; replace z_h := B_h.lt; replace fr_r := B_r.fro; replace z_r := B_r.lt; replace hin := o_h.Global.inner kk s l HV.out HLL.out; replace p0 := OwL.cellS o_h.Global.outer HV.out; replace pf := OwL.frozen_ o_h.Global.outer kk; replace zG : gG < wq.heap.size := (by omega); clear hy) | ((with_reducible refine (l1PickB_ct _ g _ code [-1, 24, 5, 6] _ 4 (show Box _ _ [.int .i64 (-1), .int .i64 24, .int .i64 5, .int .i64 6] from (Box.new _ #[.int .i64 (-1), .int .i64 24, .int .i64 5, .int .i64 6] 3)) (by simp) (by simp) (by simp; omega) (by decide) (by decide) ((hc.drew_).alloc _)).mono ?_); rintro e wq ⟨y, rfl, hy, hcn, hx⟩; replace B_h := ((B_h.drew).alloc _).chg hx (by simp only [List.mem_cons, List.not_mem_nil, or_false]; omega); replace B_r := ((B_r.drew).alloc _).chg hx (by simp only [List.mem_cons, List.not_mem_nil, or_false]; omega); replace o_h := ((o_h.drew_).alloc_ _).chg hx (fun b hb hm => by simp only [List.mem_cons, List.not_mem_nil, or_false] at hm; have := l_h b hb; have := u_h b hb; omega); replace hC := Chg.trans (hC.drew_.alloc_ _) hx; replace hc := hcn; have sz := hx.size; (try simp only [World.size_alloc, size_drew_] at sz); replace sC := hC.size; clear hx; replace q_h_0 := B_h.cell 0 _ rfl; replace q_h_1 := B_h.cell 1 _ rfl; replace q_r_0 := B_r.cell 0 _ rfl; replace q_r_1 := B_r.cell 1 _ rfl; replace fr_h := B_h.fro; replace z_h := B_h.lt; replace fr_r := B_r.fro; replace z_r := B_r.lt; replace hin := o_h.Global.inner kk s l HV.out HLL.out; replace p0 := OwL.cellS o_h.Global.outer HV.out; replace pf := OwL.frozen_ o_h.Global.outer kk; replace zG : gG < wq.heap.size := (by omega); clear hy) | ((with_reducible refine (l1PickB_ct _ g _ code [-1, 24, 5, 6] _ 4 (show Box _ _ [.int .i64 (-1), .int .i64 24, .int .i64 5, .int .i64 6] from (Box.new _ #[.int .i64 (-1), .int .i64 24, .int .i64 5, .int .i64 6] 3).drew) (by simp) (by simp) (by simp; omega) (by decide) (by decide) ((hc.alloc _).drew_)).mono ?_); rintro e wq ⟨y, rfl, hy, hcn, hx⟩; replace B_h := (B_h.alloc _).drew.chg hx (by simp only [List.mem_cons, List.not_mem_nil, or_false]; omega); replace B_r := (B_r.alloc _).drew.chg hx (by simp only [List.mem_cons, List.not_mem_nil, or_false]; omega); replace o_h := ((o_h.alloc_ _).drew_).chg hx (fun b hb hm => by simp only [List.mem_cons, List.not_mem_nil, or_false] at hm; have := l_h b hb; have := u_h b hb; omega); replace hC := Chg.trans (hC.alloc_ _).drew_ hx; replace hc := hcn; have sz := hx.size; (try simp only [World.size_alloc, size_drew_] at sz); replace sC := hC.size; clear hx; replace q_h_0 := B_h.cell 0 _ rfl; replace q_h_1 := B_h.cell 1 _ rfl; replace q_r_0 := B_r.cell 0 _ rfl; replace q_r_1 := B_r.cell 1 _ rfl; replace fr_h := B_h.fro; replace z_h := B_h.lt; replace fr_r := B_r.fro; replace z_r := B_r.lt; replace hin := o_h.Global.inner kk s l HV.out HLL.out; replace p0 := OwL.cellS o_h.Global.outer HV.out; replace pf := OwL.frozen_ o_h.Global.outer kk; replace zG : gG < wq.heap.size := (by omega); clear hy)))
            (try go_wp2_with fail)
            refine hK.out _ _ ?hS (fun hHeld => ?hr)
            case hS =>
              (try dsimp only)
              (first | (with_reducible exact ⟨q_h_0, q_h_1⟩) | (refine ⟨?_, ?_⟩ <;> (repeat (first | with_reducible assumption | with_reducible refine cell_set_o ?_ (by omega) | with_reducible refine cell_alloc_o ?_ (by omega) | with_reducible refine cell_drew_o ?_)); done) | (go_keep; done))
            case hr =>
              clear hK K
              try simp only [List.getElem_toArray, List.getElem_cons_succ, List.getElem_cons_zero, Act.put, List.setIfInBounds_toArray, List.set_cons_zero, List.set_cons_succ]
              refine wpAnyH_ready (rs := [8, 12]) (by kernel_rfl) (by simp) ?_
              refine (AllReadyH.cons rfl (fun K hK => ?_) (AllReadyH.cons rfl (fun K hK => ?_) AllReadyH.nil))
              · go_simp
                refine hK.out _ _ ?hS (fun hHeld => ?hr)
                case hS =>
                  (try dsimp only)
                  (first | (with_reducible exact ⟨q_h_0, q_h_1⟩) | (refine ⟨?_, ?_⟩ <;> (repeat (first | with_reducible assumption | with_reducible refine cell_set_o ?_ (by omega) | with_reducible refine cell_alloc_o ?_ (by omega) | with_reducible refine cell_drew_o ?_)); done) | (go_keep; done))
                case hr =>
                  clear hK K
                  try simp only [List.getElem_toArray, List.getElem_cons_succ, List.getElem_cons_zero, Act.put, List.setIfInBounds_toArray, List.set_cons_zero, List.set_cons_succ]
                  refine wpAnyH_ready (rs := [12]) (by kernel_rfl) (by simp) ?_
                  refine (AllReadyH.cons rfl (fun K hK => ?_) AllReadyH.nil)
                  go_simp
                  refine hK.out _ _ ?hS (fun hHeld => ?hr)
                  case hS =>
                    (try dsimp only)
                    (first | (with_reducible exact ⟨q_h_0, q_h_1⟩) | (refine ⟨?_, ?_⟩ <;> (repeat (first | with_reducible assumption | with_reducible refine cell_set_o ?_ (by omega) | with_reducible refine cell_alloc_o ?_ (by omega) | with_reducible refine cell_drew_o ?_)); done) | (go_keep; done))
                  case hr =>
                    clear hK K
                    try simp only [List.getElem_toArray, List.getElem_cons_succ, List.getElem_cons_zero, Act.put, List.setIfInBounds_toArray, List.set_cons_zero, List.set_cons_succ]
                    refine wpAnyH_ready (rs := [13]) (by kernel_rfl) (by simp) ?_
                    refine (AllReadyH.cons rfl (fun K hK => ?_) AllReadyH.nil)
                    (refine step_append_flat Tryz.stInt rfl (.tmp 47) (.tmp 51) rfl (v := s.val) (y := .slice (some ⟨wq.heap.size, 0, none⟩) 1 1) (l := l) (m := [y]) (by simp [Act.eval, SV.val]) (by simp [Act.eval]) (OwL.alloc_ hin _) (OwL.lit FI [y] #[.int .i64 y] rfl (by simp [maxLen]) wq 3).rd' (by simp; omega) ?_; intro v5 w5 ho5 hg5 hat5; obtain ⟨A5, c5, hv5, _⟩ := id ho5.rd'; simp only [List.length_append, List.length_cons, List.length_nil] at hv5; subst hv5; have hx5 := Chg.of_grown hg5; have hf5 := (hx5.frozen gG kk (by simp; omega) hne).trans ((cell_old_frozen wq _ gG kk zG).trans pf); have hp5 := (hx5.cell gG kk (by simp; omega) hne).trans ((cell_old wq _ gG kk zG).trans p0); replace B_h := (B_h.alloc (.cells #[.int .i64 y] 3)).chg hx5 hnh; replace B_r := (B_r.alloc (.cells #[.int .i64 y] 3)).chg hx5 hnr; replace q_h_0 := B_h.cell 0 _ rfl; replace q_h_1 := B_h.cell 1 _ rfl; replace q_r_0 := B_r.cell 0 _ rfl; replace q_r_1 := B_r.cell 1 _ rfl; replace fr_h := B_h.fro; replace z_h := B_h.lt; replace fr_r := B_r.fro; replace z_r := B_r.lt; have zG5 : gG < w5.heap.size := Nat.lt_of_lt_of_le zG (Nat.le_trans (by simp) hx5.size))
                    refine hK.out _ _ ?hS (fun hHeld => ?hr)
                    case hS =>
                      (try dsimp only)
                      (first | (with_reducible exact ⟨q_h_0, q_h_1⟩) | (refine ⟨?_, ?_⟩ <;> (repeat (first | with_reducible assumption | with_reducible refine cell_set_o ?_ (by omega) | with_reducible refine cell_alloc_o ?_ (by omega) | with_reducible refine cell_drew_o ?_)); done) | (go_keep; done))
                    case hr =>
                      clear hK K
                      try simp only [List.getElem_toArray, List.getElem_cons_succ, List.getElem_cons_zero, Act.put, List.setIfInBounds_toArray, List.set_cons_zero, List.set_cons_succ]
                      refine wpAnyH_take (i := 14) (v := ?_) rfl (by kernel_rfl) (by kernel_rfl) (by kernel_rfl) (fun _ _ _ h => h) (Or.inl ⟨by kernel_rfl, ?_⟩) (by assumption) ?_
                      rotate_left
                      · (intro wz hSw; (try dsimp only at hSw); go_simp; (try with_reducible rfl))
                      try simp only [List.getElem_toArray, List.getElem_cons_succ, List.getElem_cons_zero, Act.put, List.setIfInBounds_toArray, List.set_cons_zero, List.set_cons_succ]
                      refine wpAnyH_take (i := 15) (v := ?_) rfl (by kernel_rfl) (by kernel_rfl) (by kernel_rfl) (fun _ _ _ h => h) (Or.inl ⟨by kernel_rfl, ?_⟩) (by assumption) ?_
                      rotate_left
                      · (intro wz hSw; (try dsimp only at hSw); go_simp; (try with_reducible rfl))
                      try simp only [List.getElem_toArray, List.getElem_cons_succ, List.getElem_cons_zero, Act.put, List.setIfInBounds_toArray, List.set_cons_zero, List.set_cons_succ]
                      refine wpAnyH_ready (rs := [16]) (by kernel_rfl) (by simp) ?_
                      refine (AllReadyH.cons rfl (fun K hK => ?_) AllReadyH.nil)
                      go_simp
                      refine hK.out _ _ ?hS (fun hHeld => ?hr)
                      case hS =>
                        (try dsimp only)
                        (first | (with_reducible exact ⟨q_h_0, q_h_1⟩) | (refine ⟨?_, ?_⟩ <;> (repeat (first | with_reducible assumption | with_reducible refine cell_set_o ?_ (by omega) | with_reducible refine cell_alloc_o ?_ (by omega) | with_reducible refine cell_drew_o ?_)); done) | (go_keep; done))
                      case hr =>
                        clear hK K
                        try simp only [List.getElem_toArray, List.getElem_cons_succ, List.getElem_cons_zero, Act.put, List.setIfInBounds_toArray, List.set_cons_zero, List.set_cons_succ]
                        refine wpAnyH_done (by kernel_rfl) ?_ _
                        have hN := OwLL.app_row (s' := ⟨A5, l.length + (0 + 1), c5⟩) (o_h.Global.alloc_ (.cells #[.int .i64 y] 3)) HV.out ho5 hg5 hat5
                        simp only [SV.val] at hN
                        have f5 : ∀ b ∈ foot2 (.slice (some ⟨gG, 0, none⟩) x.Global.length pG) (tG.set kk ⟨A5, l.length + (0 + 1), c5⟩), b ∈ foot2 (.slice (some ⟨gG, 0, none⟩) x.Global.length pG) tG ∨ b = wq.heap.size + 1 := fun b hb => by
                          rcases foot2_set hb with h1 | h1
                          · exact .inl h1
                          · have h3 : (Value.slice A5 (l.length + (0 + 1)) c5).ownBlock = some b := mem_foot1.1 h1; rcases hat5 with h2 | h2; (rw [h2] at h3; exact .inl (hsf b (mem_foot1.2 h3))); (rw [h2] at h3; injection h3 with h3; simp at h3; exact .inr h3.symm)
                        have oO5 : OwLL FI 3 94 (w5.setCell ⟨gG, kk, none⟩ (.slice A5 (l.length + (0 + 1)) c5)) (.slice (some ⟨gO, 0, none⟩) x.Own.length pO) tO x.Own := ((o_h.Own.alloc_ (.cells #[.int .i64 y] 3)).chg hx5 (fun b hb hm => D01 b (hsf b hm) hb)).chg (F := [gG]) (by repeat (first | with_reducible exact Chg.refl _ _ | with_reducible refine Chg.set_ ?_ (by simp) _ | with_reducible refine Chg.alloc_ ?_ _ | with_reducible refine Chg.drew_ ?_)) (fun b hb hm => by simp only [List.mem_cons, List.not_mem_nil, or_false] at hm; subst hm; exact D01 _ mG hb)
                        have oW : OwLists (w5.setCell ⟨gG, kk, none⟩ (.slice A5 (l.length + (0 + 1)) c5)) ⟨⟨some ⟨gG, 0, none⟩, x.Global.length, pG⟩, tG.set kk ⟨A5, l.length + (0 + 1), c5⟩, ⟨some ⟨gO, 0, none⟩, x.Own.length, pO⟩, tO⟩ { x with Global := x.Global.set kk (l ++ [y]) } := ⟨hN, oO5, fun b hb hm => by rcases f5 b hb with e | e; (exact D01 b e hm); (have := u_h b (foot_o hm); omega)⟩
                        have gW : ∀ b ∈ HLists.foot ⟨⟨some ⟨gG, 0, none⟩, x.Global.length, pG⟩, tG.set kk ⟨A5, l.length + (0 + 1), c5⟩, ⟨some ⟨gO, 0, none⟩, x.Own.length, pO⟩, tO⟩, w.heap.size < b ∧ b ≠ w1.heap.size := fun b hb => by rcases HLists.mem_foot.1 hb with h1 | h1; (rcases f5 b h1 with e | e; (have := l_h b (foot_g e); have := u_h b (foot_g e); omega); omega); (have := l_h b (foot_o h1); have := u_h b (foot_o h1); omega)
                        have hbl5 : Below w.heap.size wq w5 := ((Below.refl _ _).alloc hC.size _).grown hg5 (by simp; omega) (fun b hb => by have := l_h b (foot_g (hsf b (mem_foot1.2 hb))); omega)
                        replace hc := hc.keepB (B := w.heap.size) hgl hbl5 hC.size
                        replace hC := hC.then_ hbl5
                        have hszN := szLL_set_le x.Global kk (l ++ [y])
                        simp only [List.length_append, List.length_cons, List.length_nil] at hszN
                        clear hN oO5 ho5 hg5 hat5 hx5
                        go_wp2_with fail
                        refine bodyPost_ret (v := .agg #[.slice (some ⟨gG, 0, none⟩) x.Global.length pG, .slice (some ⟨gO, 0, none⟩) x.Own.length pO]) (by simp [results, Tryz.results139, go_sem, q_r_0, q_r_1]) rfl ⟨⟨⟨some ⟨gG, 0, none⟩, x.Global.length, pG⟩, tG.set kk ⟨A5, l.length + (0 + 1), c5⟩, ⟨some ⟨gO, 0, none⟩, x.Own.length, pO⟩, tO⟩, { x with Global := x.Global.set kk (l ++ [y]) }, rfl, oW.chg (F := [w.heap.size]) (by repeat (first | with_reducible exact Chg.refl _ _ | with_reducible refine Chg.set_ ?_ (by simp) _ | with_reducible refine Chg.alloc_ ?_ _ | with_reducible refine Chg.drew_ ?_)) (fun b hb hm => by simp only [List.mem_cons, List.not_mem_nil, or_false] at hm; have := gW b hb; omega), by unfold sizeLists at hsz ⊢; simp only; omega, fun b hb => by have := gW b hb; omega, hc.keepB (B := w.heap.size) hgl (by repeat (first | with_reducible exact Below.refl _ _ | with_reducible refine Below.setCell ?_ (by simp <;> omega) _ | with_reducible refine Below.alloc ?_ (by simp <;> omega) _ | with_reducible refine Below.drew ?_)) hC.size, hC.then_ (by repeat (first | with_reducible exact Below.refl _ _ | with_reducible refine Below.setCell ?_ (by simp <;> omega) _ | with_reducible refine Below.alloc ?_ (by simp <;> omega) _ | with_reducible refine Below.drew ?_))⟩
              · go_simp
                refine hK.out _ _ ?hS (fun hHeld => ?hr)
                case hS =>
                  (try dsimp only)
                  (first | (with_reducible exact ⟨q_h_0, q_h_1⟩) | (refine ⟨?_, ?_⟩ <;> (repeat (first | with_reducible assumption | with_reducible refine cell_set_o ?_ (by omega) | with_reducible refine cell_alloc_o ?_ (by omega) | with_reducible refine cell_drew_o ?_)); done) | (go_keep; done))
                case hr =>
                  clear hK K
                  try simp only [List.getElem_toArray, List.getElem_cons_succ, List.getElem_cons_zero, Act.put, List.setIfInBounds_toArray, List.set_cons_zero, List.set_cons_succ]
                  refine wpAnyH_ready (rs := [8]) (by kernel_rfl) (by simp) ?_
                  refine (AllReadyH.cons rfl (fun K hK => ?_) AllReadyH.nil)
                  go_simp
                  refine hK.out _ _ ?hS (fun hHeld => ?hr)
                  case hS =>
                    (try dsimp only)
                    (first | (with_reducible exact ⟨q_h_0, q_h_1⟩) | (refine ⟨?_, ?_⟩ <;> (repeat (first | with_reducible assumption | with_reducible refine cell_set_o ?_ (by omega) | with_reducible refine cell_alloc_o ?_ (by omega) | with_reducible refine cell_drew_o ?_)); done) | (go_keep; done))
                  case hr =>
                    clear hK K
                    try simp only [List.getElem_toArray, List.getElem_cons_succ, List.getElem_cons_zero, Act.put, List.setIfInBounds_toArray, List.set_cons_zero, List.set_cons_succ]
                    refine wpAnyH_ready (rs := [13]) (by kernel_rfl) (by simp) ?_
                    refine (AllReadyH.cons rfl (fun K hK => ?_) AllReadyH.nil)
                    (refine step_append_flat Tryz.stInt rfl (.tmp 47) (.tmp 51) rfl (v := s.val) (y := .slice (some ⟨wq.heap.size, 0, none⟩) 1 1) (l := l) (m := [y]) (by simp [Act.eval, SV.val]) (by simp [Act.eval]) (OwL.alloc_ hin _) (OwL.lit FI [y] #[.int .i64 y] rfl (by simp [maxLen]) wq 3).rd' (by simp; omega) ?_; intro v5 w5 ho5 hg5 hat5; obtain ⟨A5, c5, hv5, _⟩ := id ho5.rd'; simp only [List.length_append, List.length_cons, List.length_nil] at hv5; subst hv5; have hx5 := Chg.of_grown hg5; have hf5 := (hx5.frozen gG kk (by simp; omega) hne).trans ((cell_old_frozen wq _ gG kk zG).trans pf); have hp5 := (hx5.cell gG kk (by simp; omega) hne).trans ((cell_old wq _ gG kk zG).trans p0); replace B_h := (B_h.alloc (.cells #[.int .i64 y] 3)).chg hx5 hnh; replace B_r := (B_r.alloc (.cells #[.int .i64 y] 3)).chg hx5 hnr; replace q_h_0 := B_h.cell 0 _ rfl; replace q_h_1 := B_h.cell 1 _ rfl; replace q_r_0 := B_r.cell 0 _ rfl; replace q_r_1 := B_r.cell 1 _ rfl; replace fr_h := B_h.fro; replace z_h := B_h.lt; replace fr_r := B_r.fro; replace z_r := B_r.lt; have zG5 : gG < w5.heap.size := Nat.lt_of_lt_of_le zG (Nat.le_trans (by simp) hx5.size))
                    refine hK.out _ _ ?hS (fun hHeld => ?hr)
                    case hS =>
                      (try dsimp only)
                      (first | (with_reducible exact ⟨q_h_0, q_h_1⟩) | (refine ⟨?_, ?_⟩ <;> (repeat (first | with_reducible assumption | with_reducible refine cell_set_o ?_ (by omega) | with_reducible refine cell_alloc_o ?_ (by omega) | with_reducible refine cell_drew_o ?_)); done) | (go_keep; done))
                    case hr =>
                      clear hK K
                      try simp only [List.getElem_toArray, List.getElem_cons_succ, List.getElem_cons_zero, Act.put, List.setIfInBounds_toArray, List.set_cons_zero, List.set_cons_succ]
                      refine wpAnyH_take (i := 14) (v := ?_) rfl (by kernel_rfl) (by kernel_rfl) (by kernel_rfl) (fun _ _ _ h => h) (Or.inl ⟨by kernel_rfl, ?_⟩) (by assumption) ?_
                      rotate_left
                      · (intro wz hSw; (try dsimp only at hSw); go_simp; (try with_reducible rfl))
                      try simp only [List.getElem_toArray, List.getElem_cons_succ, List.getElem_cons_zero, Act.put, List.setIfInBounds_toArray, List.set_cons_zero, List.set_cons_succ]
                      refine wpAnyH_take (i := 15) (v := ?_) rfl (by kernel_rfl) (by kernel_rfl) (by kernel_rfl) (fun _ _ _ h => h) (Or.inl ⟨by kernel_rfl, ?_⟩) (by assumption) ?_
                      rotate_left
                      · (intro wz hSw; (try dsimp only at hSw); go_simp; (try with_reducible rfl))
                      try simp only [List.getElem_toArray, List.getElem_cons_succ, List.getElem_cons_zero, Act.put, List.setIfInBounds_toArray, List.set_cons_zero, List.set_cons_succ]
                      refine wpAnyH_ready (rs := [16]) (by kernel_rfl) (by simp) ?_
                      refine (AllReadyH.cons rfl (fun K hK => ?_) AllReadyH.nil)
                      go_simp
                      refine hK.out _ _ ?hS (fun hHeld => ?hr)
                      case hS =>
                        (try dsimp only)
                        (first | (with_reducible exact ⟨q_h_0, q_h_1⟩) | (refine ⟨?_, ?_⟩ <;> (repeat (first | with_reducible assumption | with_reducible refine cell_set_o ?_ (by omega) | with_reducible refine cell_alloc_o ?_ (by omega) | with_reducible refine cell_drew_o ?_)); done) | (go_keep; done))
                      case hr =>
                        clear hK K
                        try simp only [List.getElem_toArray, List.getElem_cons_succ, List.getElem_cons_zero, Act.put, List.setIfInBounds_toArray, List.set_cons_zero, List.set_cons_succ]
                        refine wpAnyH_done (by kernel_rfl) ?_ _
                        have hN := OwLL.app_row (s' := ⟨A5, l.length + (0 + 1), c5⟩) (o_h.Global.alloc_ (.cells #[.int .i64 y] 3)) HV.out ho5 hg5 hat5
                        simp only [SV.val] at hN
                        have f5 : ∀ b ∈ foot2 (.slice (some ⟨gG, 0, none⟩) x.Global.length pG) (tG.set kk ⟨A5, l.length + (0 + 1), c5⟩), b ∈ foot2 (.slice (some ⟨gG, 0, none⟩) x.Global.length pG) tG ∨ b = wq.heap.size + 1 := fun b hb => by
                          rcases foot2_set hb with h1 | h1
                          · exact .inl h1
                          · have h3 : (Value.slice A5 (l.length + (0 + 1)) c5).ownBlock = some b := mem_foot1.1 h1; rcases hat5 with h2 | h2; (rw [h2] at h3; exact .inl (hsf b (mem_foot1.2 h3))); (rw [h2] at h3; injection h3 with h3; simp at h3; exact .inr h3.symm)
                        have oO5 : OwLL FI 3 94 (w5.setCell ⟨gG, kk, none⟩ (.slice A5 (l.length + (0 + 1)) c5)) (.slice (some ⟨gO, 0, none⟩) x.Own.length pO) tO x.Own := ((o_h.Own.alloc_ (.cells #[.int .i64 y] 3)).chg hx5 (fun b hb hm => D01 b (hsf b hm) hb)).chg (F := [gG]) (by repeat (first | with_reducible exact Chg.refl _ _ | with_reducible refine Chg.set_ ?_ (by simp) _ | with_reducible refine Chg.alloc_ ?_ _ | with_reducible refine Chg.drew_ ?_)) (fun b hb hm => by simp only [List.mem_cons, List.not_mem_nil, or_false] at hm; subst hm; exact D01 _ mG hb)
                        have oW : OwLists (w5.setCell ⟨gG, kk, none⟩ (.slice A5 (l.length + (0 + 1)) c5)) ⟨⟨some ⟨gG, 0, none⟩, x.Global.length, pG⟩, tG.set kk ⟨A5, l.length + (0 + 1), c5⟩, ⟨some ⟨gO, 0, none⟩, x.Own.length, pO⟩, tO⟩ { x with Global := x.Global.set kk (l ++ [y]) } := ⟨hN, oO5, fun b hb hm => by rcases f5 b hb with e | e; (exact D01 b e hm); (have := u_h b (foot_o hm); omega)⟩
                        have gW : ∀ b ∈ HLists.foot ⟨⟨some ⟨gG, 0, none⟩, x.Global.length, pG⟩, tG.set kk ⟨A5, l.length + (0 + 1), c5⟩, ⟨some ⟨gO, 0, none⟩, x.Own.length, pO⟩, tO⟩, w.heap.size < b ∧ b ≠ w1.heap.size := fun b hb => by rcases HLists.mem_foot.1 hb with h1 | h1; (rcases f5 b h1 with e | e; (have := l_h b (foot_g e); have := u_h b (foot_g e); omega); omega); (have := l_h b (foot_o h1); have := u_h b (foot_o h1); omega)
                        have hbl5 : Below w.heap.size wq w5 := ((Below.refl _ _).alloc hC.size _).grown hg5 (by simp; omega) (fun b hb => by have := l_h b (foot_g (hsf b (mem_foot1.2 hb))); omega)
                        replace hc := hc.keepB (B := w.heap.size) hgl hbl5 hC.size
                        replace hC := hC.then_ hbl5
                        have hszN := szLL_set_le x.Global kk (l ++ [y])
                        simp only [List.length_append, List.length_cons, List.length_nil] at hszN
                        clear hN oO5 ho5 hg5 hat5 hx5
                        go_wp2_with fail
                        refine bodyPost_ret (v := .agg #[.slice (some ⟨gG, 0, none⟩) x.Global.length pG, .slice (some ⟨gO, 0, none⟩) x.Own.length pO]) (by simp [results, Tryz.results139, go_sem, q_r_0, q_r_1]) rfl ⟨⟨⟨some ⟨gG, 0, none⟩, x.Global.length, pG⟩, tG.set kk ⟨A5, l.length + (0 + 1), c5⟩, ⟨some ⟨gO, 0, none⟩, x.Own.length, pO⟩, tO⟩, { x with Global := x.Global.set kk (l ++ [y]) }, rfl, oW.chg (F := [w.heap.size]) (by repeat (first | with_reducible exact Chg.refl _ _ | with_reducible refine Chg.set_ ?_ (by simp) _ | with_reducible refine Chg.alloc_ ?_ _ | with_reducible refine Chg.drew_ ?_)) (fun b hb hm => by simp only [List.mem_cons, List.not_mem_nil, or_false] at hm; have := gW b hb; omega), by unfold sizeLists at hsz ⊢; simp only; omega, fun b hb => by have := gW b hb; omega, hc.keepB (B := w.heap.size) hgl (by repeat (first | with_reducible exact Below.refl _ _ | with_reducible refine Below.setCell ?_ (by simp <;> omega) _ | with_reducible refine Below.alloc ?_ (by simp <;> omega) _ | with_reducible refine Below.drew ?_)) hC.size, hC.then_ (by repeat (first | with_reducible exact Below.refl _ _ | with_reducible refine Below.setCell ?_ (by simp <;> omega) _ | with_reducible refine Below.alloc ?_ (by simp <;> omega) _ | with_reducible refine Below.drew ?_))⟩
  have e3' : (k == 3) = false := by simpa using e3
  clear e0 e1 e2 e3
  go_wp2_with fail
  refine bodyPost_ret (v := .agg #[.slice (some ⟨gG, 0, none⟩) x.Global.length pG, .slice (some ⟨gO, 0, none⟩) x.Own.length pO]) (by simp [results, Tryz.results139, go_sem, q_r_0, q_r_1]) rfl ⟨⟨⟨some ⟨gG, 0, none⟩, x.Global.length, pG⟩, tG, ⟨some ⟨gO, 0, none⟩, x.Own.length, pO⟩, tO⟩, x, rfl, o_h.chg (F := [w.heap.size]) (by repeat (first | with_reducible exact Chg.refl _ _ | with_reducible refine Chg.set_ ?_ (by simp) _ | with_reducible refine Chg.alloc_ ?_ _ | with_reducible refine Chg.drew_ ?_)) (fun b hb hm => by simp only [List.mem_cons, List.not_mem_nil, or_false] at hm; have := l_h b hb; have := u_h b hb; omega), by omega, fun b hb => by have := l_h b hb; omega, hc.keepB (B := w.heap.size) hgl (by repeat (first | with_reducible exact Below.refl _ _ | with_reducible refine Below.setCell ?_ (by simp <;> omega) _ | with_reducible refine Below.alloc ?_ (by simp <;> omega) _ | with_reducible refine Below.drew ?_)) hC.size, hC.then_ (by repeat (first | with_reducible exact Below.refl _ _ | with_reducible refine Below.setCell ?_ (by simp <;> omega) _ | with_reducible refine Below.alloc ?_ (by simp <;> omega) _ | with_reducible refine Below.drew ?_))⟩
end Go.Proofs.YtkmggglljkmjoaaGreat

/-
  Memories: what is kept: plain facts (allocation, freeing, storing).
-/
namespace Go.Proofs.YtkmggglljkmjoaaGreat
open Go.RowKit
theorem classOfS_bd (n : Int) : classOfS n < 3 ∧ (classOfS n < 0 ∨ ∃ c : Nat, c < 3 ∧ classOfS n = (c : Int)) := by
  unfold classOfS
  repeat' split
  · exact ⟨by decide, .inl (by decide)⟩
  · exact ⟨by decide, .inr ⟨0, by decide, rfl⟩⟩
  · exact ⟨by decide, .inr ⟨1, by decide, rfl⟩⟩
  · exact ⟨by decide, .inr ⟨2, by decide, rfl⟩⟩
  · exact ⟨by decide, .inl (by decide)⟩
theorem row_cases (l : List Int) : l = [] ∨ ∃ r s, l = r ++ [s] := by
  rcases List.eq_nil_or_concat l with e | ⟨r, s, e⟩
  · exact .inl e
  · exact .inr ⟨r, s, by simpa using e⟩
/-- The ways through an allocation that is granted. -/
theorem alloc_ways {m : Mem} {w n : Int} (p : MemP m) (hw : inB 0 2 w = true) {c : Nat} (hc : c < 3) (hn : classOfS n = (c : Int)) :
    (∃ l s, m.Lists.Own[w.toNat * 3 + c]? = some (l ++ [s]) ∧ allocP m w n = ({ m with Lists := { m.Lists with Own := m.Lists.Own.set (w.toNat * 3 + c) l } }, genInB m.Heap s * 32 + s, 0)) ∨
    (m.Lists.Own[w.toNat * 3 + c]? = some [] ∧ ∃ l s, m.Lists.Global[c]? = some (l ++ [s]) ∧ allocP m w n = ({ m with Lists := { m.Lists with Global := m.Lists.Global.set c l } }, genInB m.Heap s * 32 + s, 0)) ∨
    (m.Lists.Own[w.toNat * 3 + c]? = some [] ∧ m.Lists.Global[c]? = some [] ∧ ((∃ q : Nat, q < 6 ∧ m.Heap.Class.getD q (-1) = -1 ∧ idxOf (fun y => y == -1) m.Heap.Class = (q : Int) ∧ allocP m w n = (grantM m q c, genInB (grantH m.Heap q c) ((q * 4 : Nat) : Int) * 32 + ((q * 4 : Nat) : Int), 0)) ∨ (idxOf (fun y => y == -1) m.Heap.Class = -1 ∧ allocP m w n = (m, 0, 3)))) := by
  obtain ⟨w0, w2⟩ := inB_iff.1 hw
  have sh := shape_of (heap_parts.1 p.heap).1
  have hgo : allocP m w n = allocC m w.toNat c := by rw [alloc_go (memP_ok p) hw (by omega), hn, Int.toNat_natCast]
  have hr : m.Lists.Own[w.toNat * 3 + c]? = some (m.Lists.Own[w.toNat * 3 + c]'(by rw [p.ow]; omega)) := List.getElem?_eq_getElem _
  have hr2 : m.Lists.Global[c]? = some (m.Lists.Global[c]'(by rw [p.gl]; omega)) := List.getElem?_eq_getElem _
  generalize m.Lists.Own[w.toNat * 3 + c]'(by rw [p.ow]; omega) = row at hr
  generalize m.Lists.Global[c]'(by rw [p.gl]; omega) = row2 at hr2
  rcases row_cases row with rfl | ⟨l, s, rfl⟩
  · rcases row_cases row2 with rfl | ⟨l, s, rfl⟩
    · refine .inr (.inr ⟨hr, hr2, ?_⟩)
      rcases idxCases m.Heap.Class (-1) with hi | ⟨q, hi⟩
      · exact .inr ⟨hi, hgo.trans (allocC_none hr hr2 hi)⟩
      · obtain ⟨hq, e⟩ := idxAt hi
        exact .inl ⟨q, by rw [← sh.cl]; exact hq, by rw [getD_at hq]; exact e, hi, hgo.trans (allocC_grant hr hr2 hi)⟩
    · exact .inr (.inl ⟨hr, l, s, hr2, hgo.trans (allocC_global hr hr2)⟩)
  · exact .inl ⟨l, s, hr, hgo.trans (allocC_own hr)⟩
theorem pop_keeps {m : Mem} {L : Lists} {s : Int} (hm : ∀ t, t ∈ allL m.Lists ↔ t = s ∨ t ∈ allL L) : Keeps m { m with Lists := L } s :=
  ⟨fun _ _ _ => rfl, fun _ _ _ => rfl, fun t hn _ => ⟨fun h => (hm t).2 (.inr h), fun h => ((hm t).1 h).resolve_left hn⟩, fun _ _ _ _ _ => rfl⟩
theorem alloc_ok {m : Mem} {w n : Int} (h : (allocP m w n).2.2 = 0) : memOkB m = true ∧ inB 0 2 w = true ∧ ∃ c : Nat, c < 3 ∧ classOfS n = (c : Int) := by
  by_cases c1 : memOkB m = false ∨ inB 0 2 w = false
  · rw [alloc_no1 c1] at h; exact absurd h (by simp)
  · have c1' : memOkB m = true ∧ inB 0 2 w = true := by
      constructor
      · cases e : memOkB m with
        | true => rfl
        | false => exact absurd (.inl e) c1
      · cases e : inB 0 2 w with
        | true => rfl
        | false => exact absurd (.inr e) c1
    rcases (classOfS_bd n).2 with hb | hb
    · rw [alloc_no2 c1'.1 c1'.2 hb] at h; exact absurd h (by simp)
    · exact ⟨c1'.1, c1'.2, hb⟩
/-- What an allocation that is told ok leaves behind. -/
theorem alloc_law {m : Mem} {w n : Int} (h : (allocP m w n).2.2 = 0) : ∃ s : Int, MemP m ∧ MemP (allocP m w n).1 ∧ (allocP m w n).2.1 = genInB (allocP m w n).1.Heap s * 32 + s ∧ inB 0 23 s = true ∧ inB 1 6 (genInB (allocP m w n).1.Heap s) = true ∧ classInB (allocP m w n).1.Heap s = classOfS n ∧ s ∉ allL (allocP m w n).1.Lists ∧
    (classInB m.Heap s < 0 ∨ (s ∈ allL m.Lists ∧ classInB (allocP m w n).1.Heap s = classInB m.Heap s ∧ genInB (allocP m w n).1.Heap s = genInB m.Heap s)) ∧ Keeps m (allocP m w n).1 s := by
  obtain ⟨ok, hw, c, hc, hn⟩ := alloc_ok h
  have p := memP_of ok
  have hci : inB 0 2 (c : Int) = true := inB_iff.2 ⟨by omega, by omega⟩
  obtain ⟨w0, w2⟩ := inB_iff.1 hw
  rcases alloc_ways p hw hc hn with ⟨l, s, hr, e⟩ | ⟨_, l, s, hr, e⟩ | ⟨_, hr, ⟨q, hq, hcl, hidx, e⟩ | ⟨_, e⟩⟩
  · have hf := p.fo _ _ s hr (List.mem_append.2 (.inr (List.mem_singleton_self s)))
    rw [show (w.toNat * 3 + c) % 3 = c by omega] at hf
    obtain ⟨f1, f2, f3⟩ := fit_facts p.heap hf hci
    obtain ⟨p2, hm, hnm⟩ := memP_own_pop p hr
    rw [e, hn]
    exact ⟨s, p, p2, rfl, f1, f3, f2, hnm, .inr ⟨(hm s).2 (.inl rfl), rfl, rfl⟩, pop_keeps hm⟩
  · have hf := p.fg _ _ s hr (List.mem_append.2 (.inr (List.mem_singleton_self s)))
    obtain ⟨f1, f2, f3⟩ := fit_facts p.heap hf hci
    obtain ⟨p2, hm, hnm⟩ := memP_global_pop p hr
    rw [e, hn]
    exact ⟨s, p, p2, rfl, f1, f3, f2, hnm, .inr ⟨(hm s).2 (.inl rfl), rfl, rfl⟩, pop_keeps hm⟩
  · have hs := (heap_parts.1 p.heap).1
    have hpp := perPage_ge hci
    have hpp4 := (perPage_bd (c : Int)).2
    have hg := fun i hi => grant_slot (h := m.Heap) (p := q) (c := c) (i := i) hs hq hc hi
    have hg0 := hg 0 (by omega)
    rw [Nat.add_zero] at hg0
    have hk := fun t kt => grant_keeps (m := m) (p := q) (c := c) (t := t) p.heap hq hc hcl kt
    have hlist : ∀ t ∈ allL m.Lists, ¬ classInB m.Heap t < 0 := fun t ht => by
      obtain ⟨d, hd, hf⟩ := listed_fits p ht
      rw [(fits_parts.1 hf).1]
      omega
    have p1 : MemP { m with Heap := grantH m.Heap q c } := memP_heap p (grant_page p.heap hq hc hcl) (fun t ht => ⟨(hk t (hlist t ht)).1, fun hb => by rw [(hk t (hlist t ht)).2.1]; exact hb⟩)
    have hdm : ∀ t ∈ (slotsTo q (perPage (c : Int)).toNat).drop 1, ∃ i < (perPage (c : Int)).toNat, t = ((q * 4 + i : Nat) : Int) := fun t ht => slotsTo_mem.1 (List.mem_of_mem_drop ht)
    have hnd0 := slotsTo_nodup q (perPage (c : Int)).toNat
    rw [slotsTo_cons (p := q) (k := (perPage (c : Int)).toNat) (by omega), List.nodup_cons] at hnd0
    have hout : ∀ i < 4, ((q * 4 + i : Nat) : Int) ∉ allL m.Lists := fun i hi hm => hlist _ hm (page_none hcl hi)
    have hnd : ((slotsTo q (perPage (c : Int)).toNat).drop 1 ++ allL m.Lists).Nodup := by
      rw [List.nodup_append]
      refine ⟨hnd0.2, p.nd, fun a ha b hb e => ?_⟩
      obtain ⟨i, hi, rfl⟩ := hdm a ha
      exact hout i (by omega) (e ▸ hb)
    have p2 := memP_global_add p1 hr (r := (slotsTo q (perPage (c : Int)).toNat).drop 1) (fun t ht => by obtain ⟨i, hi, rfl⟩ := hdm t ht; exact inB_iff.2 ⟨by omega, by omega⟩) hnd (fun t ht => by
      obtain ⟨i, hi, rfl⟩ := hdm t ht
      obtain ⟨g1, g2⟩ := hg i hi
      exact fits_parts.2 ⟨g1, by rw [g2]; decide⟩)
    have hperm := perm_global (x := m.Lists) ((slotsTo q (perPage (c : Int)).toNat).drop 1) hr
    have egm : grantM m q c = { Heap := grantH m.Heap q c, Lists := { m.Lists with Global := m.Lists.Global.set c ([] ++ (slotsTo q (perPage (c : Int)).toNat).drop 1) } } := by
      unfold grantM
      rw [List.getD_eq_getElem?_getD, hr]
      rfl
    rw [e, hn]
    simp only
    rw [egm]
    refine ⟨((q * 4 : Nat) : Int), p, p2, rfl, inB_iff.2 ⟨by omega, by omega⟩, by rw [hg0.2]; decide, hg0.1, ?_, .inl (by have := page_none (i := 0) hcl (by omega); rwa [Nat.add_zero] at this), ?_⟩
    · intro hm
      rcases List.mem_append.1 (hperm.mem_iff.1 hm) with hm | hm
      · exact hnd0.1 hm
      · have := hout 0 (by omega)
        rw [Nat.add_zero] at this
        exact this hm
    · refine ⟨fun t _ kt => (hk t kt).1, fun t _ kt => (hk t kt).2.1, fun t _ kt => ⟨fun hm => ?_, fun hm => hperm.mem_iff.2 (List.mem_append.2 (.inr hm))⟩, fun t _ kt => (hk t kt).2.2.1⟩
      rcases List.mem_append.1 (hperm.mem_iff.1 hm) with hm | hm
      · obtain ⟨i, hi, e⟩ := hdm t hm
        exact absurd e ((hk t kt).2.2.2 i (by omega))
      · exact hm
  · rw [e] at h; exact absurd h (by simp)
theorem alloc_fail {m : Mem} {w n : Int} (h : (allocP m w n).2.2 ≠ 0) : (allocP m w n).1 = m ∧ (allocP m w n).2.1 = 0 := by
  by_cases c1 : memOkB m = false ∨ inB 0 2 w = false
  · rw [alloc_no1 c1]; exact ⟨rfl, rfl⟩
  have c1' : memOkB m = true ∧ inB 0 2 w = true := by
    constructor
    · cases e : memOkB m with
      | true => rfl
      | false => exact absurd (.inl e) c1
    · cases e : inB 0 2 w with
      | true => rfl
      | false => exact absurd (.inr e) c1
  rcases (classOfS_bd n).2 with hb | ⟨c, hc, hn⟩
  · rw [alloc_no2 c1'.1 c1'.2 hb]; exact ⟨rfl, rfl⟩
  · rcases alloc_ways (memP_of c1'.1) c1'.2 hc hn with ⟨l, s, hr, e⟩ | ⟨_, l, s, hr, e⟩ | ⟨_, hr, ⟨q, hq, hcl, hidx, e⟩ | ⟨_, e⟩⟩
    · rw [e] at h; exact absurd rfl h
    · rw [e] at h; exact absurd rfl h
    · rw [e] at h; exact absurd rfl h
    · rw [e]; exact ⟨rfl, rfl⟩
theorem free_ok {m : Mem} {w h : Int} (k : (freeP m w h).2 = 0) : memOkB m = true ∧ inB 0 2 w = true ∧ liveB m h = true := by
  by_cases c1 : memOkB m = false ∨ inB 0 2 w = false
  · rw [free_no1 c1] at k; exact absurd k (by simp)
  have c1' : memOkB m = true ∧ inB 0 2 w = true := by
    constructor
    · cases e : memOkB m with
      | true => rfl
      | false => exact absurd (.inl e) c1
    · cases e : inB 0 2 w with
      | true => rfl
      | false => exact absurd (.inr e) c1
  cases e : liveB m h with
  | true => exact ⟨c1'.1, c1'.2, rfl⟩
  | false => rw [free_no2 c1'.1 c1'.2 e] at k; exact absurd k (by simp)
theorem free_fail {m : Mem} {w h : Int} (k : (freeP m w h).2 ≠ 0) : (freeP m w h).1 = m := by
  unfold freeP at k ⊢
  split
  · rfl
  · rename_i c1
    rw [if_neg c1] at k
    split
    · rfl
    · rename_i c2
      rw [if_neg c2] at k
      exact absurd rfl k
theorem digs4_val (g : Int) (h0 : 0 ≤ g) (h1 : g ≤ 7) : ∀ (b : List Int) (a : Nat), a + 4 ≤ b.length → loadTo (putAt b a (digs 4 g)) a 4 = g := fun b a hl =>
  loadTo_put 4 g _ _ (fun j hj => getD_putIn (by rw [digs_len]; exact hl) (by rw [digs_len]; exact hj)) h0 (by have : (256 : Int) ^ 4 = 4294967296 := (by decide); omega)
/-- What freeing leaves behind. -/
theorem free_law {m : Mem} {w h : Int} (k : (freeP m w h).2 = 0) : MemP m ∧ liveB m h = true ∧ MemP (freeP m w h).1 ∧ genInB (freeP m w h).1.Heap (h % 32) = h / 32 + 1 ∧ (∀ t, classInB (freeP m w h).1.Heap t = classInB m.Heap t) ∧ Keeps m (freeP m w h).1 (h % 32) ∧
    (∀ t, t ∈ allL (freeP m w h).1.Lists → t = h % 32 ∨ t ∈ allL m.Lists) ∧ (freeP m w h).1.Lists = (if h / 32 + 1 ≤ 6 then giveL m.Lists (w.toNat * 3 + (classInB m.Heap (h % 32)).toNat) (classInB m.Heap (h % 32)).toNat (h % 32) else m.Lists) := by
  obtain ⟨ok, hw, hl⟩ := free_ok k
  have p := memP_of ok
  obtain ⟨hok, hcn, hnl, hge⟩ := live_iff.1 hl
  obtain ⟨w0, w2⟩ := inB_iff.1 hw
  have hhb := handleOk_bd hok
  obtain ⟨P, I, hP, hI4, es, hcl, hI, hct, ega, _⟩ := slot_place hcn
  have sh := shape_of (heap_parts.1 p.heap).1
  have hss := stride_size hcl
  obtain ⟨i1, i2⟩ := gpos_in (P := P) hcl hI
  have h4 := stride_ge hcl
  rw [free_yes ok hw hl]
  generalize h % 32 = s at *
  have hgb := gen_bd p.heap hcn
  rw [hge] at hgb
  have hg0 : 0 ≤ h / 32 + 1 := by omega
  have hg7 : h / 32 + 1 ≤ 7 := by omega
  have eH : setGenB m.Heap s (genInB m.Heap s + 1) = { m.Heap with Bytes := putAt m.Heap.Bytes (gpos P I (classInB m.Heap s)) (digs 4 (h / 32 + 1)) } := by
    unfold setGenB
    rw [hge, ega, Int.toNat_natCast]
  have hlen : gpos P I (classInB m.Heap s) + 4 ≤ m.Heap.Bytes.length := by rw [sh.bl]; omega
  have hload := digs4_val (h / 32 + 1) hg0 hg7 m.Heap.Bytes (gpos P I (classInB m.Heap s)) hlen
  have okH : heapOkB { m.Heap with Bytes := putAt m.Heap.Bytes (gpos P I (classInB m.Heap s)) (digs 4 (h / 32 + 1)) } = true :=
    heap_put p.heap hcn hP hI hct hcl (digs_bd 4 _) (Nat.le_refl _) (by rw [digs_len]; omega) (by rw [hload]; exact inB_iff.2 ⟨by omega, by omega⟩)
  have hgs : genInB { m.Heap with Bytes := putAt m.Heap.Bytes (gpos P I (classInB m.Heap s)) (digs 4 (h / 32 + 1)) } s = h / 32 + 1 :=
    (gen_load (h := { m.Heap with Bytes := putAt m.Heap.Bytes (gpos P I (classInB m.Heap s)) (digs 4 (h / 32 + 1)) }) (P := P) (I := I) hcn ega).trans hload
  have hgo : ∀ t, t ≠ s → genInB { m.Heap with Bytes := putAt m.Heap.Bytes (gpos P I (classInB m.Heap s)) (digs 4 (h / 32 + 1)) } t = genInB m.Heap t := fun t ht =>
    put_gen_other sh hcn ht es hI4 hP hI hct hcl (Nat.le_refl _) (by rw [digs_len]; omega)
  have p1 : MemP { m with Heap := { m.Heap with Bytes := putAt m.Heap.Bytes (gpos P I (classInB m.Heap s)) (digs 4 (h / 32 + 1)) } } := memP_heap p okH (fun t ht => ⟨rfl, fun hb => by rw [hgo t (fun e => hnl (e ▸ ht))]; exact hb⟩)
  have hbyt : ∀ t, t ≠ s → ¬ classInB m.Heap t < 0 → ∀ j < (sizeOfC (classInB m.Heap t)).toNat, (putAt m.Heap.Bytes (gpos P I (classInB m.Heap s)) (digs 4 (h / 32 + 1))).getD ((startAt t (classInB m.Heap t)).toNat + j) 0 = m.Heap.Bytes.getD ((startAt t (classInB m.Heap t)).toNat + j) 0 := fun t ht kt j hj => by
    obtain ⟨Q, J, hQ, hJ4, et, hclt, hJ, hctt, _, est⟩ := slot_place kt
    have := put_other (a := gpos P I (classInB m.Heap s)) (ds := digs 4 (h / 32 + 1)) sh hcn kt ht es hI4 hP hI hct hcl (Nat.le_refl _) (by rw [digs_len]; omega) Q J et hJ4 hJ hctt hclt (4 + j) (by rw [stride_size hclt]; omega)
    rw [est, Int.toNat_natCast, Nat.add_assoc]
    exact this
  unfold freedM
  rw [eH, hge]
  by_cases h6 : h / 32 + 1 ≤ 6
  case neg =>
    rw [if_neg h6]
    exact ⟨p, hl, p1, hgs, fun _ => rfl, ⟨fun _ _ _ => rfl, fun t ht _ => hgo t ht, fun _ _ _ => Iff.rfl, hbyt⟩, fun t ht => .inr ht, rfl⟩
  rw [if_pos h6]
  obtain ⟨c, hc, ec⟩ : ∃ c : Nat, c < 3 ∧ classInB m.Heap s = (c : Int) := ⟨(classInB m.Heap s).toNat, by have := inB_iff.1 hcl; omega, by have := inB_iff.1 hcl; omega⟩
  have hfit : ∀ d : Int, d = classInB m.Heap s → fitsB { m.Heap with Bytes := putAt m.Heap.Bytes (gpos P I (classInB m.Heap s)) (digs 4 (h / 32 + 1)) } d s = true := fun d e => fits_parts.2 ⟨e.symm, by rw [hgs]; exact h6⟩
  have hr : m.Lists.Own[w.toNat * 3 + c]? = some (m.Lists.Own[w.toNat * 3 + c]'(by rw [p.ow]; omega)) := List.getElem?_eq_getElem _
  have hr2 : m.Lists.Global[c]? = some (m.Lists.Global[c]'(by rw [p.gl]; omega)) := List.getElem?_eq_getElem _
  generalize m.Lists.Own[w.toNat * 3 + c]'(by rw [p.ow]; omega) = row at hr
  generalize m.Lists.Global[c]'(by rw [p.gl]; omega) = row2 at hr2
  have hs23 : inB 0 23 s = true := hhb.2.2.2.1
  rw [show (classInB m.Heap s).toNat = c by omega]
  by_cases hlt : row.length < 2
  · have eg := giveL_own (c := c) (s := s) hr hlt
    have p2 := memP_own_add p1 hr hlt hs23 hnl (hfit _ (by rw [show (w.toNat * 3 + c) % 3 = c by omega]; exact ec.symm))
    have hp := perm_own (x := m.Lists) [s] hr
    rw [eg]
    refine ⟨p, hl, p2, hgs, fun _ => rfl, ⟨fun _ _ _ => rfl, fun t ht _ => hgo t ht, fun t ht _ => ?_, hbyt⟩, fun t ht => ?_, rfl⟩
    · have := hp.mem_iff (a := t)
      simp only [List.cons_append, List.nil_append, List.mem_cons] at this
      exact ⟨fun hm => (this.1 hm).resolve_left ht, fun hm => this.2 (.inr hm)⟩
    · have := hp.mem_iff (a := t)
      simp only [List.cons_append, List.nil_append, List.mem_cons] at this
      exact this.1 ht
  · have eg := giveL_glob (s := s) hr hlt hr2
    have p2 := memP_global_add p1 hr2 (r := [s]) (fun t ht => by rw [List.mem_singleton.1 ht]; exact hs23) (List.nodup_cons.2 ⟨hnl, p.nd⟩) (fun t ht => by rw [List.mem_singleton.1 ht]; exact hfit _ ec.symm)
    have hp := perm_global (x := m.Lists) [s] hr2
    rw [eg]
    refine ⟨p, hl, p2, hgs, fun _ => rfl, ⟨fun _ _ _ => rfl, fun t ht _ => hgo t ht, fun t ht _ => ?_, hbyt⟩, fun t ht => ?_, rfl⟩
    · have := hp.mem_iff (a := t)
      simp only [List.cons_append, List.nil_append, List.mem_cons] at this
      exact ⟨fun hm => (this.1 hm).resolve_left ht, fun hm => this.2 (.inr hm)⟩
    · have := hp.mem_iff (a := t)
      simp only [List.cons_append, List.nil_append, List.mem_cons] at this
      exact this.1 ht
/-- What a store leaves behind. -/
theorem store_law {m : Mem} {h a k n : Int} (hc : (storeInP m h a k n).2 = 0) : MemP m ∧ liveB m h = true ∧ MemP (storeInP m h a k n).1 ∧ loadInP (storeInP m h a k n).1 h a k = (n, 0) ∧ (storeInP (storeInP m h a k n).1 h (sizeOfC (classInB m.Heap (h % 32)) - k + 1) k n).2 = 2 ∧ (storeInP m h a k n).1.Lists = m.Lists ∧
    (storeInP m h a k n).1.Heap.Bytes.length = 384 ∧ 1 ≤ k ∧ k ≤ 7 ∧ 0 ≤ a ∧ 0 ≤ startAt (h % 32) (classInB m.Heap (h % 32)) ∧ (∀ i : Nat, (i : Int) < startAt (h % 32) (classInB m.Heap (h % 32)) + a ∨ startAt (h % 32) (classInB m.Heap (h % 32)) + a + k ≤ i → (storeInP m h a k n).1.Heap.Bytes.getD i 0 = m.Heap.Bytes.getD i 0) := by
  by_cases c : (spotB m h a k).2 = 0
  case neg => rw [store_no1 c] at hc; exact absurd hc c
  by_cases f : fixOk n k = true
  case neg => rw [store_no2 c ((Bool.not_eq_true _).mp f)] at hc; exact absurd hc (by simp)
  obtain ⟨ok, k1, k7, hl, p0, p1, hin, ep⟩ := spot_zero c
  obtain ⟨_, _, n0, n1⟩ := fixOk_yes f
  have p := memP_of ok
  obtain ⟨hok, hcn, hnl, hge⟩ := live_iff.1 hl
  obtain ⟨P, I, hP, hI4, es, hcl, hI, hct, ega, est⟩ := slot_place hcn
  have sh := shape_of (heap_parts.1 p.heap).1
  have hss := stride_size hcl
  have hsz := sizeOfC_bd (classInB m.Heap (h % 32))
  obtain ⟨i1, i2⟩ := gpos_in (P := P) hcl hI
  obtain ⟨a0, a1⟩ := inB_iff.1 hin
  have kI : inB 1 7 k = true := inB_iff.2 ⟨k1, k7⟩
  rw [store_yes c f]
  obtain ⟨K, rfl⟩ := Int.eq_ofNat_of_zero_le (show 0 ≤ k by omega)
  obtain ⟨A, rfl⟩ := Int.eq_ofNat_of_zero_le a0
  have eq : (spotB m h (A : Int) (K : Int)).1 = ((gpos P I (classInB m.Heap (h % 32)) + 4 + A : Nat) : Int) := by rw [ep, est]; omega
  unfold putN
  rw [eq, Int.toNat_natCast, Int.toNat_natCast]
  rw [Int.toNat_natCast] at n1
  rw [est]
  generalize hcls : classInB m.Heap (h % 32) = C at *
  have hdl : (digs K n).length = K := digs_len K n
  have hlen : gpos P I C + 4 + A + (digs K n).length ≤ m.Heap.Bytes.length := by rw [sh.bl, hdl]; omega
  have hmeta : loadTo (putAt m.Heap.Bytes (gpos P I C + 4 + A) (digs K n)) (gpos P I C) 4 = loadTo m.Heap.Bytes (gpos P I C) 4 := loadTo_same 4 (fun j hj => getD_putOut hlen (.inl (by omega)))
  have hgenO := gen_load (h := m.Heap) (s := h % 32) (P := P) (I := I) (by rw [hcls]; exact hcn) (by rw [hcls]; exact ega)
  rw [hcls] at hgenO
  have hgb := gen_bd p.heap (s := h % 32) (by rw [hcls]; exact hcn)
  have okH : heapOkB { m.Heap with Bytes := putAt m.Heap.Bytes (gpos P I C + 4 + A) (digs K n) } = true := by
    subst hcls
    exact heap_put p.heap hcn hP hI hct hcl (digs_bd K n) (by omega) (by rw [hdl]; omega) (by rw [hmeta, ← hgenO]; exact inB_iff.2 hgb)
  have hgall : ∀ t, genInB { m.Heap with Bytes := putAt m.Heap.Bytes (gpos P I C + 4 + A) (digs K n) } t = genInB m.Heap t := fun t => by
    by_cases e : t = h % 32
    · subst e
      have := gen_load (h := { m.Heap with Bytes := putAt m.Heap.Bytes (gpos P I C + 4 + A) (digs K n) }) (s := h % 32) (P := P) (I := I) (by show ¬ classInB m.Heap (h % 32) < 0; rw [hcls]; exact hcn) (by show genAt (h % 32) (classInB m.Heap (h % 32)) = ((gpos P I (classInB m.Heap (h % 32)) : Nat) : Int); rw [hcls]; exact ega)
      rw [hgenO, this]
      show loadTo _ (gpos P I (classInB m.Heap (h % 32))) 4 = _
      rw [hcls]
      exact hmeta
    · subst hcls
      exact put_gen_other sh hcn e es hI4 hP hI hct hcl (by omega) (by rw [hdl]; omega)
  have p1 : MemP { m with Heap := { m.Heap with Bytes := putAt m.Heap.Bytes (gpos P I C + 4 + A) (digs K n) } } := memP_heap p okH (fun t _ => ⟨rfl, fun hb => by rw [hgall t]; exact hb⟩)
  have hl1 : liveB { m with Heap := { m.Heap with Bytes := putAt m.Heap.Bytes (gpos P I C + 4 + A) (digs K n) } } h = true := live_iff.2 ⟨hok, by show ¬ classInB m.Heap (h % 32) < 0; rw [hcls]; exact hcn, hnl, by rw [hgall]; exact hge⟩
  have ok1 := memP_ok p1
  have ecl : classInB ({ m with Heap := { m.Heap with Bytes := putAt m.Heap.Bytes (gpos P I C + 4 + A) (digs K n) } } : Mem).Heap (h % 32) = C := hcls
  refine ⟨p, hl, p1, ?_, ?_, rfl, ?_, k1, k7, a0, by omega, fun i hi => ?_⟩
  · have e1 := spot_yes ok1 kI hl1 (a := (A : Int)) (by rw [ecl]; exact hin)
    rw [ecl, est] at e1
    rw [load_yes e1]
    unfold loadN
    rw [show (((gpos P I C + 4 : Nat) : Int) + (A : Int)).toNat = gpos P I C + 4 + A by omega, Int.toNat_natCast]
    rw [loadTo_put K n _ _ (fun j hj => getD_putIn hlen (by rw [hdl]; exact hj)) n0 n1]
  · have e1 := spot_no4 ok1 kI hl1 (a := sizeOfC C - (K : Int) + 1) (by
      rw [ecl]
      cases e : inB 0 (sizeOfC C - (K : Int)) (sizeOfC C - (K : Int) + 1) with
      | false => rfl
      | true => have := inB_iff.1 e; omega)
    rw [store_no1 (by rw [e1]; decide), e1]
  · show (putAt m.Heap.Bytes (gpos P I C + 4 + A) (digs K n)).length = 384
    rw [putAt_len hlen]
    exact sh.bl
  · exact getD_putOut hlen (by rw [hdl]; omega)
end Go.Proofs.YtkmggglljkmjoaaGreat

