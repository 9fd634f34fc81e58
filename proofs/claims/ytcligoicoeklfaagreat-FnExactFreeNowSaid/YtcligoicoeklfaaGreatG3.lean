/-
  A slot freed: the contract.
-/
import Derived.Test.YtcligoicoeklfaaGreatT
import Derived.Test.YtcligoicoeklfaaGreatL
import Derived.Deep.QuietTactic
import Derived.BigQuiet
import Derived.Deep.LoopGhost
import Derived.Deep.RegionHeld3
import Derived.Test.YtcligoicoeklfaaGreatN
import Derived.Test.YtcligoicoeklfaaGreatA
import Derived.WalkSpells
import Derived.Laws.Cover3
import Derived.Test.YtcligoicoeklfaaGreatG2
namespace Go.Proofs.YtcligoicoeklfaaGreat
open Go.RowKit

theorem state3 {m : Mem} {s : Int} (h : stateB m s = 3) : ¬ classInB m.Heap s < 0 ∧ onListB m.Lists s = false ∧ genInB m.Heap s ≤ 6 := by
  unfold stateB at h
  by_cases k1 : classInB m.Heap s < 0
  · rw [if_pos k1] at h
    exact absurd h (by decide)
  · rw [if_neg k1] at h
    by_cases k2 : onListB m.Lists s = true
    · rw [if_pos k2] at h
      exact absurd h (by decide)
    · rw [if_neg k2] at h
      by_cases k3 : 6 < genInB m.Heap s
      · rw [if_pos k3] at h
        exact absurd h (by decide)
      · exact ⟨k1, (Bool.not_eq_true _).mp k2, by omega⟩
theorem cls_le {h : Heap} {s : Int} (sh : Shape h) (k : ¬ classInB h s < 0) : 0 ≤ classInB h s ∧ classInB h s ≤ 2 := by
  have := clAt_bd sh s
  rcases classInB_cases h s with ⟨e, _⟩ | ⟨e, _⟩ <;> omega
theorem freedM_eq {m : Mem} {wk c : Nat} {s g : Int} (hc : classInB m.Heap s = (c : Int)) (hg : genInB m.Heap s = g) : freedM m wk s = ⟨setGenB m.Heap s (g + 1), if g + 1 ≤ 6 then giveL m.Lists (wk * 3 + c) c s else m.Lists⟩ := by
  unfold freedM
  rw [hc, hg, Int.toNat_natCast]

set_option maxRecDepth 100000 in
set_option maxHeartbeats 8000000 in
theorem freed_impl (w : World) (H : HMem) (x : Mem) (wk : Nat) (a : Int) (h : RdMem w w.heap.size H x) (hs : sizeMem x ≤ 536870912) (c1 : memOkB x = true) (hw : wk < 3) (c3 : liveB x a = true) :
    Calls Tryz.prog 31 #[.agg #[.slice H.Heap.Bytes.a H.Heap.Bytes.len H.Heap.Bytes.cap, .slice H.Heap.Class.a H.Heap.Class.len H.Heap.Class.cap, .slice H.Lists.Global.a H.Lists.Global.len H.Lists.Global.cap, .slice H.Lists.Own.a H.Lists.Own.len H.Lists.Own.cap], .int .i64 wk, .int .i64 a] w fun e w' => ∃ H' : HMem, e = .returned (.agg #[.slice H'.Heap.Bytes.a H'.Heap.Bytes.len H'.Heap.Bytes.cap, .slice H'.Heap.Class.a H'.Heap.Class.len H'.Heap.Class.cap, .slice H'.Lists.Global.a H'.Lists.Global.len H'.Lists.Global.cap, .slice H'.Lists.Own.a H'.Lists.Own.len H'.Lists.Own.cap]) ∧ OwMem w' H' (freedM x wk (a % 32)) ∧ (∀ g ∈ H'.foot, w.heap.size ≤ g) ∧ Below w.heap.size w w' := by
  obtain ⟨l1, l2, l3⟩ := live_parts c3
  obtain ⟨e1, e2, _, e4, _, _⟩ := handleOk_bd l1
  obtain ⟨k1, k2, k3⟩ := state3 l2
  have hsh := mem_shape c1
  obtain ⟨d1, d2⟩ := cls_le (shape_of hsh) k1
  obtain ⟨c, hc⟩ : ∃ c : Nat, classInB x.Heap (a % 32) = (c : Int) := ⟨(classInB x.Heap (a % 32)).toNat, by omega⟩
  have hcn : c < 3 := by omega
  have HE := Hid.mk_ (freedM_eq (wk := wk) hc l3)
  have hsh2 : sizeHeap x.Heap ≤ 536870912 ∧ sizeLists x.Lists ≤ 536870912 := by unfold sizeMem at hs; omega
  have hsg := fun (W : World) (hW : Below w.heap.size w W) => SetGen_yes W H.Heap x.Heap (a % 32) (a / 32 + 1) (rdHeap_up h.Heap hW) hsh2.1 hsh k1 (by omega) (by omega)
  have hcl := fun (W : World) (hW : Below w.heap.size w W) => copyLists_impl W H.Lists x.Lists (rdLists_up h.Lists hW) hsh2.2
  have hci := fun (W : World) (hW : Below w.heap.size w W) => classIn_impl W H.Heap x.Heap (a % 32) (rdHeap_up h.Heap hW) hsh
  rw [hc] at hci
  have hgv := fun (W : World) (hW : Below w.heap.size w W) => Give_yes W H.Lists x.Lists wk c (a % 32) (rdLists_up h.Lists hW) hsh2.2 (mem_lists c1) hw hcn e4 k2
  clear l1 l2 l3 e4 k1 k2 k3 hsh d1 d2 hc hsh2 hs c1 c3
  have B_a : Box ((w.alloc (.cells #[.slice H.Heap.Bytes.a H.Heap.Bytes.len H.Heap.Bytes.cap, .slice H.Heap.Class.a H.Heap.Class.len H.Heap.Class.cap, .slice H.Lists.Global.a H.Lists.Global.len H.Lists.Global.cap, .slice H.Lists.Own.a H.Lists.Own.len H.Lists.Own.cap] 36)).alloc (.cells #[.slice none 0 0, .slice none 0 0, .slice none 0 0, .slice none 0 0] 36)) (w.heap.size) [.slice H.Heap.Bytes.a H.Heap.Bytes.len H.Heap.Bytes.cap, .slice H.Heap.Class.a H.Heap.Class.len H.Heap.Class.cap, .slice H.Lists.Global.a H.Lists.Global.len H.Lists.Global.cap, .slice H.Lists.Own.a H.Lists.Own.len H.Lists.Own.cap] := by
    have hbx := Box.new w #[.slice H.Heap.Bytes.a H.Heap.Bytes.len H.Heap.Bytes.cap, .slice H.Heap.Class.a H.Heap.Class.len H.Heap.Class.cap, .slice H.Lists.Global.a H.Lists.Global.len H.Lists.Global.cap, .slice H.Lists.Own.a H.Lists.Own.len H.Lists.Own.cap] 36
    exact (hbx).alloc _
  have B_r : Box ((w.alloc (.cells #[.slice H.Heap.Bytes.a H.Heap.Bytes.len H.Heap.Bytes.cap, .slice H.Heap.Class.a H.Heap.Class.len H.Heap.Class.cap, .slice H.Lists.Global.a H.Lists.Global.len H.Lists.Global.cap, .slice H.Lists.Own.a H.Lists.Own.len H.Lists.Own.cap] 36)).alloc (.cells #[.slice none 0 0, .slice none 0 0, .slice none 0 0, .slice none 0 0] 36)) (w.heap.size + 1) [.slice none 0 0, .slice none 0 0, .slice none 0 0, .slice none 0 0] := by
    have hbx := Box.new (w.alloc (.cells #[.slice H.Heap.Bytes.a H.Heap.Bytes.len H.Heap.Bytes.cap, .slice H.Heap.Class.a H.Heap.Class.len H.Heap.Class.cap, .slice H.Lists.Global.a H.Lists.Global.len H.Lists.Global.cap, .slice H.Lists.Own.a H.Lists.Own.len H.Lists.Own.cap] 36)) #[.slice none 0 0, .slice none 0 0, .slice none 0 0, .slice none 0 0] 36
    simp only [World.size_alloc] at hbx
    exact hbx
  have hB : Below w.heap.size w ((w.alloc (.cells #[.slice H.Heap.Bytes.a H.Heap.Bytes.len H.Heap.Bytes.cap, .slice H.Heap.Class.a H.Heap.Class.len H.Heap.Class.cap, .slice H.Lists.Global.a H.Lists.Global.len H.Lists.Global.cap, .slice H.Lists.Own.a H.Lists.Own.len H.Lists.Own.cap] 36)).alloc (.cells #[.slice none 0 0, .slice none 0 0, .slice none 0 0, .slice none 0 0] 36)) := by repeat (first | exact Below.refl _ _ | refine Below.alloc ?_ (by simp <;> omega) _ | refine below_grow_of ?_ (by simp <;> omega) _ _ | refine Below.drew ?_ | refine below_drewN ?_ _)
  go_enter Tryz.func31, Tryz.ntmps31
  go_wp2_with fail
  generalize hW0 : ((w.alloc (.cells #[.slice H.Heap.Bytes.a H.Heap.Bytes.len H.Heap.Bytes.cap, .slice H.Heap.Class.a H.Heap.Class.len H.Heap.Class.cap, .slice H.Lists.Global.a H.Lists.Global.len H.Lists.Global.cap, .slice H.Lists.Own.a H.Lists.Own.len H.Lists.Own.cap] 36)).alloc (.cells #[.slice none 0 0, .slice none 0 0, .slice none 0 0, .slice none 0 0] 36)) = w0 at B_a B_r hB ⊢
  clear hW0
  have zz_a := B_a.lt
  have zz_r := B_r.lt
  have q_a_0 := B_a.cell 0 _ rfl
  have q_a_1 := B_a.cell 1 _ rfl
  have q_a_2 := B_a.cell 2 _ rfl
  have q_a_3 := B_a.cell 3 _ rfl
  have fr_a := B_a.fro
  have z_a := B_a.lt
  have q_r_0 := B_r.cell 0 _ rfl
  have q_r_1 := B_r.cell 1 _ rfl
  have q_r_2 := B_r.cell 2 _ rfl
  have q_r_3 := B_r.cell 3 _ rfl
  have fr_r := B_r.fro
  have z_r := B_r.lt
  refine (hsg _ hB).mono ?_
  rintro e w1 ⟨K_g, rfl, o_g, l_g, hb⟩
  have u_g := o_g.lt
  replace B_a := B_a.below hb
  replace B_r := B_r.below hb
  replace hB := hB.trans (hb.mono hB.size)
  have sz := hb.size
  clear hb
  replace q_a_0 := B_a.cell 0 _ rfl
  replace q_a_1 := B_a.cell 1 _ rfl
  replace q_a_2 := B_a.cell 2 _ rfl
  replace q_a_3 := B_a.cell 3 _ rfl
  replace fr_a := B_a.fro
  replace z_a := B_a.lt
  replace q_r_0 := B_r.cell 0 _ rfl
  replace q_r_1 := B_r.cell 1 _ rfl
  replace q_r_2 := B_r.cell 2 _ rfl
  replace q_r_3 := B_r.cell 3 _ rfl
  replace fr_r := B_r.fro
  replace z_r := B_r.lt
  clear hsg
  go_upto_region 3 with (fail)
  replace B_a := B_a.alloc (.cells #[.slice K_g.Bytes.a K_g.Bytes.len K_g.Bytes.cap, .slice K_g.Class.a K_g.Class.len K_g.Class.cap] 31)
  replace B_r := B_r.alloc (.cells #[.slice K_g.Bytes.a K_g.Bytes.len K_g.Bytes.cap, .slice K_g.Class.a K_g.Class.len K_g.Class.cap] 31)
  replace o_g := o_g.alloc_ (.cells #[.slice K_g.Bytes.a K_g.Bytes.len K_g.Bytes.cap, .slice K_g.Class.a K_g.Class.len K_g.Class.cap] 31)
  replace hB := hB.alloc hB.size (.cells #[.slice K_g.Bytes.a K_g.Bytes.len K_g.Bytes.cap, .slice K_g.Class.a K_g.Class.len K_g.Class.cap] 31)
  have B_p : Box (w1.alloc (.cells #[.slice K_g.Bytes.a K_g.Bytes.len K_g.Bytes.cap, .slice K_g.Class.a K_g.Class.len K_g.Class.cap] 31)) w1.heap.size [.slice K_g.Bytes.a K_g.Bytes.len K_g.Bytes.cap, .slice K_g.Class.a K_g.Class.len K_g.Class.cap] := Box.new w1 #[.slice K_g.Bytes.a K_g.Bytes.len K_g.Bytes.cap, .slice K_g.Class.a K_g.Class.len K_g.Class.cap] 31
  have zz_p := B_p.lt
  have sz : w1.heap.size ≤ (w1.alloc (.cells #[.slice K_g.Bytes.a K_g.Bytes.len K_g.Bytes.cap, .slice K_g.Class.a K_g.Class.len K_g.Class.cap] 31)).heap.size := Nat.le_of_lt B_p.lt
  generalize hG : (w1.alloc (.cells #[.slice K_g.Bytes.a K_g.Bytes.len K_g.Bytes.cap, .slice K_g.Class.a K_g.Class.len K_g.Class.cap] 31)) = w2 at B_a B_r o_g hB B_p zz_p sz ⊢
  clear hG
  replace q_a_0 := B_a.cell 0 _ rfl
  replace q_a_1 := B_a.cell 1 _ rfl
  replace q_a_2 := B_a.cell 2 _ rfl
  replace q_a_3 := B_a.cell 3 _ rfl
  replace fr_a := B_a.fro
  replace z_a := B_a.lt
  replace q_r_0 := B_r.cell 0 _ rfl
  replace q_r_1 := B_r.cell 1 _ rfl
  replace q_r_2 := B_r.cell 2 _ rfl
  replace q_r_3 := B_r.cell 3 _ rfl
  replace fr_r := B_r.fro
  replace z_r := B_r.lt
  have q_p_0 := B_p.cell 0 _ rfl
  have q_p_1 := B_p.cell 1 _ rfl
  have fr_p := B_p.fro
  have z_p := B_p.lt
  go_upto_region 3 with (fail)
  go_cut [11] from 11 to 29 (fun v11 wx => ∃ (go : Nat) (K_l : HLists), v11 = .pointer (some ⟨go, 0, none⟩) ∧ Box wx (w.heap.size) [.slice H.Heap.Bytes.a H.Heap.Bytes.len H.Heap.Bytes.cap, .slice H.Heap.Class.a H.Heap.Class.len H.Heap.Class.cap, .slice H.Lists.Global.a H.Lists.Global.len H.Lists.Global.cap, .slice H.Lists.Own.a H.Lists.Own.len H.Lists.Own.cap] ∧ Box wx (w.heap.size + 1) [.slice none 0 0, .slice none 0 0, .slice none 0 0, .slice none 0 0] ∧ Box wx (w1.heap.size) [.slice K_g.Bytes.a K_g.Bytes.len K_g.Bytes.cap, .slice K_g.Class.a K_g.Class.len K_g.Class.cap] ∧ Box wx go [.slice K_g.Bytes.a K_g.Bytes.len K_g.Bytes.cap, .slice K_g.Class.a K_g.Class.len K_g.Class.cap, .slice K_l.Global.a K_l.Global.len K_l.Global.cap, .slice K_l.Own.a K_l.Own.len K_l.Own.cap] ∧ OwHeap wx K_g (setGenB x.Heap (a % 32) (a / 32 + 1)) ∧ OwLists wx K_l x.Lists ∧ (∀ g ∈ K_l.foot, w2.heap.size ≤ g ∧ g ≠ go) ∧ w2.heap.size ≤ go ∧ Below w.heap.size w wx ∧ w2.heap.size ≤ wx.heap.size)
  case first =>
    go_region_with (first | (go_at_call 77; (first | ((with_reducible refine (hcl _ hB).mono ?_); rintro e wq ⟨K_l, rfl, o_l, l_l, hb⟩; have u_l := o_l.lt; replace B_a := B_a.below hb; replace B_r := B_r.below hb; replace B_p := B_p.below hb; replace o_g := o_g.step0 hb; replace hB := hB.trans (hb.mono hB.size); have sz := hb.size; (try replace B_o := B_o.below hb); (try replace q_o_0 := B_o.cell 0 _ rfl); (try replace q_o_1 := B_o.cell 1 _ rfl); (try replace q_o_2 := B_o.cell 2 _ rfl); (try replace q_o_3 := B_o.cell 3 _ rfl); (try replace fr_o := B_o.fro); (try replace z_o := B_o.lt); clear hb; replace q_a_0 := B_a.cell 0 _ rfl; replace q_a_1 := B_a.cell 1 _ rfl; replace q_a_2 := B_a.cell 2 _ rfl; replace q_a_3 := B_a.cell 3 _ rfl; replace fr_a := B_a.fro; replace z_a := B_a.lt; replace q_r_0 := B_r.cell 0 _ rfl; replace q_r_1 := B_r.cell 1 _ rfl; replace q_r_2 := B_r.cell 2 _ rfl; replace q_r_3 := B_r.cell 3 _ rfl; replace fr_r := B_r.fro; replace z_r := B_r.lt; replace q_p_0 := B_p.cell 0 _ rfl; replace q_p_1 := B_p.cell 1 _ rfl; replace fr_p := B_p.fro; replace z_p := B_p.lt) | ((with_reducible refine (hcl _ hB.drew).mono ?_); rintro e wq ⟨K_l, rfl, o_l, l_l, hb⟩; replace hb := undrew hb; replace l_l := fcdrew l_l; have u_l := o_l.lt; replace B_a := B_a.below hb; replace B_r := B_r.below hb; replace B_p := B_p.below hb; replace o_g := o_g.step0 hb; replace hB := hB.trans (hb.mono hB.size); have sz := hb.size; (try replace B_o := B_o.below hb); (try replace q_o_0 := B_o.cell 0 _ rfl); (try replace q_o_1 := B_o.cell 1 _ rfl); (try replace q_o_2 := B_o.cell 2 _ rfl); (try replace q_o_3 := B_o.cell 3 _ rfl); (try replace fr_o := B_o.fro); (try replace z_o := B_o.lt); clear hb; replace q_a_0 := B_a.cell 0 _ rfl; replace q_a_1 := B_a.cell 1 _ rfl; replace q_a_2 := B_a.cell 2 _ rfl; replace q_a_3 := B_a.cell 3 _ rfl; replace fr_a := B_a.fro; replace z_a := B_a.lt; replace q_r_0 := B_r.cell 0 _ rfl; replace q_r_1 := B_r.cell 1 _ rfl; replace q_r_2 := B_r.cell 2 _ rfl; replace q_r_3 := B_r.cell 3 _ rfl; replace fr_r := B_r.fro; replace z_r := B_r.lt; replace q_p_0 := B_p.cell 0 _ rfl; replace q_p_1 := B_p.cell 1 _ rfl; replace fr_p := B_p.fro; replace z_p := B_p.lt) | ((with_reducible refine (hcl _ (hB.alloc hB.size _)).mono ?_); rintro e wq ⟨K_l, rfl, o_l, l_l, hb⟩; simp only [World.size_alloc] at l_l; have u_l := o_l.lt; replace B_a := (B_a.alloc _).below hb; replace B_r := (B_r.alloc _).below hb; replace B_p := (B_p.alloc _).below hb; replace o_g := o_g.step hb; replace hB := below_step hB hb hB.size; have sz := hb.size; simp only [World.size_alloc] at sz; have B_o := Box.below (Box.new _ #[.slice none 0 0, .slice none 0 0, .slice none 0 0, .slice none 0 0] 36) hb; have q_o_0 := B_o.cell 0 _ rfl; have q_o_1 := B_o.cell 1 _ rfl; have q_o_2 := B_o.cell 2 _ rfl; have q_o_3 := B_o.cell 3 _ rfl; have fr_o := B_o.fro; have z_o := B_o.lt; clear hb; replace q_a_0 := B_a.cell 0 _ rfl; replace q_a_1 := B_a.cell 1 _ rfl; replace q_a_2 := B_a.cell 2 _ rfl; replace q_a_3 := B_a.cell 3 _ rfl; replace fr_a := B_a.fro; replace z_a := B_a.lt; replace q_r_0 := B_r.cell 0 _ rfl; replace q_r_1 := B_r.cell 1 _ rfl; replace q_r_2 := B_r.cell 2 _ rfl; replace q_r_3 := B_r.cell 3 _ rfl; replace fr_r := B_r.fro; replace z_r := B_r.lt; replace q_p_0 := B_p.cell 0 _ rfl; replace q_p_1 := B_p.cell 1 _ rfl; replace fr_p := B_p.fro; replace z_p := B_p.lt) | ((with_reducible refine (hcl _ (hB.alloc hB.size _).drew).mono ?_); rintro e wq ⟨K_l, rfl, o_l, l_l, hb⟩; replace hb := undrew hb; replace l_l := fcdrew l_l; simp only [World.size_alloc] at l_l; have u_l := o_l.lt; replace B_a := (B_a.alloc _).below hb; replace B_r := (B_r.alloc _).below hb; replace B_p := (B_p.alloc _).below hb; replace o_g := o_g.step hb; replace hB := below_step hB hb hB.size; have sz := hb.size; simp only [World.size_alloc] at sz; have B_o := Box.below (Box.new _ #[.slice none 0 0, .slice none 0 0, .slice none 0 0, .slice none 0 0] 36) hb; have q_o_0 := B_o.cell 0 _ rfl; have q_o_1 := B_o.cell 1 _ rfl; have q_o_2 := B_o.cell 2 _ rfl; have q_o_3 := B_o.cell 3 _ rfl; have fr_o := B_o.fro; have z_o := B_o.lt; clear hb; replace q_a_0 := B_a.cell 0 _ rfl; replace q_a_1 := B_a.cell 1 _ rfl; replace q_a_2 := B_a.cell 2 _ rfl; replace q_a_3 := B_a.cell 3 _ rfl; replace fr_a := B_a.fro; replace z_a := B_a.lt; replace q_r_0 := B_r.cell 0 _ rfl; replace q_r_1 := B_r.cell 1 _ rfl; replace q_r_2 := B_r.cell 2 _ rfl; replace q_r_3 := B_r.cell 3 _ rfl; replace fr_r := B_r.fro; replace z_r := B_r.lt; replace q_p_0 := B_p.cell 0 _ rfl; replace q_p_1 := B_p.cell 1 _ rfl; replace fr_p := B_p.fro; replace z_p := B_p.lt))))
    all_goals
      go_wp2_with fail
      go_meet
      first | exact ⟨_, K_l, rfl, B_a.alloc _, B_r.alloc _, B_p.alloc _, Box.new _ _ _, o_g.alloc_ _, o_l.alloc_ _, fun g hg => ⟨by have := l_l g hg; omega, by have := u_l g hg; omega⟩, by omega, hB.alloc hB.size _, by simp <;> omega⟩ | (obtain ⟨go, hgo, B_go⟩ := B_o.ad; rw [← hgo]; exact ⟨go, K_l, rfl, ((((B_a.other (by omega) _).other (by omega) _).other (by omega) _).other (by omega) _), ((((B_r.other (by omega) _).other (by omega) _).other (by omega) _).other (by omega) _), ((((B_p.other (by omega) _).other (by omega) _).other (by omega) _).other (by omega) _), ((((B_go.set 0 _).set 1 _).set 2 _).set 3 _), o_g.chg (F := [go]) (by repeat (first | with_reducible exact Chg.refl _ _ | with_reducible refine Chg.set_ ?_ (by simp) _ | with_reducible refine Chg.alloc_ ?_ _ | with_reducible refine Chg.drew_ ?_)) (fun g hg hm => by simp only [List.mem_cons, List.not_mem_nil, or_false] at hm; have := l_g g hg; have := u_g g hg; omega), o_l.chg (F := [go]) (by repeat (first | with_reducible exact Chg.refl _ _ | with_reducible refine Chg.set_ ?_ (by simp) _ | with_reducible refine Chg.alloc_ ?_ _ | with_reducible refine Chg.drew_ ?_)) (fun g hg hm => by simp only [List.mem_cons, List.not_mem_nil, or_false] at hm; have := l_l g hg; have := u_l g hg; omega), fun g hg => ⟨by have := l_l g hg; omega, by have := l_l g hg; have := u_l g hg; omega⟩, by omega, Below.trans hB (by repeat (first | with_reducible exact Below.refl _ _ | with_reducible refine Below.setCell ?_ (by simp <;> omega) _ | with_reducible refine Below.alloc ?_ (by simp <;> omega) _ | with_reducible refine Below.drew ?_)), by simp <;> omega⟩)
  case rest =>
    clear B_a fr_a z_a q_a_0 q_a_1 q_a_2 q_a_3
    clear B_r fr_r z_r q_r_0 q_r_1 q_r_2 q_r_3
    clear B_p fr_p z_p q_p_0 q_p_1
    clear o_g
    clear hB
    obtain ⟨go, K_l, rfl, B_a, B_r, B_p, B_o, o_g, o_l, ln_l, lo_o, hB, sz⟩ := hcut
    have l_l := fun g hg => (ln_l g hg).1
    have ne_o := fun g hg => (ln_l g hg).2
    have u_l := o_l.lt
    clear ln_l
    have zz_o := B_o.lt
    have q_a_0 := B_a.cell 0 _ rfl
    have q_a_1 := B_a.cell 1 _ rfl
    have q_a_2 := B_a.cell 2 _ rfl
    have q_a_3 := B_a.cell 3 _ rfl
    have fr_a := B_a.fro
    have z_a := B_a.lt
    have q_r_0 := B_r.cell 0 _ rfl
    have q_r_1 := B_r.cell 1 _ rfl
    have q_r_2 := B_r.cell 2 _ rfl
    have q_r_3 := B_r.cell 3 _ rfl
    have fr_r := B_r.fro
    have z_r := B_r.lt
    have q_p_0 := B_p.cell 0 _ rfl
    have q_p_1 := B_p.cell 1 _ rfl
    have fr_p := B_p.fro
    have z_p := B_p.lt
    have q_o_0 := B_o.cell 0 _ rfl
    have q_o_1 := B_o.cell 1 _ rfl
    have q_o_2 := B_o.cell 2 _ rfl
    have q_o_3 := B_o.cell 3 _ rfl
    have fr_o := B_o.fro
    have z_o := B_o.lt
    clear hcl
    by_cases kg : a / 32 + 1 ≤ 6
    case pos =>
      have HF : Hid (freedM x wk (a % 32) = ⟨setGenB x.Heap (a % 32) (a / 32 + 1), giveL x.Lists (wk * 3 + c) c (a % 32)⟩) := by rw [HE.out, if_pos kg]; exact rfl
      go_wp2_with fail
      go_region_with (first | (go_at_call 83; (first | ((with_reducible refine (hci _ hB).mono ?_); rintro e wq ⟨rfl, hb⟩; replace B_a := B_a.below hb; replace B_r := B_r.below hb; replace B_p := B_p.below hb; replace B_o := B_o.below hb; replace o_g := o_g.step0 hb; replace o_l := o_l.step0 hb; (try replace o_n := o_n.step0 hb); replace hB := hB.trans (hb.mono hB.size); have sz := hb.size; clear hb; replace q_a_0 := B_a.cell 0 _ rfl; replace q_a_1 := B_a.cell 1 _ rfl; replace q_a_2 := B_a.cell 2 _ rfl; replace q_a_3 := B_a.cell 3 _ rfl; replace fr_a := B_a.fro; replace z_a := B_a.lt; replace q_r_0 := B_r.cell 0 _ rfl; replace q_r_1 := B_r.cell 1 _ rfl; replace q_r_2 := B_r.cell 2 _ rfl; replace q_r_3 := B_r.cell 3 _ rfl; replace fr_r := B_r.fro; replace z_r := B_r.lt; replace q_p_0 := B_p.cell 0 _ rfl; replace q_p_1 := B_p.cell 1 _ rfl; replace fr_p := B_p.fro; replace z_p := B_p.lt; replace q_o_0 := B_o.cell 0 _ rfl; replace q_o_1 := B_o.cell 1 _ rfl; replace q_o_2 := B_o.cell 2 _ rfl; replace q_o_3 := B_o.cell 3 _ rfl; replace fr_o := B_o.fro; replace z_o := B_o.lt) | ((with_reducible refine (hci _ hB.drew).mono ?_); rintro e wq ⟨rfl, hb⟩; replace hb := undrew hb; replace B_a := B_a.below hb; replace B_r := B_r.below hb; replace B_p := B_p.below hb; replace B_o := B_o.below hb; replace o_g := o_g.step0 hb; replace o_l := o_l.step0 hb; (try replace o_n := o_n.step0 hb); replace hB := hB.trans (hb.mono hB.size); have sz := hb.size; clear hb; replace q_a_0 := B_a.cell 0 _ rfl; replace q_a_1 := B_a.cell 1 _ rfl; replace q_a_2 := B_a.cell 2 _ rfl; replace q_a_3 := B_a.cell 3 _ rfl; replace fr_a := B_a.fro; replace z_a := B_a.lt; replace q_r_0 := B_r.cell 0 _ rfl; replace q_r_1 := B_r.cell 1 _ rfl; replace q_r_2 := B_r.cell 2 _ rfl; replace q_r_3 := B_r.cell 3 _ rfl; replace fr_r := B_r.fro; replace z_r := B_r.lt; replace q_p_0 := B_p.cell 0 _ rfl; replace q_p_1 := B_p.cell 1 _ rfl; replace fr_p := B_p.fro; replace z_p := B_p.lt; replace q_o_0 := B_o.cell 0 _ rfl; replace q_o_1 := B_o.cell 1 _ rfl; replace q_o_2 := B_o.cell 2 _ rfl; replace q_o_3 := B_o.cell 3 _ rfl; replace fr_o := B_o.fro; replace z_o := B_o.lt))) | (go_at_call 82; (first | ((with_reducible refine (hgv _ hB).mono ?_); rintro e wq ⟨K_n, rfl, o_n, l_n, hb⟩; have u_n := o_n.lt; replace B_a := B_a.below hb; replace B_r := B_r.below hb; replace B_p := B_p.below hb; replace B_o := B_o.below hb; replace o_g := o_g.step0 hb; replace o_l := o_l.step0 hb; replace hB := hB.trans (hb.mono hB.size); have sz := hb.size; clear hb; replace q_a_0 := B_a.cell 0 _ rfl; replace q_a_1 := B_a.cell 1 _ rfl; replace q_a_2 := B_a.cell 2 _ rfl; replace q_a_3 := B_a.cell 3 _ rfl; replace fr_a := B_a.fro; replace z_a := B_a.lt; replace q_r_0 := B_r.cell 0 _ rfl; replace q_r_1 := B_r.cell 1 _ rfl; replace q_r_2 := B_r.cell 2 _ rfl; replace q_r_3 := B_r.cell 3 _ rfl; replace fr_r := B_r.fro; replace z_r := B_r.lt; replace q_p_0 := B_p.cell 0 _ rfl; replace q_p_1 := B_p.cell 1 _ rfl; replace fr_p := B_p.fro; replace z_p := B_p.lt; replace q_o_0 := B_o.cell 0 _ rfl; replace q_o_1 := B_o.cell 1 _ rfl; replace q_o_2 := B_o.cell 2 _ rfl; replace q_o_3 := B_o.cell 3 _ rfl; replace fr_o := B_o.fro; replace z_o := B_o.lt) | ((with_reducible refine (hgv _ hB.drew).mono ?_); rintro e wq ⟨K_n, rfl, o_n, l_n, hb⟩; replace hb := undrew hb; replace l_n := fcdrew l_n; have u_n := o_n.lt; replace B_a := B_a.below hb; replace B_r := B_r.below hb; replace B_p := B_p.below hb; replace B_o := B_o.below hb; replace o_g := o_g.step0 hb; replace o_l := o_l.step0 hb; replace hB := hB.trans (hb.mono hB.size); have sz := hb.size; clear hb; replace q_a_0 := B_a.cell 0 _ rfl; replace q_a_1 := B_a.cell 1 _ rfl; replace q_a_2 := B_a.cell 2 _ rfl; replace q_a_3 := B_a.cell 3 _ rfl; replace fr_a := B_a.fro; replace z_a := B_a.lt; replace q_r_0 := B_r.cell 0 _ rfl; replace q_r_1 := B_r.cell 1 _ rfl; replace q_r_2 := B_r.cell 2 _ rfl; replace q_r_3 := B_r.cell 3 _ rfl; replace fr_r := B_r.fro; replace z_r := B_r.lt; replace q_p_0 := B_p.cell 0 _ rfl; replace q_p_1 := B_p.cell 1 _ rfl; replace fr_p := B_p.fro; replace z_p := B_p.lt; replace q_o_0 := B_o.cell 0 _ rfl; replace q_o_1 := B_o.cell 1 _ rfl; replace q_o_2 := B_o.cell 2 _ rfl; replace q_o_3 := B_o.cell 3 _ rfl; replace fr_o := B_o.fro; replace z_o := B_o.lt))))
      all_goals
        go_wp2_with fail
        refine bodyPost_ret (v := .agg #[.slice K_g.Bytes.a K_g.Bytes.len K_g.Bytes.cap, .slice K_g.Class.a K_g.Class.len K_g.Class.cap, .slice K_n.Global.a K_n.Global.len K_n.Global.cap, .slice K_n.Own.a K_n.Own.len K_n.Own.cap]) (by simp [results, Tryz.results31, go_sem, q_r_0, q_r_1, q_r_2, q_r_3]) rfl ⟨⟨K_g, K_n⟩, rfl, by rw [HF.out]; exact ⟨o_g.chg (F := [w.heap.size + 1, go]) (by repeat (first | with_reducible exact Chg.refl _ _ | with_reducible refine Chg.set_ ?_ (by simp) _ | with_reducible refine Chg.alloc_ ?_ _ | with_reducible refine Chg.drew_ ?_)) (fun g hg hm => by simp only [List.mem_cons, List.not_mem_nil, or_false] at hm; have := l_g g hg; have := u_g g hg; omega), o_n.chg (F := [w.heap.size + 1, go]) (by repeat (first | with_reducible exact Chg.refl _ _ | with_reducible refine Chg.set_ ?_ (by simp) _ | with_reducible refine Chg.alloc_ ?_ _ | with_reducible refine Chg.drew_ ?_)) (fun g hg hm => by simp only [List.mem_cons, List.not_mem_nil, or_false] at hm; have := l_n g hg; have := u_n g hg; omega), fun b hb hm => by have := u_g b hb; have := l_g b hb; have := u_n b hm; have := l_n b hm; omega⟩, fun b hb => by rcases HMem.mem_foot.1 hb with hb | hb; (have := l_g b hb; omega); (have := l_n b hb; omega), Below.trans hB (by repeat (first | with_reducible exact Below.refl _ _ | with_reducible refine Below.setCell ?_ (by simp <;> omega) _ | with_reducible refine Below.alloc ?_ (by simp <;> omega) _ | with_reducible refine Below.drew ?_))⟩
    case neg =>
      have HF : Hid (freedM x wk (a % 32) = ⟨setGenB x.Heap (a % 32) (a / 32 + 1), x.Lists⟩) := by rw [HE.out, if_neg kg]; exact rfl
      go_wp2_with fail
      refine bodyPost_ret (v := .agg #[.slice K_g.Bytes.a K_g.Bytes.len K_g.Bytes.cap, .slice K_g.Class.a K_g.Class.len K_g.Class.cap, .slice K_l.Global.a K_l.Global.len K_l.Global.cap, .slice K_l.Own.a K_l.Own.len K_l.Own.cap]) (by simp [results, Tryz.results31, go_sem, q_r_0, q_r_1, q_r_2, q_r_3]) rfl ⟨⟨K_g, K_l⟩, rfl, by rw [HF.out]; exact ⟨o_g.chg (F := [w.heap.size + 1]) (by repeat (first | with_reducible exact Chg.refl _ _ | with_reducible refine Chg.set_ ?_ (by simp) _ | with_reducible refine Chg.alloc_ ?_ _ | with_reducible refine Chg.drew_ ?_)) (fun g hg hm => by simp only [List.mem_cons, List.not_mem_nil, or_false] at hm; have := l_g g hg; have := u_g g hg; omega), o_l.chg (F := [w.heap.size + 1]) (by repeat (first | with_reducible exact Chg.refl _ _ | with_reducible refine Chg.set_ ?_ (by simp) _ | with_reducible refine Chg.alloc_ ?_ _ | with_reducible refine Chg.drew_ ?_)) (fun g hg hm => by simp only [List.mem_cons, List.not_mem_nil, or_false] at hm; have := l_l g hg; have := u_l g hg; omega), fun b hb hm => by have := u_g b hb; have := l_g b hb; have := u_l b hm; have := l_l b hm; omega⟩, fun b hb => by rcases HMem.mem_foot.1 hb with hb | hb; (have := l_g b hb; omega); (have := l_l b hb; omega), Below.trans hB (by repeat (first | with_reducible exact Below.refl _ _ | with_reducible refine Below.setCell ?_ (by simp <;> omega) _ | with_reducible refine Below.alloc ?_ (by simp <;> omega) _ | with_reducible refine Below.drew ?_))⟩
end Go.Proofs.YtcligoicoeklfaaGreat
