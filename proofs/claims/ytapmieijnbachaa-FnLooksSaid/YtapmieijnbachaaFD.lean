/-
  FnLooks, walked.
-/
import Derived.Test.YtapmieijnbachaaT
import Derived.Test.YtapmieijnbachaaL
import Derived.Deep.QuietTactic
import Derived.BigQuiet
import Derived.Deep.LoopGhost
import Derived.Deep.RegionHeld3
import Derived.Test.YtapmieijnbachaaN
import Derived.Test.YtapmieijnbachaaA
import Derived.WalkSpells
import Derived.Laws.Cover3
import Derived.Test.YtapmieijnbachaaFC
import Derived.Test.YtapmieijnbachaaFP
import Derived.Test.YtapmieijnbachaaDU
namespace Go.Proofs.Ytapmieijnbachaa
open Go.RowKit
theorem sameClk (x : Clock) : sameClockB x x = true := by simp [sameClockB]
theorem any_yes {l : List Int} {k : Int} (h : k ∈ l) : (l.any fun y => y == k) = true := List.any_eq_true.2 ⟨k, h, by simp⟩
theorem any_no {l : List Int} {k : Int} (h : ¬ k ∈ l) : (l.any fun y => y == k) = false := by
  rw [List.any_eq_false]
  intro y hy e
  simp at e
  subst e
  exact h hy
set_option maxRecDepth 100000 in
set_option maxHeartbeats 8000000 in
theorem FnLooks_law (w : World) (v : Value) (code : List Int) (h : RdL FU8 w w.heap.size v code) (hcb : ∀ x ∈ code, 0 ≤ x ∧ x ≤ 255) :
    Calls Try.prog 5 #[v] w fun e w' => e = .returned (.bool true) ∧ Below w.heap.size w w' := by
  obtain ⟨A, c0, hv, q1, q2, _⟩ := id h
  have hlt0 : code.length ≤ 9223372036854775807 := by unfold maxLen at q2; omega
  subst hv
  clear q1 q2
  by_cases hs : code.length ≤ 1048576
  case neg =>
    go_enter Try.func5, Try.ntmps5
    go_wp2_with fail
    refine (big_yes _ _ _ _ hs hlt0).mono ?_
    rintro e w1 ⟨rfl, rfl⟩
    go_wp2_with fail
    go_ret
    exact ⟨rfl, Below.refl _ _⟩
  go_enter Try.func5, Try.ntmps5
  go_wp2_with fail
  refine (big_no _ _ _ _ hs).mono ?_
  rintro e w0 ⟨rfl, rfl⟩
  go_wp2_with fail
  refine (DrawPinTo_ct _ _ code h hcb (by omega)).mono ?_
  rintro e wi ⟨H, c, a, y0, rfl, o_c, ha, l_c, _, hB⟩
  have hlc : c.Pins.length ≤ 1073741824 := by have := ha.len; omega
  clear h hcb hs hlt0
  by_cases kk : (pinToC c a c.Epoch).2 = true
  case neg =>
    have kk' : (pinToC c a c.Epoch).2 = false := (Bool.not_eq_true _).mp kk
    have hno : clockOkB c = true → inB 0 2 a = false := by
      intro h1
      cases h2 : inB 0 2 a with
      | false => rfl
      | true =>
        exfalso
        apply kk
        unfold pinToC
        rw [if_pos ⟨h1, h2, inB_iff.2 ⟨by
          unfold clockOkB at h1
          simp only [Bool.and_eq_true] at h1
          exact (inB_iff.1 h1.1.1).1, Int.le_refl _⟩⟩]
    clear kk
    have u_c := o_c.lt
    go_wp2_with fail
    refine (PinTo_impl _ H c a c.Epoch (o_c.alloc_ _).rd' hlc).mono ?_
    rw [kk']
    rintro e w1 ⟨HX, rfl, o_x, l_x, hb⟩
    have u_x := o_x.lt
    simp only [World.size_alloc] at l_x
    have o_c := o_c.step hb
    replace hB := below_step hB hb hB.size
    have sz := hb.size
    simp only [World.size_alloc] at sz
    have B_c := (Box.new wi #[.int .i64 c.Epoch, .slice H.Pins.a H.Pins.len H.Pins.cap] 38).below hb
    have zz_c := B_c.lt
    clear hb
    have q_c_0 := B_c.cell 0 _ rfl
    have q_c_1 := B_c.cell 1 _ rfl
    have fr_c := B_c.fro
    have z_c := B_c.lt
    clear kk' o_x l_x u_x
    generalize (pinToC c a c.Epoch).1 = X
    go_wp2_with fail
    refine (ClockOk_spec _ H c (o_c.alloc_ _).rd').mono ?_
    rintro e w2 ⟨rfl, hb⟩
    replace B_c := (B_c.alloc _).below hb
    replace o_c := o_c.step hb
    replace hB := below_step hB hb hB.size
    have sz := hb.size
    simp only [World.size_alloc] at sz
    have B_x := (Box.new w1 #[.int .i64 X.Epoch, .slice HX.Pins.a HX.Pins.len HX.Pins.cap] 38).below hb
    have zz_x := B_x.lt
    clear hb
    replace q_c_0 := B_c.cell 0 _ rfl
    replace q_c_1 := B_c.cell 1 _ rfl
    replace fr_c := B_c.fro
    replace z_c := B_c.lt
    have q_x_0 := B_x.cell 0 _ rfl
    have q_x_1 := B_x.cell 1 _ rfl
    have fr_x := B_x.fro
    have z_x := B_x.lt
    generalize clockOkB c = b at hno ⊢
    cases b with
    | false =>
      go_wp2_with fail
      go_ret
      exact ⟨rfl, hB⟩
    | true =>
      have hia := hno rfl
      have hnb : ¬ (0 ≤ a ∧ a ≤ 2) := fun hh => by rw [inB_iff.2 hh] at hia; cases hia
      by_cases ha0 : a < 0
      · go_wp2_with fail
        go_ret
        exact ⟨rfl, hB⟩
      · have ha3 : 3 ≤ a := by omega
        go_wp2_with fail
        go_ret
        exact ⟨rfl, hB⟩
  obtain ⟨k, X, Y, P, Q, R, Z, lk⟩ := looks_law kk
  have E : pinToC c a c.Epoch = (X, true) := Prod.ext lk.x kk
  obtain rfl := lk.wk
  have hX := lk.a
  have xe0 := lk.e0
  have xe1 := lk.e1
  have be : I64 X.Epoch := by unfold I64; omega
  have sx : X.Pins.length ≤ 1073741824 := Nat.le_trans lk.lx (by decide)
  clear kk
  by_cases hlt : X.Epoch < 100000
  case neg =>
    have b0 := lk.b0 hlt
    clear lk
    have u_c := o_c.lt
    go_wp2_with fail
    refine (PinTo_impl _ H c (k : Int) c.Epoch (o_c.alloc_ _).rd' hlc).mono ?_
    rw [E]
    rintro e w1 ⟨HX, rfl, o_x, l_x, hb⟩
    have u_x := o_x.lt
    simp only [World.size_alloc] at l_x
    have o_c := o_c.step hb
    replace hB := below_step hB hb hB.size
    have sz := hb.size
    simp only [World.size_alloc] at sz
    have B_c := (Box.new wi #[.int .i64 c.Epoch, .slice H.Pins.a H.Pins.len H.Pins.cap] 38).below hb
    have zz_c := B_c.lt
    clear hb
    have q_c_0 := B_c.cell 0 _ rfl
    have q_c_1 := B_c.cell 1 _ rfl
    have fr_c := B_c.fro
    have z_c := B_c.lt
    clear B_c fr_c z_c q_c_0 q_c_1
    clear o_c l_c u_c
    go_wp2_with fail
    refine (LookAt_impl _ HX X (k : Int) X.Epoch (o_x.alloc_ _).rd' sx).mono ?_
    rw [hX]
    rintro e w2 ⟨HA, rfl, o_a, l_a, hb⟩
    have u_a := o_a.lt
    simp only [World.size_alloc] at l_a
    have o_x := o_x.step hb
    replace hB := below_step hB hb hB.size
    have sz := hb.size
    simp only [World.size_alloc] at sz
    have B_x := (Box.new w1 #[.int .i64 X.Epoch, .slice HX.Pins.a HX.Pins.len HX.Pins.cap] 38).below hb
    have zz_x := B_x.lt
    clear hb
    have q_x_0 := B_x.cell 0 _ rfl
    have q_x_1 := B_x.cell 1 _ rfl
    have fr_x := B_x.fro
    have z_x := B_x.lt
    go_wp2_with fail
    refine (Bump_impl _ HX X X.Epoch be (o_x.alloc_ _).rd' sx).mono ?_
    rw [b0]
    rintro e w3 ⟨HY, rfl, o_y, l_y, hb⟩
    have u_y := o_y.lt
    simp only [World.size_alloc] at l_y
    replace B_x := (B_x.alloc _).below hb
    replace o_x := o_x.step hb
    have o_a := o_a.step hb
    replace hB := below_step hB hb hB.size
    have sz := hb.size
    simp only [World.size_alloc] at sz
    have B_a := (Box.new w2 #[.int .i64 X.Epoch, .slice HA.Pins.a HA.Pins.len HA.Pins.cap] 38).below hb
    have zz_a := B_a.lt
    clear hb
    replace q_x_0 := B_x.cell 0 _ rfl
    replace q_x_1 := B_x.cell 1 _ rfl
    replace fr_x := B_x.fro
    replace z_x := B_x.lt
    have q_a_0 := B_a.cell 0 _ rfl
    have q_a_1 := B_a.cell 1 _ rfl
    have fr_a := B_a.fro
    have z_a := B_a.lt
    go_wp2_with fail
    refine (SameClock_spec _ HA HX X X (o_a.alloc_ _).rd' (o_x.alloc_ _).rd').mono ?_
    rw [sameClk]
    rintro e w4 ⟨rfl, hb⟩
    replace B_x := (B_x.alloc _).below hb
    replace B_a := (B_a.alloc _).below hb
    replace o_x := o_x.step hb
    replace o_a := o_a.step hb
    have o_y := o_y.step hb
    replace hB := below_step hB hb hB.size
    have sz := hb.size
    simp only [World.size_alloc] at sz
    have B_y := (Box.new w3 #[.int .i64 X.Epoch, .slice HY.Pins.a HY.Pins.len HY.Pins.cap] 38).below hb
    have zz_y := B_y.lt
    clear hb
    replace q_x_0 := B_x.cell 0 _ rfl
    replace q_x_1 := B_x.cell 1 _ rfl
    replace fr_x := B_x.fro
    replace z_x := B_x.lt
    replace q_a_0 := B_a.cell 0 _ rfl
    replace q_a_1 := B_a.cell 1 _ rfl
    replace fr_a := B_a.fro
    replace z_a := B_a.lt
    have q_y_0 := B_y.cell 0 _ rfl
    have q_y_1 := B_y.cell 1 _ rfl
    have fr_y := B_y.fro
    have z_y := B_y.lt
    go_wp2_with (fail)
    go_ret
    exact ⟨rfl, hB⟩
  have b1 := lk.b1 hlt
  have rp := lk.p hlt
  have rq := lk.q hlt
  have rr := lk.r hlt
  have rr2 := lk.r2 hlt
  have rn := lk.n hlt
  have rs := lk.s hlt
  have rz := lk.z hlt
  have rz2 := lk.z2 hlt
  have hy := any_yes (lk.hy hlt)
  have hr := any_no (lk.hr hlt)
  have okr := lk.okr hlt
  have okz := lk.okz hlt
  have sy : Y.Pins.length ≤ 1073741824 := Nat.le_trans lk.ly (by decide)
  have sp : P.Pins.length ≤ 1073741824 := Nat.le_trans lk.lp (by decide)
  have sq : Q.Pins.length ≤ 1073741824 := Nat.le_trans lk.lq (by decide)
  have sr : R.Pins.length ≤ 1073741824 := Nat.le_trans lk.lr (by decide)
  have s_z : Z.Pins.length ≤ 1073741824 := Nat.le_trans lk.lz (by decide)
  clear lk
  have u_c := o_c.lt
  go_wp2_with fail
  refine (PinTo_impl _ H c (k : Int) c.Epoch (o_c.alloc_ _).rd' hlc).mono ?_
  rw [E]
  rintro e w1 ⟨HX, rfl, o_x, l_x, hb⟩
  have u_x := o_x.lt
  simp only [World.size_alloc] at l_x
  have o_c := o_c.step hb
  replace hB := below_step hB hb hB.size
  have sz := hb.size
  simp only [World.size_alloc] at sz
  have B_c := (Box.new wi #[.int .i64 c.Epoch, .slice H.Pins.a H.Pins.len H.Pins.cap] 38).below hb
  have zz_c := B_c.lt
  clear hb
  have q_c_0 := B_c.cell 0 _ rfl
  have q_c_1 := B_c.cell 1 _ rfl
  have fr_c := B_c.fro
  have z_c := B_c.lt
  clear B_c fr_c z_c q_c_0 q_c_1
  clear o_c l_c u_c
  go_wp2_with fail
  refine (LookAt_impl _ HX X (k : Int) X.Epoch (o_x.alloc_ _).rd' sx).mono ?_
  rw [hX]
  rintro e w2 ⟨HA, rfl, o_a, l_a, hb⟩
  have u_a := o_a.lt
  simp only [World.size_alloc] at l_a
  have o_x := o_x.step hb
  replace hB := below_step hB hb hB.size
  have sz := hb.size
  simp only [World.size_alloc] at sz
  have B_x := (Box.new w1 #[.int .i64 X.Epoch, .slice HX.Pins.a HX.Pins.len HX.Pins.cap] 38).below hb
  have zz_x := B_x.lt
  clear hb
  have q_x_0 := B_x.cell 0 _ rfl
  have q_x_1 := B_x.cell 1 _ rfl
  have fr_x := B_x.fro
  have z_x := B_x.lt
  go_wp2_with fail
  refine (Bump_impl _ HX X X.Epoch be (o_x.alloc_ _).rd' sx).mono ?_
  rw [b1]
  rintro e w3 ⟨HY, rfl, o_y, l_y, hb⟩
  have u_y := o_y.lt
  simp only [World.size_alloc] at l_y
  replace B_x := (B_x.alloc _).below hb
  replace o_x := o_x.step hb
  have o_a := o_a.step hb
  replace hB := below_step hB hb hB.size
  have sz := hb.size
  simp only [World.size_alloc] at sz
  have B_a := (Box.new w2 #[.int .i64 X.Epoch, .slice HA.Pins.a HA.Pins.len HA.Pins.cap] 38).below hb
  have zz_a := B_a.lt
  clear hb
  replace q_x_0 := B_x.cell 0 _ rfl
  replace q_x_1 := B_x.cell 1 _ rfl
  replace fr_x := B_x.fro
  replace z_x := B_x.lt
  have q_a_0 := B_a.cell 0 _ rfl
  have q_a_1 := B_a.cell 1 _ rfl
  have fr_a := B_a.fro
  have z_a := B_a.lt
  go_wp2_with fail
  refine (SameClock_spec _ HA HX X X (o_a.alloc_ _).rd' (o_x.alloc_ _).rd').mono ?_
  rw [sameClk]
  rintro e w4 ⟨rfl, hb⟩
  replace B_x := (B_x.alloc _).below hb
  replace B_a := (B_a.alloc _).below hb
  replace o_x := o_x.step hb
  replace o_a := o_a.step hb
  have o_y := o_y.step hb
  replace hB := below_step hB hb hB.size
  have sz := hb.size
  simp only [World.size_alloc] at sz
  have B_y := (Box.new w3 #[.int .i64 Y.Epoch, .slice HY.Pins.a HY.Pins.len HY.Pins.cap] 38).below hb
  have zz_y := B_y.lt
  clear hb
  replace q_x_0 := B_x.cell 0 _ rfl
  replace q_x_1 := B_x.cell 1 _ rfl
  replace fr_x := B_x.fro
  replace z_x := B_x.lt
  replace q_a_0 := B_a.cell 0 _ rfl
  replace q_a_1 := B_a.cell 1 _ rfl
  replace fr_a := B_a.fro
  replace z_a := B_a.lt
  have q_y_0 := B_y.cell 0 _ rfl
  have q_y_1 := B_y.cell 1 _ rfl
  have fr_y := B_y.fro
  have z_y := B_y.lt
  clear B_a fr_a z_a q_a_0 q_a_1
  clear o_a l_a u_a
  clear o_x l_x u_x
  go_wp2_with fail
  refine (LookAt_impl _ HY Y (k : Int) Y.Epoch o_y.rd' sy).mono ?_
  rw [rp]
  rintro e w5 ⟨HP, rfl, o_p, l_p, hb⟩
  have u_p := o_p.lt
  replace B_x := B_x.below hb
  replace B_y := B_y.below hb
  replace o_y := o_y.step0 hb
  replace hB := hB.trans (hb.mono hB.size)
  have sz := hb.size
  clear hb
  replace q_x_0 := B_x.cell 0 _ rfl
  replace q_x_1 := B_x.cell 1 _ rfl
  replace fr_x := B_x.fro
  replace z_x := B_x.lt
  replace q_y_0 := B_y.cell 0 _ rfl
  replace q_y_1 := B_y.cell 1 _ rfl
  replace fr_y := B_y.fro
  replace z_y := B_y.lt
  go_wp2_with fail
  refine (LookAt_impl _ HP P (k : Int) Y.Epoch (o_p.alloc_ _).rd' sp).mono ?_
  rw [rq]
  rintro e w6 ⟨HQ, rfl, o_q, l_q, hb⟩
  have u_q := o_q.lt
  simp only [World.size_alloc] at l_q
  replace B_x := (B_x.alloc _).below hb
  replace B_y := (B_y.alloc _).below hb
  replace o_y := o_y.step hb
  have o_p := o_p.step hb
  replace hB := below_step hB hb hB.size
  have sz := hb.size
  simp only [World.size_alloc] at sz
  have B_p := (Box.new w5 #[.int .i64 P.Epoch, .slice HP.Pins.a HP.Pins.len HP.Pins.cap] 38).below hb
  have zz_p := B_p.lt
  clear hb
  replace q_x_0 := B_x.cell 0 _ rfl
  replace q_x_1 := B_x.cell 1 _ rfl
  replace fr_x := B_x.fro
  replace z_x := B_x.lt
  replace q_y_0 := B_y.cell 0 _ rfl
  replace q_y_1 := B_y.cell 1 _ rfl
  replace fr_y := B_y.fro
  replace z_y := B_y.lt
  have q_p_0 := B_p.cell 0 _ rfl
  have q_p_1 := B_p.cell 1 _ rfl
  have fr_p := B_p.fro
  have z_p := B_p.lt
  clear B_p fr_p z_p q_p_0 q_p_1
  clear o_p l_p u_p
  go_wp2_with fail
  refine (LookAt_impl _ HQ Q (k : Int) Y.Epoch (o_q.alloc_ _).rd' sq).mono ?_
  rw [rr]
  rintro e w7 ⟨HR, rfl, o_r, l_r, hb⟩
  have u_r := o_r.lt
  simp only [World.size_alloc] at l_r
  replace B_x := (B_x.alloc _).below hb
  replace B_y := (B_y.alloc _).below hb
  replace o_y := o_y.step hb
  have o_q := o_q.step hb
  replace hB := below_step hB hb hB.size
  have sz := hb.size
  simp only [World.size_alloc] at sz
  have B_q := (Box.new w6 #[.int .i64 Q.Epoch, .slice HQ.Pins.a HQ.Pins.len HQ.Pins.cap] 38).below hb
  have zz_q := B_q.lt
  clear hb
  replace q_x_0 := B_x.cell 0 _ rfl
  replace q_x_1 := B_x.cell 1 _ rfl
  replace fr_x := B_x.fro
  replace z_x := B_x.lt
  replace q_y_0 := B_y.cell 0 _ rfl
  replace q_y_1 := B_y.cell 1 _ rfl
  replace fr_y := B_y.fro
  replace z_y := B_y.lt
  have q_q_0 := B_q.cell 0 _ rfl
  have q_q_1 := B_q.cell 1 _ rfl
  have fr_q := B_q.fro
  have z_q := B_q.lt
  go_wp2_with fail
  refine (LookAt_impl _ HR R (k : Int) Y.Epoch (o_r.alloc_ _).rd' sr).mono ?_
  rw [rr2]
  rintro e w8 ⟨HN, rfl, o_n, l_n, hb⟩
  have u_n := o_n.lt
  simp only [World.size_alloc] at l_n
  replace B_x := (B_x.alloc _).below hb
  replace B_y := (B_y.alloc _).below hb
  replace B_q := (B_q.alloc _).below hb
  replace o_y := o_y.step hb
  replace o_q := o_q.step hb
  have o_r := o_r.step hb
  replace hB := below_step hB hb hB.size
  have sz := hb.size
  simp only [World.size_alloc] at sz
  have B_r := (Box.new w7 #[.int .i64 R.Epoch, .slice HR.Pins.a HR.Pins.len HR.Pins.cap] 38).below hb
  have zz_r := B_r.lt
  clear hb
  replace q_x_0 := B_x.cell 0 _ rfl
  replace q_x_1 := B_x.cell 1 _ rfl
  replace fr_x := B_x.fro
  replace z_x := B_x.lt
  replace q_y_0 := B_y.cell 0 _ rfl
  replace q_y_1 := B_y.cell 1 _ rfl
  replace fr_y := B_y.fro
  replace z_y := B_y.lt
  replace q_q_0 := B_q.cell 0 _ rfl
  replace q_q_1 := B_q.cell 1 _ rfl
  replace fr_q := B_q.fro
  replace z_q := B_q.lt
  have q_r_0 := B_r.cell 0 _ rfl
  have q_r_1 := B_r.cell 1 _ rfl
  have fr_r := B_r.fro
  have z_r := B_r.lt
  clear o_n l_n u_n
  go_wp2_with fail
  refine (PinnedAt_impl _ HR R (k : Int) (o_r.alloc_ _).rd').mono ?_
  rw [rn]
  rintro e w9 ⟨rfl, hb⟩
  replace B_x := (B_x.alloc _).below hb
  replace B_y := (B_y.alloc _).below hb
  replace B_q := (B_q.alloc _).below hb
  replace B_r := (B_r.alloc _).below hb
  replace o_y := o_y.step hb
  replace o_q := o_q.step hb
  replace o_r := o_r.step hb
  replace hB := below_step hB hb hB.size
  have sz := hb.size
  simp only [World.size_alloc] at sz
  have B_n := (Box.new w8 #[.int .i64 R.Epoch, .slice HN.Pins.a HN.Pins.len HN.Pins.cap] 38).below hb
  have zz_n := B_n.lt
  clear hb
  replace q_x_0 := B_x.cell 0 _ rfl
  replace q_x_1 := B_x.cell 1 _ rfl
  replace fr_x := B_x.fro
  replace z_x := B_x.lt
  replace q_y_0 := B_y.cell 0 _ rfl
  replace q_y_1 := B_y.cell 1 _ rfl
  replace fr_y := B_y.fro
  replace z_y := B_y.lt
  replace q_q_0 := B_q.cell 0 _ rfl
  replace q_q_1 := B_q.cell 1 _ rfl
  replace fr_q := B_q.fro
  replace z_q := B_q.lt
  replace q_r_0 := B_r.cell 0 _ rfl
  replace q_r_1 := B_r.cell 1 _ rfl
  replace fr_r := B_r.fro
  replace z_r := B_r.lt
  have q_n_0 := B_n.cell 0 _ rfl
  have q_n_1 := B_n.cell 1 _ rfl
  have fr_n := B_n.fro
  have z_n := B_n.lt
  clear B_n fr_n z_n q_n_0 q_n_1
  go_wp2_with fail
  refine (PinnedAt_impl _ HQ Q (k : Int) o_q.rd').mono ?_
  rw [rs]
  rintro e w10 ⟨rfl, hb⟩
  replace B_x := B_x.below hb
  replace B_y := B_y.below hb
  replace B_q := B_q.below hb
  replace B_r := B_r.below hb
  replace o_y := o_y.step0 hb
  replace o_q := o_q.step0 hb
  replace o_r := o_r.step0 hb
  replace hB := hB.trans (hb.mono hB.size)
  have sz := hb.size
  clear hb
  replace q_x_0 := B_x.cell 0 _ rfl
  replace q_x_1 := B_x.cell 1 _ rfl
  replace fr_x := B_x.fro
  replace z_x := B_x.lt
  replace q_y_0 := B_y.cell 0 _ rfl
  replace q_y_1 := B_y.cell 1 _ rfl
  replace fr_y := B_y.fro
  replace z_y := B_y.lt
  replace q_q_0 := B_q.cell 0 _ rfl
  replace q_q_1 := B_q.cell 1 _ rfl
  replace fr_q := B_q.fro
  replace z_q := B_q.lt
  replace q_r_0 := B_r.cell 0 _ rfl
  replace q_r_1 := B_r.cell 1 _ rfl
  replace fr_r := B_r.fro
  replace z_r := B_r.lt
  clear B_q fr_q z_q q_q_0 q_q_1
  clear o_q l_q u_q
  go_wp2_with fail
  refine (Unpin_impl _ HR R (k : Int) o_r.rd' sr).mono ?_
  rw [rz]
  rintro e w11 ⟨HZ, rfl, o_z, l_z, hb⟩
  have u_z := o_z.lt
  replace B_x := B_x.below hb
  replace B_y := B_y.below hb
  replace B_r := B_r.below hb
  replace o_y := o_y.step0 hb
  replace o_r := o_r.step0 hb
  replace hB := hB.trans (hb.mono hB.size)
  have sz := hb.size
  clear hb
  replace q_x_0 := B_x.cell 0 _ rfl
  replace q_x_1 := B_x.cell 1 _ rfl
  replace fr_x := B_x.fro
  replace z_x := B_x.lt
  replace q_y_0 := B_y.cell 0 _ rfl
  replace q_y_1 := B_y.cell 1 _ rfl
  replace fr_y := B_y.fro
  replace z_y := B_y.lt
  replace q_r_0 := B_r.cell 0 _ rfl
  replace q_r_1 := B_r.cell 1 _ rfl
  replace fr_r := B_r.fro
  replace z_r := B_r.lt
  go_wp2_with fail
  refine (Unpin_impl _ HZ Z (k : Int) (o_z.alloc_ _).rd' s_z).mono ?_
  rw [rz2]
  rintro e w12 ⟨HM, rfl, o_m, l_m, hb⟩
  have u_m := o_m.lt
  simp only [World.size_alloc] at l_m
  replace B_x := (B_x.alloc _).below hb
  replace B_y := (B_y.alloc _).below hb
  replace B_r := (B_r.alloc _).below hb
  replace o_y := o_y.step hb
  replace o_r := o_r.step hb
  have o_z := o_z.step hb
  replace hB := below_step hB hb hB.size
  have sz := hb.size
  simp only [World.size_alloc] at sz
  have B_z := (Box.new w11 #[.int .i64 Z.Epoch, .slice HZ.Pins.a HZ.Pins.len HZ.Pins.cap] 38).below hb
  have zz_z := B_z.lt
  clear hb
  replace q_x_0 := B_x.cell 0 _ rfl
  replace q_x_1 := B_x.cell 1 _ rfl
  replace fr_x := B_x.fro
  replace z_x := B_x.lt
  replace q_y_0 := B_y.cell 0 _ rfl
  replace q_y_1 := B_y.cell 1 _ rfl
  replace fr_y := B_y.fro
  replace z_y := B_y.lt
  replace q_r_0 := B_r.cell 0 _ rfl
  replace q_r_1 := B_r.cell 1 _ rfl
  replace fr_r := B_r.fro
  replace z_r := B_r.lt
  have q_z_0 := B_z.cell 0 _ rfl
  have q_z_1 := B_z.cell 1 _ rfl
  have fr_z := B_z.fro
  have z_z := B_z.lt
  clear o_m l_m u_m
  go_wp2_with fail
  refine (Behind_impl _ HY Y (o_y.alloc_ _).rd').mono ?_
  rintro e w13 ⟨vb, rfl, o_b, l_b, hb⟩
  have u_b := foot_lt o_b
  simp only [World.size_alloc] at l_b
  replace B_x := (B_x.alloc _).below hb
  replace B_y := (B_y.alloc _).below hb
  replace B_r := (B_r.alloc _).below hb
  replace B_z := (B_z.alloc _).below hb
  replace o_y := o_y.step hb
  replace o_r := o_r.step hb
  replace o_z := o_z.step hb
  replace hB := below_step hB hb hB.size
  have sz := hb.size
  simp only [World.size_alloc] at sz
  have B_m := (Box.new w12 #[.int .i64 Z.Epoch, .slice HM.Pins.a HM.Pins.len HM.Pins.cap] 38).below hb
  have zz_m := B_m.lt
  clear hb
  replace q_x_0 := B_x.cell 0 _ rfl
  replace q_x_1 := B_x.cell 1 _ rfl
  replace fr_x := B_x.fro
  replace z_x := B_x.lt
  replace q_y_0 := B_y.cell 0 _ rfl
  replace q_y_1 := B_y.cell 1 _ rfl
  replace fr_y := B_y.fro
  replace z_y := B_y.lt
  replace q_r_0 := B_r.cell 0 _ rfl
  replace q_r_1 := B_r.cell 1 _ rfl
  replace fr_r := B_r.fro
  replace z_r := B_r.lt
  replace q_z_0 := B_z.cell 0 _ rfl
  replace q_z_1 := B_z.cell 1 _ rfl
  replace fr_z := B_z.fro
  replace z_z := B_z.lt
  have q_m_0 := B_m.cell 0 _ rfl
  have q_m_1 := B_m.cell 1 _ rfl
  have fr_m := B_m.fro
  have z_m := B_m.lt
  clear B_m fr_m z_m q_m_0 q_m_1
  clear B_y fr_y z_y q_y_0 q_y_1
  clear o_y l_y u_y
  go_wp2_with fail
  refine (has_ct _ _ _ (k : Int) o_b.rd').mono ?_
  rw [hy]
  rintro e w14 ⟨rfl, hb⟩
  replace B_x := B_x.below hb
  replace B_r := B_r.below hb
  replace B_z := B_z.below hb
  replace o_r := o_r.step0 hb
  replace o_z := o_z.step0 hb
  have o_b := o_b.step0 hb
  replace hB := hB.trans (hb.mono hB.size)
  have sz := hb.size
  clear hb
  replace q_x_0 := B_x.cell 0 _ rfl
  replace q_x_1 := B_x.cell 1 _ rfl
  replace fr_x := B_x.fro
  replace z_x := B_x.lt
  replace q_r_0 := B_r.cell 0 _ rfl
  replace q_r_1 := B_r.cell 1 _ rfl
  replace fr_r := B_r.fro
  replace z_r := B_r.lt
  replace q_z_0 := B_z.cell 0 _ rfl
  replace q_z_1 := B_z.cell 1 _ rfl
  replace fr_z := B_z.fro
  replace z_z := B_z.lt
  clear o_b l_b u_b
  go_wp2_with fail
  refine (Behind_impl _ HR R o_r.rd').mono ?_
  rintro e w15 ⟨vb2, rfl, o_b, l_b, hb⟩
  have u_b := foot_lt o_b
  replace B_x := B_x.below hb
  replace B_r := B_r.below hb
  replace B_z := B_z.below hb
  replace o_r := o_r.step0 hb
  replace o_z := o_z.step0 hb
  replace hB := hB.trans (hb.mono hB.size)
  have sz := hb.size
  clear hb
  replace q_x_0 := B_x.cell 0 _ rfl
  replace q_x_1 := B_x.cell 1 _ rfl
  replace fr_x := B_x.fro
  replace z_x := B_x.lt
  replace q_r_0 := B_r.cell 0 _ rfl
  replace q_r_1 := B_r.cell 1 _ rfl
  replace fr_r := B_r.fro
  replace z_r := B_r.lt
  replace q_z_0 := B_z.cell 0 _ rfl
  replace q_z_1 := B_z.cell 1 _ rfl
  replace fr_z := B_z.fro
  replace z_z := B_z.lt
  go_wp2_with fail
  refine (has_ct _ _ _ (k : Int) o_b.rd').mono ?_
  rw [hr]
  rintro e w16 ⟨rfl, hb⟩
  replace B_x := B_x.below hb
  replace B_r := B_r.below hb
  replace B_z := B_z.below hb
  replace o_r := o_r.step0 hb
  replace o_z := o_z.step0 hb
  have o_b := o_b.step0 hb
  replace hB := hB.trans (hb.mono hB.size)
  have sz := hb.size
  clear hb
  replace q_x_0 := B_x.cell 0 _ rfl
  replace q_x_1 := B_x.cell 1 _ rfl
  replace fr_x := B_x.fro
  replace z_x := B_x.lt
  replace q_r_0 := B_r.cell 0 _ rfl
  replace q_r_1 := B_r.cell 1 _ rfl
  replace fr_r := B_r.fro
  replace z_r := B_r.lt
  replace q_z_0 := B_z.cell 0 _ rfl
  replace q_z_1 := B_z.cell 1 _ rfl
  replace fr_z := B_z.fro
  replace z_z := B_z.lt
  clear o_b l_b u_b
  go_wp2_with fail
  refine (ClockOk_spec _ HR R o_r.rd').mono ?_
  rw [okr]
  rintro e w17 ⟨rfl, hb⟩
  replace B_x := B_x.below hb
  replace B_r := B_r.below hb
  replace B_z := B_z.below hb
  replace o_r := o_r.step0 hb
  replace o_z := o_z.step0 hb
  replace hB := hB.trans (hb.mono hB.size)
  have sz := hb.size
  clear hb
  replace q_x_0 := B_x.cell 0 _ rfl
  replace q_x_1 := B_x.cell 1 _ rfl
  replace fr_x := B_x.fro
  replace z_x := B_x.lt
  replace q_r_0 := B_r.cell 0 _ rfl
  replace q_r_1 := B_r.cell 1 _ rfl
  replace fr_r := B_r.fro
  replace z_r := B_r.lt
  replace q_z_0 := B_z.cell 0 _ rfl
  replace q_z_1 := B_z.cell 1 _ rfl
  replace fr_z := B_z.fro
  replace z_z := B_z.lt
  go_wp2_with fail
  refine (ClockOk_spec _ HZ Z o_z.rd').mono ?_
  rw [okz]
  rintro e w18 ⟨rfl, hb⟩
  replace B_x := B_x.below hb
  replace B_r := B_r.below hb
  replace B_z := B_z.below hb
  replace o_r := o_r.step0 hb
  replace o_z := o_z.step0 hb
  replace hB := hB.trans (hb.mono hB.size)
  have sz := hb.size
  clear hb
  replace q_x_0 := B_x.cell 0 _ rfl
  replace q_x_1 := B_x.cell 1 _ rfl
  replace fr_x := B_x.fro
  replace z_x := B_x.lt
  replace q_r_0 := B_r.cell 0 _ rfl
  replace q_r_1 := B_r.cell 1 _ rfl
  replace fr_r := B_r.fro
  replace z_r := B_r.lt
  replace q_z_0 := B_z.cell 0 _ rfl
  replace q_z_1 := B_z.cell 1 _ rfl
  replace fr_z := B_z.fro
  replace z_z := B_z.lt
  go_wp2_with (fail)
  go_ret
  exact ⟨rfl, hB⟩
end Go.Proofs.Ytapmieijnbachaa
