/-
  Lists valid: the reference.
-/
import Derived.Test.YtkldapdpaldbgaaGreatT
import Derived.Test.YtkldapdpaldbgaaGreatL
import Derived.Deep.QuietTactic
import Derived.BigQuiet
import Derived.Deep.LoopGhost
import Derived.Deep.RegionHeld3
import Derived.Test.YtkldapdpaldbgaaGreatN
import Derived.Test.YtkldapdpaldbgaaGreatA
import Derived.WalkSpells
import Derived.Laws.Cover3
import Derived.Test.YtkldapdpaldbgaaGreatLP
import Derived.Test.YtkldapdpaldbgaaGreatB8
namespace Go.Proofs.YtkldapdpaldbgaaGreat
open Go.RowKit
theorem RdL.pre {g off n c B : Nat} {w : World} {l : List Int} (h : RdL FI w B (.slice (some ⟨g, off, none⟩) n c) l) (m : Nat) (h1 : m ≤ l.length) : RdL FI w B (.slice (some ⟨g, off, none⟩) m c) (l.take m) := by
  have a := h.subI 0 m (by omega)
  simpa using a
set_option maxHeartbeats 1000000 in
theorem l8HasQ_ct (w : World) (v : Value) (z : List Int) (x : Int) (B : Nat) (h : RdL FI w B v z) :
    Calls Tryz.prog 130 #[v, .int .i64 x] w fun e w' => e = .returned (.bool (z.any fun y => y == x)) ∧ w = w' := by
  obtain ⟨A, c, hv, q1, q2, _⟩ := id h
  have hlt0 : z.length ≤ 9223372036854775807 := by unfold maxLen at q2; omega
  subst hv
  clear q1 q2
  go_enter Tryz.func130, Tryz.ntmps130
  go_wp2
  go_loop [5] (fun i => ∃ k : Nat, k ≤ z.length ∧ i = .int .i64 k ∧ Hid ((z.take k).any (fun y => y == x) = false)) (fun i => z.length - (intOf i).toNat)
  case atStart => exact ⟨0, Nat.zero_le _, rfl, rfl⟩
  case round =>
    obtain ⟨i, hi, rfl, HN⟩ := hrel
    by_cases hlt : i < z.length
    · obtain ⟨g, off, cap', he, hg, _, _, hc⟩ := h.at_ (List.getElem?_eq_getElem hlt)
      injection he with he1 he2 he3
      clear he2
      subst he1 he3
      have p0 : w.cell? ⟨g, off + i, none⟩ = some (.int .i64 z[i]) := by simpa [FI] using hc 0 _ rfl
      clear hc h
      by_cases hz : z[i] = x
      · have hz1 : (z[i] == x) = true := by simpa using hz
        have HP := Hid.mk_ (show (z.any fun y => y == x) = true from List.any_eq_true.2 ⟨z[i], List.getElem_mem hlt, hz1⟩)
        clear hz
        go_wp2
        go_ret
        exact ⟨ret_bool HP.out.symm, rfl⟩
      · have hz1 : (z[i] == x) = false := by simpa using hz
        have HP := Hid.mk_ (any_take_succ (fun y => y == x) z i hlt HN.out hz1)
        clear hz
        go_wp2
        go_round
        case rel => exact ⟨i + 1, by omega, by go_num, HP⟩
        case measure => simp [intOf]; omega
    · go_wp2
      go_ret
      obtain rfl : i = z.length := by omega
      exact ⟨ret_bool (by simpa using HN.out.symm), rfl⟩
set_option maxRecDepth 100000 in
set_option maxHeartbeats 2000000 in
theorem ListsOk_spec (w : World) (H : HLists) (x : Lists) (h : RdLists w w.heap.size H x) (hs1 : szLL x.Global ≤ 536870912) (hs2 : szLL x.Own ≤ 536870912) :
    Calls Tryz.prog 127 #[.agg #[.slice H.Global.a H.Global.len H.Global.cap, .slice H.Own.a H.Own.len H.Own.cap]] w fun e w' => e = .returned (.bool (listsOkB x)) ∧ Below w.heap.size w w' := by
  obtain ⟨⟨A1, n1, c1⟩, T1, ⟨A2, n2, c2⟩, T2⟩ := H
  obtain ⟨gl, ow⟩ := x
  have hr1 : RdLL FI w w.heap.size (.slice A1 n1 c1) T1 gl := h.Global
  have hr2 : RdLL FI w w.heap.size (.slice A2 n2 c2) T2 ow := h.Own
  obtain ⟨en1, _, hmx⟩ := hr1.len'
  have hlt1 : gl.length ≤ 9223372036854775807 := by unfold maxLen at hmx; omega
  clear hmx
  obtain ⟨en2, _, hmx⟩ := hr2.len'
  have hlt2 : ow.length ≤ 9223372036854775807 := by unfold maxLen at hmx; omega
  clear hmx h
  subst en1 en2
  simp only at hs1 hs2
  have HE := Hid.mk_ (show listsOkB ⟨gl, ow⟩ = ((gl.length == 3) && (ow.length == 9) && ow.all shortB && seenOk (allL ⟨gl, ow⟩)) from rfl)
  have ba0 : Box (w.alloc (.cells #[.slice A1 gl.length c1, .slice A2 ow.length c2] 29)) w.heap.size [.slice A1 gl.length c1, .slice A2 ow.length c2] := Box.new w #[.slice A1 gl.length c1, .slice A2 ow.length c2] _
  have hB0 : Below w.heap.size w (w.alloc (.cells #[.slice A1 gl.length c1, .slice A2 ow.length c2] 29)) := by repeat (first | exact Below.refl _ _ | refine Below.alloc ?_ (by simp <;> omega) _ | refine below_grow_of ?_ (by simp <;> omega) _ _ | refine Below.drew ?_ | refine below_drewN ?_ _)
  show Calls Tryz.prog 127 #[.agg #[.slice A1 gl.length c1, .slice A2 ow.length c2]] _ _
  by_cases k1 : gl.length = 3
  case neg =>
    have k1' : ((gl.length : Int) != 3) = true := by simp; omega
    have HF := Hid.mk_ (show listsOkB ⟨gl, ow⟩ = false by rw [HE.out]; simp [k1])
    clear k1
    go_enter Tryz.func127, Tryz.ntmps127
    go_wp2
    go_ret
    exact ⟨ret_bool HF.out.symm, hB0⟩
  have k1' : ((gl.length : Int) != 3) = false := by simp; omega
  have K1 := Hid.mk_ k1
  clear k1
  by_cases k2 : ow.length = 9
  case neg =>
    have k2' : ((ow.length : Int) != 9) = true := by simp; omega
    have HF := Hid.mk_ (show listsOkB ⟨gl, ow⟩ = false by rw [HE.out]; simp [k2])
    clear k2
    go_enter Tryz.func127, Tryz.ntmps127
    go_wp2
    go_ret
    exact ⟨ret_bool HF.out.symm, hB0⟩
  have k2' : ((ow.length : Int) != 9) = false := by simp; omega
  have HF := Hid.mk_ (show listsOkB ⟨gl, ow⟩ = (ow.all shortB && seenOk (allL ⟨gl, ow⟩)) by rw [HE.out, K1.out, k2]; simp)
  clear k2 HE
  go_enter Tryz.func127, Tryz.ntmps127
  go_wp2
  generalize (w.alloc (.cells #[.slice A1 gl.length c1, .slice A2 ow.length c2] 29)) = w0 at ba0 hB0
  have qa0 := ba0.cell 0 _ rfl
  have qa1 := ba0.cell 1 _ rfl
  go_loop [3] (fun i => ∃ k : Nat, k ≤ ow.length ∧ i = .int .i64 k ∧ Hid ((ow.take k).all shortB = true)) (fun i => ow.length - (intOf i).toNat)
  case atStart => exact ⟨0, Nat.zero_le _, rfl, rfl⟩
  case round =>
    obtain ⟨i, hi, rfl, HT⟩ := hrel
    by_cases hlt : i < ow.length
    · obtain ⟨g, o, A', c', hAe, hg, p0, rr1⟩ := hr2.row hB0 hlt
      subst hAe
      by_cases hz : ow[i].length ≤ 2
      · have HN := Hid.mk_ (all_step (p := shortB) hlt HT.out (by simp [shortB, hz]))
        go_wp2
        go_round
        case rel => exact ⟨i + 1, by omega, by go_num, HN⟩
        case measure => simp [intOf]; omega
      · have HN := Hid.mk_ (show listsOkB ⟨gl, ow⟩ = false by rw [HF.out, all_no (p := shortB) hlt (by simp [shortB]; omega)]; rfl)
        go_wp2
        go_ret
        exact ⟨ret_bool HN.out.symm, hB0⟩
    · obtain rfl : i = ow.length := by omega
      have HG := Hid.mk_ (show listsOkB ⟨gl, ow⟩ = seenOk (allL ⟨gl, ow⟩) by have a := HT.out; rw [List.take_length] at a; rw [HF.out, a]; rfl)
      clear HT HF
      go_wp2_with fail
      refine (l8All_ct _ ⟨⟨A1, gl.length, c1⟩, T1, ⟨A2, ow.length, c2⟩, T2⟩ ⟨gl, ow⟩ ⟨rdLL_up hr1 hB0, rdLL_up hr2 hB0⟩ hs1 hs2).mono ?_
      rintro e w1 ⟨v', rfl, ho, hf, hb0⟩
      have hB1 := hB0.trans (hb0.mono hB0.size)
      clear hf hb0 qa0 qa1 ba0 hB0
      generalize allL ⟨gl, ow⟩ = L at ho HG
      obtain ⟨A, c, hv, _, q2, _⟩ := ho.rd'
      subst hv
      have hL0 : L.length ≤ 9223372036854775807 := by unfold maxLen at q2; omega
      clear q2
      have hor := ho.rd'
      clear ho
      go_wp2
      go_loopw [5] (fun i wr => ∃ k : Nat, k ≤ L.length ∧ i = .int .i64 k ∧ Below w1.heap.size w1 wr ∧ Hid (seenOk (L.take k) = true)) (fun i _ => L.length - (intOf i).toNat)
      case atStart => exact ⟨0, Nat.zero_le _, rfl, Below.refl _ _, rfl⟩
      case round =>
        obtain ⟨i, hi, rfl, hb, HR⟩ := hrel
        by_cases hlt : i < L.length
        · obtain ⟨g, off, cap', he, hg, _, _, hc⟩ := (hor.below hb).at_ (List.getElem?_eq_getElem hlt)
          injection he with he1 he2 he3
          clear he2
          subst he1 he3
          have p0 : wr.cell? ⟨g, off + i, none⟩ = some (.int .i64 L[i]) := by simpa [FI] using hc 0 _ rfl
          clear hc
          have hpre := (hor.below hb).pre i (by omega)
          have hgw : g < wr.heap.size := Nat.lt_of_lt_of_le hg hb.size
          have Hn1 := Hid.mk_ (seen_no1 (L := L) hlt)
          have Hn2 := Hid.mk_ (seen_no2 (L := L) hlt)
          have Hst := Hid.mk_ (seen_step (L := L) hlt HR.out)
          generalize L[i] = x at p0 Hn1 Hn2 Hst
          have hBW := hB1.trans (hb.mono hB1.size)
          have hql : ∀ (W : World) (b : Bool), inB 0 23 x = b → Calls Tryz.prog 107 #[.int .i64 x, .int .i64 0, .int .i64 23] W fun e w' => e = .returned (.bool b) ∧ W = w' := fun W b hb => (l1In_ct _ _ _ _).mono fun e w' ⟨u, v⟩ => ⟨by rw [u, hb], v⟩
          have hqh : ∀ (n : Nat) (b : Bool), ((L.take i).any fun y => y == x) = b → Calls Tryz.prog 130 #[.slice (some ⟨g, off, none⟩) i c, .int .i64 x] (wr.drewN n) fun e w' => e = .returned (.bool b) ∧ wr.drewN n = w' := fun n b hb => (l8HasQ_ct _ _ (L.take i) x _ (hpre.keep (w' := wr.drewN n) (fun _ _ => rfl) (Nat.le_refl _))).mono fun e w' ⟨u, v⟩ => ⟨by rw [u, hb], v⟩
          by_cases d1 : inB 0 23 x = true
          case neg =>
            have d1' : inB 0 23 x = false := (Bool.not_eq_true _).mp d1
            have HN := Hid.mk_ (show listsOkB ⟨gl, ow⟩ = false by rw [HG.out]; exact Hn1.out d1')
            have hq1 := fun W => hql W _ d1'
            clear d1 d1' Hn1 Hn2 Hst hql hqh
            go_wp2
            go_quiet ((go_at_call 107; exact quiet_left (hq1 _)))
            go_wp2
            go_ret
            exact ⟨ret_bool HN.out.symm, by first | exact hBW | exact hBW.drew | exact below_drewN hBW _⟩
          by_cases d2 : ((L.take i).any fun y => y == x) = true
          · have HN := Hid.mk_ (show listsOkB ⟨gl, ow⟩ = false by rw [HG.out]; exact Hn2.out d2)
            have hq1 := fun W => hql W _ d1
            have hq2 := fun n => hqh n _ d2
            clear d1 d2 Hn1 Hn2 Hst hql hqh
            go_wp2
            go_quiet (first | (go_at_call 107; exact quiet_left (hq1 _)) | (go_at_call 130; exact quiet_left (hq2 _)))
            go_wp2
            go_ret
            exact ⟨ret_bool HN.out.symm, by first | exact hBW | exact hBW.drew | exact below_drewN hBW _⟩
          · have d2' : ((L.take i).any fun y => y == x) = false := (Bool.not_eq_true _).mp d2
            have HN := Hid.mk_ (Hst.out d1 d2')
            have hq1 := fun W => hql W _ d1
            have hq2 := fun n => hqh n _ d2'
            clear d1 d2 d2' Hn1 Hn2 Hst hql hqh
            go_wp2
            go_quiet (first | (go_at_call 107; exact quiet_left (hq1 _)) | (go_at_call 130; exact quiet_left (hq2 _)))
            go_wp2
            go_roundw
            case rel => exact ⟨i + 1, by omega, by go_num, below_drewN hb _, HN⟩
            case measure => simp [intOf]; omega
        · obtain rfl : i = L.length := by omega
          have HN := Hid.mk_ (show listsOkB ⟨gl, ow⟩ = true by have a := HR.out; rw [List.take_length] at a; rw [HG.out, a])
          go_wp2
          go_ret
          exact ⟨ret_bool HN.out.symm, hB1.trans (hb.mono hB1.size)⟩
end Go.Proofs.YtkldapdpaldbgaaGreat
