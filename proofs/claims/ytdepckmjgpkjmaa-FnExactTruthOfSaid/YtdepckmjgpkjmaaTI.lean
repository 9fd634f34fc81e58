/-
  TruthOf of the program: the contract.
-/
import Derived.Test.YtdepckmjgpkjmaaT
import Derived.Test.YtdepckmjgpkjmaaL
import Derived.Deep.QuietTactic
import Derived.BigQuiet
import Derived.Deep.LoopGhost
import Derived.Deep.RegionHeld3
import Derived.Test.YtdepckmjgpkjmaaN
import Derived.Test.YtdepckmjgpkjmaaA
import Derived.WalkSpells
import Derived.Laws.Cover3
import Derived.Test.YtdepckmjgpkjmaaTS
namespace Go.Proofs.Ytdepckmjgpkjmaa
open Go.RowKit

set_option maxRecDepth 100000 in
set_option maxHeartbeats 4000000 in
theorem TruthOf_impl (w : World) (v : Value) (l : List Ev) (h : RdL FEv w w.heap.size v l) :
    Calls Try.prog 16 #[v] w fun e w' => e = .returned (.bool (truthP l)) ∧ Below w.heap.size w w' := by
  obtain ⟨A, c, hv, _, _, _⟩ := id h
  subst hv
  obtain ⟨_, hln⟩ := RdL.len_ h
  go_enter Try.func16, Try.ntmps16
  go_wp2
  go_loopw [3, 4, 5, 6, 7, 10] (fun _ _ _ _ _ j wr => ∃ k : Nat, k ≤ l.length ∧ j = .int .i64 k ∧ Hid ((List.range k).any (badAt l) = false) ∧ Below w.heap.size w wr) (fun _ _ _ _ _ j _ => l.length - (intOf j).toNat)
  case atStart => exact ⟨0, Nat.zero_le _, rfl, Hid.mk_ rfl, Below.refl _ _⟩
  case round =>
    obtain ⟨i, hi, rfl, HT, hb⟩ := hrel
    by_cases hlt : i < l.length
    · obtain ⟨g, off, cap', he, hg, _, _, hc⟩ := (h.below hb).at_ (List.getElem?_eq_getElem hlt)
      injection he with he1 he2 he3
      clear he2
      subst he1 he3
      have p0 : wr.cell? ⟨g, off + i * 7, none⟩ = some (.int .i64 l[i].Kind) := hc 0 _ rfl
      have p1 : wr.cell? ⟨g, off + i * 7 + 1, none⟩ = some (.int .i64 l[i].Who) := hc 1 _ rfl
      have p2 : wr.cell? ⟨g, off + i * 7 + 2, none⟩ = some (.int .i64 l[i].Serial) := hc 2 _ rfl
      have p3 : wr.cell? ⟨g, off + i * 7 + 3, none⟩ = some (.int .i64 l[i].Cell) := hc 3 _ rfl
      have p4 : wr.cell? ⟨g, off + i * 7 + 4, none⟩ = some (.int .i64 l[i].Handle) := hc 4 _ rfl
      have p5 : wr.cell? ⟨g, off + i * 7 + 5, none⟩ = some (.int .i64 l[i].Val) := hc 5 _ rfl
      have p6 : wr.cell? ⟨g, off + i * 7 + 6, none⟩ = some (.int .i64 l[i].Code) := hc 6 _ rfl
      clear hc
      have hbE := hb.alloc hb.size (.cells #[.int .i64 l[i].Kind, .int .i64 l[i].Who, .int .i64 l[i].Serial, .int .i64 l[i].Cell, .int .i64 l[i].Handle, .int .i64 l[i].Val, .int .i64 l[i].Code] 25)
      by_cases k1 : l[i].Kind = 4
      case neg =>
        have k1' : (l[i].Kind == 4) = false := by simpa using k1
        have k1'' : (l[i].Kind != 4) = true := by simpa using k1
        have HA := Hid.mk_ (badAt_kind hlt k1')
        clear k1 h
        go_wp2
        go_roundw
        case rel => exact ⟨i + 1, by omega, by go_num, Hid.mk_ (truth_step HT.out HA.out), hbE⟩
        case measure => simp [intOf]; omega
      have k1' : (l[i].Kind == 4) = true := by simpa using k1
      have k1'' : (l[i].Kind != 4) = false := by simpa using k1
      clear k1
      have bE : Box (wr.alloc (.cells #[.int .i64 l[i].Kind, .int .i64 l[i].Who, .int .i64 l[i].Serial, .int .i64 l[i].Cell, .int .i64 l[i].Handle, .int .i64 l[i].Val, .int .i64 l[i].Code] 25)) wr.heap.size [.int .i64 l[i].Kind, .int .i64 l[i].Who, .int .i64 l[i].Serial, .int .i64 l[i].Cell, .int .i64 l[i].Handle, .int .i64 l[i].Val, .int .i64 l[i].Code] := Box.new wr #[.int .i64 l[i].Kind, .int .i64 l[i].Who, .int .i64 l[i].Serial, .int .i64 l[i].Cell, .int .i64 l[i].Handle, .int .i64 l[i].Val, .int .i64 l[i].Code] 25
      have h1 := h.below hbE
      have HAN := Hid.mk_ (fun hr : readP l l[i].Serial i = -1 => badAt_none hlt hr)
      have HAA := Hid.mk_ (fun (m : Nat) (hm : m < l.length) (hr : readP l l[i].Serial i = m) => badAt_at hlt hm k1' hr)
      clear h
      go_wp2
      generalize hW1 : (wr.alloc (.cells #[.int .i64 l[i].Kind, .int .i64 l[i].Who, .int .i64 l[i].Serial, .int .i64 l[i].Cell, .int .i64 l[i].Handle, .int .i64 l[i].Val, .int .i64 l[i].Code] 25)) = w1 at bE hbE h1 ⊢
      clear hW1
      obtain ⟨ei, hei⟩ : ∃ ei, ei = l[i] := ⟨_, rfl⟩
      rw [← hei] at bE HAN HAA k1' k1'' ⊢
      clear hei p0 p1 p2 p3 p4 p5 p6
      have hzE := bE.lt
      go_loopw [5] (fun q wq => ∃ m : Nat, m ≤ i ∧ q = .int .i64 ((m : Int) - 1) ∧ Hid (readP l ei.Serial i = readP l ei.Serial m) ∧ Below w1.heap.size w1 wq) (fun q _ => (intOf q + 1).toNat)
      case atStart => exact ⟨i, Nat.le_refl _, rfl, Hid.mk_ rfl, Below.refl _ _⟩
      case round =>
        obtain ⟨m, hm, rfl, HR, hq⟩ := hrel
        have bQ := bE.below hq
        have hbQ := hbE.trans (hq.mono hbE.size)
        cases m with
        | zero =>
          have HA := Hid.mk_ (HAN.out HR.out)
          go_wp2
          go_quiet (fail)
          all_goals go_wp2
          all_goals go_roundw
          case rel => exact ⟨i + 1, by omega, by go_num, Hid.mk_ (truth_step HT.out HA.out), by first | exact hbQ | exact below_drewN hbQ _ | exact hbQ.drew⟩
          case measure => simp [intOf]; omega
        | succ m =>
          have hml : m < l.length := by omega
          have e1 : ((m + 1 : Nat) : Int) - 1 = (m : Int) := by omega
          rw [e1]
          clear e1
          obtain ⟨g', off', cap2, he, hg', _, _, hc⟩ := (h1.below (hq.mono hbE.size)).at_ (List.getElem?_eq_getElem hml)
          injection he with he1 he2 he3
          injection he1 with he1
          injection he1 with he4 he5
          clear he2
          subst he3 he4 he5
          have r0 : World.cell? _ ⟨g, off + m * 7, none⟩ = some (.int .i64 l[m].Kind) := hc 0 _ rfl
          have r1 : World.cell? _ ⟨g, off + m * 7 + 1, none⟩ = some (.int .i64 l[m].Who) := hc 1 _ rfl
          have r2 : World.cell? _ ⟨g, off + m * 7 + 2, none⟩ = some (.int .i64 l[m].Serial) := hc 2 _ rfl
          have r3 : World.cell? _ ⟨g, off + m * 7 + 3, none⟩ = some (.int .i64 l[m].Cell) := hc 3 _ rfl
          have r4 : World.cell? _ ⟨g, off + m * 7 + 4, none⟩ = some (.int .i64 l[m].Handle) := hc 4 _ rfl
          have r5 : World.cell? _ ⟨g, off + m * 7 + 5, none⟩ = some (.int .i64 l[m].Val) := hc 5 _ rfl
          have r6 : World.cell? _ ⟨g, off + m * 7 + 6, none⟩ = some (.int .i64 l[m].Code) := hc 6 _ rfl
          clear hc
          have e0 := bQ.cell 0 _ rfl
          have e1 := bQ.cell 1 _ rfl
          have e2 := bQ.cell 2 _ rfl
          have e3 := bQ.cell 3 _ rfl
          have e4 := bQ.cell 4 _ rfl
          have e5 := bQ.cell 5 _ rfl
          have e6 := bQ.cell 6 _ rfl
          have hz1 := hq.size
          by_cases hs : readB ei.Serial l[m] = true
          case neg =>
            have hs' : readB ei.Serial l[m] = false := by simpa using hs
            have HS := Hid.mk_ (HR.out.trans (readP_no hml hs'))
            clear hs
            by_cases k3 : l[m].Kind = 3
            · have k3' : (l[m].Kind == 3) = true := by simpa using k3
              have k3'' : (l[m].Kind != 3) = false := by simpa using k3
              have k4' : (l[m].Serial == ei.Serial) = false := by simp [readB, k3] at hs'; simpa using hs'
              have k4'' : (l[m].Serial != ei.Serial) = true := by simp [readB, k3] at hs'; simpa using hs'
              clear k3 hs' h1
              go_wp2
              go_quiet (fail)
              all_goals go_wp2
              all_goals go_roundw
              case rel => exact ⟨m, by omega, rfl, HS, by first | exact hq | exact below_drewN hq _ | exact hq.drew⟩
              case measure => simp [intOf] <;> omega
            · have k3' : (l[m].Kind == 3) = false := by simpa using k3
              have k3'' : (l[m].Kind != 3) = true := by simpa using k3
              clear k3 hs' h1
              go_wp2
              go_quiet (fail)
              all_goals go_wp2
              all_goals go_roundw
              case rel => exact ⟨m, by omega, rfl, HS, by first | exact hq | exact below_drewN hq _ | exact hq.drew⟩
              case measure => simp [intOf] <;> omega
          have HA := Hid.mk_ (HAA.out m hml (HR.out.trans (readP_yes hml hs)))
          have k34 : l[m].Kind = 3 ∧ l[m].Serial = ei.Serial := by simpa [readB] using hs
          have k3' : (l[m].Kind == 3) = true := by simpa using k34.1
          have k3'' : (l[m].Kind != 3) = false := by simpa using k34.1
          have k4' : (l[m].Serial == ei.Serial) = true := by simpa using k34.2
          have k4'' : (l[m].Serial != ei.Serial) = false := by simpa using k34.2
          clear hs k34 HAN HAA
          go_wp2
          go_quiet (fail)
          clear r0 r1 r2 r3 r4 r5 r6 e0 e1 e2 e3 e4 e5 e6 hz1 bQ hbQ
          generalize hwd : wr.drewN nq = wd
          have hqd : Below w1.heap.size w1 wd := by rw [← hwd]; exact below_drewN hq _
          clear hwd hq
          have bD := bE.below hqd
          have hbD := hbE.trans (hqd.mono hbE.size)
          have h2 := RdL.keep h1 (fun k hk => hqd.block k (Nat.lt_of_lt_of_le hk hbE.size)) (Nat.le_trans hbE.size hqd.size)
          have hzd := bD.lt
          obtain ⟨g3, off3, cap3, he, hg3, _, _, hc⟩ := h2.at_ (List.getElem?_eq_getElem hml)
          injection he with he1 he2 he3
          injection he1 with he1
          injection he1 with he4 he5
          clear he2
          subst he3 he4 he5
          have r0 : wd.cell? ⟨g, off + m * 7, none⟩ = some (.int .i64 l[m].Kind) := hc 0 _ rfl
          have r1 : wd.cell? ⟨g, off + m * 7 + 1, none⟩ = some (.int .i64 l[m].Who) := hc 1 _ rfl
          have r2 : wd.cell? ⟨g, off + m * 7 + 2, none⟩ = some (.int .i64 l[m].Serial) := hc 2 _ rfl
          have r3 : wd.cell? ⟨g, off + m * 7 + 3, none⟩ = some (.int .i64 l[m].Cell) := hc 3 _ rfl
          have r4 : wd.cell? ⟨g, off + m * 7 + 4, none⟩ = some (.int .i64 l[m].Handle) := hc 4 _ rfl
          have r5 : wd.cell? ⟨g, off + m * 7 + 5, none⟩ = some (.int .i64 l[m].Val) := hc 5 _ rfl
          have r6 : wd.cell? ⟨g, off + m * 7 + 6, none⟩ = some (.int .i64 l[m].Code) := hc 6 _ rfl
          clear hc
          have kc := fun (W : World) hW => CellAt_impl W _ l (m : Int) l[m].Cell (rd_up h2 hW)
          generalize cellAtP l (m : Int) l[m].Cell = x at kc HA
          clear h1 h2
          obtain ⟨er, her⟩ : ∃ er, er = l[m] := ⟨_, rfl⟩
          rw [← her] at k3' k3'' k4' k4'' r0 r1 r2 r3 r4 r5 r6 kc HA ⊢
          clear her
          go_wp2_with fail
          refine (kc _ ((Below.refl _ _).alloc (Nat.le_refl _) _)).mono ?_
          clear kc r0 r1 r2 r3 r4 r5 r6
          rintro e w3 ⟨rfl, hb3⟩
          have bR := (Box.new wd #[.int .i64 er.Kind, .int .i64 er.Who, .int .i64 er.Serial, .int .i64 er.Cell, .int .i64 er.Handle, .int .i64 er.Val, .int .i64 er.Code] 25).below hb3
          have bF := (bD.alloc (.cells #[.int .i64 er.Kind, .int .i64 er.Who, .int .i64 er.Serial, .int .i64 er.Cell, .int .i64 er.Handle, .int .i64 er.Val, .int .i64 er.Code] 25)).below hb3
          have hb03 := (hbD.alloc hbD.size _).trans (hb3.mono (by have := hbD.size; simp; omega))
          have zR := bR.lt
          have zF := bF.lt
          clear hb3
          have e0 := bF.cell 0 _ rfl
          have e1 := bF.cell 1 _ rfl
          have e2 := bF.cell 2 _ rfl
          have e3 := bF.cell 3 _ rfl
          have e4 := bF.cell 4 _ rfl
          have e5 := bF.cell 5 _ rfl
          have e6 := bF.cell 6 _ rfl
          have r0 := bR.cell 0 _ rfl
          have r1 := bR.cell 1 _ rfl
          have r2 := bR.cell 2 _ rfl
          have r3 := bR.cell 3 _ rfl
          have r4 := bR.cell 4 _ rfl
          have r5 := bR.cell 5 _ rfl
          have r6 := bR.cell 6 _ rfl
          have hbG : Below w.heap.size w (w3.alloc (.cells #[.int .i64 x.Kind, .int .i64 x.Who, .int .i64 x.Serial, .int .i64 x.Cell, .int .i64 x.Handle, .int .i64 x.Val, .int .i64 x.Code] 25)) := hb03.alloc hb03.size _
          by_cases qC0 : ei.Code = 0
          · have fC0 : (ei.Code == 0) = true := by simpa using qC0
            have nC0 : (ei.Code != 0) = false := by simpa using qC0
            have g8 : (ei.Code == 8) = false := by rw [qC0]; rfl
            by_cases qX0 : x.Handle = 0
            · have fX0 : (x.Handle == 0) = true := by simpa using qX0
              have nX0 : (x.Handle != 0) = false := by simpa using qX0
              have HB := Hid.mk_ (show badB ei er x = true by first | (simp [badB, qC0, qX0]; done) | (simp [badB, qC0, qX0]; rw [← qXR]; exact qX0))
              clear qC0 qX0
              go_wp2
              all_goals go_ret
              all_goals exact ⟨ret_bool (truth_bad hlt (HA.out.trans HB.out)).symm, hbG⟩
            · have fX0 : (x.Handle == 0) = false := by simpa using qX0
              have nX0 : (x.Handle != 0) = true := by simpa using qX0
              by_cases qXR : x.Handle = er.Handle
              · have fXR : (x.Handle == er.Handle) = true := by simpa using qXR
                have nXR : (x.Handle != er.Handle) = false := by simpa using qXR
                by_cases qXV : x.Val = ei.Val
                · have fXV : (x.Val == ei.Val) = true := by simpa using qXV
                  have nXV : (x.Val != ei.Val) = false := by simpa using qXV
                  have HB := Hid.mk_ (show badB ei er x = false by first | (simp [badB, qC0, qX0, qXR, qXV]; done) | (simp [badB, qC0, qX0, qXR, qXV]; rw [← qXR]; exact qX0))
                  clear qC0 qX0 qXR qXV
                  go_wp2
                  all_goals go_roundw
                  case rel => exact ⟨i + 1, by omega, by go_num, Hid.mk_ (truth_step HT.out (HA.out.trans HB.out)), hbG⟩
                  case measure => simp [intOf]; omega
                · have fXV : (x.Val == ei.Val) = false := by simpa using qXV
                  have nXV : (x.Val != ei.Val) = true := by simpa using qXV
                  have HB := Hid.mk_ (show badB ei er x = true by first | (simp [badB, qC0, qX0, qXR, qXV]; done) | (simp [badB, qC0, qX0, qXR, qXV]; rw [← qXR]; exact qX0))
                  clear qC0 qX0 qXR qXV
                  go_wp2
                  all_goals go_ret
                  all_goals exact ⟨ret_bool (truth_bad hlt (HA.out.trans HB.out)).symm, hbG⟩
              · have fXR : (x.Handle == er.Handle) = false := by simpa using qXR
                have nXR : (x.Handle != er.Handle) = true := by simpa using qXR
                have HB := Hid.mk_ (show badB ei er x = true by first | (simp [badB, qC0, qX0, qXR]; done) | (simp [badB, qC0, qX0, qXR]; rw [← qXR]; exact qX0))
                clear qC0 qX0 qXR
                go_wp2
                all_goals go_ret
                all_goals exact ⟨ret_bool (truth_bad hlt (HA.out.trans HB.out)).symm, hbG⟩
          · have fC0 : (ei.Code == 0) = false := by simpa using qC0
            have nC0 : (ei.Code != 0) = true := by simpa using qC0
            by_cases qC8 : ei.Code = 8
            · have fC8 : (ei.Code == 8) = true := by simpa using qC8
              have nC8 : (ei.Code != 8) = false := by simpa using qC8
              by_cases qX0 : x.Handle = 0
              · have fX0 : (x.Handle == 0) = true := by simpa using qX0
                have nX0 : (x.Handle != 0) = false := by simpa using qX0
                by_cases qR0 : er.Handle = 0
                · have fR0 : (er.Handle == 0) = true := by simpa using qR0
                  have nR0 : (er.Handle != 0) = false := by simpa using qR0
                  have HB := Hid.mk_ (show badB ei er x = false by first | (simp [badB, qC0, qC8, qX0, qR0]; done) | (simp [badB, qC0, qC8, qX0, qR0]; rw [← qXR]; exact qX0))
                  clear qC0 qC8 qX0 qR0
                  go_wp2
                  all_goals go_roundw
                  case rel => exact ⟨i + 1, by omega, by go_num, Hid.mk_ (truth_step HT.out (HA.out.trans HB.out)), hbG⟩
                  case measure => simp [intOf]; omega
                · have fR0 : (er.Handle == 0) = false := by simpa using qR0
                  have nR0 : (er.Handle != 0) = true := by simpa using qR0
                  have HB := Hid.mk_ (show badB ei er x = true by first | (simp [badB, qC0, qC8, qX0, qR0]; done) | (simp [badB, qC0, qC8, qX0, qR0]; rw [← qXR]; exact qX0))
                  clear qC0 qC8 qX0 qR0
                  go_wp2
                  all_goals go_ret
                  all_goals exact ⟨ret_bool (truth_bad hlt (HA.out.trans HB.out)).symm, hbG⟩
              · have fX0 : (x.Handle == 0) = false := by simpa using qX0
                have nX0 : (x.Handle != 0) = true := by simpa using qX0
                have HB := Hid.mk_ (show badB ei er x = true by first | (simp [badB, qC0, qC8, qX0]; done) | (simp [badB, qC0, qC8, qX0]; rw [← qXR]; exact qX0))
                clear qC0 qC8 qX0
                go_wp2
                all_goals go_ret
                all_goals exact ⟨ret_bool (truth_bad hlt (HA.out.trans HB.out)).symm, hbG⟩
            · have fC8 : (ei.Code == 8) = false := by simpa using qC8
              have nC8 : (ei.Code != 8) = true := by simpa using qC8
              have HB := Hid.mk_ (show badB ei er x = false by first | (simp [badB, qC0, qC8]; done) | (simp [badB, qC0, qC8]; rw [← qXR]; exact qX0))
              clear qC0 qC8
              go_wp2
              all_goals go_roundw
              case rel => exact ⟨i + 1, by omega, by go_num, Hid.mk_ (truth_step HT.out (HA.out.trans HB.out)), hbG⟩
              case measure => simp [intOf]; omega
    · go_wp2
      go_ret
      obtain rfl : i = l.length := by omega
      exact ⟨ret_bool (truth_end HT.out).symm, hb⟩
end Go.Proofs.Ytdepckmjgpkjmaa
