/-
  TruthOf of the reference: the contract.
-/
import Derived.Test.YtdepckmjgpkjmaaT
import Derived.Test.YtdepckmjgpkjmaaL
import Derived.Deep.QuietTactic
import Derived.BigQuiet
import Derived.Deep.LoopGhost
import Derived.Deep.RegionHeld3
import Derived.Test.YtdepckmjgpkjmaaN
import Derived.Test.YtdepckmjgpkjmaaA
import Derived.WalkSpells
import Derived.Laws.Cover3
import Derived.Test.YtdepckmjgpkjmaaCS
namespace Go.Proofs.Ytdepckmjgpkjmaa
open Go.RowKit

def readB (s : Int) (e : Ev) : Bool := e.Kind == 3 && e.Serial == s
def readP (l : List Ev) (s : Int) : Nat → Int
  | 0 => -1
  | k + 1 => if readB s (l.getD k zeroEv) = true then (k : Int) else readP l s k
theorem getD_at_ {l : List Ev} {k : Nat} (h : k < l.length) : l.getD k zeroEv = l[k] := by simp [List.getD, h]
theorem readP_yes {l : List Ev} {s : Int} {k : Nat} (h : k < l.length) (hb : readB s l[k] = true) : readP l s (k + 1) = k := by
  unfold readP
  rw [getD_at_ h, if_pos hb]
theorem readP_no {l : List Ev} {s : Int} {k : Nat} (h : k < l.length) (hb : readB s l[k] = false) : readP l s (k + 1) = readP l s k := by
  show (if readB s (l.getD k zeroEv) = true then (k : Int) else readP l s k) = _
  rw [getD_at_ h, if_neg (by rw [hb]; decide)]
theorem readP_bd (l : List Ev) (s : Int) : ∀ k : Nat, readP l s k = -1 ∨ ∃ m : Nat, m < k ∧ readP l s k = m
  | 0 => .inl rfl
  | k + 1 => by
    by_cases h : readB s (l.getD k zeroEv) = true
    · exact .inr ⟨k, by omega, if_pos h⟩
    · have e : readP l s (k + 1) = readP l s k := if_neg h
      rcases readP_bd l s k with h1 | ⟨m, h1, h2⟩
      · exact .inl (e.trans h1)
      · exact .inr ⟨m, by omega, e.trans h2⟩
def badB (e r x : Ev) : Bool := (e.Code == 0 && (x.Handle == 0 || x.Handle != r.Handle || x.Val != e.Val)) || (e.Code == 8 && (x.Handle != 0 || r.Handle != 0))
def badAt (l : List Ev) (i : Nat) : Bool := (l.getD i zeroEv).Kind == 4 && decide (0 ≤ readP l (l.getD i zeroEv).Serial i) &&
  badB (l.getD i zeroEv) (l.getD (readP l (l.getD i zeroEv).Serial i).toNat zeroEv) (cellAtP l (readP l (l.getD i zeroEv).Serial i) (l.getD (readP l (l.getD i zeroEv).Serial i).toNat zeroEv).Cell)
def truthP (l : List Ev) : Bool := !((List.range l.length).any (badAt l))
theorem truth_bad {l : List Ev} {i : Nat} (hi : i < l.length) (h : badAt l i = true) : truthP l = false := by
  unfold truthP
  rw [show (List.range l.length).any (badAt l) = true from List.any_eq_true.2 ⟨i, List.mem_range.2 hi, h⟩]
  rfl
theorem truth_step {l : List Ev} {k : Nat} (h : (List.range k).any (badAt l) = false) (hb : badAt l k = false) : (List.range (k + 1)).any (badAt l) = false := by
  rw [List.range_succ, List.any_append, h]
  simp [hb]
theorem truth_end {l : List Ev} (h : (List.range l.length).any (badAt l) = false) : truthP l = true := by unfold truthP; rw [h]; rfl
theorem badAt_kind {l : List Ev} {i : Nat} (hi : i < l.length) (h : (l[i].Kind == 4) = false) : badAt l i = false := by
  unfold badAt
  rw [getD_at_ hi, h]
  rfl
theorem badAt_none {l : List Ev} {i : Nat} (hi : i < l.length) (h : readP l l[i].Serial i = -1) : badAt l i = false := by
  unfold badAt
  rw [getD_at_ hi, h]
  simp
theorem badAt_at {l : List Ev} {i m : Nat} (hi : i < l.length) (hm : m < l.length) (hk : (l[i].Kind == 4) = true) (h : readP l l[i].Serial i = m) : badAt l i = badB l[i] l[m] (cellAtP l m l[m].Cell) := by
  unfold badAt
  rw [getD_at_ hi, h, Int.toNat_natCast, getD_at_ hm, hk]
  simp

set_option maxRecDepth 100000 in
set_option maxHeartbeats 1000000 in
theorem l17Read_spec (w : World) (v : Value) (l : List Ev) (i : Nat) (hi : i ≤ l.length) (s : Int) (h : RdL FEv w w.heap.size v l) :
    Calls Try.prog 38 #[v, .int .i64 i, .int .i64 s] w fun e w' => e = .returned (.int .i64 (readP l s i)) ∧ w = w' := by
  obtain ⟨A, c, hv, _, _, _⟩ := id h
  subst hv
  obtain ⟨_, hln⟩ := RdL.len_ h
  go_enter Try.func38, Try.ntmps38
  go_wp2
  go_loop [7, 8] (fun o j => ∃ k : Nat, k ≤ i ∧ j = .int .i64 k ∧ o = .int .i64 (readP l s k)) (fun _ j => i - (intOf j).toNat)
  case atStart => exact ⟨0, Nat.zero_le _, rfl, rfl⟩
  case round =>
    obtain ⟨k, hk, rfl, rfl⟩ := hrel
    by_cases hlt : k < i
    · have hlt2 : k < l.length := by omega
      obtain ⟨g, off, cap', he, hg, _, _, hc⟩ := h.at_ (List.getElem?_eq_getElem hlt2)
      injection he with he1 he2 he3
      clear he2
      subst he1 he3
      have p0 : w.cell? ⟨g, off + k * 7, none⟩ = some (.int .i64 l[k].Kind) := hc 0 _ rfl
      have p1 : w.cell? ⟨g, off + k * 7 + 1, none⟩ = some (.int .i64 l[k].Who) := hc 1 _ rfl
      have p2 : w.cell? ⟨g, off + k * 7 + 2, none⟩ = some (.int .i64 l[k].Serial) := hc 2 _ rfl
      have p3 : w.cell? ⟨g, off + k * 7 + 3, none⟩ = some (.int .i64 l[k].Cell) := hc 3 _ rfl
      have p4 : w.cell? ⟨g, off + k * 7 + 4, none⟩ = some (.int .i64 l[k].Handle) := hc 4 _ rfl
      have p5 : w.cell? ⟨g, off + k * 7 + 5, none⟩ = some (.int .i64 l[k].Val) := hc 5 _ rfl
      have p6 : w.cell? ⟨g, off + k * 7 + 6, none⟩ = some (.int .i64 l[k].Code) := hc 6 _ rfl
      clear hc h
      by_cases hs : readB s l[k] = true
      · have HS := Hid.mk_ (readP_yes hlt2 hs)
        have k12 : l[k].Kind = 3 ∧ l[k].Serial = s := by simpa [readB] using hs
        have k1' : (l[k].Kind == 3) = true := by simpa using k12.1
        have k2' : (l[k].Serial == s) = true := by simpa using k12.2
        clear hs k12
        go_wp2
        go_round
        case rel => exact ⟨k + 1, by omega, by go_num, by rw [HS.out]⟩
        case measure => simp [intOf]; omega
      · have hs' : readB s l[k] = false := by simpa using hs
        have HS := Hid.mk_ (readP_no hlt2 hs')
        clear hs
        by_cases k1 : l[k].Kind = 3
        · have k1' : (l[k].Kind == 3) = true := by simpa using k1
          have k2' : (l[k].Serial == s) = false := by simp [readB, k1] at hs'; simpa using hs'
          clear k1 hs'
          go_wp2
          go_round
          case rel => exact ⟨k + 1, by omega, by go_num, by rw [HS.out]⟩
          case measure => simp [intOf]; omega
        · have k1' : (l[k].Kind == 3) = false := by simpa using k1
          clear k1 hs'
          go_wp2
          go_round
          case rel => exact ⟨k + 1, by omega, by go_num, by rw [HS.out]⟩
          case measure => simp [intOf]; omega
    · go_wp2
      go_ret
      obtain rfl : k = i := by omega
      exact ⟨rfl, rfl⟩

set_option maxRecDepth 100000 in
set_option maxHeartbeats 4000000 in
theorem TruthOf_spec (w : World) (v : Value) (l : List Ev) (h : RdL FEv w w.heap.size v l) :
    Calls Try.prog 15 #[v] w fun e w' => e = .returned (.bool (truthP l)) ∧ Below w.heap.size w w' := by
  obtain ⟨A, c, hv, _, _, _⟩ := id h
  subst hv
  obtain ⟨_, hln⟩ := RdL.len_ h
  go_enter Try.func15, Try.ntmps15
  go_wp2
  go_loopw [3] (fun j wr => ∃ k : Nat, k ≤ l.length ∧ j = .int .i64 k ∧ Hid ((List.range k).any (badAt l) = false) ∧ Below w.heap.size w wr) (fun j _ => l.length - (intOf j).toNat)
  case atStart => exact ⟨0, Nat.zero_le _, rfl, Hid.mk_ rfl, Below.refl _ _⟩
  case round =>
    obtain ⟨i, hi, rfl, HT, hb⟩ := hrel
    by_cases hlt : i < l.length
    · obtain ⟨g, off, cap', he, hg, _, _, hc⟩ := (h.below hb).at_ (List.getElem?_eq_getElem hlt)
      injection he with he1 he2 he3
      clear he2
      subst he1 he3
      have p0 : wr.cell? ⟨g, off + i * 7, none⟩ = some (.int .i64 l[i].Kind) := hc 0 _ rfl
      have p1 : wr.cell? ⟨g, off + i * 7 + 1, none⟩ = some (.int .i64 l[i].Who) := hc 1 _ rfl
      have p2 : wr.cell? ⟨g, off + i * 7 + 2, none⟩ = some (.int .i64 l[i].Serial) := hc 2 _ rfl
      have p3 : wr.cell? ⟨g, off + i * 7 + 3, none⟩ = some (.int .i64 l[i].Cell) := hc 3 _ rfl
      have p4 : wr.cell? ⟨g, off + i * 7 + 4, none⟩ = some (.int .i64 l[i].Handle) := hc 4 _ rfl
      have p5 : wr.cell? ⟨g, off + i * 7 + 5, none⟩ = some (.int .i64 l[i].Val) := hc 5 _ rfl
      have p6 : wr.cell? ⟨g, off + i * 7 + 6, none⟩ = some (.int .i64 l[i].Code) := hc 6 _ rfl
      clear hc
      have kr := fun W hW => l17Read_spec W _ l i hi l[i].Serial (rd_up h hW)
      by_cases k1 : l[i].Kind = 4
      case neg =>
        have k1' : (l[i].Kind == 4) = false := by simpa using k1
        have k1'' : (l[i].Kind != 4) = true := by simpa using k1
        have HA := Hid.mk_ (badAt_kind hlt k1')
        clear k1 h
        go_wp2_with fail
        refine (kr _ hb).mono ?_
        clear kr
        rintro e w2 ⟨rfl, rfl⟩
        go_wp2
        go_roundw
        case rel => exact ⟨i + 1, by omega, by go_num, Hid.mk_ (truth_step HT.out HA.out), hb⟩
        case measure => simp [intOf]; omega
      have k1' : (l[i].Kind == 4) = true := by simpa using k1
      have k1'' : (l[i].Kind != 4) = false := by simpa using k1
      clear k1
      rcases readP_bd l l[i].Serial i with hr | ⟨m, hm, hr⟩
      · have HA := Hid.mk_ (badAt_none hlt hr)
        rw [hr] at kr
        clear hr h
        go_wp2_with fail
        refine (kr _ hb).mono ?_
        clear kr
        rintro e w2 ⟨rfl, rfl⟩
        go_wp2
        go_roundw
        case rel => exact ⟨i + 1, by omega, by go_num, Hid.mk_ (truth_step HT.out HA.out), hb⟩
        case measure => simp [intOf]; omega
      have hml : m < l.length := by omega
      have HA := Hid.mk_ (badAt_at hlt hml k1' hr)
      rw [hr] at kr
      clear hr
      obtain ⟨g', off', cap2, he, hg', _, _, hc⟩ := (h.below hb).at_ (List.getElem?_eq_getElem hml)
      injection he with he1 he2 he3
      injection he1 with he1
      injection he1 with he4 he5
      clear he2
      subst he3 he4 he5
      have r0 : wr.cell? ⟨g, off + m * 7, none⟩ = some (.int .i64 l[m].Kind) := hc 0 _ rfl
      have r1 : wr.cell? ⟨g, off + m * 7 + 1, none⟩ = some (.int .i64 l[m].Who) := hc 1 _ rfl
      have r2 : wr.cell? ⟨g, off + m * 7 + 2, none⟩ = some (.int .i64 l[m].Serial) := hc 2 _ rfl
      have r3 : wr.cell? ⟨g, off + m * 7 + 3, none⟩ = some (.int .i64 l[m].Cell) := hc 3 _ rfl
      have r4 : wr.cell? ⟨g, off + m * 7 + 4, none⟩ = some (.int .i64 l[m].Handle) := hc 4 _ rfl
      have r5 : wr.cell? ⟨g, off + m * 7 + 5, none⟩ = some (.int .i64 l[m].Val) := hc 5 _ rfl
      have r6 : wr.cell? ⟨g, off + m * 7 + 6, none⟩ = some (.int .i64 l[m].Code) := hc 6 _ rfl
      clear hc
      have kc := fun W hW => CellAt_spec W _ l (m : Int) l[m].Cell (rd_up h hW)
      clear h
      generalize cellAtP l (m : Int) l[m].Cell = x at kc HA
      go_wp2_with fail
      refine (kr _ hb).mono ?_
      clear kr
      rintro e w2 ⟨rfl, rfl⟩
      go_wp2_with fail
      refine (kc _ hb).mono ?_
      clear kc
      rintro e w3 ⟨rfl, hb3⟩
      have hz3 := hb3.size
      replace p0 := (hb3.cell (p := ⟨g, off + i * 7, none⟩) (Nat.lt_of_lt_of_le hg hb.size)).trans p0
      replace p1 := (hb3.cell (p := ⟨g, off + i * 7 + 1, none⟩) (Nat.lt_of_lt_of_le hg hb.size)).trans p1
      replace p2 := (hb3.cell (p := ⟨g, off + i * 7 + 2, none⟩) (Nat.lt_of_lt_of_le hg hb.size)).trans p2
      replace p3 := (hb3.cell (p := ⟨g, off + i * 7 + 3, none⟩) (Nat.lt_of_lt_of_le hg hb.size)).trans p3
      replace p4 := (hb3.cell (p := ⟨g, off + i * 7 + 4, none⟩) (Nat.lt_of_lt_of_le hg hb.size)).trans p4
      replace p5 := (hb3.cell (p := ⟨g, off + i * 7 + 5, none⟩) (Nat.lt_of_lt_of_le hg hb.size)).trans p5
      replace p6 := (hb3.cell (p := ⟨g, off + i * 7 + 6, none⟩) (Nat.lt_of_lt_of_le hg hb.size)).trans p6
      replace r0 := (hb3.cell (p := ⟨g, off + m * 7, none⟩) (Nat.lt_of_lt_of_le hg hb.size)).trans r0
      replace r1 := (hb3.cell (p := ⟨g, off + m * 7 + 1, none⟩) (Nat.lt_of_lt_of_le hg hb.size)).trans r1
      replace r2 := (hb3.cell (p := ⟨g, off + m * 7 + 2, none⟩) (Nat.lt_of_lt_of_le hg hb.size)).trans r2
      replace r3 := (hb3.cell (p := ⟨g, off + m * 7 + 3, none⟩) (Nat.lt_of_lt_of_le hg hb.size)).trans r3
      replace r4 := (hb3.cell (p := ⟨g, off + m * 7 + 4, none⟩) (Nat.lt_of_lt_of_le hg hb.size)).trans r4
      replace r5 := (hb3.cell (p := ⟨g, off + m * 7 + 5, none⟩) (Nat.lt_of_lt_of_le hg hb.size)).trans r5
      replace r6 := (hb3.cell (p := ⟨g, off + m * 7 + 6, none⟩) (Nat.lt_of_lt_of_le hg hb.size)).trans r6
      have hb03 := hb.trans (hb3.mono hb.size)
      have hbE : Below w.heap.size w (w3.alloc (.cells #[.int .i64 x.Kind, .int .i64 x.Who, .int .i64 x.Serial, .int .i64 x.Cell, .int .i64 x.Handle, .int .i64 x.Val, .int .i64 x.Code] 25)) := hb03.alloc hb03.size _
      have hgz : g < w3.heap.size := by have := hb03.size; omega
      clear hb3
      generalize l[i] = ei at *
      generalize l[m] = er at *
      by_cases qC0 : ei.Code = 0
      · have fC0 : (ei.Code == 0) = true := by simpa using qC0
        have nC0 : (ei.Code != 0) = false := by simpa using qC0
        by_cases qX0 : x.Handle = 0
        · have fX0 : (x.Handle == 0) = true := by simpa using qX0
          have nX0 : (x.Handle != 0) = false := by simpa using qX0
          have HB := Hid.mk_ (show badB ei er x = true by first | (simp [badB, qC0, qX0]; done) | (simp [badB, qC0, qX0]; rw [← qXR]; exact qX0))
          clear qC0 qX0
          go_wp2
          all_goals (try (go_quiet (fail)))
          all_goals (try go_wp2)
          all_goals go_ret
          all_goals exact ⟨ret_bool (truth_bad hlt (HA.out.trans HB.out)).symm, by first | exact hbE | exact below_drewN hbE _ | exact hbE.drew⟩
        · have fX0 : (x.Handle == 0) = false := by simpa using qX0
          have nX0 : (x.Handle != 0) = true := by simpa using qX0
          by_cases qXR : x.Handle = er.Handle
          · have fXR : (x.Handle == er.Handle) = true := by simpa using qXR
            have nXR : (x.Handle != er.Handle) = false := by simpa using qXR
            by_cases qXV : x.Val = ei.Val
            · have fXV : (x.Val == ei.Val) = true := by simpa using qXV
              have nXV : (x.Val != ei.Val) = false := by simpa using qXV
              have HB := Hid.mk_ (show badB ei er x = false by first | (simp [badB, qC0, qX0, qXR, qXV]; done) | (simp [badB, qC0, qX0, qXR, qXV]; rw [← qXR]; exact qX0))
              clear qC0 qX0 qXR qXV
              go_wp2
              all_goals (try (go_quiet (fail)))
              all_goals (try go_wp2)
              all_goals go_roundw
              case rel => exact ⟨i + 1, by omega, by go_num, Hid.mk_ (truth_step HT.out (HA.out.trans HB.out)), by first | exact hbE | exact below_drewN hbE _ | exact hbE.drew⟩
              case measure => simp [intOf]; omega
            · have fXV : (x.Val == ei.Val) = false := by simpa using qXV
              have nXV : (x.Val != ei.Val) = true := by simpa using qXV
              have HB := Hid.mk_ (show badB ei er x = true by first | (simp [badB, qC0, qX0, qXR, qXV]; done) | (simp [badB, qC0, qX0, qXR, qXV]; rw [← qXR]; exact qX0))
              clear qC0 qX0 qXR qXV
              go_wp2
              all_goals (try (go_quiet (fail)))
              all_goals (try go_wp2)
              all_goals go_ret
              all_goals exact ⟨ret_bool (truth_bad hlt (HA.out.trans HB.out)).symm, by first | exact hbE | exact below_drewN hbE _ | exact hbE.drew⟩
          · have fXR : (x.Handle == er.Handle) = false := by simpa using qXR
            have nXR : (x.Handle != er.Handle) = true := by simpa using qXR
            have HB := Hid.mk_ (show badB ei er x = true by first | (simp [badB, qC0, qX0, qXR]; done) | (simp [badB, qC0, qX0, qXR]; rw [← qXR]; exact qX0))
            clear qC0 qX0 qXR
            go_wp2
            all_goals (try (go_quiet (fail)))
            all_goals (try go_wp2)
            all_goals go_ret
            all_goals exact ⟨ret_bool (truth_bad hlt (HA.out.trans HB.out)).symm, by first | exact hbE | exact below_drewN hbE _ | exact hbE.drew⟩
      · have fC0 : (ei.Code == 0) = false := by simpa using qC0
        have nC0 : (ei.Code != 0) = true := by simpa using qC0
        by_cases qC8 : ei.Code = 8
        · have fC8 : (ei.Code == 8) = true := by simpa using qC8
          have nC8 : (ei.Code != 8) = false := by simpa using qC8
          by_cases qX0 : x.Handle = 0
          · have fX0 : (x.Handle == 0) = true := by simpa using qX0
            have nX0 : (x.Handle != 0) = false := by simpa using qX0
            by_cases qR0 : er.Handle = 0
            · have fR0 : (er.Handle == 0) = true := by simpa using qR0
              have nR0 : (er.Handle != 0) = false := by simpa using qR0
              have HB := Hid.mk_ (show badB ei er x = false by first | (simp [badB, qC0, qC8, qX0, qR0]; done) | (simp [badB, qC0, qC8, qX0, qR0]; rw [← qXR]; exact qX0))
              clear qC0 qC8 qX0 qR0
              go_wp2
              all_goals (try (go_quiet (fail)))
              all_goals (try go_wp2)
              all_goals go_roundw
              case rel => exact ⟨i + 1, by omega, by go_num, Hid.mk_ (truth_step HT.out (HA.out.trans HB.out)), by first | exact hbE | exact below_drewN hbE _ | exact hbE.drew⟩
              case measure => simp [intOf]; omega
            · have fR0 : (er.Handle == 0) = false := by simpa using qR0
              have nR0 : (er.Handle != 0) = true := by simpa using qR0
              have HB := Hid.mk_ (show badB ei er x = true by first | (simp [badB, qC0, qC8, qX0, qR0]; done) | (simp [badB, qC0, qC8, qX0, qR0]; rw [← qXR]; exact qX0))
              clear qC0 qC8 qX0 qR0
              go_wp2
              all_goals (try (go_quiet (fail)))
              all_goals (try go_wp2)
              all_goals go_ret
              all_goals exact ⟨ret_bool (truth_bad hlt (HA.out.trans HB.out)).symm, by first | exact hbE | exact below_drewN hbE _ | exact hbE.drew⟩
          · have fX0 : (x.Handle == 0) = false := by simpa using qX0
            have nX0 : (x.Handle != 0) = true := by simpa using qX0
            have HB := Hid.mk_ (show badB ei er x = true by first | (simp [badB, qC0, qC8, qX0]; done) | (simp [badB, qC0, qC8, qX0]; rw [← qXR]; exact qX0))
            clear qC0 qC8 qX0
            go_wp2
            all_goals (try (go_quiet (fail)))
            all_goals (try go_wp2)
            all_goals go_ret
            all_goals exact ⟨ret_bool (truth_bad hlt (HA.out.trans HB.out)).symm, by first | exact hbE | exact below_drewN hbE _ | exact hbE.drew⟩
        · have fC8 : (ei.Code == 8) = false := by simpa using qC8
          have nC8 : (ei.Code != 8) = true := by simpa using qC8
          have HB := Hid.mk_ (show badB ei er x = false by first | (simp [badB, qC0, qC8]; done) | (simp [badB, qC0, qC8]; rw [← qXR]; exact qX0))
          clear qC0 qC8
          go_wp2
          all_goals (try (go_quiet (fail)))
          all_goals (try go_wp2)
          all_goals go_roundw
          case rel => exact ⟨i + 1, by omega, by go_num, Hid.mk_ (truth_step HT.out (HA.out.trans HB.out)), by first | exact hbE | exact below_drewN hbE _ | exact hbE.drew⟩
          case measure => simp [intOf]; omega
    · go_wp2
      go_ret
      obtain rfl : i = l.length := by omega
      exact ⟨ret_bool (truth_end HT.out).symm, hb⟩
end Go.Proofs.Ytdepckmjgpkjmaa
