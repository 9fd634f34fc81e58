/-
  Among: the contracts.
-/
import Derived.Test.YtcnnjcbcbpfcgaaT
import Derived.Test.YtcnnjcbcbpfcgaaL
import Derived.Deep.QuietTactic
import Derived.BigQuiet
import Derived.Deep.LoopGhost
import Derived.Deep.RegionHeld3
import Derived.Test.YtcnnjcbcbpfcgaaN
namespace Go.Proofs.Ytcnnjcbcbpfcgaa
open Go.RowKit

def amongN (l : List Ev) (kind : Int) : Nat := l.countP fun e => e.Kind == kind
theorem amongN_step (l : List Ev) (kind : Int) (i : Nat) (hi : i < l.length) : amongN (l.take (i + 1)) kind = amongN (l.take i) kind + if (l[i].Kind == kind) = true then 1 else 0 := by
  unfold amongN
  rw [List.take_succ_eq_append_getElem hi, List.countP_append]
  simp [List.countP_cons]
theorem amongN_le (l : List Ev) (kind : Int) (i : Nat) : amongN (l.take i) kind ≤ i := Nat.le_trans List.countP_le_length (by simp; omega)

set_option maxRecDepth 100000 in
set_option maxHeartbeats 1000000 in
theorem Among_impl (w : World) (v : Value) (l : List Ev) (kind : Int) (h : RdL FEv w w.heap.size v l) (hs : l.length ≤ 1073741824) :
    Calls Try.prog 48 #[v, .int .i64 kind] w fun e w' => e = .returned (.int .i64 (amongN l kind : Nat)) ∧ Below w.heap.size w w' := by
  obtain ⟨A, c, hv, _, _, _⟩ := id h
  subst hv
  go_enter Try.func48, Try.ntmps48
  go_wp2
  go_loopw [5, 7, 10] (fun q _ i wr => ∃ k : Nat, k ≤ l.length ∧ i = .int .i64 k ∧ q = .int .i64 (amongN (l.take k) kind : Nat) ∧ Below w.heap.size w wr) (fun _ _ i _ => l.length - (intOf i).toNat)
  case atStart => exact ⟨0, Nat.zero_le _, rfl, rfl, Below.refl _ _⟩
  case round =>
    obtain ⟨i, hi, rfl, rfl, hb⟩ := hrel
    by_cases hlt : i < l.length
    · obtain ⟨g, off, cap', he, hg, _, _, hc⟩ := (h.below hb).at_ (List.getElem?_eq_getElem hlt)
      injection he with he1 he2 he3
      clear he2
      subst he1 he3
      have p0 : wr.cell? ⟨g, off + i * 7, none⟩ = some (.int .i64 l[i].Kind) := hc 0 _ rfl
      have p1 : wr.cell? ⟨g, off + i * 7 + 1, none⟩ = some (.int .i64 l[i].Who) := hc 1 _ rfl
      have p2 : wr.cell? ⟨g, off + i * 7 + 2, none⟩ = some (.int .i64 l[i].Serial) := hc 2 _ rfl
      have p3 : wr.cell? ⟨g, off + i * 7 + 3, none⟩ = some (.int .i64 l[i].Cell) := hc 3 _ rfl
      have p4 : wr.cell? ⟨g, off + i * 7 + 4, none⟩ = some (.int .i64 l[i].Handle) := hc 4 _ rfl
      have p5 : wr.cell? ⟨g, off + i * 7 + 5, none⟩ = some (.int .i64 l[i].Val) := hc 5 _ rfl
      have p6 : wr.cell? ⟨g, off + i * 7 + 6, none⟩ = some (.int .i64 l[i].Code) := hc 6 _ rfl
      have HS := Hid.mk_ (amongN_step l kind i hlt)
      have hle := amongN_le l kind i
      clear hc h
      by_cases hk : (l[i].Kind == kind) = true
      · have HS2 : Hid (amongN (l.take (i + 1)) kind = amongN (l.take i) kind + 1) := by rw [HS.out, if_pos hk]; exact rfl
        go_wp2
        go_roundw
        case rel => exact ⟨i + 1, by omega, by go_num, by rw [HS2.out]; go_num, by first | exact hb | exact hb.alloc hb.size _⟩
        case measure => simp [intOf]; omega
      · have HS2 : Hid (amongN (l.take (i + 1)) kind = amongN (l.take i) kind) := by rw [HS.out, if_neg hk]; exact rfl
        have hk' : (l[i].Kind == kind) = false := by simpa using hk
        clear hk
        go_wp2
        go_roundw
        case rel => exact ⟨i + 1, by omega, by go_num, by rw [HS2.out], by first | exact hb | exact hb.alloc hb.size _⟩
        case measure => simp [intOf]; omega
    · go_wp2
      go_ret
      obtain rfl : i = l.length := by omega
      exact ⟨ret_i64 (by rw [List.take_length]), hb⟩

set_option maxRecDepth 100000 in
set_option maxHeartbeats 1000000 in
theorem Among_spec (w : World) (v : Value) (l : List Ev) (kind : Int) (h : RdL FEv w w.heap.size v l) (hs : l.length ≤ 1073741824) :
    Calls Try.prog 46 #[v, .int .i64 kind] w fun e w' => e = .returned (.int .i64 (amongN l kind : Nat)) ∧ Below w.heap.size w w' := by
  obtain ⟨A, c, hv, _, _, _⟩ := id h
  subst hv
  go_enter Try.func46, Try.ntmps46
  go_wp2
  go_loopw [5, 6] (fun q i wr => ∃ k : Nat, k ≤ l.length ∧ i = .int .i64 k ∧ q = .int .i64 (amongN (l.take k) kind : Nat) ∧ Below w.heap.size w wr) (fun _ i _ => l.length - (intOf i).toNat)
  case atStart => exact ⟨0, Nat.zero_le _, rfl, rfl, Below.refl _ _⟩
  case round =>
    obtain ⟨i, hi, rfl, rfl, hb⟩ := hrel
    by_cases hlt : i < l.length
    · obtain ⟨g, off, cap', he, hg, _, _, hc⟩ := (h.below hb).at_ (List.getElem?_eq_getElem hlt)
      injection he with he1 he2 he3
      clear he2
      subst he1 he3
      have p0 : wr.cell? ⟨g, off + i * 7, none⟩ = some (.int .i64 l[i].Kind) := hc 0 _ rfl
      have p1 : wr.cell? ⟨g, off + i * 7 + 1, none⟩ = some (.int .i64 l[i].Who) := hc 1 _ rfl
      have p2 : wr.cell? ⟨g, off + i * 7 + 2, none⟩ = some (.int .i64 l[i].Serial) := hc 2 _ rfl
      have p3 : wr.cell? ⟨g, off + i * 7 + 3, none⟩ = some (.int .i64 l[i].Cell) := hc 3 _ rfl
      have p4 : wr.cell? ⟨g, off + i * 7 + 4, none⟩ = some (.int .i64 l[i].Handle) := hc 4 _ rfl
      have p5 : wr.cell? ⟨g, off + i * 7 + 5, none⟩ = some (.int .i64 l[i].Val) := hc 5 _ rfl
      have p6 : wr.cell? ⟨g, off + i * 7 + 6, none⟩ = some (.int .i64 l[i].Code) := hc 6 _ rfl
      have HS := Hid.mk_ (amongN_step l kind i hlt)
      have hle := amongN_le l kind i
      clear hc h
      by_cases hk : (l[i].Kind == kind) = true
      · have HS2 : Hid (amongN (l.take (i + 1)) kind = amongN (l.take i) kind + 1) := by rw [HS.out, if_pos hk]; exact rfl
        go_wp2
        go_roundw
        case rel => exact ⟨i + 1, by omega, by go_num, by rw [HS2.out]; go_num, by first | exact hb | exact hb.alloc hb.size _⟩
        case measure => simp [intOf]; omega
      · have HS2 : Hid (amongN (l.take (i + 1)) kind = amongN (l.take i) kind) := by rw [HS.out, if_neg hk]; exact rfl
        have hk' : (l[i].Kind == kind) = false := by simpa using hk
        clear hk
        go_wp2
        go_roundw
        case rel => exact ⟨i + 1, by omega, by go_num, by rw [HS2.out], by first | exact hb | exact hb.alloc hb.size _⟩
        case measure => simp [intOf]; omega
    · go_wp2
      go_ret
      obtain rfl : i = l.length := by omega
      exact ⟨ret_i64 (by rw [List.take_length]), hb⟩

set_option maxHeartbeats 2000000 in
theorem toEv_ct (a0 a1 a2 a3 a4 a5 a6 : Int) (w : World) : Calls Try.prog 66 #[.agg #[.int .i64 a0, .int .i64 a1, .int .i64 a2, .int .i64 a3, .int .i64 a4, .int .i64 a5, .int .i64 a6]] w fun e w' => e = .returned (.agg #[.int .i64 a0, .int .i64 a1, .int .i64 a2, .int .i64 a3, .int .i64 a4, .int .i64 a5, .int .i64 a6]) ∧ Below w.heap.size w w' := by
  go_enter Try.func66, Try.ntmps66
  go_wp2
  refine bodyPost_ret (v := .agg #[.int .i64 a0, .int .i64 a1, .int .i64 a2, .int .i64 a3, .int .i64 a4, .int .i64 a5, .int .i64 a6]) (by simp [results, Try.results66, go_sem]) rfl ⟨rfl, ?_⟩
  repeat (first | exact Below.refl _ _ | refine Below.alloc ?_ (by simp <;> omega) _ | refine below_grow_of ?_ (by simp <;> omega) _ _ | refine Below.drew ?_)

set_option maxHeartbeats 2000000 in
theorem eqEv_ct (a0 a1 a2 a3 a4 a5 a6 : Int) (w : World) : Calls Try.prog 67 #[.agg #[.int .i64 a0, .int .i64 a1, .int .i64 a2, .int .i64 a3, .int .i64 a4, .int .i64 a5, .int .i64 a6], .agg #[.int .i64 a0, .int .i64 a1, .int .i64 a2, .int .i64 a3, .int .i64 a4, .int .i64 a5, .int .i64 a6]] w fun e w' => e = .returned (.bool true) ∧ Below w.heap.size w w' := by
  go_enter Try.func67, Try.ntmps67
  go_wp2
  go_ret
  exact ⟨rfl, by repeat (first | exact Below.refl _ _ | refine Below.alloc ?_ (by simp <;> omega) _ | refine below_grow_of ?_ (by simp <;> omega) _ _ | refine Below.drew ?_)⟩

theorem Try.infoEv : (Try.prog.info? 79).map (fun i => (i.zero, i.size, i.bytes)) = some (some (.agg #[.int .i64 0, .int .i64 0, .int .i64 0, .int .i64 0, .int .i64 0, .int .i64 0, .int .i64 0]), FEv.n, 56) := by kernel_rfl
set_option maxHeartbeats 1000000 in
theorem toEvS_ct (w : World) (v : Value) (l : List Ev) (h : RdL FEv w w.heap.size v l) (hs : l.length ≤ 1048576) :
    Calls Try.prog 47 #[v] w fun e w' => e = .returned (.slice (some ⟨w.heap.size, 0, none⟩) l.length l.length) ∧ OwL FEv 79 w' (.slice (some ⟨w.heap.size, 0, none⟩) l.length l.length) l ∧ Below w.heap.size w w' := by
  have hmk := run_make_flat (P := Try.prog) FEv 57 79 (.agg #[.int .i64 0, .int .i64 0, .int .i64 0, .int .i64 0, .int .i64 0, .int .i64 0, .int .i64 0]) 56 Try.underlying57 Try.infoEv l.length (by omega) (by omega)
  obtain ⟨A, cap, hv, _⟩ := id h
  subst hv
  go_enter Try.func47, Try.ntmps47
  go_wp2
  clear hmk
  go_loopw [4] (fun i wr => ∃ k : Nat, k ≤ l.length ∧ i = .int .i64 k ∧ OwL FEv 79 wr (.slice (some ⟨w.heap.size, 0, none⟩) l.length l.length) (l.take k ++ List.replicate (l.length - k) ⟨0, 0, 0, 0, 0, 0, 0⟩) ∧ Below w.heap.size w wr) (fun i _ => l.length - (intOf i).toNat)
  case atStart => exact ⟨0, Nat.zero_le _, rfl, OwL.made FEv #[.int .i64 0, .int .i64 0, .int .i64 0, .int .i64 0, .int .i64 0, .int .i64 0, .int .i64 0] rfl l.length (by simp [maxLen]; omega) w 79, (Below.refl _ _).alloc (Nat.le_refl _) _⟩
  case round =>
    obtain ⟨i, hk, rfl, ho, hb⟩ := hrel
    by_cases hlt : i < l.length
    · obtain ⟨g, off, cap', he, hg, _, _, hc⟩ := (h.below hb).at_ (List.getElem?_eq_getElem hlt)
      injection he with he1 he2 he3
      subst he1 he3
      have p0 : wr.cell? ⟨g, off + i * 7, none⟩ = some (.int .i64 l[i].Kind) := hc 0 _ rfl
      have p1 : wr.cell? ⟨g, off + i * 7 + 1, none⟩ = some (.int .i64 l[i].Who) := hc 1 _ rfl
      have p2 : wr.cell? ⟨g, off + i * 7 + 2, none⟩ = some (.int .i64 l[i].Serial) := hc 2 _ rfl
      have p3 : wr.cell? ⟨g, off + i * 7 + 3, none⟩ = some (.int .i64 l[i].Cell) := hc 3 _ rfl
      have p4 : wr.cell? ⟨g, off + i * 7 + 4, none⟩ = some (.int .i64 l[i].Handle) := hc 4 _ rfl
      have p5 : wr.cell? ⟨g, off + i * 7 + 5, none⟩ = some (.int .i64 l[i].Val) := hc 5 _ rfl
      have p6 : wr.cell? ⟨g, off + i * 7 + 6, none⟩ = some (.int .i64 l[i].Code) := hc 6 _ rfl
      have hx := upd_get l ⟨0, 0, 0, 0, 0, 0, 0⟩ i hlt
      have hz : w.heap.size < wr.heap.size := (World.ownsRow.lt ho _ rfl).2
      have hf := ho.frozen_
      have c0 : wr.cell? ⟨w.heap.size, i * 7, none⟩ = some (.int .i64 0) := ho.cell_ (j := 0) hx (by decide)
      have c1 : wr.cell? ⟨w.heap.size, i * 7 + 1, none⟩ = some (.int .i64 0) := ho.cell_ (j := 1) hx (by decide)
      have c2 : wr.cell? ⟨w.heap.size, i * 7 + 2, none⟩ = some (.int .i64 0) := ho.cell_ (j := 2) hx (by decide)
      have c3 : wr.cell? ⟨w.heap.size, i * 7 + 3, none⟩ = some (.int .i64 0) := ho.cell_ (j := 3) hx (by decide)
      have c4 : wr.cell? ⟨w.heap.size, i * 7 + 4, none⟩ = some (.int .i64 0) := ho.cell_ (j := 4) hx (by decide)
      have c5 : wr.cell? ⟨w.heap.size, i * 7 + 5, none⟩ = some (.int .i64 0) := ho.cell_ (j := 5) hx (by decide)
      have c6 : wr.cell? ⟨w.heap.size, i * 7 + 6, none⟩ = some (.int .i64 0) := ho.cell_ (j := 6) hx (by decide)
      clear hc
      go_wp2_with (go_at_call 66; refine (toEv_ct _ _ _ _ _ _ _ _).mono ?_; rintro e w1 ⟨rfl, hb1⟩; obtain ⟨os1, d1, rfl⟩ := below_grows hb1; clear hb1)
      clear hf c0 p0 c1 p1 c2 p2 c3 p3 c4 p4 c5 p5 c6 p6
      go_roundw
      case rel =>
        have s0 := ho.set_ (j := 0) (y := (⟨l[i].Kind, 0, 0, 0, 0, 0, 0⟩ : Ev)) (u := .int .i64 l[i].Kind) hx (by decide) rfl
        have s1 := s0.set_ (j := 1) (y := (⟨l[i].Kind, l[i].Who, 0, 0, 0, 0, 0⟩ : Ev)) (u := .int .i64 l[i].Who) (set_get (⟨l[i].Kind, 0, 0, 0, 0, 0, 0⟩ : Ev) hx) (by decide) rfl
        have s2 := s1.set_ (j := 2) (y := (⟨l[i].Kind, l[i].Who, l[i].Serial, 0, 0, 0, 0⟩ : Ev)) (u := .int .i64 l[i].Serial) (set_get (⟨l[i].Kind, l[i].Who, 0, 0, 0, 0, 0⟩ : Ev) (set_get (⟨l[i].Kind, 0, 0, 0, 0, 0, 0⟩ : Ev) hx)) (by decide) rfl
        have s3 := s2.set_ (j := 3) (y := (⟨l[i].Kind, l[i].Who, l[i].Serial, l[i].Cell, 0, 0, 0⟩ : Ev)) (u := .int .i64 l[i].Cell) (set_get (⟨l[i].Kind, l[i].Who, l[i].Serial, 0, 0, 0, 0⟩ : Ev) (set_get (⟨l[i].Kind, l[i].Who, 0, 0, 0, 0, 0⟩ : Ev) (set_get (⟨l[i].Kind, 0, 0, 0, 0, 0, 0⟩ : Ev) hx))) (by decide) rfl
        have s4 := s3.set_ (j := 4) (y := (⟨l[i].Kind, l[i].Who, l[i].Serial, l[i].Cell, l[i].Handle, 0, 0⟩ : Ev)) (u := .int .i64 l[i].Handle) (set_get (⟨l[i].Kind, l[i].Who, l[i].Serial, l[i].Cell, 0, 0, 0⟩ : Ev) (set_get (⟨l[i].Kind, l[i].Who, l[i].Serial, 0, 0, 0, 0⟩ : Ev) (set_get (⟨l[i].Kind, l[i].Who, 0, 0, 0, 0, 0⟩ : Ev) (set_get (⟨l[i].Kind, 0, 0, 0, 0, 0, 0⟩ : Ev) hx)))) (by decide) rfl
        have s5 := s4.set_ (j := 5) (y := (⟨l[i].Kind, l[i].Who, l[i].Serial, l[i].Cell, l[i].Handle, l[i].Val, 0⟩ : Ev)) (u := .int .i64 l[i].Val) (set_get (⟨l[i].Kind, l[i].Who, l[i].Serial, l[i].Cell, l[i].Handle, 0, 0⟩ : Ev) (set_get (⟨l[i].Kind, l[i].Who, l[i].Serial, l[i].Cell, 0, 0, 0⟩ : Ev) (set_get (⟨l[i].Kind, l[i].Who, l[i].Serial, 0, 0, 0, 0⟩ : Ev) (set_get (⟨l[i].Kind, l[i].Who, 0, 0, 0, 0, 0⟩ : Ev) (set_get (⟨l[i].Kind, 0, 0, 0, 0, 0, 0⟩ : Ev) hx))))) (by decide) rfl
        have s6 := s5.set_ (j := 6) (y := (⟨l[i].Kind, l[i].Who, l[i].Serial, l[i].Cell, l[i].Handle, l[i].Val, l[i].Code⟩ : Ev)) (u := .int .i64 l[i].Code) (set_get (⟨l[i].Kind, l[i].Who, l[i].Serial, l[i].Cell, l[i].Handle, l[i].Val, 0⟩ : Ev) (set_get (⟨l[i].Kind, l[i].Who, l[i].Serial, l[i].Cell, l[i].Handle, 0, 0⟩ : Ev) (set_get (⟨l[i].Kind, l[i].Who, l[i].Serial, l[i].Cell, 0, 0, 0⟩ : Ev) (set_get (⟨l[i].Kind, l[i].Who, l[i].Serial, 0, 0, 0, 0⟩ : Ev) (set_get (⟨l[i].Kind, l[i].Who, 0, 0, 0, 0, 0⟩ : Ev) (set_get (⟨l[i].Kind, 0, 0, 0, 0, 0, 0⟩ : Ev) hx)))))) (by decide) rfl
        simp only [List.set_set] at s6
        have e := upd_step l ⟨0, 0, 0, 0, 0, 0, 0⟩ i hlt
        refine ⟨i + 1, by omega, by go_num, ?_, ?_⟩
        · rw [← e]
          first | exact OwL.grow_ s6 _ _ | exact s6
        · first | exact below_grow_of (Below.setCell (Below.setCell (Below.setCell (Below.setCell (Below.setCell (Below.setCell (Below.setCell (hb) (by simp) _) (by simp) _) (by simp) _) (by simp) _) (by simp) _) (by simp) _) (by simp) _) (by simp; omega) _ _ | exact (Below.setCell (Below.setCell (Below.setCell (Below.setCell (Below.setCell (Below.setCell (Below.setCell (hb) (by simp) _) (by simp) _) (by simp) _) (by simp) _) (by simp) _) (by simp) _) (by simp) _)
      case measure => simp [intOf]; omega
    · go_wp2
      go_ret
      obtain rfl : i = l.length := by omega
      exact ⟨rfl, by simpa using ho, hb⟩

set_option maxHeartbeats 1000000 in
theorem eqEvS_ct (w : World) (v1 v2 : Value) (l : List Ev) (h1 : RdL FEv w w.heap.size v1 l) (h2 : RdL FEv w w.heap.size v2 l) (hs : l.length ≤ 1073741824) :
    Calls Try.prog 49 #[v1, v2] w fun e w' => e = .returned (.bool true) ∧ Below w.heap.size w w' := by
  obtain ⟨A1, c1, hv1, _⟩ := id h1
  obtain ⟨A2, c2, hv2, _⟩ := id h2
  subst hv1 hv2
  go_enter Try.func49, Try.ntmps49
  go_wp2
  go_loopw [5] (fun i wr => ∃ k : Nat, k ≤ l.length ∧ i = .int .i64 k ∧ Below w.heap.size w wr) (fun i _ => l.length - (intOf i).toNat)
  case atStart => exact ⟨0, Nat.zero_le _, rfl, Below.refl _ _⟩
  case round =>
    obtain ⟨i, hk, rfl, hb⟩ := hrel
    by_cases hlt : i < l.length
    · obtain ⟨g1, o1, cap1, e1, b1, _, _, q1⟩ := (h1.below hb).at_ (List.getElem?_eq_getElem hlt)
      obtain ⟨g2, o2, cap2, e2, b2, _, _, q2⟩ := (h2.below hb).at_ (List.getElem?_eq_getElem hlt)
      injection e1 with e11 _ e13
      injection e2 with e21 _ e23
      subst e11 e13 e21 e23
      have z1 : g1 < wr.heap.size := Nat.lt_of_lt_of_le b1 hb.size
      have z0 : w.heap.size ≤ wr.heap.size := hb.size
      have z2 : g2 < wr.heap.size := Nat.lt_of_lt_of_le b2 hb.size
      have p0 : wr.cell? ⟨g1, o1 + i * 7, none⟩ = some (.int .i64 l[i].Kind) := q1 0 _ rfl
      have p1 : wr.cell? ⟨g1, o1 + i * 7 + 1, none⟩ = some (.int .i64 l[i].Who) := q1 1 _ rfl
      have p2 : wr.cell? ⟨g1, o1 + i * 7 + 2, none⟩ = some (.int .i64 l[i].Serial) := q1 2 _ rfl
      have p3 : wr.cell? ⟨g1, o1 + i * 7 + 3, none⟩ = some (.int .i64 l[i].Cell) := q1 3 _ rfl
      have p4 : wr.cell? ⟨g1, o1 + i * 7 + 4, none⟩ = some (.int .i64 l[i].Handle) := q1 4 _ rfl
      have p5 : wr.cell? ⟨g1, o1 + i * 7 + 5, none⟩ = some (.int .i64 l[i].Val) := q1 5 _ rfl
      have p6 : wr.cell? ⟨g1, o1 + i * 7 + 6, none⟩ = some (.int .i64 l[i].Code) := q1 6 _ rfl
      have r0 : wr.cell? ⟨g2, o2 + i * 7, none⟩ = some (.int .i64 l[i].Kind) := q2 0 _ rfl
      have r1 : wr.cell? ⟨g2, o2 + i * 7 + 1, none⟩ = some (.int .i64 l[i].Who) := q2 1 _ rfl
      have r2 : wr.cell? ⟨g2, o2 + i * 7 + 2, none⟩ = some (.int .i64 l[i].Serial) := q2 2 _ rfl
      have r3 : wr.cell? ⟨g2, o2 + i * 7 + 3, none⟩ = some (.int .i64 l[i].Cell) := q2 3 _ rfl
      have r4 : wr.cell? ⟨g2, o2 + i * 7 + 4, none⟩ = some (.int .i64 l[i].Handle) := q2 4 _ rfl
      have r5 : wr.cell? ⟨g2, o2 + i * 7 + 5, none⟩ = some (.int .i64 l[i].Val) := q2 5 _ rfl
      have r6 : wr.cell? ⟨g2, o2 + i * 7 + 6, none⟩ = some (.int .i64 l[i].Code) := q2 6 _ rfl
      clear q1 q2
      go_wp2
      go_region_held3 (fun w' => w'.cell? ⟨g1, o1 + i * 7, none⟩ = some (.int .i64 l[i].Kind) ∧ w'.cell? ⟨g1, o1 + i * 7 + 1, none⟩ = some (.int .i64 l[i].Who) ∧ w'.cell? ⟨g1, o1 + i * 7 + 2, none⟩ = some (.int .i64 l[i].Serial) ∧ w'.cell? ⟨g1, o1 + i * 7 + 3, none⟩ = some (.int .i64 l[i].Cell) ∧ w'.cell? ⟨g1, o1 + i * 7 + 4, none⟩ = some (.int .i64 l[i].Handle) ∧ w'.cell? ⟨g1, o1 + i * 7 + 5, none⟩ = some (.int .i64 l[i].Val) ∧ w'.cell? ⟨g1, o1 + i * 7 + 6, none⟩ = some (.int .i64 l[i].Code) ∧ w'.cell? ⟨g2, o2 + i * 7, none⟩ = some (.int .i64 l[i].Kind) ∧ w'.cell? ⟨g2, o2 + i * 7 + 1, none⟩ = some (.int .i64 l[i].Who) ∧ w'.cell? ⟨g2, o2 + i * 7 + 2, none⟩ = some (.int .i64 l[i].Serial) ∧ w'.cell? ⟨g2, o2 + i * 7 + 3, none⟩ = some (.int .i64 l[i].Cell) ∧ w'.cell? ⟨g2, o2 + i * 7 + 4, none⟩ = some (.int .i64 l[i].Handle) ∧ w'.cell? ⟨g2, o2 + i * 7 + 5, none⟩ = some (.int .i64 l[i].Val) ∧ w'.cell? ⟨g2, o2 + i * 7 + 6, none⟩ = some (.int .i64 l[i].Code) ∧ g1 < w'.heap.size ∧ g2 < w'.heap.size ∧ Below w.heap.size w w') (first | (go_keep; done) | ((try go_split_ands); refine ⟨?_, ?_, ?_, ?_, ?_, ?_, ?_, ?_, ?_, ?_, ?_, ?_, ?_, ?_, ?_, ?_, ?_⟩; all_goals first | assumption | exact Below.drew (by assumption) | (simp [go_sem, *]; done) | exact below_grow_of (by assumption) (by omega) _ _ | (rw [size_grow]; omega))) ((go_at_call 67; refine (eqEv_ct _ _ _ _ _ _ _ _).mono ?_; rintro e w1 ⟨rfl, hb1⟩; obtain ⟨os1, d1, rfl⟩ := below_grows hb1; clear hb1))
      go_wp2
      go_roundw
      case rel => exact ⟨i + 1, by omega, by go_num, by first | assumption | (try go_split_ands; assumption)⟩
      case measure => simp [intOf]; omega
    · go_wp2
      go_ret
      exact ⟨rfl, hb⟩

set_option maxHeartbeats 400000 in
theorem szEvS_ct (w : World) (A : Option Addr) (n c : Nat) (k : Nat) (hn : n ≤ 9223372036854775807) (hk : k ≤ 1073741824) :
    Calls Try.prog 45 #[.slice A n c, .int .i64 k] w fun e w' => e = .returned (.int .i64 (leftOf k n)) ∧ Below w.heap.size w w' := by
  by_cases h : n ≤ k
  · go_enter Try.func45, Try.ntmps45
    go_wp2
    go_ret
    exact ⟨ret_i64 (leftOf_pos h).symm, by repeat (first | exact Below.refl _ _ | refine Below.alloc ?_ (by simp <;> omega) _ | refine below_grow_of ?_ (by simp <;> omega) _ _ | refine Below.drew ?_)⟩
  · go_enter Try.func45, Try.ntmps45
    go_wp2
    go_ret
    exact ⟨ret_i64 (leftOf_neg h).symm, by repeat (first | exact Below.refl _ _ | refine Below.alloc ?_ (by simp <;> omega) _ | refine below_grow_of ?_ (by simp <;> omega) _ _ | refine Below.drew ?_)⟩
end Go.Proofs.Ytcnnjcbcbpfcgaa
