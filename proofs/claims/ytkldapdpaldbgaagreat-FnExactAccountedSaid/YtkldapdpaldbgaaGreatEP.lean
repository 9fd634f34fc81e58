/-
  Pins and clocks: compared, made, measured, marked.
-/
import Derived.Test.YtkldapdpaldbgaaGreatT
import Derived.Test.YtkldapdpaldbgaaGreatL
import Derived.Deep.QuietTactic
import Derived.BigQuiet
import Derived.Deep.LoopGhost
import Derived.Deep.RegionHeld3
import Derived.Test.YtkldapdpaldbgaaGreatN
import Derived.Test.YtkldapdpaldbgaaGreatA
import Derived.WalkSpells
import Derived.Laws.Cover3
import Derived.Test.YtkldapdpaldbgaaGreatEL
import Derived.Test.YtkldapdpaldbgaaGreatVC
namespace Go.Proofs.YtkldapdpaldbgaaGreat
open Go.RowKit

set_option maxHeartbeats 2000000 in
theorem toPin_ct (a1 a3 : Int) (a0 a2 : Bool) (w : World) : Calls Tryz.prog 236 #[.agg #[.bool a0, .int .i64 a1, .bool a2, .int .i64 a3]] w fun e w' => e = .returned (.agg #[.bool a0, .int .i64 a1, .bool a2, .int .i64 a3]) ∧ Below w.heap.size w w' := by
  go_enter Tryz.func236, Tryz.ntmps236
  go_wp2
  refine bodyPost_ret (v := .agg #[.bool a0, .int .i64 a1, .bool a2, .int .i64 a3]) (by simp [results, Tryz.results236, go_sem]) rfl ⟨rfl, ?_⟩
  repeat (first | exact Below.refl _ _ | refine Below.alloc ?_ (by simp <;> omega) _ | refine below_grow_of ?_ (by simp <;> omega) _ _ | refine Below.drew ?_ | refine below_drewN ?_ _)

set_option maxHeartbeats 2000000 in
theorem eqPin_ct (a1 a3 : Int) (a0 a2 : Bool) (w : World) : Calls Tryz.prog 243 #[.agg #[.bool a0, .int .i64 a1, .bool a2, .int .i64 a3], .agg #[.bool a0, .int .i64 a1, .bool a2, .int .i64 a3]] w fun e w' => e = .returned (.bool true) ∧ Below w.heap.size w w' := by
  go_enter Tryz.func243, Tryz.ntmps243
  go_wp2
  go_ret
  exact ⟨rfl, by repeat (first | exact Below.refl _ _ | refine Below.alloc ?_ (by simp <;> omega) _ | refine below_grow_of ?_ (by simp <;> omega) _ _ | refine Below.drew ?_ | refine below_drewN ?_ _)⟩

theorem Tryz.infoPin : (Tryz.prog.info? 165).map (fun i => (i.zero, i.size, i.bytes)) = some (some (.agg #[.bool false, .int .i64 0, .bool false, .int .i64 0]), FPin.n, 32) := by kernel_rfl
set_option maxHeartbeats 1000000 in
theorem toPinS_ct (w : World) (v : Value) (l : List Pin) (h : RdL FPin w w.heap.size v l) (hs : l.length ≤ 1048576) :
    Calls Tryz.prog 161 #[v] w fun e w' => e = .returned (.slice (some ⟨w.heap.size, 0, none⟩) l.length l.length) ∧ OwL FPin 165 w' (.slice (some ⟨w.heap.size, 0, none⟩) l.length l.length) l ∧ Below w.heap.size w w' := by
  have hmk := run_make_flat (P := Tryz.prog) FPin 32 165 (.agg #[.bool false, .int .i64 0, .bool false, .int .i64 0]) 32 Tryz.underlying32 Tryz.infoPin l.length (by omega) (by omega)
  obtain ⟨A, cap, hv, _⟩ := id h
  subst hv
  go_enter Tryz.func161, Tryz.ntmps161
  go_wp2
  clear hmk
  go_loopw [4] (fun i wr => ∃ k : Nat, k ≤ l.length ∧ i = .int .i64 k ∧ OwL FPin 165 wr (.slice (some ⟨w.heap.size, 0, none⟩) l.length l.length) (l.take k ++ List.replicate (l.length - k) ⟨false, 0, false, 0⟩) ∧ Below w.heap.size w wr) (fun i _ => l.length - (intOf i).toNat)
  case atStart => exact ⟨0, Nat.zero_le _, rfl, OwL.made FPin #[.bool false, .int .i64 0, .bool false, .int .i64 0] rfl l.length (by simp [maxLen]; omega) w 165, (Below.refl _ _).alloc (Nat.le_refl _) _⟩
  case round =>
    obtain ⟨i, hk, rfl, ho, hb⟩ := hrel
    by_cases hlt : i < l.length
    · obtain ⟨g, off, cap', he, hg, _, _, hc⟩ := (h.below hb).at_ (List.getElem?_eq_getElem hlt)
      injection he with he1 he2 he3
      subst he1 he3
      have p0 : wr.cell? ⟨g, off + i * 4, none⟩ = some (.bool l[i].On) := hc 0 _ rfl
      have p1 : wr.cell? ⟨g, off + i * 4 + 1, none⟩ = some (.int .i64 l[i].Epoch) := hc 1 _ rfl
      have p2 : wr.cell? ⟨g, off + i * 4 + 2, none⟩ = some (.bool l[i].Marked) := hc 2 _ rfl
      have p3 : wr.cell? ⟨g, off + i * 4 + 3, none⟩ = some (.int .i64 l[i].Seen) := hc 3 _ rfl
      have hx := upd_get l ⟨false, 0, false, 0⟩ i hlt
      have hz : w.heap.size < wr.heap.size := (World.ownsRow.lt ho _ rfl).2
      have hf := ho.frozen_
      have c0 : wr.cell? ⟨w.heap.size, i * 4, none⟩ = some (.bool false) := ho.cell_ (j := 0) hx (by decide)
      have c1 : wr.cell? ⟨w.heap.size, i * 4 + 1, none⟩ = some (.int .i64 0) := ho.cell_ (j := 1) hx (by decide)
      have c2 : wr.cell? ⟨w.heap.size, i * 4 + 2, none⟩ = some (.bool false) := ho.cell_ (j := 2) hx (by decide)
      have c3 : wr.cell? ⟨w.heap.size, i * 4 + 3, none⟩ = some (.int .i64 0) := ho.cell_ (j := 3) hx (by decide)
      clear hc
      go_wp2_with (go_at_call 236; refine (toPin_ct _ _ _ _ _).mono ?_; rintro e w1 ⟨rfl, hb1⟩; obtain ⟨os1, d1, rfl⟩ := below_grows hb1; clear hb1)
      clear hf c0 p0 c1 p1 c2 p2 c3 p3
      go_roundw
      case rel =>
        have s0 := ho.set_ (j := 0) (y := (⟨l[i].On, 0, false, 0⟩ : Pin)) (u := .bool l[i].On) hx (by decide) rfl
        have s1 := s0.set_ (j := 1) (y := (⟨l[i].On, l[i].Epoch, false, 0⟩ : Pin)) (u := .int .i64 l[i].Epoch) (set_get (⟨l[i].On, 0, false, 0⟩ : Pin) hx) (by decide) rfl
        have s2 := s1.set_ (j := 2) (y := (⟨l[i].On, l[i].Epoch, l[i].Marked, 0⟩ : Pin)) (u := .bool l[i].Marked) (set_get (⟨l[i].On, l[i].Epoch, false, 0⟩ : Pin) (set_get (⟨l[i].On, 0, false, 0⟩ : Pin) hx)) (by decide) rfl
        have s3 := s2.set_ (j := 3) (y := (⟨l[i].On, l[i].Epoch, l[i].Marked, l[i].Seen⟩ : Pin)) (u := .int .i64 l[i].Seen) (set_get (⟨l[i].On, l[i].Epoch, l[i].Marked, 0⟩ : Pin) (set_get (⟨l[i].On, l[i].Epoch, false, 0⟩ : Pin) (set_get (⟨l[i].On, 0, false, 0⟩ : Pin) hx))) (by decide) rfl
        simp only [List.set_set] at s3
        have e := upd_step l ⟨false, 0, false, 0⟩ i hlt
        refine ⟨i + 1, by omega, by go_num, ?_, ?_⟩
        · rw [← e]
          first | exact OwL.grow_ s3 _ _ | exact s3
        · first | exact below_grow_of (Below.setCell (Below.setCell (Below.setCell (Below.setCell (hb) (by simp) _) (by simp) _) (by simp) _) (by simp) _) (by simp; omega) _ _ | exact (Below.setCell (Below.setCell (Below.setCell (Below.setCell (hb) (by simp) _) (by simp) _) (by simp) _) (by simp) _)
      case measure => simp [intOf]; omega
    · go_wp2
      go_ret
      obtain rfl : i = l.length := by omega
      exact ⟨rfl, by simpa using ho, hb⟩

set_option maxHeartbeats 1000000 in
theorem eqPinS_ct (w : World) (v1 v2 : Value) (l : List Pin) (h1 : RdL FPin w w.heap.size v1 l) (h2 : RdL FPin w w.heap.size v2 l) (hs : l.length ≤ 1073741824) :
    Calls Tryz.prog 174 #[v1, v2] w fun e w' => e = .returned (.bool true) ∧ Below w.heap.size w w' := by
  obtain ⟨A1, c1, hv1, _⟩ := id h1
  obtain ⟨A2, c2, hv2, _⟩ := id h2
  subst hv1 hv2
  go_enter Tryz.func174, Tryz.ntmps174
  go_wp2
  go_loopw [5] (fun i wr => ∃ k : Nat, k ≤ l.length ∧ i = .int .i64 k ∧ Below w.heap.size w wr) (fun i _ => l.length - (intOf i).toNat)
  case atStart => exact ⟨0, Nat.zero_le _, rfl, Below.refl _ _⟩
  case round =>
    obtain ⟨i, hk, rfl, hb⟩ := hrel
    by_cases hlt : i < l.length
    · obtain ⟨g1, o1, cap1, e1, b1, _, _, q1⟩ := (h1.below hb).at_ (List.getElem?_eq_getElem hlt)
      obtain ⟨g2, o2, cap2, e2, b2, _, _, q2⟩ := (h2.below hb).at_ (List.getElem?_eq_getElem hlt)
      injection e1 with e11 _ e13
      injection e2 with e21 _ e23
      subst e11 e13 e21 e23
      have z1 : g1 < wr.heap.size := Nat.lt_of_lt_of_le b1 hb.size
      have z0 : w.heap.size ≤ wr.heap.size := hb.size
      have z2 : g2 < wr.heap.size := Nat.lt_of_lt_of_le b2 hb.size
      have p0 : wr.cell? ⟨g1, o1 + i * 4, none⟩ = some (.bool l[i].On) := q1 0 _ rfl
      have p1 : wr.cell? ⟨g1, o1 + i * 4 + 1, none⟩ = some (.int .i64 l[i].Epoch) := q1 1 _ rfl
      have p2 : wr.cell? ⟨g1, o1 + i * 4 + 2, none⟩ = some (.bool l[i].Marked) := q1 2 _ rfl
      have p3 : wr.cell? ⟨g1, o1 + i * 4 + 3, none⟩ = some (.int .i64 l[i].Seen) := q1 3 _ rfl
      have r0 : wr.cell? ⟨g2, o2 + i * 4, none⟩ = some (.bool l[i].On) := q2 0 _ rfl
      have r1 : wr.cell? ⟨g2, o2 + i * 4 + 1, none⟩ = some (.int .i64 l[i].Epoch) := q2 1 _ rfl
      have r2 : wr.cell? ⟨g2, o2 + i * 4 + 2, none⟩ = some (.bool l[i].Marked) := q2 2 _ rfl
      have r3 : wr.cell? ⟨g2, o2 + i * 4 + 3, none⟩ = some (.int .i64 l[i].Seen) := q2 3 _ rfl
      clear q1 q2
      go_wp2
      go_region_held3 (fun w' => w'.cell? ⟨g1, o1 + i * 4, none⟩ = some (.bool l[i].On) ∧ w'.cell? ⟨g1, o1 + i * 4 + 1, none⟩ = some (.int .i64 l[i].Epoch) ∧ w'.cell? ⟨g1, o1 + i * 4 + 2, none⟩ = some (.bool l[i].Marked) ∧ w'.cell? ⟨g1, o1 + i * 4 + 3, none⟩ = some (.int .i64 l[i].Seen) ∧ w'.cell? ⟨g2, o2 + i * 4, none⟩ = some (.bool l[i].On) ∧ w'.cell? ⟨g2, o2 + i * 4 + 1, none⟩ = some (.int .i64 l[i].Epoch) ∧ w'.cell? ⟨g2, o2 + i * 4 + 2, none⟩ = some (.bool l[i].Marked) ∧ w'.cell? ⟨g2, o2 + i * 4 + 3, none⟩ = some (.int .i64 l[i].Seen) ∧ g1 < w'.heap.size ∧ g2 < w'.heap.size ∧ Below w.heap.size w w') (first | (go_keep; done) | ((try go_split_ands); refine ⟨?_, ?_, ?_, ?_, ?_, ?_, ?_, ?_, ?_, ?_, ?_⟩; all_goals first | assumption | exact Below.drew (by assumption) | (simp [go_sem, *]; done) | exact below_grow_of (by assumption) (by omega) _ _ | (rw [size_grow]; omega))) ((go_at_call 243; refine (eqPin_ct _ _ _ _ _).mono ?_; rintro e w1 ⟨rfl, hb1⟩; obtain ⟨os1, d1, rfl⟩ := below_grows hb1; clear hb1))
      go_wp2
      go_roundw
      case rel => exact ⟨i + 1, by omega, by go_num, by first | assumption | (try go_split_ands; assumption)⟩
      case measure => simp [intOf]; omega
    · go_wp2
      go_ret
      exact ⟨rfl, hb⟩

set_option maxHeartbeats 400000 in
theorem szPinS_ct (w : World) (A : Option Addr) (n c : Nat) (k : Nat) (hn : n ≤ 9223372036854775807) (hk : k ≤ 1073741824) :
    Calls Tryz.prog 157 #[.slice A n c, .int .i64 k] w fun e w' => e = .returned (.int .i64 (leftOf k n)) ∧ Below w.heap.size w w' := by
  by_cases h : n ≤ k
  · go_enter Tryz.func157, Tryz.ntmps157
    go_wp2
    go_ret
    exact ⟨ret_i64 (leftOf_pos h).symm, by repeat (first | exact Below.refl _ _ | refine Below.alloc ?_ (by simp <;> omega) _ | refine below_grow_of ?_ (by simp <;> omega) _ _ | refine Below.drew ?_ | refine below_drewN ?_ _)⟩
  · go_enter Tryz.func157, Tryz.ntmps157
    go_wp2
    go_ret
    exact ⟨ret_i64 (leftOf_neg h).symm, by repeat (first | exact Below.refl _ _ | refine Below.alloc ?_ (by simp <;> omega) _ | refine below_grow_of ?_ (by simp <;> omega) _ _ | refine Below.drew ?_ | refine below_drewN ?_ _)⟩

set_option maxHeartbeats 1000000 in
theorem markPinS_ct (w : World) (v : Value) (l : List Pin) (k : Int) (h : OwL FPin 165 w v l) (hk0 : 0 ≤ k) (hk1 : (k + (l.length : Int) * 4) ≤ 4611686018427387904) :
    Calls Tryz.prog 178 #[v, .int .i64 k] w fun e w' => e = .returned (.int .i64 (k + (l.length : Int) * 4)) ∧ OwL FPin 165 w' v (marks mkPin 4 l l.length k) ∧ w.grownBy w' v.ownBlock ∧ w'.heap.size = w.heap.size := by
  rcases h.form with ⟨rfl, rfl⟩ | ⟨g, cap, hv, hg, hl, hc⟩
  · go_enter Tryz.func178, Tryz.ntmps178
    go_wp2
    go_loop [1, 5] (fun q i => q = .int .i64 k ∧ i = .int .i64 0) (fun _ _ => 0)
    case atStart => exact ⟨rfl, rfl⟩
    case round =>
      obtain ⟨rfl, rfl⟩ := hrel
      go_wp2
      go_ret
      exact ⟨by simp, h, World.grownBy.refl _ _, rfl⟩
  subst hv
  go_enter Tryz.func178, Tryz.ntmps178
  go_wp2
  go_loopw [1, 5] (fun q i wr => ∃ i' : Nat, i' ≤ l.length ∧ i = .int .i64 i' ∧ q = .int .i64 (k + (i' : Int) * 4) ∧ OwL FPin 165 wr (.slice (some ⟨g, 0, none⟩) l.length cap) (marks mkPin 4 l i' k) ∧ w.grownBy wr (some g) ∧ wr.heap.size = w.heap.size) (fun _ i _ => l.length - (intOf i).toNat)
  case atStart => exact ⟨0, Nat.zero_le _, rfl, by simp, h, World.grownBy.refl _ _, rfl⟩
  case round =>
    obtain ⟨i, hi, rfl, rfl, ho, hgr, hsz⟩ := hrel
    by_cases hlt : i < l.length
    · have hx := marks_get mkPin 4 l i k hlt
      have hf := ho.frozen_
      have c0 : wr.cell? ⟨g, i * 4, none⟩ = some (.bool l[i].On) := ho.cell_ (j := 0) hx (by decide)
      have c1 : wr.cell? ⟨g, i * 4 + 1, none⟩ = some (.int .i64 l[i].Epoch) := ho.cell_ (j := 1) hx (by decide)
      have c2 : wr.cell? ⟨g, i * 4 + 2, none⟩ = some (.bool l[i].Marked) := ho.cell_ (j := 2) hx (by decide)
      have c3 : wr.cell? ⟨g, i * 4 + 3, none⟩ = some (.int .i64 l[i].Seen) := ho.cell_ (j := 3) hx (by decide)
      clear h
      go_wp2
      clear hf c0 c1 c2 c3
      go_roundw
      case rel =>
        have s0 := ho.set_ (j := 0) (y := (⟨((k + (i : Int) * 4) % 3 == 0), l[i].Epoch, l[i].Marked, l[i].Seen⟩ : Pin)) (u := .bool ((k + (i : Int) * 4) % 3 == 0)) hx (by decide) rfl
        have s1 := s0.set_ (j := 1) (y := (⟨((k + (i : Int) * 4) % 3 == 0), (k + (i : Int) * 4 + 1), l[i].Marked, l[i].Seen⟩ : Pin)) (u := .int .i64 (k + (i : Int) * 4 + 1)) (set_get (⟨((k + (i : Int) * 4) % 3 == 0), l[i].Epoch, l[i].Marked, l[i].Seen⟩ : Pin) hx) (by decide) rfl
        have s2 := s1.set_ (j := 2) (y := (⟨((k + (i : Int) * 4) % 3 == 0), (k + (i : Int) * 4 + 1), ((k + (i : Int) * 4 + 1 + 1) % 3 == 0), l[i].Seen⟩ : Pin)) (u := .bool ((k + (i : Int) * 4 + 1 + 1) % 3 == 0)) (set_get (⟨((k + (i : Int) * 4) % 3 == 0), (k + (i : Int) * 4 + 1), l[i].Marked, l[i].Seen⟩ : Pin) (set_get (⟨((k + (i : Int) * 4) % 3 == 0), l[i].Epoch, l[i].Marked, l[i].Seen⟩ : Pin) hx)) (by decide) rfl
        have s3 := s2.set_ (j := 3) (y := (⟨((k + (i : Int) * 4) % 3 == 0), (k + (i : Int) * 4 + 1), ((k + (i : Int) * 4 + 1 + 1) % 3 == 0), (k + (i : Int) * 4 + 1 + 1 + 1)⟩ : Pin)) (u := .int .i64 (k + (i : Int) * 4 + 1 + 1 + 1)) (set_get (⟨((k + (i : Int) * 4) % 3 == 0), (k + (i : Int) * 4 + 1), ((k + (i : Int) * 4 + 1 + 1) % 3 == 0), l[i].Seen⟩ : Pin) (set_get (⟨((k + (i : Int) * 4) % 3 == 0), (k + (i : Int) * 4 + 1), l[i].Marked, l[i].Seen⟩ : Pin) (set_get (⟨((k + (i : Int) * 4) % 3 == 0), l[i].Epoch, l[i].Marked, l[i].Seen⟩ : Pin) hx))) (by decide) rfl
        refine ⟨i + 1, by omega, by go_num, by go_num, ?_, grown_set (grown_set (grown_set (grown_set (hgr) _ _) _ _) _ _) _ _, by simp [hsz]⟩
        simp only [List.set_set] at s3
        have e := marks_step mkPin 4 l i k hlt
        rw [← e]
        exact s3
      case measure => simp [intOf]; omega
    · go_wp2
      go_ret
      obtain rfl : i = l.length := by omega
      exact ⟨rfl, ho, hgr, hsz⟩

theorem toPinS_w (w : World) (K : SV) (l : List Pin) (h : RdL FPin w w.heap.size K.val l) (hs : l.length ≤ 1048576) :
    Calls Tryz.prog 161 #[.slice K.a K.len K.cap] w fun e w' => ∃ K' : SV, e = .returned (.slice K'.a K'.len K'.cap) ∧ OwL FPin 165 w' K'.val l ∧ (∀ g ∈ foot1 K'.val, w.heap.size ≤ g) ∧ Below w.heap.size w w' :=
  (toPinS_ct w _ l h hs).mono fun _ _ ⟨a, b, c⟩ => ⟨⟨_, _, _⟩, a, b, fun g hg => by have := mem_foot1.1 hg; simp [SV.val, Value.ownBlock] at this; omega, c⟩
theorem eqPinS_w (w : World) (K1 K2 : SV) (l : List Pin) (h1 : RdL FPin w w.heap.size K1.val l) (h2 : RdL FPin w w.heap.size K2.val l) (hs : l.length ≤ 1073741824) :
    Calls Tryz.prog 174 #[.slice K1.a K1.len K1.cap, .slice K2.a K2.len K2.cap] w fun e w' => e = .returned (.bool true) ∧ Below w.heap.size w w' := eqPinS_ct w _ _ l h1 h2 hs
theorem szPinS_w (w : World) (K : SV) (l : List Pin) (k : Nat) (h : RdL FPin w w.heap.size K.val l) (hk : k ≤ 1073741824) :
    Calls Tryz.prog 157 #[.slice K.a K.len K.cap, .int .i64 k] w fun e w' => e = .returned (.int .i64 (leftOf k l.length)) ∧ Below w.heap.size w w' := by
  have hl := RdL.len_ (show RdL FPin w w.heap.size (.slice K.a K.len K.cap) l from h)
  rw [← hl.1]
  exact szPinS_ct w K.a K.len K.cap k hl.2 hk
theorem markPinS_w (w : World) (K : SV) (l : List Pin) (k : Int) (h : OwL FPin 165 w K.val l) (hk0 : 0 ≤ k) (hk1 : k + ((l.length * 4 : Nat) : Int) ≤ 4611686018427387904) :
    Calls Tryz.prog 178 #[.slice K.a K.len K.cap, .int .i64 k] w fun e w' => e = .returned (.int .i64 (k + ((l.length * 4 : Nat) : Int))) ∧ OwL FPin 165 w' K.val (marks mkPin 4 l l.length k) ∧ Chg (foot1 K.val) w w' :=
  (markPinS_ct w _ l k h hk0 (by omega)).mono fun _ _ ⟨a, b, c, _⟩ => ⟨a.trans (ret_i64 (by omega)), b, Chg.of_grown c⟩
set_option maxHeartbeats 400000 in
theorem toClock_ct (w : World) (H : HClock) (x : Clock) (h : RdClock w w.heap.size H x) (hs : x.Pins.length ≤ 1048576) :
    Calls Tryz.prog 86 #[.agg #[.int .i64 x.Epoch, .slice H.Pins.a H.Pins.len H.Pins.cap]] w fun e w' => ∃ H' : HClock, e = .returned (H'.val x) ∧ OwClock w' H' x ∧ (∀ g ∈ H'.foot, w.heap.size ≤ g) ∧ Below w.heap.size w w' := by
  obtain ⟨⟨A, n, c⟩⟩ := H
  obtain ⟨ep, l⟩ := x
  have hr : RdL FPin w w.heap.size (.slice A n c) l := h.Pins
  obtain ⟨_, _, hv, q1, q2, qx⟩ := id hr
  simp only [Value.slice.injEq] at hv
  obtain ⟨rfl, rfl, rfl⟩ := hv
  have hlt0 : l.length ≤ 9223372036854775807 := by unfold maxLen at q2; omega
  clear q1 q2 qx h
  simp only at hs
  show Calls Tryz.prog 86 #[.agg #[.int .i64 ep, .slice A l.length c]] _ _
  go_enter Tryz.func86, Tryz.ntmps86
  go_wp2_with fail
  refine (toPinS_ct _ _ l (rd_up hr (by repeat (first | exact Below.refl _ _ | refine Below.alloc ?_ (by simp <;> omega) _ | refine below_grow_of ?_ (by simp <;> omega) _ _ | refine Below.drew ?_ | refine below_drewN ?_ _))) hs).mono ?_
  rintro e w1 ⟨rfl, ho, hb1⟩
  obtain ⟨os1, d1, rfl⟩ := below_grows hb1
  clear hb1
  go_wp2
  refine bodyPost_ret (v := .agg #[.int .i64 ep, .slice (some ⟨w.heap.size + 1 + 1 + 1, 0, none⟩) l.length l.length]) (by simp [results, Tryz.results86, go_sem]) rfl ⟨⟨⟨some ⟨w.heap.size + 1 + 1 + 1, 0, none⟩, l.length, l.length⟩⟩, rfl, ⟨?_⟩, ?_, ?_⟩
  · simp only [World.size_alloc] at ho
    refine OwL.regrow ho ?_ ?_ _
    · simp
    · simp [foot1, Value.ownBlock]
  · simp [HClock.foot, foot1, Value.ownBlock, SV.val]; omega
  · repeat (first | exact Below.refl _ _ | refine Below.alloc ?_ (by simp <;> omega) _ | refine below_grow_of ?_ (by simp <;> omega) _ _ | refine Below.drew ?_ | refine below_drewN ?_ _)
set_option maxHeartbeats 400000 in
theorem eqClock_ct (w : World) (H1 H2 : HClock) (x : Clock) (h1 : RdClock w w.heap.size H1 x) (h2 : RdClock w w.heap.size H2 x) (hs : x.Pins.length ≤ 1073741824) :
    Calls Tryz.prog 97 #[.agg #[.int .i64 x.Epoch, .slice H1.Pins.a H1.Pins.len H1.Pins.cap], .agg #[.int .i64 x.Epoch, .slice H2.Pins.a H2.Pins.len H2.Pins.cap]] w fun e w' => e = .returned (.bool true) ∧ Below w.heap.size w w' := by
  obtain ⟨ep, l⟩ := x
  obtain ⟨⟨A1, n1, c1⟩⟩ := H1
  have hr1 : RdL FPin w w.heap.size (.slice A1 n1 c1) l := h1.Pins
  obtain ⟨_, _, hv, _, _, qx⟩ := id hr1
  simp only [Value.slice.injEq] at hv
  obtain ⟨rfl, rfl, rfl⟩ := hv
  clear qx h1
  obtain ⟨⟨A2, n2, c2⟩⟩ := H2
  have hr2 : RdL FPin w w.heap.size (.slice A2 n2 c2) l := h2.Pins
  obtain ⟨_, _, hv, _, _, qx⟩ := id hr2
  simp only [Value.slice.injEq] at hv
  obtain ⟨rfl, rfl, rfl⟩ := hv
  clear qx h2
  simp only at hs
  show Calls Tryz.prog 97 #[.agg #[.int .i64 ep, .slice A1 l.length c1], .agg #[.int .i64 ep, .slice A2 l.length c2]] _ _
  go_enter Tryz.func97, Tryz.ntmps97
  go_wp2_with (go_at_call 174; refine (eqPinS_ct _ _ _ l (rd_up hr1 (by repeat (first | exact Below.refl _ _ | refine Below.alloc ?_ (by simp <;> omega) _ | refine below_grow_of ?_ (by simp <;> omega) _ _ | refine Below.drew ?_ | refine below_drewN ?_ _))) (rd_up hr2 (by repeat (first | exact Below.refl _ _ | refine Below.alloc ?_ (by simp <;> omega) _ | refine below_grow_of ?_ (by simp <;> omega) _ _ | refine Below.drew ?_ | refine below_drewN ?_ _))) hs).mono ?_; rintro e w1 ⟨rfl, hb1⟩; obtain ⟨os1, d1, rfl⟩ := below_grows hb1; clear hb1)
  go_ret
  exact ⟨rfl, by repeat (first | exact Below.refl _ _ | refine Below.alloc ?_ (by simp <;> omega) _ | refine below_grow_of ?_ (by simp <;> omega) _ _ | refine Below.drew ?_ | refine below_drewN ?_ _)⟩
set_option maxHeartbeats 400000 in
theorem szClock_ct (w : World) (H : HClock) (x : Clock) (k : Nat) (h : RdClock w w.heap.size H x) (hk : k ≤ 1073741824) :
    Calls Tryz.prog 83 #[.agg #[.int .i64 x.Epoch, .slice H.Pins.a H.Pins.len H.Pins.cap], .int .i64 k] w fun e w' => e = .returned (.int .i64 (leftOf k (sizeClock x))) ∧ Below w.heap.size w w' := by
  obtain ⟨⟨A, n, c⟩⟩ := H
  obtain ⟨ep, l⟩ := x
  have hr : RdL FPin w w.heap.size (.slice A n c) l := h.Pins
  obtain ⟨_, _, hv, q1, q2, qx⟩ := id hr
  simp only [Value.slice.injEq] at hv
  obtain ⟨rfl, rfl, rfl⟩ := hv
  have hlt0 : l.length ≤ 9223372036854775807 := by unfold maxLen at q2; omega
  clear q1 q2 qx h
  show Calls Tryz.prog 83 #[.agg #[.int .i64 ep, .slice A l.length c], .int .i64 k] w fun e w' => e = .returned (.int .i64 (leftOf k l.length)) ∧ Below w.heap.size w w'
  by_cases hh : l.length ≤ k
  · have HL := Hid.mk_ (leftOf_pos hh)
    go_enter Tryz.func83, Tryz.ntmps83
    go_wp2_with (go_at_call 157; refine (szPinS_ct _ A l.length c k hlt0 hk).mono ?_; rw [HL.out]; rintro e w1 ⟨rfl, hb1⟩; obtain ⟨os1, d1, rfl⟩ := below_grows hb1; clear hb1)
    go_ret
    exact ⟨ret_i64 HL.out.symm, by repeat (first | exact Below.refl _ _ | refine Below.alloc ?_ (by simp <;> omega) _ | refine below_grow_of ?_ (by simp <;> omega) _ _ | refine Below.drew ?_ | refine below_drewN ?_ _)⟩
  · have HL := Hid.mk_ (leftOf_neg hh)
    go_enter Tryz.func83, Tryz.ntmps83
    go_wp2_with (go_at_call 157; refine (szPinS_ct _ A l.length c k hlt0 hk).mono ?_; rw [HL.out]; rintro e w1 ⟨rfl, hb1⟩; obtain ⟨os1, d1, rfl⟩ := below_grows hb1; clear hb1)
    go_ret
    exact ⟨ret_i64 HL.out.symm, by repeat (first | exact Below.refl _ _ | refine Below.alloc ?_ (by simp <;> omega) _ | refine below_grow_of ?_ (by simp <;> omega) _ _ | refine Below.drew ?_ | refine below_drewN ?_ _)⟩
set_option maxHeartbeats 400000 in
theorem markClock_ct (w : World) (H : HClock) (x : Clock) (k : Int) (h : OwClock w H x) (hk0 : 0 ≤ k) (hk1 : k + (nMarkClock x : Int) ≤ 4611686018427387904) :
    Calls Tryz.prog 101 #[.agg #[.int .i64 x.Epoch, .slice H.Pins.a H.Pins.len H.Pins.cap], .int .i64 k] w fun e w' => e = .returned (.int .i64 (k + (nMarkClock x : Int))) ∧ OwClock w' H (markClock x k) ∧ Chg H.foot w w' := by
  obtain ⟨⟨A, n, c⟩⟩ := H
  obtain ⟨ep, l⟩ := x
  have hr : OwL FPin 165 w (.slice A n c) l := h.Pins
  have hlt := foot_lt hr
  have HK := Hid.mk_ (show k + (nMarkClock ⟨ep, l⟩ : Int) = k + (l.length : Int) * 4 by unfold nMarkClock; simp)
  have hk2 : k + (l.length : Int) * 4 ≤ 4611686018427387904 := by rw [← HK.out]; exact hk1
  clear h hk1
  show Calls Tryz.prog 101 #[.agg #[.int .i64 ep, .slice A n c], .int .i64 k] _ _
  go_enter Tryz.func101, Tryz.ntmps101
  go_wp2_with fail
  refine (markPinS_ct _ _ l k (hr.alloc_ _) hk0 hk2).mono ?_
  rintro e w1 ⟨rfl, hom, hg1, _⟩
  go_wp2_with fail
  go_ret
  refine ⟨ret_i64 HK.out.symm, ⟨hom⟩, ?_⟩
  have hc := Chg.of_grown hg1
  exact ⟨hc.os, hc.tape, hc.output, Nat.le_trans (by simp) hc.size, fun b hb hn => (hc.block b (by simp; omega) hn).trans (Below.heap_alloc w _ b hb)⟩