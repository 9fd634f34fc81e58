/-
  Jobs compared.
-/
import Derived.Test.YtdepckmjgpkjmaaT
import Derived.Test.YtdepckmjgpkjmaaL
import Derived.Deep.QuietTactic
import Derived.BigQuiet
import Derived.Deep.LoopGhost
import Derived.Deep.RegionHeld3
import Derived.Test.YtdepckmjgpkjmaaN
import Derived.Test.YtdepckmjgpkjmaaA
import Derived.WalkSpells
import Derived.Laws.Cover3
import Derived.Test.YtdepckmjgpkjmaaJ2J
import Derived.Test.YtdepckmjgpkjmaaMR
namespace Go.Proofs.Ytdepckmjgpkjmaa
open Go.RowKit

theorem execJob (ρ : Operand → Value) (d : Option Tmp) (x : Operand) (t : TypeId) (p : String) (af : Array Edge) (g : Option (Nat × Bool)) (w : World) : (execOp ρ ⟨d, .load 97 x, t, p, af, g⟩).run Try.prog w = loadRes Try.prog 97 (ρ x) w := exec_load _ _ _ _ _ _ _ _ _
theorem loadResJob (W : World) (g o : Nat) : loadRes Try.prog 97 (.pointer (some ⟨g, o, none⟩)) W = match row? W g o 21 with | some cs => .ok (.value (.agg cs.toArray)) W | none => stuckLoad Try.prog 97 W g o := loadRule Try.underlying97 rfl Try.sizeJob W g o
attribute [local go_sem ↓] execJob
attribute [local go_sem] loadResJob
theorem eqJob_any (x : Job) (w : World) : Calls Try.prog 91 #[.agg (FJob.enc x).toArray, .agg (FJob.enc x).toArray] w fun e w' => e = .returned (.bool true) ∧ Below w.heap.size w w' :=
  eqJob_ct x.Op.Kind x.Op.Cell x.Op.Size x.Op.Val x.Serial x.Pc x.Sub.Kind x.Sub.A x.Sub.Pc x.Sub.E x.Sub.Row x.Sub.B x.Sub.H x.Sub.Out x.Sub.Code x.H x.Old x.Val x.Code x.Busy x.Sub.Done w
set_option maxRecDepth 100000 in
set_option maxHeartbeats 1000000 in
theorem eqJobS_ct (w : World) (v1 v2 : Value) (l : List Job) (h1 : RdL FJob w w.heap.size v1 l) (h2 : RdL FJob w w.heap.size v2 l) (hs : l.length ≤ 1073741824) :
    Calls Try.prog 51 #[v1, v2] w fun e w' => e = .returned (.bool true) ∧ Below w.heap.size w w' := by
  obtain ⟨A1, c1, hv1, _⟩ := id h1
  obtain ⟨A2, c2, hv2, _⟩ := id h2
  subst hv1 hv2
  go_enter Try.func51, Try.ntmps51
  go_wp2
  go_loopw [5] (fun i wr => ∃ k : Nat, k ≤ l.length ∧ i = .int .i64 k ∧ Below w.heap.size w wr) (fun i _ => l.length - (intOf i).toNat)
  case atStart => exact ⟨0, Nat.zero_le _, rfl, Below.refl _ _⟩
  case round =>
    obtain ⟨i, hk, rfl, hb⟩ := hrel
    by_cases hlt : i < l.length
    · obtain ⟨g1, o1, cap1, e1, b1, _, _, q1⟩ := (h1.below hb).range_ (List.getElem?_eq_getElem hlt)
      obtain ⟨g2, o2, cap2, e2, b2, _, _, q2⟩ := (h2.below hb).range_ (List.getElem?_eq_getElem hlt)
      injection e1 with e11 _ e13
      injection e2 with e21 _ e23
      subst e11 e13 e21 e23
      have z1 : g1 < wr.heap.size := Nat.lt_of_lt_of_le b1 hb.size
      have z0 : w.heap.size ≤ wr.heap.size := hb.size
      have z2 : g2 < wr.heap.size := Nat.lt_of_lt_of_le b2 hb.size
      have hq := eqJob_any l[i]
      have hlen := FJob.len l[i]
      have hone := FJob.one l[i]
      rw [show FJob.n = 21 from rfl] at hlen q1 q2
      generalize l[i] = xi at *
      generalize FJob.enc xi = cs at *
      clear xi
      replace q1 := row?_of q1 hlen
      replace q2 := row?_of q2 hlen
      clear hlen hone
      go_wp2
      go_region_held3 (fun w' => row? w' g1 (o1 + i * 21) 21 = some cs ∧ row? w' g2 (o2 + i * 21) 21 = some cs ∧ g1 < w'.heap.size ∧ g2 < w'.heap.size ∧ Below w.heap.size w w') (first | (go_keep; done) | ((try go_split_ands); refine ⟨?_, ?_, ?_, ?_, ?_⟩; all_goals first | assumption | exact Below.drew (by assumption) | (simp [go_sem, *]; done) | exact (row?_grow (by assumption) _ _).trans (by assumption) | exact below_grow_of (by assumption) (by omega) _ _ | (rw [size_grow]; omega))) ((go_at_call 91; refine (hq _).mono ?_; rintro e w1 ⟨rfl, hb1⟩; obtain ⟨os1, d1, rfl⟩ := below_grows hb1; clear hb1))
      go_wp2
      go_roundw
      case rel => exact ⟨i + 1, by omega, by go_num, by first | assumption | (try go_split_ands; assumption)⟩
      case measure => simp [intOf]; omega
    · go_wp2
      go_ret
      exact ⟨rfl, hb⟩
end Go.Proofs.Ytdepckmjgpkjmaa
