/-
  slices.IndexFunc, ContainsFunc at operations, queues, jobs: the contracts.
-/
import Derived.Test.YtkldapdpaldbgaaGreatT
import Derived.Test.YtkldapdpaldbgaaGreatL
import Derived.Deep.QuietTactic
import Derived.BigQuiet
import Derived.Deep.LoopGhost
import Derived.Deep.RegionHeld3
import Derived.Test.YtkldapdpaldbgaaGreatN
import Derived.Test.YtkldapdpaldbgaaGreatA
import Derived.WalkSpells
import Derived.Laws.Cover3
import Derived.Test.YtkldapdpaldbgaaGreatVS
import Derived.Test.YtkldapdpaldbgaaGreatUA
import Derived.Test.YtkldapdpaldbgaaGreatB0
namespace Go.Proofs.YtkldapdpaldbgaaGreat
open Go.RowKit
attribute [local go_sem ↓] execJob
attribute [local go_sem] loadResJob

set_option maxHeartbeats 1000000 in
theorem IndexFuncOp_ct (w : World) (v : Value) (l : List Op) (h : RdL FOp w w.heap.size v l) (fid : FuncId) (cap : Array Value) (p : Op → Bool) (hent : ∀ (x : Op) (W : World), (callFunc fid (#[.agg #[.int .i64 x.Kind, .int .i64 x.Cell, .int .i64 x.Size, .int .i64 x.Val]] ++ cap)).run Tryz.prog W = .ok (.enter fid (#[.agg #[.int .i64 x.Kind, .int .i64 x.Cell, .int .i64 x.Size, .int .i64 x.Val]] ++ cap)) W)
    (hf : ∀ (x : Op) (W : World), x ∈ l → Below w.heap.size w W → Calls Tryz.prog fid (#[.agg #[.int .i64 x.Kind, .int .i64 x.Cell, .int .i64 x.Size, .int .i64 x.Val]] ++ cap) W fun e W' => e = .returned (.bool (p x)) ∧ Below W.heap.size W W') :
    Calls Tryz.prog 248 #[v, .func (.func fid) #[] cap] w fun e w' => e = .returned (.int .i64 (idxOf p l)) ∧ Below w.heap.size w w' := by
  obtain ⟨A, c, hv, q1, q2, _⟩ := id h
  have hlt0 : l.length ≤ 9223372036854775807 := by unfold maxLen at q2; omega
  subst hv
  have HF := Hid.mk_ hf
  clear hf q1 q2
  go_enter Tryz.func248, Tryz.ntmps248
  go_wp2
  go_loopw [5, 8] (fun _ i wr => ∃ i' : Nat, i' ≤ l.length ∧ i = .int .i64 i' ∧ Below w.heap.size w wr ∧ (l.take i').any p = false) (fun _ i _ => l.length - (intOf i).toNat)
  case atStart => exact ⟨0, Nat.zero_le _, rfl, Below.refl _ _, rfl⟩
  case round =>
    obtain ⟨i, hi, rfl, hb, hno⟩ := hrel
    have HN := Hid.mk_ hno
    clear hno
    by_cases hlt : i < l.length
    · obtain ⟨g, off, cap', he, hg, _, _, hc⟩ := (h.below hb).at_ (List.getElem?_eq_getElem hlt)
      injection he with he1 he2 he3
      clear he2
      subst he1 he3
      have p0 : wr.cell? ⟨g, off + i * 4, none⟩ = some (.int .i64 l[i].Kind) := hc 0 _ rfl
      have p1 : wr.cell? ⟨g, off + i * 4 + 1, none⟩ = some (.int .i64 l[i].Cell) := hc 1 _ rfl
      have p2 : wr.cell? ⟨g, off + i * 4 + 2, none⟩ = some (.int .i64 l[i].Size) := hc 2 _ rfl
      have p3 : wr.cell? ⟨g, off + i * 4 + 3, none⟩ = some (.int .i64 l[i].Val) := hc 3 _ rfl
      clear hc h
      go_wp2_with fail
      refine (HF.out l[i] wr (List.getElem_mem hlt) hb).mono ?_
      rintro e w1 ⟨rfl, hb1⟩
      have hb2 := hb.trans (hb1.mono hb.size)
      by_cases hp : p l[i] = true
      · have HP := Hid.mk_ (idxOf_hit p l i hlt HN.out hp)
        rw [hp]
        clear hp
        go_wp2
        go_ret
        exact ⟨ret_i64 HP.out.symm, hb2⟩
      · have hp' : p l[i] = false := by simpa using hp
        have HP := Hid.mk_ (any_take_succ p l i hlt HN.out hp')
        rw [hp']
        clear hp hp'
        go_wp2
        go_roundw
        case rel => exact ⟨i + 1, by omega, by go_num, hb2, HP.out⟩
        case measure => simp [intOf]; omega
    · go_wp2
      go_ret
      obtain rfl : i = l.length := by omega
      exact ⟨ret_i64 (idxOf_none p l (by simpa using HN.out)).symm, hb⟩
set_option maxHeartbeats 1000000 in
theorem ContainsFuncOp_ct (w : World) (v : Value) (l : List Op) (h : RdL FOp w w.heap.size v l) (fid : FuncId) (cap : Array Value) (p : Op → Bool) (hent : ∀ (x : Op) (W : World), (callFunc fid (#[.agg #[.int .i64 x.Kind, .int .i64 x.Cell, .int .i64 x.Size, .int .i64 x.Val]] ++ cap)).run Tryz.prog W = .ok (.enter fid (#[.agg #[.int .i64 x.Kind, .int .i64 x.Cell, .int .i64 x.Size, .int .i64 x.Val]] ++ cap)) W)
    (hf : ∀ (x : Op) (W : World), x ∈ l → Below w.heap.size w W → Calls Tryz.prog fid (#[.agg #[.int .i64 x.Kind, .int .i64 x.Cell, .int .i64 x.Size, .int .i64 x.Val]] ++ cap) W fun e W' => e = .returned (.bool (p x)) ∧ Below W.heap.size W W') :
    Calls Tryz.prog 188 #[v, .func (.func fid) #[] cap] w fun e w' => e = .returned (.bool (l.any p)) ∧ Below w.heap.size w w' := by
  have HF := Hid.mk_ hf
  clear hf
  go_enter Tryz.func188, Tryz.ntmps188
  go_wp2_with fail
  refine (IndexFuncOp_ct w v l h fid cap p hent HF.out).mono ?_
  rintro e w1 ⟨rfl, hb1⟩
  have HP := Hid.mk_ (idxOf_ge p l)
  go_wp2
  go_ret
  exact ⟨ret_bool HP.out, hb1⟩

set_option maxHeartbeats 1000000 in
theorem IndexFuncQ_ct (w : World) (v : Value) (t : List SV) (ll : List (List Op)) (h : RdLL FOp w w.heap.size v t ll) (fid : FuncId) (cap : Array Value) (p : List Op → Bool) (hent : ∀ (A : Option Addr) (n c : Nat) (W : World), (callFunc fid (#[.agg #[.slice A n c]] ++ cap)).run Tryz.prog W = .ok (.enter fid (#[.agg #[.slice A n c]] ++ cap)) W) (hf : ∀ (A : Option Addr) (c : Nat) (l : List Op) (W : World), Below w.heap.size w W → RdL FOp W W.heap.size (.slice A l.length c) l → Calls Tryz.prog fid (#[.agg #[.slice A l.length c]] ++ cap) W fun e W' => e = .returned (.bool (p l)) ∧ Below W.heap.size W W') :
    Calls Tryz.prog 247 #[v, .func (.func fid) #[] cap] w fun e w' => e = .returned (.int .i64 (idxOf p ll)) ∧ Below w.heap.size w w' := by
  obtain ⟨A, c, hv, _⟩ := id h.outer
  subst hv
  obtain ⟨en, hcap, hmx⟩ := h.len'
  have hlt0 : ll.length ≤ 9223372036854775807 := by unfold maxLen at hmx; omega
  rw [en] at h ⊢
  clear en hcap hmx
  have HF := Hid.mk_ hf
  clear hf
  go_enter Tryz.func247, Tryz.ntmps247
  go_wp2
  go_loopw [5, 8] (fun _ i wr => ∃ i' : Nat, i' ≤ ll.length ∧ i = .int .i64 i' ∧ Below w.heap.size w wr ∧ (ll.take i').any p = false) (fun _ i _ => ll.length - (intOf i).toNat)
  case atStart => exact ⟨0, Nat.zero_le _, rfl, Below.refl _ _, rfl⟩
  case round =>
    obtain ⟨i, hi, rfl, hb, hno⟩ := hrel
    have HN := Hid.mk_ hno
    clear hno
    by_cases hlt : i < ll.length
    · obtain ⟨g, o, A', c', rfl, hg, p0, r1⟩ := h.row hb hlt
      clear h
      go_wp2_with fail
      refine (HF.out A' c' ll[i] wr hb (rd_up r1 hb)).mono ?_
      rintro e w1 ⟨rfl, hb1⟩
      have hb2 := hb.trans (hb1.mono hb.size)
      by_cases hp : p ll[i] = true
      · have HP := Hid.mk_ (idxOf_hit p ll i hlt HN.out hp)
        rw [hp]
        clear hp
        go_wp2
        go_ret
        exact ⟨ret_i64 HP.out.symm, hb2⟩
      · have hp' : p ll[i] = false := by simpa using hp
        have HP := Hid.mk_ (any_take_succ p ll i hlt HN.out hp')
        rw [hp']
        clear hp hp'
        go_wp2
        go_roundw
        case rel => exact ⟨i + 1, by omega, by go_num, hb2, HP.out⟩
        case measure => simp [intOf]; omega
    · go_wp2
      go_ret
      obtain rfl : i = ll.length := by omega
      exact ⟨ret_i64 (idxOf_none p ll (by simpa using HN.out)).symm, hb⟩
set_option maxHeartbeats 1000000 in
theorem ContainsFuncQ_ct (w : World) (v : Value) (t : List SV) (ll : List (List Op)) (h : RdLL FOp w w.heap.size v t ll) (fid : FuncId) (cap : Array Value) (p : List Op → Bool) (hent : ∀ (A : Option Addr) (n c : Nat) (W : World), (callFunc fid (#[.agg #[.slice A n c]] ++ cap)).run Tryz.prog W = .ok (.enter fid (#[.agg #[.slice A n c]] ++ cap)) W) (hf : ∀ (A : Option Addr) (c : Nat) (l : List Op) (W : World), Below w.heap.size w W → RdL FOp W W.heap.size (.slice A l.length c) l → Calls Tryz.prog fid (#[.agg #[.slice A l.length c]] ++ cap) W fun e W' => e = .returned (.bool (p l)) ∧ Below W.heap.size W W') :
    Calls Tryz.prog 186 #[v, .func (.func fid) #[] cap] w fun e w' => e = .returned (.bool (ll.any p)) ∧ Below w.heap.size w w' := by
  have HF := Hid.mk_ hf
  clear hf
  go_enter Tryz.func186, Tryz.ntmps186
  go_wp2_with fail
  refine (IndexFuncQ_ct w v t ll h fid cap p hent HF.out).mono ?_
  rintro e w1 ⟨rfl, hb1⟩
  have HP := Hid.mk_ (idxOf_ge p ll)
  go_wp2
  go_ret
  exact ⟨ret_bool HP.out, hb1⟩

set_option maxRecDepth 100000 in
set_option maxHeartbeats 1000000 in
theorem IndexFuncJob_ct (w : World) (v : Value) (l : List Job) (h : RdL FJob w w.heap.size v l) (fid : FuncId) (cap : Array Value) (p : Job → Bool) (hent : ∀ (x : Job) (W : World), (callFunc fid (#[.agg (FJob.enc x).toArray] ++ cap)).run Tryz.prog W = .ok (.enter fid (#[.agg (FJob.enc x).toArray] ++ cap)) W)
    (hf : ∀ (x : Job) (W : World), x ∈ l → Below w.heap.size w W → Calls Tryz.prog fid (#[.agg (FJob.enc x).toArray] ++ cap) W fun e W' => e = .returned (.bool (p x)) ∧ Below W.heap.size W W') :
    Calls Tryz.prog 191 #[v, .func (.func fid) #[] cap] w fun e w' => e = .returned (.int .i64 (idxOf p l)) ∧ Below w.heap.size w w' := by
  obtain ⟨A, c, hv, q1, q2, _⟩ := id h
  have hlt0 : l.length ≤ 9223372036854775807 := by unfold maxLen at q2; omega
  subst hv
  have HF := Hid.mk_ hf
  clear hf q1 q2
  go_enter Tryz.func191, Tryz.ntmps191
  go_wp2
  go_loopw [5, 8] (fun _ i wr => ∃ i' : Nat, i' ≤ l.length ∧ i = .int .i64 i' ∧ Below w.heap.size w wr ∧ (l.take i').any p = false) (fun _ i _ => l.length - (intOf i).toNat)
  case atStart => exact ⟨0, Nat.zero_le _, rfl, Below.refl _ _, rfl⟩
  case round =>
    obtain ⟨i, hi, rfl, hb, hno⟩ := hrel
    have HN := Hid.mk_ hno
    clear hno
    by_cases hlt : i < l.length
    · obtain ⟨g, off, cap', he, hg, _, _, hc⟩ := (h.below hb).range_ (List.getElem?_eq_getElem hlt)
      injection he with he1 he2 he3
      clear he2
      subst he1 he3
      have hk := HF.out l[i] wr (List.getElem_mem hlt) hb
      have hlen := FJob.len l[i]
      have he := hent l[i]
      rw [show FJob.n = 21 from rfl] at hlen hc
      obtain ⟨cs, hcs⟩ : ∃ cs, cs = FJob.enc l[i] := ⟨_, rfl⟩
      rw [← hcs] at hk hlen hc he
      replace hc := row?_of hc hlen
      clear hcs hlen
      go_wp2_with fail
      refine hk.mono ?_
      clear hk hc he
      clear h
      rintro e w1 ⟨rfl, hb1⟩
      have hb2 := hb.trans (hb1.mono hb.size)
      by_cases hp : p l[i] = true
      · have HP := Hid.mk_ (idxOf_hit p l i hlt HN.out hp)
        rw [hp]
        clear hp
        go_wp2
        go_ret
        exact ⟨ret_i64 HP.out.symm, hb2⟩
      · have hp' : p l[i] = false := by simpa using hp
        have HP := Hid.mk_ (any_take_succ p l i hlt HN.out hp')
        rw [hp']
        clear hp hp'
        go_wp2
        go_roundw
        case rel => exact ⟨i + 1, by omega, by go_num, hb2, HP.out⟩
        case measure => simp [intOf]; omega
    · go_wp2
      go_ret
      obtain rfl : i = l.length := by omega
      exact ⟨ret_i64 (idxOf_none p l (by simpa using HN.out)).symm, hb⟩
set_option maxRecDepth 100000 in
set_option maxHeartbeats 1000000 in
theorem ContainsFuncJob_ct (w : World) (v : Value) (l : List Job) (h : RdL FJob w w.heap.size v l) (fid : FuncId) (cap : Array Value) (p : Job → Bool) (hent : ∀ (x : Job) (W : World), (callFunc fid (#[.agg (FJob.enc x).toArray] ++ cap)).run Tryz.prog W = .ok (.enter fid (#[.agg (FJob.enc x).toArray] ++ cap)) W)
    (hf : ∀ (x : Job) (W : World), x ∈ l → Below w.heap.size w W → Calls Tryz.prog fid (#[.agg (FJob.enc x).toArray] ++ cap) W fun e W' => e = .returned (.bool (p x)) ∧ Below W.heap.size W W') :
    Calls Tryz.prog 114 #[v, .func (.func fid) #[] cap] w fun e w' => e = .returned (.bool (l.any p)) ∧ Below w.heap.size w w' := by
  have HF := Hid.mk_ hf
  clear hf
  go_enter Tryz.func114, Tryz.ntmps114
  go_wp2_with fail
  refine (IndexFuncJob_ct w v l h fid cap p hent HF.out).mono ?_
  rintro e w1 ⟨rfl, hb1⟩
  have HP := Hid.mk_ (idxOf_ge p l)
  go_wp2
  go_ret
  exact ⟨ret_bool HP.out, hb1⟩
end Go.Proofs.YtkldapdpaldbgaaGreat
