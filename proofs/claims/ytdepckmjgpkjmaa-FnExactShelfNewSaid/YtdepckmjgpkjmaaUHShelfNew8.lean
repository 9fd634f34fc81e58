/-
  Several texts in one: lemmas and contracts that the claim rests on.
-/
import Derived.Test.YtdepckmjgpkjmaaUHShelfNew1
import Derived.Deep.QuietTactic
import Derived.BigQuiet
import Derived.Deep.LoopGhost
import Derived.Deep.RegionHeld3
import Derived.WalkSpells
import Derived.Laws.Cover3
import Derived.Test.YtdepckmjgpkjmaaUHShelfNew2
import Derived.Test.YtdepckmjgpkjmaaUHShelfNew3
import Derived.Test.YtdepckmjgpkjmaaUHShelfNew6
import Derived.Test.YtdepckmjgpkjmaaUHShelfNew7
/-
  slices.IndexFunc, ContainsFunc at operations, queues, jobs: the contracts.
-/
namespace Go.Proofs.Ytdepckmjgpkjmaa
open Go.RowKit
attribute [local go_sem ↓] execJob
attribute [local go_sem] loadResJob

set_option maxHeartbeats 1000000 in
theorem IndexFuncOp_ct (w : World) (v : Value) (l : List Op) (h : RdL FOp w w.heap.size v l) (fid : FuncId) (cap : Array Value) (p : Op → Bool) (hent : ∀ (x : Op) (W : World), (callFunc fid (#[.agg #[.int .i64 x.Kind, .int .i64 x.Cell, .int .i64 x.Size, .int .i64 x.Val]] ++ cap)).run Try.prog W = .ok (.enter fid (#[.agg #[.int .i64 x.Kind, .int .i64 x.Cell, .int .i64 x.Size, .int .i64 x.Val]] ++ cap)) W)
    (hf : ∀ (x : Op) (W : World), x ∈ l → Below w.heap.size w W → Calls Try.prog fid (#[.agg #[.int .i64 x.Kind, .int .i64 x.Cell, .int .i64 x.Size, .int .i64 x.Val]] ++ cap) W fun e W' => e = .returned (.bool (p x)) ∧ Below W.heap.size W W') :
    Calls Try.prog 154 #[v, .func (.func fid) #[] cap] w fun e w' => e = .returned (.int .i64 (idxOf p l)) ∧ Below w.heap.size w w' := by
  obtain ⟨A, c, hv, q1, q2, _⟩ := id h
  have hlt0 : l.length ≤ 9223372036854775807 := by unfold maxLen at q2; omega
  subst hv
  have HF := Hid.mk_ hf
  clear hf q1 q2
  go_enter Try.func154, Try.ntmps154
  go_wp2
  go_loopw [5, 8] (fun _ i wr => ∃ i' : Nat, i' ≤ l.length ∧ i = .int .i64 i' ∧ Below w.heap.size w wr ∧ (l.take i').any p = false) (fun _ i _ => l.length - (intOf i).toNat)
  case atStart => exact ⟨0, Nat.zero_le _, rfl, Below.refl _ _, rfl⟩
  case round =>
    obtain ⟨i, hi, rfl, hb, hno⟩ := hrel
    have HN := Hid.mk_ hno
    clear hno
    by_cases hlt : i < l.length
    · obtain ⟨g, off, cap', he, hg, _, _, hc⟩ := (h.below hb).at_ (List.getElem?_eq_getElem hlt)
      injection he with he1 he2 he3
      clear he2
      subst he1 he3
      have p0 : wr.cell? ⟨g, off + i * 4, none⟩ = some (.int .i64 l[i].Kind) := hc 0 _ rfl
      have p1 : wr.cell? ⟨g, off + i * 4 + 1, none⟩ = some (.int .i64 l[i].Cell) := hc 1 _ rfl
      have p2 : wr.cell? ⟨g, off + i * 4 + 2, none⟩ = some (.int .i64 l[i].Size) := hc 2 _ rfl
      have p3 : wr.cell? ⟨g, off + i * 4 + 3, none⟩ = some (.int .i64 l[i].Val) := hc 3 _ rfl
      clear hc h
      go_wp2_with fail
      refine (HF.out l[i] wr (List.getElem_mem hlt) hb).mono ?_
      rintro e w1 ⟨rfl, hb1⟩
      have hb2 := hb.trans (hb1.mono hb.size)
      by_cases hp : p l[i] = true
      · have HP := Hid.mk_ (idxOf_hit p l i hlt HN.out hp)
        rw [hp]
        clear hp
        go_wp2
        go_ret
        exact ⟨ret_i64 HP.out.symm, hb2⟩
      · have hp' : p l[i] = false := by simpa using hp
        have HP := Hid.mk_ (any_take_succ p l i hlt HN.out hp')
        rw [hp']
        clear hp hp'
        go_wp2
        go_roundw
        case rel => exact ⟨i + 1, by omega, by go_num, hb2, HP.out⟩
        case measure => simp [intOf]; omega
    · go_wp2
      go_ret
      obtain rfl : i = l.length := by omega
      exact ⟨ret_i64 (idxOf_none p l (by simpa using HN.out)).symm, hb⟩
set_option maxHeartbeats 1000000 in
theorem ContainsFuncOp_ct (w : World) (v : Value) (l : List Op) (h : RdL FOp w w.heap.size v l) (fid : FuncId) (cap : Array Value) (p : Op → Bool) (hent : ∀ (x : Op) (W : World), (callFunc fid (#[.agg #[.int .i64 x.Kind, .int .i64 x.Cell, .int .i64 x.Size, .int .i64 x.Val]] ++ cap)).run Try.prog W = .ok (.enter fid (#[.agg #[.int .i64 x.Kind, .int .i64 x.Cell, .int .i64 x.Size, .int .i64 x.Val]] ++ cap)) W)
    (hf : ∀ (x : Op) (W : World), x ∈ l → Below w.heap.size w W → Calls Try.prog fid (#[.agg #[.int .i64 x.Kind, .int .i64 x.Cell, .int .i64 x.Size, .int .i64 x.Val]] ++ cap) W fun e W' => e = .returned (.bool (p x)) ∧ Below W.heap.size W W') :
    Calls Try.prog 109 #[v, .func (.func fid) #[] cap] w fun e w' => e = .returned (.bool (l.any p)) ∧ Below w.heap.size w w' := by
  have HF := Hid.mk_ hf
  clear hf
  go_enter Try.func109, Try.ntmps109
  go_wp2_with fail
  refine (IndexFuncOp_ct w v l h fid cap p hent HF.out).mono ?_
  rintro e w1 ⟨rfl, hb1⟩
  have HP := Hid.mk_ (idxOf_ge p l)
  go_wp2
  go_ret
  exact ⟨ret_bool HP.out, hb1⟩

set_option maxHeartbeats 1000000 in
theorem IndexFuncQ_ct (w : World) (v : Value) (t : List SV) (ll : List (List Op)) (h : RdLL FOp w w.heap.size v t ll) (fid : FuncId) (cap : Array Value) (p : List Op → Bool) (hent : ∀ (A : Option Addr) (n c : Nat) (W : World), (callFunc fid (#[.agg #[.slice A n c]] ++ cap)).run Try.prog W = .ok (.enter fid (#[.agg #[.slice A n c]] ++ cap)) W) (hf : ∀ (A : Option Addr) (c : Nat) (l : List Op) (W : World), Below w.heap.size w W → RdL FOp W W.heap.size (.slice A l.length c) l → Calls Try.prog fid (#[.agg #[.slice A l.length c]] ++ cap) W fun e W' => e = .returned (.bool (p l)) ∧ Below W.heap.size W W') :
    Calls Try.prog 87 #[v, .func (.func fid) #[] cap] w fun e w' => e = .returned (.int .i64 (idxOf p ll)) ∧ Below w.heap.size w w' := by
  obtain ⟨A, c, hv, _⟩ := id h.outer
  subst hv
  obtain ⟨en, hcap, hmx⟩ := h.len'
  have hlt0 : ll.length ≤ 9223372036854775807 := by unfold maxLen at hmx; omega
  rw [en] at h ⊢
  clear en hcap hmx
  have HF := Hid.mk_ hf
  clear hf
  go_enter Try.func87, Try.ntmps87
  go_wp2
  go_loopw [5, 8] (fun _ i wr => ∃ i' : Nat, i' ≤ ll.length ∧ i = .int .i64 i' ∧ Below w.heap.size w wr ∧ (ll.take i').any p = false) (fun _ i _ => ll.length - (intOf i).toNat)
  case atStart => exact ⟨0, Nat.zero_le _, rfl, Below.refl _ _, rfl⟩
  case round =>
    obtain ⟨i, hi, rfl, hb, hno⟩ := hrel
    have HN := Hid.mk_ hno
    clear hno
    by_cases hlt : i < ll.length
    · obtain ⟨g, o, A', c', rfl, hg, p0, r1⟩ := h.row hb hlt
      clear h
      go_wp2_with fail
      refine (HF.out A' c' ll[i] wr hb (rd_up r1 hb)).mono ?_
      rintro e w1 ⟨rfl, hb1⟩
      have hb2 := hb.trans (hb1.mono hb.size)
      by_cases hp : p ll[i] = true
      · have HP := Hid.mk_ (idxOf_hit p ll i hlt HN.out hp)
        rw [hp]
        clear hp
        go_wp2
        go_ret
        exact ⟨ret_i64 HP.out.symm, hb2⟩
      · have hp' : p ll[i] = false := by simpa using hp
        have HP := Hid.mk_ (any_take_succ p ll i hlt HN.out hp')
        rw [hp']
        clear hp hp'
        go_wp2
        go_roundw
        case rel => exact ⟨i + 1, by omega, by go_num, hb2, HP.out⟩
        case measure => simp [intOf]; omega
    · go_wp2
      go_ret
      obtain rfl : i = ll.length := by omega
      exact ⟨ret_i64 (idxOf_none p ll (by simpa using HN.out)).symm, hb⟩
set_option maxHeartbeats 1000000 in
theorem ContainsFuncQ_ct (w : World) (v : Value) (t : List SV) (ll : List (List Op)) (h : RdLL FOp w w.heap.size v t ll) (fid : FuncId) (cap : Array Value) (p : List Op → Bool) (hent : ∀ (A : Option Addr) (n c : Nat) (W : World), (callFunc fid (#[.agg #[.slice A n c]] ++ cap)).run Try.prog W = .ok (.enter fid (#[.agg #[.slice A n c]] ++ cap)) W) (hf : ∀ (A : Option Addr) (c : Nat) (l : List Op) (W : World), Below w.heap.size w W → RdL FOp W W.heap.size (.slice A l.length c) l → Calls Try.prog fid (#[.agg #[.slice A l.length c]] ++ cap) W fun e W' => e = .returned (.bool (p l)) ∧ Below W.heap.size W W') :
    Calls Try.prog 47 #[v, .func (.func fid) #[] cap] w fun e w' => e = .returned (.bool (ll.any p)) ∧ Below w.heap.size w w' := by
  have HF := Hid.mk_ hf
  clear hf
  go_enter Try.func47, Try.ntmps47
  go_wp2_with fail
  refine (IndexFuncQ_ct w v t ll h fid cap p hent HF.out).mono ?_
  rintro e w1 ⟨rfl, hb1⟩
  have HP := Hid.mk_ (idxOf_ge p ll)
  go_wp2
  go_ret
  exact ⟨ret_bool HP.out, hb1⟩

end Go.Proofs.Ytdepckmjgpkjmaa

/-
  Queues copied.
-/
namespace Go.Proofs.Ytdepckmjgpkjmaa
open Go.RowKit
theorem Try.stOp : ST Try.prog FOp 98 93 := ⟨Try.underlying98, .agg #[.int .i64 0, .int .i64 0, .int .i64 0, .int .i64 0], 32, by kernel_rfl, rfl, by decide⟩
theorem foot1_nodup (v : Value) : (foot1 v).Nodup := by
  unfold foot1
  cases v.ownBlock <;> simp
theorem OwLL.snoc {α : Type} {T : FT α} {e E : TypeId} {w w' : World} {v v' : Value} {svs : List SV} {ll : List (List α)} (h : OwLL T e E w v svs ll) {s : SV} {l : List α} (hl : OwL T e w s.val l) (hd : ∀ g ∈ foot1 s.val, g ∉ foot2 v svs)
    (ho : OwL FS E w' v' (svs ++ [s])) (hg : w.grownBy w' v.ownBlock) (hat : v'.ownBlock = v.ownBlock ∨ v'.ownBlock = some w.heap.size) : OwLL T e E w' v' (svs ++ [s]) (ll ++ [l]) := by
  have hc := Chg.of_grown hg
  have hn := h.nodup
  unfold foot2 at hn
  rw [List.nodup_append] at hn
  obtain ⟨hn1, hn2, hn3⟩ := hn
  refine ⟨by simp [h.len], ho, fun k s' l' hk hl' => ?_, ?_⟩
  · by_cases hks : k < svs.length
    · rw [List.getElem?_append_left hks] at hk
      rw [List.getElem?_append_left (by rw [← h.len]; exact hks)] at hl'
      have hi := h.inner k s' l' hk hl'
      exact hi.chg hc fun g hg1 hg2 => hn3 g hg2 g (List.mem_flatMap.2 ⟨s', List.mem_of_getElem? hk, hg1⟩) rfl
    · rw [List.getElem?_append_right (by omega)] at hk
      rw [List.getElem?_append_right (by rw [← h.len]; omega), ← h.len] at hl'
      have hk0 : k - svs.length = 0 := by
        have := (List.getElem?_eq_some_iff.1 hk).1
        simp at this
        omega
      rw [hk0] at hk hl'
      cases hk
      cases hl'
      exact hl.chg hc fun g hg1 hg2 => hd g hg1 (mem_foot2.2 (.inl (mem_foot1.1 hg2)))
  · unfold foot2
    rw [List.flatMap_append, List.nodup_append]
    refine ⟨foot1_nodup _, ?_, fun a ha b hb => ?_⟩
    · rw [List.nodup_append]
      refine ⟨hn2, by simpa using foot1_nodup s.val, fun a ha b hb => ?_⟩
      rintro rfl
      have hb' : a ∈ foot1 s.val := by simpa using hb
      exact hd a hb' (by unfold foot2; exact List.mem_append.2 (.inr ha))
    · rintro rfl
      rcases foot_app hat a ha with h1 | h1
      · rcases List.mem_append.1 hb with h2 | h2
        · exact hn3 a h1 a h2 rfl
        · have h2' : a ∈ foot1 s.val := by simpa using h2
          exact hd a h2' (mem_foot2.2 (.inl (mem_foot1.1 h1)))
      · rcases List.mem_append.1 hb with h2 | h2
        · have := h.lt a (by unfold foot2; exact List.mem_append.2 (.inr h2))
          omega
        · have h2' : a ∈ foot1 s.val := by simpa using h2
          have := foot_lt hl a h2'
          omega
theorem Try.stSVQ : ST Try.prog FS 67 100 := ⟨Try.underlying67, .agg #[.slice none 0 0], 24, by kernel_rfl, rfl, by decide⟩

set_option maxHeartbeats 400000 in
theorem CloneOp_ct (w : World) (v : Value) (l : List Op) (h : RdL FOp w w.heap.size v l) (hs : l.length ≤ 1073741824) :
    Calls Try.prog 116 #[v] w fun e w' => ∃ v', e = .returned v' ∧ OwL FOp 93 w' v' l ∧ (∀ g ∈ foot1 v', w.heap.size ≤ g) ∧ Below w.heap.size w w' := by
  obtain ⟨A, c, hv, _, _, q3⟩ := id h
  subst hv
  have heq := fun w => Lib.run_eql_slice_nil (P := Try.prog) w 98 93 A l.length c 0 0 Try.underlying98
  cases A with
  | none =>
    have hl : l = [] := by
      apply Classical.byContradiction
      intro hne
      obtain ⟨g, off, hA, _⟩ := q3 hne
      cases hA
    have HL := Hid.mk_ hl
    clear hl q3 h
    go_enter Try.func116, Try.ntmps116
    go_wp2
    go_ret
    exact ⟨_, rfl, by rw [HL.out]; exact World.ownsRow_nil _ _ _ _, by simp [foot1, Value.ownBlock], Below.refl _ _⟩
  | some a =>
    go_enter Try.func116, Try.ntmps116
    go_wp2_with (at_builtin; refine wpList_append_flat Try.stOp rfl _ _ rfl (v := .slice (some ⟨w.heap.size, 0, none⟩) 0 0) (y := .slice (some a) l.length c) (l := []) (m := l) rfl rfl (OwL.lit FOp [] #[] rfl (by simp [maxLen]) _ _) (h.alloc_ (Nat.le_refl _) (Nat.le_succ _) _) (by simpa using hs) ?_; intro v' w1 ho hg hat)
    go_ret
    have hb : Below w.heap.size w w1 := ((Below.refl _ _).alloc (Nat.le_refl _) _).grown hg (by simp) (by simp [Value.ownBlock])
    exact ⟨v', rfl, by simpa using ho, fun g hg' => by rcases foot_app hat g hg' with h | h; (simp [foot1, Value.ownBlock] at h; omega); (simp at h; omega), hb⟩

set_option maxRecDepth 100000 in
set_option maxHeartbeats 1000000 in
theorem copyTodo_impl (w : World) (v : Value) (t : List SV) (ll : List (List Op)) (h : RdLL FOp w w.heap.size v t ll) (hs : szLL ll ≤ 536870912) :
    Calls Try.prog 71 #[v] w fun e w' => ∃ v' t', e = .returned v' ∧ OwLL FOp 93 100 w' v' t' ll ∧ (∀ g ∈ foot2 v' t', w.heap.size ≤ g) ∧ Below w.heap.size w w' := by
  obtain ⟨A, c, hv, _⟩ := id h.outer
  subst hv
  obtain ⟨en, hcap, hmx⟩ := h.len'
  have hlt0 : ll.length ≤ 9223372036854775807 := by unfold maxLen at hmx; omega
  rw [en] at h ⊢
  clear en hcap hmx
  have hs0 : ll.length ≤ 536870912 := Nat.le_trans (Nat.le_add_right _ _) hs
  have o0 : OwLL FOp 93 100 (w.alloc (.cells #[] 100)) (.slice (some ⟨w.heap.size, 0, none⟩) 0 0) [] [] := ⟨rfl, OwL.lit FS [] #[] rfl (by decide) w 100, fun k s l h => by simp at h, by simp [foot2, foot1, Value.ownBlock]⟩
  go_enter Try.func71, Try.ntmps71
  go_wp2
  go_loopw [3, 5, 9] (fun o _ i wr => ∃ k : Nat, k ≤ ll.length ∧ i = .int .i64 k ∧ (∃ t', OwLL FOp 93 100 wr o t' (ll.take k) ∧ (∀ g ∈ foot2 o t', w.heap.size ≤ g)) ∧ Below w.heap.size w wr) (fun _ _ i _ => ll.length - (intOf i).toNat)
  case atStart => exact ⟨0, Nat.zero_le _, rfl, ⟨[], o0, by simp [foot2, foot1, Value.ownBlock]⟩, (Below.refl _ _).alloc (Nat.le_refl _) _⟩
  case round =>
    obtain ⟨i, hi, rfl, ⟨t', ho, hfo⟩, hb⟩ := hrel
    clear o0
    by_cases hlt : i < ll.length
    · obtain ⟨g, o, A', c', rfl, hg, p0, r1⟩ := h.row hb hlt
      have hlen : ll[i].length ≤ 1073741824 := by have := le_szLL (List.getElem_mem hlt); omega
      have htl : t'.length ≤ 536870912 := by rw [ho.len, List.length_take]; omega
      have hbW : Below w.heap.size w (wr.alloc (.cells #[.slice A' ll[i].length c'] 100)) := hb.alloc hb.size _
      have z1 : g < wr.heap.size := Nat.lt_of_lt_of_le hg hb.size
      have HTk := Hid.mk_ (List.take_succ_eq_append_getElem hlt)
      clear h
      go_wp2_with (first | (go_at_call 116; refine (CloneOp_ct _ _ ll[i] (rd_up r1 hbW) hlen).mono ?_; rintro e w1 ⟨vs, rfl, hos, hfs, hb1⟩; have hbb : Below wr.heap.size wr w1 := ((Below.refl _ _).alloc (Nat.le_refl _) _).trans (hb1.mono (by simp)); have hfs2 : ∀ g ∈ foot1 vs, wr.heap.size ≤ g := (fun g hg => by have := hfs g hg; simp at this; omega); obtain ⟨A2, c2, hv2, _⟩ := hos.rd'; subst hv2) | (at_builtin; refine wpList_append_flat Try.stSVQ rfl _ _ rfl (v := u3) (y := .slice (some ⟨w1.heap.size, 0, none⟩) 1 1) (l := t') (m := [⟨A2, ll[i].length, c2⟩]) rfl rfl ((ho.keep (fun g hg => hbb.block g (ho.lt g hg))).outer.alloc_ _) (OwL.lit FS [⟨A2, ll[i].length, c2⟩] #[.slice A2 ll[i].length c2] rfl (by simp [maxLen]) w1 100).rd' (by simp only [List.length_singleton]; omega) ?_; intro v' w3 ho' hg' hat'))
      have hsn := OwLL.snoc ((ho.keep (fun g hg => hbb.block g (ho.lt g hg))).alloc_ (.cells #[.slice A2 ll[i].length c2] 100)) (s := ⟨A2, ll[i].length, c2⟩) (hos.alloc_ _) (fun g hg hm => by have a := hfs2 g hg; have b := ho.lt g hm; omega) ho' hg' hat'
      have hbb2 : Below w.heap.size w w1 := hb.trans (hbb.mono hb.size)
      have hb3 : Below w.heap.size w w3 := (hbb2.alloc hbb2.size _).grown hg' (by simp; exact Nat.le_succ_of_le hbb2.size) (fun k hk => hfo k (mem_foot2.2 (.inl hk)))
      go_roundw
      case rel =>
        refine ⟨i + 1, by omega, by go_num, ⟨_, by rw [HTk.out]; exact hsn, fun b hb' => ?_⟩, hb3⟩
        unfold foot2 at hb'
        rw [List.flatMap_append] at hb'
        rcases List.mem_append.1 hb' with h1 | h1
        · rcases foot_app hat' b h1 with h2 | h2
          · exact hfo b (mem_foot2.2 (.inl (mem_foot1.1 h2)))
          · have := hbb2.size
            simp at h2
            omega
        · rcases List.mem_append.1 h1 with h2 | h2
          · exact hfo b (by unfold foot2; exact List.mem_append.2 (.inr h2))
          · have h4 : b ∈ foot1 (SV.val ⟨A2, ll[i].length, c2⟩) := by simpa using h2
            have := hfs2 b h4
            have := hb.size
            omega
      case measure => simp [intOf]; omega
    · go_wp2
      go_ret
      obtain rfl : i = ll.length := by omega
      exact ⟨u3, t', rfl, by simpa using ho, hfo, hb⟩

set_option maxRecDepth 100000 in
set_option maxHeartbeats 1000000 in
theorem copyTodo_spec (w : World) (v : Value) (t : List SV) (ll : List (List Op)) (h : RdLL FOp w w.heap.size v t ll) (hs : szLL ll ≤ 536870912) :
    Calls Try.prog 67 #[v] w fun e w' => ∃ v' t', e = .returned v' ∧ OwLL FOp 93 100 w' v' t' ll ∧ (∀ g ∈ foot2 v' t', w.heap.size ≤ g) ∧ Below w.heap.size w w' := by
  obtain ⟨A, c, hv, _⟩ := id h.outer
  subst hv
  obtain ⟨en, hcap, hmx⟩ := h.len'
  have hlt0 : ll.length ≤ 9223372036854775807 := by unfold maxLen at hmx; omega
  rw [en] at h ⊢
  clear en hcap hmx
  have hs0 : ll.length ≤ 536870912 := Nat.le_trans (Nat.le_add_right _ _) hs
  have o0 : OwLL FOp 93 100 (w.alloc (.cells #[] 100)) (.slice (some ⟨w.heap.size, 0, none⟩) 0 0) [] [] := ⟨rfl, OwL.lit FS [] #[] rfl (by decide) w 100, fun k s l h => by simp at h, by simp [foot2, foot1, Value.ownBlock]⟩
  go_enter Try.func67, Try.ntmps67
  go_wp2
  go_loopw [3, 4] (fun o i wr => ∃ k : Nat, k ≤ ll.length ∧ i = .int .i64 k ∧ (∃ t', OwLL FOp 93 100 wr o t' (ll.take k) ∧ (∀ g ∈ foot2 o t', w.heap.size ≤ g)) ∧ Below w.heap.size w wr) (fun _ i _ => ll.length - (intOf i).toNat)
  case atStart => exact ⟨0, Nat.zero_le _, rfl, ⟨[], o0, by simp [foot2, foot1, Value.ownBlock]⟩, (Below.refl _ _).alloc (Nat.le_refl _) _⟩
  case round =>
    obtain ⟨i, hi, rfl, ⟨t', ho, hfo⟩, hb⟩ := hrel
    clear o0
    by_cases hlt : i < ll.length
    · obtain ⟨g, o, A', c', rfl, hg, p0, r1⟩ := h.row hb hlt
      have hlen : ll[i].length ≤ 1073741824 := by have := le_szLL (List.getElem_mem hlt); omega
      have htl : t'.length ≤ 536870912 := by rw [ho.len, List.length_take]; omega
      have hbW : Below w.heap.size w (wr.alloc (.cells #[] 93)) := hb.alloc hb.size _
      have z1 : g < wr.heap.size := Nat.lt_of_lt_of_le hg hb.size
      have HTk := Hid.mk_ (List.take_succ_eq_append_getElem hlt)
      clear h
      go_wp2_with (first | (at_builtin; refine wpList_append_flat Try.stOp rfl _ _ rfl (v := .slice (some ⟨wr.heap.size, 0, none⟩) 0 0) (y := .slice A' ll[i].length c') (l := []) (m := ll[i]) rfl rfl (OwL.lit FOp [] #[] rfl (by simp [maxLen]) _ _) (rd_up r1 hbW) (by simpa using hlen) ?_; intro vs w1 hos hg hat; rw [List.nil_append] at hos; have hbb : Below wr.heap.size wr w1 := ((Below.refl _ _).alloc (Nat.le_refl _) _).grown hg (by simp) (by simp [Value.ownBlock]); have hfs2 : ∀ g ∈ foot1 vs, wr.heap.size ≤ g := (fun g hg' => by rcases foot_app hat g hg' with h | h; (simp [foot1, Value.ownBlock] at h; omega); (simp at h; omega)); obtain ⟨A2, c2, hv2, _⟩ := hos.rd'; subst hv2) | (at_builtin; refine wpList_append_flat Try.stSVQ rfl _ _ rfl (v := u3) (y := .slice (some ⟨w1.heap.size, 0, none⟩) 1 1) (l := t') (m := [⟨A2, ll[i].length, c2⟩]) rfl rfl ((ho.keep (fun g hg => hbb.block g (ho.lt g hg))).outer.alloc_ _) (OwL.lit FS [⟨A2, ll[i].length, c2⟩] #[.slice A2 ll[i].length c2] rfl (by simp [maxLen]) w1 100).rd' (by simp only [List.length_singleton]; omega) ?_; intro v' w3 ho' hg' hat'))
      have hsn := OwLL.snoc ((ho.keep (fun g hg => hbb.block g (ho.lt g hg))).alloc_ (.cells #[.slice A2 ll[i].length c2] 100)) (s := ⟨A2, ll[i].length, c2⟩) (hos.alloc_ _) (fun g hg hm => by have a := hfs2 g hg; have b := ho.lt g hm; omega) ho' hg' hat'
      have hbb2 : Below w.heap.size w w1 := hb.trans (hbb.mono hb.size)
      have hb3 : Below w.heap.size w w3 := (hbb2.alloc hbb2.size _).grown hg' (by simp; exact Nat.le_succ_of_le hbb2.size) (fun k hk => hfo k (mem_foot2.2 (.inl hk)))
      go_roundw
      case rel =>
        refine ⟨i + 1, by omega, by go_num, ⟨_, by rw [HTk.out]; exact hsn, fun b hb' => ?_⟩, hb3⟩
        unfold foot2 at hb'
        rw [List.flatMap_append] at hb'
        rcases List.mem_append.1 hb' with h1 | h1
        · rcases foot_app hat' b h1 with h2 | h2
          · exact hfo b (mem_foot2.2 (.inl (mem_foot1.1 h2)))
          · have := hbb2.size
            simp at h2
            omega
        · rcases List.mem_append.1 h1 with h2 | h2
          · exact hfo b (by unfold foot2; exact List.mem_append.2 (.inr h2))
          · have h4 : b ∈ foot1 (SV.val ⟨A2, ll[i].length, c2⟩) := by simpa using h2
            have := hfs2 b h4
            have := hb.size
            omega
      case measure => simp [intOf]; omega
    · go_wp2
      go_ret
      obtain rfl : i = ll.length := by omega
      exact ⟨u3, t', rfl, by simpa using ho, hfo, hb⟩
end Go.Proofs.Ytdepckmjgpkjmaa

/-
  Work to do: the contracts.
-/
namespace Go.Proofs.Ytdepckmjgpkjmaa
open Go.RowKit
def opOkB (k c s v : Int) : Bool :=
  decide (1 ≤ k ∧ k ≤ 7) && (if k = 1 ∨ k = 2 ∨ k = 3 ∨ k = 7 then decide (0 ≤ c ∧ c ≤ 1) else decide (c = 0)) && (if k = 1 then decide (0 ≤ s ∧ s ≤ 100 ∧ 0 ≤ v ∧ v ≤ 65535) else decide (s = 0 ∧ v = 0))

set_option maxHeartbeats 2000000 in
theorem opOk_impl (k c s v : Int) (w : World) : Calls Try.prog 111 #[.agg #[.int .i64 k, .int .i64 c, .int .i64 s, .int .i64 v]] w fun e w' => e = .returned (.bool (opOkB k c s v)) ∧ Below w.heap.size w w' := by
  by_cases hc : k = 1 ∨ k = 2 ∨ k = 3 ∨ k = 4 ∨ k = 5 ∨ k = 6 ∨ k = 7
  · rcases hc with rfl | rfl | rfl | rfl | rfl | rfl | rfl <;>
      (go_enter Try.func111, Try.ntmps111; go_wp2; all_goals (go_ret; exact ⟨ret_bool (by rw [Bool.eq_iff_iff]; simp [opOkB] at *; try omega), by repeat (first | exact Below.refl _ _ | refine Below.alloc ?_ (by simp <;> omega) _ | refine below_grow_of ?_ (by simp <;> omega) _ _ | refine Below.drew ?_)⟩))
  · by_cases h1 : 1 ≤ k
    · go_enter Try.func111, Try.ntmps111
      go_wp2
      all_goals (go_ret; exact ⟨ret_bool (by rw [Bool.eq_iff_iff]; simp [opOkB] at *; try omega), by repeat (first | exact Below.refl _ _ | refine Below.alloc ?_ (by simp <;> omega) _ | refine below_grow_of ?_ (by simp <;> omega) _ _ | refine Below.drew ?_)⟩)
    · go_enter Try.func111, Try.ntmps111
      go_wp2
      all_goals (go_ret; exact ⟨ret_bool (by rw [Bool.eq_iff_iff]; simp [opOkB] at *; try omega), by repeat (first | exact Below.refl _ _ | refine Below.alloc ?_ (by simp <;> omega) _ | refine below_grow_of ?_ (by simp <;> omega) _ _ | refine Below.drew ?_)⟩)

set_option maxHeartbeats 2000000 in
theorem opOk_spec (k c s v : Int) (w : World) : Calls Try.prog 102 #[.agg #[.int .i64 k, .int .i64 c, .int .i64 s, .int .i64 v]] w fun e w' => e = .returned (.bool (opOkB k c s v)) ∧ Below w.heap.size w w' := by
  by_cases hc : k = 1 ∨ k = 2 ∨ k = 3 ∨ k = 4 ∨ k = 5 ∨ k = 6 ∨ k = 7
  · rcases hc with rfl | rfl | rfl | rfl | rfl | rfl | rfl <;>
      (go_enter Try.func102, Try.ntmps102; go_wp2; all_goals (go_ret; exact ⟨ret_bool (by rw [Bool.eq_iff_iff]; simp [opOkB] at *; try omega), by repeat (first | exact Below.refl _ _ | refine Below.alloc ?_ (by simp <;> omega) _ | refine below_grow_of ?_ (by simp <;> omega) _ _ | refine Below.drew ?_)⟩))
  · by_cases h1 : 1 ≤ k
    · go_enter Try.func102, Try.ntmps102
      go_wp2
      all_goals (go_ret; exact ⟨ret_bool (by rw [Bool.eq_iff_iff]; simp [opOkB] at *; try omega), by repeat (first | exact Below.refl _ _ | refine Below.alloc ?_ (by simp <;> omega) _ | refine below_grow_of ?_ (by simp <;> omega) _ _ | refine Below.drew ?_)⟩)
    · go_enter Try.func102, Try.ntmps102
      go_wp2
      all_goals (go_ret; exact ⟨ret_bool (by rw [Bool.eq_iff_iff]; simp [opOkB] at *; try omega), by repeat (first | exact Below.refl _ _ | refine Below.alloc ?_ (by simp <;> omega) _ | refine below_grow_of ?_ (by simp <;> omega) _ _ | refine Below.drew ?_)⟩)

def opOkS (o : Op) : Bool := opOkB o.Kind o.Cell o.Size o.Val
def todoOkB (ll : List (List Op)) : Bool := (ll.length == 3) && ll.all fun q => decide (q.length ≤ 12) && q.all opOkS
theorem OwLL.nil_ {α : Type} {T : FT α} {e E : TypeId} {w : World} : OwLL T e E w (.slice none 0 0) [] [] := ⟨rfl, World.ownsRow_nil _ _ _ _, fun k s l h => by simp at h, by simp [foot2, foot1, Value.ownBlock]⟩

set_option maxHeartbeats 1000000 in
theorem todoOk2_impl (x : Op) (w : World) : Calls Try.prog 110 #[.agg #[.int .i64 x.Kind, .int .i64 x.Cell, .int .i64 x.Size, .int .i64 x.Val]] w fun e w' => e = .returned (.bool (!opOkS x)) ∧ Below w.heap.size w w' := by
  have k := opOk_impl x.Kind x.Cell x.Size x.Val
  rw [show opOkB x.Kind x.Cell x.Size x.Val = opOkS x from rfl] at k
  go_enter Try.func110, Try.ntmps110
  go_wp2_with fail
  refine (k _).mono ?_
  rintro e w1 ⟨rfl, hb1⟩
  go_wp2
  go_ret
  exact ⟨rfl, ((Below.refl _ _).alloc (Nat.le_refl _) _).trans (hb1.mono (by simp))⟩
set_option maxHeartbeats 1000000 in
theorem todoOk1_impl (A : Option Addr) (c : Nat) (l : List Op) (w : World) (h : RdL FOp w w.heap.size (.slice A l.length c) l) :
    Calls Try.prog 108 #[.agg #[.slice A l.length c]] w fun e w' => e = .returned (.bool (!(decide (l.length ≤ 12) && l.all opOkS))) ∧ Below w.heap.size w w' := by
  obtain ⟨_, hln⟩ := RdL.len_ h
  have HA := Hid.mk_ (all_not_any opOkS l)
  by_cases c12 : l.length ≤ 12
  · have HD := Hid.mk_ (decide_eq_true c12)
    go_enter Try.func108, Try.ntmps108
    go_wp2_with fail
    refine (ContainsFuncOp_ct _ _ l (rd_up h (by repeat (first | exact Below.refl _ _ | refine Below.alloc ?_ (by simp <;> omega) _ | refine below_grow_of ?_ (by simp <;> omega) _ _ | refine Below.drew ?_ | refine below_drewN ?_ _))) 110 #[] (fun o => !opOkS o) (fun _ _ => by kernel_rfl) (fun x W _ _ => todoOk2_impl x W)).mono ?_
    rintro e w1 ⟨rfl, hb1⟩
    go_wp2
    go_ret
    exact ⟨ret_bool (by rw [HD.out, HA.out]; simp; try (intro hh; omega)), ((Below.refl _ _).alloc (Nat.le_refl _) _).trans (hb1.mono (by simp))⟩
  · have HD := Hid.mk_ (decide_eq_false c12)
    have c13 : 12 < l.length := by omega
    clear c12
    go_enter Try.func108, Try.ntmps108
    go_wp2
    go_ret
    exact ⟨ret_bool (by rw [HD.out]; simp), by repeat (first | exact Below.refl _ _ | refine Below.alloc ?_ (by simp <;> omega) _ | refine below_grow_of ?_ (by simp <;> omega) _ _ | refine Below.drew ?_ | refine below_drewN ?_ _)⟩
set_option maxHeartbeats 1000000 in
theorem todoOk_impl (w : World) (v : Value) (t : List SV) (ll : List (List Op)) (h : RdLL FOp w w.heap.size v t ll) :
    Calls Try.prog 69 #[v] w fun e w' => e = .returned (.bool (todoOkB ll)) ∧ Below w.heap.size w w' := by
  obtain ⟨A, c, hv, _⟩ := id h.outer
  subst hv
  obtain ⟨en, hcap, hmx⟩ := h.len'
  have hlt0 : ll.length ≤ 9223372036854775807 := by unfold maxLen at hmx; omega
  rw [en] at h ⊢
  clear en hcap hmx
  have HE := Hid.mk_ (show todoOkB ll = ((ll.length == 3) && ll.all fun q => decide (q.length ≤ 12) && q.all opOkS) from rfl)
  have HA := Hid.mk_ (all_not_any (fun q : List Op => decide (q.length ≤ 12) && q.all opOkS) ll)
  by_cases c3 : ll.length = 3
  case neg =>
    have c3' : ((ll.length : Int) == 3) = false := by simp; omega
    have HF := Hid.mk_ (show (ll.length == 3) = false by simpa using c3)
    clear c3
    go_enter Try.func69, Try.ntmps69
    go_wp2
    go_ret
    exact ⟨ret_bool (by rw [HE.out, HF.out]; rfl), Below.refl _ _⟩
  have c3' : ((ll.length : Int) == 3) = true := by simp; omega
  have HF := Hid.mk_ (show (ll.length == 3) = true by simpa using c3)
  clear c3
  go_enter Try.func69, Try.ntmps69
  go_wp2_with fail
  refine (ContainsFuncQ_ct _ _ t ll h 108 #[] (fun q => !(decide (q.length ≤ 12) && q.all opOkS)) (fun _ _ _ _ => by kernel_rfl) (fun A c l W _ hr => todoOk1_impl A c l W hr)).mono ?_
  rintro e w1 ⟨rfl, hb1⟩
  go_wp2
  go_ret
  exact ⟨ret_bool (by rw [HE.out, HF.out, HA.out]; simp), hb1⟩

set_option maxRecDepth 100000 in
set_option maxHeartbeats 2000000 in
theorem todoOk_spec (w : World) (v : Value) (t : List SV) (ll : List (List Op)) (h : RdLL FOp w w.heap.size v t ll) :
    Calls Try.prog 65 #[v] w fun e w' => e = .returned (.bool (todoOkB ll)) ∧ Below w.heap.size w w' := by
  obtain ⟨A, c, hv, _⟩ := id h.outer
  subst hv
  obtain ⟨en, hcap, hmx⟩ := h.len'
  have hlt0 : ll.length ≤ 9223372036854775807 := by unfold maxLen at hmx; omega
  rw [en] at h ⊢
  clear en hcap hmx
  have HE := Hid.mk_ (show todoOkB ll = ((ll.length == 3) && ll.all fun q => decide (q.length ≤ 12) && q.all opOkS) from rfl)
  go_enter Try.func65, Try.ntmps65
  go_wp2
  go_loopw [3] (fun i wr => ∃ k : Nat, k ≤ ll.length ∧ i = .int .i64 k ∧ Hid ((ll.take k).all (fun q => decide (q.length ≤ 12) && q.all opOkS) = true) ∧ Below w.heap.size w wr) (fun i _ => ll.length - (intOf i).toNat)
  case atStart => exact ⟨0, Nat.zero_le _, rfl, rfl, Below.refl _ _⟩
  case round =>
    obtain ⟨i, hi, rfl, HT, hb⟩ := hrel
    by_cases hlt : i < ll.length
    · obtain ⟨g, o, A', c', rfl, hg, p0, r1⟩ := h.row hb hlt
      obtain ⟨_, hln⟩ := RdL.len_ r1
      have HS := Hid.mk_ (show (ll.take (i + 1)).all (fun q => decide (q.length ≤ 12) && q.all opOkS) = ((ll.take i).all (fun q => decide (q.length ≤ 12) && q.all opOkS) && (decide (ll[i].length ≤ 12) && ll[i].all opOkS)) by rw [List.take_succ_eq_append_getElem hlt, List.all_append]; simp)
      have HX := Hid.mk_ (fun hp : (decide (ll[i].length ≤ 12) && ll[i].all opOkS) = false => (show todoOkB ll = false by rw [HE.out, show (ll.all fun q => decide (q.length ≤ 12) && q.all opOkS) = false from List.all_eq_false.2 ⟨ll[i], List.getElem_mem hlt, by simpa using hp⟩]; simp))
      clear h
      generalize ll[i] = l at *
      by_cases c12 : l.length ≤ 12
      case neg =>
        have HN := Hid.mk_ (HX.out (by rw [decide_eq_false c12]; rfl))
        have c13 : 12 < l.length := by omega
        clear c12
        go_wp2
        go_ret
        exact ⟨ret_bool HN.out.symm, hb⟩
      have HD := Hid.mk_ (decide_eq_true c12)
      go_wp2
      go_loopw [4] (fun i wr' => ∃ k : Nat, k ≤ l.length ∧ i = .int .i64 k ∧ Hid ((l.take k).all opOkS = true) ∧ Below w.heap.size w wr') (fun i _ => l.length - (intOf i).toNat)
      case atStart => exact ⟨0, Nat.zero_le _, rfl, rfl, hb⟩
      case round =>
        obtain ⟨j, hj, rfl, HU, hb2⟩ := hrel
        have p2 := (hb2.cell (p := ⟨g, o + i, none⟩) hg).trans ((hb.cell (p := ⟨g, o + i, none⟩) hg).symm.trans p0)
        by_cases hl2 : j < l.length
        · obtain ⟨g2, o2, cap2, he, hg2, _, _, hc⟩ := (r1.below hb2).at_ (List.getElem?_eq_getElem hl2)
          injection he with he1 he2 he3
          clear he2
          subst he1 he3
          have z0 : wr.cell? ⟨g2, o2 + j * 4, none⟩ = some (.int .i64 l[j].Kind) := hc 0 _ rfl
          have z1 : wr.cell? ⟨g2, o2 + j * 4 + 1, none⟩ = some (.int .i64 l[j].Cell) := hc 1 _ rfl
          have z2 : wr.cell? ⟨g2, o2 + j * 4 + 2, none⟩ = some (.int .i64 l[j].Size) := hc 2 _ rfl
          have z3 : wr.cell? ⟨g2, o2 + j * 4 + 3, none⟩ = some (.int .i64 l[j].Val) := hc 3 _ rfl
          clear hc r1
          have HS2 := Hid.mk_ (show (l.take (j + 1)).all opOkS = ((l.take j).all opOkS && opOkS l[j]) by rw [List.take_succ_eq_append_getElem hl2, List.all_append]; simp)
          have HX2 := Hid.mk_ (fun hp : opOkS l[j] = false => (show l.all opOkS = false from List.all_eq_false.2 ⟨l[j], List.getElem_mem hl2, by rw [hp]; decide⟩))
          have k := opOk_spec l[j].Kind l[j].Cell l[j].Size l[j].Val
          rw [show opOkB l[j].Kind l[j].Cell l[j].Size l[j].Val = opOkS l[j] from rfl] at k
          generalize l[j] = op at *
          cases hop : opOkS op with
          | false =>
            rw [hop] at k
            have HN := Hid.mk_ (HX.out (by rw [HX2.out hop, Bool.and_false]))
            clear hop
            go_wp2_with fail
            refine (k _).mono ?_
            rintro e w5 ⟨rfl, hb5⟩
            go_wp2
            go_ret
            exact ⟨ret_bool HN.out.symm, hb2.trans (hb5.mono hb2.size)⟩
          | true =>
            rw [hop] at k
            have HN := Hid.mk_ (show (l.take (j + 1)).all opOkS = true by rw [HS2.out, HU.out, hop]; rfl)
            clear hop
            go_wp2_with fail
            refine (k _).mono ?_
            rintro e w5 ⟨rfl, hb5⟩
            go_wp2
            go_roundw
            case rel => exact ⟨j + 1, by omega, by go_num, HN, hb2.trans (hb5.mono hb2.size)⟩
            case measure => simp [intOf]; omega
        · have HL := Hid.mk_ (show l.all opOkS = true by have a := HU.out; rwa [List.take_of_length_le (by omega)] at a)
          have HN := Hid.mk_ (show (ll.take (i + 1)).all (fun q => decide (q.length ≤ 12) && q.all opOkS) = true by rw [HS.out, HT.out, HD.out, HL.out]; rfl)
          go_wp2
          go_roundw
          case rel => exact ⟨i + 1, by omega, by go_num, HN, hb2⟩
          case measure => simp [intOf]; omega
    · have HL := Hid.mk_ (show (ll.all fun q => decide (q.length ≤ 12) && q.all opOkS) = true by have a := HT.out; rwa [List.take_of_length_le (by omega)] at a)
      go_wp2
      go_ret
      exact ⟨ret_bool (by rw [HE.out, HL.out, Bool.and_true, Bool.eq_iff_iff]; simp; omega), hb⟩
end Go.Proofs.Ytdepckmjgpkjmaa

/-
  New shelves: what they are.
-/
namespace Go.Proofs.Ytdepckmjgpkjmaa
open Go.RowKit

def zeroJob : Job := ⟨false, ⟨0, 0, 0, 0⟩, 0, 0, ⟨0, 0, 0, 0, 0, 0, 0, 0, 0, false⟩, 0, 0, 0, 0⟩
def newShelf (ll : List (List Op)) : Shelf := ⟨newBase, List.replicate 2 0, List.replicate 3 zeroJob, ll, [], 0⟩
def noShelf : Shelf := ⟨⟨⟨⟨[], []⟩, ⟨[], []⟩⟩, ⟨0, []⟩, [], []⟩, [], [], [], [], 0⟩
def shelfNewP (ll : List (List Op)) : Shelf := if todoOkB ll = true then newShelf ll else noShelf
theorem OwL.made_at {α : Type} {T : FT α} {F : List Nat} (z : Array Value) (hz : z.toList = T.enc T.dflt) (n : Nat) (hn : n ≤ maxLen) {X W : World} {ty : TypeId} {g : Nat} (hc : Chg F (X.alloc (.cells (madeCells z (n * T.n)) ty)) W) (hg : g = X.heap.size) (hf : g ∉ F) :
    OwL T ty W (.slice (some ⟨g, 0, none⟩) n n) (List.replicate n T.dflt) := by
  subst hg
  exact (OwL.made T z hz n hn X ty).chg hc (fun b hb hm => by simp [foot1, Value.ownBlock] at hb; subst hb; exact hf hm)
theorem chg_below {F : List Nat} {w Wp W' : World} (hb : Below Wp.heap.size Wp W') (h : Chg F w Wp) : Chg F w W' := h.trans (Chg.of_below hb)
theorem box_step {g : Nat} {vs : List Value} {w Wp W' : World} (hb : Below Wp.heap.size Wp W') (h : Box w g vs) (hc : Chg [] w Wp) : Box W' g vs := (h.chg hc (by simp)).below hb

theorem Chg.drew_ {F : List Nat} {w w' : World} (h : Chg F w w') : Chg F w w'.drew := ⟨h.os, h.tape, h.output, h.size, h.block⟩
theorem below_of_chg {w w' : World} (h : Chg [] w w') : Below w.heap.size w w' := h.below (Nat.le_refl _) (fun g hg => by simp at hg)
theorem noShelf_own (w : World) : OwShelf w ⟨⟨⟨⟨⟨none, 0, 0⟩, ⟨none, 0, 0⟩⟩, ⟨⟨none, 0, 0⟩, [], ⟨none, 0, 0⟩, []⟩⟩, ⟨⟨none, 0, 0⟩⟩, ⟨none, 0, 0⟩, [], ⟨none, 0, 0⟩⟩, ⟨none, 0, 0⟩, ⟨none, 0, 0⟩, ⟨none, 0, 0⟩, [], ⟨none, 0, 0⟩⟩ noShelf := by
  have n1 : ∀ {α : Type} {T : FT α} {e : TypeId}, OwL T e w (SV.val ⟨none, 0, 0⟩) [] := World.ownsRow_nil _ _ _ _
  have n2 : ∀ {α : Type} {T : FT α} {e E : TypeId}, OwLL T e E w (SV.val ⟨none, 0, 0⟩) [] [] := OwLL.nil_
  refine ⟨⟨⟨⟨n1, n1, ?_⟩, ⟨n2, n2, ?_⟩, ?_⟩, ⟨n1⟩, n2, n1, ?_, ?_, ?_, ?_, ?_, ?_⟩, n1, n1, n2, n1, ?_, ?_, ?_, ?_, ?_, ?_, ?_, ?_, ?_, ?_⟩
  all_goals
    intro g hg
    simp [HShelf.foot, HBase.foot, HMem.foot, HHeap.foot, HLists.foot, HClock.foot, foot1, foot2, SV.val, Value.ownBlock] at hg
theorem Box.range_ {w : World} {g : Nat} {vs : List Value} (h : Box w g vs) : w.rangeAt g 0 vs := fun j v hv => by rw [Nat.zero_add]; exact h.cell j v hv
theorem Try.sizeShelf : (Try.prog.info? 69).map (·.size) = some 13 := by kernel_rfl
theorem World.size_drew_ (w : World) : w.drew.heap.size = w.heap.size := rfl
end Go.Proofs.Ytdepckmjgpkjmaa

