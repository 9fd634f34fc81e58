/-
  Limbo lists copied.
-/
import Derived.Test.YtobcdcfbhfoheaaT
import Derived.Test.YtobcdcfbhfoheaaL
import Derived.Deep.QuietTactic
import Derived.BigQuiet
import Derived.Deep.LoopGhost
import Derived.Deep.RegionHeld3
import Derived.Test.YtobcdcfbhfoheaaN
import Derived.Test.YtobcdcfbhfoheaaA
import Derived.WalkSpells
import Derived.Laws.Cover3
import Derived.Test.YtobcdcfbhfoheaaK
namespace Go.Proofs.Ytobcdcfbhfoheaa
open Go.RowKit

theorem foot1_nodup (v : Value) : (foot1 v).Nodup := by
  unfold foot1
  cases v.ownBlock <;> simp
theorem OwLL.snoc {α : Type} {T : FT α} {e E : TypeId} {w w' : World} {v v' : Value} {svs : List SV} {ll : List (List α)} (h : OwLL T e E w v svs ll) {s : SV} {l : List α} (hl : OwL T e w s.val l) (hd : ∀ g ∈ foot1 s.val, g ∉ foot2 v svs)
    (ho : OwL FS E w' v' (svs ++ [s])) (hg : w.grownBy w' v.ownBlock) (hat : v'.ownBlock = v.ownBlock ∨ v'.ownBlock = some w.heap.size) : OwLL T e E w' v' (svs ++ [s]) (ll ++ [l]) := by
  have hc := Chg.of_grown hg
  have hn := h.nodup
  unfold foot2 at hn
  rw [List.nodup_append] at hn
  obtain ⟨hn1, hn2, hn3⟩ := hn
  refine ⟨by simp [h.len], ho, fun k s' l' hk hl' => ?_, ?_⟩
  · by_cases hks : k < svs.length
    · rw [List.getElem?_append_left hks] at hk
      rw [List.getElem?_append_left (by rw [← h.len]; exact hks)] at hl'
      have hi := h.inner k s' l' hk hl'
      exact hi.chg hc fun g hg1 hg2 => hn3 g hg2 g (List.mem_flatMap.2 ⟨s', List.mem_of_getElem? hk, hg1⟩) rfl
    · rw [List.getElem?_append_right (by omega)] at hk
      rw [List.getElem?_append_right (by rw [← h.len]; omega), ← h.len] at hl'
      have hk0 : k - svs.length = 0 := by
        have := (List.getElem?_eq_some_iff.1 hk).1
        simp at this
        omega
      rw [hk0] at hk hl'
      cases hk
      cases hl'
      exact hl.chg hc fun g hg1 hg2 => hd g hg1 (mem_foot2.2 (.inl (mem_foot1.1 hg2)))
  · unfold foot2
    rw [List.flatMap_append, List.nodup_append]
    refine ⟨foot1_nodup _, ?_, fun a ha b hb => ?_⟩
    · rw [List.nodup_append]
      refine ⟨hn2, by simpa using foot1_nodup s.val, fun a ha b hb => ?_⟩
      rintro rfl
      have hb' : a ∈ foot1 s.val := by simpa using hb
      exact hd a hb' (by unfold foot2; exact List.mem_append.2 (.inr ha))
    · rintro rfl
      rcases foot_app hat a ha with h1 | h1
      · rcases List.mem_append.1 hb with h2 | h2
        · exact hn3 a h1 a h2 rfl
        · have h2' : a ∈ foot1 s.val := by simpa using h2
          exact hd a h2' (mem_foot2.2 (.inl (mem_foot1.1 h1)))
      · rcases List.mem_append.1 hb with h2 | h2
        · have := h.lt a (by unfold foot2; exact List.mem_append.2 (.inr h2))
          omega
        · have h2' : a ∈ foot1 s.val := by simpa using h2
          have := foot_lt hl a h2'
          omega
theorem Try.stSV : ST Try.prog FS 40 60 := ⟨Try.underlying40, .agg #[.slice none 0 0], 24, by kernel_rfl, rfl, by decide⟩

set_option maxHeartbeats 400000 in
theorem CloneLRow_ct (w : World) (v : Value) (l : List LRow) (h : RdL FLRow w w.heap.size v l) (hs : l.length ≤ 1073741824) :
    Calls Try.prog 96 #[v] w fun e w' => ∃ v', e = .returned v' ∧ OwL FLRow 75 w' v' l ∧ (∀ g ∈ foot1 v', w.heap.size ≤ g) ∧ Below w.heap.size w w' := by
  obtain ⟨A, c, hv, _, _, q3⟩ := id h
  subst hv
  have heq := fun w => Lib.run_eql_slice_nil (P := Try.prog) w 58 75 A l.length c 0 0 Try.underlying58
  cases A with
  | none =>
    have hl : l = [] := by
      apply Classical.byContradiction
      intro hne
      obtain ⟨g, off, hA, _⟩ := q3 hne
      cases hA
    have HL := Hid.mk_ hl
    clear hl q3 h
    go_enter Try.func96, Try.ntmps96
    go_wp2
    go_ret
    exact ⟨_, rfl, by rw [HL.out]; exact World.ownsRow_nil _ _ _ _, by simp [foot1, Value.ownBlock], Below.refl _ _⟩
  | some a =>
    go_enter Try.func96, Try.ntmps96
    go_wp2_with (at_builtin; refine wpList_append_flat Try.stLRow rfl _ _ rfl (v := .slice (some ⟨w.heap.size, 0, none⟩) 0 0) (y := .slice (some a) l.length c) (l := []) (m := l) rfl rfl (OwL.lit FLRow [] #[] rfl (by simp [maxLen]) _ _) (h.alloc_ (Nat.le_refl _) (Nat.le_succ _) _) (by simpa using hs) ?_; intro v' w1 ho hg hat)
    go_ret
    have hb : Below w.heap.size w w1 := ((Below.refl _ _).alloc (Nat.le_refl _) _).grown hg (by simp) (by simp [Value.ownBlock])
    exact ⟨v', rfl, by simpa using ho, fun g hg' => by rcases foot_app hat g hg' with h | h; (simp [foot1, Value.ownBlock] at h; omega); (simp at h; omega), hb⟩

set_option maxRecDepth 100000 in
set_option maxHeartbeats 1000000 in
theorem copyLimbo_impl (w : World) (v : Value) (t : List SV) (ll : List (List LRow)) (h : RdLL FLRow w w.heap.size v t ll) (hs : szLL ll ≤ 536870912) :
    Calls Try.prog 78 #[v] w fun e w' => ∃ v' t', e = .returned v' ∧ OwLL FLRow 75 60 w' v' t' ll ∧ (∀ g ∈ foot2 v' t', w.heap.size ≤ g) ∧ Below w.heap.size w w' := by
  obtain ⟨A, c, hv, _⟩ := id h.outer
  subst hv
  obtain ⟨en, hcap, hmx⟩ := h.len'
  have hlt0 : ll.length ≤ 9223372036854775807 := by unfold maxLen at hmx; omega
  rw [en] at h ⊢
  clear en hcap hmx
  have hs0 : ll.length ≤ 536870912 := Nat.le_trans (Nat.le_add_right _ _) hs
  have o0 : OwLL FLRow 75 60 (w.alloc (.cells #[] 60)) (.slice (some ⟨w.heap.size, 0, none⟩) 0 0) [] [] := ⟨rfl, OwL.lit FS [] #[] rfl (by decide) w 60, fun k s l h => by simp at h, by simp [foot2, foot1, Value.ownBlock]⟩
  go_enter Try.func78, Try.ntmps78
  go_wp2
  go_loopw [3, 5, 9] (fun o _ i wr => ∃ k : Nat, k ≤ ll.length ∧ i = .int .i64 k ∧ (∃ t', OwLL FLRow 75 60 wr o t' (ll.take k) ∧ (∀ g ∈ foot2 o t', w.heap.size ≤ g)) ∧ Below w.heap.size w wr) (fun _ _ i _ => ll.length - (intOf i).toNat)
  case atStart => exact ⟨0, Nat.zero_le _, rfl, ⟨[], o0, by simp [foot2, foot1, Value.ownBlock]⟩, (Below.refl _ _).alloc (Nat.le_refl _) _⟩
  case round =>
    obtain ⟨i, hi, rfl, ⟨t', ho, hfo⟩, hb⟩ := hrel
    clear o0
    by_cases hlt : i < ll.length
    · obtain ⟨g, o, A', c', rfl, hg, p0, r1⟩ := h.row hb hlt
      have hlen : ll[i].length ≤ 1073741824 := by have := le_szLL (List.getElem_mem hlt); omega
      have htl : t'.length ≤ 536870912 := by rw [ho.len, List.length_take]; omega
      have hbW : Below w.heap.size w (wr.alloc (.cells #[.slice A' ll[i].length c'] 60)) := hb.alloc hb.size _
      have z1 : g < wr.heap.size := Nat.lt_of_lt_of_le hg hb.size
      have HTk := Hid.mk_ (List.take_succ_eq_append_getElem hlt)
      clear h
      go_wp2_with (first | (go_at_call 96; refine (CloneLRow_ct _ _ ll[i] (rd_up r1 hbW) hlen).mono ?_; rintro e w1 ⟨vs, rfl, hos, hfs, hb1⟩; have hbb : Below wr.heap.size wr w1 := ((Below.refl _ _).alloc (Nat.le_refl _) _).trans (hb1.mono (by simp)); have hfs2 : ∀ g ∈ foot1 vs, wr.heap.size ≤ g := (fun g hg => by have := hfs g hg; simp at this; omega); obtain ⟨A2, c2, hv2, _⟩ := hos.rd'; subst hv2) | (at_builtin; refine wpList_append_flat Try.stSV rfl _ _ rfl (v := u3) (y := .slice (some ⟨w1.heap.size, 0, none⟩) 1 1) (l := t') (m := [⟨A2, ll[i].length, c2⟩]) rfl rfl ((ho.keep (fun g hg => hbb.block g (ho.lt g hg))).outer.alloc_ _) (OwL.lit FS [⟨A2, ll[i].length, c2⟩] #[.slice A2 ll[i].length c2] rfl (by simp [maxLen]) w1 60).rd' (by simp only [List.length_singleton]; omega) ?_; intro v' w3 ho' hg' hat'))
      have hsn := OwLL.snoc ((ho.keep (fun g hg => hbb.block g (ho.lt g hg))).alloc_ (.cells #[.slice A2 ll[i].length c2] 60)) (s := ⟨A2, ll[i].length, c2⟩) (hos.alloc_ _) (fun g hg hm => by have a := hfs2 g hg; have b := ho.lt g hm; omega) ho' hg' hat'
      have hbb2 : Below w.heap.size w w1 := hb.trans (hbb.mono hb.size)
      have hb3 : Below w.heap.size w w3 := (hbb2.alloc hbb2.size _).grown hg' (by simp; exact Nat.le_succ_of_le hbb2.size) (fun k hk => hfo k (mem_foot2.2 (.inl hk)))
      go_roundw
      case rel =>
        refine ⟨i + 1, by omega, by go_num, ⟨_, by rw [HTk.out]; exact hsn, fun b hb' => ?_⟩, hb3⟩
        unfold foot2 at hb'
        rw [List.flatMap_append] at hb'
        rcases List.mem_append.1 hb' with h1 | h1
        · rcases foot_app hat' b h1 with h2 | h2
          · exact hfo b (mem_foot2.2 (.inl (mem_foot1.1 h2)))
          · have := hbb2.size
            simp at h2
            omega
        · rcases List.mem_append.1 h1 with h2 | h2
          · exact hfo b (by unfold foot2; exact List.mem_append.2 (.inr h2))
          · have h4 : b ∈ foot1 (SV.val ⟨A2, ll[i].length, c2⟩) := by simpa using h2
            have := hfs2 b h4
            have := hb.size
            omega
      case measure => simp [intOf]; omega
    · go_wp2
      go_ret
      obtain rfl : i = ll.length := by omega
      exact ⟨u3, t', rfl, by simpa using ho, hfo, hb⟩

set_option maxRecDepth 100000 in
set_option maxHeartbeats 1000000 in
theorem copyLimbo_spec (w : World) (v : Value) (t : List SV) (ll : List (List LRow)) (h : RdLL FLRow w w.heap.size v t ll) (hs : szLL ll ≤ 536870912) :
    Calls Try.prog 77 #[v] w fun e w' => ∃ v' t', e = .returned v' ∧ OwLL FLRow 75 60 w' v' t' ll ∧ (∀ g ∈ foot2 v' t', w.heap.size ≤ g) ∧ Below w.heap.size w w' := by
  obtain ⟨A, c, hv, _⟩ := id h.outer
  subst hv
  obtain ⟨en, hcap, hmx⟩ := h.len'
  have hlt0 : ll.length ≤ 9223372036854775807 := by unfold maxLen at hmx; omega
  rw [en] at h ⊢
  clear en hcap hmx
  have hs0 : ll.length ≤ 536870912 := Nat.le_trans (Nat.le_add_right _ _) hs
  have o0 : OwLL FLRow 75 60 (w.alloc (.cells #[] 60)) (.slice (some ⟨w.heap.size, 0, none⟩) 0 0) [] [] := ⟨rfl, OwL.lit FS [] #[] rfl (by decide) w 60, fun k s l h => by simp at h, by simp [foot2, foot1, Value.ownBlock]⟩
  go_enter Try.func77, Try.ntmps77
  go_wp2
  go_loopw [3, 4] (fun o i wr => ∃ k : Nat, k ≤ ll.length ∧ i = .int .i64 k ∧ (∃ t', OwLL FLRow 75 60 wr o t' (ll.take k) ∧ (∀ g ∈ foot2 o t', w.heap.size ≤ g)) ∧ Below w.heap.size w wr) (fun _ i _ => ll.length - (intOf i).toNat)
  case atStart => exact ⟨0, Nat.zero_le _, rfl, ⟨[], o0, by simp [foot2, foot1, Value.ownBlock]⟩, (Below.refl _ _).alloc (Nat.le_refl _) _⟩
  case round =>
    obtain ⟨i, hi, rfl, ⟨t', ho, hfo⟩, hb⟩ := hrel
    clear o0
    by_cases hlt : i < ll.length
    · obtain ⟨g, o, A', c', rfl, hg, p0, r1⟩ := h.row hb hlt
      have hlen : ll[i].length ≤ 1073741824 := by have := le_szLL (List.getElem_mem hlt); omega
      have htl : t'.length ≤ 536870912 := by rw [ho.len, List.length_take]; omega
      have hbW : Below w.heap.size w (wr.alloc (.cells #[] 75)) := hb.alloc hb.size _
      have z1 : g < wr.heap.size := Nat.lt_of_lt_of_le hg hb.size
      have HTk := Hid.mk_ (List.take_succ_eq_append_getElem hlt)
      clear h
      go_wp2_with (first | (at_builtin; refine wpList_append_flat Try.stLRow rfl _ _ rfl (v := .slice (some ⟨wr.heap.size, 0, none⟩) 0 0) (y := .slice A' ll[i].length c') (l := []) (m := ll[i]) rfl rfl (OwL.lit FLRow [] #[] rfl (by simp [maxLen]) _ _) (rd_up r1 hbW) (by simpa using hlen) ?_; intro vs w1 hos hg hat; rw [List.nil_append] at hos; have hbb : Below wr.heap.size wr w1 := ((Below.refl _ _).alloc (Nat.le_refl _) _).grown hg (by simp) (by simp [Value.ownBlock]); have hfs2 : ∀ g ∈ foot1 vs, wr.heap.size ≤ g := (fun g hg' => by rcases foot_app hat g hg' with h | h; (simp [foot1, Value.ownBlock] at h; omega); (simp at h; omega)); obtain ⟨A2, c2, hv2, _⟩ := hos.rd'; subst hv2) | (at_builtin; refine wpList_append_flat Try.stSV rfl _ _ rfl (v := u3) (y := .slice (some ⟨w1.heap.size, 0, none⟩) 1 1) (l := t') (m := [⟨A2, ll[i].length, c2⟩]) rfl rfl ((ho.keep (fun g hg => hbb.block g (ho.lt g hg))).outer.alloc_ _) (OwL.lit FS [⟨A2, ll[i].length, c2⟩] #[.slice A2 ll[i].length c2] rfl (by simp [maxLen]) w1 60).rd' (by simp only [List.length_singleton]; omega) ?_; intro v' w3 ho' hg' hat'))
      have hsn := OwLL.snoc ((ho.keep (fun g hg => hbb.block g (ho.lt g hg))).alloc_ (.cells #[.slice A2 ll[i].length c2] 60)) (s := ⟨A2, ll[i].length, c2⟩) (hos.alloc_ _) (fun g hg hm => by have a := hfs2 g hg; have b := ho.lt g hm; omega) ho' hg' hat'
      have hbb2 : Below w.heap.size w w1 := hb.trans (hbb.mono hb.size)
      have hb3 : Below w.heap.size w w3 := (hbb2.alloc hbb2.size _).grown hg' (by simp; exact Nat.le_succ_of_le hbb2.size) (fun k hk => hfo k (mem_foot2.2 (.inl hk)))
      go_roundw
      case rel =>
        refine ⟨i + 1, by omega, by go_num, ⟨_, by rw [HTk.out]; exact hsn, fun b hb' => ?_⟩, hb3⟩
        unfold foot2 at hb'
        rw [List.flatMap_append] at hb'
        rcases List.mem_append.1 hb' with h1 | h1
        · rcases foot_app hat' b h1 with h2 | h2
          · exact hfo b (mem_foot2.2 (.inl (mem_foot1.1 h2)))
          · have := hbb2.size
            simp at h2
            omega
        · rcases List.mem_append.1 h1 with h2 | h2
          · exact hfo b (by unfold foot2; exact List.mem_append.2 (.inr h2))
          · have h4 : b ∈ foot1 (SV.val ⟨A2, ll[i].length, c2⟩) := by simpa using h2
            have := hfs2 b h4
            have := hb.size
            omega
      case measure => simp [intOf]; omega
    · go_wp2
      go_ret
      obtain rfl : i = ll.length := by omega
      exact ⟨u3, t', rfl, by simpa using ho, hfo, hb⟩
end Go.Proofs.Ytobcdcfbhfoheaa
