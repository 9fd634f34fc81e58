/-
  Copies of bytes, lists, heaps: the contracts.
-/
import Derived.Test.YtcligoicoeklfaaGreatT
import Derived.Test.YtcligoicoeklfaaGreatL
import Derived.Deep.QuietTactic
import Derived.BigQuiet
import Derived.Deep.LoopGhost
import Derived.Deep.RegionHeld3
import Derived.Test.YtcligoicoeklfaaGreatN
import Derived.Test.YtcligoicoeklfaaGreatA
import Derived.WalkSpells
import Derived.Laws.Cover3
import Derived.Test.YtcligoicoeklfaaGreatBI
import Derived.Test.YtcligoicoeklfaaGreatML0
namespace Go.Proofs.YtcligoicoeklfaaGreat
open Go.RowKit

theorem Chg.drew_ {F : List Nat} {w w' : World} (h : Chg F w w') : Chg F w w'.drew := ⟨h.os, h.tape, h.output, h.size, h.block⟩
theorem foot1_nodup (v : Value) : (foot1 v).Nodup := by
  unfold foot1
  cases v.ownBlock <;> simp
theorem OwLL.snoc {α : Type} {T : FT α} {e E : TypeId} {w w' : World} {v v' : Value} {svs : List SV} {ll : List (List α)} (h : OwLL T e E w v svs ll) {s : SV} {l : List α} (hl : OwL T e w s.val l) (hd : ∀ g ∈ foot1 s.val, g ∉ foot2 v svs)
    (ho : OwL FS E w' v' (svs ++ [s])) (hg : w.grownBy w' v.ownBlock) (hat : v'.ownBlock = v.ownBlock ∨ v'.ownBlock = some w.heap.size) : OwLL T e E w' v' (svs ++ [s]) (ll ++ [l]) := by
  have hc := Chg.of_grown hg
  have hn := h.nodup
  unfold foot2 at hn
  rw [List.nodup_append] at hn
  obtain ⟨hn1, hn2, hn3⟩ := hn
  refine ⟨by simp [h.len], ho, fun k s' l' hk hl' => ?_, ?_⟩
  · by_cases hks : k < svs.length
    · rw [List.getElem?_append_left hks] at hk
      rw [List.getElem?_append_left (by rw [← h.len]; exact hks)] at hl'
      have hi := h.inner k s' l' hk hl'
      exact hi.chg hc fun g hg1 hg2 => hn3 g hg2 g (List.mem_flatMap.2 ⟨s', List.mem_of_getElem? hk, hg1⟩) rfl
    · rw [List.getElem?_append_right (by omega)] at hk
      rw [List.getElem?_append_right (by rw [← h.len]; omega), ← h.len] at hl'
      have hk0 : k - svs.length = 0 := by
        have := (List.getElem?_eq_some_iff.1 hk).1
        simp at this
        omega
      rw [hk0] at hk hl'
      cases hk
      cases hl'
      exact hl.chg hc fun g hg1 hg2 => hd g hg1 (mem_foot2.2 (.inl (mem_foot1.1 hg2)))
  · unfold foot2
    rw [List.flatMap_append, List.nodup_append]
    refine ⟨foot1_nodup _, ?_, fun a ha b hb => ?_⟩
    · rw [List.nodup_append]
      refine ⟨hn2, by simpa using foot1_nodup s.val, fun a ha b hb => ?_⟩
      rintro rfl
      have hb' : a ∈ foot1 s.val := by simpa using hb
      exact hd a hb' (by unfold foot2; exact List.mem_append.2 (.inr ha))
    · rintro rfl
      rcases foot_app hat a ha with h1 | h1
      · rcases List.mem_append.1 hb with h2 | h2
        · exact hn3 a h1 a h2 rfl
        · have h2' : a ∈ foot1 s.val := by simpa using h2
          exact hd a h2' (mem_foot2.2 (.inl (mem_foot1.1 h1)))
      · rcases List.mem_append.1 hb with h2 | h2
        · have := h.lt a (by unfold foot2; exact List.mem_append.2 (.inr h2))
          omega
        · have h2' : a ∈ foot1 s.val := by simpa using h2
          have := foot_lt hl a h2'
          omega
set_option maxHeartbeats 400000 in
theorem CloneInt_ct (w : World) (v : Value) (l : List Int) (h : RdL FI w w.heap.size v l) (hs : l.length ≤ 1073741824) :
    Calls Tryz.prog 122 #[v] w fun e w' => ∃ v', e = .returned v' ∧ OwL FI 3 w' v' l ∧ (∀ g ∈ foot1 v', w.heap.size ≤ g) ∧ Below w.heap.size w w' := by
  obtain ⟨A, c, hv, _, _, q3⟩ := id h
  subst hv
  have heq := fun w => Lib.run_eql_slice_nil (P := Tryz.prog) w 22 3 A l.length c 0 0 Tryz.underlying22
  cases A with
  | none =>
    have hl : l = [] := by
      apply Classical.byContradiction
      intro hne
      obtain ⟨g, off, hA, _⟩ := q3 hne
      cases hA
    have HL := Hid.mk_ hl
    clear hl q3 h
    go_enter Tryz.func122, Tryz.ntmps122
    go_wp2
    go_ret
    exact ⟨_, rfl, by rw [HL.out]; exact World.ownsRow_nil _ _ _ _, by simp [foot1, Value.ownBlock], Below.refl _ _⟩
  | some a =>
    go_enter Tryz.func122, Tryz.ntmps122
    go_wp2_with (at_builtin; refine wpList_append_flat Tryz.stInt rfl _ _ rfl (v := .slice (some ⟨w.heap.size, 0, none⟩) 0 0) (y := .slice (some a) l.length c) (l := []) (m := l) rfl rfl (OwL.lit FI [] #[] rfl (by simp [maxLen]) _ _) (h.alloc_ (Nat.le_refl _) (Nat.le_succ _) _) (by simpa using hs) ?_; intro v' w1 ho hg hat)
    go_ret
    have hb : Below w.heap.size w w1 := ((Below.refl _ _).alloc (Nat.le_refl _) _).grown hg (by simp) (by simp [Value.ownBlock])
    exact ⟨v', rfl, by simpa using ho, fun g hg' => by rcases foot_app hat g hg' with h | h; (simp [foot1, Value.ownBlock] at h; omega); (simp at h; omega), hb⟩

set_option maxHeartbeats 400000 in
theorem l3Copy_ct (w : World) (v : Value) (l : List Int) (h : RdL FI w w.heap.size v l) (hs : l.length ≤ 1073741824) :
    Calls Tryz.prog 105 #[v] w fun e w' => ∃ v', e = .returned v' ∧ OwL FI 3 w' v' l ∧ (∀ g ∈ foot1 v', w.heap.size ≤ g) ∧ Below w.heap.size w w' := by
  obtain ⟨A, c, hv, _, _, q3⟩ := id h
  subst hv
  go_enter Tryz.func105, Tryz.ntmps105
  go_wp2_with (at_builtin; refine wpList_append_flat Tryz.stInt rfl _ _ rfl (v := .slice (some ⟨w.heap.size, 0, none⟩) 0 0) (y := .slice A l.length c) (l := []) (m := l) rfl rfl (OwL.lit FI [] #[] rfl (by simp [maxLen]) _ _) (h.alloc_ (Nat.le_refl _) (Nat.le_succ _) _) (by simpa using hs) ?_; intro v' w1 ho hg hat)
  go_ret
  have hb : Below w.heap.size w w1 := ((Below.refl _ _).alloc (Nat.le_refl _) _).grown hg (by simp) (by simp [Value.ownBlock])
  exact ⟨v', rfl, by simpa using ho, fun g hg' => by rcases foot_app hat g hg' with h | h; (simp [foot1, Value.ownBlock] at h; omega); (simp at h; omega), hb⟩

set_option maxRecDepth 100000 in
set_option maxHeartbeats 1000000 in
theorem l8Rows_spec (w : World) (v : Value) (t : List SV) (ll : List (List Int)) (h : RdLL FI w w.heap.size v t ll) (hs : szLL ll ≤ 536870912) :
    Calls Tryz.prog 106 #[v] w fun e w' => ∃ v' t', e = .returned v' ∧ OwLL FI 3 80 w' v' t' ll ∧ (∀ g ∈ foot2 v' t', w.heap.size ≤ g) ∧ Below w.heap.size w w' := by
  obtain ⟨A, c, hv, _⟩ := id h.outer
  subst hv
  obtain ⟨en, hcap, hmx⟩ := h.len'
  have hlt0 : ll.length ≤ 9223372036854775807 := by unfold maxLen at hmx; omega
  rw [en] at h ⊢
  clear en hcap hmx
  have hs0 : ll.length ≤ 536870912 := Nat.le_trans (Nat.le_add_right _ _) hs
  have o0 : OwLL FI 3 80 (w.alloc (.cells #[] 80)) (.slice (some ⟨w.heap.size, 0, none⟩) 0 0) [] [] := ⟨rfl, OwL.lit FS [] #[] rfl (by decide) w 80, fun k s l h => by simp at h, by simp [foot2, foot1, Value.ownBlock]⟩
  go_enter Tryz.func106, Tryz.ntmps106
  go_wp2
  go_loopw [3, 4] (fun o i wr => ∃ k : Nat, k ≤ ll.length ∧ i = .int .i64 k ∧ (∃ t', OwLL FI 3 80 wr o t' (ll.take k) ∧ (∀ g ∈ foot2 o t', w.heap.size ≤ g)) ∧ Below w.heap.size w wr) (fun _ i _ => ll.length - (intOf i).toNat)
  case atStart => exact ⟨0, Nat.zero_le _, rfl, ⟨[], o0, by simp [foot2, foot1, Value.ownBlock]⟩, (Below.refl _ _).alloc (Nat.le_refl _) _⟩
  case round =>
    obtain ⟨i, hi, rfl, ⟨t', ho, hfo⟩, hb⟩ := hrel
    clear o0
    by_cases hlt : i < ll.length
    · obtain ⟨g, o, A', c', rfl, hg, p0, r1⟩ := h.row hb hlt
      have hlen : ll[i].length ≤ 1073741824 := by have := le_szLL (List.getElem_mem hlt); omega
      have htl : t'.length ≤ 536870912 := by rw [ho.len, List.length_take]; omega
      have z1 : g < wr.heap.size := Nat.lt_of_lt_of_le hg hb.size
      have HTk := Hid.mk_ (List.take_succ_eq_append_getElem hlt)
      clear h
      go_wp2_with (first | (go_at_call 105; refine (l3Copy_ct _ _ ll[i] (rd_up r1 hb) hlen).mono ?_; rintro e w1 ⟨vs, rfl, hos, hfs2, hbb⟩; obtain ⟨A2, c2, hv2, _⟩ := hos.rd'; subst hv2) | (at_builtin; refine wpList_append_flat Tryz.stSL rfl _ _ rfl (v := u3) (y := .slice (some ⟨w1.heap.size, 0, none⟩) 1 1) (l := t') (m := [⟨A2, ll[i].length, c2⟩]) rfl rfl ((ho.keep (fun g hg => hbb.block g (ho.lt g hg))).outer.alloc_ _) (OwL.lit FS [⟨A2, ll[i].length, c2⟩] #[.slice A2 ll[i].length c2] rfl (by simp [maxLen]) w1 80).rd' (by simp only [List.length_singleton]; omega) ?_; intro v' w3 ho' hg' hat'))
      have hsn := OwLL.snoc ((ho.keep (fun g hg => hbb.block g (ho.lt g hg))).alloc_ (.cells #[.slice A2 ll[i].length c2] 80)) (s := ⟨A2, ll[i].length, c2⟩) (hos.alloc_ _) (fun g hg hm => by have a := hfs2 g hg; have b := ho.lt g hm; omega) ho' hg' hat'
      have hbb2 : Below w.heap.size w w1 := hb.trans (hbb.mono hb.size)
      have hb3 : Below w.heap.size w w3 := (hbb2.alloc hbb2.size _).grown hg' (by simp; exact Nat.le_succ_of_le hbb2.size) (fun k hk => hfo k (mem_foot2.2 (.inl hk)))
      go_roundw
      case rel =>
        refine ⟨i + 1, by omega, by go_num, ⟨_, by rw [HTk.out]; exact hsn, fun b hb' => ?_⟩, hb3⟩
        unfold foot2 at hb'
        rw [List.flatMap_append] at hb'
        rcases List.mem_append.1 hb' with h1 | h1
        · rcases foot_app hat' b h1 with h2 | h2
          · exact hfo b (mem_foot2.2 (.inl (mem_foot1.1 h2)))
          · have := hbb2.size
            simp at h2
            omega
        · rcases List.mem_append.1 h1 with h2 | h2
          · exact hfo b (by unfold foot2; exact List.mem_append.2 (.inr h2))
          · have h4 : b ∈ foot1 (SV.val ⟨A2, ll[i].length, c2⟩) := by simpa using h2
            have := hfs2 b h4
            have := hb.size
            omega
      case measure => simp [intOf]; omega
    · go_wp2
      go_ret
      obtain rfl : i = ll.length := by omega
      exact ⟨u3, t', rfl, by simpa using ho, hfo, hb⟩

theorem CloneInt_w (w : World) (K : SV) (l : List Int) (h : RdL FI w w.heap.size K.val l) (hs : l.length ≤ 1073741824) :
    Calls Tryz.prog 122 #[.slice K.a K.len K.cap] w fun e w' => ∃ K' : SV, e = .returned (.slice K'.a K'.len K'.cap) ∧ OwL FI 3 w' K'.val l ∧ (∀ g ∈ foot1 K'.val, w.heap.size ≤ g) ∧ Below w.heap.size w w' := by
  refine (CloneInt_ct w _ l h hs).mono ?_
  rintro e w1 ⟨v, rfl, ho, hf, hb⟩
  obtain ⟨A, c, hv, _⟩ := ho.rd'
  subst hv
  exact ⟨⟨A, l.length, c⟩, rfl, ho, hf, hb⟩
theorem l3Copy_w (w : World) (K : SV) (l : List Int) (h : RdL FI w w.heap.size K.val l) (hs : l.length ≤ 1073741824) :
    Calls Tryz.prog 105 #[.slice K.a K.len K.cap] w fun e w' => ∃ K' : SV, e = .returned (.slice K'.a K'.len K'.cap) ∧ OwL FI 3 w' K'.val l ∧ (∀ g ∈ foot1 K'.val, w.heap.size ≤ g) ∧ Below w.heap.size w w' := by
  refine (l3Copy_ct w _ l h hs).mono ?_
  rintro e w1 ⟨v, rfl, ho, hf, hb⟩
  obtain ⟨A, c, hv, _⟩ := ho.rd'
  subst hv
  exact ⟨⟨A, l.length, c⟩, rfl, ho, hf, hb⟩
theorem l8Rows_w (w : World) (K : SV) (t : List SV) (ll : List (List Int)) (h : RdLL FI w w.heap.size K.val t ll) (hs : szLL ll ≤ 536870912) :
    Calls Tryz.prog 106 #[.slice K.a K.len K.cap] w fun e w' => ∃ (K' : SV) (t' : List SV), e = .returned (.slice K'.a K'.len K'.cap) ∧ OwLL FI 3 80 w' K'.val t' ll ∧ (∀ g ∈ foot2 K'.val t', w.heap.size ≤ g) ∧ Below w.heap.size w w' := by
  refine (l8Rows_spec w _ t ll h hs).mono ?_
  rintro e w1 ⟨v, t', rfl, ho, hf, hb⟩
  obtain ⟨A, c, hv, _⟩ := ho.rd'.outer
  subst hv
  exact ⟨⟨A, t'.length, c⟩, t', rfl, ho, hf, hb⟩

set_option maxRecDepth 100000 in
set_option maxHeartbeats 2000000 in
theorem copyHeap_impl (w : World) (H : HHeap) (x : Heap) (h : RdHeap w w.heap.size H x) (hs : sizeHeap x ≤ 1073741824) :
    Calls Tryz.prog 76 #[.agg #[.slice H.Bytes.a H.Bytes.len H.Bytes.cap, .slice H.Class.a H.Class.len H.Class.cap]] w fun e w' => ∃ H' : HHeap, e = .returned (H'.val x) ∧ OwHeap w' H' x ∧ (∀ g ∈ H'.foot, w.heap.size ≤ g) ∧ Below w.heap.size w w' := by
  have hs1 : x.Bytes.length ≤ 1073741824 := Nat.le_trans (Nat.le_add_right _ _) hs
  have hs2 : x.Class.length ≤ 1073741824 := Nat.le_trans (Nat.le_add_left _ _) hs
  clear hs
  have ba : Box ((w.alloc (.cells #[.slice H.Bytes.a H.Bytes.len H.Bytes.cap, .slice H.Class.a H.Class.len H.Class.cap] 31)).alloc (.cells #[.slice none 0 0, .slice none 0 0] 31)) w.heap.size [.slice H.Bytes.a H.Bytes.len H.Bytes.cap, .slice H.Class.a H.Class.len H.Class.cap] := (Box.new w #[.slice H.Bytes.a H.Bytes.len H.Bytes.cap, .slice H.Class.a H.Class.len H.Class.cap] _).alloc _
  have br : Box ((w.alloc (.cells #[.slice H.Bytes.a H.Bytes.len H.Bytes.cap, .slice H.Class.a H.Class.len H.Class.cap] 31)).alloc (.cells #[.slice none 0 0, .slice none 0 0] 31)) (w.heap.size + 1) [.slice none 0 0, .slice none 0 0] := by
    have hb := Box.new (w.alloc (.cells #[.slice H.Bytes.a H.Bytes.len H.Bytes.cap, .slice H.Class.a H.Class.len H.Class.cap] 31)) #[.slice none 0 0, .slice none 0 0] 31
    rw [World.size_alloc] at hb
    exact hb
  have hB : Below w.heap.size w ((w.alloc (.cells #[.slice H.Bytes.a H.Bytes.len H.Bytes.cap, .slice H.Class.a H.Class.len H.Class.cap] 31)).alloc (.cells #[.slice none 0 0, .slice none 0 0] 31)) := by repeat (first | exact Below.refl _ _ | refine Below.alloc ?_ (by simp <;> omega) _ | refine below_grow_of ?_ (by simp <;> omega) _ _ | refine Below.drew ?_ | refine below_drewN ?_ _)
  go_enter Tryz.func76, Tryz.ntmps76
  go_wp2_with fail
  generalize hW0 : ((w.alloc (.cells #[.slice H.Bytes.a H.Bytes.len H.Bytes.cap, .slice H.Class.a H.Class.len H.Class.cap] 31)).alloc (.cells #[.slice none 0 0, .slice none 0 0] 31)) = w0 at ba br hB ⊢
  clear hW0
  have qa0 := ba.cell 0 _ rfl
  have qr0 := br.cell 0 _ rfl
  have qa1 := ba.cell 1 _ rfl
  have qr1 := br.cell 1 _ rfl
  have fr := br.fro
  have z0 := br.lt
  go_region_with (first | (go_at_call 122; (first | ((with_reducible refine (CloneInt_w _ H.Bytes x.Bytes (rd_up h.Bytes hB) hs1).mono ?_); rintro e w1 ⟨K0, rfl, o0, f0, hb⟩; replace ba := ba.below hb; replace br := br.below hb; replace hB := hB.trans (hb.mono hB.size); have sz := hb.size; have u0 := foot_lt o0; (try replace o1 := o1.step0 hb); replace qa0 := ba.cell 0 _ rfl; replace qr0 := br.cell 0 _ rfl; replace qa1 := ba.cell 1 _ rfl; replace qr1 := br.cell 1 _ rfl; replace fr := br.fro; clear hb) | ((with_reducible refine (CloneInt_w _ H.Bytes x.Bytes (rd_up h.Bytes hB.drew) hs1).mono ?_); rintro e w1 ⟨K0, rfl, o0, f0, hb⟩; replace hb := undrew hb; replace f0 := fcdrew f0; replace ba := ba.below hb; replace br := br.below hb; replace hB := hB.trans (hb.mono hB.size); have sz := hb.size; have u0 := foot_lt o0; (try replace o1 := o1.step0 hb); replace qa0 := ba.cell 0 _ rfl; replace qr0 := br.cell 0 _ rfl; replace qa1 := ba.cell 1 _ rfl; replace qr1 := br.cell 1 _ rfl; replace fr := br.fro; clear hb) | ((with_reducible refine (CloneInt_w _ H.Class x.Class (rd_up h.Class hB) hs2).mono ?_); rintro e w2 ⟨K1, rfl, o1, f1, hb⟩; replace ba := ba.below hb; replace br := br.below hb; replace hB := hB.trans (hb.mono hB.size); have sz := hb.size; have u1 := foot_lt o1; (try replace o0 := o0.step0 hb); replace qa0 := ba.cell 0 _ rfl; replace qr0 := br.cell 0 _ rfl; replace qa1 := ba.cell 1 _ rfl; replace qr1 := br.cell 1 _ rfl; replace fr := br.fro; clear hb) | ((with_reducible refine (CloneInt_w _ H.Class x.Class (rd_up h.Class hB.drew) hs2).mono ?_); rintro e w2 ⟨K1, rfl, o1, f1, hb⟩; replace hb := undrew hb; replace f1 := fcdrew f1; replace ba := ba.below hb; replace br := br.below hb; replace hB := hB.trans (hb.mono hB.size); have sz := hb.size; have u1 := foot_lt o1; (try replace o0 := o0.step0 hb); replace qa0 := ba.cell 0 _ rfl; replace qr0 := br.cell 0 _ rfl; replace qa1 := ba.cell 1 _ rfl; replace qr1 := br.cell 1 _ rfl; replace fr := br.fro; clear hb))))
  all_goals
    go_wp2_with fail
    refine bodyPost_ret (v := .agg #[.slice K0.a K0.len K0.cap, .slice K1.a K1.len K1.cap]) (by simp [results, Tryz.results76, go_sem, qr0, qr1]) rfl ⟨⟨K0, K1⟩, rfl, ⟨o0.chg (F := [w.heap.size + 1]) (by repeat (first | exact Chg.refl _ _ | refine Chg.set_ ?_ (by simp) _ | refine Chg.drew_ ?_)) (fun g hg hm => by simp only [List.mem_cons, List.not_mem_nil, or_false] at hm; have := f0 g hg; omega), o1.chg (F := [w.heap.size + 1]) (by repeat (first | exact Chg.refl _ _ | refine Chg.set_ ?_ (by simp) _ | refine Chg.drew_ ?_)) (fun g hg hm => by simp only [List.mem_cons, List.not_mem_nil, or_false] at hm; have := f1 g hg; omega), fun g hg hm => by have := u0 g hg; have := f0 g hg; have := u1 g hm; have := f1 g hm; omega⟩, fun g hg => ?_, ?_⟩
    · rcases HHeap.mem_foot.1 hg with hg | hg
      · have := f0 g hg
        omega
      · have := f1 g hg
        omega
    · exact Below.trans hB (by repeat (first | exact Below.refl _ _ | refine Below.setCell ?_ (by simp <;> omega) _ | refine Below.drew ?_))

set_option maxRecDepth 100000 in
set_option maxHeartbeats 2000000 in
theorem l7Copy_spec (w : World) (H : HHeap) (x : Heap) (h : RdHeap w w.heap.size H x) (hs : sizeHeap x ≤ 1073741824) :
    Calls Tryz.prog 57 #[.agg #[.slice H.Bytes.a H.Bytes.len H.Bytes.cap, .slice H.Class.a H.Class.len H.Class.cap]] w fun e w' => ∃ H' : HHeap, e = .returned (H'.val x) ∧ OwHeap w' H' x ∧ (∀ g ∈ H'.foot, w.heap.size ≤ g) ∧ Below w.heap.size w w' := by
  have hs1 : x.Bytes.length ≤ 1073741824 := Nat.le_trans (Nat.le_add_right _ _) hs
  have hs2 : x.Class.length ≤ 1073741824 := Nat.le_trans (Nat.le_add_left _ _) hs
  clear hs
  have ba : Box ((w.alloc (.cells #[.slice H.Bytes.a H.Bytes.len H.Bytes.cap, .slice H.Class.a H.Class.len H.Class.cap] 31)).alloc (.cells #[.slice none 0 0, .slice none 0 0] 31)) w.heap.size [.slice H.Bytes.a H.Bytes.len H.Bytes.cap, .slice H.Class.a H.Class.len H.Class.cap] := (Box.new w #[.slice H.Bytes.a H.Bytes.len H.Bytes.cap, .slice H.Class.a H.Class.len H.Class.cap] _).alloc _
  have br : Box ((w.alloc (.cells #[.slice H.Bytes.a H.Bytes.len H.Bytes.cap, .slice H.Class.a H.Class.len H.Class.cap] 31)).alloc (.cells #[.slice none 0 0, .slice none 0 0] 31)) (w.heap.size + 1) [.slice none 0 0, .slice none 0 0] := by
    have hb := Box.new (w.alloc (.cells #[.slice H.Bytes.a H.Bytes.len H.Bytes.cap, .slice H.Class.a H.Class.len H.Class.cap] 31)) #[.slice none 0 0, .slice none 0 0] 31
    rw [World.size_alloc] at hb
    exact hb
  have hB : Below w.heap.size w ((w.alloc (.cells #[.slice H.Bytes.a H.Bytes.len H.Bytes.cap, .slice H.Class.a H.Class.len H.Class.cap] 31)).alloc (.cells #[.slice none 0 0, .slice none 0 0] 31)) := by repeat (first | exact Below.refl _ _ | refine Below.alloc ?_ (by simp <;> omega) _ | refine below_grow_of ?_ (by simp <;> omega) _ _ | refine Below.drew ?_ | refine below_drewN ?_ _)
  go_enter Tryz.func57, Tryz.ntmps57
  go_wp2_with fail
  generalize hW0 : ((w.alloc (.cells #[.slice H.Bytes.a H.Bytes.len H.Bytes.cap, .slice H.Class.a H.Class.len H.Class.cap] 31)).alloc (.cells #[.slice none 0 0, .slice none 0 0] 31)) = w0 at ba br hB ⊢
  clear hW0
  have qa0 := ba.cell 0 _ rfl
  have qr0 := br.cell 0 _ rfl
  have qa1 := ba.cell 1 _ rfl
  have qr1 := br.cell 1 _ rfl
  have fr := br.fro
  have z0 := br.lt
  go_region_with (first | (go_at_call 105; (first | ((with_reducible refine (l3Copy_w _ H.Bytes x.Bytes (rd_up h.Bytes hB) hs1).mono ?_); rintro e w1 ⟨K0, rfl, o0, f0, hb⟩; replace ba := ba.below hb; replace br := br.below hb; replace hB := hB.trans (hb.mono hB.size); have sz := hb.size; have u0 := foot_lt o0; (try replace o1 := o1.step0 hb); replace qa0 := ba.cell 0 _ rfl; replace qr0 := br.cell 0 _ rfl; replace qa1 := ba.cell 1 _ rfl; replace qr1 := br.cell 1 _ rfl; replace fr := br.fro; clear hb) | ((with_reducible refine (l3Copy_w _ H.Bytes x.Bytes (rd_up h.Bytes hB.drew) hs1).mono ?_); rintro e w1 ⟨K0, rfl, o0, f0, hb⟩; replace hb := undrew hb; replace f0 := fcdrew f0; replace ba := ba.below hb; replace br := br.below hb; replace hB := hB.trans (hb.mono hB.size); have sz := hb.size; have u0 := foot_lt o0; (try replace o1 := o1.step0 hb); replace qa0 := ba.cell 0 _ rfl; replace qr0 := br.cell 0 _ rfl; replace qa1 := ba.cell 1 _ rfl; replace qr1 := br.cell 1 _ rfl; replace fr := br.fro; clear hb) | ((with_reducible refine (l3Copy_w _ H.Class x.Class (rd_up h.Class hB) hs2).mono ?_); rintro e w2 ⟨K1, rfl, o1, f1, hb⟩; replace ba := ba.below hb; replace br := br.below hb; replace hB := hB.trans (hb.mono hB.size); have sz := hb.size; have u1 := foot_lt o1; (try replace o0 := o0.step0 hb); replace qa0 := ba.cell 0 _ rfl; replace qr0 := br.cell 0 _ rfl; replace qa1 := ba.cell 1 _ rfl; replace qr1 := br.cell 1 _ rfl; replace fr := br.fro; clear hb) | ((with_reducible refine (l3Copy_w _ H.Class x.Class (rd_up h.Class hB.drew) hs2).mono ?_); rintro e w2 ⟨K1, rfl, o1, f1, hb⟩; replace hb := undrew hb; replace f1 := fcdrew f1; replace ba := ba.below hb; replace br := br.below hb; replace hB := hB.trans (hb.mono hB.size); have sz := hb.size; have u1 := foot_lt o1; (try replace o0 := o0.step0 hb); replace qa0 := ba.cell 0 _ rfl; replace qr0 := br.cell 0 _ rfl; replace qa1 := ba.cell 1 _ rfl; replace qr1 := br.cell 1 _ rfl; replace fr := br.fro; clear hb))))
  all_goals
    go_wp2_with fail
    refine bodyPost_ret (v := .agg #[.slice K0.a K0.len K0.cap, .slice K1.a K1.len K1.cap]) (by simp [results, Tryz.results57, go_sem, qr0, qr1]) rfl ⟨⟨K0, K1⟩, rfl, ⟨o0.chg (F := [w.heap.size + 1]) (by repeat (first | exact Chg.refl _ _ | refine Chg.set_ ?_ (by simp) _ | refine Chg.drew_ ?_)) (fun g hg hm => by simp only [List.mem_cons, List.not_mem_nil, or_false] at hm; have := f0 g hg; omega), o1.chg (F := [w.heap.size + 1]) (by repeat (first | exact Chg.refl _ _ | refine Chg.set_ ?_ (by simp) _ | refine Chg.drew_ ?_)) (fun g hg hm => by simp only [List.mem_cons, List.not_mem_nil, or_false] at hm; have := f1 g hg; omega), fun g hg hm => by have := u0 g hg; have := f0 g hg; have := u1 g hm; have := f1 g hm; omega⟩, fun g hg => ?_, ?_⟩
    · rcases HHeap.mem_foot.1 hg with hg | hg
      · have := f0 g hg
        omega
      · have := f1 g hg
        omega
    · exact Below.trans hB (by repeat (first | exact Below.refl _ _ | refine Below.setCell ?_ (by simp <;> omega) _ | refine Below.drew ?_))

set_option maxRecDepth 100000 in
set_option maxHeartbeats 2000000 in
theorem l8Copy_spec (w : World) (H : HLists) (x : Lists) (h : RdLists w w.heap.size H x) (hs : sizeLists x ≤ 536870912) :
    Calls Tryz.prog 58 #[.agg #[.slice H.Global.a H.Global.len H.Global.cap, .slice H.Own.a H.Own.len H.Own.cap]] w fun e w' => ∃ H' : HLists, e = .returned (H'.val x) ∧ OwLists w' H' x ∧ (∀ g ∈ H'.foot, w.heap.size ≤ g) ∧ Below w.heap.size w w' := by
  have hs1 : szLL x.Global ≤ 536870912 := Nat.le_trans (Nat.le_add_right _ _) hs
  have hs2 : szLL x.Own ≤ 536870912 := Nat.le_trans (Nat.le_add_left _ _) hs
  clear hs
  have ba : Box ((w.alloc (.cells #[.slice H.Global.a H.Global.len H.Global.cap, .slice H.Own.a H.Own.len H.Own.cap] 34)).alloc (.cells #[.slice none 0 0, .slice none 0 0] 34)) w.heap.size [.slice H.Global.a H.Global.len H.Global.cap, .slice H.Own.a H.Own.len H.Own.cap] := (Box.new w #[.slice H.Global.a H.Global.len H.Global.cap, .slice H.Own.a H.Own.len H.Own.cap] _).alloc _
  have br : Box ((w.alloc (.cells #[.slice H.Global.a H.Global.len H.Global.cap, .slice H.Own.a H.Own.len H.Own.cap] 34)).alloc (.cells #[.slice none 0 0, .slice none 0 0] 34)) (w.heap.size + 1) [.slice none 0 0, .slice none 0 0] := by
    have hb := Box.new (w.alloc (.cells #[.slice H.Global.a H.Global.len H.Global.cap, .slice H.Own.a H.Own.len H.Own.cap] 34)) #[.slice none 0 0, .slice none 0 0] 34
    rw [World.size_alloc] at hb
    exact hb
  have hB : Below w.heap.size w ((w.alloc (.cells #[.slice H.Global.a H.Global.len H.Global.cap, .slice H.Own.a H.Own.len H.Own.cap] 34)).alloc (.cells #[.slice none 0 0, .slice none 0 0] 34)) := by repeat (first | exact Below.refl _ _ | refine Below.alloc ?_ (by simp <;> omega) _ | refine below_grow_of ?_ (by simp <;> omega) _ _ | refine Below.drew ?_ | refine below_drewN ?_ _)
  go_enter Tryz.func58, Tryz.ntmps58
  go_wp2_with fail
  generalize hW0 : ((w.alloc (.cells #[.slice H.Global.a H.Global.len H.Global.cap, .slice H.Own.a H.Own.len H.Own.cap] 34)).alloc (.cells #[.slice none 0 0, .slice none 0 0] 34)) = w0 at ba br hB ⊢
  clear hW0
  have qa0 := ba.cell 0 _ rfl
  have qr0 := br.cell 0 _ rfl
  have qa1 := ba.cell 1 _ rfl
  have qr1 := br.cell 1 _ rfl
  have fr := br.fro
  have z0 := br.lt
  go_region_with (first | (go_at_call 106; (first | ((with_reducible refine (l8Rows_w _ H.Global H.GlobalT x.Global (rdLL_up h.Global hB) hs1).mono ?_); rintro e w1 ⟨K0, t0, rfl, o0, f0, hb⟩; replace ba := ba.below hb; replace br := br.below hb; replace hB := hB.trans (hb.mono hB.size); have sz := hb.size; have u0 := o0.lt; (try replace o1 := o1.step0 hb); replace qa0 := ba.cell 0 _ rfl; replace qr0 := br.cell 0 _ rfl; replace qa1 := ba.cell 1 _ rfl; replace qr1 := br.cell 1 _ rfl; replace fr := br.fro; clear hb) | ((with_reducible refine (l8Rows_w _ H.Global H.GlobalT x.Global (rdLL_up h.Global hB.drew) hs1).mono ?_); rintro e w1 ⟨K0, t0, rfl, o0, f0, hb⟩; replace hb := undrew hb; replace f0 := fcdrew f0; replace ba := ba.below hb; replace br := br.below hb; replace hB := hB.trans (hb.mono hB.size); have sz := hb.size; have u0 := o0.lt; (try replace o1 := o1.step0 hb); replace qa0 := ba.cell 0 _ rfl; replace qr0 := br.cell 0 _ rfl; replace qa1 := ba.cell 1 _ rfl; replace qr1 := br.cell 1 _ rfl; replace fr := br.fro; clear hb) | ((with_reducible refine (l8Rows_w _ H.Own H.OwnT x.Own (rdLL_up h.Own hB) hs2).mono ?_); rintro e w2 ⟨K1, t1, rfl, o1, f1, hb⟩; replace ba := ba.below hb; replace br := br.below hb; replace hB := hB.trans (hb.mono hB.size); have sz := hb.size; have u1 := o1.lt; (try replace o0 := o0.step0 hb); replace qa0 := ba.cell 0 _ rfl; replace qr0 := br.cell 0 _ rfl; replace qa1 := ba.cell 1 _ rfl; replace qr1 := br.cell 1 _ rfl; replace fr := br.fro; clear hb) | ((with_reducible refine (l8Rows_w _ H.Own H.OwnT x.Own (rdLL_up h.Own hB.drew) hs2).mono ?_); rintro e w2 ⟨K1, t1, rfl, o1, f1, hb⟩; replace hb := undrew hb; replace f1 := fcdrew f1; replace ba := ba.below hb; replace br := br.below hb; replace hB := hB.trans (hb.mono hB.size); have sz := hb.size; have u1 := o1.lt; (try replace o0 := o0.step0 hb); replace qa0 := ba.cell 0 _ rfl; replace qr0 := br.cell 0 _ rfl; replace qa1 := ba.cell 1 _ rfl; replace qr1 := br.cell 1 _ rfl; replace fr := br.fro; clear hb))))
  all_goals
    go_wp2_with fail
    refine bodyPost_ret (v := .agg #[.slice K0.a K0.len K0.cap, .slice K1.a K1.len K1.cap]) (by simp [results, Tryz.results58, go_sem, qr0, qr1]) rfl ⟨⟨K0, t0, K1, t1⟩, rfl, ⟨o0.chg (F := [w.heap.size + 1]) (by repeat (first | exact Chg.refl _ _ | refine Chg.set_ ?_ (by simp) _ | refine Chg.drew_ ?_)) (fun g hg hm => by simp only [List.mem_cons, List.not_mem_nil, or_false] at hm; have := f0 g hg; omega), o1.chg (F := [w.heap.size + 1]) (by repeat (first | exact Chg.refl _ _ | refine Chg.set_ ?_ (by simp) _ | refine Chg.drew_ ?_)) (fun g hg hm => by simp only [List.mem_cons, List.not_mem_nil, or_false] at hm; have := f1 g hg; omega), fun g hg hm => by have := u0 g hg; have := f0 g hg; have := u1 g hm; have := f1 g hm; omega⟩, fun g hg => ?_, ?_⟩
    · rcases HLists.mem_foot.1 hg with hg | hg
      · have := f0 g hg
        omega
      · have := f1 g hg
        omega
    · exact Below.trans hB (by repeat (first | exact Below.refl _ _ | refine Below.setCell ?_ (by simp <;> omega) _ | refine Below.drew ?_))
end Go.Proofs.YtcligoicoeklfaaGreat
