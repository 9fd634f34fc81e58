/-
  Drawn limbo lists, spoilt: any.
-/
import Derived.Test.YtobcdcfbhfoheaaT
import Derived.Test.YtobcdcfbhfoheaaL
import Derived.Deep.QuietTactic
import Derived.BigQuiet
import Derived.Deep.LoopGhost
import Derived.Deep.RegionHeld3
import Derived.Test.YtobcdcfbhfoheaaN
import Derived.Test.YtobcdcfbhfoheaaA
import Derived.WalkSpells
import Derived.Laws.Cover3
import Derived.Test.YtobcdcfbhfoheaaDV
namespace Go.Proofs.Ytobcdcfbhfoheaa
open Go.RowKit
theorem OwLL.prefix_ {α : Type} {T : FT α} {e E : TypeId} {w : World} {g n c : Nat} {svs : List SV} {ll : List (List α)} (h : OwLL T e E w (.slice (some ⟨g, 0, none⟩) n c) svs ll) {i : Nat} (hi : i ≤ ll.length) : OwLL T e E w (.slice (some ⟨g, 0, none⟩) i c) (svs.take i) (ll.take i) := by
  have hs : i ≤ svs.length := by rw [h.len]; exact hi
  refine ⟨by rw [List.length_take, List.length_take, h.len], h.outer.prefix_ hs, fun k s l hk hl => ?_, ?_⟩
  · rw [List.getElem?_take] at hk hl
    split at hk
    · rename_i hlt
      rw [if_pos hlt] at hl
      exact h.inner k s l hk hl
    · cases hk
  · have hn := h.nodup
    unfold foot2 at hn ⊢
    have e : svs.flatMap (fun s => foot1 s.val) = (svs.take i).flatMap (fun s => foot1 s.val) ++ (svs.drop i).flatMap (fun s => foot1 s.val) := by rw [← List.flatMap_append, List.take_append_drop]
    rw [e, ← List.append_assoc, List.nodup_append] at hn
    exact hn.1
theorem foot2_take {svs : List SV} {i : Nat} {b : Nat} {g n c m d : Nat} (h : b ∈ foot2 (.slice (some ⟨g, 0, none⟩) n c) (svs.take i)) : b ∈ foot2 (.slice (some ⟨g, 0, none⟩) m d) svs := by
  rcases mem_foot2.1 h with h1 | ⟨s, hs, h1⟩
  · exact mem_foot2.2 (.inl h1)
  · exact mem_foot2.2 (.inr ⟨s, List.mem_of_mem_take hs, h1⟩)
theorem Cur.keep_ {w w' : World} {g B : Nat} {code : List Int} (h : Cur w g code) (hg : g < B) (hb : Below B w w') (_hB : B ≤ w.heap.size) : Cur w' g code := by
  obtain ⟨lt, by_, ⟨A, cap, p0, r⟩, ⟨j, p1, hi⟩, ⟨hh, p2⟩, f1, f2⟩ := h
  have e : ∀ k, k ≤ g → w'.heap[k]? = w.heap[k]? := fun k hk => hb.block k (by omega)
  have ec : ∀ j, w'.cell? ⟨g, j, none⟩ = w.cell? ⟨g, j, none⟩ := fun j => by simp only [World.cell?, e g (Nat.le_refl _)]
  have ef : ∀ j, w'.frozen? ⟨g, j, none⟩ = w.frozen? ⟨g, j, none⟩ := fun j => by simp only [World.frozen?, e g (Nat.le_refl _)]
  exact ⟨Nat.lt_of_lt_of_le lt hb.size, by_, ⟨A, cap, (ec 0).trans p0, r.keep (fun k hk => e k (by omega)) (Nat.le_refl _)⟩, ⟨j, (ec 1).trans p1, hi⟩, ⟨hh, (ec 2).trans p2⟩, (ef 1).trans f1, (ef 2).trans f2⟩
theorem Chg.then_below {F : List Nat} {w w3 w' : World} (h : Chg F w w3) (hb : Below w.heap.size w3 w') : Chg F w w' :=
  ⟨hb.os.trans h.os, hb.tape.trans h.tape, hb.output.trans h.output, Nat.le_trans h.size hb.size, fun k hk hn => (hb.block k hk).trans (h.block k hk hn)⟩
def DrawLA (w : World) (g : Nat) (code : List Int) (e : Ending) (w' : World) : Prop := ∃ v t ll, e = .returned v ∧ OwLL FLRow 75 60 w' v t ll ∧ szLL ll ≤ 100 ∧ (∀ b ∈ foot2 v t, w.heap.size ≤ b) ∧ Cur w' g code ∧ Chg [g] w w'
set_option maxRecDepth 100000 in
set_option maxHeartbeats 2000000 in
theorem l11Any_ct (w : World) (g : Nat) (code : List Int) (hc : Cur w g code) : Calls Try.prog 82 #[.pointer (some ⟨g, 0, none⟩)] w (DrawLA w g code) := by
  have hgl := hc.lt
  go_enter Try.func82, Try.ntmps82
  go_wp2_with fail
  refine (l11Limbo_ct _ g code hc).mono ?_
  rintro e w1 ⟨v1, t, ll, rfl, o1, hz, h3, f1, hc1, hC1⟩
  have H3 := Hid.mk_ h3
  clear h3
  go_wp2_with fail
  refine (l1Below_ct _ g code 20 (by unfold I64; omega) hc1).mono ?_
  rintro e w3 ⟨x, rfl, x0, x1, hc3, hg3⟩
  have o3 := o1.chg hg3 (fun b hb hm => by simp at hm; subst hm; have := f1 b hb; omega)
  have hC3 := hC1.trans hg3
  clear o1 hc1 hC1 hg3
  obtain ⟨gz, cap, rfl, hgz⟩ := o3.at_form (by rw [H3.out]; decide)
  have hcap : ll.length ≤ cap := (o3.rd'.len').2.1
  have hgz0 : w.heap.size ≤ gz := f1 gz (mem_foot2.2 (.inl rfl))
  by_cases q0 : x = 0
  · subst q0
    have opre := o3.prefix_ (i := 1) (by rw [H3.out]; decide)
    have h1c : 1 ≤ cap := by have := H3.out; omega
    have hsz : szLL (ll.take 1) ≤ 100 := by
      have a : (ll.take 1).length ≤ ll.length := by simp; omega
      have b := totLL_take_le ll 1
      have c : szLL ll = ll.length + totLL ll := rfl
      have d : szLL (ll.take 1) = (ll.take 1).length + totLL (ll.take 1) := rfl
      omega
    go_wp2_with fail
    go_ret
    exact ⟨_, _, _, rfl, opre, hsz, fun b hb => f1 b (foot2_take hb), hc3, hC3⟩
  have q0' : (x == 0) = false := by simpa using q0
  by_cases q1 : x = 1
  · subst q1
    have hk0 : 0 < ll.length := by rw [H3.out]; decide
    have hl0 : ll[0].length ≤ 27 := Nat.le_trans (le_szLL (List.getElem_mem hk0)) hz
    have hsz := szLL_set_le ll 0 (ll[0] ++ [⟨33, 1⟩, ⟨65, 1⟩])
    obtain ⟨s, hsv⟩ : ∃ s, t[0]? = some s := ⟨_, List.getElem?_eq_getElem (by rw [o3.len]; exact hk0)⟩
    have hin := o3.inner 0 s _ hsv (List.getElem?_eq_getElem hk0)
    have p0 : w3.cell? ⟨gz, 0, none⟩ = some (.slice s.a s.len s.cap) := by simpa [FS] using o3.outer.cell_ (j := 0) hsv (by decide)
    have f0 := o3.outer.frozen_ 0
    have HV := Hid.mk_ hsv
    generalize ll[0] = l at hl0 hsz hin
    simp only [List.length_append, List.length_cons, List.length_nil] at hsz
    have hk0' : ((0 : Nat) : Int) < (ll.length : Int) := by omega
    have hk0'' : (0 : Int) < (ll.length : Int) := by omega
    clear hsv
    go_wp2_with (at_builtin; refine wpList_append_flat Try.stLRow rfl _ _ rfl (v := s.val) (y := .slice (some ⟨w3.heap.size, 0, none⟩) 2 2) (l := l) (m := [⟨33, 1⟩, ⟨65, 1⟩]) rfl rfl (hin.alloc_ _) (OwL.lit FLRow [⟨33, 1⟩, ⟨65, 1⟩] #[.int .i64 33, .int .i64 1, .int .i64 65, .int .i64 1] rfl (by simp [maxLen]) w3 75).rd' (by simp; omega) ?_; intro v4 w4 ho4 hg4 hat4; obtain ⟨A4, c4, hv4, _⟩ := ho4.rd'; simp only [List.length_append, List.length_cons, List.length_nil] at hv4; subst hv4; have hf4 := ((Chg.of_grown hg4).frozen gz 0 (by simp; omega) (o3.head_ne HV.out)).trans ((cell_old_frozen w3 _ gz 0 hgz).trans f0); have hp4 := ((Chg.of_grown hg4).cell gz 0 (by simp; omega) (o3.head_ne HV.out)).trans ((cell_old w3 _ gz 0 hgz).trans p0))
    have hN := OwLL.app_row (s' := ⟨A4, l.length + (0 + 1 + 1), c4⟩) (o3.alloc_ _) HV.out ho4 hg4 hat4
    have hfN := app_foot (B := w.heap.size) (s' := ⟨A4, l.length + (0 + 1 + 1), c4⟩) HV.out hat4 (by simp; have := hC3.size; omega) f1
    have hbN : Below w.heap.size w3 (w4.setCell ⟨gz, 0, none⟩ (.slice A4 (l.length + (0 + 1 + 1)) c4)) := (((Below.refl _ _).alloc hC3.size _).grown hg4 (by simp; have := hC3.size; omega) (fun b hb => f1 b (mem_foot2.2 (.inr ⟨s, List.mem_of_getElem? HV.out, hb⟩)))).setCell hgz0 _
    go_ret
    exact ⟨_, _, _, rfl, hN, by omega, hfN, hc3.keep_ hgl hbN hC3.size, hC3.then_below hbN⟩
  have q1' : (x == 1) = false := by simpa using q1
  by_cases q2 : x = 2
  · subst q2
    have hk0 : 1 < ll.length := by rw [H3.out]; decide
    have hl0 : ll[1].length ≤ 27 := Nat.le_trans (le_szLL (List.getElem_mem hk0)) hz
    have hszs := fun hd : Int => szLL_set_le ll 1 (ll[1] ++ [(⟨hd, -1⟩ : LRow)])
    obtain ⟨s, hsv⟩ : ∃ s, t[1]? = some s := ⟨_, List.getElem?_eq_getElem (by rw [o3.len]; exact hk0)⟩
    have hin := o3.inner 1 s _ hsv (List.getElem?_eq_getElem hk0)
    have p0 : w3.cell? ⟨gz, 1, none⟩ = some (.slice s.a s.len s.cap) := by simpa [FS] using o3.outer.cell_ (j := 0) hsv (by decide)
    have f0 := o3.outer.frozen_ 1
    have HV := Hid.mk_ hsv
    have HSZ := Hid.mk_ hszs
    clear hszs
    generalize ll[1] = l at hl0 HSZ hin
    have hk0' : ((1 : Nat) : Int) < (ll.length : Int) := by omega
    have hk0'' : (1 : Int) < (ll.length : Int) := by omega
    have hcd : Cur w3.drew g code := hc3.drewN 1
    have o3d := o3.keep (w' := w3.drew) (fun _ _ => rfl)
    have hind := hin.keep (w' := w3.drew) (fun _ _ => rfl)
    have hfd : ∀ b ∈ foot2 (.slice (some ⟨gz, 0, none⟩) ll.length cap) t, b ∉ [g] := fun b hb hm => by simp at hm; subst hm; have := f1 b hb; omega
    have hsf : ∀ b ∈ foot1 s.val, b ∈ foot2 (.slice (some ⟨gz, 0, none⟩) ll.length cap) t := fun b hb => mem_foot2.2 (.inr ⟨s, List.mem_of_getElem? HV.out, mem_foot1.1 hb⟩)
    have ngz : gz ∉ [g] := by simp; omega
    clear hsv
    go_wp2_with fail
    go_region_law (first | (refine step_append_flat Try.stLRow rfl (.tmp 31) (.tmp 35) rfl (v := s.val) (y := .slice (some ⟨w4.heap.size, 0, none⟩) 1 1) (l := l) (m := [⟨hd, -1⟩]) (by simp [Act.eval, SV.val]) (by simp [Act.eval]) (hin4.alloc_ _) (OwL.lit FLRow [⟨hd, -1⟩] #[.int .i64 hd, .int .i64 (-1)] rfl (by simp [maxLen]) w4 75).rd' (by simp; omega) ?_; intro v5 w5 ho5 hg5 hat5; obtain ⟨A5, c5, hv5, _⟩ := ho5.rd'; simp only [List.length_append, List.length_cons, List.length_nil] at hv5; subst hv5; have hf5 := ((Chg.of_grown hg5).frozen gz 1 (by simp; omega) (o4.head_ne HV.out)).trans ((cell_old_frozen w4 _ gz 1 hgz4).trans f4); have hp5 := ((Chg.of_grown hg5).cell gz 1 (by simp; omega) (o4.head_ne HV.out)).trans ((cell_old w4 _ gz 1 hgz4).trans p4)) | (go_simp; go_at_call 62; refine (l6Handle_ct _ g code hcd).mono ?_; rintro e w4 ⟨hd, rfl, hd0, hd1, hc4, hg4⟩; have hin4 := hind.chg hg4 (fun b hb => hfd b (hsf b hb)); have o4 := o3d.chg hg4 hfd; have p4 := (hg4.cell gz 1 hgz ngz).trans p0; have f4 := (hg4.frozen gz 1 hgz ngz).trans f0; have hgz4 : gz < w4.heap.size := Nat.lt_of_lt_of_le hgz hg4.size))
    all_goals
      have hN := OwLL.app_row (s' := ⟨A5, l.length + (0 + 1), c5⟩) (o4.alloc_ _) HV.out ho5 hg5 hat5
      have hg34 : Chg [g] w3 w4 := ⟨hg4.os, hg4.tape, hg4.output, hg4.size, hg4.block⟩
      have hC4 := hC3.trans hg34
      have hsz := HSZ.out hd
      simp only [List.length_append, List.length_cons, List.length_nil] at hsz
      have hfN := app_foot (B := w.heap.size) (s' := ⟨A5, l.length + (0 + 1), c5⟩) HV.out hat5 (by simp; have := hC4.size; omega) f1
      have hbN : Below w.heap.size w4 (w5.setCell ⟨gz, 1, none⟩ (.slice A5 (l.length + (0 + 1)) c5)) := (((Below.refl _ _).alloc hC4.size _).grown hg5 (by simp; have := hC4.size; omega) (fun b hb => f1 b (hsf b (mem_foot1.2 hb)))).setCell hgz0 _
      go_wp2_with fail
      go_ret
      exact ⟨_, _, _, rfl, hN, by omega, hfN, hc4.keep_ hgl hbN hC4.size, hC4.then_below hbN⟩
  have q2' : (x == 2) = false := by simpa using q2
  by_cases q3 : x = 3
  · subst q3
    have hk0 : 2 < ll.length := by rw [H3.out]; decide
    have hl0 : ll[2].length ≤ 27 := Nat.le_trans (le_szLL (List.getElem_mem hk0)) hz
    have hsz := szLL_set_le ll 2 (ll[2] ++ [⟨0, 0⟩])
    obtain ⟨s, hsv⟩ : ∃ s, t[2]? = some s := ⟨_, List.getElem?_eq_getElem (by rw [o3.len]; exact hk0)⟩
    have hin := o3.inner 2 s _ hsv (List.getElem?_eq_getElem hk0)
    have p0 : w3.cell? ⟨gz, 2, none⟩ = some (.slice s.a s.len s.cap) := by simpa [FS] using o3.outer.cell_ (j := 0) hsv (by decide)
    have f0 := o3.outer.frozen_ 2
    have HV := Hid.mk_ hsv
    generalize ll[2] = l at hl0 hsz hin
    simp only [List.length_append, List.length_cons, List.length_nil] at hsz
    have hk0' : ((2 : Nat) : Int) < (ll.length : Int) := by omega
    have hk0'' : (2 : Int) < (ll.length : Int) := by omega
    clear hsv
    go_wp2_with (at_builtin; refine wpList_append_flat Try.stLRow rfl _ _ rfl (v := s.val) (y := .slice (some ⟨w3.heap.size, 0, none⟩) 1 1) (l := l) (m := [⟨0, 0⟩]) rfl rfl (hin.alloc_ _) (OwL.lit FLRow [⟨0, 0⟩] #[.int .i64 0, .int .i64 0] rfl (by simp [maxLen]) w3 75).rd' (by simp; omega) ?_; intro v4 w4 ho4 hg4 hat4; obtain ⟨A4, c4, hv4, _⟩ := ho4.rd'; simp only [List.length_append, List.length_cons, List.length_nil] at hv4; subst hv4; have hf4 := ((Chg.of_grown hg4).frozen gz 2 (by simp; omega) (o3.head_ne HV.out)).trans ((cell_old_frozen w3 _ gz 2 hgz).trans f0); have hp4 := ((Chg.of_grown hg4).cell gz 2 (by simp; omega) (o3.head_ne HV.out)).trans ((cell_old w3 _ gz 2 hgz).trans p0))
    have hN := OwLL.app_row (s' := ⟨A4, l.length + (0 + 1), c4⟩) (o3.alloc_ _) HV.out ho4 hg4 hat4
    have hfN := app_foot (B := w.heap.size) (s' := ⟨A4, l.length + (0 + 1), c4⟩) HV.out hat4 (by simp; have := hC3.size; omega) f1
    have hbN : Below w.heap.size w3 (w4.setCell ⟨gz, 2, none⟩ (.slice A4 (l.length + (0 + 1)) c4)) := (((Below.refl _ _).alloc hC3.size _).grown hg4 (by simp; have := hC3.size; omega) (fun b hb => f1 b (mem_foot2.2 (.inr ⟨s, List.mem_of_getElem? HV.out, hb⟩)))).setCell hgz0 _
    go_ret
    exact ⟨_, _, _, rfl, hN, by omega, hfN, hc3.keep_ hgl hbN hC3.size, hC3.then_below hbN⟩
  have q3' : (x == 3) = false := by simpa using q3
  clear q0 q1 q2 q3
  go_wp2_with fail
  go_ret
  exact ⟨_, _, _, rfl, o3, by omega, f1, hc3, hC3⟩
end Go.Proofs.Ytobcdcfbhfoheaa
