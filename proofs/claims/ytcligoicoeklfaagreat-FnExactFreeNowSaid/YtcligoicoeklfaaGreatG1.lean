/-
  Generations set: the contract.
-/
import Derived.Test.YtcligoicoeklfaaGreatT
import Derived.Test.YtcligoicoeklfaaGreatL
import Derived.Deep.QuietTactic
import Derived.BigQuiet
import Derived.Deep.LoopGhost
import Derived.Deep.RegionHeld3
import Derived.Test.YtcligoicoeklfaaGreatN
import Derived.Test.YtcligoicoeklfaaGreatA
import Derived.WalkSpells
import Derived.Laws.Cover3
import Derived.Test.YtcligoicoeklfaaGreatS1
import Derived.Deep.RegionLaw
import Derived.Deep.CutRange
namespace Go.Proofs.YtcligoicoeklfaaGreat
open Go.RowKit
theorem flatMap_set_same {svs : List SV} {i : Nat} {s s' : SV} (hi : svs[i]? = some s) (hf : foot1 s'.val = foot1 s.val) : ((svs.set i s').flatMap fun s => foot1 s.val) = svs.flatMap fun s => foot1 s.val := by
  induction svs generalizing i with
  | nil => simp at hi
  | cons x xs ih =>
    cases i with
    | zero =>
      simp only [List.getElem?_cons_zero, Option.some.injEq] at hi
      subst hi
      simp [hf]
    | succ i =>
      simp only [List.getElem?_cons_succ] at hi
      simp only [List.set_cons_succ, List.flatMap_cons, ih hi]

/-- A row has been appended to, or changed in place, and its head is stored anew. -/
theorem OwLL.app_row {α : Type} {T : FT α} {e E : TypeId} {w w' : World} {g n c : Nat} {svs : List SV} {ll : List (List α)} (h : OwLL T e E w (.slice (some ⟨g, 0, none⟩) n c) svs ll) {i : Nat} {s s' : SV} {l' : List α} (hi : svs[i]? = some s)
    (hl : OwL T e w' s'.val l') (hg : w.grownBy w' s.val.ownBlock) (hat : s'.val.ownBlock = s.val.ownBlock ∨ s'.val.ownBlock = some w.heap.size) :
    OwLL T e E (w'.setCell ⟨g, i, none⟩ s'.val) (.slice (some ⟨g, 0, none⟩) n c) (svs.set i s') (ll.set i l') := by
  have hs : s ∈ svs := List.mem_of_getElem? hi
  have hc := Chg.of_grown hg
  have hn := h.nodup
  have hlt := h.lt
  have hgz : g < w.heap.size := hlt g (mem_foot2.2 (.inl rfl))
  unfold foot2 at hn
  rw [List.nodup_append] at hn
  obtain ⟨hn1, hn2, hn3⟩ := hn
  have hgs : ∀ s' ∈ svs, s'.val.ownBlock ≠ some g := fun s' hs' he => hn3 g (mem_foot1.2 rfl) g (List.mem_flatMap.2 ⟨s', hs', mem_foot1.2 he⟩) rfl
  have hg' : s'.val.ownBlock ≠ some g := by
    rcases hat with h1 | h1
    · rw [h1]; exact hgs s hs
    · rw [h1]; intro he; injection he with he; omega
  have hkeep : ∀ b, b ≠ g → (w'.setCell ⟨g, i, none⟩ s'.val).heap[b]? = w'.heap[b]? := fun b hb => Below.heap_setCell _ _ _ _ hb
  have hik := (List.getElem?_eq_some_iff.1 hi).1
  refine ⟨by rw [List.length_set, List.length_set]; exact h.len, ?_, fun k s1 l1 hk hl1 => ?_, ?_⟩
  · have ho := h.outer.chg hc (fun b hb hm => hn3 b hb b (List.mem_flatMap.2 ⟨s, hs, hm⟩) rfl)
    have := ho.set_ (j := 0) (y := s') (u := .slice s'.a s'.len s'.cap) hi (by decide) rfl
    rw [show i * FS.n + 0 = i by simp [FS]] at this
    exact this
  · by_cases hki : i = k
    · subst hki
      rw [List.getElem?_set_self hik] at hk
      rw [List.getElem?_set_self (by rw [← h.len]; exact hik)] at hl1
      cases hk
      cases hl1
      exact hl.keep fun b hb => hkeep b fun e => hg' (by rw [hb, e])
    · rw [List.getElem?_set_ne hki] at hk hl1
      have ho := h.inner k s1 l1 hk hl1
      refine (ho.chg hc (fun b hb hm => nodup_rows hn2 hi hk hki (mem_foot1.1 hm) (mem_foot1.1 hb))).keep fun b hb => hkeep b fun e => hgs s1 (List.mem_of_getElem? hk) (by rw [hb, e])
  · have hfr : s'.val.ownBlock = some w.heap.size → ∀ b ∈ foot1 s'.val, b ∉ foot2 (.slice (some ⟨g, 0, none⟩) n c) svs := by
      intro h1 b hb hm
      rw [mem_foot1, h1] at hb
      injection hb with hb
      have := hlt b hm
      omega
    unfold foot2
    rw [List.nodup_append]
    rcases hat with h1 | h1
    · have hff : foot1 s'.val = foot1 s.val := by unfold foot1; rw [h1]
      rw [flatMap_set_same hi hff]
      exact ⟨hn1, hn2, hn3⟩
    · refine ⟨hn1, nodup_set hn2 (fun b hb hm => hfr h1 b hb (List.mem_append.2 (.inr hm))), fun a ha b hb e => ?_⟩
      subst e
      obtain ⟨y, hy, hm⟩ := List.mem_flatMap.1 hb
      rcases List.mem_or_eq_of_mem_set hy with hy | rfl
      · exact hn3 a ha a (List.mem_flatMap.2 ⟨y, hy, hm⟩) rfl
      · exact hfr h1 a hm (List.mem_append.2 (.inl ha))

theorem app_foot {svs : List SV} {v : Value} {i : Nat} {s s' : SV} {w : World} {B : Nat} (hi : svs[i]? = some s) (hat : s'.val.ownBlock = s.val.ownBlock ∨ s'.val.ownBlock = some w.heap.size) (hB : B ≤ w.heap.size) (h : ∀ b ∈ foot2 v svs, B ≤ b) : ∀ b ∈ foot2 v (svs.set i s'), B ≤ b := by
  intro b hb
  rcases foot2_set hb with hb | hb
  · exact h b hb
  · rw [mem_foot1] at hb
    rcases hat with h1 | h1
    · exact h b (mem_foot2.2 (.inr ⟨s, List.mem_of_getElem? hi, by rw [← h1]; exact hb⟩))
    · rw [h1] at hb
      injection hb with hb
      omega
theorem szLL_set_le {α : Type} (ll : List (List α)) (i : Nat) (l : List α) : szLL (ll.set i l) ≤ szLL ll + l.length := by
  have : ∀ (ll : List (List α)) i, ((ll.set i l).map List.length).sum ≤ (ll.map List.length).sum + l.length := by
    intro ll
    induction ll with
    | nil => intro i; simp
    | cons x xs ih =>
      intro i
      cases i with
      | zero => simp; omega
      | succ i => have := ih i; simp at this ⊢; omega
  have := this ll i
  unfold szLL
  simp only [List.length_set]
  omega

theorem OwLL.at_form {α : Type} {T : FT α} {e E : TypeId} {w : World} {v : Value} {svs : List SV} {ll : List (List α)} (h : OwLL T e E w v svs ll) (hl : 0 < ll.length) : ∃ g cap, v = .slice (some ⟨g, 0, none⟩) ll.length cap ∧ g < w.heap.size := by
  have := h.outer.form_pos (by rw [h.len]; exact hl)
  rwa [h.len] at this

theorem OwLL.head_ne {α : Type} {T : FT α} {e E : TypeId} {w : World} {g n c : Nat} {svs : List SV} {ll : List (List α)} (h : OwLL T e E w (.slice (some ⟨g, 0, none⟩) n c) svs ll) {i : Nat} {s : SV} (hi : svs[i]? = some s) : g ∉ foot1 s.val := by
  have hn := h.nodup
  unfold foot2 at hn
  rw [List.nodup_append] at hn
  exact fun hm => hn.2.2 g (mem_foot1.2 rfl) g (List.mem_flatMap.2 ⟨s, List.mem_of_getElem? hi, hm⟩) rfl

theorem Box.ad {w : World} {g : Nat} {vs : List Value} (b : Box w g vs) : ∃ a, a = g ∧ Box w a vs := ⟨g, rfl, b⟩
def giveL (x : Lists) (k c : Nat) (s : Int) : Lists := if (x.Own.getD k []).length < 2 then { x with Own := x.Own.set k (x.Own.getD k [] ++ [s]) } else { x with Global := x.Global.set c (x.Global.getD c [] ++ [s]) }
def setGenB (h : Heap) (s g : Int) : Heap := { h with Bytes := putAt h.Bytes (genAt s (classInB h s)).toNat (digs 4 g) }
def freedM (m : Mem) (w : Nat) (s : Int) : Mem := { Heap := setGenB m.Heap s (genInB m.Heap s + 1), Lists := if genInB m.Heap s + 1 ≤ 6 then giveL m.Lists (w * 3 + (classInB m.Heap s).toNat) (classInB m.Heap s).toNat s else m.Lists }
def freeP (m : Mem) (w h : Int) : Mem × Int := if memOkB m = false ∨ inB 0 2 w = false then (m, 1) else if liveB m h = false then (m, 4) else (freedM m w.toNat (h % 32), 0)
theorem free_no1 {m : Mem} {w h : Int} (c : memOkB m = false ∨ inB 0 2 w = false) : freeP m w h = (m, 1) := if_pos c
theorem free_no2 {m : Mem} {w h : Int} (c1 : memOkB m = true) (c2 : inB 0 2 w = true) (c3 : liveB m h = false) : freeP m w h = (m, 4) := by
  unfold freeP
  rw [if_neg (by rw [c1, c2]; decide), if_pos c3]
theorem free_yes {m : Mem} {w h : Int} (c1 : memOkB m = true) (c2 : inB 0 2 w = true) (c3 : liveB m h = true) : freeP m w h = (freedM m w.toNat (h % 32), 0) := by
  unfold freeP
  rw [if_neg (by rw [c1, c2]; decide), if_neg (by rw [c3]; decide)]
theorem HHeap.bytes_foot {H : HHeap} {g : Nat} (h : g ∈ foot1 H.Bytes.val) : g ∈ H.foot := HHeap.mem_foot.2 (.inl h)
theorem OwHeap.setBytes {w w' : World} {H : HHeap} {x : Heap} {b : List Int} (h : OwHeap w H x) (hb : OwL FI 3 w' H.Bytes.val b) (hc : Chg (foot1 H.Bytes.val) w w') : OwHeap w' H { x with Bytes := b } :=
  ⟨hb, h.Class.chg hc (fun g hg hm => h.d01 g hm hg), h.d01⟩
set_option maxHeartbeats 400000 in
theorem OwnAt_impl (a c : Nat) (ha : a < 3) (hc : c < 3) (w : World) : Calls Tryz.prog 99 #[.int .i64 a, .int .i64 c] w fun e w' => e = .returned (.int .i64 ((a * 3 + c : Nat) : Int)) ∧ w = w' := by
  have k1 : inB 0 2 (a : Int) = true := inB_iff.2 ⟨by omega, by omega⟩
  have k2 : inB 0 2 (c : Int) = true := inB_iff.2 ⟨by omega, by omega⟩
  go_enter Tryz.func99, Tryz.ntmps99
  go_wp2_with (first | (go_at_call 28; refine (isWorker_ct _ _).mono ?_; rw [k1]; rintro e w1 ⟨rfl, rfl⟩) | (go_at_call 101; refine (isClass_ct _ _).mono ?_; rw [k2]; rintro e w1 ⟨rfl, rfl⟩))
  go_ret
  exact ⟨ret_i64 (by omega), rfl⟩

set_option maxRecDepth 100000 in
set_option maxHeartbeats 4000000 in
theorem SetGen_yes (w : World) (H : HHeap) (x : Heap) (s g : Int) (h : RdHeap w w.heap.size H x) (hs : sizeHeap x ≤ 536870912) (hsh : shapeB x = true) (k1 : ¬ classInB x s < 0) (g1 : 1 ≤ g) (g7 : g ≤ 7) :
    Calls Tryz.prog 81 #[.agg #[.slice H.Bytes.a H.Bytes.len H.Bytes.cap, .slice H.Class.a H.Class.len H.Class.cap], .int .i64 s, .int .i64 g] w fun e w' => ∃ H' : HHeap, e = .returned (.tuple #[.agg #[.slice H'.Bytes.a H'.Bytes.len H'.Bytes.cap, .slice H'.Class.a H'.Class.len H'.Class.cap], .bool true]) ∧ OwHeap w' H' (setGenB x s g) ∧ (∀ g ∈ H'.foot, w.heap.size ≤ g) ∧ Below w.heap.size w w' := by
  have HCA := Hid.mk_ (show classAtB x s = classInB x s from if_pos hsh)
  have hgd := genIn_bd (shape_of hsh) k1
  obtain ⟨P, hP⟩ : ∃ P : Nat, genAt s (classInB x s) = (P : Int) := ⟨(genAt s (classInB x s)).toNat, by omega⟩
  have HV : Hid (setGenB x s g = { x with Bytes := putAt x.Bytes P (digs 4 g) }) := by
    show _ = _
    unfold setGenB
    rw [hP, Int.toNat_natCast]
  have hq := fun (W : World) (hW : Below w.heap.size w W) => ClassAt_impl W H x s (rdHeap_up h hW)
  rw [HCA.out] at hq
  have hga := fun W => GenAt_impl s (classInB x s) W
  rw [hP] at hga hgd
  have h256 : g < 256 ^ 4 := by
    have : (256 : Int) ^ 4 = 4294967296 := by decide
    omega
  have hfx : ∀ W : World, Calls Tryz.prog 41 #[.int .i64 g, .int .i64 4] W fun e w' => e = .returned (.string (strOfNums (digs 4 g))) ∧ Below W.heap.size W w' := fun W => Fixed_yes g 4 W (by decide) (by decide) (by omega) h256
  clear h256
  have hiw : inB 1 7 g = true := inB_iff.2 ⟨g1, g7⟩
  have HTE := Hid.mk_ (nums_strOf 4 g)
  have HTS : Hid ((strOfNums (digs 4 g)).size ≤ 1000) := by rw [strOf_size]; exact (by decide : 4 ≤ 1000)
  have HBL : Hid (P + (strOfNums (digs 4 g)).size ≤ x.Bytes.length) := by
    rw [strOf_size]
    show _ ≤ _
    omega
  have k1' : 0 ≤ classInB x s := by omega
  have hcp := fun (W : World) (hW : Below w.heap.size w W) => copyHeap_impl W H x (rdHeap_up h hW) (by omega)
  clear hgd hsh hP k1 hs
  generalize strOfNums (digs 4 g) = t at *
  generalize classInB x s = c at *
  have B_a : Box ((w.alloc (.cells #[.slice H.Bytes.a H.Bytes.len H.Bytes.cap, .slice H.Class.a H.Class.len H.Class.cap] 31)).alloc (.cells #[.slice none 0 0, .slice none 0 0] 31)) (w.heap.size) [.slice H.Bytes.a H.Bytes.len H.Bytes.cap, .slice H.Class.a H.Class.len H.Class.cap] := by
    have hbx := Box.new w #[.slice H.Bytes.a H.Bytes.len H.Bytes.cap, .slice H.Class.a H.Class.len H.Class.cap] 31
    exact (hbx).alloc _
  have B_r : Box ((w.alloc (.cells #[.slice H.Bytes.a H.Bytes.len H.Bytes.cap, .slice H.Class.a H.Class.len H.Class.cap] 31)).alloc (.cells #[.slice none 0 0, .slice none 0 0] 31)) (w.heap.size + 1) [.slice none 0 0, .slice none 0 0] := by
    have hbx := Box.new (w.alloc (.cells #[.slice H.Bytes.a H.Bytes.len H.Bytes.cap, .slice H.Class.a H.Class.len H.Class.cap] 31)) #[.slice none 0 0, .slice none 0 0] 31
    simp only [World.size_alloc] at hbx
    exact hbx
  have hB : Below w.heap.size w ((w.alloc (.cells #[.slice H.Bytes.a H.Bytes.len H.Bytes.cap, .slice H.Class.a H.Class.len H.Class.cap] 31)).alloc (.cells #[.slice none 0 0, .slice none 0 0] 31)) := by repeat (first | exact Below.refl _ _ | refine Below.alloc ?_ (by simp <;> omega) _ | refine below_grow_of ?_ (by simp <;> omega) _ _ | refine Below.drew ?_ | refine below_drewN ?_ _)
  go_enter Tryz.func81, Tryz.ntmps81
  go_wp2_with fail
  generalize hW0 : ((w.alloc (.cells #[.slice H.Bytes.a H.Bytes.len H.Bytes.cap, .slice H.Class.a H.Class.len H.Class.cap] 31)).alloc (.cells #[.slice none 0 0, .slice none 0 0] 31)) = w0 at B_a B_r hB ⊢
  clear hW0
  have zz_a := B_a.lt
  have zz_r := B_r.lt
  have q_a_0 := B_a.cell 0 _ rfl
  have q_a_1 := B_a.cell 1 _ rfl
  have fr_a := B_a.fro
  have z_a := B_a.lt
  have q_r_0 := B_r.cell 0 _ rfl
  have q_r_1 := B_r.cell 1 _ rfl
  have fr_r := B_r.fro
  have z_r := B_r.lt
  go_upto_region 1 with (fail)
  go_cut [8, 9] from 8 to 14 (fun v8 v9 wx => ∃ (go : Nat) (K_c : HHeap), v8 = .pointer (some ⟨go, 0, none⟩) ∧ v9 = .int .i64 c ∧ Box wx (w.heap.size) [.slice H.Bytes.a H.Bytes.len H.Bytes.cap, .slice H.Class.a H.Class.len H.Class.cap] ∧ Box wx (w.heap.size + 1) [.slice none 0 0, .slice none 0 0] ∧ Box wx go [.slice K_c.Bytes.a K_c.Bytes.len K_c.Bytes.cap, .slice K_c.Class.a K_c.Class.len K_c.Class.cap] ∧ OwHeap wx K_c x ∧ (∀ g ∈ K_c.foot, w0.heap.size ≤ g ∧ g ≠ go) ∧ w0.heap.size ≤ go ∧ Below w.heap.size w wx ∧ w0.heap.size ≤ wx.heap.size)
  case first =>
    go_region_with (first | (go_at_call 76; (first | ((with_reducible refine (hcp _ hB).mono ?_); rintro e wq ⟨K_c, rfl, o_c, l_c, hb⟩; have u_c := o_c.lt; replace B_a := B_a.below hb; replace B_r := B_r.below hb; replace hB := hB.trans (hb.mono hB.size); have sz := hb.size; (try replace B_o := B_o.below hb); (try replace q_o_0 := B_o.cell 0 _ rfl); (try replace q_o_1 := B_o.cell 1 _ rfl); (try replace fr_o := B_o.fro); (try replace z_o := B_o.lt); clear hb; replace q_a_0 := B_a.cell 0 _ rfl; replace q_a_1 := B_a.cell 1 _ rfl; replace fr_a := B_a.fro; replace z_a := B_a.lt; replace q_r_0 := B_r.cell 0 _ rfl; replace q_r_1 := B_r.cell 1 _ rfl; replace fr_r := B_r.fro; replace z_r := B_r.lt) | ((with_reducible refine (hcp _ hB.drew).mono ?_); rintro e wq ⟨K_c, rfl, o_c, l_c, hb⟩; replace hb := undrew hb; replace l_c := fcdrew l_c; have u_c := o_c.lt; replace B_a := B_a.below hb; replace B_r := B_r.below hb; replace hB := hB.trans (hb.mono hB.size); have sz := hb.size; (try replace B_o := B_o.below hb); (try replace q_o_0 := B_o.cell 0 _ rfl); (try replace q_o_1 := B_o.cell 1 _ rfl); (try replace fr_o := B_o.fro); (try replace z_o := B_o.lt); clear hb; replace q_a_0 := B_a.cell 0 _ rfl; replace q_a_1 := B_a.cell 1 _ rfl; replace fr_a := B_a.fro; replace z_a := B_a.lt; replace q_r_0 := B_r.cell 0 _ rfl; replace q_r_1 := B_r.cell 1 _ rfl; replace fr_r := B_r.fro; replace z_r := B_r.lt) | ((with_reducible refine (hcp _ (hB.alloc hB.size _)).mono ?_); rintro e wq ⟨K_c, rfl, o_c, l_c, hb⟩; simp only [World.size_alloc] at l_c; have u_c := o_c.lt; replace B_a := (B_a.alloc _).below hb; replace B_r := (B_r.alloc _).below hb; replace hB := below_step hB hb hB.size; have sz := hb.size; simp only [World.size_alloc] at sz; have B_o := Box.below (Box.new _ #[.slice none 0 0, .slice none 0 0] 31) hb; have q_o_0 := B_o.cell 0 _ rfl; have q_o_1 := B_o.cell 1 _ rfl; have fr_o := B_o.fro; have z_o := B_o.lt; clear hb; replace q_a_0 := B_a.cell 0 _ rfl; replace q_a_1 := B_a.cell 1 _ rfl; replace fr_a := B_a.fro; replace z_a := B_a.lt; replace q_r_0 := B_r.cell 0 _ rfl; replace q_r_1 := B_r.cell 1 _ rfl; replace fr_r := B_r.fro; replace z_r := B_r.lt) | ((with_reducible refine (hcp _ (hB.alloc hB.size _).drew).mono ?_); rintro e wq ⟨K_c, rfl, o_c, l_c, hb⟩; replace hb := undrew hb; replace l_c := fcdrew l_c; simp only [World.size_alloc] at l_c; have u_c := o_c.lt; replace B_a := (B_a.alloc _).below hb; replace B_r := (B_r.alloc _).below hb; replace hB := below_step hB hb hB.size; have sz := hb.size; simp only [World.size_alloc] at sz; have B_o := Box.below (Box.new _ #[.slice none 0 0, .slice none 0 0] 31) hb; have q_o_0 := B_o.cell 0 _ rfl; have q_o_1 := B_o.cell 1 _ rfl; have fr_o := B_o.fro; have z_o := B_o.lt; clear hb; replace q_a_0 := B_a.cell 0 _ rfl; replace q_a_1 := B_a.cell 1 _ rfl; replace fr_a := B_a.fro; replace z_a := B_a.lt; replace q_r_0 := B_r.cell 0 _ rfl; replace q_r_1 := B_r.cell 1 _ rfl; replace fr_r := B_r.fro; replace z_r := B_r.lt))) | (go_at_call 124; (first | ((with_reducible refine (hq _ hB).mono ?_); rintro e wq ⟨rfl, hb⟩; replace B_a := B_a.below hb; replace B_r := B_r.below hb; (try replace o_c := o_c.step0 hb); replace hB := hB.trans (hb.mono hB.size); have sz := hb.size; (try replace B_o := B_o.below hb); (try replace q_o_0 := B_o.cell 0 _ rfl); (try replace q_o_1 := B_o.cell 1 _ rfl); (try replace fr_o := B_o.fro); (try replace z_o := B_o.lt); clear hb; replace q_a_0 := B_a.cell 0 _ rfl; replace q_a_1 := B_a.cell 1 _ rfl; replace fr_a := B_a.fro; replace z_a := B_a.lt; replace q_r_0 := B_r.cell 0 _ rfl; replace q_r_1 := B_r.cell 1 _ rfl; replace fr_r := B_r.fro; replace z_r := B_r.lt) | ((with_reducible refine (hq _ hB.drew).mono ?_); rintro e wq ⟨rfl, hb⟩; replace hb := undrew hb; replace B_a := B_a.below hb; replace B_r := B_r.below hb; (try replace o_c := o_c.step0 hb); replace hB := hB.trans (hb.mono hB.size); have sz := hb.size; (try replace B_o := B_o.below hb); (try replace q_o_0 := B_o.cell 0 _ rfl); (try replace q_o_1 := B_o.cell 1 _ rfl); (try replace fr_o := B_o.fro); (try replace z_o := B_o.lt); clear hb; replace q_a_0 := B_a.cell 0 _ rfl; replace q_a_1 := B_a.cell 1 _ rfl; replace fr_a := B_a.fro; replace z_a := B_a.lt; replace q_r_0 := B_r.cell 0 _ rfl; replace q_r_1 := B_r.cell 1 _ rfl; replace fr_r := B_r.fro; replace z_r := B_r.lt) | ((with_reducible refine (hq _ (hB.alloc hB.size _)).mono ?_); rintro e wq ⟨rfl, hb⟩; replace B_a := (B_a.alloc _).below hb; replace B_r := (B_r.alloc _).below hb; (try replace o_c := o_c.step hb); replace hB := below_step hB hb hB.size; have sz := hb.size; simp only [World.size_alloc] at sz; have B_o := Box.below (Box.new _ #[.slice none 0 0, .slice none 0 0] 31) hb; have q_o_0 := B_o.cell 0 _ rfl; have q_o_1 := B_o.cell 1 _ rfl; have fr_o := B_o.fro; have z_o := B_o.lt; clear hb; replace q_a_0 := B_a.cell 0 _ rfl; replace q_a_1 := B_a.cell 1 _ rfl; replace fr_a := B_a.fro; replace z_a := B_a.lt; replace q_r_0 := B_r.cell 0 _ rfl; replace q_r_1 := B_r.cell 1 _ rfl; replace fr_r := B_r.fro; replace z_r := B_r.lt) | ((with_reducible refine (hq _ (hB.alloc hB.size _).drew).mono ?_); rintro e wq ⟨rfl, hb⟩; replace hb := undrew hb; replace B_a := (B_a.alloc _).below hb; replace B_r := (B_r.alloc _).below hb; (try replace o_c := o_c.step hb); replace hB := below_step hB hb hB.size; have sz := hb.size; simp only [World.size_alloc] at sz; have B_o := Box.below (Box.new _ #[.slice none 0 0, .slice none 0 0] 31) hb; have q_o_0 := B_o.cell 0 _ rfl; have q_o_1 := B_o.cell 1 _ rfl; have fr_o := B_o.fro; have z_o := B_o.lt; clear hb; replace q_a_0 := B_a.cell 0 _ rfl; replace q_a_1 := B_a.cell 1 _ rfl; replace fr_a := B_a.fro; replace z_a := B_a.lt; replace q_r_0 := B_r.cell 0 _ rfl; replace q_r_1 := B_r.cell 1 _ rfl; replace fr_r := B_r.fro; replace z_r := B_r.lt))))
    all_goals
      go_wp2_with fail
      go_meet
      first | exact ⟨_, K_c, rfl, rfl, B_a.alloc _, B_r.alloc _, Box.new _ _ _, o_c.alloc_ _, fun g hg => ⟨by have := l_c g hg; omega, by have := u_c g hg; omega⟩, by omega, hB.alloc hB.size _, by simp <;> omega⟩ | (obtain ⟨go, hgo, B_go⟩ := B_o.ad; rw [← hgo]; exact ⟨go, K_c, rfl, rfl, ((B_a.other (by omega) _).other (by omega) _), ((B_r.other (by omega) _).other (by omega) _), ((B_go.set 0 _).set 1 _), o_c.chg (F := [go]) (by repeat (first | exact Chg.refl _ _ | refine Chg.set_ ?_ (by simp) _ | refine Chg.alloc_ ?_ _ | refine Chg.drew_ ?_)) (fun g hg hm => by simp only [List.mem_cons, List.not_mem_nil, or_false] at hm; have := l_c g hg; have := u_c g hg; omega), fun g hg => ⟨by have := l_c g hg; omega, by have := l_c g hg; have := u_c g hg; omega⟩, by omega, Below.trans hB (by repeat (first | exact Below.refl _ _ | refine Below.setCell ?_ (by simp <;> omega) _ | refine Below.alloc ?_ (by simp <;> omega) _ | refine Below.drew ?_)), by simp <;> omega⟩)
  case rest =>
    clear B_a fr_a z_a q_a_0 q_a_1
    clear B_r fr_r z_r q_r_0 q_r_1
    clear hB
    obtain ⟨go, K_c, rfl, rfl, B_a, B_r, B_o, o_c, ln_c, lo_o, hB, sz⟩ := hcut
    have l_c := fun g hg => (ln_c g hg).1
    have ne_o := fun g hg => (ln_c g hg).2
    have u_c := o_c.lt
    clear ln_c
    have zz_o := B_o.lt
    have q_a_0 := B_a.cell 0 _ rfl
    have q_a_1 := B_a.cell 1 _ rfl
    have fr_a := B_a.fro
    have z_a := B_a.lt
    have q_r_0 := B_r.cell 0 _ rfl
    have q_r_1 := B_r.cell 1 _ rfl
    have fr_r := B_r.fro
    have z_r := B_r.lt
    have q_o_0 := B_o.cell 0 _ rfl
    have q_o_1 := B_o.cell 1 _ rfl
    have fr_o := B_o.fro
    have z_o := B_o.lt
    clear hq hcp
    go_wp2_with (go_at_call 75; refine (within_ct _ _ _ _).mono ?_; rw [hiw]; rintro e wv ⟨rfl, rfl⟩)
    go_region_with (first | (go_at_call 125; (first | ((with_reducible refine (hga _).mono ?_); rintro e wq ⟨rfl, rfl⟩) | ((with_reducible refine (hga _).mono ?_); rintro e wq ⟨rfl, rfl⟩))) | (go_at_call 41; (first | ((with_reducible refine (hfx _).mono ?_); rintro e wq ⟨rfl, hb⟩; replace B_a := B_a.below hb; replace B_r := B_r.below hb; replace B_o := B_o.below hb; replace o_c := o_c.step0 hb; (try replace o_c := o_c.step0 hb); replace hB := hB.trans (hb.mono hB.size); have sz := hb.size; clear hb; replace q_a_0 := B_a.cell 0 _ rfl; replace q_a_1 := B_a.cell 1 _ rfl; replace fr_a := B_a.fro; replace z_a := B_a.lt; replace q_r_0 := B_r.cell 0 _ rfl; replace q_r_1 := B_r.cell 1 _ rfl; replace fr_r := B_r.fro; replace z_r := B_r.lt; replace q_o_0 := B_o.cell 0 _ rfl; replace q_o_1 := B_o.cell 1 _ rfl; replace fr_o := B_o.fro; replace z_o := B_o.lt) | ((with_reducible refine (hfx _).mono ?_); rintro e wq ⟨rfl, hb⟩; replace hb := undrew hb; replace B_a := B_a.below hb; replace B_r := B_r.below hb; replace B_o := B_o.below hb; replace o_c := o_c.step0 hb; (try replace o_c := o_c.step0 hb); replace hB := hB.trans (hb.mono hB.size); have sz := hb.size; clear hb; replace q_a_0 := B_a.cell 0 _ rfl; replace q_a_1 := B_a.cell 1 _ rfl; replace fr_a := B_a.fro; replace z_a := B_a.lt; replace q_r_0 := B_r.cell 0 _ rfl; replace q_r_1 := B_r.cell 1 _ rfl; replace fr_r := B_r.fro; replace z_r := B_r.lt; replace q_o_0 := B_o.cell 0 _ rfl; replace q_o_1 := B_o.cell 1 _ rfl; replace fr_o := B_o.fro; replace z_o := B_o.lt))) | (go_at_call 43; ((with_reducible refine (putNum_impl _ _ _ P t (show OwL FI 3 _ (.slice K_c.Bytes.a K_c.Bytes.len K_c.Bytes.cap) x.Bytes from o_c.Bytes) HTS.out HBL.out).mono ?_); rintro e wq ⟨rfl, hbN, hx⟩; replace hB := hB.trans (hx.below hB.size (fun g hm => by have := l_c g (HHeap.bytes_foot hm); omega)); have sz := hx.size; replace B_a := B_a.chg hx (fun hm => by have := l_c _ (HHeap.bytes_foot hm); have := u_c _ (HHeap.bytes_foot hm); omega); replace B_r := B_r.chg hx (fun hm => by have := l_c _ (HHeap.bytes_foot hm); have := u_c _ (HHeap.bytes_foot hm); omega); replace B_o := B_o.chg hx (fun hm => by have := l_c _ (HHeap.bytes_foot hm); have := u_c _ (HHeap.bytes_foot hm); have := ne_o _ (HHeap.bytes_foot hm); omega); replace o_c := (show OwHeap _ K_c { x with Bytes := putAt x.Bytes P (nums t) } from o_c.setBytes hbN hx); clear hx; replace q_a_0 := B_a.cell 0 _ rfl; replace q_a_1 := B_a.cell 1 _ rfl; replace fr_a := B_a.fro; replace z_a := B_a.lt; replace q_r_0 := B_r.cell 0 _ rfl; replace q_r_1 := B_r.cell 1 _ rfl; replace fr_r := B_r.fro; replace z_r := B_r.lt; replace q_o_0 := B_o.cell 0 _ rfl; replace q_o_1 := B_o.cell 1 _ rfl; replace fr_o := B_o.fro; replace z_o := B_o.lt)))
    all_goals
      rw [HTE.out] at o_c
      go_wp2_with fail
      refine bodyPost_ret (v := .tuple #[.agg #[.slice K_c.Bytes.a K_c.Bytes.len K_c.Bytes.cap, .slice K_c.Class.a K_c.Class.len K_c.Class.cap], .bool true]) (by simp [results, Tryz.results81, go_sem, q_r_0, q_r_1]) rfl ⟨K_c, rfl, by rw [HV.out]; exact o_c.chg (F := [w.heap.size + 1]) (by repeat (first | exact Chg.refl _ _ | refine Chg.set_ ?_ (by simp) _ | refine Chg.alloc_ ?_ _ | refine Chg.drew_ ?_)) (fun g hg hm => by simp only [List.mem_cons, List.not_mem_nil, or_false] at hm; have := l_c g hg; have := u_c g hg; omega), fun g hg => by have := l_c g hg; omega, Below.trans hB (by repeat (first | exact Below.refl _ _ | refine Below.setCell ?_ (by simp <;> omega) _ | refine Below.alloc ?_ (by simp <;> omega) _ | refine Below.drew ?_))⟩
end Go.Proofs.YtcligoicoeklfaaGreat
