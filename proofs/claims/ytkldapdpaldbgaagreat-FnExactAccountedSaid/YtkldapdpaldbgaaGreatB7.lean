/-
  Lists of slots: searched.
-/
import Derived.Test.YtkldapdpaldbgaaGreatT
import Derived.Test.YtkldapdpaldbgaaGreatL
import Derived.Deep.QuietTactic
import Derived.BigQuiet
import Derived.Deep.LoopGhost
import Derived.Deep.RegionHeld3
import Derived.Test.YtkldapdpaldbgaaGreatN
import Derived.Test.YtkldapdpaldbgaaGreatA
import Derived.WalkSpells
import Derived.Laws.Cover3
import Derived.Test.YtkldapdpaldbgaaGreatB6
namespace Go.Proofs.YtkldapdpaldbgaaGreat
open Go.RowKit

theorem Tryz.stInt : ST Tryz.prog FI 24 3 := ⟨Tryz.underlying24, .int .i64 0, 8, by kernel_rfl, rfl, by decide⟩

set_option maxHeartbeats 1000000 in
theorem IndexInt_ct (w : World) (v : Value) (l : List Int) (x : Int) (h : RdL FI w w.heap.size v l) :
    Calls Tryz.prog 304 #[v, .int .i64 x] w fun e w' => e = .returned (.int .i64 (idxOf (fun y => y == x) l)) ∧ w = w' := by
  obtain ⟨A, c, hv, q1, q2, _⟩ := id h
  have hlt0 : l.length ≤ 9223372036854775807 := by unfold maxLen at q2; omega
  subst hv
  clear q1 q2
  go_enter Tryz.func304, Tryz.ntmps304
  go_wp2
  go_loop [5, 8] (fun _ i => ∃ i' : Nat, i' ≤ l.length ∧ i = .int .i64 i' ∧ Hid ((l.take i').any (fun y => y == x) = false)) (fun _ i => l.length - (intOf i).toNat)
  case atStart => exact ⟨0, Nat.zero_le _, rfl, rfl⟩
  case round =>
    obtain ⟨i, hi, rfl, HN⟩ := hrel
    by_cases hlt : i < l.length
    · obtain ⟨g, off, cap', he, hg, _, _, hc⟩ := h.at_ (List.getElem?_eq_getElem hlt)
      injection he with he1 he2 he3
      clear he2
      subst he1 he3
      have p0 : w.cell? ⟨g, off + i, none⟩ = some (.int .i64 l[i]) := by simpa [FI] using hc 0 _ rfl
      clear hc h
      by_cases hp : x = l[i]
      · have HP := Hid.mk_ (idxOf_hit (fun y => y == x) l i hlt HN.out (by simp [hp]))
        have hp' : (x == l[i]) = true := by simpa using hp
        clear hp
        go_wp2
        go_ret
        exact ⟨ret_i64 HP.out.symm, rfl⟩
      · have HP := Hid.mk_ (any_take_succ (fun y => y == x) l i hlt HN.out (by simpa using fun e => hp e.symm))
        have hp' : (x == l[i]) = false := by simpa using hp
        clear hp
        go_wp2
        go_round
        case rel => exact ⟨i + 1, by omega, by go_num, HP⟩
        case measure => simp [intOf]; omega
    · go_wp2
      go_ret
      obtain rfl : i = l.length := by omega
      exact ⟨ret_i64 (idxOf_none _ l (by simpa using HN.out)).symm, rfl⟩
set_option maxHeartbeats 1000000 in
theorem ContainsInt_ct (w : World) (v : Value) (l : List Int) (x : Int) (h : RdL FI w w.heap.size v l) :
    Calls Tryz.prog 271 #[v, .int .i64 x] w fun e w' => e = .returned (.bool (l.any fun y => y == x)) ∧ w = w' := by
  go_enter Tryz.func271, Tryz.ntmps271
  go_wp2_with fail
  refine (IndexInt_ct w v l x h).mono ?_
  rintro e w1 ⟨rfl, rfl⟩
  have HP := Hid.mk_ (idxOf_ge (fun y => y == x) l)
  go_wp2
  go_ret
  exact ⟨ret_bool HP.out, rfl⟩

set_option maxHeartbeats 1000000 in
theorem IndexFuncSL_ct (w : World) (v : Value) (t : List SV) (ll : List (List Int)) (h : RdLL FI w w.heap.size v t ll) (fid : FuncId) (cap : Array Value) (p : List Int → Bool) (hent : ∀ (A : Option Addr) (n c : Nat) (W : World), (callFunc fid (#[.agg #[.slice A n c]] ++ cap)).run Tryz.prog W = .ok (.enter fid (#[.agg #[.slice A n c]] ++ cap)) W) (hf : ∀ (A : Option Addr) (c : Nat) (l : List Int) (W : World), Below w.heap.size w W → RdL FI W W.heap.size (.slice A l.length c) l → Calls Tryz.prog fid (#[.agg #[.slice A l.length c]] ++ cap) W fun e W' => e = .returned (.bool (p l)) ∧ Below W.heap.size W W') :
    Calls Tryz.prog 305 #[v, .func (.func fid) #[] cap] w fun e w' => e = .returned (.int .i64 (idxOf p ll)) ∧ Below w.heap.size w w' := by
  obtain ⟨A, c, hv, _⟩ := id h.outer
  subst hv
  obtain ⟨en, hcap, hmx⟩ := h.len'
  have hlt0 : ll.length ≤ 9223372036854775807 := by unfold maxLen at hmx; omega
  rw [en] at h ⊢
  clear en hcap hmx
  have HF := Hid.mk_ hf
  clear hf
  go_enter Tryz.func305, Tryz.ntmps305
  go_wp2
  go_loopw [5, 8] (fun _ i wr => ∃ i' : Nat, i' ≤ ll.length ∧ i = .int .i64 i' ∧ Below w.heap.size w wr ∧ (ll.take i').any p = false) (fun _ i _ => ll.length - (intOf i).toNat)
  case atStart => exact ⟨0, Nat.zero_le _, rfl, Below.refl _ _, rfl⟩
  case round =>
    obtain ⟨i, hi, rfl, hb, hno⟩ := hrel
    have HN := Hid.mk_ hno
    clear hno
    by_cases hlt : i < ll.length
    · obtain ⟨g, o, A', c', rfl, hg, p0, r1⟩ := h.row hb hlt
      clear h
      go_wp2_with fail
      refine (HF.out A' c' ll[i] wr hb (rd_up r1 hb)).mono ?_
      rintro e w1 ⟨rfl, hb1⟩
      have hb2 := hb.trans (hb1.mono hb.size)
      by_cases hp : p ll[i] = true
      · have HP := Hid.mk_ (idxOf_hit p ll i hlt HN.out hp)
        rw [hp]
        clear hp
        go_wp2
        go_ret
        exact ⟨ret_i64 HP.out.symm, hb2⟩
      · have hp' : p ll[i] = false := by simpa using hp
        have HP := Hid.mk_ (any_take_succ p ll i hlt HN.out hp')
        rw [hp']
        clear hp hp'
        go_wp2
        go_roundw
        case rel => exact ⟨i + 1, by omega, by go_num, hb2, HP.out⟩
        case measure => simp [intOf]; omega
    · go_wp2
      go_ret
      obtain rfl : i = ll.length := by omega
      exact ⟨ret_i64 (idxOf_none p ll (by simpa using HN.out)).symm, hb⟩
set_option maxHeartbeats 1000000 in
theorem ContainsFuncSL_ct (w : World) (v : Value) (t : List SV) (ll : List (List Int)) (h : RdLL FI w w.heap.size v t ll) (fid : FuncId) (cap : Array Value) (p : List Int → Bool) (hent : ∀ (A : Option Addr) (n c : Nat) (W : World), (callFunc fid (#[.agg #[.slice A n c]] ++ cap)).run Tryz.prog W = .ok (.enter fid (#[.agg #[.slice A n c]] ++ cap)) W) (hf : ∀ (A : Option Addr) (c : Nat) (l : List Int) (W : World), Below w.heap.size w W → RdL FI W W.heap.size (.slice A l.length c) l → Calls Tryz.prog fid (#[.agg #[.slice A l.length c]] ++ cap) W fun e W' => e = .returned (.bool (p l)) ∧ Below W.heap.size W W') :
    Calls Tryz.prog 272 #[v, .func (.func fid) #[] cap] w fun e w' => e = .returned (.bool (ll.any p)) ∧ Below w.heap.size w w' := by
  have HF := Hid.mk_ hf
  clear hf
  go_enter Tryz.func272, Tryz.ntmps272
  go_wp2_with fail
  refine (IndexFuncSL_ct w v t ll h fid cap p hent HF.out).mono ?_
  rintro e w1 ⟨rfl, hb1⟩
  have HP := Hid.mk_ (idxOf_ge p ll)
  go_wp2
  go_ret
  exact ⟨ret_bool HP.out, hb1⟩

set_option maxHeartbeats 1000000 in
theorem l8Has_ct (w : World) (v : Value) (z : List Int) (x : Int) (h : RdL FI w w.heap.size v z) :
    Calls Tryz.prog 130 #[v, .int .i64 x] w fun e w' => e = .returned (.bool (z.any fun y => y == x)) ∧ Below w.heap.size w w' := by
  obtain ⟨A, c, hv, q1, q2, _⟩ := id h
  have hlt0 : z.length ≤ 9223372036854775807 := by unfold maxLen at q2; omega
  subst hv
  clear q1 q2
  go_enter Tryz.func130, Tryz.ntmps130
  go_wp2
  go_loopw [5] (fun i wr => ∃ k : Nat, k ≤ z.length ∧ i = .int .i64 k ∧ Below w.heap.size w wr ∧ (z.take k).any (fun y => y == x) = false) (fun i _ => z.length - (intOf i).toNat)
  case atStart => exact ⟨0, Nat.zero_le _, rfl, Below.refl _ _, rfl⟩
  case round =>
    obtain ⟨i, hi, rfl, hb, hno⟩ := hrel
    have HN := Hid.mk_ hno
    clear hno
    by_cases hlt : i < z.length
    · obtain ⟨g, off, cap', he, hg, _, _, hc⟩ := (h.below hb).at_ (List.getElem?_eq_getElem hlt)
      injection he with he1 he2 he3
      clear he2
      subst he1 he3
      have p0 : wr.cell? ⟨g, off + i, none⟩ = some (.int .i64 z[i]) := by simpa [FI] using hc 0 _ rfl
      clear hc h
      by_cases hz : z[i] = x
      · have hz1 : (z[i] == x) = true := by simpa using hz
        have HP := Hid.mk_ (show (z.any fun y => y == x) = true from List.any_eq_true.2 ⟨z[i], List.getElem_mem hlt, hz1⟩)
        clear hz
        go_wp2
        go_ret
        exact ⟨ret_bool HP.out.symm, hb⟩
      · have hz1 : (z[i] == x) = false := by simpa using hz
        have HP := Hid.mk_ (any_take_succ (fun y => y == x) z i hlt HN.out hz1)
        clear hz
        go_wp2
        go_roundw
        case rel => exact ⟨i + 1, by omega, by go_num, hb, HP.out⟩
        case measure => simp [intOf]; omega
    · go_wp2
      go_ret
      obtain rfl : i = z.length := by omega
      exact ⟨ret_bool (by simpa using HN.out.symm), hb⟩

def onListB (l : Lists) (s : Int) : Bool := (l.Global.any fun r => r.any fun y => y == s) || (l.Own.any fun r => r.any fun y => y == s)
theorem any_flatten_ {α : Type} (p : α → Bool) (ll : List (List α)) : ll.flatten.any p = ll.any fun l => l.any p := by
  induction ll with
  | nil => rfl
  | cons a l ih => simp [ih]
def allL (l : Lists) : List Int := l.Global.flatten ++ l.Own.flatten
theorem onListB_all (l : Lists) (s : Int) : onListB l s = (allL l).any fun y => y == s := by
  unfold onListB allL
  rw [List.any_append, any_flatten_, any_flatten_]

set_option maxHeartbeats 1000000 in
theorem OnList1_impl (A : Option Addr) (c : Nat) (l : List Int) (slot : Int) (b : Nat) (w : World) (h : RdL FI w w.heap.size (.slice A l.length c) l) (h0 : w.cell? ⟨b, 0, none⟩ = some (.int .i64 slot)) (hb : b < w.heap.size) :
    Calls Tryz.prog 270 #[.agg #[.slice A l.length c], .pointer (some ⟨b, 0, none⟩)] w fun e w' => e = .returned (.bool (l.any fun y => y == slot)) ∧ Below w.heap.size w w' := by
  go_enter Tryz.func270, Tryz.ntmps270
  go_wp2_with fail
  refine (ContainsInt_ct _ _ l slot (rd_up h (by repeat (first | exact Below.refl _ _ | refine Below.alloc ?_ (by simp <;> omega) _ | refine below_grow_of ?_ (by simp <;> omega) _ _ | refine Below.drew ?_ | refine below_drewN ?_ _)))).mono ?_
  rintro e w1 ⟨rfl, rfl⟩
  go_wp2
  go_ret
  exact ⟨rfl, by repeat (first | exact Below.refl _ _ | refine Below.alloc ?_ (by simp <;> omega) _ | refine below_grow_of ?_ (by simp <;> omega) _ _ | refine Below.drew ?_ | refine below_drewN ?_ _)⟩
set_option maxRecDepth 100000 in
set_option maxHeartbeats 1000000 in
theorem OnList_impl (w : World) (H : HLists) (x : Lists) (s : Int) (h : RdLists w w.heap.size H x) :
    Calls Tryz.prog 217 #[.agg #[.slice H.Global.a H.Global.len H.Global.cap, .slice H.Own.a H.Own.len H.Own.cap], .int .i64 s] w fun e w' => e = .returned (.bool (onListB x s)) ∧ Below w.heap.size w w' := by
  obtain ⟨⟨A1, n1, c1⟩, T1, ⟨A2, n2, c2⟩, T2⟩ := H
  obtain ⟨gl, ow⟩ := x
  have hr1 : RdLL FI w w.heap.size (.slice A1 n1 c1) T1 gl := h.Global
  have hr2 : RdLL FI w w.heap.size (.slice A2 n2 c2) T2 ow := h.Own
  obtain ⟨en1, _, hmx⟩ := hr1.len'
  have hlt1 : gl.length ≤ 9223372036854775807 := by unfold maxLen at hmx; omega
  clear hmx
  obtain ⟨en2, _, hmx⟩ := hr2.len'
  have hlt2 : ow.length ≤ 9223372036854775807 := by unfold maxLen at hmx; omega
  clear hmx h
  subst en1 en2
  have HE := Hid.mk_ (show onListB ⟨gl, ow⟩ s = ((gl.any fun r => r.any fun y => y == s) || (ow.any fun r => r.any fun y => y == s)) from rfl)
  show Calls Tryz.prog 217 #[.agg #[.slice A1 gl.length c1, .slice A2 ow.length c2], .int .i64 s] _ _
  go_enter Tryz.func217, Tryz.ntmps217
  go_wp2_with fail
  refine (ContainsFuncSL_ct _ _ T1 gl (rdLL_up hr1 (by repeat (first | exact Below.refl _ _ | refine Below.alloc ?_ (by simp <;> omega) _ | refine below_grow_of ?_ (by simp <;> omega) _ _ | refine Below.drew ?_ | refine below_drewN ?_ _))) 270 #[.pointer (some ⟨w.heap.size + 1, 0, none⟩)] (fun l => l.any fun y => y == s) (fun _ _ _ _ => by kernel_rfl) (fun A c l W hW hr => OnList1_impl A c l s (w.heap.size + 1) W hr ((hW.cell (p := ⟨w.heap.size + 1, 0, none⟩) (by simp)).trans (by simp [go_sem])) (by have := hW.size; simp at this; omega))).mono ?_
  rintro e w1 ⟨rfl, hb1⟩
  have q0 : w1.cell? ⟨w.heap.size, 0, none⟩ = some (.slice A1 gl.length c1) := cell_up hb1 (by simp <;> omega) (by simp [go_sem])
  have q1 : w1.cell? ⟨w.heap.size, 1, none⟩ = some (.slice A2 ow.length c2) := cell_up hb1 (by simp <;> omega) (by simp [go_sem])
  have q2 : w1.cell? ⟨w.heap.size + 1, 0, none⟩ = some (.int .i64 s) := cell_up hb1 (by simp <;> omega) (by simp [go_sem])
  have hB1 : Below w.heap.size w w1 := Below.trans (by repeat (first | exact Below.refl _ _ | refine Below.alloc ?_ (by simp <;> omega) _ | refine below_grow_of ?_ (by simp <;> omega) _ _ | refine Below.drew ?_ | refine below_drewN ?_ _)) (hb1.mono (by simp <;> omega))
  have z1 : w.heap.size + 1 < w1.heap.size := by have := hb1.size; simp at this; omega
  clear hb1
  by_cases k1 : (gl.any fun r => r.any fun y => y == s) = true
  · have K1 := Hid.mk_ k1
    rw [k1]
    clear k1
    go_wp2
    go_ret
    exact ⟨ret_bool (by rw [HE.out, K1.out]; rfl), hB1⟩
  · have k1' : (gl.any fun r => r.any fun y => y == s) = false := (Bool.not_eq_true _).mp k1
    have K1 := Hid.mk_ k1'
    rw [k1']
    clear k1 k1'
    go_wp2_with fail
    refine (ContainsFuncSL_ct _ _ T2 ow (rdLL_up hr2 hB1) 270 #[.pointer (some ⟨w.heap.size + 1, 0, none⟩)] (fun l => l.any fun y => y == s) (fun _ _ _ _ => by kernel_rfl) (fun A c l W hW hr => OnList1_impl A c l s (w.heap.size + 1) W hr ((hW.cell (p := ⟨w.heap.size + 1, 0, none⟩) z1).trans q2) (Nat.lt_of_lt_of_le z1 hW.size))).mono ?_
    rintro e w2 ⟨rfl, hb2⟩
    go_wp2
    go_ret
    exact ⟨ret_bool (by rw [HE.out, K1.out]; rfl), hB1.trans (hb2.mono hB1.size)⟩

theorem gcell {w w' : World} {r : Option Nat} (h : w.grownBy w' r) (g i : Nat) (hg : g < w.heap.size) (hn : r ≠ some g) : w'.cell? ⟨g, i, none⟩ = w.cell? ⟨g, i, none⟩ := by
  simp [World.cell?, h.block g hg (fun e => hn e.symm)]
set_option maxRecDepth 100000 in
set_option maxHeartbeats 1000000 in
theorem l8All_ct (w : World) (H : HLists) (x : Lists) (h : RdLists w w.heap.size H x) (hs1 : szLL x.Global ≤ 536870912) (hs2 : szLL x.Own ≤ 536870912) :
    Calls Tryz.prog 213 #[.agg #[.slice H.Global.a H.Global.len H.Global.cap, .slice H.Own.a H.Own.len H.Own.cap]] w fun e w' => ∃ v', e = .returned v' ∧ OwL FI 3 w' v' (allL x) ∧ (∀ g ∈ foot1 v', w.heap.size ≤ g) ∧ Below w.heap.size w w' := by
  obtain ⟨⟨A1, n1, c1⟩, T1, ⟨A2, n2, c2⟩, T2⟩ := H
  obtain ⟨gl, ow⟩ := x
  have hr1 : RdLL FI w w.heap.size (.slice A1 n1 c1) T1 gl := h.Global
  have hr2 : RdLL FI w w.heap.size (.slice A2 n2 c2) T2 ow := h.Own
  obtain ⟨en1, _, hmx⟩ := hr1.len'
  have hlt1 : gl.length ≤ 9223372036854775807 := by unfold maxLen at hmx; omega
  clear hmx
  obtain ⟨en2, _, hmx⟩ := hr2.len'
  have hlt2 : ow.length ≤ 9223372036854775807 := by unfold maxLen at hmx; omega
  clear hmx h
  subst en1 en2
  simp only at hs1 hs2
  have HAL := Hid.mk_ (show allL ⟨gl, ow⟩ = gl.flatten ++ ow.flatten from rfl)
  show Calls Tryz.prog 213 #[.agg #[.slice A1 gl.length c1, .slice A2 ow.length c2]] _ _
  go_enter Tryz.func213, Tryz.ntmps213
  go_wp2
  go_loopw [3, 4] (fun o i wr => ∃ k : Nat, k ≤ gl.length ∧ i = .int .i64 k ∧ OwL FI 3 wr o ((gl.take k).flatten) ∧ (∀ g ∈ foot1 o, w.heap.size < g) ∧ Below w.heap.size w wr ∧ wr.cell? ⟨w.heap.size, 0, none⟩ = some (.slice A1 gl.length c1) ∧ wr.cell? ⟨w.heap.size, 1, none⟩ = some (.slice A2 ow.length c2) ∧ w.heap.size < wr.heap.size) (fun _ i _ => gl.length - (intOf i).toNat)
  case atStart => exact ⟨0, Nat.zero_le _, rfl, (by have hq := OwL.lit FI [] #[] rfl (by decide) (w.alloc (.cells #[.slice A1 gl.length c1, .slice A2 ow.length c2] 29)) 3; simpa using hq), by simp [foot1, Value.ownBlock], by repeat (first | exact Below.refl _ _ | refine Below.alloc ?_ (by simp <;> omega) _ | refine below_grow_of ?_ (by simp <;> omega) _ _ | refine Below.drew ?_ | refine below_drewN ?_ _), by simp [go_sem], by simp [go_sem], by simp; omega⟩
  case round =>
    obtain ⟨i, hi, rfl, ho, hfo, hb, r0, r1, hz⟩ := hrel
    by_cases hlt : i < gl.length
    · obtain ⟨g, o, A', c', hAe, hg, p0, rr1⟩ := hr1.row hb hlt
      subst hAe
      have hfl : ((gl.take i).flatten).length + gl[i].length ≤ 1073741824 := by
        have a := totLL_take_succ gl i hlt
        have b := totLL_take_le gl (i + 1)
        have c : totLL gl ≤ szLL gl := Nat.le_add_left _ _
        rw [← totLL_eq]
        omega
      have HF := Hid.mk_ (show (gl.take (i + 1)).flatten = ((gl.take i).flatten) ++ gl[i] from by rw [List.take_succ_eq_append_getElem hlt, List.flatten_append, List.flatten_singleton])
      clear hr1 hr2
      go_wp2_with (at_builtin; refine wpList_append_flat Tryz.stInt rfl _ _ rfl (v := u3) (y := .slice A' gl[i].length c') (l := (gl.take i).flatten) (m := gl[i]) rfl rfl ho (rd_up rr1 hb) hfl ?_; intro v' w3 ho' hg' hat')
      have hb3 : Below w.heap.size w w3 := hb.grown hg' hb.size (fun k hk => Nat.le_of_lt (hfo k (mem_foot1.2 hk)))
      have s0 := (gcell hg' w.heap.size 0 hz (fun hm => by have := hfo _ (mem_foot1.2 hm); omega)).trans r0
      have s1 := (gcell hg' w.heap.size 1 hz (fun hm => by have := hfo _ (mem_foot1.2 hm); omega)).trans r1
      go_roundw
      case rel => exact ⟨i + 1, by omega, by go_num, by rw [HF.out]; exact ho', fun b hb' => by rcases foot_app hat' b hb' with h | h; (exact hfo b h); (have := hb.size; omega), hb3, s0, s1, Nat.lt_of_lt_of_le hz hg'.size⟩
      case measure => simp [intOf]; omega
    · obtain rfl : i = gl.length := by omega
      rw [List.take_length] at ho
      go_wp2
      go_loopw [3, 5] (fun o i wr => ∃ k : Nat, k ≤ ow.length ∧ i = .int .i64 k ∧ OwL FI 3 wr o (gl.flatten ++ (ow.take k).flatten) ∧ (∀ g ∈ foot1 o, w.heap.size < g) ∧ Below w.heap.size w wr ∧ wr.cell? ⟨w.heap.size, 0, none⟩ = some (.slice A1 gl.length c1) ∧ wr.cell? ⟨w.heap.size, 1, none⟩ = some (.slice A2 ow.length c2) ∧ w.heap.size < wr.heap.size) (fun _ i _ => ow.length - (intOf i).toNat)
      case atStart => exact ⟨0, Nat.zero_le _, rfl, by simpa using ho, hfo, hb, r0, r1, hz⟩
      case round =>
        obtain ⟨i, hi, rfl, ho, hfo, hb, r0, r1, hz⟩ := hrel
        by_cases hlt : i < ow.length
        · obtain ⟨g, o, A', c', hAe, hg, p0, rr1⟩ := hr2.row hb hlt
          subst hAe
          have hfl : (gl.flatten ++ (ow.take i).flatten).length + ow[i].length ≤ 1073741824 := by
            have a := totLL_take_succ ow i hlt
            have b := totLL_take_le ow (i + 1)
            have c : totLL ow ≤ szLL ow := Nat.le_add_left _ _
            simp only [List.length_append]; rw [← totLL_eq, ← totLL_eq]; have d : totLL gl ≤ szLL gl := Nat.le_add_left _ _
            omega
          have HF := Hid.mk_ (show gl.flatten ++ (ow.take (i + 1)).flatten = (gl.flatten ++ (ow.take i).flatten) ++ ow[i] from by rw [List.take_succ_eq_append_getElem hlt, List.flatten_append, List.flatten_singleton]; rw [List.append_assoc])
          clear hr1 hr2
          go_wp2_with (at_builtin; refine wpList_append_flat Tryz.stInt rfl _ _ rfl (v := u3) (y := .slice A' ow[i].length c') (l := gl.flatten ++ (ow.take i).flatten) (m := ow[i]) rfl rfl ho (rd_up rr1 hb) hfl ?_; intro v' w3 ho' hg' hat')
          have hb3 : Below w.heap.size w w3 := hb.grown hg' hb.size (fun k hk => Nat.le_of_lt (hfo k (mem_foot1.2 hk)))
          have s0 := (gcell hg' w.heap.size 0 hz (fun hm => by have := hfo _ (mem_foot1.2 hm); omega)).trans r0
          have s1 := (gcell hg' w.heap.size 1 hz (fun hm => by have := hfo _ (mem_foot1.2 hm); omega)).trans r1
          go_roundw
          case rel => exact ⟨i + 1, by omega, by go_num, by rw [HF.out]; exact ho', fun b hb' => by rcases foot_app hat' b hb' with h | h; (exact hfo b h); (have := hb.size; omega), hb3, s0, s1, Nat.lt_of_lt_of_le hz hg'.size⟩
          case measure => simp [intOf]; omega
        · obtain rfl : i = ow.length := by omega
          go_wp2
          go_ret
          refine ⟨_, rfl, ?_, fun g hg => Nat.le_of_lt (hfo g hg), hb⟩
          rw [HAL.out]
          simpa using ho

set_option maxHeartbeats 1000000 in
theorem OnList_spec (w : World) (H : HLists) (x : Lists) (s : Int) (h : RdLists w w.heap.size H x) (hs1 : szLL x.Global ≤ 536870912) (hs2 : szLL x.Own ≤ 536870912) :
    Calls Tryz.prog 214 #[.agg #[.slice H.Global.a H.Global.len H.Global.cap, .slice H.Own.a H.Own.len H.Own.cap], .int .i64 s] w fun e w' => e = .returned (.bool (onListB x s)) ∧ Below w.heap.size w w' := by
  obtain ⟨⟨A1, n1, c1⟩, T1, ⟨A2, n2, c2⟩, T2⟩ := H
  obtain ⟨gl, ow⟩ := x
  have hr1 : RdLL FI w w.heap.size (.slice A1 n1 c1) T1 gl := h.Global
  have hr2 : RdLL FI w w.heap.size (.slice A2 n2 c2) T2 ow := h.Own
  obtain ⟨en1, _, hmx⟩ := hr1.len'
  have hlt1 : gl.length ≤ 9223372036854775807 := by unfold maxLen at hmx; omega
  clear hmx
  obtain ⟨en2, _, hmx⟩ := hr2.len'
  have hlt2 : ow.length ≤ 9223372036854775807 := by unfold maxLen at hmx; omega
  clear hmx h
  subst en1 en2
  simp only at hs1 hs2
  have HE := Hid.mk_ (onListB_all ⟨gl, ow⟩ s)
  show Calls Tryz.prog 214 #[.agg #[.slice A1 gl.length c1, .slice A2 ow.length c2], .int .i64 s] _ _
  go_enter Tryz.func214, Tryz.ntmps214
  go_wp2_with fail
  refine (l8All_ct _ ⟨⟨A1, gl.length, c1⟩, T1, ⟨A2, ow.length, c2⟩, T2⟩ ⟨gl, ow⟩ ⟨rdLL_up hr1 (by repeat (first | exact Below.refl _ _ | refine Below.alloc ?_ (by simp <;> omega) _ | refine below_grow_of ?_ (by simp <;> omega) _ _ | refine Below.drew ?_ | refine below_drewN ?_ _)), rdLL_up hr2 (by repeat (first | exact Below.refl _ _ | refine Below.alloc ?_ (by simp <;> omega) _ | refine below_grow_of ?_ (by simp <;> omega) _ _ | refine Below.drew ?_ | refine below_drewN ?_ _))⟩ hs1 hs2).mono ?_
  rintro e w1 ⟨v', rfl, ho, hf, hb0⟩
  have hB1 : Below w.heap.size w w1 := Below.trans (by repeat (first | exact Below.refl _ _ | refine Below.alloc ?_ (by simp <;> omega) _ | refine below_grow_of ?_ (by simp <;> omega) _ _ | refine Below.drew ?_ | refine below_drewN ?_ _)) (hb0.mono (by simp <;> omega))
  clear hf hb0
  generalize allL ⟨gl, ow⟩ = L at ho HE
  go_wp2_with fail
  refine (l8Has_ct _ _ L s ho.rd').mono ?_
  rintro e w2 ⟨rfl, hb2⟩
  go_wp2
  go_ret
  exact ⟨ret_bool HE.out.symm, hB1.trans (hb2.mono hB1.size)⟩
end Go.Proofs.YtkldapdpaldbgaaGreat
