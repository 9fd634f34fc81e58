/-
  Several texts in one: lemmas and contracts that the claim rests on.
-/
import Derived.Test.YtpjijbonpjoamaaGreatUHAllocNow4
import Derived.Test.YtpjijbonpjoamaaGreatUHAllocNow1
import Derived.Deep.QuietTactic
import Derived.BigQuiet
import Derived.Deep.LoopGhost
import Derived.Deep.RegionHeld3
import Derived.WalkSpells
import Derived.Laws.Cover3
import Derived.Test.YtpjijbonpjoamaaGreatUHAllocNow2
import Derived.Lib.AppendZerosOnto
import Derived.Lib.SliceRun
import Derived.Lib.Walk
import Derived.Deep.WholeRow
/-
  Lists of slots, memories: plain definitions and facts.
-/
namespace Go.Proofs.YtpjijbonpjoamaaGreat
open Go.RowKit
def seenOk (L : List Int) : Bool := L.all (inB 0 23) && decide L.Nodup
theorem any_eq_mem (L : List Int) (x : Int) : (L.any fun y => y == x) = decide (x ∈ L) := by
  rw [Bool.eq_iff_iff]
  simp
theorem nodup_snoc {L : List Int} {x : Int} : (L ++ [x]).Nodup ↔ L.Nodup ∧ x ∉ L := by
  rw [List.nodup_append]
  constructor
  · rintro ⟨a, _, b⟩
    exact ⟨a, fun h => b x h x (List.mem_singleton_self x) rfl⟩
  · rintro ⟨a, b⟩
    refine ⟨a, by simp, fun u hu v hv e => ?_⟩
    rw [List.mem_singleton.1 hv] at e
    exact b (e ▸ hu)
theorem seen_step {L : List Int} {p : Nat} (hp : p < L.length) (h : seenOk (L.take p) = true) (h1 : inB 0 23 L[p] = true) (h2 : ((L.take p).any fun y => y == L[p]) = false) : seenOk (L.take (p + 1)) = true := by
  rw [any_eq_mem, decide_eq_false_iff_not] at h2
  unfold seenOk at *
  rw [List.take_succ_eq_append_getElem hp, List.all_append]
  simp only [Bool.and_eq_true, decide_eq_true_eq] at *
  exact ⟨⟨h.1, by simp [h1]⟩, nodup_snoc.2 ⟨h.2, h2⟩⟩
theorem seen_no1 {L : List Int} {p : Nat} (hp : p < L.length) (h1 : inB 0 23 L[p] = false) : seenOk L = false := by
  unfold seenOk
  have : L.all (inB 0 23) = false := List.all_eq_false.2 ⟨L[p], List.getElem_mem hp, by rw [h1]; decide⟩
  rw [this]
  rfl
theorem seen_no2 {L : List Int} {p : Nat} (hp : p < L.length) (h2 : ((L.take p).any fun y => y == L[p]) = true) : seenOk L = false := by
  rw [any_eq_mem, decide_eq_true_eq] at h2
  unfold seenOk
  have : ¬ L.Nodup := fun hn => by
    have e : L = L.take p ++ L.drop p := (List.take_append_drop p L).symm
    rw [e, List.nodup_append] at hn
    exact hn.2.2 L[p] h2 L[p] (by rw [List.drop_eq_getElem_cons hp]; exact List.mem_cons_self) rfl
  rw [decide_eq_false this, Bool.and_false]
theorem seen_perm {L M : List Int} (h : L.Perm M) : seenOk L = seenOk M := by
  unfold seenOk
  rw [Bool.eq_iff_iff]
  simp only [Bool.and_eq_true, decide_eq_true_eq, List.all_eq_true]
  exact ⟨fun ⟨a, b⟩ => ⟨fun x hx => a x (h.mem_iff.2 hx), h.nodup_iff.1 b⟩, fun ⟨a, b⟩ => ⟨fun x hx => a x (h.mem_iff.1 hx), h.nodup_iff.2 b⟩⟩
theorem flat_at {α : Type} (ll : List (List α)) (i j : Nat) (hi : i < ll.length) (hj : j < ll[i].length) : ll.flatten[totLL (ll.take i) + j]? = some ll[i][j] := by
  have e : ll.flatten = (ll.take i).flatten ++ (ll[i] ++ (ll.drop (i + 1)).flatten) := by
    rw [← List.flatten_cons, ← List.flatten_append, ← List.drop_eq_getElem_cons hi, List.take_append_drop]
  rw [e, totLL_eq, List.getElem?_append_right (by omega), Nat.add_sub_cancel_left, List.getElem?_append_left hj, List.getElem?_eq_getElem hj]
def metI (M : List Int) : List Bool := (List.range 24).map fun (s : Nat) => M.any fun z => z == (s : Int)
theorem metI_len (M : List Int) : (metI M).length = 24 := by simp [metI]
theorem metI_zero : metI [] = List.replicate 24 false := rfl
theorem metI_get (M : List Int) (s : Nat) (hs : s < 24) : (metI M)[s]? = some (M.any fun z => z == (s : Int)) := by simp [metI, hs]
theorem metI_set (L : List Int) (p s : Nat) (hp : p < L.length) (hm : L[p] = (s : Int)) : (metI (L.take p)).set s true = metI (L.take (p + 1)) := by
  apply List.ext_getElem?
  intro k
  by_cases hk : k < 24
  · rw [List.getElem?_set, metI_get _ _ hk, metI_get _ _ hk, List.take_succ_eq_append_getElem hp, List.any_append, metI_len]
    by_cases hks : s = k
    · subst hks
      simp [hm, hk]
    · have : ((s : Int) == (k : Int)) = false := by simp; omega
      simp only [if_neg hks, List.any_cons, List.any_nil, hm, this, Bool.or_false]
  · rw [List.getElem?_eq_none (by simp [metI_len]; omega), List.getElem?_eq_none (by simp [metI_len]; omega)]
def shortB (l : List Int) : Bool := decide (l.length ≤ 2)
def listsOkB (x : Lists) : Bool := (x.Global.length == 3) && (x.Own.length == 9) && x.Own.all shortB && seenOk (allL x)
theorem lists_rows (x : Lists) : seenOk (x.Own ++ x.Global).flatten = seenOk (allL x) := by
  refine seen_perm ?_
  unfold allL
  rw [List.flatten_append]
  exact List.perm_append_comm
theorem all_step {α : Type} {p : α → Bool} {l : List α} {i : Nat} (hi : i < l.length) (h : (l.take i).all p = true) (hp : p l[i] = true) : (l.take (i + 1)).all p = true := by
  rw [List.take_succ_eq_append_getElem hi, List.all_append, h]
  simp [hp]
theorem all_no {α : Type} {p : α → Bool} {l : List α} {i : Nat} (hi : i < l.length) (hp : p l[i] = false) : l.all p = false :=
  List.all_eq_false.2 ⟨l[i], List.getElem_mem hi, by rw [hp]; decide⟩
def fitsB (h : Heap) (c s : Int) : Bool := (classInB h s == c) && decide (genInB h s ≤ 6)
def memOkB (m : Mem) : Bool := heapOkB m.Heap && listsOkB m.Lists && ((List.range 3).all fun c => (m.Lists.Global.getD c []).all (fitsB m.Heap c)) && ((List.range 9).all fun k => (m.Lists.Own.getD k []).all (fitsB m.Heap ((k % 3 : Nat) : Int)))
theorem heap_shape {h : Heap} (k : heapOkB h = true) : shapeB h = true := by
  unfold heapOkB at k
  simp only [Bool.and_eq_true] at k
  exact k.1
theorem mem_heap {m : Mem} (k : memOkB m = true) : heapOkB m.Heap = true := by
  unfold memOkB at k
  simp only [Bool.and_eq_true] at k
  exact k.1.1.1
theorem mem_lists {m : Mem} (k : memOkB m = true) : listsOkB m.Lists = true := by
  unfold memOkB at k
  simp only [Bool.and_eq_true] at k
  exact k.1.1.2
end Go.Proofs.YtpjijbonpjoamaaGreat

/-
  Lists of lists put one behind the other: slices.Grow, slices.Concat.
-/
namespace Go.Proofs.YtpjijbonpjoamaaGreat
open Go.RowKit
theorem Tryz.infoSL : (Tryz.prog.info? 80).map (fun i => (i.zero, i.size, i.bytes)) = some (some (.agg #[.slice none 0 0]), FS.n, 24) := by kernel_rfl
theorem Tryz.stSL : ST Tryz.prog FS 32 80 := ⟨Tryz.underlying32, .agg #[.slice none 0 0], 24, by kernel_rfl, rfl, by decide⟩
set_option maxRecDepth 100000 in
set_option maxHeartbeats 1000000 in
theorem GrowSL_ct (w : World) (n : Nat) (hn : 0 < n) (hn2 : n ≤ 1000) :
    Calls Tryz.prog 138 #[.slice none 0 0, .int .i64 n] w fun e w' => ∃ v, e = .returned v ∧ OwL FS 80 w' v [] ∧ (∀ g ∈ foot1 v, w.heap.size ≤ g) ∧ Below w.heap.size w w' := by
  obtain ⟨i, hi, hzz⟩ := Option.map_eq_some_iff.1 Tryz.infoSL
  simp only [Prod.mk.injEq] at hzz
  obtain ⟨q1, q2, q3⟩ := hzz
  have hrz : ∀ ty, (Builtin.append_ #[32, 3] ty #[.slice none 0 0, .int .i64 (n : Int)]).run Tryz.prog w =
      .ok (.slice (some ⟨w.heap.size, 0, none⟩) n (grownCap w n 0 80)) (w.drew.alloc (.cells (Builtin.zeroCells #[.slice none 0 0] n ++ Builtin.zeroCells #[.slice none 0 0] (grownCap w n 0 80 - n)) 80)) := fun ty => by
    have h := Lib.run_append_grow_zeros w 32 3 ty 80 i _ .i64 .i64 Tryz.underlying32 Tryz.underlying3 hi q1 none 0 0 [] (run_firstCells_none w.drew i.size 0 0 0) n hn (by rw [q2]; decide) (by omega) (by omega) (by rw [q3]; omega) (by rw [q3]; exact growslice_fits (by omega) (by omega))
    simpa [Value.cells] using h
  have hG0 := grownCap_ge w n 0 80
  have hGm := grownCap_le_maxLen w n 0 80 (by unfold maxLen; omega)
  generalize grownCap w n 0 80 = G at hrz hG0 hGm
  have hG1 : G ≤ 9223372036854775807 := by unfold maxLen at hGm; omega
  have how := World.ownsRow_made (base := 0) (e := 80) (size := 1) w.drew (Builtin.zeroCells #[.slice none 0 0] n ++ Builtin.zeroCells #[.slice none 0 0] (G - n)) G (Nat.zero_le _) hGm (by simp [Builtin.zeroCells]; omega)
  have hGn : ¬ (n : Int) ≤ 0 := by omega
  clear hi q1 q2 q3 hGm
  go_enter Tryz.func138, Tryz.ntmps138
  go_wp2_with (at_builtin; refine Lib.wpList_append_run _ rfl _ _ _ _ rfl _ _ rfl rfl _ _ (hrz _) ?_)
  go_ret
  refine ⟨_, rfl, ?_, ?_, ?_⟩
  · unfold OwL
    exact how
  · simp [foot1, Value.ownBlock]
  · exact Below.alloc (Below.drew (Below.refl _ _)) (by simp) _
theorem below_app {w w' : World} {B : Nat} (h : Below B w w') (hB : B ≤ w.heap.size) (v : Value) (w2 : World) (hg : w'.grownBy w2 v.ownBlock) (hf : ∀ g ∈ foot1 v, B ≤ g) : Below B w w2   := h.grown hg (Nat.le_trans hB h.size) (fun k hk => hf k (mem_foot1.2 hk))
set_option maxRecDepth 100000 in
set_option maxHeartbeats 1000000 in
theorem ConcatSL_ct (w : World) (gb : Nat) (A1 A2 : Option Addr) (c1 c2 : Nat) (T1 T2 : List SV) (bb : Box w gb [.slice A1 9 c1, .slice A2 3 c2]) (h1 : RdL FS w w.heap.size (.slice A1 9 c1) T1) (h2 : RdL FS w w.heap.size (.slice A2 3 c2) T2) :
    Calls Tryz.prog 120 #[.slice (some ⟨gb, 0, none⟩) 2 2] w fun e w' => ∃ v, e = .returned v ∧ OwL FS 80 w' v (T1 ++ T2) ∧ (∀ g ∈ foot1 v, w.heap.size ≤ g) ∧ Below w.heap.size w w' := by
  have l1 := (RdL.len_ h1).1
  have l2 := (RdL.len_ h2).1
  have p0 := bb.cell 0 _ rfl
  have p1 := bb.cell 1 _ rfl
  have plt := bb.lt
  have HL1 := Hid.mk_ l1
  have HL2 := Hid.mk_ l2
  clear l1 l2
  go_enter Tryz.func120, Tryz.ntmps120
  go_wp2
  go_loop [3, 5, 11] (fun s _ i => ∃ k : Nat, k ≤ 2 ∧ i = .int .i64 k ∧ s = .int .i64 (if k = 0 then 0 else if k = 1 then 9 else 12)) (fun _ _ i => 2 - (intOf i).toNat)
  case atStart => exact ⟨0, by omega, rfl, rfl⟩
  case round =>
    obtain ⟨k, hk, rfl, rfl⟩ := hrel
    rcases (show k = 0 ∨ k = 1 ∨ k = 2 by omega) with rfl | rfl | rfl
    · go_wp2
      go_round
      case rel => exact ⟨1, by omega, rfl, rfl⟩
      case measure => simp [intOf]
    · go_wp2
      go_round
      case rel => exact ⟨2, by omega, rfl, rfl⟩
      case measure => simp [intOf]
    · go_wp2_with fail
      refine (GrowSL_ct _ 12 (by decide) (by decide)).mono ?_
      rintro e w1 ⟨v1, rfl, ho, hf, hb⟩
      clear p0 p1
      go_wp2
      go_loopw [6, 8, 27] (fun o _ i wr => ∃ k : Nat, k ≤ 2 ∧ i = .int .i64 k ∧ OwL FS 80 wr o (if k = 0 then [] else if k = 1 then T1 else T1 ++ T2) ∧ (∀ g ∈ foot1 o, w.heap.size ≤ g) ∧ Below w.heap.size w wr) (fun _ _ i _ => 2 - (intOf i).toNat)
      case atStart => exact ⟨0, by omega, rfl, ho, hf, hb⟩
      case round =>
        obtain ⟨k, hk, rfl, ho, hf, hb⟩ := hrel
        have bw := bb.below hb
        have p0 := bw.cell 0 _ rfl
        have p1 := bw.cell 1 _ rfl
        have zl := bw.lt
        rcases (show k = 0 ∨ k = 1 ∨ k = 2 by omega) with rfl | rfl | rfl
        · go_wp2_with (at_builtin; refine wpList_append_flat Tryz.stSL rfl _ _ rfl (v := u6) (y := .slice A1 9 c1) (l := []) (m := T1) rfl rfl ho (rd_up h1 hb) (by simp; rw [← HL1.out]; omega) ?_; intro v' w3 ho' hg' hat')
          go_roundw
          case rel => exact ⟨1, by omega, rfl, by simpa using ho', fun g hg => by rcases foot_app hat' g hg with h | h; (exact hf g h); (have := hb.size; omega), below_app hb (Nat.le_refl _) _ _ hg' hf⟩
          case measure => simp [intOf]
        · go_wp2_with (at_builtin; refine wpList_append_flat Tryz.stSL rfl _ _ rfl (v := u6) (y := .slice A2 3 c2) (l := T1) (m := T2) rfl rfl ho (rd_up h2 hb) (by rw [← HL1.out, ← HL2.out]; omega) ?_; intro v' w3 ho' hg' hat')
          go_roundw
          case rel => exact ⟨2, by omega, rfl, ho', fun g hg => by rcases foot_app hat' g hg with h | h; (exact hf g h); (have := hb.size; omega), below_app hb (Nat.le_refl _) _ _ hg' hf⟩
          case measure => simp [intOf]
        · go_wp2
          go_ret
          exact ⟨_, rfl, ho, hf, hb⟩
end Go.Proofs.YtpjijbonpjoamaaGreat

/-
  Lists valid: the reference.
-/
namespace Go.Proofs.YtpjijbonpjoamaaGreat
open Go.RowKit
theorem RdL.pre {g off n c B : Nat} {w : World} {l : List Int} (h : RdL FI w B (.slice (some ⟨g, off, none⟩) n c) l) (m : Nat) (h1 : m ≤ l.length) : RdL FI w B (.slice (some ⟨g, off, none⟩) m c) (l.take m) := by
  have a := h.subI 0 m (by omega)
  simpa using a
set_option maxHeartbeats 1000000 in
theorem l8HasQ_ct (w : World) (v : Value) (z : List Int) (x : Int) (B : Nat) (h : RdL FI w B v z) :
    Calls Tryz.prog 110 #[v, .int .i64 x] w fun e w' => e = .returned (.bool (z.any fun y => y == x)) ∧ w = w' := by
  obtain ⟨A, c, hv, q1, q2, _⟩ := id h
  have hlt0 : z.length ≤ 9223372036854775807 := by unfold maxLen at q2; omega
  subst hv
  clear q1 q2
  go_enter Tryz.func110, Tryz.ntmps110
  go_wp2
  go_loop [5] (fun i => ∃ k : Nat, k ≤ z.length ∧ i = .int .i64 k ∧ Hid ((z.take k).any (fun y => y == x) = false)) (fun i => z.length - (intOf i).toNat)
  case atStart => exact ⟨0, Nat.zero_le _, rfl, rfl⟩
  case round =>
    obtain ⟨i, hi, rfl, HN⟩ := hrel
    by_cases hlt : i < z.length
    · obtain ⟨g, off, cap', he, hg, _, _, hc⟩ := h.at_ (List.getElem?_eq_getElem hlt)
      injection he with he1 he2 he3
      clear he2
      subst he1 he3
      have p0 : w.cell? ⟨g, off + i, none⟩ = some (.int .i64 z[i]) := by simpa [FI] using hc 0 _ rfl
      clear hc h
      by_cases hz : z[i] = x
      · have hz1 : (z[i] == x) = true := by simpa using hz
        have HP := Hid.mk_ (show (z.any fun y => y == x) = true from List.any_eq_true.2 ⟨z[i], List.getElem_mem hlt, hz1⟩)
        clear hz
        go_wp2
        go_ret
        exact ⟨ret_bool HP.out.symm, rfl⟩
      · have hz1 : (z[i] == x) = false := by simpa using hz
        have HP := Hid.mk_ (any_take_succ (fun y => y == x) z i hlt HN.out hz1)
        clear hz
        go_wp2
        go_round
        case rel => exact ⟨i + 1, by omega, by go_num, HP⟩
        case measure => simp [intOf]; omega
    · go_wp2
      go_ret
      obtain rfl : i = z.length := by omega
      exact ⟨ret_bool (by simpa using HN.out.symm), rfl⟩
set_option maxRecDepth 100000 in
set_option maxHeartbeats 2000000 in
theorem ListsOk_spec (w : World) (H : HLists) (x : Lists) (h : RdLists w w.heap.size H x) (hs1 : szLL x.Global ≤ 536870912) (hs2 : szLL x.Own ≤ 536870912) :
    Calls Tryz.prog 60 #[.agg #[.slice H.Global.a H.Global.len H.Global.cap, .slice H.Own.a H.Own.len H.Own.cap]] w fun e w' => e = .returned (.bool (listsOkB x)) ∧ Below w.heap.size w w' := by
  obtain ⟨⟨A1, n1, c1⟩, T1, ⟨A2, n2, c2⟩, T2⟩ := H
  obtain ⟨gl, ow⟩ := x
  have hr1 : RdLL FI w w.heap.size (.slice A1 n1 c1) T1 gl := h.Global
  have hr2 : RdLL FI w w.heap.size (.slice A2 n2 c2) T2 ow := h.Own
  obtain ⟨en1, _, hmx⟩ := hr1.len'
  have hlt1 : gl.length ≤ 9223372036854775807 := by unfold maxLen at hmx; omega
  clear hmx
  obtain ⟨en2, _, hmx⟩ := hr2.len'
  have hlt2 : ow.length ≤ 9223372036854775807 := by unfold maxLen at hmx; omega
  clear hmx h
  subst en1 en2
  simp only at hs1 hs2
  have HE := Hid.mk_ (show listsOkB ⟨gl, ow⟩ = ((gl.length == 3) && (ow.length == 9) && ow.all shortB && seenOk (allL ⟨gl, ow⟩)) from rfl)
  have ba0 : Box (w.alloc (.cells #[.slice A1 gl.length c1, .slice A2 ow.length c2] 34)) w.heap.size [.slice A1 gl.length c1, .slice A2 ow.length c2] := Box.new w #[.slice A1 gl.length c1, .slice A2 ow.length c2] _
  have hB0 : Below w.heap.size w (w.alloc (.cells #[.slice A1 gl.length c1, .slice A2 ow.length c2] 34)) := by repeat (first | exact Below.refl _ _ | refine Below.alloc ?_ (by simp <;> omega) _ | refine below_grow_of ?_ (by simp <;> omega) _ _ | refine Below.drew ?_ | refine below_drewN ?_ _)
  show Calls Tryz.prog 60 #[.agg #[.slice A1 gl.length c1, .slice A2 ow.length c2]] _ _
  by_cases k1 : gl.length = 3
  case neg =>
    have k1' : ((gl.length : Int) != 3) = true := by simp; omega
    have HF := Hid.mk_ (show listsOkB ⟨gl, ow⟩ = false by rw [HE.out]; simp [k1])
    clear k1
    go_enter Tryz.func60, Tryz.ntmps60
    go_wp2
    go_ret
    exact ⟨ret_bool HF.out.symm, hB0⟩
  have k1' : ((gl.length : Int) != 3) = false := by simp; omega
  have K1 := Hid.mk_ k1
  clear k1
  by_cases k2 : ow.length = 9
  case neg =>
    have k2' : ((ow.length : Int) != 9) = true := by simp; omega
    have HF := Hid.mk_ (show listsOkB ⟨gl, ow⟩ = false by rw [HE.out]; simp [k2])
    clear k2
    go_enter Tryz.func60, Tryz.ntmps60
    go_wp2
    go_ret
    exact ⟨ret_bool HF.out.symm, hB0⟩
  have k2' : ((ow.length : Int) != 9) = false := by simp; omega
  have HF := Hid.mk_ (show listsOkB ⟨gl, ow⟩ = (ow.all shortB && seenOk (allL ⟨gl, ow⟩)) by rw [HE.out, K1.out, k2]; simp)
  clear k2 HE
  go_enter Tryz.func60, Tryz.ntmps60
  go_wp2
  generalize (w.alloc (.cells #[.slice A1 gl.length c1, .slice A2 ow.length c2] 34)) = w0 at ba0 hB0
  have qa0 := ba0.cell 0 _ rfl
  have qa1 := ba0.cell 1 _ rfl
  go_loop [3] (fun i => ∃ k : Nat, k ≤ ow.length ∧ i = .int .i64 k ∧ Hid ((ow.take k).all shortB = true)) (fun i => ow.length - (intOf i).toNat)
  case atStart => exact ⟨0, Nat.zero_le _, rfl, rfl⟩
  case round =>
    obtain ⟨i, hi, rfl, HT⟩ := hrel
    by_cases hlt : i < ow.length
    · obtain ⟨g, o, A', c', hAe, hg, p0, rr1⟩ := hr2.row hB0 hlt
      subst hAe
      by_cases hz : ow[i].length ≤ 2
      · have HN := Hid.mk_ (all_step (p := shortB) hlt HT.out (by simp [shortB, hz]))
        go_wp2
        go_round
        case rel => exact ⟨i + 1, by omega, by go_num, HN⟩
        case measure => simp [intOf]; omega
      · have HN := Hid.mk_ (show listsOkB ⟨gl, ow⟩ = false by rw [HF.out, all_no (p := shortB) hlt (by simp [shortB]; omega)]; rfl)
        go_wp2
        go_ret
        exact ⟨ret_bool HN.out.symm, hB0⟩
    · obtain rfl : i = ow.length := by omega
      have HG := Hid.mk_ (show listsOkB ⟨gl, ow⟩ = seenOk (allL ⟨gl, ow⟩) by have a := HT.out; rw [List.take_length] at a; rw [HF.out, a]; rfl)
      clear HT HF
      go_wp2_with fail
      refine (l8All_ct _ ⟨⟨A1, gl.length, c1⟩, T1, ⟨A2, ow.length, c2⟩, T2⟩ ⟨gl, ow⟩ ⟨rdLL_up hr1 hB0, rdLL_up hr2 hB0⟩ hs1 hs2).mono ?_
      rintro e w1 ⟨v', rfl, ho, hf, hb0⟩
      have hB1 := hB0.trans (hb0.mono hB0.size)
      clear hf hb0 qa0 qa1 ba0 hB0
      generalize allL ⟨gl, ow⟩ = L at ho HG
      obtain ⟨A, c, hv, _, q2, _⟩ := ho.rd'
      subst hv
      have hL0 : L.length ≤ 9223372036854775807 := by unfold maxLen at q2; omega
      clear q2
      have hor := ho.rd'
      clear ho
      go_wp2
      go_loopw [5] (fun i wr => ∃ k : Nat, k ≤ L.length ∧ i = .int .i64 k ∧ Below w1.heap.size w1 wr ∧ Hid (seenOk (L.take k) = true)) (fun i _ => L.length - (intOf i).toNat)
      case atStart => exact ⟨0, Nat.zero_le _, rfl, Below.refl _ _, rfl⟩
      case round =>
        obtain ⟨i, hi, rfl, hb, HR⟩ := hrel
        by_cases hlt : i < L.length
        · obtain ⟨g, off, cap', he, hg, _, _, hc⟩ := (hor.below hb).at_ (List.getElem?_eq_getElem hlt)
          injection he with he1 he2 he3
          clear he2
          subst he1 he3
          have p0 : wr.cell? ⟨g, off + i, none⟩ = some (.int .i64 L[i]) := by simpa [FI] using hc 0 _ rfl
          clear hc
          have hpre := (hor.below hb).pre i (by omega)
          have hgw : g < wr.heap.size := Nat.lt_of_lt_of_le hg hb.size
          have Hn1 := Hid.mk_ (seen_no1 (L := L) hlt)
          have Hn2 := Hid.mk_ (seen_no2 (L := L) hlt)
          have Hst := Hid.mk_ (seen_step (L := L) hlt HR.out)
          generalize L[i] = x at p0 Hn1 Hn2 Hst
          have hBW := hB1.trans (hb.mono hB1.size)
          have hql : ∀ (W : World) (b : Bool), inB 0 23 x = b → Calls Tryz.prog 21 #[.int .i64 x, .int .i64 0, .int .i64 23] W fun e w' => e = .returned (.bool b) ∧ W = w' := fun W b hb => (l1In_ct _ _ _ _).mono fun e w' ⟨u, v⟩ => ⟨by rw [u, hb], v⟩
          have hqh : ∀ (n : Nat) (b : Bool), ((L.take i).any fun y => y == x) = b → Calls Tryz.prog 110 #[.slice (some ⟨g, off, none⟩) i c, .int .i64 x] (wr.drewN n) fun e w' => e = .returned (.bool b) ∧ wr.drewN n = w' := fun n b hb => (l8HasQ_ct _ _ (L.take i) x _ (hpre.keep (w' := wr.drewN n) (fun _ _ => rfl) (Nat.le_refl _))).mono fun e w' ⟨u, v⟩ => ⟨by rw [u, hb], v⟩
          by_cases d1 : inB 0 23 x = true
          case neg =>
            have d1' : inB 0 23 x = false := (Bool.not_eq_true _).mp d1
            have HN := Hid.mk_ (show listsOkB ⟨gl, ow⟩ = false by rw [HG.out]; exact Hn1.out d1')
            have hq1 := fun W => hql W _ d1'
            clear d1 d1' Hn1 Hn2 Hst hql hqh
            go_wp2
            go_quiet ((go_at_call 21; exact quiet_left (hq1 _)))
            go_wp2
            go_ret
            exact ⟨ret_bool HN.out.symm, by first | exact hBW | exact hBW.drew | exact below_drewN hBW _⟩
          by_cases d2 : ((L.take i).any fun y => y == x) = true
          · have HN := Hid.mk_ (show listsOkB ⟨gl, ow⟩ = false by rw [HG.out]; exact Hn2.out d2)
            have hq1 := fun W => hql W _ d1
            have hq2 := fun n => hqh n _ d2
            clear d1 d2 Hn1 Hn2 Hst hql hqh
            go_wp2
            go_quiet (first | (go_at_call 21; exact quiet_left (hq1 _)) | (go_at_call 110; exact quiet_left (hq2 _)))
            go_wp2
            go_ret
            exact ⟨ret_bool HN.out.symm, by first | exact hBW | exact hBW.drew | exact below_drewN hBW _⟩
          · have d2' : ((L.take i).any fun y => y == x) = false := (Bool.not_eq_true _).mp d2
            have HN := Hid.mk_ (Hst.out d1 d2')
            have hq1 := fun W => hql W _ d1
            have hq2 := fun n => hqh n _ d2'
            clear d1 d2 d2' Hn1 Hn2 Hst hql hqh
            go_wp2
            go_quiet (first | (go_at_call 21; exact quiet_left (hq1 _)) | (go_at_call 110; exact quiet_left (hq2 _)))
            go_wp2
            go_roundw
            case rel => exact ⟨i + 1, by omega, by go_num, below_drewN hb _, HN⟩
            case measure => simp [intOf]; omega
        · obtain rfl : i = L.length := by omega
          have HN := Hid.mk_ (show listsOkB ⟨gl, ow⟩ = true by have a := HR.out; rw [List.take_length] at a; rw [HG.out, a])
          go_wp2
          go_ret
          exact ⟨ret_bool HN.out.symm, hB1.trans (hb.mono hB1.size)⟩
end Go.Proofs.YtpjijbonpjoamaaGreat

/-
  Lists valid: the program.
-/
namespace Go.Proofs.YtpjijbonpjoamaaGreat
open Go.RowKit
def FB : FT Bool := { n := 1, enc := fun b => [.bool b], dflt := false, len := fun _ => rfl, one := by intro x u hu; simp at hu; subst hu; rfl, pos := by decide, small := by decide }
theorem wpList_store_new_at {P : Program} {ops : Array Oper} {rest : List Oper} {o : Oper} {a : Act} {w : World} {Q : Exit → Act → World → Prop} (hgd : o.guard = none) (ty : TypeId) (x y : Operand) (ho : o.op = .store ty x y) (c : Array Value) (n : Nat) (hn : n = w.heap.size)
    (hx : a.eval x = .pointer (some ⟨n, 0, none⟩)) (hy : a.eval y = .agg c) (hi : (P.info? ty).map (·.size) = some c.size) (h1 : c.all (·.oneCell') = true)
    (h : wpList P ops Q rest (a.put o.dst undef) (w.alloc (.cells c ty))) : wpList P ops Q (o :: rest) a (w.alloc (.cells c ty)) := by
  subst hn
  refine wpList_store_row hgd ty x y ho w.heap.size c hx hy ty c (heap_alloc_last w _) hi rfl h1 ?_
  rw [World.setRow_alloc_new]
  exact h
theorem z24_built : Tryz.prog.built 112 [] = some #[.bool false, .bool false, .bool false, .bool false, .bool false, .bool false, .bool false, .bool false, .bool false, .bool false, .bool false, .bool false, .bool false, .bool false, .bool false, .bool false, .bool false, .bool false, .bool false, .bool false, .bool false, .bool false, .bool false, .bool false] := by kernel_rfl
set_option maxRecDepth 100000 in
theorem wpList_build24 {ops : Array Oper} {rest : List Oper} {o : Oper} {a : Act} {w : World} {Q : Exit → Act → World → Prop} (hg : o.guard = none) (ho : o.op = .build 112 #[])
    (h : wpList Tryz.prog ops Q rest (a.put o.dst (.agg #[.bool false, .bool false, .bool false, .bool false, .bool false, .bool false, .bool false, .bool false, .bool false, .bool false, .bool false, .bool false, .bool false, .bool false, .bool false, .bool false, .bool false, .bool false, .bool false, .bool false, .bool false, .bool false, .bool false, .bool false])) w) : wpList Tryz.prog ops Q (o :: rest) a w := by
  exact wpList_build hg 112 #[] ho (by simp [z24_built]) (by simpa [z24_built] using h)
theorem met_start (w : World) : OwL FB 112 (w.alloc (.cells #[.bool false, .bool false, .bool false, .bool false, .bool false, .bool false, .bool false, .bool false, .bool false, .bool false, .bool false, .bool false, .bool false, .bool false, .bool false, .bool false, .bool false, .bool false, .bool false, .bool false, .bool false, .bool false, .bool false, .bool false] 112)) (.slice (some ⟨w.heap.size, 0, none⟩) 24 24) (metI []) := by
  rw [metI_zero]
  exact OwL.lit FB (List.replicate 24 false) #[.bool false, .bool false, .bool false, .bool false, .bool false, .bool false, .bool false, .bool false, .bool false, .bool false, .bool false, .bool false, .bool false, .bool false, .bool false, .bool false, .bool false, .bool false, .bool false, .bool false, .bool false, .bool false, .bool false, .bool false] rfl (by simp [maxLen]) w 112
theorem ConcatSL2_ct (w : World) (gb : Nat) (A1 A2 : Option Addr) (n1 n2 c1 c2 : Nat) (T1 T2 : List SV) (bb : Box w gb [.slice A1 n1 c1, .slice A2 n2 c2]) (h1 : RdL FS w w.heap.size (.slice A1 n1 c1) T1) (h2 : RdL FS w w.heap.size (.slice A2 n2 c2) T2) (e1 : n1 = 9) (e2 : n2 = 3) :
    Calls Tryz.prog 120 #[.slice (some ⟨gb, 0, none⟩) 2 2] w fun e w' => ∃ v, e = .returned v ∧ OwL FS 80 w' v (T1 ++ T2) ∧ (∀ g ∈ foot1 v, w.heap.size ≤ g) ∧ Below w.heap.size w w' := by
  subst e1 e2
  exact ConcatSL_ct w gb A1 A2 c1 c2 T1 T2 bb h1 h2
theorem rows_cat {w : World} {B1 : Nat} {v1 v2 : Value} {T1 T2 : List SV} {gl ow : List (List Int)} (h1 : RdLL FI w B1 v1 T1 gl) (h2 : RdLL FI w B1 v2 T2 ow) (i : Nat) (hi : i < (ow ++ gl).length) :
    ∃ s : SV, (T2 ++ T1)[i]? = some s ∧ RdL FI w B1 (.slice s.a s.len s.cap) (ow ++ gl)[i] := by
  have e1 := h1.len
  have e2 := h2.len
  rw [List.length_append] at hi
  by_cases hlt : i < ow.length
  · have ht : i < T2.length := by omega
    refine ⟨T2[i], by rw [List.getElem?_append_left ht, List.getElem?_eq_getElem ht], ?_⟩
    rw [List.getElem_append_left hlt]
    exact h2.inner i _ _ (List.getElem?_eq_getElem ht) (List.getElem?_eq_getElem hlt)
  · have ht : i - T2.length < T1.length := by omega
    refine ⟨T1[i - T2.length], by rw [List.getElem?_append_right (by omega), List.getElem?_eq_getElem ht], ?_⟩
    rw [List.getElem_append_right (by omega)]
    refine h1.inner (i - T2.length) _ _ (List.getElem?_eq_getElem ht) ?_
    rw [List.getElem?_eq_getElem (by omega)]
    congr 2
    omega
set_option maxRecDepth 100000 in
set_option maxHeartbeats 4000000 in
theorem ListsOk_impl (w : World) (H : HLists) (x : Lists) (h : RdLists w w.heap.size H x) :
    Calls Tryz.prog 73 #[.agg #[.slice H.Global.a H.Global.len H.Global.cap, .slice H.Own.a H.Own.len H.Own.cap]] w fun e w' => e = .returned (.bool (listsOkB x)) ∧ Below w.heap.size w w' := by
  obtain ⟨⟨A1, n1, c1⟩, T1, ⟨A2, n2, c2⟩, T2⟩ := H
  obtain ⟨gl, ow⟩ := x
  have hr1 : RdLL FI w w.heap.size (.slice A1 n1 c1) T1 gl := h.Global
  have hr2 : RdLL FI w w.heap.size (.slice A2 n2 c2) T2 ow := h.Own
  obtain ⟨en1, _, hmx⟩ := hr1.len'
  have hlt1 : gl.length ≤ 9223372036854775807 := by unfold maxLen at hmx; omega
  clear hmx
  obtain ⟨en2, _, hmx⟩ := hr2.len'
  have hlt2 : ow.length ≤ 9223372036854775807 := by unfold maxLen at hmx; omega
  clear hmx h
  subst en1 en2
  have HE := Hid.mk_ (show listsOkB ⟨gl, ow⟩ = ((gl.length == 3) && (ow.length == 9) && ow.all shortB && seenOk (allL ⟨gl, ow⟩)) from rfl)
  have hB0 : Below w.heap.size w (w.alloc (.cells #[.slice A1 gl.length c1, .slice A2 ow.length c2] 34)) := by repeat (first | exact Below.refl _ _ | refine Below.alloc ?_ (by simp <;> omega) _ | refine below_grow_of ?_ (by simp <;> omega) _ _ | refine Below.drew ?_ | refine below_drewN ?_ _)
  show Calls Tryz.prog 73 #[.agg #[.slice A1 gl.length c1, .slice A2 ow.length c2]] _ _
  by_cases k1 : gl.length = 3
  case neg =>
    have k1' : ((gl.length : Int) != 3) = true := by simp; omega
    have HF := Hid.mk_ (show listsOkB ⟨gl, ow⟩ = false by rw [HE.out]; simp [k1])
    clear k1
    go_enter Tryz.func73, Tryz.ntmps73
    go_wp2
    go_ret
    exact ⟨ret_bool HF.out.symm, hB0⟩
  have k1' : ((gl.length : Int) != 3) = false := by simp; omega
  have K1 := Hid.mk_ k1
  clear k1
  by_cases k2 : ow.length = 9
  case neg =>
    have k2' : ((ow.length : Int) != 9) = true := by simp; omega
    have HF := Hid.mk_ (show listsOkB ⟨gl, ow⟩ = false by rw [HE.out]; simp [k2])
    clear k2
    go_enter Tryz.func73, Tryz.ntmps73
    go_wp2
    go_ret
    exact ⟨ret_bool HF.out.symm, hB0⟩
  have k2' : ((ow.length : Int) != 9) = false := by simp; omega
  have K2 := Hid.mk_ k2
  have HF := Hid.mk_ (show listsOkB ⟨gl, ow⟩ = (ow.all shortB && seenOk (ow ++ gl).flatten) by rw [HE.out, K1.out, k2, ← lists_rows ⟨gl, ow⟩]; simp)
  clear k2 HE
  have HIN := Hid.mk_ (rows_cat hr1 hr2)
  have KL := Hid.mk_ (show (ow ++ gl).length = 12 by rw [List.length_append, K1.out, K2.out])
  have HOW := Hid.mk_ (fun i (hi : i < ow.length) (hj : i < (ow ++ gl).length) => (List.getElem_append_left (bs := gl) hi : (ow ++ gl)[i] = ow[i]))
  have HT0 := Hid.mk_ (totLL_eq (ow ++ gl))
  have HFA := Hid.mk_ (flat_at (ow ++ gl))
  generalize hR : ow ++ gl = R at HF HIN KL HOW HT0 HFA
  generalize hL : R.flatten = L at HF HT0 HFA
  clear hR hL
  go_enter Tryz.func73, Tryz.ntmps73
  go_wp2_with (first | (refine wpList_build24 rfl rfl ?_) | (refine wpList_store_new_at rfl 112 (.tmp 3) (.tmp 18) rfl _ _ (by simp) rfl rfl (by kernel_rfl) (by simp [Value.oneCell']) ?_))
  have om0 := met_start (w.alloc (.cells #[.slice A1 gl.length c1, .slice A2 ow.length c2] 34))
  have bg0 : Box (((w.alloc (.cells #[.slice A1 gl.length c1, .slice A2 ow.length c2] 34)).alloc (.cells #[.bool false, .bool false, .bool false, .bool false, .bool false, .bool false, .bool false, .bool false, .bool false, .bool false, .bool false, .bool false, .bool false, .bool false, .bool false, .bool false, .bool false, .bool false, .bool false, .bool false, .bool false, .bool false, .bool false, .bool false] 112)).alloc (.cells #[.slice A2 ow.length c2, .slice A1 gl.length c1] 32)) (w.heap.size + 1 + 1) [.slice A2 ow.length c2, .slice A1 gl.length c1] := by have a := Box.new ((w.alloc (.cells #[.slice A1 gl.length c1, .slice A2 ow.length c2] 34)).alloc (.cells #[.bool false, .bool false, .bool false, .bool false, .bool false, .bool false, .bool false, .bool false, .bool false, .bool false, .bool false, .bool false, .bool false, .bool false, .bool false, .bool false, .bool false, .bool false, .bool false, .bool false, .bool false, .bool false, .bool false, .bool false] 112)) #[.slice A2 ow.length c2, .slice A1 gl.length c1] 32; simpa using a
  have om1 := om0.alloc_ (.cells #[.slice A2 ow.length c2, .slice A1 gl.length c1] 32)
  have ba1 : Box (((w.alloc (.cells #[.slice A1 gl.length c1, .slice A2 ow.length c2] 34)).alloc (.cells #[.bool false, .bool false, .bool false, .bool false, .bool false, .bool false, .bool false, .bool false, .bool false, .bool false, .bool false, .bool false, .bool false, .bool false, .bool false, .bool false, .bool false, .bool false, .bool false, .bool false, .bool false, .bool false, .bool false, .bool false] 112)).alloc (.cells #[.slice A2 ow.length c2, .slice A1 gl.length c1] 32)) w.heap.size [.slice A1 gl.length c1, .slice A2 ow.length c2] := ((Box.new w #[.slice A1 gl.length c1, .slice A2 ow.length c2] _).alloc _).alloc _
  have hB1 : Below w.heap.size w (((w.alloc (.cells #[.slice A1 gl.length c1, .slice A2 ow.length c2] 34)).alloc (.cells #[.bool false, .bool false, .bool false, .bool false, .bool false, .bool false, .bool false, .bool false, .bool false, .bool false, .bool false, .bool false, .bool false, .bool false, .bool false, .bool false, .bool false, .bool false, .bool false, .bool false, .bool false, .bool false, .bool false, .bool false] 112)).alloc (.cells #[.slice A2 ow.length c2, .slice A1 gl.length c1] 32)) := by repeat (first | exact Below.refl _ _ | refine Below.alloc ?_ (by simp <;> omega) _ | refine below_grow_of ?_ (by simp <;> omega) _ _ | refine Below.drew ?_ | refine below_drewN ?_ _)
  have hz1 : ((((w.alloc (.cells #[.slice A1 gl.length c1, .slice A2 ow.length c2] 34)).alloc (.cells #[.bool false, .bool false, .bool false, .bool false, .bool false, .bool false, .bool false, .bool false, .bool false, .bool false, .bool false, .bool false, .bool false, .bool false, .bool false, .bool false, .bool false, .bool false, .bool false, .bool false, .bool false, .bool false, .bool false, .bool false] 112)).alloc (.cells #[.slice A2 ow.length c2, .slice A1 gl.length c1] 32))).heap.size = w.heap.size + 1 + 1 + 1 := by simp
  simp only [World.size_alloc] at om1
  generalize (((w.alloc (.cells #[.slice A1 gl.length c1, .slice A2 ow.length c2] 34)).alloc (.cells #[.bool false, .bool false, .bool false, .bool false, .bool false, .bool false, .bool false, .bool false, .bool false, .bool false, .bool false, .bool false, .bool false, .bool false, .bool false, .bool false, .bool false, .bool false, .bool false, .bool false, .bool false, .bool false, .bool false, .bool false] 112)).alloc (.cells #[.slice A2 ow.length c2, .slice A1 gl.length c1] 32)) = w3 at bg0 om1 ba1 hB1 hz1 ⊢
  clear om0 hB0
  refine (ConcatSL2_ct w3 _ A2 A1 _ _ c2 c1 T2 T1 bg0 (rd_up hr2.outer hB1) (rd_up hr1.outer hB1) K2.out K1.out).mono ?_
  rintro e w4 ⟨vC, rfl, hoC, hfC, hb4⟩
  have om4 := om1.chg (Chg.of_below (F := []) hb4) (by simp)
  have ba4 := ba1.below hb4
  have hB4 := hB1.trans (hb4.mono hB1.size)
  have hz4 : w.heap.size + 1 < w4.heap.size := by have := hb4.size; omega
  have hfC' : ∀ g ∈ foot1 vC, w.heap.size + 1 < g := fun g hg => by have := hfC g hg; omega
  clear hfC hb4 om1 ba1 bg0 hB1 hz1
  have hlC : (T2 ++ T1).length = 12 := by rw [List.length_append, hr2.len, hr1.len, K2.out, K1.out]
  rcases hoC.form with ⟨_, hnil⟩ | ⟨gC, cC, rfl, hgC, _, _⟩
  · rw [hnil] at hlC
    simp at hlC
  rw [hlC] at hoC hfC' ⊢
  go_wp2
  go_loopw [4, 5, 7, 26, 45] (fun _ _ _ i _ wr => ∃ k : Nat, k ≤ 12 ∧ i = .int .i64 k ∧ Hid ((ow.take k).all shortB = true) ∧ Hid (seenOk (L.take (totLL (R.take k))) = true) ∧ Chg [w.heap.size + 1] w4 wr ∧ OwL FB 112 wr (.slice (some ⟨w.heap.size + 1, 0, none⟩) 24 24) (metI (L.take (totLL (R.take k))))) (fun _ _ _ i _ _ => 12 - (intOf i).toNat)
  case atStart => exact ⟨0, Nat.zero_le _, rfl, rfl, rfl, Chg.refl _ _, om4⟩
  case round =>
    obtain ⟨i, hi, rfl, HO, HS, hc, om⟩ := hrel
    clear om4
    have ba := ba4.chg hc (by simp)
    have hb : Below w.heap.size w wr := hB4.trans (hc.below hB4.size (by intro g hg; have := List.mem_singleton.1 hg; omega))
    have qa1 := ba.cell 1 _ rfl
    have hzw : w.heap.size + 1 < wr.heap.size := Nat.lt_of_lt_of_le hz4 hc.size
    have hzw0 : w.heap.size < wr.heap.size := Nat.lt_of_succ_lt hzw
    by_cases hlt : i < 12
    · have hiR : i < R.length := by rw [KL.out]; exact hlt
      obtain ⟨⟨sa, sl, sc⟩, hsv, hrow0⟩ := HIN.out i hiR
      have hrow : RdL FI w w.heap.size (.slice sa sl sc) R[i] := hrow0
      clear hrow0
      have hltI : (i : Int) < 12 := by omega
      have hoR := hoC.chg hc (by intro g hg hm; have a := hfC' g hg; have b := List.mem_singleton.1 hm; omega)
      have p0 : wr.cell? ⟨gC, i, none⟩ = some (.slice sa sl sc) := by simpa [FS] using hoR.cell_ (k := i) (j := 0) hsv (by decide)
      have hgw : gC < wr.heap.size := Nat.lt_of_lt_of_le hgC hc.size
      have hln := (RdL.len_ hrow).1
      have hr0 := (RdL.len_ hrow).2
      rw [hln] at p0 hrow hr0
      have HP := Hid.mk_ (totLL_take_succ R i hiR)
      have HFi := Hid.mk_ (fun j hj => HFA.out i j hiR hj)
      have htot : totLL (R.take i) + R[i].length ≤ L.length := by
        have a := totLL_take_le R (i + 1)
        have b := HT0.out
        have d := HP.out
        omega
      have HOi := Hid.mk_ (fun hi9 => HOW.out i hi9 hiR)
      clear hoR hsv
      generalize R[i] = row at p0 hrow hr0 HP HFi htot HOi
      clear hln
      generalize totLL (R.take i) = p at HS om HP HFi htot
      by_cases hs2 : i < ow.length ∧ 2 < row.length
      · obtain ⟨hs2, hs3⟩ := hs2
        have HN := Hid.mk_ (show listsOkB ⟨gl, ow⟩ = false by rw [HF.out, all_no (p := shortB) hs2 (by rw [← HOi.out hs2]; simp [shortB]; omega)]; rfl)
        clear HOi
        go_wp2
        go_ret
        exact ⟨ret_bool HN.out.symm, hb.alloc hb.size _⟩
      have HO' := Hid.mk_ (show (ow.take (i + 1)).all shortB = true by
        by_cases h9 : i < ow.length
        · exact all_step h9 HO.out (by rw [← HOi.out h9]; simp [shortB]; omega)
        · have a := HO.out
          rw [List.take_of_length_le (by omega)] at a ⊢
          exact a)
      have hbI : Chg [w.heap.size + 1] w4 (wr.alloc (.cells #[.slice sa row.length sc] 80)) := hc.alloc_ _
      have omI := om.alloc_ (.cells #[.slice sa row.length sc] 80)
      have hnS : ¬ (i < ow.length ∧ 2 < row.length) := hs2
      have HNX := Hid.mk_ hs2
      have hcase : ∀ b : Bool, b = decide (i < ow.length) → (b = true → ¬ 2 < row.length) := fun b e hb h2 => hs2 ⟨by rw [e] at hb; simpa using hb, h2⟩
      clear hs2 hnS HOi hc om
      by_cases h9 : i < ow.length
      · have h2n := hcase true (by simp [h9]) rfl
        have h2I : ¬ (2 < (row.length : Int)) := by omega
        clear hcase
        go_wp2
        obtain ⟨wo, hwo⟩ : ∃ wo : World, wo = wr.alloc (.cells #[.slice sa row.length sc] 80) := ⟨_, rfl⟩
        rw [← hwo] at hbI omI ⊢
        have hzo : wo.heap.size = wr.heap.size + 1 := by rw [hwo]; simp
        clear hwo
        go_loopw [7, 45] (fun _ j wr => ∃ k : Nat, k ≤ row.length ∧ j = .int .i64 k ∧ Hid (seenOk (L.take (p + k)) = true) ∧ Chg [w.heap.size + 1] w4 wr ∧ OwL FB 112 wr (.slice (some ⟨w.heap.size + 1, 0, none⟩) 24 24) (metI (L.take (p + k)))) (fun _ j _ => row.length - (intOf j).toNat)
        case atStart => exact ⟨0, Nat.zero_le _, rfl, HS, hbI, omI⟩
        case round =>
          obtain ⟨j, hj, rfl, HRj, hcq, omq⟩ := hrel
          clear hbI omI p0 qa1
          have hbq : Below w.heap.size w wr := hB4.trans (hcq.below hB4.size (by intro g hg; have := List.mem_singleton.1 hg; omega))
          by_cases hlj : j < row.length
          · obtain ⟨g1, o1, cap1, he1, hg1, _, _, hc1⟩ := (hrow.below hbq).at_ (List.getElem?_eq_getElem hlj)
            injection he1 with e11 e12 e13
            clear e12
            subst e11 e13
            have p1 : wr.cell? ⟨g1, o1 + j, none⟩ = some (.int .i64 row[j]) := by simpa [FI] using hc1 0 _ rfl
            clear hc1
            have hLp : p + j < L.length := by omega
            have hLe : L[p + j] = row[j] := by
              have a := HFi.out j hlj
              rw [List.getElem?_eq_getElem hLp] at a
              exact Option.some.inj a
            have Hn1 := Hid.mk_ (seen_no1 (L := L) hLp)
            have Hn2 := Hid.mk_ (seen_no2 (L := L) hLp)
            have Hst := Hid.mk_ (seen_step (L := L) hLp HRj.out)
            have HMs := Hid.mk_ (fun s hm => metI_set L (p + j) s hLp hm)
            rw [hLe] at Hn1 Hn2 Hst HMs
            generalize row[j] = y at p1 Hn1 Hn2 Hst HMs
            clear hLe hLp
            by_cases d1 : inB 0 23 y = true
            case neg =>
              have d1' : inB 0 23 y = false := (Bool.not_eq_true _).mp d1
              have HN := Hid.mk_ (show listsOkB ⟨gl, ow⟩ = false by rw [HF.out, Hn1.out d1']; simp)
              clear d1
              go_wp2_with (go_at_call 121; refine (isSlot_ct _ _).mono ?_; rw [d1']; rintro e w2 ⟨rfl, rfl⟩)
              go_ret
              exact ⟨ret_bool HN.out.symm, hbq⟩
            obtain ⟨y0, y1⟩ := inB_iff.1 d1
            obtain ⟨s, rfl⟩ := Int.eq_ofNat_of_zero_le y0
            have hs3 : s < 24 := by omega
            have hgm := metI_get (L.take (p + j)) s hs3
            have cm : wr.cell? ⟨w.heap.size + 1, s, none⟩ = some (.bool ((L.take (p + j)).any fun z => z == (s : Int))) := by simpa [FB] using omq.cell_ (k := s) (j := 0) hgm (by decide)
            have hfz := omq.frozen_ s
            have hzz : w.heap.size + 1 < wr.heap.size := Nat.lt_of_lt_of_le hz4 hcq.size
            by_cases d2 : ((L.take (p + j)).any fun z => z == (s : Int)) = true
            · have HN := Hid.mk_ (show listsOkB ⟨gl, ow⟩ = false by rw [HF.out, Hn2.out d2]; simp)
              rw [d2] at cm
              clear d2 hgm omq
              go_wp2_with (go_at_call 121; refine (isSlot_ct _ _).mono ?_; rw [d1]; rintro e w2 ⟨rfl, rfl⟩)
              go_ret
              exact ⟨ret_bool HN.out.symm, hbq⟩
            have d2' : ((L.take (p + j)).any fun z => z == (s : Int)) = false := (Bool.not_eq_true _).mp d2
            have HN := Hid.mk_ (Hst.out d1 d2')
            have HM := Hid.mk_ (HMs.out s rfl)
            rw [d2'] at cm
            clear d2 d2' Hn1 Hn2 Hst HMs
            go_wp2_with (go_at_call 121; refine (isSlot_ct _ _).mono ?_; rw [d1]; rintro e w2 ⟨rfl, rfl⟩)
            go_roundw
            case rel =>
              have hset := omq.set_ (k := s) (j := 0) (y := true) (u := .bool true) hgm (by decide) rfl
              rw [HM.out] at hset
              have hset2 : OwL FB 112 (wr.setCell ⟨w.heap.size + 1, s, none⟩ (.bool true)) (.slice (some ⟨w.heap.size + 1, 0, none⟩) 24 24) (metI (L.take (p + j + 1))) := by simpa [FB] using hset
              exact ⟨j + 1, by omega, by go_num, HN, hcq.set_ (List.mem_singleton_self _) _, hset2⟩
            case measure => simp [intOf]; omega
          · obtain rfl : j = row.length := by omega
            go_wp2
            go_roundw
            case rel => exact ⟨i + 1, by omega, by go_num, HO', by rw [HP.out]; exact HRj, hcq, by rw [HP.out]; exact omq⟩
            case measure => simp [intOf]; omega
      · clear hcase
        have h9I : ¬ ((i : Int) < (ow.length : Int)) := by omega
        go_wp2
        obtain ⟨wo, hwo⟩ : ∃ wo : World, wo = wr.alloc (.cells #[.slice sa row.length sc] 80) := ⟨_, rfl⟩
        rw [← hwo] at hbI omI ⊢
        have hzo : wo.heap.size = wr.heap.size + 1 := by rw [hwo]; simp
        clear hwo
        go_loopw [7, 45] (fun _ j wr => ∃ k : Nat, k ≤ row.length ∧ j = .int .i64 k ∧ Hid (seenOk (L.take (p + k)) = true) ∧ Chg [w.heap.size + 1] w4 wr ∧ OwL FB 112 wr (.slice (some ⟨w.heap.size + 1, 0, none⟩) 24 24) (metI (L.take (p + k)))) (fun _ j _ => row.length - (intOf j).toNat)
        case atStart => exact ⟨0, Nat.zero_le _, rfl, HS, hbI, omI⟩
        case round =>
          obtain ⟨j, hj, rfl, HRj, hcq, omq⟩ := hrel
          clear hbI omI p0 qa1
          have hbq : Below w.heap.size w wr := hB4.trans (hcq.below hB4.size (by intro g hg; have := List.mem_singleton.1 hg; omega))
          by_cases hlj : j < row.length
          · obtain ⟨g1, o1, cap1, he1, hg1, _, _, hc1⟩ := (hrow.below hbq).at_ (List.getElem?_eq_getElem hlj)
            injection he1 with e11 e12 e13
            clear e12
            subst e11 e13
            have p1 : wr.cell? ⟨g1, o1 + j, none⟩ = some (.int .i64 row[j]) := by simpa [FI] using hc1 0 _ rfl
            clear hc1
            have hLp : p + j < L.length := by omega
            have hLe : L[p + j] = row[j] := by
              have a := HFi.out j hlj
              rw [List.getElem?_eq_getElem hLp] at a
              exact Option.some.inj a
            have Hn1 := Hid.mk_ (seen_no1 (L := L) hLp)
            have Hn2 := Hid.mk_ (seen_no2 (L := L) hLp)
            have Hst := Hid.mk_ (seen_step (L := L) hLp HRj.out)
            have HMs := Hid.mk_ (fun s hm => metI_set L (p + j) s hLp hm)
            rw [hLe] at Hn1 Hn2 Hst HMs
            generalize row[j] = y at p1 Hn1 Hn2 Hst HMs
            clear hLe hLp
            by_cases d1 : inB 0 23 y = true
            case neg =>
              have d1' : inB 0 23 y = false := (Bool.not_eq_true _).mp d1
              have HN := Hid.mk_ (show listsOkB ⟨gl, ow⟩ = false by rw [HF.out, Hn1.out d1']; simp)
              clear d1
              go_wp2_with (go_at_call 121; refine (isSlot_ct _ _).mono ?_; rw [d1']; rintro e w2 ⟨rfl, rfl⟩)
              go_ret
              exact ⟨ret_bool HN.out.symm, hbq⟩
            obtain ⟨y0, y1⟩ := inB_iff.1 d1
            obtain ⟨s, rfl⟩ := Int.eq_ofNat_of_zero_le y0
            have hs3 : s < 24 := by omega
            have hgm := metI_get (L.take (p + j)) s hs3
            have cm : wr.cell? ⟨w.heap.size + 1, s, none⟩ = some (.bool ((L.take (p + j)).any fun z => z == (s : Int))) := by simpa [FB] using omq.cell_ (k := s) (j := 0) hgm (by decide)
            have hfz := omq.frozen_ s
            have hzz : w.heap.size + 1 < wr.heap.size := Nat.lt_of_lt_of_le hz4 hcq.size
            by_cases d2 : ((L.take (p + j)).any fun z => z == (s : Int)) = true
            · have HN := Hid.mk_ (show listsOkB ⟨gl, ow⟩ = false by rw [HF.out, Hn2.out d2]; simp)
              rw [d2] at cm
              clear d2 hgm omq
              go_wp2_with (go_at_call 121; refine (isSlot_ct _ _).mono ?_; rw [d1]; rintro e w2 ⟨rfl, rfl⟩)
              go_ret
              exact ⟨ret_bool HN.out.symm, hbq⟩
            have d2' : ((L.take (p + j)).any fun z => z == (s : Int)) = false := (Bool.not_eq_true _).mp d2
            have HN := Hid.mk_ (Hst.out d1 d2')
            have HM := Hid.mk_ (HMs.out s rfl)
            rw [d2'] at cm
            clear d2 d2' Hn1 Hn2 Hst HMs
            go_wp2_with (go_at_call 121; refine (isSlot_ct _ _).mono ?_; rw [d1]; rintro e w2 ⟨rfl, rfl⟩)
            go_roundw
            case rel =>
              have hset := omq.set_ (k := s) (j := 0) (y := true) (u := .bool true) hgm (by decide) rfl
              rw [HM.out] at hset
              have hset2 : OwL FB 112 (wr.setCell ⟨w.heap.size + 1, s, none⟩ (.bool true)) (.slice (some ⟨w.heap.size + 1, 0, none⟩) 24 24) (metI (L.take (p + j + 1))) := by simpa [FB] using hset
              exact ⟨j + 1, by omega, by go_num, HN, hcq.set_ (List.mem_singleton_self _) _, hset2⟩
            case measure => simp [intOf]; omega
          · obtain rfl : j = row.length := by omega
            go_wp2
            go_roundw
            case rel => exact ⟨i + 1, by omega, by go_num, HO', by rw [HP.out]; exact HRj, hcq, by rw [HP.out]; exact omq⟩
            case measure => simp [intOf]; omega
    · obtain rfl : i = 12 := by omega
      have HN := Hid.mk_ (show listsOkB ⟨gl, ow⟩ = true by
        have a := HO.out
        have b := HS.out
        have e1 : R.take 12 = R := List.take_of_length_le (by rw [KL.out]; omega)
        have e2 : ow.take 12 = ow := List.take_of_length_le (by rw [K2.out]; omega)
        rw [e1, HT0.out, List.take_length] at b
        rw [e2] at a
        rw [HF.out, a, b]
        rfl)
      go_wp2
      go_ret
      exact ⟨ret_bool HN.out.symm, hb⟩
end Go.Proofs.YtpjijbonpjoamaaGreat

/-
  Memories: do the slots on a list fit to their class?
-/
namespace Go.Proofs.YtpjijbonpjoamaaGreat
open Go.RowKit
set_option maxRecDepth 100000 in
set_option maxHeartbeats 2000000 in
theorem listFits_impl (w : World) (H : HHeap) (x : Heap) (A : Option Addr) (cap : Nat) (l : List Int) (c : Int) (h : RdHeap w w.heap.size H x) (hs : shapeB x = true) (hr : RdL FI w w.heap.size (.slice A l.length cap) l) :
    Calls Tryz.prog 74 #[.agg #[.slice H.Bytes.a H.Bytes.len H.Bytes.cap, .slice H.Class.a H.Class.len H.Class.cap], .agg #[.slice A l.length cap], .int .i64 c] w fun e w' => e = .returned (.bool (l.all (fitsB x c))) ∧ Below w.heap.size w w' := by
  have hlt0 := (RdL.len_ hr).2
  have ba0 : Box ((w.alloc (.cells #[.slice H.Bytes.a H.Bytes.len H.Bytes.cap, .slice H.Class.a H.Class.len H.Class.cap] 31)).alloc (.cells #[.slice A l.length cap] 80)) w.heap.size [.slice H.Bytes.a H.Bytes.len H.Bytes.cap, .slice H.Class.a H.Class.len H.Class.cap] := (Box.new w #[.slice H.Bytes.a H.Bytes.len H.Bytes.cap, .slice H.Class.a H.Class.len H.Class.cap] _).alloc _
  have hB0 : Below w.heap.size w ((w.alloc (.cells #[.slice H.Bytes.a H.Bytes.len H.Bytes.cap, .slice H.Class.a H.Class.len H.Class.cap] 31)).alloc (.cells #[.slice A l.length cap] 80)) := by repeat (first | exact Below.refl _ _ | refine Below.alloc ?_ (by simp <;> omega) _ | refine below_grow_of ?_ (by simp <;> omega) _ _ | refine Below.drew ?_ | refine below_drewN ?_ _)
  go_enter Tryz.func74, Tryz.ntmps74
  go_wp2
  generalize ((w.alloc (.cells #[.slice H.Bytes.a H.Bytes.len H.Bytes.cap, .slice H.Class.a H.Class.len H.Class.cap] 31)).alloc (.cells #[.slice A l.length cap] 80)) = w0 at ba0 hB0
  go_loopw [8, 12] (fun _ i wr => ∃ k : Nat, k ≤ l.length ∧ i = .int .i64 k ∧ Hid ((l.take k).all (fitsB x c) = true) ∧ Below w.heap.size w wr ∧ Box wr w.heap.size [.slice H.Bytes.a H.Bytes.len H.Bytes.cap, .slice H.Class.a H.Class.len H.Class.cap]) (fun _ i _ => l.length - (intOf i).toNat)
  case atStart => exact ⟨0, Nat.zero_le _, rfl, rfl, hB0, ba0⟩
  case round =>
    obtain ⟨i, hi, rfl, HT, hb, ba⟩ := hrel
    clear ba0 hB0
    by_cases hlt : i < l.length
    · obtain ⟨g, off, cap', he, hg, _, _, hc⟩ := (hr.below hb).at_ (List.getElem?_eq_getElem hlt)
      injection he with he1 he2 he3
      clear he2
      subst he1 he3
      have p0 : wr.cell? ⟨g, off + i, none⟩ = some (.int .i64 l[i]) := by simpa [FI] using hc 0 _ rfl
      clear hc
      have qa0 := ba.cell 0 _ rfl
      have qa1 := ba.cell 1 _ rfl
      have HF := Hid.mk_ (show fitsB x c l[i] = ((classInB x l[i] == c) && decide (genInB x l[i] ≤ 6)) from rfl)
      have HY := Hid.mk_ (fun hp => all_step (p := fitsB x c) hlt HT.out hp)
      have HZ := Hid.mk_ (fun hp => all_no (p := fitsB x c) hlt hp)
      generalize l[i] = s at p0 HF HY HZ
      go_wp2_with fail
      refine (classIn_impl _ H x s (rdHeap_up h hb) hs).mono ?_
      rintro e w1 ⟨rfl, hb1⟩
      have ba1 := ba.below hb1
      have hB1 := hb.trans (hb1.mono hb.size)
      clear hb1 p0 qa0 qa1 ba hb
      by_cases k1 : classInB x s = c
      case neg =>
        have k1' : (classInB x s != c) = true := by simpa using k1
        have HN := Hid.mk_ (HZ.out (by rw [HF.out, show (classInB x s == c) = false by simpa using k1]; rfl))
        clear k1
        go_wp2
        go_ret
        exact ⟨ret_bool HN.out.symm, hB1⟩
      have k1' : (classInB x s != c) = false := by simpa using k1
      have K1 := Hid.mk_ k1
      clear k1
      have qa0 := ba1.cell 0 _ rfl
      have qa1 := ba1.cell 1 _ rfl
      go_wp2_with fail
      refine (GenIn_impl _ H x s (rdHeap_up h hB1) hs).mono ?_
      rintro e w2 ⟨rfl, hb2⟩
      have ba2 := ba1.below hb2
      have hB2 := hB1.trans (hb2.mono hB1.size)
      clear hb2 qa0 qa1 ba1 hB1
      by_cases k2 : genInB x s ≤ 6
      · have k2' : ¬ 6 < genInB x s := by omega
        have HN := Hid.mk_ (HY.out (by rw [HF.out, K1.out]; simp [k2]))
        go_wp2
        go_roundw
        case rel => exact ⟨i + 1, by omega, by go_num, HN, hB2, ba2⟩
        case measure => simp [intOf]; omega
      · have k2' : 6 < genInB x s := by omega
        have HN := Hid.mk_ (HZ.out (by rw [HF.out, K1.out]; simp [k2]))
        clear k2
        go_wp2
        go_ret
        exact ⟨ret_bool HN.out.symm, hB2⟩
    · obtain rfl : i = l.length := by omega
      have HN := Hid.mk_ (show l.all (fitsB x c) = true by have a := HT.out; rwa [List.take_length] at a)
      go_wp2
      go_ret
      exact ⟨ret_bool HN.out.symm, hb⟩
theorem held_up {B g0 g k : Nat} {v0 v1 u : Value} {W w w' : World} (h : w.cell? ⟨g0, 0, none⟩ = some v0 ∧ w.cell? ⟨g0, 1, none⟩ = some v1 ∧ w.cell? ⟨g, k, none⟩ = some u ∧ g0 < w.heap.size ∧ g < w.heap.size ∧ Below B W w) (hb : Below w.heap.size w w') (hB : B ≤ g0) :
    w'.cell? ⟨g0, 0, none⟩ = some v0 ∧ w'.cell? ⟨g0, 1, none⟩ = some v1 ∧ w'.cell? ⟨g, k, none⟩ = some u ∧ g0 < w'.heap.size ∧ g < w'.heap.size ∧ Below B W w' := by
  obtain ⟨a, b, c, d, e, f⟩ := h
  exact ⟨cell_up hb d a, cell_up hb d b, cell_up hb e c, Nat.lt_of_lt_of_le d hb.size, Nat.lt_of_lt_of_le e hb.size, f.trans (hb.mono (by omega))⟩
set_option maxRecDepth 100000 in
set_option maxHeartbeats 2000000 in
theorem l9Listed_spec (w : World) (H : HHeap) (x : Heap) (A : Option Addr) (cap : Nat) (l : List Int) (c : Int) (h : RdHeap w w.heap.size H x) (hs : shapeB x = true) (hr : RdL FI w w.heap.size (.slice A l.length cap) l) (hc0 : 0 ≤ c) :
    Calls Tryz.prog 61 #[.agg #[.slice H.Bytes.a H.Bytes.len H.Bytes.cap, .slice H.Class.a H.Class.len H.Class.cap], .slice A l.length cap, .int .i64 c] w fun e w' => e = .returned (.bool (l.all (fitsB x c))) ∧ Below w.heap.size w w' := by
  have hlt0 := (RdL.len_ hr).2
  have ba0 : Box (w.alloc (.cells #[.slice H.Bytes.a H.Bytes.len H.Bytes.cap, .slice H.Class.a H.Class.len H.Class.cap] 31)) w.heap.size [.slice H.Bytes.a H.Bytes.len H.Bytes.cap, .slice H.Class.a H.Class.len H.Class.cap] := Box.new w #[.slice H.Bytes.a H.Bytes.len H.Bytes.cap, .slice H.Class.a H.Class.len H.Class.cap] _
  have hB0 : Below w.heap.size w (w.alloc (.cells #[.slice H.Bytes.a H.Bytes.len H.Bytes.cap, .slice H.Class.a H.Class.len H.Class.cap] 31)) := by repeat (first | exact Below.refl _ _ | refine Below.alloc ?_ (by simp <;> omega) _ | refine below_grow_of ?_ (by simp <;> omega) _ _ | refine Below.drew ?_ | refine below_drewN ?_ _)
  go_enter Tryz.func61, Tryz.ntmps61
  go_wp2
  generalize (w.alloc (.cells #[.slice H.Bytes.a H.Bytes.len H.Bytes.cap, .slice H.Class.a H.Class.len H.Class.cap] 31)) = w0 at ba0 hB0
  go_loopw [7] (fun i wr => ∃ k : Nat, k ≤ l.length ∧ i = .int .i64 k ∧ Hid ((l.take k).all (fitsB x c) = true) ∧ Below w.heap.size w wr ∧ wr.cell? ⟨w.heap.size, 0, none⟩ = some (.slice H.Bytes.a H.Bytes.len H.Bytes.cap) ∧ wr.cell? ⟨w.heap.size, 1, none⟩ = some (.slice H.Class.a H.Class.len H.Class.cap) ∧ w.heap.size < wr.heap.size) (fun i _ => l.length - (intOf i).toNat)
  case atStart => exact ⟨0, Nat.zero_le _, rfl, rfl, hB0, ba0.cell 0 _ rfl, ba0.cell 1 _ rfl, ba0.lt⟩
  case round =>
    obtain ⟨i, hi, rfl, HT, hb, qa0, qa1, zl⟩ := hrel
    clear ba0 hB0
    by_cases hlt : i < l.length
    · obtain ⟨g, off, cap', he, hg, _, _, hc⟩ := (hr.below hb).at_ (List.getElem?_eq_getElem hlt)
      injection he with he1 he2 he3
      clear he2
      subst he1 he3
      have p0 : wr.cell? ⟨g, off + i, none⟩ = some (.int .i64 l[i]) := by simpa [FI] using hc 0 _ rfl
      clear hc
      have HF := Hid.mk_ (show fitsB x c l[i] = ((classInB x l[i] == c) && decide (genInB x l[i] ≤ 6)) from rfl)
      have HY := Hid.mk_ (fun hp => all_step (p := fitsB x c) hlt HT.out hp)
      have HZ := Hid.mk_ (fun hp => all_no (p := fitsB x c) hlt hp)
      generalize l[i] = s at p0 HF HY HZ
      clear hr
      by_cases k1 : classInB x s = c
      case neg =>
        have k1' : (classInB x s != c) = true := by simpa using k1
        have HN := Hid.mk_ (HZ.out (by rw [HF.out, show (classInB x s == c) = false by simpa using k1]; rfl))
        have hq1 := fun (W : World) (hW : RdHeap W W.heap.size H x) => l7Class_spec W H x s hW hs
        generalize classInB x s = cl at k1 k1' hq1
        clear k1 HF HY HZ
        go_wp2
        obtain ⟨wz, hwz⟩ : ∃ wz : World, wz = wr := ⟨_, rfl⟩
        first | (go_region_with (first | (go_at_call 67; refine (hq1 _ (rdHeap_up h (by first | exact hb.drew | exact below_drewN hb _ | exact hb))).mono ?_; rintro e w1 ⟨rfl, hb1⟩; obtain ⟨os1, d1, rfl⟩ := below_grows hb1; clear hb1))) | fail
        all_goals go_wp2
        all_goals go_ret
        all_goals exact ⟨ret_bool HN.out.symm, by first | exact below_grow_of hb (by omega) _ _ | repeat (first | exact Below.refl _ _ | refine Below.alloc ?_ (by simp <;> omega) _ | refine below_grow_of ?_ (by simp <;> omega) _ _ | refine Below.drew ?_ | refine below_drewN ?_ _)⟩
      have HN0 := Hid.mk_ k1
      have hgw : g < wr.heap.size := Nat.lt_of_lt_of_le hg hb.size
      have k1' : (classInB x s != c) = false := by simpa using k1
      have hq1 := fun (W : World) (hW : RdHeap W W.heap.size H x) => l7Class_spec W H x s hW hs
      have hq2 := fun (W : World) (hW : RdHeap W W.heap.size H x) => l7Gen_spec W H x s hW hs (by omega)
      rw [k1] at hq1
      clear k1'
      by_cases k2 : genInB x s ≤ 6
      · have HN := Hid.mk_ (HY.out (by rw [HF.out, HN0.out]; simp [k2]))
        have k2' : decide (6 < genInB x s) = false := by simp; omega
        generalize genInB x s = gn at k2 k2' hq2
        clear k1 k2 HF HY HZ HN0
        go_wp2
        go_region_held3 (fun w' => w'.cell? ⟨w.heap.size, 0, none⟩ = some (.slice H.Bytes.a H.Bytes.len H.Bytes.cap) ∧ w'.cell? ⟨w.heap.size, 1, none⟩ = some (.slice H.Class.a H.Class.len H.Class.cap) ∧ w'.cell? ⟨g, off + i, none⟩ = some (.int .i64 s) ∧ w.heap.size < w'.heap.size ∧ g < w'.heap.size ∧ Below w.heap.size w w') (first | (go_keep; done) | exact held_up (by assumption) (by assumption) (Nat.le_refl _) | exact ⟨by assumption, by assumption, by assumption, by assumption, by assumption, Below.drew (by assumption)⟩) (first | (go_at_call 67; refine (hq1 _ (rdHeap_up h (by go_split_ands; assumption))).mono ?_; rintro e w1 ⟨rfl, hb1⟩) | (go_at_call 65; refine (hq2 _ (rdHeap_up h (by go_split_ands; assumption))).mono ?_; rintro e w1 ⟨rfl, hb1⟩))
        go_wp2
        go_roundw
        case rel => exact ⟨i + 1, by omega, by go_num, HN, by first | assumption | (go_split_ands; assumption), by first | assumption | (go_split_ands; assumption), by first | assumption | (go_split_ands; assumption), by first | assumption | (go_split_ands; assumption)⟩
        case measure => simp [intOf]; omega
      · have HN := Hid.mk_ (HZ.out (by rw [HF.out, HN0.out]; simp [k2]))
        have k2' : decide (6 < genInB x s) = true := by simp; omega
        generalize genInB x s = gn at k2 k2' hq2
        clear k1 k2 HF HY HZ HN0
        go_wp2
        go_region_held3 (fun w' => w'.cell? ⟨w.heap.size, 0, none⟩ = some (.slice H.Bytes.a H.Bytes.len H.Bytes.cap) ∧ w'.cell? ⟨w.heap.size, 1, none⟩ = some (.slice H.Class.a H.Class.len H.Class.cap) ∧ w'.cell? ⟨g, off + i, none⟩ = some (.int .i64 s) ∧ w.heap.size < w'.heap.size ∧ g < w'.heap.size ∧ Below w.heap.size w w') (first | (go_keep; done) | exact held_up (by assumption) (by assumption) (Nat.le_refl _) | exact ⟨by assumption, by assumption, by assumption, by assumption, by assumption, Below.drew (by assumption)⟩) (first | (go_at_call 67; refine (hq1 _ (rdHeap_up h (by go_split_ands; assumption))).mono ?_; rintro e w1 ⟨rfl, hb1⟩) | (go_at_call 65; refine (hq2 _ (rdHeap_up h (by go_split_ands; assumption))).mono ?_; rintro e w1 ⟨rfl, hb1⟩))
        go_wp2
        go_ret
        exact ⟨ret_bool HN.out.symm, by first | assumption | (go_split_ands; assumption)⟩
    · obtain rfl : i = l.length := by omega
      have HN := Hid.mk_ (show l.all (fitsB x c) = true by have a := HT.out; rwa [List.take_length] at a)
      go_wp2
      go_ret
      exact ⟨ret_bool HN.out.symm, hb⟩
end Go.Proofs.YtpjijbonpjoamaaGreat

/-
  Memories valid, the states of slots: the program.
-/
namespace Go.Proofs.YtpjijbonpjoamaaGreat
open Go.RowKit
def fitsTo (m : Mem) (k : Nat) : Bool := (List.range k).all fun c => (m.Lists.Global.getD c []).all (fitsB m.Heap c)
def fitsOwn (m : Mem) (k : Nat) : Bool := (List.range k).all fun k => (m.Lists.Own.getD k []).all (fitsB m.Heap ((k % 3 : Nat) : Int))
theorem memOkB_eq (m : Mem) : memOkB m = (heapOkB m.Heap && listsOkB m.Lists && fitsTo m 3 && fitsOwn m 9) := rfl
theorem fitsTo_succ (m : Mem) (k : Nat) : fitsTo m (k + 1) = (fitsTo m k && (m.Lists.Global.getD k []).all (fitsB m.Heap k)) := by
  unfold fitsTo
  rw [List.range_succ, List.all_append]
  simp
theorem fitsOwn_succ (m : Mem) (k : Nat) : fitsOwn m (k + 1) = (fitsOwn m k && (m.Lists.Own.getD k []).all (fitsB m.Heap ((k % 3 : Nat) : Int))) := by
  unfold fitsOwn
  rw [List.range_succ, List.all_append]
  simp
theorem fitsTo_no {m : Mem} {k n : Nat} (hk : k < n) (h : (m.Lists.Global.getD k []).all (fitsB m.Heap k) = false) : fitsTo m n = false :=
  List.all_eq_false.2 ⟨k, List.mem_range.2 hk, by rw [h]; decide⟩
theorem fitsOwn_no {m : Mem} {k n : Nat} (hk : k < n) (h : (m.Lists.Own.getD k []).all (fitsB m.Heap ((k % 3 : Nat) : Int)) = false) : fitsOwn m n = false :=
  List.all_eq_false.2 ⟨k, List.mem_range.2 hk, by rw [h]; decide⟩
theorem lists_len {l : Lists} (h : listsOkB l = true) : l.Global.length = 3 ∧ l.Own.length = 9 := by
  unfold listsOkB at h
  simp only [Bool.and_eq_true, beq_iff_eq] at h
  exact ⟨h.1.1.1, h.1.1.2⟩
set_option maxRecDepth 100000 in
set_option maxHeartbeats 4000000 in
theorem MemOk_impl (w : World) (H : HMem) (x : Mem) (h : RdMem w w.heap.size H x) :
    Calls Tryz.prog 27 #[.agg #[.slice H.Heap.Bytes.a H.Heap.Bytes.len H.Heap.Bytes.cap, .slice H.Heap.Class.a H.Heap.Class.len H.Heap.Class.cap, .slice H.Lists.Global.a H.Lists.Global.len H.Lists.Global.cap, .slice H.Lists.Own.a H.Lists.Own.len H.Lists.Own.cap]] w fun e w' => e = .returned (.bool (memOkB x)) ∧ Below w.heap.size w w' := by
  have ba0 : Box (w.alloc (.cells #[.slice H.Heap.Bytes.a H.Heap.Bytes.len H.Heap.Bytes.cap, .slice H.Heap.Class.a H.Heap.Class.len H.Heap.Class.cap, .slice H.Lists.Global.a H.Lists.Global.len H.Lists.Global.cap, .slice H.Lists.Own.a H.Lists.Own.len H.Lists.Own.cap] 36)) w.heap.size [.slice H.Heap.Bytes.a H.Heap.Bytes.len H.Heap.Bytes.cap, .slice H.Heap.Class.a H.Heap.Class.len H.Heap.Class.cap, .slice H.Lists.Global.a H.Lists.Global.len H.Lists.Global.cap, .slice H.Lists.Own.a H.Lists.Own.len H.Lists.Own.cap] := Box.new w #[.slice H.Heap.Bytes.a H.Heap.Bytes.len H.Heap.Bytes.cap, .slice H.Heap.Class.a H.Heap.Class.len H.Heap.Class.cap, .slice H.Lists.Global.a H.Lists.Global.len H.Lists.Global.cap, .slice H.Lists.Own.a H.Lists.Own.len H.Lists.Own.cap] _
  have hB0 : Below w.heap.size w (w.alloc (.cells #[.slice H.Heap.Bytes.a H.Heap.Bytes.len H.Heap.Bytes.cap, .slice H.Heap.Class.a H.Heap.Class.len H.Heap.Class.cap, .slice H.Lists.Global.a H.Lists.Global.len H.Lists.Global.cap, .slice H.Lists.Own.a H.Lists.Own.len H.Lists.Own.cap] 36)) := by repeat (first | exact Below.refl _ _ | refine Below.alloc ?_ (by simp <;> omega) _ | refine below_grow_of ?_ (by simp <;> omega) _ _ | refine Below.drew ?_ | refine below_drewN ?_ _)
  have HE := Hid.mk_ (memOkB_eq x)
  go_enter Tryz.func27, Tryz.ntmps27
  go_wp2_with fail
  refine (HeapOk_impl _ H.Heap x.Heap (rdHeap_up h.Heap hB0)).mono ?_
  rintro e w1 ⟨rfl, hb⟩
  have ba1 := ba0.below hb
  have hB1 := hB0.trans (hb.mono hB0.size)
  clear hb ba0 hB0
  by_cases k1 : heapOkB x.Heap = true
  case neg =>
    have k1' : heapOkB x.Heap = false := (Bool.not_eq_true _).mp k1
    have HN := Hid.mk_ (show memOkB x = false by rw [HE.out, k1']; rfl)
    rw [k1']
    clear k1 k1'
    go_wp2
    go_ret
    exact ⟨ret_bool HN.out.symm, hB1⟩
  have K1 := Hid.mk_ k1
  rw [k1]
  clear k1
  have qa0 := ba1.cell 0 _ rfl
  have qa1 := ba1.cell 1 _ rfl
  have qa2 := ba1.cell 2 _ rfl
  have qa3 := ba1.cell 3 _ rfl
  go_wp2_with fail
  refine (ListsOk_impl _ H.Lists x.Lists (rdLists_up h.Lists hB1)).mono ?_
  rintro e w2 ⟨rfl, hb⟩
  have ba2 := ba1.below hb
  have hB2 := hB1.trans (hb.mono hB1.size)
  clear hb ba1 hB1 qa0 qa1 qa2 qa3
  by_cases k2 : listsOkB x.Lists = true
  case neg =>
    have k2' : listsOkB x.Lists = false := (Bool.not_eq_true _).mp k2
    have HN := Hid.mk_ (show memOkB x = false by rw [HE.out, k2']; simp)
    rw [k2']
    clear k2 k2'
    go_wp2
    go_ret
    exact ⟨ret_bool HN.out.symm, hB2⟩
  rw [k2]
  have hs := Hid.mk_ (heap_shape K1.out)
  have HL := Hid.mk_ (lists_len k2)
  have HE2 := Hid.mk_ (show memOkB x = (fitsTo x 3 && fitsOwn x 9) by rw [HE.out, K1.out, k2]; rfl)
  clear k2 HE
  obtain ⟨en1, _, hm1⟩ := (show RdLL FI w w.heap.size (.slice H.Lists.Global.a H.Lists.Global.len H.Lists.Global.cap) H.Lists.GlobalT x.Lists.Global from h.Lists.Global).len'
  obtain ⟨en2, _, hm2⟩ := (show RdLL FI w w.heap.size (.slice H.Lists.Own.a H.Lists.Own.len H.Lists.Own.cap) H.Lists.OwnT x.Lists.Own from h.Lists.Own).len'
  have en1' : H.Lists.Global.len = 3 := by rw [en1, HL.out.1]
  have en2' : H.Lists.Own.len = 9 := by rw [en2, HL.out.2]
  have hgr : RdLL FI w w.heap.size (.slice H.Lists.Global.a 3 H.Lists.Global.cap) H.Lists.GlobalT x.Lists.Global := by rw [← en1']; exact h.Lists.Global
  have hor : RdLL FI w w.heap.size (.slice H.Lists.Own.a 9 H.Lists.Own.cap) H.Lists.OwnT x.Lists.Own := by rw [← en2']; exact h.Lists.Own
  rw [en1', en2'] at ba2
  clear en1 en2 hm1 hm2 en1' en2'
  obtain ⟨gG, oG, _, _, eG, _, _, _⟩ := hgr.row (Below.refl _ _) (show 0 < x.Lists.Global.length by rw [HL.out.1]; decide)
  obtain ⟨gO, oO, _, _, eO, _, _, _⟩ := hor.row (Below.refl _ _) (show 0 < x.Lists.Own.length by rw [HL.out.2]; decide)
  rw [eG] at hgr ba2
  rw [eO] at hor ba2
  have qa0 := ba2.cell 0 _ rfl
  have qa1 := ba2.cell 1 _ rfl
  have qa2 := ba2.cell 2 _ rfl
  have qa3 := ba2.cell 3 _ rfl
  go_wp2
  go_loopw [3, 4, 21] (fun _ _ i wr => ∃ k : Nat, k ≤ 3 ∧ i = .int .i64 k ∧ Hid (fitsTo x k = true) ∧ Below w.heap.size w wr ∧ Box wr w.heap.size [.slice H.Heap.Bytes.a H.Heap.Bytes.len H.Heap.Bytes.cap, .slice H.Heap.Class.a H.Heap.Class.len H.Heap.Class.cap, .slice (some ⟨gG, oG, none⟩) 3 H.Lists.Global.cap, .slice (some ⟨gO, oO, none⟩) 9 H.Lists.Own.cap]) (fun _ _ i _ => 3 - (intOf i).toNat)
  case atStart => exact ⟨0, Nat.zero_le _, rfl, rfl, hB2, ba2⟩
  case round =>
    obtain ⟨i, hi, rfl, HT, hb, ba⟩ := hrel
    clear ba2 hB2 qa0 qa1 qa2 qa3
    have zl := ba.lt
    by_cases hlt : i < 3
    · have hltI : (i : Int) < 3 := by omega
      have hig : i < x.Lists.Global.length := by rw [HL.out.1]; exact hlt
      obtain ⟨g, o, A', c', hAe, hg, p0, rr⟩ := hgr.row hb hig
      injection hAe with hAe
      injection hAe with hA1 hA2
      subst hA1 hA2
      have hgw : gG < wr.heap.size := Nat.lt_of_lt_of_le hg hb.size
      have hln := (RdL.len_ rr).2
      have HX := Hid.mk_ (show x.Lists.Global.getD i [] = x.Lists.Global[i] by rw [getD_at hig])
      have HSu := Hid.mk_ (fitsTo_succ x i)
      have HNo := Hid.mk_ (fun hf => fitsTo_no (m := x) (k := i) (n := 3) hlt hf)
      rw [HX.out] at HSu HNo
      clear HX
      generalize x.Lists.Global[i] = row at p0 rr hln HSu HNo
      have qa0 := ba.cell 0 _ rfl
      have qa1 := ba.cell 1 _ rfl
      have qa2 := ba.cell 2 _ rfl
      have qa3 := ba.cell 3 _ rfl
      go_wp2_with fail
      have hb' : Below w.heap.size w (wr.alloc (.cells #[.slice A' row.length c'] 80)) := hb.alloc hb.size _
      have ba' := ba.alloc (.cells #[.slice A' row.length c'] 80)
      refine (listFits_impl _ H.Heap x.Heap A' c' row i (rdHeap_up h.Heap hb') hs.out (rd_up rr hb')).mono ?_
      rintro e w3 ⟨rfl, hb3⟩
      have ba3 := ba'.below hb3
      have hB3 := hb'.trans (hb3.mono hb'.size)
      clear hb3 hb' ba' hb ba p0 qa0 qa1 qa2 qa3
      by_cases k3 : row.all (fitsB x.Heap i) = true
      · have HN := Hid.mk_ (show fitsTo x (i + 1) = true by rw [HSu.out, HT.out, k3]; rfl)
        rw [k3]
        clear k3
        go_wp2
        go_roundw
        case rel => exact ⟨i + 1, by omega, by go_num, HN, hB3, ba3⟩
        case measure => simp [intOf]; omega
      · have k3' : row.all (fitsB x.Heap i) = false := (Bool.not_eq_true _).mp k3
        have HN := Hid.mk_ (show memOkB x = false by rw [HE2.out, HNo.out k3']; rfl)
        rw [k3']
        clear k3 k3'
        go_wp2
        go_ret
        exact ⟨ret_bool HN.out.symm, hB3⟩
    · obtain rfl : i = 3 := by omega
      have HE3 := Hid.mk_ (show memOkB x = fitsOwn x 9 by rw [HE2.out, HT.out]; rfl)
      clear HT HE2
      rw [show ((3 : Nat) : Int) = 3 from rfl]
      have qa0 := ba.cell 0 _ rfl
      have qa1 := ba.cell 1 _ rfl
      have qa2 := ba.cell 2 _ rfl
      have qa3 := ba.cell 3 _ rfl
      go_wp2
      go_loopw [5, 6, 37] (fun _ _ i wr => ∃ k : Nat, k ≤ 9 ∧ i = .int .i64 k ∧ Hid (fitsOwn x k = true) ∧ Below w.heap.size w wr ∧ Box wr w.heap.size [.slice H.Heap.Bytes.a H.Heap.Bytes.len H.Heap.Bytes.cap, .slice H.Heap.Class.a H.Heap.Class.len H.Heap.Class.cap, .slice (some ⟨gG, oG, none⟩) 3 H.Lists.Global.cap, .slice (some ⟨gO, oO, none⟩) 9 H.Lists.Own.cap]) (fun _ _ i _ => 9 - (intOf i).toNat)
      case atStart => exact ⟨0, Nat.zero_le _, rfl, rfl, hb, ba⟩
      case round =>
        obtain ⟨i, hi, rfl, HT, hb, ba⟩ := hrel
        clear qa0 qa1 qa2 qa3
        have zl := ba.lt
        by_cases hlt : i < 9
        · have hltI : (i : Int) < 9 := by omega
          have hig : i < x.Lists.Own.length := by rw [HL.out.2]; exact hlt
          obtain ⟨g, o, A', c', hAe, hg, p0, rr⟩ := hor.row hb hig
          injection hAe with hAe
          injection hAe with hA1 hA2
          subst hA1 hA2
          have hgw : gO < wr.heap.size := Nat.lt_of_lt_of_le hg hb.size
          have hln := (RdL.len_ rr).2
          have HX := Hid.mk_ (show x.Lists.Own.getD i [] = x.Lists.Own[i] by rw [getD_at hig])
          have HSu := Hid.mk_ (fitsOwn_succ x i)
          have HNo := Hid.mk_ (fun hf => fitsOwn_no (m := x) (k := i) (n := 9) hlt hf)
          rw [HX.out] at HSu HNo
          clear HX
          generalize x.Lists.Own[i] = row at p0 rr hln HSu HNo
          have qa0 := ba.cell 0 _ rfl
          have qa1 := ba.cell 1 _ rfl
          have qa2 := ba.cell 2 _ rfl
          have qa3 := ba.cell 3 _ rfl
          go_wp2_with fail
          have hb' : Below w.heap.size w (wr.alloc (.cells #[.slice A' row.length c'] 80)) := hb.alloc hb.size _
          have ba' := ba.alloc (.cells #[.slice A' row.length c'] 80)
          refine (listFits_impl _ H.Heap x.Heap A' c' row ((i % 3 : Nat) : Int) (rdHeap_up h.Heap hb') hs.out (rd_up rr hb')).mono ?_
          rintro e w3 ⟨rfl, hb3⟩
          have ba3 := ba'.below hb3
          have hB3 := hb'.trans (hb3.mono hb'.size)
          clear hb3 hb' ba' hb ba p0 qa0 qa1 qa2 qa3
          by_cases k3 : row.all (fitsB x.Heap ((i % 3 : Nat) : Int)) = true
          · have HN := Hid.mk_ (show fitsOwn x (i + 1) = true by rw [HSu.out, HT.out, k3]; rfl)
            rw [k3]
            clear k3
            go_wp2
            go_roundw
            case rel => exact ⟨i + 1, by omega, by go_num, HN, hB3, ba3⟩
            case measure => simp [intOf]; omega
          · have k3' : row.all (fitsB x.Heap ((i % 3 : Nat) : Int)) = false := (Bool.not_eq_true _).mp k3
            have HN := Hid.mk_ (show memOkB x = false by rw [HE3.out, HNo.out k3'])
            rw [k3']
            clear k3 k3'
            go_wp2
            go_ret
            exact ⟨ret_bool HN.out.symm, hB3⟩
        · obtain rfl : i = 9 := by omega
          have HN := Hid.mk_ (show memOkB x = true by rw [HE3.out, HT.out])
          go_wp2
          go_ret
          exact ⟨ret_bool HN.out.symm, hb⟩
end Go.Proofs.YtpjijbonpjoamaaGreat

