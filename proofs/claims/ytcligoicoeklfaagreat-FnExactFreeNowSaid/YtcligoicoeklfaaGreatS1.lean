/-
  What is stored through a handle: the contracts.
-/
import Derived.Test.YtcligoicoeklfaaGreatT
import Derived.Test.YtcligoicoeklfaaGreatL
import Derived.Deep.QuietTactic
import Derived.BigQuiet
import Derived.Deep.LoopGhost
import Derived.Deep.RegionHeld3
import Derived.Test.YtcligoicoeklfaaGreatN
import Derived.Test.YtcligoicoeklfaaGreatA
import Derived.WalkSpells
import Derived.Laws.Cover3
import Derived.Test.YtcligoicoeklfaaGreatC1
import Derived.Test.YtcligoicoeklfaaGreatQF
namespace Go.Proofs.YtcligoicoeklfaaGreat
open Go.RowKit

theorem Fixed_noB (n k : Int) (w : World) (h : ¬ (1 ≤ k ∧ k ≤ 7 ∧ 0 ≤ n ∧ n < 256 ^ k.toNat)) : Calls Tryz.prog 41 #[.int .i64 n, .int .i64 k] w fun e w' => e = .returned (.string ⟨#[]⟩) ∧ Below w.heap.size w w' := (Fixed_no n k w h).mono fun _ _ ⟨a, b⟩ => ⟨a, b ▸ Below.refl _ _⟩
theorem HMem.bytes_foot {H : HMem} {g : Nat} (h : g ∈ foot1 H.Heap.Bytes.val) : g ∈ H.foot := HMem.mem_foot.2 (.inl (HHeap.mem_foot.2 (.inl h)))
theorem OwMem.setBytes {w w' : World} {H : HMem} {x : Mem} {b : List Int} (h : OwMem w H x) (hb : OwL FI 3 w' H.Heap.Bytes.val b) (hc : Chg (foot1 H.Heap.Bytes.val) w w') : OwMem w' H { x with Heap := { x.Heap with Bytes := b } } :=
  ⟨⟨hb, h.Heap.Class.chg hc (fun g hg hm => h.Heap.d01 g hm hg), h.Heap.d01⟩, h.Lists.chg hc (fun g hg hm => h.d01 g (HHeap.mem_foot.2 (.inl hm)) hg), h.d01⟩
def storeInP (m : Mem) (h a k n : Int) : Mem × Int := if (spotB m h a k).2 ≠ 0 then (m, (spotB m h a k).2) else if fixOk n k = false then (m, 1) else ({ m with Heap := { m.Heap with Bytes := putN m.Heap.Bytes (spotB m h a k).1 k n } }, 0)
theorem store_no1 {m : Mem} {h a k n : Int} (c : (spotB m h a k).2 ≠ 0) : storeInP m h a k n = (m, (spotB m h a k).2) := if_pos c
theorem store_no2 {m : Mem} {h a k n : Int} (c : (spotB m h a k).2 = 0) (f : fixOk n k = false) : storeInP m h a k n = (m, 1) := by
  unfold storeInP
  rw [if_neg (by rw [c]; decide), if_pos f]
theorem store_yes {m : Mem} {h a k n : Int} (c : (spotB m h a k).2 = 0) (f : fixOk n k = true) : storeInP m h a k n = ({ m with Heap := { m.Heap with Bytes := putN m.Heap.Bytes (spotB m h a k).1 k n } }, 0) := by
  unfold storeInP
  rw [if_neg (by rw [c]; decide), if_neg (by rw [f]; decide)]

theorem fixed_any (n k : Int) : ∃ t : ByteArray, ∀ w : World, Calls Tryz.prog 41 #[.int .i64 n, .int .i64 k] w fun e w' => e = .returned (.string t) ∧ Below w.heap.size w w' := by
  by_cases hf : fixOk n k = true
  · obtain ⟨h1, h7, h0, hn⟩ := fixOk_yes hf
    obtain ⟨K, rfl⟩ : ∃ K : Nat, k = (K : Int) := ⟨k.toNat, by omega⟩
    rw [Int.toNat_natCast] at hn
    exact ⟨_, fun w => Fixed_yes n K w (by omega) (by omega) h0 hn⟩
  · exact ⟨_, fun w => (Fixed_no n k w (fixOk_no ((Bool.not_eq_true _).mp hf))).mono fun e w1 ⟨a, b⟩ => ⟨a, b ▸ Below.refl _ _⟩⟩

set_option maxRecDepth 100000 in
set_option maxHeartbeats 4000000 in
theorem StoreIn_impl (w : World) (H : HMem) (x : Mem) (s a k n : Int) (h : RdMem w w.heap.size H x) (hs : sizeMem x ≤ 536870912) :
    Calls Tryz.prog 14 #[.agg #[.slice H.Heap.Bytes.a H.Heap.Bytes.len H.Heap.Bytes.cap, .slice H.Heap.Class.a H.Heap.Class.len H.Heap.Class.cap, .slice H.Lists.Global.a H.Lists.Global.len H.Lists.Global.cap, .slice H.Lists.Own.a H.Lists.Own.len H.Lists.Own.cap], .int .i64 s, .int .i64 a, .int .i64 k, .int .i64 n] w fun e w' => ∃ H' : HMem, e = .returned (.tuple #[.agg #[.slice H'.Heap.Bytes.a H'.Heap.Bytes.len H'.Heap.Bytes.cap, .slice H'.Heap.Class.a H'.Heap.Class.len H'.Heap.Class.cap, .slice H'.Lists.Global.a H'.Lists.Global.len H'.Lists.Global.cap, .slice H'.Lists.Own.a H'.Lists.Own.len H'.Lists.Own.cap], .int .i64 (storeInP x s a k n).2]) ∧ OwMem w' H' (storeInP x s a k n).1 ∧ (∀ g ∈ H'.foot, w.heap.size ≤ g) ∧ Below w.heap.size w w' := by
  by_cases c1 : (spotB x s a k).2 = 0
  case neg =>
    have HN := Hid.mk_ (store_no1 (n := n) c1)
    have HL := Hid.mk_ (load_no (m := x) (h := s) (a := a) (k := k) (c := (spotB x s a k).2) (by rcases spot_code x s a k with h | ⟨h, _⟩; exact absurd h c1; rw [← h]) c1)
    have c1' : ((spotB x s a k).2 != 0) = true := by simpa using c1
    have hl := fun (W : World) (hW : Below w.heap.size w W) => LoadIn_impl W H x s a k (rdMem_up h hW)
    rw [HL.out] at hl
    have HV := Hid.mk_ (show storeInP x s a k n = (x, (spotB x s a k).2) from HN.out)
    clear c1 HN HL
    generalize (spotB x s a k).2 = c at *
    have B_a : Box ((w.alloc (.cells #[.slice H.Heap.Bytes.a H.Heap.Bytes.len H.Heap.Bytes.cap, .slice H.Heap.Class.a H.Heap.Class.len H.Heap.Class.cap, .slice H.Lists.Global.a H.Lists.Global.len H.Lists.Global.cap, .slice H.Lists.Own.a H.Lists.Own.len H.Lists.Own.cap] 36)).alloc (.cells #[.slice none 0 0, .slice none 0 0, .slice none 0 0, .slice none 0 0] 36)) (w.heap.size) [.slice H.Heap.Bytes.a H.Heap.Bytes.len H.Heap.Bytes.cap, .slice H.Heap.Class.a H.Heap.Class.len H.Heap.Class.cap, .slice H.Lists.Global.a H.Lists.Global.len H.Lists.Global.cap, .slice H.Lists.Own.a H.Lists.Own.len H.Lists.Own.cap] := by
      have hbx := Box.new w #[.slice H.Heap.Bytes.a H.Heap.Bytes.len H.Heap.Bytes.cap, .slice H.Heap.Class.a H.Heap.Class.len H.Heap.Class.cap, .slice H.Lists.Global.a H.Lists.Global.len H.Lists.Global.cap, .slice H.Lists.Own.a H.Lists.Own.len H.Lists.Own.cap] 36
      exact (hbx).alloc _
    have B_r : Box ((w.alloc (.cells #[.slice H.Heap.Bytes.a H.Heap.Bytes.len H.Heap.Bytes.cap, .slice H.Heap.Class.a H.Heap.Class.len H.Heap.Class.cap, .slice H.Lists.Global.a H.Lists.Global.len H.Lists.Global.cap, .slice H.Lists.Own.a H.Lists.Own.len H.Lists.Own.cap] 36)).alloc (.cells #[.slice none 0 0, .slice none 0 0, .slice none 0 0, .slice none 0 0] 36)) (w.heap.size + 1) [.slice none 0 0, .slice none 0 0, .slice none 0 0, .slice none 0 0] := by
      have hbx := Box.new (w.alloc (.cells #[.slice H.Heap.Bytes.a H.Heap.Bytes.len H.Heap.Bytes.cap, .slice H.Heap.Class.a H.Heap.Class.len H.Heap.Class.cap, .slice H.Lists.Global.a H.Lists.Global.len H.Lists.Global.cap, .slice H.Lists.Own.a H.Lists.Own.len H.Lists.Own.cap] 36)) #[.slice none 0 0, .slice none 0 0, .slice none 0 0, .slice none 0 0] 36
      simp only [World.size_alloc] at hbx
      exact hbx
    have hB : Below w.heap.size w ((w.alloc (.cells #[.slice H.Heap.Bytes.a H.Heap.Bytes.len H.Heap.Bytes.cap, .slice H.Heap.Class.a H.Heap.Class.len H.Heap.Class.cap, .slice H.Lists.Global.a H.Lists.Global.len H.Lists.Global.cap, .slice H.Lists.Own.a H.Lists.Own.len H.Lists.Own.cap] 36)).alloc (.cells #[.slice none 0 0, .slice none 0 0, .slice none 0 0, .slice none 0 0] 36)) := by repeat (first | exact Below.refl _ _ | refine Below.alloc ?_ (by simp <;> omega) _ | refine below_grow_of ?_ (by simp <;> omega) _ _ | refine Below.drew ?_ | refine below_drewN ?_ _)
    go_enter Tryz.func14, Tryz.ntmps14
    go_wp2_with fail
    generalize hW0 : ((w.alloc (.cells #[.slice H.Heap.Bytes.a H.Heap.Bytes.len H.Heap.Bytes.cap, .slice H.Heap.Class.a H.Heap.Class.len H.Heap.Class.cap, .slice H.Lists.Global.a H.Lists.Global.len H.Lists.Global.cap, .slice H.Lists.Own.a H.Lists.Own.len H.Lists.Own.cap] 36)).alloc (.cells #[.slice none 0 0, .slice none 0 0, .slice none 0 0, .slice none 0 0] 36)) = w0 at B_a B_r hB ⊢
    clear hW0
    have zz_a := B_a.lt
    have zz_r := B_r.lt
    have q_a_0 := B_a.cell 0 _ rfl
    have q_a_1 := B_a.cell 1 _ rfl
    have q_a_2 := B_a.cell 2 _ rfl
    have q_a_3 := B_a.cell 3 _ rfl
    have fr_a := B_a.fro
    have z_a := B_a.lt
    have q_r_0 := B_r.cell 0 _ rfl
    have q_r_1 := B_r.cell 1 _ rfl
    have q_r_2 := B_r.cell 2 _ rfl
    have q_r_3 := B_r.cell 3 _ rfl
    have fr_r := B_r.fro
    have z_r := B_r.lt
    refine (copyMem_impl _ H x (rdMem_up h hB) hs).mono ?_
    rintro e w1 ⟨K_c, rfl, o_c, l_c, hb⟩
    have u_c := o_c.lt
    replace B_a := B_a.below hb
    replace B_r := B_r.below hb
    replace hB := hB.trans (hb.mono hB.size)
    have sz := hb.size
    clear hb
    replace q_a_0 := B_a.cell 0 _ rfl
    replace q_a_1 := B_a.cell 1 _ rfl
    replace q_a_2 := B_a.cell 2 _ rfl
    replace q_a_3 := B_a.cell 3 _ rfl
    replace fr_a := B_a.fro
    replace z_a := B_a.lt
    replace q_r_0 := B_r.cell 0 _ rfl
    replace q_r_1 := B_r.cell 1 _ rfl
    replace q_r_2 := B_r.cell 2 _ rfl
    replace q_r_3 := B_r.cell 3 _ rfl
    replace fr_r := B_r.fro
    replace z_r := B_r.lt
    obtain ⟨t, hq⟩ := fixed_any n k
    go_wp2_with fail
    refine (hq _).mono ?_
    rintro e w2 ⟨rfl, hb⟩
    replace B_a := B_a.below hb
    replace B_r := B_r.below hb
    have o_c := o_c.step0 hb
    replace hB := hB.trans (hb.mono hB.size)
    have sz := hb.size
    clear hb
    replace q_a_0 := B_a.cell 0 _ rfl
    replace q_a_1 := B_a.cell 1 _ rfl
    replace q_a_2 := B_a.cell 2 _ rfl
    replace q_a_3 := B_a.cell 3 _ rfl
    replace fr_a := B_a.fro
    replace z_a := B_a.lt
    replace q_r_0 := B_r.cell 0 _ rfl
    replace q_r_1 := B_r.cell 1 _ rfl
    replace q_r_2 := B_r.cell 2 _ rfl
    replace q_r_3 := B_r.cell 3 _ rfl
    replace fr_r := B_r.fro
    replace z_r := B_r.lt
    clear hq
    go_wp2_with fail
    refine (hl _ (hB.alloc hB.size _)).mono ?_
    rintro e w3 ⟨rfl, hb⟩
    replace B_a := (B_a.alloc _).below hb
    replace B_r := (B_r.alloc _).below hb
    replace o_c := o_c.step hb
    replace hB := below_step hB hb hB.size
    have sz := hb.size
    simp only [World.size_alloc] at sz
    have B_o := (Box.new w2 #[.slice K_c.Heap.Bytes.a K_c.Heap.Bytes.len K_c.Heap.Bytes.cap, .slice K_c.Heap.Class.a K_c.Heap.Class.len K_c.Heap.Class.cap, .slice K_c.Lists.Global.a K_c.Lists.Global.len K_c.Lists.Global.cap, .slice K_c.Lists.Own.a K_c.Lists.Own.len K_c.Lists.Own.cap] 36).below hb
    have zz_o := B_o.lt
    clear hb
    replace q_a_0 := B_a.cell 0 _ rfl
    replace q_a_1 := B_a.cell 1 _ rfl
    replace q_a_2 := B_a.cell 2 _ rfl
    replace q_a_3 := B_a.cell 3 _ rfl
    replace fr_a := B_a.fro
    replace z_a := B_a.lt
    replace q_r_0 := B_r.cell 0 _ rfl
    replace q_r_1 := B_r.cell 1 _ rfl
    replace q_r_2 := B_r.cell 2 _ rfl
    replace q_r_3 := B_r.cell 3 _ rfl
    replace fr_r := B_r.fro
    replace z_r := B_r.lt
    have q_o_0 := B_o.cell 0 _ rfl
    have q_o_1 := B_o.cell 1 _ rfl
    have q_o_2 := B_o.cell 2 _ rfl
    have q_o_3 := B_o.cell 3 _ rfl
    have fr_o := B_o.fro
    have z_o := B_o.lt
    clear hl
    go_wp2_with fail
    refine bodyPost_ret (v := .tuple #[.agg #[.slice K_c.Heap.Bytes.a K_c.Heap.Bytes.len K_c.Heap.Bytes.cap, .slice K_c.Heap.Class.a K_c.Heap.Class.len K_c.Heap.Class.cap, .slice K_c.Lists.Global.a K_c.Lists.Global.len K_c.Lists.Global.cap, .slice K_c.Lists.Own.a K_c.Lists.Own.len K_c.Lists.Own.cap], .int .i64 c]) (by simp [results, Tryz.results14, go_sem, q_r_0, q_r_1, q_r_2, q_r_3]) rfl ⟨K_c, by rw [HV.out], by rw [HV.out]; exact o_c.chg (F := [w.heap.size + 1]) (by repeat (first | exact Chg.refl _ _ | refine Chg.set_ ?_ (by simp) _ | refine Chg.alloc_ ?_ _ | refine Chg.drew_ ?_)) (fun g hg hm => by simp only [List.mem_cons, List.not_mem_nil, or_false] at hm; have := l_c g hg; have := u_c g hg; omega), fun g hg => by have := l_c g hg; omega, Below.trans hB (by repeat (first | exact Below.refl _ _ | refine Below.setCell ?_ (by simp <;> omega) _ | refine Below.alloc ?_ (by simp <;> omega) _ | refine Below.drew ?_))⟩
  have HL := Hid.mk_ (load_yes (m := x) (h := s) (a := a) (k := k) (p := (spotB x s a k).1) (by rw [← c1]))
  have hl := fun (W : World) (hW : Below w.heap.size w W) => LoadIn_impl W H x s a k (rdMem_up h hW)
  rw [HL.out] at hl
  by_cases c2 : fixOk n k = true
  case neg =>
    have c2' := (Bool.not_eq_true _).mp c2
    have HV := Hid.mk_ (store_no2 c1 c2')
    have hq := fun W => Fixed_noB n k W (fixOk_no c2')
    clear c1 c2 c2' HL
    generalize loadN x.Heap.Bytes (spotB x s a k).1 k = v at *
    have B_a : Box ((w.alloc (.cells #[.slice H.Heap.Bytes.a H.Heap.Bytes.len H.Heap.Bytes.cap, .slice H.Heap.Class.a H.Heap.Class.len H.Heap.Class.cap, .slice H.Lists.Global.a H.Lists.Global.len H.Lists.Global.cap, .slice H.Lists.Own.a H.Lists.Own.len H.Lists.Own.cap] 36)).alloc (.cells #[.slice none 0 0, .slice none 0 0, .slice none 0 0, .slice none 0 0] 36)) (w.heap.size) [.slice H.Heap.Bytes.a H.Heap.Bytes.len H.Heap.Bytes.cap, .slice H.Heap.Class.a H.Heap.Class.len H.Heap.Class.cap, .slice H.Lists.Global.a H.Lists.Global.len H.Lists.Global.cap, .slice H.Lists.Own.a H.Lists.Own.len H.Lists.Own.cap] := by
      have hbx := Box.new w #[.slice H.Heap.Bytes.a H.Heap.Bytes.len H.Heap.Bytes.cap, .slice H.Heap.Class.a H.Heap.Class.len H.Heap.Class.cap, .slice H.Lists.Global.a H.Lists.Global.len H.Lists.Global.cap, .slice H.Lists.Own.a H.Lists.Own.len H.Lists.Own.cap] 36
      exact (hbx).alloc _
    have B_r : Box ((w.alloc (.cells #[.slice H.Heap.Bytes.a H.Heap.Bytes.len H.Heap.Bytes.cap, .slice H.Heap.Class.a H.Heap.Class.len H.Heap.Class.cap, .slice H.Lists.Global.a H.Lists.Global.len H.Lists.Global.cap, .slice H.Lists.Own.a H.Lists.Own.len H.Lists.Own.cap] 36)).alloc (.cells #[.slice none 0 0, .slice none 0 0, .slice none 0 0, .slice none 0 0] 36)) (w.heap.size + 1) [.slice none 0 0, .slice none 0 0, .slice none 0 0, .slice none 0 0] := by
      have hbx := Box.new (w.alloc (.cells #[.slice H.Heap.Bytes.a H.Heap.Bytes.len H.Heap.Bytes.cap, .slice H.Heap.Class.a H.Heap.Class.len H.Heap.Class.cap, .slice H.Lists.Global.a H.Lists.Global.len H.Lists.Global.cap, .slice H.Lists.Own.a H.Lists.Own.len H.Lists.Own.cap] 36)) #[.slice none 0 0, .slice none 0 0, .slice none 0 0, .slice none 0 0] 36
      simp only [World.size_alloc] at hbx
      exact hbx
    have hB : Below w.heap.size w ((w.alloc (.cells #[.slice H.Heap.Bytes.a H.Heap.Bytes.len H.Heap.Bytes.cap, .slice H.Heap.Class.a H.Heap.Class.len H.Heap.Class.cap, .slice H.Lists.Global.a H.Lists.Global.len H.Lists.Global.cap, .slice H.Lists.Own.a H.Lists.Own.len H.Lists.Own.cap] 36)).alloc (.cells #[.slice none 0 0, .slice none 0 0, .slice none 0 0, .slice none 0 0] 36)) := by repeat (first | exact Below.refl _ _ | refine Below.alloc ?_ (by simp <;> omega) _ | refine below_grow_of ?_ (by simp <;> omega) _ _ | refine Below.drew ?_ | refine below_drewN ?_ _)
    go_enter Tryz.func14, Tryz.ntmps14
    go_wp2_with fail
    generalize hW0 : ((w.alloc (.cells #[.slice H.Heap.Bytes.a H.Heap.Bytes.len H.Heap.Bytes.cap, .slice H.Heap.Class.a H.Heap.Class.len H.Heap.Class.cap, .slice H.Lists.Global.a H.Lists.Global.len H.Lists.Global.cap, .slice H.Lists.Own.a H.Lists.Own.len H.Lists.Own.cap] 36)).alloc (.cells #[.slice none 0 0, .slice none 0 0, .slice none 0 0, .slice none 0 0] 36)) = w0 at B_a B_r hB ⊢
    clear hW0
    have zz_a := B_a.lt
    have zz_r := B_r.lt
    have q_a_0 := B_a.cell 0 _ rfl
    have q_a_1 := B_a.cell 1 _ rfl
    have q_a_2 := B_a.cell 2 _ rfl
    have q_a_3 := B_a.cell 3 _ rfl
    have fr_a := B_a.fro
    have z_a := B_a.lt
    have q_r_0 := B_r.cell 0 _ rfl
    have q_r_1 := B_r.cell 1 _ rfl
    have q_r_2 := B_r.cell 2 _ rfl
    have q_r_3 := B_r.cell 3 _ rfl
    have fr_r := B_r.fro
    have z_r := B_r.lt
    refine (copyMem_impl _ H x (rdMem_up h hB) hs).mono ?_
    rintro e w1 ⟨K_c, rfl, o_c, l_c, hb⟩
    have u_c := o_c.lt
    replace B_a := B_a.below hb
    replace B_r := B_r.below hb
    replace hB := hB.trans (hb.mono hB.size)
    have sz := hb.size
    clear hb
    replace q_a_0 := B_a.cell 0 _ rfl
    replace q_a_1 := B_a.cell 1 _ rfl
    replace q_a_2 := B_a.cell 2 _ rfl
    replace q_a_3 := B_a.cell 3 _ rfl
    replace fr_a := B_a.fro
    replace z_a := B_a.lt
    replace q_r_0 := B_r.cell 0 _ rfl
    replace q_r_1 := B_r.cell 1 _ rfl
    replace q_r_2 := B_r.cell 2 _ rfl
    replace q_r_3 := B_r.cell 3 _ rfl
    replace fr_r := B_r.fro
    replace z_r := B_r.lt
    go_wp2_with fail
    refine (hq _).mono ?_
    rintro e w2 ⟨rfl, hb⟩
    replace B_a := B_a.below hb
    replace B_r := B_r.below hb
    have o_c := o_c.step0 hb
    replace hB := hB.trans (hb.mono hB.size)
    have sz := hb.size
    clear hb
    replace q_a_0 := B_a.cell 0 _ rfl
    replace q_a_1 := B_a.cell 1 _ rfl
    replace q_a_2 := B_a.cell 2 _ rfl
    replace q_a_3 := B_a.cell 3 _ rfl
    replace fr_a := B_a.fro
    replace z_a := B_a.lt
    replace q_r_0 := B_r.cell 0 _ rfl
    replace q_r_1 := B_r.cell 1 _ rfl
    replace q_r_2 := B_r.cell 2 _ rfl
    replace q_r_3 := B_r.cell 3 _ rfl
    replace fr_r := B_r.fro
    replace z_r := B_r.lt
    clear hq
    go_wp2_with fail
    refine (hl _ (hB.alloc hB.size _)).mono ?_
    rintro e w3 ⟨rfl, hb⟩
    replace B_a := (B_a.alloc _).below hb
    replace B_r := (B_r.alloc _).below hb
    replace o_c := o_c.step hb
    replace hB := below_step hB hb hB.size
    have sz := hb.size
    simp only [World.size_alloc] at sz
    have B_o := (Box.new w2 #[.slice K_c.Heap.Bytes.a K_c.Heap.Bytes.len K_c.Heap.Bytes.cap, .slice K_c.Heap.Class.a K_c.Heap.Class.len K_c.Heap.Class.cap, .slice K_c.Lists.Global.a K_c.Lists.Global.len K_c.Lists.Global.cap, .slice K_c.Lists.Own.a K_c.Lists.Own.len K_c.Lists.Own.cap] 36).below hb
    have zz_o := B_o.lt
    clear hb
    replace q_a_0 := B_a.cell 0 _ rfl
    replace q_a_1 := B_a.cell 1 _ rfl
    replace q_a_2 := B_a.cell 2 _ rfl
    replace q_a_3 := B_a.cell 3 _ rfl
    replace fr_a := B_a.fro
    replace z_a := B_a.lt
    replace q_r_0 := B_r.cell 0 _ rfl
    replace q_r_1 := B_r.cell 1 _ rfl
    replace q_r_2 := B_r.cell 2 _ rfl
    replace q_r_3 := B_r.cell 3 _ rfl
    replace fr_r := B_r.fro
    replace z_r := B_r.lt
    have q_o_0 := B_o.cell 0 _ rfl
    have q_o_1 := B_o.cell 1 _ rfl
    have q_o_2 := B_o.cell 2 _ rfl
    have q_o_3 := B_o.cell 3 _ rfl
    have fr_o := B_o.fro
    have z_o := B_o.lt
    clear hl
    go_wp2_with fail
    refine bodyPost_ret (v := .tuple #[.agg #[.slice K_c.Heap.Bytes.a K_c.Heap.Bytes.len K_c.Heap.Bytes.cap, .slice K_c.Heap.Class.a K_c.Heap.Class.len K_c.Heap.Class.cap, .slice K_c.Lists.Global.a K_c.Lists.Global.len K_c.Lists.Global.cap, .slice K_c.Lists.Own.a K_c.Lists.Own.len K_c.Lists.Own.cap], .int .i64 1]) (by simp [results, Tryz.results14, go_sem, q_r_0, q_r_1, q_r_2, q_r_3]) rfl ⟨K_c, by rw [HV.out], by rw [HV.out]; exact o_c.chg (F := [w.heap.size + 1]) (by repeat (first | exact Chg.refl _ _ | refine Chg.set_ ?_ (by simp) _ | refine Chg.alloc_ ?_ _ | refine Chg.drew_ ?_)) (fun g hg hm => by simp only [List.mem_cons, List.not_mem_nil, or_false] at hm; have := l_c g hg; have := u_c g hg; omega), fun g hg => by have := l_c g hg; omega, Below.trans hB (by repeat (first | exact Below.refl _ _ | refine Below.setCell ?_ (by simp <;> omega) _ | refine Below.alloc ?_ (by simp <;> omega) _ | refine Below.drew ?_))⟩
  have HV := Hid.mk_ (store_yes c1 c2)
  obtain ⟨z1, z2, z3, z4, z5, z6, z7, z8⟩ := spot_zero c1
  obtain ⟨y1, y2, y3, y4⟩ := fixOk_yes c2
  obtain ⟨K, rfl⟩ : ∃ K : Nat, k = (K : Int) := ⟨k.toNat, by omega⟩
  rw [Int.toNat_natCast] at y4
  have hq := fun W => Fixed_yes n K W (by omega) (by omega) y3 y4
  have HSH := Hid.mk_ (mem_shape z1)
  have hbl : x.Heap.Bytes.length = 384 := (shape_of HSH.out).bl
  obtain ⟨P, hP⟩ : ∃ P : Nat, (spotB x s a K).1 = (P : Int) := ⟨(spotB x s a K).1.toNat, by omega⟩
  have hir := fun (W : World) (hW : Below w.heap.size w W) => inRange_impl W H.Heap x.Heap (s % 32) a K (rdHeap_up h.Heap hW) HSH.out z2 z3
  rw [inRange_live (live_cls z4), if_pos z7, ← z8, hP] at hir
  have hs32 := (handleOk_bd (live_parts z4).1)
  obtain ⟨e1, e2, _, _, _, _⟩ := hs32
  have HP : Hid (storeInP x s a K n = ({ x with Heap := { x.Heap with Bytes := putAt x.Heap.Bytes P (digs K n) } }, 0)) := by
    have := HV.out
    rw [hP] at this
    unfold putN at this
    rw [Int.toNat_natCast, Int.toNat_natCast] at this
    exact this
  have HBL : Hid (P + (strOfNums (digs K n)).size ≤ x.Heap.Bytes.length) := by
    have := strOf_size (k := K) (n := n)
    show _ ≤ _
    omega
  have HTS : Hid ((strOfNums (digs K n)).size ≤ 1000) := by
    have := strOf_size (k := K) (n := n)
    show _ ≤ _
    omega
  have HTE := Hid.mk_ (nums_strOf K n)
  have hte : (strOfNums (digs K n)).toList.isEmpty = false := strOf_isEmpty (by omega)
  rw [hP] at hl
  clear z1 z4 z5 z6 z7 z8 y3 y4 HV hbl hP c1 c2 HL y1 y2
  generalize loadN x.Heap.Bytes (P : Int) K = v at *
  generalize strOfNums (digs K n) = t at *
  have B_a : Box ((w.alloc (.cells #[.slice H.Heap.Bytes.a H.Heap.Bytes.len H.Heap.Bytes.cap, .slice H.Heap.Class.a H.Heap.Class.len H.Heap.Class.cap, .slice H.Lists.Global.a H.Lists.Global.len H.Lists.Global.cap, .slice H.Lists.Own.a H.Lists.Own.len H.Lists.Own.cap] 36)).alloc (.cells #[.slice none 0 0, .slice none 0 0, .slice none 0 0, .slice none 0 0] 36)) (w.heap.size) [.slice H.Heap.Bytes.a H.Heap.Bytes.len H.Heap.Bytes.cap, .slice H.Heap.Class.a H.Heap.Class.len H.Heap.Class.cap, .slice H.Lists.Global.a H.Lists.Global.len H.Lists.Global.cap, .slice H.Lists.Own.a H.Lists.Own.len H.Lists.Own.cap] := by
    have hbx := Box.new w #[.slice H.Heap.Bytes.a H.Heap.Bytes.len H.Heap.Bytes.cap, .slice H.Heap.Class.a H.Heap.Class.len H.Heap.Class.cap, .slice H.Lists.Global.a H.Lists.Global.len H.Lists.Global.cap, .slice H.Lists.Own.a H.Lists.Own.len H.Lists.Own.cap] 36
    exact (hbx).alloc _
  have B_r : Box ((w.alloc (.cells #[.slice H.Heap.Bytes.a H.Heap.Bytes.len H.Heap.Bytes.cap, .slice H.Heap.Class.a H.Heap.Class.len H.Heap.Class.cap, .slice H.Lists.Global.a H.Lists.Global.len H.Lists.Global.cap, .slice H.Lists.Own.a H.Lists.Own.len H.Lists.Own.cap] 36)).alloc (.cells #[.slice none 0 0, .slice none 0 0, .slice none 0 0, .slice none 0 0] 36)) (w.heap.size + 1) [.slice none 0 0, .slice none 0 0, .slice none 0 0, .slice none 0 0] := by
    have hbx := Box.new (w.alloc (.cells #[.slice H.Heap.Bytes.a H.Heap.Bytes.len H.Heap.Bytes.cap, .slice H.Heap.Class.a H.Heap.Class.len H.Heap.Class.cap, .slice H.Lists.Global.a H.Lists.Global.len H.Lists.Global.cap, .slice H.Lists.Own.a H.Lists.Own.len H.Lists.Own.cap] 36)) #[.slice none 0 0, .slice none 0 0, .slice none 0 0, .slice none 0 0] 36
    simp only [World.size_alloc] at hbx
    exact hbx
  have hB : Below w.heap.size w ((w.alloc (.cells #[.slice H.Heap.Bytes.a H.Heap.Bytes.len H.Heap.Bytes.cap, .slice H.Heap.Class.a H.Heap.Class.len H.Heap.Class.cap, .slice H.Lists.Global.a H.Lists.Global.len H.Lists.Global.cap, .slice H.Lists.Own.a H.Lists.Own.len H.Lists.Own.cap] 36)).alloc (.cells #[.slice none 0 0, .slice none 0 0, .slice none 0 0, .slice none 0 0] 36)) := by repeat (first | exact Below.refl _ _ | refine Below.alloc ?_ (by simp <;> omega) _ | refine below_grow_of ?_ (by simp <;> omega) _ _ | refine Below.drew ?_ | refine below_drewN ?_ _)
  go_enter Tryz.func14, Tryz.ntmps14
  go_wp2_with fail
  generalize hW0 : ((w.alloc (.cells #[.slice H.Heap.Bytes.a H.Heap.Bytes.len H.Heap.Bytes.cap, .slice H.Heap.Class.a H.Heap.Class.len H.Heap.Class.cap, .slice H.Lists.Global.a H.Lists.Global.len H.Lists.Global.cap, .slice H.Lists.Own.a H.Lists.Own.len H.Lists.Own.cap] 36)).alloc (.cells #[.slice none 0 0, .slice none 0 0, .slice none 0 0, .slice none 0 0] 36)) = w0 at B_a B_r hB ⊢
  clear hW0
  have zz_a := B_a.lt
  have zz_r := B_r.lt
  have q_a_0 := B_a.cell 0 _ rfl
  have q_a_1 := B_a.cell 1 _ rfl
  have q_a_2 := B_a.cell 2 _ rfl
  have q_a_3 := B_a.cell 3 _ rfl
  have fr_a := B_a.fro
  have z_a := B_a.lt
  have q_r_0 := B_r.cell 0 _ rfl
  have q_r_1 := B_r.cell 1 _ rfl
  have q_r_2 := B_r.cell 2 _ rfl
  have q_r_3 := B_r.cell 3 _ rfl
  have fr_r := B_r.fro
  have z_r := B_r.lt
  refine (copyMem_impl _ H x (rdMem_up h hB) hs).mono ?_
  rintro e w1 ⟨K_c, rfl, o_c, l_c, hb⟩
  have u_c := o_c.lt
  replace B_a := B_a.below hb
  replace B_r := B_r.below hb
  replace hB := hB.trans (hb.mono hB.size)
  have sz := hb.size
  clear hb
  replace q_a_0 := B_a.cell 0 _ rfl
  replace q_a_1 := B_a.cell 1 _ rfl
  replace q_a_2 := B_a.cell 2 _ rfl
  replace q_a_3 := B_a.cell 3 _ rfl
  replace fr_a := B_a.fro
  replace z_a := B_a.lt
  replace q_r_0 := B_r.cell 0 _ rfl
  replace q_r_1 := B_r.cell 1 _ rfl
  replace q_r_2 := B_r.cell 2 _ rfl
  replace q_r_3 := B_r.cell 3 _ rfl
  replace fr_r := B_r.fro
  replace z_r := B_r.lt
  go_wp2_with fail
  refine (hq _).mono ?_
  rintro e w2 ⟨rfl, hb⟩
  replace B_a := B_a.below hb
  replace B_r := B_r.below hb
  have o_c := o_c.step0 hb
  replace hB := hB.trans (hb.mono hB.size)
  have sz := hb.size
  clear hb
  replace q_a_0 := B_a.cell 0 _ rfl
  replace q_a_1 := B_a.cell 1 _ rfl
  replace q_a_2 := B_a.cell 2 _ rfl
  replace q_a_3 := B_a.cell 3 _ rfl
  replace fr_a := B_a.fro
  replace z_a := B_a.lt
  replace q_r_0 := B_r.cell 0 _ rfl
  replace q_r_1 := B_r.cell 1 _ rfl
  replace q_r_2 := B_r.cell 2 _ rfl
  replace q_r_3 := B_r.cell 3 _ rfl
  replace fr_r := B_r.fro
  replace z_r := B_r.lt
  clear hq
  go_wp2_with fail
  refine (hl _ (hB.alloc hB.size _)).mono ?_
  rintro e w3 ⟨rfl, hb⟩
  replace B_a := (B_a.alloc _).below hb
  replace B_r := (B_r.alloc _).below hb
  replace o_c := o_c.step hb
  replace hB := below_step hB hb hB.size
  have sz := hb.size
  simp only [World.size_alloc] at sz
  have B_o := (Box.new w2 #[.slice K_c.Heap.Bytes.a K_c.Heap.Bytes.len K_c.Heap.Bytes.cap, .slice K_c.Heap.Class.a K_c.Heap.Class.len K_c.Heap.Class.cap, .slice K_c.Lists.Global.a K_c.Lists.Global.len K_c.Lists.Global.cap, .slice K_c.Lists.Own.a K_c.Lists.Own.len K_c.Lists.Own.cap] 36).below hb
  have zz_o := B_o.lt
  clear hb
  replace q_a_0 := B_a.cell 0 _ rfl
  replace q_a_1 := B_a.cell 1 _ rfl
  replace q_a_2 := B_a.cell 2 _ rfl
  replace q_a_3 := B_a.cell 3 _ rfl
  replace fr_a := B_a.fro
  replace z_a := B_a.lt
  replace q_r_0 := B_r.cell 0 _ rfl
  replace q_r_1 := B_r.cell 1 _ rfl
  replace q_r_2 := B_r.cell 2 _ rfl
  replace q_r_3 := B_r.cell 3 _ rfl
  replace fr_r := B_r.fro
  replace z_r := B_r.lt
  have q_o_0 := B_o.cell 0 _ rfl
  have q_o_1 := B_o.cell 1 _ rfl
  have q_o_2 := B_o.cell 2 _ rfl
  have q_o_3 := B_o.cell 3 _ rfl
  have fr_o := B_o.fro
  have z_o := B_o.lt
  clear hl
  go_wp2_with fail
  go_region_with (first | (go_at_call 44; (first | ((with_reducible refine (hir _ hB).mono ?_); rintro e wq ⟨rfl, hb⟩; replace B_a := B_a.below hb; replace B_r := B_r.below hb; replace B_o := B_o.below hb; replace o_c := o_c.step0 hb; replace hB := hB.trans (hb.mono hB.size); have sz := hb.size; clear hb; replace q_a_0 := B_a.cell 0 _ rfl; replace q_a_1 := B_a.cell 1 _ rfl; replace q_a_2 := B_a.cell 2 _ rfl; replace q_a_3 := B_a.cell 3 _ rfl; replace fr_a := B_a.fro; replace z_a := B_a.lt; replace q_r_0 := B_r.cell 0 _ rfl; replace q_r_1 := B_r.cell 1 _ rfl; replace q_r_2 := B_r.cell 2 _ rfl; replace q_r_3 := B_r.cell 3 _ rfl; replace fr_r := B_r.fro; replace z_r := B_r.lt; replace q_o_0 := B_o.cell 0 _ rfl; replace q_o_1 := B_o.cell 1 _ rfl; replace q_o_2 := B_o.cell 2 _ rfl; replace q_o_3 := B_o.cell 3 _ rfl; replace fr_o := B_o.fro; replace z_o := B_o.lt) | ((with_reducible refine (hir _ hB.drew).mono ?_); rintro e wq ⟨rfl, hb⟩; replace hb := undrew hb; replace B_a := B_a.below hb; replace B_r := B_r.below hb; replace B_o := B_o.below hb; replace o_c := o_c.step0 hb; replace hB := hB.trans (hb.mono hB.size); have sz := hb.size; clear hb; replace q_a_0 := B_a.cell 0 _ rfl; replace q_a_1 := B_a.cell 1 _ rfl; replace q_a_2 := B_a.cell 2 _ rfl; replace q_a_3 := B_a.cell 3 _ rfl; replace fr_a := B_a.fro; replace z_a := B_a.lt; replace q_r_0 := B_r.cell 0 _ rfl; replace q_r_1 := B_r.cell 1 _ rfl; replace q_r_2 := B_r.cell 2 _ rfl; replace q_r_3 := B_r.cell 3 _ rfl; replace fr_r := B_r.fro; replace z_r := B_r.lt; replace q_o_0 := B_o.cell 0 _ rfl; replace q_o_1 := B_o.cell 1 _ rfl; replace q_o_2 := B_o.cell 2 _ rfl; replace q_o_3 := B_o.cell 3 _ rfl; replace fr_o := B_o.fro; replace z_o := B_o.lt))) | (go_at_call 43; ((with_reducible refine (putNum_impl _ _ _ P t (show OwL FI 3 _ (.slice K_c.Heap.Bytes.a K_c.Heap.Bytes.len K_c.Heap.Bytes.cap) x.Heap.Bytes from o_c.Heap.Bytes) HTS.out HBL.out).mono ?_); rintro e wq ⟨rfl, hbN, hx⟩; replace hB := hB.trans (hx.below hB.size (fun g hm => by have := l_c g (HMem.bytes_foot hm); omega)); have sz := hx.size; replace B_a := B_a.chg hx (fun hm => by have := l_c _ (HMem.bytes_foot hm); have := u_c _ (HMem.bytes_foot hm); omega); replace B_r := B_r.chg hx (fun hm => by have := l_c _ (HMem.bytes_foot hm); have := u_c _ (HMem.bytes_foot hm); omega); replace B_o := B_o.chg hx (fun hm => by have := l_c _ (HMem.bytes_foot hm); have := u_c _ (HMem.bytes_foot hm); omega); replace o_c := (show OwMem _ K_c { x with Heap := { x.Heap with Bytes := putAt x.Heap.Bytes P (nums t) } } from o_c.setBytes hbN hx); clear hx; replace q_a_0 := B_a.cell 0 _ rfl; replace q_a_1 := B_a.cell 1 _ rfl; replace q_a_2 := B_a.cell 2 _ rfl; replace q_a_3 := B_a.cell 3 _ rfl; replace fr_a := B_a.fro; replace z_a := B_a.lt; replace q_r_0 := B_r.cell 0 _ rfl; replace q_r_1 := B_r.cell 1 _ rfl; replace q_r_2 := B_r.cell 2 _ rfl; replace q_r_3 := B_r.cell 3 _ rfl; replace fr_r := B_r.fro; replace z_r := B_r.lt; replace q_o_0 := B_o.cell 0 _ rfl; replace q_o_1 := B_o.cell 1 _ rfl; replace q_o_2 := B_o.cell 2 _ rfl; replace q_o_3 := B_o.cell 3 _ rfl; replace fr_o := B_o.fro; replace z_o := B_o.lt)))
  all_goals
    rw [HTE.out] at o_c
    go_wp2_with fail
    refine bodyPost_ret (v := .tuple #[.agg #[.slice K_c.Heap.Bytes.a K_c.Heap.Bytes.len K_c.Heap.Bytes.cap, .slice K_c.Heap.Class.a K_c.Heap.Class.len K_c.Heap.Class.cap, .slice K_c.Lists.Global.a K_c.Lists.Global.len K_c.Lists.Global.cap, .slice K_c.Lists.Own.a K_c.Lists.Own.len K_c.Lists.Own.cap], .int .i64 0]) (by simp [results, Tryz.results14, go_sem, q_r_0, q_r_1, q_r_2, q_r_3]) rfl ⟨K_c, by rw [HP.out], by rw [HP.out]; exact o_c.chg (F := [w.heap.size + 1]) (by repeat (first | exact Chg.refl _ _ | refine Chg.set_ ?_ (by simp) _ | refine Chg.alloc_ ?_ _ | refine Chg.drew_ ?_)) (fun g hg hm => by simp only [List.mem_cons, List.not_mem_nil, or_false] at hm; have := l_c g hg; have := u_c g hg; omega), fun g hg => by have := l_c g hg; omega, Below.trans hB (by repeat (first | exact Below.refl _ _ | refine Below.setCell ?_ (by simp <;> omega) _ | refine Below.alloc ?_ (by simp <;> omega) _ | refine Below.drew ?_))⟩
end Go.Proofs.YtcligoicoeklfaaGreat
