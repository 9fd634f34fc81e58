/-
  The statement holds: from the walk of the law to its row. Conditions: none.
-/
import Derived.Test.YtkldapdpaldbgaaGreatL
import Derived.Test.YtkldapdpaldbgaaGreatO
import Derived.Lib.SmallJoins
import Derived.Test.YtkldapdpaldbgaaGreatVE
namespace Go.Proofs.YtkldapdpaldbgaaGreat
open Go.ChangeShapes Go.WideShapes Go.ChangeAt Go.RowKit Go.Joins


set_option maxRecDepth 100000 in
theorem opens_Heap : Opens Tryz.prog 46 fun W cs => ∃ (K : HHeap) (x : Heap), cs = [.slice K.Bytes.a K.Bytes.len K.Bytes.cap, .slice K.Class.a K.Class.len K.Class.cap] ∧ RdHeap W W.heap.size K x := by
  intro H enc W base spare held fuel cs x hh
  obtain ⟨xs, n, _, _, hl, hxs, hg⟩ := DataW.trod_struct Tryz.underlying46 hh
  have hc : Tryz.prog.cellsOf 46 = 2 := by kernel_rfl
  have hxs' : xs.length = 2 := hxs
  rw [hc] at hl
  clear hh
  match cs, hl with
  | [c0, c1], _ =>
  have hc0 : Tryz.prog.cellsOf 24 = 1 := by kernel_rfl
  obtain ⟨y0, e0⟩ : ∃ y, xs[0]? = some y := ⟨_, List.getElem?_eq_getElem (by omega)⟩
  have g0 : DataW.trod enc Tryz.prog W base spare held n 24 (([c0, c1].drop 0).take (Tryz.prog.cellsOf 24)) = xs[0]? := hg 0 _ rfl
  rw [e0, hc0] at g0
  have hc1 : Tryz.prog.cellsOf 24 = 1 := by kernel_rfl
  obtain ⟨y1, e1⟩ : ∃ y, xs[1]? = some y := ⟨_, List.getElem?_eq_getElem (by omega)⟩
  have g1 : DataW.trod enc Tryz.prog W base spare held n 24 (([c0, c1].drop 1).take (Tryz.prog.cellsOf 24)) = xs[1]? := hg 1 _ rfl
  rw [e1, hc1] at g1
  obtain ⟨v0, l0, q0, r0⟩ := (opens_flat (T := FI) Tryz.underlying24 (by kernel_rfl) (fun H enc W base spare held fuel cs x hh => by obtain ⟨n, hn, _⟩ := opens_int Tryz.underlying3 H enc W base spare held fuel cs x hh; exact ⟨n, hn⟩)) H enc W base spare held n _ _ g0
  obtain rfl : c0 = v0 := by simpa using q0
  obtain ⟨A0, p0, hv0, _⟩ := id r0
  subst hv0
  clear g0
  obtain ⟨v1, l1, q1, r1⟩ := (opens_flat (T := FI) Tryz.underlying24 (by kernel_rfl) (fun H enc W base spare held fuel cs x hh => by obtain ⟨n, hn, _⟩ := opens_int Tryz.underlying3 H enc W base spare held fuel cs x hh; exact ⟨n, hn⟩)) H enc W base spare held n _ _ g1
  obtain rfl : c1 = v1 := by simpa using q1
  obtain ⟨A1, p1, hv1, _⟩ := id r1
  subst hv1
  clear g1
  exact ⟨⟨⟨A0, l0.length, p0⟩, ⟨A1, l1.length, p1⟩⟩, ⟨l0, l1⟩, rfl, ⟨r0, r1⟩⟩

set_option maxRecDepth 100000 in
theorem opens_SList : Opens Tryz.prog 287 fun W cs => ∃ v l, cs = [v] ∧ RdL FI W W.heap.size v l := by
  intro H enc W base spare held fuel cs x hh
  obtain ⟨xs, n, _, _, hl, hxs, hg⟩ := DataW.trod_struct Tryz.underlying287 hh
  have hc : Tryz.prog.cellsOf 287 = 1 := by kernel_rfl
  have hxs' : xs.length = 1 := hxs
  rw [hc] at hl
  clear hh
  match cs, hl with
  | [c0], _ =>
  have hc0 : Tryz.prog.cellsOf 24 = 1 := by kernel_rfl
  obtain ⟨y0, e0⟩ : ∃ y, xs[0]? = some y := ⟨_, List.getElem?_eq_getElem (by omega)⟩
  have g0 : DataW.trod enc Tryz.prog W base spare held n 24 (([c0].drop 0).take (Tryz.prog.cellsOf 24)) = xs[0]? := hg 0 _ rfl
  rw [e0, hc0] at g0
  exact (opens_flat (T := FI) Tryz.underlying24 (by kernel_rfl) (fun H enc W base spare held fuel cs x hh => by obtain ⟨n, hn, _⟩ := opens_int Tryz.underlying3 H enc W base spare held fuel cs x hh; exact ⟨n, hn⟩)) H enc W base spare held n _ _ g0
theorem opens_SListS : Opens Tryz.prog 47 fun W cs => ∃ v svs ll, cs = [v] ∧ RdLL FI W W.heap.size v svs ll := opens_nested Tryz.underlying47 (by kernel_rfl) opens_SList

set_option maxRecDepth 100000 in
theorem opens_Lists : Opens Tryz.prog 49 fun W cs => ∃ (K : HLists) (x : Lists), cs = [.slice K.Global.a K.Global.len K.Global.cap, .slice K.Own.a K.Own.len K.Own.cap] ∧ RdLists W W.heap.size K x := by
  intro H enc W base spare held fuel cs x hh
  obtain ⟨xs, n, _, _, hl, hxs, hg⟩ := DataW.trod_struct Tryz.underlying49 hh
  have hc : Tryz.prog.cellsOf 49 = 2 := by kernel_rfl
  have hxs' : xs.length = 2 := hxs
  rw [hc] at hl
  clear hh
  match cs, hl with
  | [c0, c1], _ =>
  have hc0 : Tryz.prog.cellsOf 47 = 1 := by kernel_rfl
  obtain ⟨y0, e0⟩ : ∃ y, xs[0]? = some y := ⟨_, List.getElem?_eq_getElem (by omega)⟩
  have g0 : DataW.trod enc Tryz.prog W base spare held n 47 (([c0, c1].drop 0).take (Tryz.prog.cellsOf 47)) = xs[0]? := hg 0 _ rfl
  rw [e0, hc0] at g0
  have hc1 : Tryz.prog.cellsOf 47 = 1 := by kernel_rfl
  obtain ⟨y1, e1⟩ : ∃ y, xs[1]? = some y := ⟨_, List.getElem?_eq_getElem (by omega)⟩
  have g1 : DataW.trod enc Tryz.prog W base spare held n 47 (([c0, c1].drop 1).take (Tryz.prog.cellsOf 47)) = xs[1]? := hg 1 _ rfl
  rw [e1, hc1] at g1
  obtain ⟨v0, t0, l0, q0, r0⟩ := opens_SListS H enc W base spare held n _ _ g0
  obtain rfl : c0 = v0 := by simpa using q0
  obtain ⟨A0, p0, hv0, _⟩ := id r0.outer
  subst hv0
  clear g0
  obtain ⟨v1, t1, l1, q1, r1⟩ := opens_SListS H enc W base spare held n _ _ g1
  obtain rfl : c1 = v1 := by simpa using q1
  obtain ⟨A1, p1, hv1, _⟩ := id r1.outer
  subst hv1
  clear g1
  exact ⟨⟨⟨A0, t0.length, p0⟩, t0, ⟨A1, t1.length, p1⟩, t1⟩, ⟨l0, l1⟩, rfl, ⟨r0, r1⟩⟩

set_option maxRecDepth 100000 in
theorem opens_Mem : Opens Tryz.prog 51 fun W cs => ∃ (K : HMem) (x : Mem), cs = [.slice K.Heap.Bytes.a K.Heap.Bytes.len K.Heap.Bytes.cap, .slice K.Heap.Class.a K.Heap.Class.len K.Heap.Class.cap, .slice K.Lists.Global.a K.Lists.Global.len K.Lists.Global.cap, .slice K.Lists.Own.a K.Lists.Own.len K.Lists.Own.cap] ∧ RdMem W W.heap.size K x := by
  intro H enc W base spare held fuel cs x hh
  obtain ⟨xs, n, _, _, hl, hxs, hg⟩ := DataW.trod_struct Tryz.underlying51 hh
  have hc : Tryz.prog.cellsOf 51 = 4 := by kernel_rfl
  have hxs' : xs.length = 2 := hxs
  rw [hc] at hl
  clear hh
  match cs, hl with
  | [c0, c1, c2, c3], _ =>
  have hc0 : Tryz.prog.cellsOf 46 = 2 := by kernel_rfl
  obtain ⟨y0, e0⟩ : ∃ y, xs[0]? = some y := ⟨_, List.getElem?_eq_getElem (by omega)⟩
  have g0 : DataW.trod enc Tryz.prog W base spare held n 46 (([c0, c1, c2, c3].drop 0).take (Tryz.prog.cellsOf 46)) = xs[0]? := hg 0 _ rfl
  rw [e0, hc0] at g0
  have hc1 : Tryz.prog.cellsOf 49 = 2 := by kernel_rfl
  obtain ⟨y1, e1⟩ : ∃ y, xs[1]? = some y := ⟨_, List.getElem?_eq_getElem (by omega)⟩
  have g1 : DataW.trod enc Tryz.prog W base spare held n 49 (([c0, c1, c2, c3].drop 2).take (Tryz.prog.cellsOf 49)) = xs[1]? := hg 1 _ rfl
  rw [e1, hc1] at g1
  obtain ⟨K0, x0, q0, r0⟩ := opens_Heap H enc W base spare held n _ _ g0
  simp at q0
  obtain ⟨rfl, rfl⟩ := q0
  clear g0
  obtain ⟨K1, x1, q1, r1⟩ := opens_Lists H enc W base spare held n _ _ g1
  simp at q1
  obtain ⟨rfl, rfl⟩ := q1
  clear g1
  exact ⟨⟨K0, K1⟩, ⟨x0, x1⟩, rfl, ⟨r0, r1⟩⟩

set_option maxRecDepth 100000 in
theorem opens_Pin : Opens Tryz.prog 256 fun _ cs => ∃ y : Pin, cs = FPin.enc y := by
  intro H enc W base spare held fuel cs x hh
  obtain ⟨xs, n, _, _, hl, hxs, hg⟩ := DataW.trod_struct Tryz.underlying256 hh
  have hc : Tryz.prog.cellsOf 256 = 4 := by kernel_rfl
  have hxs' : xs.length = 4 := hxs
  rw [hc] at hl
  clear hh
  match cs, hl with
  | [c0, c1, c2, c3], _ =>
  have hc_b : Tryz.prog.cellsOf 4 = 1 := by kernel_rfl
  have hc_i : Tryz.prog.cellsOf 3 = 1 := by kernel_rfl
  obtain ⟨y0, e0⟩ : ∃ y, xs[0]? = some y := ⟨_, List.getElem?_eq_getElem (by omega)⟩
  have g0 : DataW.trod enc Tryz.prog W base spare held n 4 (([c0, c1, c2, c3].drop 0).take (Tryz.prog.cellsOf 4)) = xs[0]? := hg 0 _ rfl
  rw [e0, hc_b] at g0
  obtain ⟨y1, e1⟩ : ∃ y, xs[1]? = some y := ⟨_, List.getElem?_eq_getElem (by omega)⟩
  have g1 : DataW.trod enc Tryz.prog W base spare held n 3 (([c0, c1, c2, c3].drop 1).take (Tryz.prog.cellsOf 3)) = xs[1]? := hg 1 _ rfl
  rw [e1, hc_i] at g1
  obtain ⟨y2, e2⟩ : ∃ y, xs[2]? = some y := ⟨_, List.getElem?_eq_getElem (by omega)⟩
  have g2 : DataW.trod enc Tryz.prog W base spare held n 4 (([c0, c1, c2, c3].drop 2).take (Tryz.prog.cellsOf 4)) = xs[2]? := hg 2 _ rfl
  rw [e2, hc_b] at g2
  obtain ⟨y3, e3⟩ : ∃ y, xs[3]? = some y := ⟨_, List.getElem?_eq_getElem (by omega)⟩
  have g3 : DataW.trod enc Tryz.prog W base spare held n 3 (([c0, c1, c2, c3].drop 3).take (Tryz.prog.cellsOf 3)) = xs[3]? := hg 3 _ rfl
  rw [e3, hc_i] at g3
  obtain ⟨z0, q0⟩ := opens_bool Tryz.underlying4 H enc W base spare held n _ _ g0
  clear g0
  obtain rfl : c0 = .bool z0 := by simpa using q0
  obtain ⟨z1, q1, _⟩ := opens_int Tryz.underlying3 H enc W base spare held n _ _ g1
  clear g1
  obtain rfl : c1 = .int .i64 z1 := by simpa using q1
  obtain ⟨z2, q2⟩ := opens_bool Tryz.underlying4 H enc W base spare held n _ _ g2
  clear g2
  obtain rfl : c2 = .bool z2 := by simpa using q2
  obtain ⟨z3, q3, _⟩ := opens_int Tryz.underlying3 H enc W base spare held n _ _ g3
  clear g3
  obtain rfl : c3 = .int .i64 z3 := by simpa using q3
  exact ⟨⟨z0, z1, z2, z3⟩, rfl⟩

set_option maxRecDepth 100000 in
theorem opens_Clock : Opens Tryz.prog 54 fun W cs => ∃ (K : HClock) (x : Clock), cs = [.int .i64 x.Epoch, .slice K.Pins.a K.Pins.len K.Pins.cap] ∧ RdClock W W.heap.size K x := by
  intro H enc W base spare held fuel cs x hh
  obtain ⟨xs, n, _, _, hl, hxs, hg⟩ := DataW.trod_struct Tryz.underlying54 hh
  have hc : Tryz.prog.cellsOf 54 = 2 := by kernel_rfl
  have hxs' : xs.length = 2 := hxs
  rw [hc] at hl
  clear hh
  match cs, hl with
  | [c0, c1], _ =>
  have hc0 : Tryz.prog.cellsOf 3 = 1 := by kernel_rfl
  obtain ⟨y0, e0⟩ : ∃ y, xs[0]? = some y := ⟨_, List.getElem?_eq_getElem (by omega)⟩
  have g0 : DataW.trod enc Tryz.prog W base spare held n 3 (([c0, c1].drop 0).take (Tryz.prog.cellsOf 3)) = xs[0]? := hg 0 _ rfl
  rw [e0, hc0] at g0
  have hc1 : Tryz.prog.cellsOf 52 = 1 := by kernel_rfl
  obtain ⟨y1, e1⟩ : ∃ y, xs[1]? = some y := ⟨_, List.getElem?_eq_getElem (by omega)⟩
  have g1 : DataW.trod enc Tryz.prog W base spare held n 52 (([c0, c1].drop 1).take (Tryz.prog.cellsOf 52)) = xs[1]? := hg 1 _ rfl
  rw [e1, hc1] at g1
  obtain ⟨z0, q0, _⟩ := opens_int Tryz.underlying3 H enc W base spare held n _ _ g0
  obtain rfl : c0 = .int .i64 z0 := by simpa using q0
  clear g0
  obtain ⟨v1, l1, q1, r1⟩ := (opens_flat (T := FPin) Tryz.underlying52 (by kernel_rfl) opens_Pin) H enc W base spare held n _ _ g1
  obtain rfl : c1 = v1 := by simpa using q1
  obtain ⟨A1, p1, hv1, _⟩ := id r1
  subst hv1
  clear g1
  exact ⟨⟨⟨A1, l1.length, p1⟩⟩, ⟨z0, l1⟩, rfl, ⟨r1⟩⟩

set_option maxRecDepth 100000 in
theorem opens_LRow : Opens Tryz.prog 290 fun _ cs => ∃ y : LRow, cs = FLRow.enc y := by
  intro H enc W base spare held fuel cs x hh
  obtain ⟨xs, n, _, _, hl, hxs, hg⟩ := DataW.trod_struct Tryz.underlying290 hh
  have hc : Tryz.prog.cellsOf 290 = 2 := by kernel_rfl
  have hxs' : xs.length = 2 := hxs
  rw [hc] at hl
  clear hh
  match cs, hl with
  | [c0, c1], _ =>
  have hc_i : Tryz.prog.cellsOf 3 = 1 := by kernel_rfl
  obtain ⟨y0, e0⟩ : ∃ y, xs[0]? = some y := ⟨_, List.getElem?_eq_getElem (by omega)⟩
  have g0 : DataW.trod enc Tryz.prog W base spare held n 3 (([c0, c1].drop 0).take (Tryz.prog.cellsOf 3)) = xs[0]? := hg 0 _ rfl
  rw [e0, hc_i] at g0
  obtain ⟨y1, e1⟩ : ∃ y, xs[1]? = some y := ⟨_, List.getElem?_eq_getElem (by omega)⟩
  have g1 : DataW.trod enc Tryz.prog W base spare held n 3 (([c0, c1].drop 1).take (Tryz.prog.cellsOf 3)) = xs[1]? := hg 1 _ rfl
  rw [e1, hc_i] at g1
  obtain ⟨z0, q0, _⟩ := opens_int Tryz.underlying3 H enc W base spare held n _ _ g0
  clear g0
  obtain rfl : c0 = .int .i64 z0 := by simpa using q0
  obtain ⟨z1, q1, _⟩ := opens_int Tryz.underlying3 H enc W base spare held n _ _ g1
  clear g1
  obtain rfl : c1 = .int .i64 z1 := by simpa using q1
  exact ⟨⟨z0, z1⟩, rfl⟩

set_option maxRecDepth 100000 in
theorem opens_LList : Opens Tryz.prog 199 fun W cs => ∃ v l, cs = [v] ∧ RdL FLRow W W.heap.size v l := by
  intro H enc W base spare held fuel cs x hh
  obtain ⟨xs, n, _, _, hl, hxs, hg⟩ := DataW.trod_struct Tryz.underlying199 hh
  have hc : Tryz.prog.cellsOf 199 = 1 := by kernel_rfl
  have hxs' : xs.length = 1 := hxs
  rw [hc] at hl
  clear hh
  match cs, hl with
  | [c0], _ =>
  have hc0 : Tryz.prog.cellsOf 197 = 1 := by kernel_rfl
  obtain ⟨y0, e0⟩ : ∃ y, xs[0]? = some y := ⟨_, List.getElem?_eq_getElem (by omega)⟩
  have g0 : DataW.trod enc Tryz.prog W base spare held n 197 (([c0].drop 0).take (Tryz.prog.cellsOf 197)) = xs[0]? := hg 0 _ rfl
  rw [e0, hc0] at g0
  exact (opens_flat (T := FLRow) Tryz.underlying197 (by kernel_rfl) opens_LRow) H enc W base spare held n _ _ g0
theorem opens_LListS : Opens Tryz.prog 55 fun W cs => ∃ v svs ll, cs = [v] ∧ RdLL FLRow W W.heap.size v svs ll := opens_nested Tryz.underlying55 (by kernel_rfl) opens_LList

set_option maxRecDepth 100000 in
theorem opens_Base : Opens Tryz.prog 57 fun W cs => ∃ (K : HBase) (x : Base), cs = [.slice K.Mem.Heap.Bytes.a K.Mem.Heap.Bytes.len K.Mem.Heap.Bytes.cap, .slice K.Mem.Heap.Class.a K.Mem.Heap.Class.len K.Mem.Heap.Class.cap, .slice K.Mem.Lists.Global.a K.Mem.Lists.Global.len K.Mem.Lists.Global.cap, .slice K.Mem.Lists.Own.a K.Mem.Lists.Own.len K.Mem.Lists.Own.cap, .int .i64 x.Clock.Epoch, .slice K.Clock.Pins.a K.Clock.Pins.len K.Clock.Pins.cap, .slice K.Limbo.a K.Limbo.len K.Limbo.cap, .slice K.Haz.a K.Haz.len K.Haz.cap] ∧ RdBase W W.heap.size K x := by
  intro H enc W base spare held fuel cs x hh
  obtain ⟨xs, n, _, _, hl, hxs, hg⟩ := DataW.trod_struct Tryz.underlying57 hh
  have hc : Tryz.prog.cellsOf 57 = 8 := by kernel_rfl
  have hxs' : xs.length = 4 := hxs
  rw [hc] at hl
  clear hh
  match cs, hl with
  | [c0, c1, c2, c3, c4, c5, c6, c7], _ =>
  have hc0 : Tryz.prog.cellsOf 51 = 4 := by kernel_rfl
  obtain ⟨y0, e0⟩ : ∃ y, xs[0]? = some y := ⟨_, List.getElem?_eq_getElem (by omega)⟩
  have g0 : DataW.trod enc Tryz.prog W base spare held n 51 (([c0, c1, c2, c3, c4, c5, c6, c7].drop 0).take (Tryz.prog.cellsOf 51)) = xs[0]? := hg 0 _ rfl
  rw [e0, hc0] at g0
  have hc1 : Tryz.prog.cellsOf 54 = 2 := by kernel_rfl
  obtain ⟨y1, e1⟩ : ∃ y, xs[1]? = some y := ⟨_, List.getElem?_eq_getElem (by omega)⟩
  have g1 : DataW.trod enc Tryz.prog W base spare held n 54 (([c0, c1, c2, c3, c4, c5, c6, c7].drop 4).take (Tryz.prog.cellsOf 54)) = xs[1]? := hg 1 _ rfl
  rw [e1, hc1] at g1
  have hc2 : Tryz.prog.cellsOf 55 = 1 := by kernel_rfl
  obtain ⟨y2, e2⟩ : ∃ y, xs[2]? = some y := ⟨_, List.getElem?_eq_getElem (by omega)⟩
  have g2 : DataW.trod enc Tryz.prog W base spare held n 55 (([c0, c1, c2, c3, c4, c5, c6, c7].drop 6).take (Tryz.prog.cellsOf 55)) = xs[2]? := hg 2 _ rfl
  rw [e2, hc2] at g2
  have hc3 : Tryz.prog.cellsOf 24 = 1 := by kernel_rfl
  obtain ⟨y3, e3⟩ : ∃ y, xs[3]? = some y := ⟨_, List.getElem?_eq_getElem (by omega)⟩
  have g3 : DataW.trod enc Tryz.prog W base spare held n 24 (([c0, c1, c2, c3, c4, c5, c6, c7].drop 7).take (Tryz.prog.cellsOf 24)) = xs[3]? := hg 3 _ rfl
  rw [e3, hc3] at g3
  obtain ⟨K0, x0, q0, r0⟩ := opens_Mem H enc W base spare held n _ _ g0
  simp at q0
  obtain ⟨rfl, rfl, rfl, rfl⟩ := q0
  clear g0
  obtain ⟨K1, x1, q1, r1⟩ := opens_Clock H enc W base spare held n _ _ g1
  simp at q1
  obtain ⟨rfl, rfl⟩ := q1
  clear g1
  obtain ⟨v2, t2, l2, q2, r2⟩ := opens_LListS H enc W base spare held n _ _ g2
  obtain rfl : c6 = v2 := by simpa using q2
  obtain ⟨A2, p2, hv2, _⟩ := id r2.outer
  subst hv2
  clear g2
  obtain ⟨v3, l3, q3, r3⟩ := (opens_flat (T := FI) Tryz.underlying24 (by kernel_rfl) (fun H enc W base spare held fuel cs x hh => by obtain ⟨n, hn, _⟩ := opens_int Tryz.underlying3 H enc W base spare held fuel cs x hh; exact ⟨n, hn⟩)) H enc W base spare held n _ _ g3
  obtain rfl : c7 = v3 := by simpa using q3
  obtain ⟨A3, p3, hv3, _⟩ := id r3
  subst hv3
  clear g3
  exact ⟨⟨K0, K1, ⟨A2, t2.length, p2⟩, t2, ⟨A3, l3.length, p3⟩⟩, ⟨x0, x1, l2, l3⟩, rfl, ⟨r0, r1, r2, r3⟩⟩

set_option maxRecDepth 100000 in
theorem opens_Op : Opens Tryz.prog 176 fun _ cs => ∃ y : Op, cs = FOp.enc y := by
  intro H enc W base spare held fuel cs x hh
  obtain ⟨xs, n, _, _, hl, hxs, hg⟩ := DataW.trod_struct Tryz.underlying176 hh
  have hc : Tryz.prog.cellsOf 176 = 4 := by kernel_rfl
  have hxs' : xs.length = 4 := hxs
  rw [hc] at hl
  clear hh
  match cs, hl with
  | [c0, c1, c2, c3], _ =>
  have hc_i : Tryz.prog.cellsOf 3 = 1 := by kernel_rfl
  obtain ⟨y0, e0⟩ : ∃ y, xs[0]? = some y := ⟨_, List.getElem?_eq_getElem (by omega)⟩
  have g0 : DataW.trod enc Tryz.prog W base spare held n 3 (([c0, c1, c2, c3].drop 0).take (Tryz.prog.cellsOf 3)) = xs[0]? := hg 0 _ rfl
  rw [e0, hc_i] at g0
  obtain ⟨y1, e1⟩ : ∃ y, xs[1]? = some y := ⟨_, List.getElem?_eq_getElem (by omega)⟩
  have g1 : DataW.trod enc Tryz.prog W base spare held n 3 (([c0, c1, c2, c3].drop 1).take (Tryz.prog.cellsOf 3)) = xs[1]? := hg 1 _ rfl
  rw [e1, hc_i] at g1
  obtain ⟨y2, e2⟩ : ∃ y, xs[2]? = some y := ⟨_, List.getElem?_eq_getElem (by omega)⟩
  have g2 : DataW.trod enc Tryz.prog W base spare held n 3 (([c0, c1, c2, c3].drop 2).take (Tryz.prog.cellsOf 3)) = xs[2]? := hg 2 _ rfl
  rw [e2, hc_i] at g2
  obtain ⟨y3, e3⟩ : ∃ y, xs[3]? = some y := ⟨_, List.getElem?_eq_getElem (by omega)⟩
  have g3 : DataW.trod enc Tryz.prog W base spare held n 3 (([c0, c1, c2, c3].drop 3).take (Tryz.prog.cellsOf 3)) = xs[3]? := hg 3 _ rfl
  rw [e3, hc_i] at g3
  obtain ⟨z0, q0, _⟩ := opens_int Tryz.underlying3 H enc W base spare held n _ _ g0
  clear g0
  obtain rfl : c0 = .int .i64 z0 := by simpa using q0
  obtain ⟨z1, q1, _⟩ := opens_int Tryz.underlying3 H enc W base spare held n _ _ g1
  clear g1
  obtain rfl : c1 = .int .i64 z1 := by simpa using q1
  obtain ⟨z2, q2, _⟩ := opens_int Tryz.underlying3 H enc W base spare held n _ _ g2
  clear g2
  obtain rfl : c2 = .int .i64 z2 := by simpa using q2
  obtain ⟨z3, q3, _⟩ := opens_int Tryz.underlying3 H enc W base spare held n _ _ g3
  clear g3
  obtain rfl : c3 = .int .i64 z3 := by simpa using q3
  exact ⟨⟨z0, z1, z2, z3⟩, rfl⟩

set_option maxRecDepth 100000 in
theorem opens_Queue : Opens Tryz.prog 172 fun W cs => ∃ v l, cs = [v] ∧ RdL FOp W W.heap.size v l := by
  intro H enc W base spare held fuel cs x hh
  obtain ⟨xs, n, _, _, hl, hxs, hg⟩ := DataW.trod_struct Tryz.underlying172 hh
  have hc : Tryz.prog.cellsOf 172 = 1 := by kernel_rfl
  have hxs' : xs.length = 1 := hxs
  rw [hc] at hl
  clear hh
  match cs, hl with
  | [c0], _ =>
  have hc0 : Tryz.prog.cellsOf 170 = 1 := by kernel_rfl
  obtain ⟨y0, e0⟩ : ∃ y, xs[0]? = some y := ⟨_, List.getElem?_eq_getElem (by omega)⟩
  have g0 : DataW.trod enc Tryz.prog W base spare held n 170 (([c0].drop 0).take (Tryz.prog.cellsOf 170)) = xs[0]? := hg 0 _ rfl
  rw [e0, hc0] at g0
  exact (opens_flat (T := FOp) Tryz.underlying170 (by kernel_rfl) opens_Op) H enc W base spare held n _ _ g0
theorem opens_QueueS : Opens Tryz.prog 59 fun W cs => ∃ v svs ll, cs = [v] ∧ RdLL FOp W W.heap.size v svs ll := opens_nested Tryz.underlying59 (by kernel_rfl) opens_Queue

set_option maxRecDepth 100000 in
theorem opens_Sub : Opens Tryz.prog 177 fun _ cs => ∃ y : Sub, cs = FSub.enc y := by
  intro H enc W base spare held fuel cs x hh
  obtain ⟨xs, n, _, _, hl, hxs, hg⟩ := DataW.trod_struct Tryz.underlying177 hh
  have hc : Tryz.prog.cellsOf 177 = 10 := by kernel_rfl
  have hxs' : xs.length = 10 := hxs
  rw [hc] at hl
  clear hh
  match cs, hl with
  | [c0, c1, c2, c3, c4, c5, c6, c7, c8, c9], _ =>
  have hc_b : Tryz.prog.cellsOf 4 = 1 := by kernel_rfl
  have hc_i : Tryz.prog.cellsOf 3 = 1 := by kernel_rfl
  obtain ⟨y0, e0⟩ : ∃ y, xs[0]? = some y := ⟨_, List.getElem?_eq_getElem (by omega)⟩
  have g0 : DataW.trod enc Tryz.prog W base spare held n 3 (([c0, c1, c2, c3, c4, c5, c6, c7, c8, c9].drop 0).take (Tryz.prog.cellsOf 3)) = xs[0]? := hg 0 _ rfl
  rw [e0, hc_i] at g0
  obtain ⟨y1, e1⟩ : ∃ y, xs[1]? = some y := ⟨_, List.getElem?_eq_getElem (by omega)⟩
  have g1 : DataW.trod enc Tryz.prog W base spare held n 3 (([c0, c1, c2, c3, c4, c5, c6, c7, c8, c9].drop 1).take (Tryz.prog.cellsOf 3)) = xs[1]? := hg 1 _ rfl
  rw [e1, hc_i] at g1
  obtain ⟨y2, e2⟩ : ∃ y, xs[2]? = some y := ⟨_, List.getElem?_eq_getElem (by omega)⟩
  have g2 : DataW.trod enc Tryz.prog W base spare held n 3 (([c0, c1, c2, c3, c4, c5, c6, c7, c8, c9].drop 2).take (Tryz.prog.cellsOf 3)) = xs[2]? := hg 2 _ rfl
  rw [e2, hc_i] at g2
  obtain ⟨y3, e3⟩ : ∃ y, xs[3]? = some y := ⟨_, List.getElem?_eq_getElem (by omega)⟩
  have g3 : DataW.trod enc Tryz.prog W base spare held n 3 (([c0, c1, c2, c3, c4, c5, c6, c7, c8, c9].drop 3).take (Tryz.prog.cellsOf 3)) = xs[3]? := hg 3 _ rfl
  rw [e3, hc_i] at g3
  obtain ⟨y4, e4⟩ : ∃ y, xs[4]? = some y := ⟨_, List.getElem?_eq_getElem (by omega)⟩
  have g4 : DataW.trod enc Tryz.prog W base spare held n 3 (([c0, c1, c2, c3, c4, c5, c6, c7, c8, c9].drop 4).take (Tryz.prog.cellsOf 3)) = xs[4]? := hg 4 _ rfl
  rw [e4, hc_i] at g4
  obtain ⟨y5, e5⟩ : ∃ y, xs[5]? = some y := ⟨_, List.getElem?_eq_getElem (by omega)⟩
  have g5 : DataW.trod enc Tryz.prog W base spare held n 3 (([c0, c1, c2, c3, c4, c5, c6, c7, c8, c9].drop 5).take (Tryz.prog.cellsOf 3)) = xs[5]? := hg 5 _ rfl
  rw [e5, hc_i] at g5
  obtain ⟨y6, e6⟩ : ∃ y, xs[6]? = some y := ⟨_, List.getElem?_eq_getElem (by omega)⟩
  have g6 : DataW.trod enc Tryz.prog W base spare held n 3 (([c0, c1, c2, c3, c4, c5, c6, c7, c8, c9].drop 6).take (Tryz.prog.cellsOf 3)) = xs[6]? := hg 6 _ rfl
  rw [e6, hc_i] at g6
  obtain ⟨y7, e7⟩ : ∃ y, xs[7]? = some y := ⟨_, List.getElem?_eq_getElem (by omega)⟩
  have g7 : DataW.trod enc Tryz.prog W base spare held n 3 (([c0, c1, c2, c3, c4, c5, c6, c7, c8, c9].drop 7).take (Tryz.prog.cellsOf 3)) = xs[7]? := hg 7 _ rfl
  rw [e7, hc_i] at g7
  obtain ⟨y8, e8⟩ : ∃ y, xs[8]? = some y := ⟨_, List.getElem?_eq_getElem (by omega)⟩
  have g8 : DataW.trod enc Tryz.prog W base spare held n 3 (([c0, c1, c2, c3, c4, c5, c6, c7, c8, c9].drop 8).take (Tryz.prog.cellsOf 3)) = xs[8]? := hg 8 _ rfl
  rw [e8, hc_i] at g8
  obtain ⟨y9, e9⟩ : ∃ y, xs[9]? = some y := ⟨_, List.getElem?_eq_getElem (by omega)⟩
  have g9 : DataW.trod enc Tryz.prog W base spare held n 4 (([c0, c1, c2, c3, c4, c5, c6, c7, c8, c9].drop 9).take (Tryz.prog.cellsOf 4)) = xs[9]? := hg 9 _ rfl
  rw [e9, hc_b] at g9
  obtain ⟨z0, q0, _⟩ := opens_int Tryz.underlying3 H enc W base spare held n _ _ g0
  clear g0
  obtain rfl : c0 = .int .i64 z0 := by simpa using q0
  obtain ⟨z1, q1, _⟩ := opens_int Tryz.underlying3 H enc W base spare held n _ _ g1
  clear g1
  obtain rfl : c1 = .int .i64 z1 := by simpa using q1
  obtain ⟨z2, q2, _⟩ := opens_int Tryz.underlying3 H enc W base spare held n _ _ g2
  clear g2
  obtain rfl : c2 = .int .i64 z2 := by simpa using q2
  obtain ⟨z3, q3, _⟩ := opens_int Tryz.underlying3 H enc W base spare held n _ _ g3
  clear g3
  obtain rfl : c3 = .int .i64 z3 := by simpa using q3
  obtain ⟨z4, q4, _⟩ := opens_int Tryz.underlying3 H enc W base spare held n _ _ g4
  clear g4
  obtain rfl : c4 = .int .i64 z4 := by simpa using q4
  obtain ⟨z5, q5, _⟩ := opens_int Tryz.underlying3 H enc W base spare held n _ _ g5
  clear g5
  obtain rfl : c5 = .int .i64 z5 := by simpa using q5
  obtain ⟨z6, q6, _⟩ := opens_int Tryz.underlying3 H enc W base spare held n _ _ g6
  clear g6
  obtain rfl : c6 = .int .i64 z6 := by simpa using q6
  obtain ⟨z7, q7, _⟩ := opens_int Tryz.underlying3 H enc W base spare held n _ _ g7
  clear g7
  obtain rfl : c7 = .int .i64 z7 := by simpa using q7
  obtain ⟨z8, q8, _⟩ := opens_int Tryz.underlying3 H enc W base spare held n _ _ g8
  clear g8
  obtain rfl : c8 = .int .i64 z8 := by simpa using q8
  obtain ⟨z9, q9⟩ := opens_bool Tryz.underlying4 H enc W base spare held n _ _ g9
  clear g9
  obtain rfl : c9 = .bool z9 := by simpa using q9
  exact ⟨⟨z0, z1, z2, z3, z4, z5, z6, z7, z8, z9⟩, rfl⟩

set_option maxRecDepth 100000 in
theorem opens_Job : Opens Tryz.prog 179 fun _ cs => ∃ y : Job, cs = FJob.enc y := by
  intro H enc W base spare held fuel cs x hh
  obtain ⟨xs, n, _, _, hl, hxs, hg⟩ := DataW.trod_struct Tryz.underlying179 hh
  have hc : Tryz.prog.cellsOf 179 = 21 := by kernel_rfl
  have hxs' : xs.length = 9 := hxs
  rw [hc] at hl
  clear hh
  match cs, hl with
  | [c0, c1, c2, c3, c4, c5, c6, c7, c8, c9, c10, c11, c12, c13, c14, c15, c16, c17, c18, c19, c20], _ =>
  have hc_Op : Tryz.prog.cellsOf 176 = 4 := by kernel_rfl
  have hc_Sub : Tryz.prog.cellsOf 177 = 10 := by kernel_rfl
  have hc_b : Tryz.prog.cellsOf 4 = 1 := by kernel_rfl
  have hc_i : Tryz.prog.cellsOf 3 = 1 := by kernel_rfl
  obtain ⟨y0, e0⟩ : ∃ y, xs[0]? = some y := ⟨_, List.getElem?_eq_getElem (by omega)⟩
  have g0 : DataW.trod enc Tryz.prog W base spare held n 4 (([c0, c1, c2, c3, c4, c5, c6, c7, c8, c9, c10, c11, c12, c13, c14, c15, c16, c17, c18, c19, c20].drop 0).take (Tryz.prog.cellsOf 4)) = xs[0]? := hg 0 _ rfl
  rw [e0, hc_b] at g0
  obtain ⟨y1, e1⟩ : ∃ y, xs[1]? = some y := ⟨_, List.getElem?_eq_getElem (by omega)⟩
  have g1 : DataW.trod enc Tryz.prog W base spare held n 176 (([c0, c1, c2, c3, c4, c5, c6, c7, c8, c9, c10, c11, c12, c13, c14, c15, c16, c17, c18, c19, c20].drop 1).take (Tryz.prog.cellsOf 176)) = xs[1]? := hg 1 _ rfl
  rw [e1, hc_Op] at g1
  obtain ⟨y2, e2⟩ : ∃ y, xs[2]? = some y := ⟨_, List.getElem?_eq_getElem (by omega)⟩
  have g2 : DataW.trod enc Tryz.prog W base spare held n 3 (([c0, c1, c2, c3, c4, c5, c6, c7, c8, c9, c10, c11, c12, c13, c14, c15, c16, c17, c18, c19, c20].drop 5).take (Tryz.prog.cellsOf 3)) = xs[2]? := hg 2 _ rfl
  rw [e2, hc_i] at g2
  obtain ⟨y3, e3⟩ : ∃ y, xs[3]? = some y := ⟨_, List.getElem?_eq_getElem (by omega)⟩
  have g3 : DataW.trod enc Tryz.prog W base spare held n 3 (([c0, c1, c2, c3, c4, c5, c6, c7, c8, c9, c10, c11, c12, c13, c14, c15, c16, c17, c18, c19, c20].drop 6).take (Tryz.prog.cellsOf 3)) = xs[3]? := hg 3 _ rfl
  rw [e3, hc_i] at g3
  obtain ⟨y4, e4⟩ : ∃ y, xs[4]? = some y := ⟨_, List.getElem?_eq_getElem (by omega)⟩
  have g4 : DataW.trod enc Tryz.prog W base spare held n 177 (([c0, c1, c2, c3, c4, c5, c6, c7, c8, c9, c10, c11, c12, c13, c14, c15, c16, c17, c18, c19, c20].drop 7).take (Tryz.prog.cellsOf 177)) = xs[4]? := hg 4 _ rfl
  rw [e4, hc_Sub] at g4
  obtain ⟨y5, e5⟩ : ∃ y, xs[5]? = some y := ⟨_, List.getElem?_eq_getElem (by omega)⟩
  have g5 : DataW.trod enc Tryz.prog W base spare held n 3 (([c0, c1, c2, c3, c4, c5, c6, c7, c8, c9, c10, c11, c12, c13, c14, c15, c16, c17, c18, c19, c20].drop 17).take (Tryz.prog.cellsOf 3)) = xs[5]? := hg 5 _ rfl
  rw [e5, hc_i] at g5
  obtain ⟨y6, e6⟩ : ∃ y, xs[6]? = some y := ⟨_, List.getElem?_eq_getElem (by omega)⟩
  have g6 : DataW.trod enc Tryz.prog W base spare held n 3 (([c0, c1, c2, c3, c4, c5, c6, c7, c8, c9, c10, c11, c12, c13, c14, c15, c16, c17, c18, c19, c20].drop 18).take (Tryz.prog.cellsOf 3)) = xs[6]? := hg 6 _ rfl
  rw [e6, hc_i] at g6
  obtain ⟨y7, e7⟩ : ∃ y, xs[7]? = some y := ⟨_, List.getElem?_eq_getElem (by omega)⟩
  have g7 : DataW.trod enc Tryz.prog W base spare held n 3 (([c0, c1, c2, c3, c4, c5, c6, c7, c8, c9, c10, c11, c12, c13, c14, c15, c16, c17, c18, c19, c20].drop 19).take (Tryz.prog.cellsOf 3)) = xs[7]? := hg 7 _ rfl
  rw [e7, hc_i] at g7
  obtain ⟨y8, e8⟩ : ∃ y, xs[8]? = some y := ⟨_, List.getElem?_eq_getElem (by omega)⟩
  have g8 : DataW.trod enc Tryz.prog W base spare held n 3 (([c0, c1, c2, c3, c4, c5, c6, c7, c8, c9, c10, c11, c12, c13, c14, c15, c16, c17, c18, c19, c20].drop 20).take (Tryz.prog.cellsOf 3)) = xs[8]? := hg 8 _ rfl
  rw [e8, hc_i] at g8
  obtain ⟨z0, q0⟩ := opens_bool Tryz.underlying4 H enc W base spare held n _ _ g0
  clear g0
  obtain rfl : c0 = .bool z0 := by simpa using q0
  obtain ⟨z1, q1⟩ := opens_Op H enc W base spare held n _ _ g1
  clear g1
  simp [FOp] at q1
  obtain ⟨rfl, rfl, rfl, rfl⟩ := q1
  obtain ⟨z2, q2, _⟩ := opens_int Tryz.underlying3 H enc W base spare held n _ _ g2
  clear g2
  obtain rfl : c5 = .int .i64 z2 := by simpa using q2
  obtain ⟨z3, q3, _⟩ := opens_int Tryz.underlying3 H enc W base spare held n _ _ g3
  clear g3
  obtain rfl : c6 = .int .i64 z3 := by simpa using q3
  obtain ⟨z4, q4⟩ := opens_Sub H enc W base spare held n _ _ g4
  clear g4
  simp [FSub] at q4
  obtain ⟨rfl, rfl, rfl, rfl, rfl, rfl, rfl, rfl, rfl, rfl⟩ := q4
  obtain ⟨z5, q5, _⟩ := opens_int Tryz.underlying3 H enc W base spare held n _ _ g5
  clear g5
  obtain rfl : c17 = .int .i64 z5 := by simpa using q5
  obtain ⟨z6, q6, _⟩ := opens_int Tryz.underlying3 H enc W base spare held n _ _ g6
  clear g6
  obtain rfl : c18 = .int .i64 z6 := by simpa using q6
  obtain ⟨z7, q7, _⟩ := opens_int Tryz.underlying3 H enc W base spare held n _ _ g7
  clear g7
  obtain rfl : c19 = .int .i64 z7 := by simpa using q7
  obtain ⟨z8, q8, _⟩ := opens_int Tryz.underlying3 H enc W base spare held n _ _ g8
  clear g8
  obtain rfl : c20 = .int .i64 z8 := by simpa using q8
  exact ⟨⟨z0, z1, z2, z3, z4, z5, z6, z7, z8⟩, rfl⟩

set_option maxRecDepth 100000 in
theorem opens_Ev : Opens Tryz.prog 187 fun _ cs => ∃ y : Ev, cs = FEv.enc y := by
  intro H enc W base spare held fuel cs x hh
  obtain ⟨xs, n, _, _, hl, hxs, hg⟩ := DataW.trod_struct Tryz.underlying187 hh
  have hc : Tryz.prog.cellsOf 187 = 7 := by kernel_rfl
  have hxs' : xs.length = 7 := hxs
  rw [hc] at hl
  clear hh
  match cs, hl with
  | [c0, c1, c2, c3, c4, c5, c6], _ =>
  have hc_i : Tryz.prog.cellsOf 3 = 1 := by kernel_rfl
  obtain ⟨y0, e0⟩ : ∃ y, xs[0]? = some y := ⟨_, List.getElem?_eq_getElem (by omega)⟩
  have g0 : DataW.trod enc Tryz.prog W base spare held n 3 (([c0, c1, c2, c3, c4, c5, c6].drop 0).take (Tryz.prog.cellsOf 3)) = xs[0]? := hg 0 _ rfl
  rw [e0, hc_i] at g0
  obtain ⟨y1, e1⟩ : ∃ y, xs[1]? = some y := ⟨_, List.getElem?_eq_getElem (by omega)⟩
  have g1 : DataW.trod enc Tryz.prog W base spare held n 3 (([c0, c1, c2, c3, c4, c5, c6].drop 1).take (Tryz.prog.cellsOf 3)) = xs[1]? := hg 1 _ rfl
  rw [e1, hc_i] at g1
  obtain ⟨y2, e2⟩ : ∃ y, xs[2]? = some y := ⟨_, List.getElem?_eq_getElem (by omega)⟩
  have g2 : DataW.trod enc Tryz.prog W base spare held n 3 (([c0, c1, c2, c3, c4, c5, c6].drop 2).take (Tryz.prog.cellsOf 3)) = xs[2]? := hg 2 _ rfl
  rw [e2, hc_i] at g2
  obtain ⟨y3, e3⟩ : ∃ y, xs[3]? = some y := ⟨_, List.getElem?_eq_getElem (by omega)⟩
  have g3 : DataW.trod enc Tryz.prog W base spare held n 3 (([c0, c1, c2, c3, c4, c5, c6].drop 3).take (Tryz.prog.cellsOf 3)) = xs[3]? := hg 3 _ rfl
  rw [e3, hc_i] at g3
  obtain ⟨y4, e4⟩ : ∃ y, xs[4]? = some y := ⟨_, List.getElem?_eq_getElem (by omega)⟩
  have g4 : DataW.trod enc Tryz.prog W base spare held n 3 (([c0, c1, c2, c3, c4, c5, c6].drop 4).take (Tryz.prog.cellsOf 3)) = xs[4]? := hg 4 _ rfl
  rw [e4, hc_i] at g4
  obtain ⟨y5, e5⟩ : ∃ y, xs[5]? = some y := ⟨_, List.getElem?_eq_getElem (by omega)⟩
  have g5 : DataW.trod enc Tryz.prog W base spare held n 3 (([c0, c1, c2, c3, c4, c5, c6].drop 5).take (Tryz.prog.cellsOf 3)) = xs[5]? := hg 5 _ rfl
  rw [e5, hc_i] at g5
  obtain ⟨y6, e6⟩ : ∃ y, xs[6]? = some y := ⟨_, List.getElem?_eq_getElem (by omega)⟩
  have g6 : DataW.trod enc Tryz.prog W base spare held n 3 (([c0, c1, c2, c3, c4, c5, c6].drop 6).take (Tryz.prog.cellsOf 3)) = xs[6]? := hg 6 _ rfl
  rw [e6, hc_i] at g6
  obtain ⟨z0, q0, _⟩ := opens_int Tryz.underlying3 H enc W base spare held n _ _ g0
  clear g0
  obtain rfl : c0 = .int .i64 z0 := by simpa using q0
  obtain ⟨z1, q1, _⟩ := opens_int Tryz.underlying3 H enc W base spare held n _ _ g1
  clear g1
  obtain rfl : c1 = .int .i64 z1 := by simpa using q1
  obtain ⟨z2, q2, _⟩ := opens_int Tryz.underlying3 H enc W base spare held n _ _ g2
  clear g2
  obtain rfl : c2 = .int .i64 z2 := by simpa using q2
  obtain ⟨z3, q3, _⟩ := opens_int Tryz.underlying3 H enc W base spare held n _ _ g3
  clear g3
  obtain rfl : c3 = .int .i64 z3 := by simpa using q3
  obtain ⟨z4, q4, _⟩ := opens_int Tryz.underlying3 H enc W base spare held n _ _ g4
  clear g4
  obtain rfl : c4 = .int .i64 z4 := by simpa using q4
  obtain ⟨z5, q5, _⟩ := opens_int Tryz.underlying3 H enc W base spare held n _ _ g5
  clear g5
  obtain rfl : c5 = .int .i64 z5 := by simpa using q5
  obtain ⟨z6, q6, _⟩ := opens_int Tryz.underlying3 H enc W base spare held n _ _ g6
  clear g6
  obtain rfl : c6 = .int .i64 z6 := by simpa using q6
  exact ⟨⟨z0, z1, z2, z3, z4, z5, z6⟩, rfl⟩

set_option maxRecDepth 100000 in
theorem opens_Shelf : Opens Tryz.prog 62 fun W cs => ∃ (K : HShelf) (x : Shelf), cs = [.slice K.Base.Mem.Heap.Bytes.a K.Base.Mem.Heap.Bytes.len K.Base.Mem.Heap.Bytes.cap, .slice K.Base.Mem.Heap.Class.a K.Base.Mem.Heap.Class.len K.Base.Mem.Heap.Class.cap, .slice K.Base.Mem.Lists.Global.a K.Base.Mem.Lists.Global.len K.Base.Mem.Lists.Global.cap, .slice K.Base.Mem.Lists.Own.a K.Base.Mem.Lists.Own.len K.Base.Mem.Lists.Own.cap, .int .i64 x.Base.Clock.Epoch, .slice K.Base.Clock.Pins.a K.Base.Clock.Pins.len K.Base.Clock.Pins.cap, .slice K.Base.Limbo.a K.Base.Limbo.len K.Base.Limbo.cap, .slice K.Base.Haz.a K.Base.Haz.len K.Base.Haz.cap, .slice K.Cells.a K.Cells.len K.Cells.cap, .slice K.Jobs.a K.Jobs.len K.Jobs.cap, .slice K.Todo.a K.Todo.len K.Todo.cap, .slice K.Log.a K.Log.len K.Log.cap, .int .i64 x.Serial] ∧ RdShelf W W.heap.size K x := by
  intro H enc W base spare held fuel cs x hh
  obtain ⟨xs, n, _, _, hl, hxs, hg⟩ := DataW.trod_struct Tryz.underlying62 hh
  have hc : Tryz.prog.cellsOf 62 = 13 := by kernel_rfl
  have hxs' : xs.length = 6 := hxs
  rw [hc] at hl
  clear hh
  match cs, hl with
  | [c0, c1, c2, c3, c4, c5, c6, c7, c8, c9, c10, c11, c12], _ =>
  have hc0 : Tryz.prog.cellsOf 57 = 8 := by kernel_rfl
  obtain ⟨y0, e0⟩ : ∃ y, xs[0]? = some y := ⟨_, List.getElem?_eq_getElem (by omega)⟩
  have g0 : DataW.trod enc Tryz.prog W base spare held n 57 (([c0, c1, c2, c3, c4, c5, c6, c7, c8, c9, c10, c11, c12].drop 0).take (Tryz.prog.cellsOf 57)) = xs[0]? := hg 0 _ rfl
  rw [e0, hc0] at g0
  have hc1 : Tryz.prog.cellsOf 24 = 1 := by kernel_rfl
  obtain ⟨y1, e1⟩ : ∃ y, xs[1]? = some y := ⟨_, List.getElem?_eq_getElem (by omega)⟩
  have g1 : DataW.trod enc Tryz.prog W base spare held n 24 (([c0, c1, c2, c3, c4, c5, c6, c7, c8, c9, c10, c11, c12].drop 8).take (Tryz.prog.cellsOf 24)) = xs[1]? := hg 1 _ rfl
  rw [e1, hc1] at g1
  have hc2 : Tryz.prog.cellsOf 58 = 1 := by kernel_rfl
  obtain ⟨y2, e2⟩ : ∃ y, xs[2]? = some y := ⟨_, List.getElem?_eq_getElem (by omega)⟩
  have g2 : DataW.trod enc Tryz.prog W base spare held n 58 (([c0, c1, c2, c3, c4, c5, c6, c7, c8, c9, c10, c11, c12].drop 9).take (Tryz.prog.cellsOf 58)) = xs[2]? := hg 2 _ rfl
  rw [e2, hc2] at g2
  have hc3 : Tryz.prog.cellsOf 59 = 1 := by kernel_rfl
  obtain ⟨y3, e3⟩ : ∃ y, xs[3]? = some y := ⟨_, List.getElem?_eq_getElem (by omega)⟩
  have g3 : DataW.trod enc Tryz.prog W base spare held n 59 (([c0, c1, c2, c3, c4, c5, c6, c7, c8, c9, c10, c11, c12].drop 10).take (Tryz.prog.cellsOf 59)) = xs[3]? := hg 3 _ rfl
  rw [e3, hc3] at g3
  have hc4 : Tryz.prog.cellsOf 60 = 1 := by kernel_rfl
  obtain ⟨y4, e4⟩ : ∃ y, xs[4]? = some y := ⟨_, List.getElem?_eq_getElem (by omega)⟩
  have g4 : DataW.trod enc Tryz.prog W base spare held n 60 (([c0, c1, c2, c3, c4, c5, c6, c7, c8, c9, c10, c11, c12].drop 11).take (Tryz.prog.cellsOf 60)) = xs[4]? := hg 4 _ rfl
  rw [e4, hc4] at g4
  have hc5 : Tryz.prog.cellsOf 3 = 1 := by kernel_rfl
  obtain ⟨y5, e5⟩ : ∃ y, xs[5]? = some y := ⟨_, List.getElem?_eq_getElem (by omega)⟩
  have g5 : DataW.trod enc Tryz.prog W base spare held n 3 (([c0, c1, c2, c3, c4, c5, c6, c7, c8, c9, c10, c11, c12].drop 12).take (Tryz.prog.cellsOf 3)) = xs[5]? := hg 5 _ rfl
  rw [e5, hc5] at g5
  obtain ⟨K0, x0, q0, r0⟩ := opens_Base H enc W base spare held n _ _ g0
  simp at q0
  obtain ⟨rfl, rfl, rfl, rfl, rfl, rfl, rfl, rfl⟩ := q0
  clear g0
  obtain ⟨v1, l1, q1, r1⟩ := (opens_flat (T := FI) Tryz.underlying24 (by kernel_rfl) (fun H enc W base spare held fuel cs x hh => by obtain ⟨n, hn, _⟩ := opens_int Tryz.underlying3 H enc W base spare held fuel cs x hh; exact ⟨n, hn⟩)) H enc W base spare held n _ _ g1
  obtain rfl : c8 = v1 := by simpa using q1
  obtain ⟨A1, p1, hv1, _⟩ := id r1
  subst hv1
  clear g1
  obtain ⟨v2, l2, q2, r2⟩ := (opens_flat (T := FJob) Tryz.underlying58 (by kernel_rfl) opens_Job) H enc W base spare held n _ _ g2
  obtain rfl : c9 = v2 := by simpa using q2
  obtain ⟨A2, p2, hv2, _⟩ := id r2
  subst hv2
  clear g2
  obtain ⟨v3, t3, l3, q3, r3⟩ := opens_QueueS H enc W base spare held n _ _ g3
  obtain rfl : c10 = v3 := by simpa using q3
  obtain ⟨A3, p3, hv3, _⟩ := id r3.outer
  subst hv3
  clear g3
  obtain ⟨v4, l4, q4, r4⟩ := (opens_flat (T := FEv) Tryz.underlying60 (by kernel_rfl) opens_Ev) H enc W base spare held n _ _ g4
  obtain rfl : c11 = v4 := by simpa using q4
  obtain ⟨A4, p4, hv4, _⟩ := id r4
  subst hv4
  clear g4
  obtain ⟨z5, q5, _⟩ := opens_int Tryz.underlying3 H enc W base spare held n _ _ g5
  obtain rfl : c12 = .int .i64 z5 := by simpa using q5
  clear g5
  exact ⟨⟨K0, ⟨A1, l1.length, p1⟩, ⟨A2, l2.length, p2⟩, ⟨A3, t3.length, p3⟩, t3, ⟨A4, l4.length, p4⟩⟩, ⟨x0, l1, l2, l3, l4, z5⟩, rfl, ⟨r0, r1, r2, r3, r4⟩⟩

set_option maxRecDepth 100000 in
theorem FnExactAccounted_lifted (os : Os) (started : os.Started) (H : Type) (enc : TypeId × Value → H) :
    ReturnsInHanded {} Tryz.checked os 5 .any (Rows.fnExactAccountedSpec.pre6 enc Tryz.prog Tryz.f5 Rows.fnExactAccountedRow.domain false) (Rows.fnExactAccountedSpec.post enc Tryz.prog Tryz.f5 false true false false) := by
  refine lift 4 (C := Tryz.checked) Tryz.own Tryz.laidOut started (by kernel_rfl) Tryz.func5
    (ChangeSpec.witness6 (enc := enc) (C := Tryz.checked) false ⟨#[], #[.agg #[.slice none 0 0, .slice none 0 0, .slice none 0 0, .slice none 0 0, .int .i64 0, .slice none 0 0, .slice none 0 0, .slice none 0 0, .slice none 0 0, .slice none 0 0, .slice none 0 0, .slice none 0 0, .int .i64 0]], []⟩ 12 (by kernel_rfl) (by kernel_rfl) (by kernel_rfl) (by kernel_rfl))
    rfl (by kernel_rfl) Tryz.underlying4 (by kernel_rfl) (fun ds hds => by
      match ds, hds with
      | [d0], _ => rfl) ?_
  intro W args ds p hval0 hA0
  have hval : ∀ (j : Nat) t v, Tryz.f5.params[j]? = some t → args[j]? = some v → ∃ base, Value.okWide Tryz.prog W .any base t v := hval0
  have hA : DataW.TrodAll enc Tryz.prog W 0 (fun _ => true) true Tryz.f5.params.toList args.toList ds p := hA0
  clear hval0 hA0
  rw [Tryz.params5] at hA hval
  obtain ⟨v0, d0, rfl, rfl, h0⟩ := trodAll_one hA
  obtain ⟨_, hv0⟩ := hval 0 _ v0 rfl rfl
  obtain ⟨cs0, rfl, _⟩ := okWide_struct Tryz.underlying62 hv0
  obtain ⟨K0, x0, hcs0, hr0⟩ := opens_Shelf.trod h0
  have hcs0' : cs0.toList = [.slice K0.Base.Mem.Heap.Bytes.a K0.Base.Mem.Heap.Bytes.len K0.Base.Mem.Heap.Bytes.cap, .slice K0.Base.Mem.Heap.Class.a K0.Base.Mem.Heap.Class.len K0.Base.Mem.Heap.Class.cap, .slice K0.Base.Mem.Lists.Global.a K0.Base.Mem.Lists.Global.len K0.Base.Mem.Lists.Global.cap, .slice K0.Base.Mem.Lists.Own.a K0.Base.Mem.Lists.Own.len K0.Base.Mem.Lists.Own.cap, .int .i64 x0.Base.Clock.Epoch, .slice K0.Base.Clock.Pins.a K0.Base.Clock.Pins.len K0.Base.Clock.Pins.cap, .slice K0.Base.Limbo.a K0.Base.Limbo.len K0.Base.Limbo.cap, .slice K0.Base.Haz.a K0.Base.Haz.len K0.Base.Haz.cap, .slice K0.Cells.a K0.Cells.len K0.Cells.cap, .slice K0.Jobs.a K0.Jobs.len K0.Jobs.cap, .slice K0.Todo.a K0.Todo.len K0.Todo.cap, .slice K0.Log.a K0.Log.len K0.Log.cap, .int .i64 x0.Serial] := hcs0
  obtain rfl : cs0 = #[.slice K0.Base.Mem.Heap.Bytes.a K0.Base.Mem.Heap.Bytes.len K0.Base.Mem.Heap.Bytes.cap, .slice K0.Base.Mem.Heap.Class.a K0.Base.Mem.Heap.Class.len K0.Base.Mem.Heap.Class.cap, .slice K0.Base.Mem.Lists.Global.a K0.Base.Mem.Lists.Global.len K0.Base.Mem.Lists.Global.cap, .slice K0.Base.Mem.Lists.Own.a K0.Base.Mem.Lists.Own.len K0.Base.Mem.Lists.Own.cap, .int .i64 x0.Base.Clock.Epoch, .slice K0.Base.Clock.Pins.a K0.Base.Clock.Pins.len K0.Base.Clock.Pins.cap, .slice K0.Base.Limbo.a K0.Base.Limbo.len K0.Base.Limbo.cap, .slice K0.Base.Haz.a K0.Base.Haz.len K0.Base.Haz.cap, .slice K0.Cells.a K0.Cells.len K0.Cells.cap, .slice K0.Jobs.a K0.Jobs.len K0.Jobs.cap, .slice K0.Todo.a K0.Todo.len K0.Todo.cap, .slice K0.Log.a K0.Log.len K0.Log.cap, .int .i64 x0.Serial] := by rw [← Array.toList_inj]; exact hcs0'
  exact FnExactAccounted_law W K0 x0 hr0

theorem and_t_ {a b : Bool} (ha : a = true) (hb : b = true) : (a && b) = true := by rw [ha, hb]; rfl
set_option maxHeartbeats 8000000 in
theorem FnExactAccounted_closed : joinedFacts Tryz.pinned.checked.prog 5 Tryz.f5 Rows.fnExactAccountedSpec Rows.fnExactAccountedRow = true := by
  unfold joinedFacts
  repeat' (with_reducible refine and_t_ ?_ ?_)
  all_goals (as_aux_lemma => kernel_rfl)

theorem FnExactAccounted_holds : Rows.FnExactAccountedSaid :=
  OpenClaim.holds_of_wide 5 Tryz.f5 rfl rfl rfl rfl rfl rfl rfl ⟨rfl, rfl, rfl, rfl, rfl⟩ rfl rfl rfl rfl rfl (by kernel_rfl) Tryz.func5 FnExactAccounted_closed
    (of_decide_eq_true (by kernel_rfl)) (by unfold Func.isWrapper; rw [if_neg (of_decide_eq_false (by kernel_rfl))]; exact ⟨rfl, rfl⟩)
    (fun os started H enc _ => FnExactAccounted_lifted os started H enc)
end Go.Proofs.YtkldapdpaldbgaaGreat
