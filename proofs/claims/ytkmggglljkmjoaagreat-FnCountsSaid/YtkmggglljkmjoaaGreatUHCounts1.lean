/-
  Several texts in one: lemmas and contracts that the claim rests on.
-/
import Derived.Test.YtkmggglljkmjoaaGreatRows
import Derived.WalkKit
import Derived.WalkSpells
import Derived.WalkLawsBesides
import Derived.ProofKit
import Derived.Deep.Draws
import Derived.Deep.OwnRows
import Derived.Deep.Slices
import Derived.Maps.AppendAt
import Derived.Deep.AppendLies
import Derived.RegionTactic
import Derived.OwnWalk
import Derived.Deep.QuietTactic
import Derived.BigQuiet
import Derived.Deep.LoopGhost
import Derived.Deep.RegionHeld3
import Derived.Laws.Cover3
/-
  A law that answers true at every readable input, and changes nothing that was there, holds as its row says.
  Conditions: the law's own contract on 'Calls'; closed facts on the program.
-/
namespace Go.Proofs.YtkmggglljkmjoaaGreat
open Go.ChangeShapes Go.WideShapes Go.ChangeAt Go.RowKit

theorem Tryz.own : ownKnob Tryz.prog.godebug = none := by kernel_rfl
theorem Tryz.laidOut : laidOutB Tryz.prog = true := by kernel_rfl

/-- All readings stay, where nothing below the heap's old end has turned. -/
theorem trodAll_stays {H : Type} {enc : TypeId × Value → H} {P : Program} (hl : laidOutB P = true) {W W' : World} (hb : Below W.heap.size W W') :
    ∀ (ts : List TypeId) (vs : List Value) (ds : List (DataW H)) (ps : List MemPlace),
      (ts.all fun t => P.readableRec t && decide (t < P.types.size)) = true → (∀ x ∈ ps, x.block < W.heap.size) →
      DataW.TrodAll enc P W 0 (fun _ => true) true ts vs ds ps → DataW.TrodAll enc P W' 0 (fun b => decide (b < W.heap.size)) true ts vs ds ps
  | [], [], [], _, _, _, h => h
  | t :: ts, v :: vs, d :: ds, ps, hr, hlt, h => by
    obtain ⟨p, q, h1, h2, rfl⟩ := h
    simp only [List.all_cons, Bool.and_eq_true, decide_eq_true_eq] at hr
    obtain ⟨⟨hr1, hr2⟩, hr3⟩ := hr
    exact ⟨p, q, Below.trod hl hr1 hr2 h1 hb (fun x hx => hlt x (List.mem_append.2 (.inl hx))), trodAll_stays hl hb ts vs ds q hr3 (fun x hx => hlt x (List.mem_append.2 (.inr hx))) h2, rfl⟩
  | [], [], _ :: _, _, _, _, h => h.elim
  | [], _ :: _, _, _, _, _, h => h.elim
  | _ :: _, [], _, _, _, _, h => h.elim
  | _ :: _, _ :: _, [], _, _, _, h => h.elim

theorem trodAll_length {H : Type} {enc : TypeId × Value → H} {P : Program} {W : World} {base : Nat} {sp : Nat → Bool} {hd : Bool} :
    ∀ (ts : List TypeId) (vs : List Value) (ds : List (DataW H)) (ps : List MemPlace), DataW.TrodAll enc P W base sp hd ts vs ds ps → ds.length = ts.length ∧ vs.length = ts.length
  | [], [], [], _, _ => ⟨rfl, rfl⟩
  | _ :: ts, _ :: vs, _ :: ds, _, h => by
    obtain ⟨p, q, _, h2, _⟩ := h
    have := trodAll_length ts vs ds q h2
    simp [this]
  | [], [], _ :: _, _, h => h.elim
  | [], _ :: _, _, _, h => h.elim
  | _ :: _, [], _, _, h => h.elim
  | _ :: _, _ :: _, [], _, h => h.elim

/-- FROM THE LAW's CONTRACT TO ITS ROW's PROPERTY. -/
theorem lift {C : Checked} {os : Os} {f : FuncId} {fn : Func} {s : ChangeSpec} {H : Type} {enc : TypeId × Value → H} {conds : List PathCond} {apart handsOn : Bool} (tb : TypeId)
    (own : ownKnob C.prog.godebug = none) (hlaid : laidOutB C.prog = true) (started : os.Started) (noInit : C.prog.inits.idxOf? f = none) (hfn : C.prog.funcs[f]? = some fn)
    (witness : ∃ (w : World) (tape : Tape) (i : Input), w.os = os ∧ (w.forCall tape i).Shaped C.prog ∧ i.vars = [] ∧ Input.okWide C.prog (w.forCall tape i) .any w.heap.size f i ∧
      s.pre6 enc C.prog fn conds apart (w.forCall tape i).memory i.args ∧ ({} : Assume).holds C.prog (lone (Frame.enter C.prog f i.args .normal) [] (w.forCall tape i)))
    (hvars : s.vars = []) (hres : fn.resultTypes = #[tb]) (htb : C.prog.underlying tb = some .bool)
    (hread : (fn.params.toList.all fun t => C.prog.readableRec t && decide (t < C.prog.types.size)) = true)
    (hspec : ∀ ds : List (DataW H), ds.length = fn.params.size → s.fn H ds = { results := [.lit (.bool true)], args := ds })
    (contract : ∀ (W : World) (args : Array Value) (ds : List (DataW H)) (p : List MemPlace),
      (∀ (j : Nat) t v, fn.params[j]? = some t → args[j]? = some v → ∃ base, Value.okWide C.prog W .any base t v) →
      DataW.TrodAll enc C.prog W 0 (fun _ => true) true fn.params.toList args.toList ds p →
      Calls C.prog f args W fun e W' => e = .returned (.bool true) ∧ Below W.heap.size W W') :
    ReturnsInHanded {} C os f .any (s.pre6 enc C.prog fn conds apart) (s.post enc C.prog fn apart true handsOn false) := by
  refine returnsInHanded_of_change own started noInit hfn witness ?_
  intro W base args ds gs before hval hW _ _
  have hW' := hW
  obtain ⟨p, q, hA, hV, rfl, hfz, hnd⟩ := hW
  have hV' := hV
  rw [hvars] at hV'
  obtain ⟨rfl, rfl⟩ := trodVars_none hV'
  refine (contract W args ds p (fun j t v h1 h2 => ⟨base, hval j t v h1 h2⟩) hA).mono fun e W' ⟨he, hb⟩ => ?_
  have hlen : ds.length = fn.params.size := by
    simpa using (trodAll_length _ _ _ _ hA).1
  have hs := hspec ds hlen
  refine ⟨_, he, ds, [], p ++ [], [], p, [], hW', ?_, ?_, ?_, hb.frame _, fun h => by cases h⟩
  · rw [List.append_nil, hs, hres]
    exact trodAll_mk1 (shut_bool htb true)
  · rw [List.append_nil, hs]
    exact trodAll_stays hlaid hb _ _ _ _ hread (fun x hx => hW'.lt x (by simpa using hx)) hA
  · rw [hvars, List.append_nil, hs]
    simp [DataW.TrodVars]
end Go.Proofs.YtkmggglljkmjoaaGreat

/-
  Words for memory: a world that has only grown; a slice that reads as a list.
  Plain definitions and theorems; no program in sight.
-/
namespace Go.Proofs.YtkmggglljkmjoaaGreat
open Go.RowKit

/-- A number that an int holds. -/
def I64 (x : Int) : Prop := -9223372036854775808 ≤ x ∧ x ≤ 9223372036854775807

/-- The world with blocks more, and some draws. -/
def grow (w : World) (os : List Obj) (d : Nat) : World := { w with heap := w.heap ++ os.toArray, drawn := d }

section
variable (w : World) (os os' : List Obj) (d d' : Nat)
@[go_sem, simp] theorem size_grow : (grow w os d).heap.size = w.heap.size + os.length := by simp [grow]
theorem heap_grow (k : Nat) (h : k < w.heap.size) : (grow w os d).heap[k]? = w.heap[k]? := by
  show (w.heap ++ os.toArray)[k]? = _
  rw [Array.getElem?_append, if_pos h]
@[go_sem] theorem cell?_grow (n i : Nat) (hn : n < w.heap.size) : (grow w os d).cell? ⟨n, i, none⟩ = w.cell? ⟨n, i, none⟩ := by
  simp [World.cell?, heap_grow w os d n hn]
@[go_sem] theorem frozen?_grow (n i : Nat) (hn : n < w.heap.size) : (grow w os d).frozen? ⟨n, i, none⟩ = w.frozen? ⟨n, i, none⟩ := by
  simp [World.frozen?, heap_grow w os d n hn]
@[go_sem] theorem setCell_grow (n i : Nat) (v : Value) (hn : n < w.heap.size) : (grow w os d).setCell ⟨n, i, none⟩ v = grow (w.setCell ⟨n, i, none⟩ v) os d := by
  unfold grow World.setCell
  congr 1
  apply Array.ext_getElem?
  intro k
  simp only [Array.getElem?_modify, Array.getElem?_append, Array.size_modify]
  by_cases hk : k < w.heap.size
  · simp [hk]
  · have : ¬ n = k := by omega
    simp [hk, this]
@[go_sem] theorem drew_grow : (grow w os d).drew = grow w os (d + 1) := rfl
@[go_sem] theorem drewN_grow (n : Nat) : (grow w os d).drewN n = grow w os (d + n) := rfl
@[go_sem] theorem grow_drew : grow w.drew os d = grow w os d := rfl
@[go_sem] theorem grow_drewN (n : Nat) : grow (w.drewN n) os d = grow w os d := rfl
@[go_sem, simp] theorem tape_grow : (grow w os d).tape = w.tape := rfl
theorem below_grow : Below w.heap.size w (grow w os d) := ⟨rfl, rfl, rfl, by simp, fun k hk => heap_grow w os d k hk⟩
end

theorem below_grow_of {B : Nat} {a w : World} (h : Below B a w) (hB : B ≤ w.heap.size) (os : List Obj) (d : Nat) : Below B a (grow w os d) :=
  h.trans ((below_grow w os d).mono hB)

theorem below_drewN {B : Nat} {a w : World} (h : Below B a w) (n : Nat) : Below B a (w.drewN n) := h.trans ⟨rfl, rfl, rfl, Nat.le_refl _, fun _ _ => rfl⟩

/-- What is as it was below the heap's end has only grown. -/
theorem below_grows {w w' : World} (h : Below w.heap.size w w') : ∃ os d, w' = grow w os d := by
  refine ⟨w'.heap.toList.drop w.heap.size, w'.drawn, ?_⟩
  obtain ⟨h1, h2, h3, h4, h5⟩ := h
  have hh : w'.heap = w.heap ++ (w'.heap.toList.drop w.heap.size).toArray := by
    apply Array.ext_getElem?
    intro k
    rw [Array.getElem?_append]
    by_cases hk : k < w.heap.size
    · rw [if_pos hk, h5 k hk]
    · rw [if_neg hk]
      simp only [List.getElem?_toArray, List.getElem?_drop, Array.getElem?_toList]
      rw [show w.heap.size + (k - w.heap.size) = k by omega]
  cases w'
  cases w
  simp only [grow] at *
  subst h1 h2 h3
  rw [← hh]

/-! Block numbers are told apart: each is a beginning of the next one's sum. -/
@[go_sem] theorem pos_sum (a b : Nat) : (0 < a + b) ↔ (0 < a ∨ 0 < b) := by omega
@[go_sem] theorem ltc2 (a b1 b2 : Nat) : (a < a + b1 + b2) ↔ (0 < b1 + b2) := by omega
@[go_sem] theorem eqc2 (a b1 b2 : Nat) : (a + b1 + b2 = a) ↔ (b1 + b2 = 0) := by omega
@[go_sem] theorem eqd2 (a b1 b2 : Nat) : (a = a + b1 + b2) ↔ (b1 + b2 = 0) := by omega
@[go_sem] theorem ltc3 (a b1 b2 b3 : Nat) : (a < a + b1 + b2 + b3) ↔ (0 < b1 + b2 + b3) := by omega
@[go_sem] theorem eqc3 (a b1 b2 b3 : Nat) : (a + b1 + b2 + b3 = a) ↔ (b1 + b2 + b3 = 0) := by omega
@[go_sem] theorem eqd3 (a b1 b2 b3 : Nat) : (a = a + b1 + b2 + b3) ↔ (b1 + b2 + b3 = 0) := by omega
@[go_sem] theorem ltc4 (a b1 b2 b3 b4 : Nat) : (a < a + b1 + b2 + b3 + b4) ↔ (0 < b1 + b2 + b3 + b4) := by omega
@[go_sem] theorem eqc4 (a b1 b2 b3 b4 : Nat) : (a + b1 + b2 + b3 + b4 = a) ↔ (b1 + b2 + b3 + b4 = 0) := by omega
@[go_sem] theorem eqd4 (a b1 b2 b3 b4 : Nat) : (a = a + b1 + b2 + b3 + b4) ↔ (b1 + b2 + b3 + b4 = 0) := by omega
@[go_sem] theorem ltc5 (a b1 b2 b3 b4 b5 : Nat) : (a < a + b1 + b2 + b3 + b4 + b5) ↔ (0 < b1 + b2 + b3 + b4 + b5) := by omega
@[go_sem] theorem eqc5 (a b1 b2 b3 b4 b5 : Nat) : (a + b1 + b2 + b3 + b4 + b5 = a) ↔ (b1 + b2 + b3 + b4 + b5 = 0) := by omega
@[go_sem] theorem eqd5 (a b1 b2 b3 b4 b5 : Nat) : (a = a + b1 + b2 + b3 + b4 + b5) ↔ (b1 + b2 + b3 + b4 + b5 = 0) := by omega
@[go_sem] theorem ltc6 (a b1 b2 b3 b4 b5 b6 : Nat) : (a < a + b1 + b2 + b3 + b4 + b5 + b6) ↔ (0 < b1 + b2 + b3 + b4 + b5 + b6) := by omega
@[go_sem] theorem eqc6 (a b1 b2 b3 b4 b5 b6 : Nat) : (a + b1 + b2 + b3 + b4 + b5 + b6 = a) ↔ (b1 + b2 + b3 + b4 + b5 + b6 = 0) := by omega
@[go_sem] theorem eqd6 (a b1 b2 b3 b4 b5 b6 : Nat) : (a = a + b1 + b2 + b3 + b4 + b5 + b6) ↔ (b1 + b2 + b3 + b4 + b5 + b6 = 0) := by omega
@[go_sem] theorem ltc7 (a b1 b2 b3 b4 b5 b6 b7 : Nat) : (a < a + b1 + b2 + b3 + b4 + b5 + b6 + b7) ↔ (0 < b1 + b2 + b3 + b4 + b5 + b6 + b7) := by omega
@[go_sem] theorem eqc7 (a b1 b2 b3 b4 b5 b6 b7 : Nat) : (a + b1 + b2 + b3 + b4 + b5 + b6 + b7 = a) ↔ (b1 + b2 + b3 + b4 + b5 + b6 + b7 = 0) := by omega
@[go_sem] theorem eqd7 (a b1 b2 b3 b4 b5 b6 b7 : Nat) : (a = a + b1 + b2 + b3 + b4 + b5 + b6 + b7) ↔ (b1 + b2 + b3 + b4 + b5 + b6 + b7 = 0) := by omega
@[go_sem] theorem ltc8 (a b1 b2 b3 b4 b5 b6 b7 b8 : Nat) : (a < a + b1 + b2 + b3 + b4 + b5 + b6 + b7 + b8) ↔ (0 < b1 + b2 + b3 + b4 + b5 + b6 + b7 + b8) := by omega
@[go_sem] theorem eqc8 (a b1 b2 b3 b4 b5 b6 b7 b8 : Nat) : (a + b1 + b2 + b3 + b4 + b5 + b6 + b7 + b8 = a) ↔ (b1 + b2 + b3 + b4 + b5 + b6 + b7 + b8 = 0) := by omega
@[go_sem] theorem eqd8 (a b1 b2 b3 b4 b5 b6 b7 b8 : Nat) : (a = a + b1 + b2 + b3 + b4 + b5 + b6 + b7 + b8) ↔ (b1 + b2 + b3 + b4 + b5 + b6 + b7 + b8 = 0) := by omega
@[go_sem] theorem ltc9 (a b1 b2 b3 b4 b5 b6 b7 b8 b9 : Nat) : (a < a + b1 + b2 + b3 + b4 + b5 + b6 + b7 + b8 + b9) ↔ (0 < b1 + b2 + b3 + b4 + b5 + b6 + b7 + b8 + b9) := by omega
@[go_sem] theorem eqc9 (a b1 b2 b3 b4 b5 b6 b7 b8 b9 : Nat) : (a + b1 + b2 + b3 + b4 + b5 + b6 + b7 + b8 + b9 = a) ↔ (b1 + b2 + b3 + b4 + b5 + b6 + b7 + b8 + b9 = 0) := by omega
@[go_sem] theorem eqd9 (a b1 b2 b3 b4 b5 b6 b7 b8 b9 : Nat) : (a = a + b1 + b2 + b3 + b4 + b5 + b6 + b7 + b8 + b9) ↔ (b1 + b2 + b3 + b4 + b5 + b6 + b7 + b8 + b9 = 0) := by omega
@[go_sem] theorem ltc10 (a b1 b2 b3 b4 b5 b6 b7 b8 b9 b10 : Nat) : (a < a + b1 + b2 + b3 + b4 + b5 + b6 + b7 + b8 + b9 + b10) ↔ (0 < b1 + b2 + b3 + b4 + b5 + b6 + b7 + b8 + b9 + b10) := by omega
@[go_sem] theorem eqc10 (a b1 b2 b3 b4 b5 b6 b7 b8 b9 b10 : Nat) : (a + b1 + b2 + b3 + b4 + b5 + b6 + b7 + b8 + b9 + b10 = a) ↔ (b1 + b2 + b3 + b4 + b5 + b6 + b7 + b8 + b9 + b10 = 0) := by omega
@[go_sem] theorem eqd10 (a b1 b2 b3 b4 b5 b6 b7 b8 b9 b10 : Nat) : (a = a + b1 + b2 + b3 + b4 + b5 + b6 + b7 + b8 + b9 + b10) ↔ (b1 + b2 + b3 + b4 + b5 + b6 + b7 + b8 + b9 + b10 = 0) := by omega
@[go_sem] theorem ltc11 (a b1 b2 b3 b4 b5 b6 b7 b8 b9 b10 b11 : Nat) : (a < a + b1 + b2 + b3 + b4 + b5 + b6 + b7 + b8 + b9 + b10 + b11) ↔ (0 < b1 + b2 + b3 + b4 + b5 + b6 + b7 + b8 + b9 + b10 + b11) := by omega
@[go_sem] theorem eqc11 (a b1 b2 b3 b4 b5 b6 b7 b8 b9 b10 b11 : Nat) : (a + b1 + b2 + b3 + b4 + b5 + b6 + b7 + b8 + b9 + b10 + b11 = a) ↔ (b1 + b2 + b3 + b4 + b5 + b6 + b7 + b8 + b9 + b10 + b11 = 0) := by omega
@[go_sem] theorem eqd11 (a b1 b2 b3 b4 b5 b6 b7 b8 b9 b10 b11 : Nat) : (a = a + b1 + b2 + b3 + b4 + b5 + b6 + b7 + b8 + b9 + b10 + b11) ↔ (b1 + b2 + b3 + b4 + b5 + b6 + b7 + b8 + b9 + b10 + b11 = 0) := by omega
@[go_sem] theorem ltc12 (a b1 b2 b3 b4 b5 b6 b7 b8 b9 b10 b11 b12 : Nat) : (a < a + b1 + b2 + b3 + b4 + b5 + b6 + b7 + b8 + b9 + b10 + b11 + b12) ↔ (0 < b1 + b2 + b3 + b4 + b5 + b6 + b7 + b8 + b9 + b10 + b11 + b12) := by omega
@[go_sem] theorem eqc12 (a b1 b2 b3 b4 b5 b6 b7 b8 b9 b10 b11 b12 : Nat) : (a + b1 + b2 + b3 + b4 + b5 + b6 + b7 + b8 + b9 + b10 + b11 + b12 = a) ↔ (b1 + b2 + b3 + b4 + b5 + b6 + b7 + b8 + b9 + b10 + b11 + b12 = 0) := by omega
@[go_sem] theorem eqd12 (a b1 b2 b3 b4 b5 b6 b7 b8 b9 b10 b11 b12 : Nat) : (a = a + b1 + b2 + b3 + b4 + b5 + b6 + b7 + b8 + b9 + b10 + b11 + b12) ↔ (b1 + b2 + b3 + b4 + b5 + b6 + b7 + b8 + b9 + b10 + b11 + b12 = 0) := by omega

@[go_sem] theorem lt_more (a b c : Nat) (h : a < b) : (a < b + c) = True := by simp; omega
@[go_sem] theorem le_more (a b c : Nat) (h : a ≤ b) : (a ≤ b + c) = True := by simp; omega
@[go_sem] theorem ne_more (a b c : Nat) (h : a < b) : (a = b + c) = False := by simp; omega
@[go_sem] theorem ne_more' (a b c : Nat) (h : a < b) : (b + c = a) = False := by simp; omega
@[go_sem] theorem below_drew_iff (B : Nat) (a w : World) : Below B a w.drew = Below B a w := propext ⟨fun h => ⟨h.os, h.tape, h.output, h.size, h.block⟩, fun h => h.drew⟩
@[go_sem] theorem below_drewN_iff (B : Nat) (a w : World) (n : Nat) : Below B a (w.drewN n) = Below B a w := propext ⟨fun h => ⟨h.os, h.tape, h.output, h.size, h.block⟩, fun h => below_drewN h n⟩

/-- An element of an array value, elements of one cell. -/
theorem run_index_one {P : Program} {t e : TypeId} {len : Nat} (ht : P.underlying t = some (.array len e)) (hag : ∀ w, (isAgg e).run P w = .ok false w)
    (hs : (P.info? e).map (·.size) = some 1) (cs : Array Value) (i : Int) (h0 : 0 ≤ i) (h : i < len) (v : Value) (hv : cs[i.toNat]? = some v) (w : World) :
    (Instr.index t (.agg cs) (.int .i64 i)).run P w = .ok v w := by
  obtain ⟨inf, hi, hz⟩ := Option.map_eq_some_iff.1 hs
  simp [Instr.index, asIntOf, run_underlying ht, h0, h, sizeOf, typeInfo, hi, hz, part, hag, hv]

theorem ret_i64 {a b : Int} (h : a = b) : Ending.returned (.int .i64 a) = .returned (.int .i64 b) := by rw [h]
theorem ret_bool {a b : Bool} (h : a = b) : Ending.returned (.bool a) = .returned (.bool b) := by rw [h]
theorem Hid.mk_ {p : Prop} (h : p) : Hid p := h

end Go.Proofs.YtkmggglljkmjoaaGreat

/-
  Slices of flat elements: what a slice value reads as; a slice that the call owns.
  Plain definitions and theorems; no program in sight.
-/
namespace Go.Proofs.YtkmggglljkmjoaaGreat
open Go.RowKit

/-- A type of one or more one-cell fields. -/
structure FT (α : Type) where
  n : Nat
  enc : α → List Value
  dflt : α
  len : ∀ x, (enc x).length = n
  one : ∀ x, ∀ u ∈ enc x, u.oneCell' = true
  pos : 0 < n
  small : n ≤ 32

variable {α : Type} {T : FT α} {w w' : World} {B B' : Nat} {e : TypeId} {v : Value} {l : List α}

def flat (T : FT α) (l : List α) : List Value := l.flatMap T.enc

theorem length_flat (T : FT α) (l : List α) : (flat T l).length = l.length * T.n := by
  induction l with
  | nil => simp [flat]
  | cons x l ih =>
    have h : flat T (x :: l) = T.enc x ++ flat T l := rfl
    rw [h, List.length_append, ih, T.len, List.length_cons, Nat.succ_mul]
    omega

theorem flat_append (T : FT α) (l m : List α) : flat T (l ++ m) = flat T l ++ flat T m := by simp [flat]

theorem flat_get (T : FT α) : ∀ (l : List α) (k j : Nat) (x : α), l[k]? = some x → j < T.n → (flat T l)[k * T.n + j]? = (T.enc x)[j]?
  | [], k, j, x, h, _ => by simp at h
  | y :: l, 0, j, x, h, hj => by
    simp only [List.getElem?_cons_zero, Option.some.injEq] at h
    subst h
    show (T.enc y ++ flat T l)[0 * T.n + j]? = _
    rw [Nat.zero_mul, Nat.zero_add, List.getElem?_append, if_pos (by rw [T.len]; exact hj)]
  | y :: l, k + 1, j, x, h, hj => by
    simp only [List.getElem?_cons_succ] at h
    have ih := flat_get T l k j x h hj
    show (T.enc y ++ flat T l)[(k + 1) * T.n + j]? = _
    rw [List.getElem?_append, if_neg (by rw [T.len, Nat.succ_mul]; omega), T.len, ← ih]
    congr 1
    rw [Nat.succ_mul]
    omega

theorem flat_set (T : FT α) (l : List α) (k j : Nat) (x y : α) (u : Value) (hx : l[k]? = some x) (hj : j < T.n) (hy : T.enc y = (T.enc x).set j u) :
    flat T (l.set k y) = (flat T l).set (k * T.n + j) u := by
  induction l generalizing k with
  | nil => simp at hx
  | cons z l ih =>
    cases k with
    | zero =>
      simp only [List.getElem?_cons_zero, Option.some.injEq] at hx
      subst hx
      show T.enc y ++ flat T l = (T.enc z ++ flat T l).set (0 * T.n + j) u
      rw [hy, Nat.zero_mul, Nat.zero_add, List.set_append, if_pos (by rw [T.len]; exact hj)]
    | succ k =>
      simp only [List.getElem?_cons_succ] at hx
      show T.enc z ++ flat T (l.set k y) = (T.enc z ++ flat T l).set ((k + 1) * T.n + j) u
      rw [List.set_append, if_neg (by rw [T.len, Nat.succ_mul]; omega), T.len, ih k hx]
      congr 2
      rw [Nat.succ_mul]
      omega

/-- The slice value v reads as the list l, all its cells below block B. -/
def RdL (T : FT α) (w : World) (B : Nat) (v : Value) (l : List α) : Prop :=
  ∃ A cap, v = .slice A l.length cap ∧ l.length ≤ cap ∧ cap ≤ maxLen ∧
    (l ≠ [] → ∃ g off, A = some ⟨g, off, none⟩ ∧ g < B ∧ ∀ j u, (flat T l)[j]? = some u → w.cell? ⟨g, off + j, none⟩ = some u)

/-- The call owns the slice. -/
def OwL (T : FT α) (e : TypeId) (w : World) (v : Value) (l : List α) : Prop := w.ownsRow 0 e T.n v l.length (flat T l)

theorem RdL.nil_ : RdL T w B (.slice none 0 0) [] := ⟨none, 0, rfl, Nat.le_refl _, by simp [maxLen], fun h => absurd rfl h⟩

theorem RdL.keep (h : RdL T w B v l) (hk : ∀ k, k < B → w'.heap[k]? = w.heap[k]?) (hB : B ≤ B') : RdL T w' B' v l := by
  obtain ⟨A, cap, hv, h1, h2, h3⟩ := h
  refine ⟨A, cap, hv, h1, h2, fun hl => ?_⟩
  obtain ⟨g, off, hA, hg, hc⟩ := h3 hl
  refine ⟨g, off, hA, by omega, fun j u hu => ?_⟩
  rw [← hc j u hu]
  simp [World.cell?, hk g hg]

theorem RdL.alloc_ (h : RdL T w B v l) (hB : B ≤ w.heap.size) (hB' : B ≤ B') (o : Obj) : RdL T (w.alloc o) B' v l :=
  h.keep (fun k hk => Below.heap_alloc w o k (by omega)) hB'
theorem RdL.below (h : RdL T w B v l) (hb : Below B w w') : RdL T w' B v l := h.keep hb.block (Nat.le_refl _)

/-- One element, at its cells. -/
theorem RdL.at_ (h : RdL T w B v l) {k : Nat} {x : α} (hx : l[k]? = some x) :
    ∃ g off cap, v = .slice (some ⟨g, off, none⟩) l.length cap ∧ g < B ∧ l.length ≤ cap ∧ cap ≤ maxLen ∧ ∀ j u, (T.enc x)[j]? = some u → w.cell? ⟨g, off + (k * T.n + j), none⟩ = some u := by
  obtain ⟨A, cap, hv, h1, h2, h3⟩ := h
  have hl : l ≠ [] := by rintro rfl; simp at hx
  obtain ⟨g, off, rfl, hg, hc⟩ := h3 hl
  refine ⟨g, off, cap, hv, hg, h1, h2, fun j u hu => hc _ u ?_⟩
  have hj : j < T.n := by
    have := (List.getElem?_eq_some_iff.1 hu).1
    rw [T.len] at this
    exact this
  rw [flat_get T l k j x hx hj]
  exact hu

theorem OwL.form (h : OwL T e w v l) : (v = .slice none 0 0 ∧ l = []) ∨ ∃ g cap, v = .slice (some ⟨g, 0, none⟩) l.length cap ∧ g < w.heap.size ∧ l.length ≤ cap ∧ cap ≤ maxLen := by
  rcases h.2 with ⟨rfl, hn⟩ | ⟨g, cap, cur, rfl, _, hh, h1, h2, _⟩
  · exact .inl ⟨rfl, List.eq_nil_of_length_eq_zero hn⟩
  · refine .inr ⟨g, cap, rfl, ?_, h1, h2⟩
    rcases Nat.lt_or_ge g w.heap.size with hlt | hge
    · exact hlt
    · rw [Array.getElem?_eq_none hge] at hh; cases hh

theorem OwL.rd (h : OwL T e w v l) (hB : ∀ g, v.ownBlock = some g → g < B) : RdL T w B v l := by
  rcases h.2 with ⟨rfl, hn⟩ | ⟨g, cap, cur, rfl, _, hh, h1, h2, h3, h4⟩
  · have hl : l = [] := List.eq_nil_of_length_eq_zero hn
    subst hl
    exact RdL.nil_
  · refine ⟨_, cap, rfl, h1, h2, fun _ => ⟨g, 0, rfl, hB g rfl, fun j u hu => ?_⟩⟩
    have := h.cells (g := g) rfl j u hu
    have e0 : ((⟨g, 0, none⟩ : Addr).add j) = ⟨g, 0 + j, none⟩ := by
      unfold Addr.add
      by_cases hj : j = 0 <;> simp [hj]
    rw [e0] at this
    exact this

theorem OwL.rd' (h : OwL T e w v l) : RdL T w w.heap.size v l := h.rd fun _ hg => (World.ownsRow.lt h _ hg).2

theorem OwL.keep (h : OwL T e w v l) (hk : ∀ g, v.ownBlock = some g → w'.heap[g]? = w.heap[g]?) : OwL T e w' v l := by
  refine ⟨h.1, ?_⟩
  rcases h.2 with h2 | ⟨g, cap, cur, hv, hg, hh, r⟩
  · exact .inl h2
  · refine .inr ⟨g, cap, cur, hv, hg, ?_, r⟩
    rw [hk g (by rw [hv]; rfl)]
    exact hh

theorem OwL.alloc_ (h : OwL T e w v l) (o : Obj) : OwL T e (w.alloc o) v l :=
  h.keep fun g hg => Below.heap_alloc w o g (World.ownsRow.lt h g hg).2

theorem OwL.len_eq {g n c : Nat} (h : OwL T e w (.slice (some ⟨g, 0, none⟩) n c) l) : n = l.length := by
  rcases h.2 with ⟨h', _⟩ | ⟨g', cap', cur, h', _⟩
  · simp at h'
  · injection h'

/-- A store into one field of one element. -/
theorem OwL.set_ {g n c : Nat} (h : OwL T e w (.slice (some ⟨g, 0, none⟩) n c) l) {k j : Nat} {x y : α} {u : Value} (hx : l[k]? = some x) (hj : j < T.n) (hy : T.enc y = (T.enc x).set j u) :
    OwL T e (w.setCell ⟨g, k * T.n + j, none⟩ u) (.slice (some ⟨g, 0, none⟩) n c) (l.set k y) := by
  obtain rfl := h.len_eq
  have hs := (World.ownsRow.stored (w := w) (g := g) h (k * T.n + j) u).1
  rw [← flat_set T l k j x y u hx hj hy] at hs
  unfold OwL
  rw [List.length_set]
  exact hs

theorem OwL.cell_ {g n c : Nat} (h : OwL T e w (.slice (some ⟨g, 0, none⟩) n c) l) {k j : Nat} {x : α} (hx : l[k]? = some x) (hj : j < T.n) :
    w.cell? ⟨g, k * T.n + j, none⟩ = (T.enc x)[j]? := by
  obtain rfl := h.len_eq
  have hk : k < l.length := (List.getElem?_eq_some_iff.1 hx).1
  rw [World.ownsRow.cellAt (w := w) h (k * T.n + j) (by
    calc k * T.n + j < k * T.n + T.n := by omega
      _ = (k + 1) * T.n := by rw [Nat.succ_mul]
      _ ≤ l.length * T.n := Nat.mul_le_mul_right _ hk), flat_get T l k j x hx hj]

theorem OwL.frozen_ {g n c : Nat} (h : OwL T e w (.slice (some ⟨g, 0, none⟩) n c) l) (j : Nat) : w.frozen? ⟨g, j, none⟩ = false := by
  obtain rfl := h.len_eq
  exact World.ownsRow.frozenAt (w := w) h j

/-! A new list, its first elements written: the state of a copying loop. -/
/-! A list, its first i elements marked with the numbers from k on. -/
/-- make([]T, n). -/
theorem madeCells_flat (T : FT α) (z : Array Value) (hz : z.toList = T.enc T.dflt) (n : Nat) : (madeCells z (n * T.n)).toList = flat T (List.replicate n T.dflt) := by
  have hzs : z.size = T.n := by rw [← Array.length_toList, hz, T.len]
  apply List.ext_getElem?
  intro i
  by_cases hi : i < n * T.n
  · have hp := T.pos
    have hq : i / T.n < n := by rw [Nat.div_lt_iff_lt_mul hp]; exact hi
    have hm : i % T.n < T.n := Nat.mod_lt _ hp
    have hx : (List.replicate n T.dflt)[i / T.n]? = some T.dflt := by simp [hq]
    have := flat_get T (List.replicate n T.dflt) (i / T.n) (i % T.n) T.dflt hx hm
    rw [show i / T.n * T.n + i % T.n = i from by rw [Nat.mul_comm]; exact Nat.div_add_mod i T.n] at this
    rw [this, ← hz]
    simp only [madeCells, Array.toList_map, Array.toList_range, List.getElem?_map, List.getElem?_range hi, Option.map_some, hzs]
    rw [getElem!_pos z (i % T.n) (by omega)]
    simp [hzs, hm]
  · rw [List.getElem?_eq_none (by simp [size_madeCells]; omega), List.getElem?_eq_none (by rw [length_flat, List.length_replicate]; omega)]

theorem OwL.made (T : FT α) (z : Array Value) (hz : z.toList = T.enc T.dflt) (n : Nat) (hn : n ≤ maxLen) (w : World) (e : TypeId) :
    OwL T e (w.alloc (.cells (madeCells z (n * T.n)) e)) (.slice (some ⟨w.heap.size, 0, none⟩) n n) (List.replicate n T.dflt) := by
  have h := World.ownsRow_lit (base := 0) (e := e) (size := T.n) w (madeCells z (n * T.n)) n (Nat.zero_le _) hn (size_madeCells _ _)
  rw [madeCells_flat T z hz n] at h
  unfold OwL
  rw [List.length_replicate]
  exact h

/-- make's run, as a rule for the walk. -/
theorem run_make_flat {P : Program} (T : FT α) (t e : TypeId) (z : Value) (bytes : Nat) (ht : P.underlying t = some (.slice e)) (hinfo : (P.info? e).map (fun i => (i.zero, i.size, i.bytes)) = some (some z, T.n, bytes))
    (n : Nat) (hbytes : bytes * n ≤ 281474976710656) (h63 : n ≤ 9223372036854775807) (w : World) :
    (Instr.makeSlice t (.int .i64 (n : Int)) (.int .i64 (n : Int))).run P w = .ok (.slice (some ⟨w.heap.size, 0, none⟩) n n) (w.alloc (.cells (madeCells z.cells (n * T.n)) e)) := by
  obtain ⟨i, hi, hzz⟩ := Option.map_eq_some_iff.1 hinfo
  simp only [Prod.mk.injEq] at hzz
  obtain ⟨hz, hs, hb⟩ := hzz
  subst hb
  have hb' : (i.bytes : Int) * (n : Int) ≤ 281474976710656 := by
    have h : ((i.bytes * n : Nat) : Int) ≤ 281474976710656 := by omega
    rwa [Int.natCast_mul] at h
  have hr := run_make (P := P) w t e i z ht hi hz .i64 .i64 n n (by omega) (Int.le_refl _) hb' (by omega)
  simp only [Int.toNat_natCast, hs] at hr
  exact hr

end Go.Proofs.YtkmggglljkmjoaaGreat

/-
  Slices of slices: read, and owned (each inner slice in a block of its own).
  Plain definitions and theorems; no program in sight.
-/
namespace Go.Proofs.YtkmggglljkmjoaaGreat
open Go.RowKit

/-- A slice value, as an element. -/
structure SV where
  a : Option Addr
  len : Nat
  cap : Nat
def SV.val (s : SV) : Value := .slice s.a s.len s.cap
def FS : FT SV := { n := 1, enc := fun s => [.slice s.a s.len s.cap], dflt := ⟨none, 0, 0⟩, len := fun _ => rfl, one := by intro x u hu; simp at hu; subst hu; rfl, pos := by decide, small := by decide }

variable {α : Type} {T : FT α} {w w' : World} {B B' : Nat} {e E : TypeId} {v : Value} {ll : List (List α)} {svs : List SV}

def foot1 (v : Value) : List Nat := v.ownBlock.toList
def foot2 (v : Value) (svs : List SV) : List Nat := foot1 v ++ svs.flatMap fun s => foot1 s.val

/-- v reads as the list of lists ll, all cells below block B. -/
structure RdLL (T : FT α) (w : World) (B : Nat) (v : Value) (svs : List SV) (ll : List (List α)) : Prop where
  len : svs.length = ll.length
  outer : RdL FS w B v svs
  inner : ∀ (k : Nat) (s : SV) (l : List α), svs[k]? = some s → ll[k]? = some l → RdL T w B s.val l

/-- The call owns v and all its rows, each in a block of its own. -/
structure OwLL (T : FT α) (e E : TypeId) (w : World) (v : Value) (svs : List SV) (ll : List (List α)) : Prop where
  len : svs.length = ll.length
  outer : OwL FS E w v svs
  inner : ∀ (k : Nat) (s : SV) (l : List α), svs[k]? = some s → ll[k]? = some l → OwL T e w s.val l
  nodup : (foot2 v svs).Nodup

theorem mem_foot1 {v : Value} {g : Nat} : g ∈ foot1 v ↔ v.ownBlock = some g := by simp [foot1, eq_comm]
theorem mem_foot2 {v : Value} {svs : List SV} {g : Nat} : g ∈ foot2 v svs ↔ v.ownBlock = some g ∨ ∃ s ∈ svs, s.val.ownBlock = some g := by
  simp [foot2, mem_foot1]

theorem RdLL.keep (h : RdLL T w B v svs ll) (hk : ∀ k, k < B → w'.heap[k]? = w.heap[k]?) (hB : B ≤ B') : RdLL T w' B' v svs ll :=
  ⟨h.len, h.outer.keep hk hB, fun k s l h1 h2 => (h.inner k s l h1 h2).keep hk hB⟩
theorem RdLL.alloc_ (h : RdLL T w B v svs ll) (hB : B ≤ w.heap.size) (hB' : B ≤ B') (o : Obj) : RdLL T (w.alloc o) B' v svs ll :=
  h.keep (fun k hk => Below.heap_alloc w o k (by omega)) hB'
theorem RdLL.below (h : RdLL T w B v svs ll) (hb : Below B w w') : RdLL T w' B v svs ll := h.keep hb.block (Nat.le_refl _)
theorem RdLL.nil_ : RdLL T w B (.slice none 0 0) [] [] := ⟨rfl, RdL.nil_, fun k s l h => by simp at h⟩

theorem OwLL.lt (h : OwLL T e E w v svs ll) : ∀ g ∈ foot2 v svs, g < w.heap.size := by
  intro g hg
  rcases mem_foot2.1 hg with h1 | ⟨s, hs, h1⟩
  · exact (World.ownsRow.lt h.outer _ h1).2
  · obtain ⟨k, hk, hks⟩ := List.getElem_of_mem hs
    have hl : k < ll.length := by rw [← h.len]; exact hk
    exact (World.ownsRow.lt (h.inner k s ll[k] (by rw [List.getElem?_eq_getElem hk, hks]) (List.getElem?_eq_getElem hl)) _ h1).2

theorem OwLL.rd (h : OwLL T e E w v svs ll) (hB : ∀ g ∈ foot2 v svs, g < B) : RdLL T w B v svs ll :=
  ⟨h.len, h.outer.rd fun g hg => hB g (mem_foot2.2 (.inl hg)), fun k s l h1 h2 => (h.inner k s l h1 h2).rd fun g hg => hB g (mem_foot2.2 (.inr ⟨s, List.mem_of_getElem? h1, hg⟩))⟩
theorem OwLL.rd' (h : OwLL T e E w v svs ll) : RdLL T w w.heap.size v svs ll := h.rd h.lt

theorem OwLL.keep (h : OwLL T e E w v svs ll) (hk : ∀ g ∈ foot2 v svs, w'.heap[g]? = w.heap[g]?) : OwLL T e E w' v svs ll :=
  ⟨h.len, h.outer.keep fun g hg => hk g (mem_foot2.2 (.inl hg)), fun k s l h1 h2 => (h.inner k s l h1 h2).keep fun g hg => hk g (mem_foot2.2 (.inr ⟨s, List.mem_of_getElem? h1, hg⟩)), h.nodup⟩
theorem OwLL.alloc_ (h : OwLL T e E w v svs ll) (o : Obj) : OwLL T e E (w.alloc o) v svs ll :=
  h.keep fun g hg => Below.heap_alloc w o g (h.lt g hg)

theorem nodup_rows : ∀ {svs : List SV}, (svs.flatMap fun s => foot1 s.val).Nodup → ∀ {i k : Nat} {s s' : SV} {g : Nat}, svs[i]? = some s → svs[k]? = some s' → i ≠ k → s.val.ownBlock = some g → s'.val.ownBlock = some g → False
  | [], _, i, k, s, s', g, hi, _, _, _, _ => by simp at hi
  | x :: xs, hn, i, k, s, s', g, hi, hk, hne, hs, hs' => by
    rw [List.flatMap_cons, List.nodup_append] at hn
    obtain ⟨_, h2, h3⟩ := hn
    cases i with
    | zero =>
      cases k with
      | zero => exact hne rfl
      | succ k =>
        simp only [List.getElem?_cons_zero, Option.some.injEq] at hi
        subst hi
        simp only [List.getElem?_cons_succ] at hk
        exact h3 g (mem_foot1.2 hs) g (List.mem_flatMap.2 ⟨s', List.mem_of_getElem? hk, mem_foot1.2 hs'⟩) rfl
    | succ i =>
      simp only [List.getElem?_cons_succ] at hi
      cases k with
      | zero =>
        simp only [List.getElem?_cons_zero, Option.some.injEq] at hk
        subst hk
        exact h3 g (mem_foot1.2 hs') g (List.mem_flatMap.2 ⟨s, List.mem_of_getElem? hi, mem_foot1.2 hs⟩) rfl
      | succ k =>
        simp only [List.getElem?_cons_succ] at hk
        exact nodup_rows h2 hi hk (fun e => hne (by rw [e])) hs hs'

theorem rd_up {l : List α} (h : RdL T w w.heap.size v l) (hb : Below w.heap.size w w') : RdL T w' w'.heap.size v l := h.keep hb.block hb.size
theorem rdLL_up (h : RdLL T w w.heap.size v svs ll) (hb : Below w.heap.size w w') : RdLL T w' w'.heap.size v svs ll := h.keep hb.block hb.size

/-- Only the blocks of F, and new ones, have turned. -/
structure Chg (F : List Nat) (w w' : World) : Prop where
  os : w'.os = w.os
  tape : w'.tape = w.tape
  output : w'.output = w.output
  size : w.heap.size ≤ w'.heap.size
  block : ∀ k, k < w.heap.size → k ∉ F → w'.heap[k]? = w.heap[k]?

theorem Chg.refl (F : List Nat) (w : World) : Chg F w w := ⟨rfl, rfl, rfl, Nat.le_refl _, fun _ _ _ => rfl⟩
theorem Chg.trans {F : List Nat} {a b c : World} (h : Chg F a b) (k : Chg F b c) : Chg F a c :=
  ⟨k.os.trans h.os, k.tape.trans h.tape, k.output.trans h.output, Nat.le_trans h.size k.size, fun i hi hn => (k.block i (Nat.lt_of_lt_of_le hi h.size) hn).trans (h.block i hi hn)⟩
theorem Chg.mono {F G : List Nat} {a b : World} (h : Chg F a b) (hs : ∀ g ∈ F, g ∈ G) : Chg G a b :=
  ⟨h.os, h.tape, h.output, h.size, fun k hk hn => h.block k hk fun hm => hn (hs k hm)⟩
theorem Chg.of_below {F : List Nat} {a b : World} (h : Below a.heap.size a b) : Chg F a b := ⟨h.os, h.tape, h.output, h.size, fun k hk _ => h.block k hk⟩
theorem Chg.of_grown {a b : World} {v : Value} (h : a.grownBy b v.ownBlock) : Chg (foot1 v) a b :=
  ⟨h.os, h.tape, h.output, h.size, fun k hk hn => h.block k hk fun e => hn (mem_foot1.2 e.symm)⟩
theorem Chg.below {F : List Nat} {a b : World} {B : Nat} (h : Chg F a b) (hB : B ≤ a.heap.size) (hF : ∀ g ∈ F, B ≤ g) : Below B a b :=
  ⟨h.os, h.tape, h.output, h.size, fun k hk => h.block k (by omega) fun hm => by have := hF k hm; omega⟩

theorem OwL.chg {l : List α} {F : List Nat} (h : OwL T e w v l) (hc : Chg F w w') (hd : ∀ g ∈ foot1 v, g ∉ F) : OwL T e w' v l :=
  h.keep fun g hg => hc.block g (World.ownsRow.lt h _ hg).2 (hd g (mem_foot1.2 hg))
theorem OwLL.chg {F : List Nat} (h : OwLL T e E w v svs ll) (hc : Chg F w w') (hd : ∀ g ∈ foot2 v svs, g ∉ F) : OwLL T e E w' v svs ll :=
  h.keep fun g hg => hc.block g (h.lt g hg) (hd g hg)
theorem RdL.chg {l : List α} {F : List Nat} {B : Nat} (h : RdL T w B v l) (hc : Chg F w w') (hB : B ≤ w.heap.size) (hd : ∀ g ∈ F, B ≤ g) : RdL T w' B v l :=
  h.keep (fun k hk => hc.block k (by omega) fun hm => by have := hd k hm; omega) (Nat.le_refl _)
/-- The cells of a block that has not turned. -/
theorem Chg.cell {F : List Nat} (hc : Chg F w w') (b o : Nat) (hb : b < w.heap.size) (hn : b ∉ F) : w'.cell? ⟨b, o, none⟩ = w.cell? ⟨b, o, none⟩ := by
  simp [World.cell?, hc.block b hb hn]
theorem Chg.frozen {F : List Nat} (hc : Chg F w w') (b o : Nat) (hb : b < w.heap.size) (hn : b ∉ F) : w'.frozen? ⟨b, o, none⟩ = w.frozen? ⟨b, o, none⟩ := by
  simp [World.frozen?, hc.block b hb hn]
theorem foot_lt {l : List α} (h : OwL T e w v l) : ∀ g ∈ foot1 v, g < w.heap.size := fun _ hg => (World.ownsRow.lt h _ (mem_foot1.1 hg)).2

theorem nodup_set : ∀ {svs : List SV} {i : Nat} {s : SV}, (svs.flatMap fun s => foot1 s.val).Nodup → (∀ g ∈ foot1 s.val, g ∉ svs.flatMap fun s => foot1 s.val) → ((svs.set i s).flatMap fun s => foot1 s.val).Nodup
  | [], _, _, _, _ => by simp
  | x :: xs, 0, s, h, hs => by
    rw [List.flatMap_cons, List.nodup_append] at h
    simp only [List.set_cons_zero, List.flatMap_cons, List.nodup_append]
    refine ⟨?_, h.2.1, fun a ha b hb e => ?_⟩
    · unfold foot1
      cases s.val.ownBlock <;> simp
    · subst e
      exact hs a ha (List.mem_flatMap.2 (by
        obtain ⟨y, hy, hm⟩ := List.mem_flatMap.1 hb
        exact ⟨y, List.mem_cons_of_mem _ hy, hm⟩))
  | x :: xs, i + 1, s, h, hs => by
    rw [List.flatMap_cons, List.nodup_append] at h
    simp only [List.set_cons_succ, List.flatMap_cons, List.nodup_append]
    refine ⟨h.1, nodup_set h.2.1 (fun g hg hm => hs g hg ?_), fun a ha b hb e => ?_⟩
    · obtain ⟨y, hy, hm⟩ := List.mem_flatMap.1 hm
      exact List.mem_flatMap.2 ⟨y, List.mem_cons_of_mem _ hy, hm⟩
    · subst e
      obtain ⟨y, hy, hm⟩ := List.mem_flatMap.1 hb
      rcases List.mem_or_eq_of_mem_set hy with hy | rfl
      · exact h.2.2 a ha a (List.mem_flatMap.2 ⟨y, hy, hm⟩) rfl
      · exact hs a hm (List.mem_flatMap.2 ⟨x, List.mem_cons_self .., ha⟩)

/-- A row of the outer slice is replaced by a new one, in a block of its own. -/
theorem OwLL.set_sv {g n c : Nat} (h : OwLL T e E w (.slice (some ⟨g, 0, none⟩) n c) svs ll) {i : Nat} {s0 s : SV} {l : List α} (hi : svs[i]? = some s0) (hl : OwL T e w s.val l) (hf : ∀ b ∈ foot1 s.val, b ∉ foot2 (.slice (some ⟨g, 0, none⟩) n c) svs) :
    OwLL T e E (w.setCell ⟨g, i, none⟩ s.val) (.slice (some ⟨g, 0, none⟩) n c) (svs.set i s) (ll.set i l) := by
  have hn := h.nodup
  unfold foot2 at hn
  rw [List.nodup_append] at hn
  obtain ⟨hn1, hn2, hn3⟩ := hn
  have hg : ∀ s' ∈ svs, s'.val.ownBlock ≠ some g := fun s' hs' he => hn3 g (mem_foot1.2 rfl) g (List.mem_flatMap.2 ⟨s', hs', mem_foot1.2 he⟩) rfl
  have hkeep : ∀ b, b ≠ g → (w.setCell ⟨g, i, none⟩ s.val).heap[b]? = w.heap[b]? := fun b hb => Below.heap_setCell _ _ _ _ hb
  refine ⟨by rw [List.length_set, List.length_set]; exact h.len, ?_, fun k s' l' hk hl' => ?_, ?_⟩
  · have := h.outer.set_ (j := 0) (y := s) (u := .slice s.a s.len s.cap) hi (by decide) rfl
    rw [show i * FS.n + 0 = i by simp [FS]] at this
    exact this
  · have hik := (List.getElem?_eq_some_iff.1 hi).1
    by_cases hki : i = k
    · subst hki
      rw [List.getElem?_set_self hik] at hk
      rw [List.getElem?_set_self (by rw [← h.len]; exact hik)] at hl'
      cases hk
      cases hl'
      exact hl.keep fun b hb => hkeep b fun e => hf b (mem_foot1.2 hb) (mem_foot2.2 (.inl (by rw [e]; rfl)))
    · rw [List.getElem?_set_ne hki] at hk hl'
      exact (h.inner k s' l' hk hl').keep fun b hb => hkeep b fun e => hg s' (List.mem_of_getElem? hk) (by rw [hb, e])
  · unfold foot2
    rw [List.nodup_append]
    refine ⟨hn1, nodup_set hn2 (fun b hb hm => hf b hb (List.mem_append.2 (.inr hm))), fun a ha b hb e => ?_⟩
    subst e
    obtain ⟨y, hy, hm⟩ := List.mem_flatMap.1 hb
    rcases List.mem_or_eq_of_mem_set hy with hy | rfl
    · exact hn3 a ha a (List.mem_flatMap.2 ⟨y, hy, hm⟩) rfl
    · exact hf a hm (List.mem_append.2 (.inl ha))

theorem OwLL.made (z : Array Value) (hz : z.toList = [.slice none 0 0]) (n : Nat) (hn : n ≤ maxLen) (w : World) (T : FT α) (e E : TypeId) :
    OwLL T e E (w.alloc (.cells (madeCells z (n * 1)) E)) (.slice (some ⟨w.heap.size, 0, none⟩) n n) (List.replicate n ⟨none, 0, 0⟩) (List.replicate n []) := by
  refine ⟨by simp, OwL.made FS z hz n hn w E, fun k s l hk hl => ?_, ?_⟩
  · rw [List.getElem?_replicate] at hk hl
    split at hk
    · rename_i h
      rw [if_pos h] at hl
      cases hk
      cases hl
      exact World.ownsRow_nil _ _ _ _
    · cases hk
  · unfold foot2
    have : (List.replicate n (⟨none, 0, 0⟩ : SV)).flatMap (fun s => foot1 s.val) = [] := by
      rw [List.flatMap_eq_nil_iff]
      intro x hx
      rw [List.eq_of_mem_replicate hx]
      rfl
    rw [this]
    simp [foot1, Value.ownBlock]

theorem RdLL.row {wr : World} {A : Option Addr} {n c i : Nat} (h : RdLL T w w.heap.size (.slice A n c) svs ll) (hb : Below w.heap.size w wr) (hi : i < ll.length) :
    ∃ g o A' c', A = some ⟨g, o, none⟩ ∧ g < w.heap.size ∧ wr.cell? ⟨g, o + i, none⟩ = some (.slice A' ll[i].length c') ∧ RdL T w w.heap.size (.slice A' ll[i].length c') ll[i] := by
  have hs : i < svs.length := by rw [h.len]; exact hi
  obtain ⟨g, o, cap, hv, hg, _, _, hc⟩ := (h.outer.below hb).at_ (List.getElem?_eq_getElem hs)
  have r := h.inner i _ _ (List.getElem?_eq_getElem hs) (List.getElem?_eq_getElem hi)
  obtain ⟨A', c', hv', _⟩ := id r
  injection hv with e1 _ _
  have := hc 0 _ rfl
  refine ⟨g, o, A', c', e1, hg, ?_, by rw [← hv']; exact r⟩
  rw [← hv']
  simpa [FS, SV.val] using this
theorem RdLL.len' {A : Option Addr} {n c : Nat} (h : RdLL T w B (.slice A n c) svs ll) : n = ll.length ∧ ll.length ≤ c ∧ c ≤ maxLen := by
  obtain ⟨A', c', hv, q1, q2, _⟩ := h.outer
  injection hv with _ e2 e3
  rw [h.len] at e2 q1
  subst e3
  exact ⟨e2, q1, q2⟩
theorem foot2_set {svs : List SV} {i : Nat} {s : SV} {b : Nat} (h : b ∈ foot2 v (svs.set i s)) : b ∈ foot2 v svs ∨ b ∈ foot1 s.val := by
  rcases mem_foot2.1 h with h1 | ⟨y, hy, h1⟩
  · exact .inl (mem_foot2.2 (.inl h1))
  · rcases List.mem_or_eq_of_mem_set hy with hy | hy
    · exact .inl (mem_foot2.2 (.inr ⟨y, hy, h1⟩))
    · rw [hy] at h1
      exact .inr (mem_foot1.2 h1)
theorem foot2_made (B n : Nat) : ∀ g ∈ foot2 (.slice (some ⟨B, 0, none⟩) n n) (List.replicate n ⟨none, 0, 0⟩), B ≤ g := by
  intro g hg
  rcases mem_foot2.1 hg with h | ⟨y, hy, h⟩
  · simp [Value.ownBlock] at h
    omega
  · rw [List.eq_of_mem_replicate hy] at h
    simp [SV.val, Value.ownBlock] at h

/-- How many elements and rows there are. -/
def szLL (ll : List (List α)) : Nat := ll.length + (ll.map List.length).sum

/-- How many elements. -/
def totLL (ll : List (List α)) : Nat := (ll.map List.length).sum
theorem totLL_take_succ (ll : List (List α)) (i : Nat) (hi : i < ll.length) : totLL (ll.take (i + 1)) = totLL (ll.take i) + ll[i].length := by
  unfold totLL
  rw [List.take_succ_eq_append_getElem hi, List.map_append, List.sum_append]
  simp only [List.map_cons, List.map_nil, List.sum_cons, List.sum_nil, Nat.add_zero]
theorem totLL_eq (ll : List (List α)) : totLL ll = ll.flatten.length := by unfold totLL; rw [List.length_flatten]
theorem totLL_take_le (ll : List (List α)) (i : Nat) : totLL (ll.take i) ≤ totLL ll := by
  unfold totLL
  conv => rhs; rw [← List.take_append_drop i ll]
  rw [List.map_append, List.sum_append]
  omega

theorem le_szLL {l : List α} (h : l ∈ ll) : l.length ≤ szLL ll := by
  have : l.length ≤ (ll.map List.length).sum := by
    induction ll with
    | nil => simp at h
    | cons x xs ih =>
      rcases List.mem_cons.1 h with rfl | h
      · simp
      · have := ih h
        simp; omega
  unfold szLL
  omega

end Go.Proofs.YtkmggglljkmjoaaGreat

/-
  What an argument that can be read is: ints, bools, records, slices of records, slices of slices.
-/
namespace Go.Proofs.YtkmggglljkmjoaaGreat
open Go.RowKit Go.ChangeShapes Go.WideShapes Go.Deep

def Opens (P : Program) (t : TypeId) (R : World → List Value → Prop) : Prop :=
  ∀ (H : Type) (enc : TypeId × Value → H) (W : World) (base : Nat) (spare : Nat → Bool) (held : Bool) (fuel : Nat) (cs : List Value) (x : DataW H × List MemPlace), DataW.trod enc P W base spare held fuel t cs = some x → R W cs

variable {P : Program} {t e : TypeId} {α : Type} {T : FT α}

theorem Opens.trod {R : World → List Value → Prop} (h : Opens P t R) {H : Type} {enc : TypeId × Value → H} {W : World} {base : Nat} {spare : Nat → Bool} {held : Bool} {v : Value} {d : DataW H} {ps : List MemPlace} (ht : DataW.Trod enc P W base spare held t v d ps) : R W v.cells.toList := by
  obtain ⟨fuel, hf⟩ := ht
  exact h H enc W base spare held fuel _ _ hf

theorem cell_spot {W : World} {a : Addr} {v : Value} (h : W.cell? a = some v) : a.spot = none := by
  unfold World.cell? at h
  split at h
  · split at h
    · cases h
    · rename_i hs
      cases hsp : a.spot with
      | none => rfl
      | some _ => rw [hsp] at hs; simp at hs
  · cases h

/-- The elements of a slice, by their cells: what both kinds of slices are opened by. -/
theorem opens_slice_cells {R : World → List Value → Prop} {n : Nat} (ht : P.underlying t = some (.slice e)) (hc : P.cellsOf e = n) (hn : 0 < n) (he : Opens P e R) :
    Opens P t fun W cs => ∃ A len cap, cs = [.slice A len cap] ∧ len ≤ cap ∧ cap ≤ maxLen ∧ (0 < len → ∃ g off, A = some ⟨g, off, none⟩ ∧ g < W.heap.size ∧
      ∀ i, i < len → ∃ cs', cs'.length = n ∧ R W cs' ∧ ∀ j u, cs'[j]? = some u → W.cell? ⟨g, off + (i * n + j), none⟩ = some u) := by
  intro H enc W base spare held fuel cs x h
  rcases open_slice ht h with ⟨rfl, _⟩ | ⟨a, len, cap, m, k, D, Pl, rfl, hb, hl, hm, hmm, _, hi⟩
  · exact ⟨none, 0, 0, rfl, Nat.le_refl _, by simp [maxLen], fun h => absurd h (by omega)⟩
  · refine ⟨some a, len, cap, rfl, hl, hm, fun hpos => ?_⟩
    have hlm : len ≤ m := by rw [hmm]; split <;> omega
    have hcell : ∀ i, i < len → ∃ cs', cs'.length = n ∧ R W cs' ∧ ∀ j, j < n → W.cell? ((a.add (i * n)).add j) = cs'[j]? := by
      intro i hil
      obtain ⟨cs', h1, h2⟩ := hi i (by omega)
      rw [hc] at h1
      obtain ⟨_, h3, h4⟩ := World.cells?_some h1
      exact ⟨cs', h3, he H enc W base spare held k _ _ h2, h4⟩
    obtain ⟨cs0, h3, _, h4⟩ := hcell 0 hpos
    have h5 := h4 0 hn
    rw [Nat.zero_mul] at h5
    have ha0 : (a.add 0).add 0 = a := by simp [Addr.add]
    rw [ha0, List.getElem?_eq_getElem (by omega)] at h5
    have hsp := cell_spot h5
    have hblk := World.block_lt_of_cell? W _ h5
    obtain ⟨g, off, spot⟩ := a
    simp only at hsp
    subst hsp
    refine ⟨g, off, rfl, hblk, fun i hil => ?_⟩
    obtain ⟨cs', q1, q2, q3⟩ := hcell i hil
    refine ⟨cs', q1, q2, fun j u hu => ?_⟩
    have hj : j < n := by
      have := (List.getElem?_eq_some_iff.1 hu).1
      omega
    have q4 := q3 j hj
    rw [hu, Go.Deep.add_add] at q4
    rw [← q4]
    congr 1
    unfold Addr.add
    by_cases h0 : i * n + j = 0
    · rw [if_pos h0, h0]; rfl
    · rw [if_neg h0]

theorem opens_flat (ht : P.underlying t = some (.slice e)) (hc : P.cellsOf e = T.n) (he : Opens P e fun _ cs => ∃ y, cs = T.enc y) :
    Opens P t fun W cs => ∃ v l, cs = [v] ∧ RdL T W W.heap.size v l := by
  intro H enc W base spare held fuel cs x h
  obtain ⟨A, len, cap, rfl, h1, h2, h3⟩ := opens_slice_cells ht hc T.pos he H enc W base spare held fuel cs x h
  by_cases hpos : 0 < len
  · obtain ⟨g, off, rfl, hg, hi⟩ := h3 hpos
    have : ∃ f : Nat → α, ∀ i, i < len → ∀ j u, (T.enc (f i))[j]? = some u → W.cell? ⟨g, off + (i * T.n + j), none⟩ = some u := by
      have hex : ∀ i, ∃ y : α, i < len → ∀ j u, (T.enc y)[j]? = some u → W.cell? ⟨g, off + (i * T.n + j), none⟩ = some u := by
        intro i
        by_cases hil : i < len
        · obtain ⟨cs', _, ⟨y, rfl⟩, q⟩ := hi i hil
          exact ⟨y, fun _ => q⟩
        · exact ⟨T.dflt, fun h => absurd h hil⟩
      exact ⟨fun i => Classical.choose (hex i), fun i hil => Classical.choose_spec (hex i) hil⟩
    obtain ⟨f, hf⟩ := this
    refine ⟨_, (List.range len).map f, rfl, some ⟨g, off, none⟩, cap, by simp, by simpa using h1, h2, fun _ => ⟨g, off, rfl, hg, fun j u hu => ?_⟩⟩
    have hj : j < len * T.n := by
      have := (List.getElem?_eq_some_iff.1 hu).1
      rw [length_flat] at this
      simpa using this
    have hp := T.pos
    have hq : j / T.n < len := by rw [Nat.div_lt_iff_lt_mul hp]; exact hj
    have hx : ((List.range len).map f)[j / T.n]? = some (f (j / T.n)) := by simp [hq]
    have hfg := flat_get T _ (j / T.n) (j % T.n) _ hx (Nat.mod_lt _ hp)
    have hjj : j / T.n * T.n + j % T.n = j := by rw [Nat.mul_comm]; exact Nat.div_add_mod j T.n
    rw [hjj] at hfg
    rw [hfg] at hu
    have := hf _ hq _ u hu
    rw [hjj] at this
    exact this
  · have h0 : len = 0 := by omega
    subst h0
    exact ⟨_, [], rfl, A, cap, rfl, h1, h2, fun hne => absurd rfl hne⟩

end Go.Proofs.YtkmggglljkmjoaaGreat

/-
  The flat types of the program: records of ints and bools.
-/
namespace Go.Proofs.YtkmggglljkmjoaaGreat
structure LRow where
  Handle : Int
  Epoch : Int
structure Pin where
  On : Bool
  Epoch : Int
  Marked : Bool
  Seen : Int
/-- int -/
def FI : FT Int := { n := 1, enc := fun x => [.int .i64 x], dflt := 0, len := fun _ => rfl, one := by intro x u hu; simp at hu; subst hu; rfl, pos := by decide, small := by decide }
def FLRow : FT LRow := { n := 2, enc := fun x => [.int .i64 x.Handle, .int .i64 x.Epoch], dflt := ⟨0, 0⟩, len := fun _ => rfl, one := by (intro x u hu; simp only [List.mem_cons, List.not_mem_nil, or_false] at hu; repeat (first | (rcases hu with rfl | hu; rfl) | (subst hu; rfl))), pos := by decide, small := by decide }
def FPin : FT Pin := { n := 4, enc := fun x => [.bool x.On, .int .i64 x.Epoch, .bool x.Marked, .int .i64 x.Seen], dflt := ⟨false, 0, false, 0⟩, len := fun _ => rfl, one := by (intro x u hu; simp only [List.mem_cons, List.not_mem_nil, or_false] at hu; repeat (first | (rcases hu with rfl | hu; rfl) | (subst hu; rfl))), pos := by decide, small := by decide }
end Go.Proofs.YtkmggglljkmjoaaGreat

/-
  append on a slice that the call owns: the walk's laws, said of lists.
-/
namespace Go.Proofs.YtkmggglljkmjoaaGreat
open Go.RowKit

/-- What is known of a slice type: t is []e, e's zero value and size. -/
structure ST {α : Type} (P : Program) (T : FT α) (t e : TypeId) : Prop where
  und : P.underlying t = some (.slice e)
  info : ∃ z bytes, (P.info? e).map (fun i => (i.zero, i.size, i.bytes)) = some (some z, T.n, bytes) ∧ z.cells.size = T.n ∧ bytes ≤ 1024

variable {α : Type} {T : FT α} {w : World} {t e : TypeId} {P : Program}

theorem flat_one (T : FT α) (l : List α) : ∀ u ∈ flat T l, u.oneCell' = true := by
  intro u hu
  obtain ⟨x, _, hx⟩ := List.mem_flatMap.1 hu
  exact T.one x u hx

theorem run_append_nil0 {base size : Nat} {i : TypeInfo} (ht : P.underlying t = some (.slice e)) (hi : P.info? e = some i)
    (v : Value) (n : Nat) (xs : List Value) (hown : w.ownsRow base e size v n xs) (A : Option Addr) (c : Nat) (ty : TypeId) : (Builtin.append_ #[t, t] ty #[v, .slice A 0 c]).run P w = .ok v w := by
  have hl : ∀ a, (loadCells a 0).run P w = .ok #[] w := fun a => run_loadCells_list (P := P) w a [] (fun j v hv => by simp at hv)
  rcases hown.2 with ⟨rfl, rfl⟩ | ⟨g, cap, cur, rfl, _, _, hnc, _⟩
  · cases A <;> simp [Builtin.append_, run_underlying ht, sizeOf, typeInfo, hi, Builtin.lenOf, Builtin.firstCells, hl]
  · cases A <;> simp [Builtin.append_, run_underlying ht, sizeOf, typeInfo, hi, Builtin.lenOf, Builtin.firstCells, hnc, storeCells, hl]

/-- append(v, x...): v owned, x read. -/
theorem run_append_flat (X : ST P T t e) (ty : TypeId) {v x : Value} {l m : List α} {B : Nat} (hown : OwL T e w v l) (hr : RdL T w B x m) (hlen : l.length + m.length ≤ 1073741824) :
    ∃ v' w', (Builtin.append_ #[t, t] ty #[v, x]).run P w = .ok v' w' ∧ OwL T e w' v' (l ++ m) ∧ w.grownBy w' v.ownBlock ∧ (v'.ownBlock = v.ownBlock ∨ v'.ownBlock = some w.heap.size) := by
  obtain ⟨A, cap, rfl, h1, h2, h3⟩ := hr
  obtain ⟨z, bytes, hinfo, hz, hby⟩ := X.info
  obtain ⟨i, hi, hzz⟩ := Option.map_eq_some_iff.1 hinfo
  simp only [Prod.mk.injEq] at hzz
  obtain ⟨q1, q2, q3⟩ := hzz
  by_cases hm : m = []
  · subst hm
    refine ⟨v, w, run_append_nil0 X.und hi v _ _ hown A cap ty, by simpa using hown, World.grownBy.refl w _, .inl rfl⟩
  · obtain ⟨g, off, rfl, hg, hc⟩ := h3 hm
    have hcells : ∀ j u, (flat T m)[j]? = some u → w.cell? ((⟨g, off, none⟩ : Addr).add j) = some u := by
      intro j u hu
      rw [← hc j u hu]
      unfold Addr.add
      by_cases hj : j = 0 <;> simp [hj]
    have hmx : l.length + m.length ≤ maxLen := by unfold maxLen; omega
    have hbb : (l.length + m.length) * bytes ≤ 140737488355328 := by
      calc (l.length + m.length) * bytes ≤ 1073741824 * 1024 := Nat.mul_le_mul hlen hby
        _ ≤ _ := by omega
    obtain ⟨v', w', hrun, k1, k2, _, k4⟩ := run_append_own_at (P := P) w 0 t ty e i z T.n bytes X.und hi q1 q2 q3 hz T.pos v l.length (flat T l) hown ⟨g, off, none⟩ m.length cap (flat T m) (length_flat T m) hcells (flat_one T m) hmx hbb (Nat.zero_le _)
    refine ⟨v', w', hrun, ?_, k2, k4⟩
    unfold OwL
    rw [List.length_append, flat_append]
    exact k1

theorem wp_append_flat {o : Oper} {a : Act} {K : Act → World → Prop} {Q : Exit → Act → World → Prop} (X : ST P T t e) (s x : Operand)
    (ho : o.op = .call { callee := .builtin .append, args := #[s, x], argTypes := #[t, t] })
    {v y : Value} {l m : List α} {B : Nat} (hs : a.eval s = v) (hx : a.eval x = y) (hown : OwL T e w v l) (hr : RdL T w B y m) (hlen : l.length + m.length ≤ 1073741824)
    (h : ∀ v' w', OwL T e w' v' (l ++ m) → w.grownBy w' v.ownBlock → (v'.ownBlock = v.ownBlock ∨ v'.ownBlock = some w.heap.size) → K (a.put o.dst v') w') : o.wp P a w K Q := by
  obtain ⟨v', w', hrun, h2, h3, h4⟩ := run_append_flat X o.type hown hr hlen
  unfold Oper.wp execOp
  simp only [ho, resolve, invoke, builtin, Sem.run_bind, Sem.run_pure, Result.andThen_ok, List.map_toArray, List.map_cons, List.map_nil, hs, hx, hrun]
  exact h v' w' h2 h3 h4

theorem wpList_append_flat {ops : Array Oper} {rest : List Oper} {o : Oper} {a : Act} {Q : Exit → Act → World → Prop} (X : ST P T t e) (hgd : o.guard = none) (s x : Operand)
    (ho : o.op = .call { callee := .builtin .append, args := #[s, x], argTypes := #[t, t] })
    {v y : Value} {l m : List α} {B : Nat} (hs : a.eval s = v) (hx : a.eval x = y) (hown : OwL T e w v l) (hr : RdL T w B y m) (hlen : l.length + m.length ≤ 1073741824)
    (h : ∀ v' w', OwL T e w' v' (l ++ m) → w.grownBy w' v.ownBlock → (v'.ownBlock = v.ownBlock ∨ v'.ownBlock = some w.heap.size) → wpList P ops Q rest (a.put o.dst v') w') : wpList P ops Q (o :: rest) a w :=
  wpList_plain hgd fun _ hK => wp_append_flat X s x ho hs hx hown hr hlen fun v' w' h2 h3 h4 => hK _ _ (h v' w' h2 h3 h4)

theorem step_append_flat {ops : Array Oper} {o : Oper} {a : Act} {K : Act → World → Prop} {Q : Exit → Act → World → Prop} {E : Prop} (X : ST P T t e) (hgd : o.guard = none) (s x : Operand)
    (ho : o.op = .call { callee := .builtin .append, args := #[s, x], argTypes := #[t, t] })
    {v y : Value} {l m : List α} {B : Nat} (hs : a.eval s = v) (hx : a.eval x = y) (hown : OwL T e w v l) (hr : RdL T w B y m) (hlen : l.length + m.length ≤ 1073741824)
    (h : ∀ v' w', OwL T e w' v' (l ++ m) → w.grownBy w' v.ownBlock → (v'.ownBlock = v.ownBlock ∨ v'.ownBlock = some w.heap.size) → K (a.put o.dst v') w') :
    if Region.wanted o (yielded ops a.tmps) = true then Oper.wp P o a w K Q else E := by
  have hw : Region.wanted o (yielded ops a.tmps) = true := by simp [Region.wanted, hgd]
  rw [if_pos hw]
  exact wp_append_flat X s x ho hs hx hown hr hlen h

/-- A slice literal. -/
theorem OwL.lit (T : FT α) (l : List α) (cs : Array Value) (hcs : cs.toList = flat T l) (hl : l.length ≤ maxLen) (w : World) (e : TypeId) :
    OwL T e (w.alloc (.cells cs e)) (.slice (some ⟨w.heap.size, 0, none⟩) l.length l.length) l := by
  have h := World.ownsRow_lit (base := 0) (e := e) (size := T.n) w cs l.length (Nat.zero_le _) hl (by rw [← Array.length_toList, hcs, length_flat])
  rw [hcs] at h
  exact h

/-- The blocks of a slice that was appended to. -/
theorem foot_app {w : World} {v v' : Value} (h : v'.ownBlock = v.ownBlock ∨ v'.ownBlock = some w.heap.size) : ∀ g ∈ foot1 v', g ∈ foot1 v ∨ g = w.heap.size := by
  intro g hg
  rw [mem_foot1] at hg
  rcases h with h | h
  · exact .inl (mem_foot1.2 (by rw [← h]; exact hg))
  · rw [h] at hg
    injection hg with hg
    exact .inr hg.symm

end Go.Proofs.YtkmggglljkmjoaaGreat

/-
  Small tests: within, l1In, isWorker: the contracts.
-/
namespace Go.Proofs.YtkmggglljkmjoaaGreat
open Go.RowKit
def inB (lo hi n : Int) : Bool := decide (lo ≤ n) && decide (n ≤ hi)
theorem inB_iff {lo hi n : Int} : inB lo hi n = true ↔ lo ≤ n ∧ n ≤ hi := by simp [inB]
theorem inB_not {lo hi n : Int} (h : inB lo hi n = false) : ¬ (lo ≤ n ∧ n ≤ hi) := by
  intro hh
  rw [inB_iff.2 hh] at h
  cases h
theorem inB_no {lo hi n : Int} (h : ¬ (lo ≤ n ∧ n ≤ hi)) : inB lo hi n = false := by
  cases hb : inB lo hi n
  · rfl
  · exact absurd (inB_iff.1 hb) h

set_option maxHeartbeats 400000 in
theorem within_ct (n lo hi : Int) (w : World) : Calls Tryz.prog 154 #[.int .i64 n, .int .i64 lo, .int .i64 hi] w fun e w' => e = .returned (.bool (inB lo hi n)) ∧ w = w' := by
  by_cases h1 : lo ≤ n
  · go_enter Tryz.func154, Tryz.ntmps154
    go_wp2
    go_ret
    exact ⟨ret_bool (by simp [inB, h1]), rfl⟩
  · go_enter Tryz.func154, Tryz.ntmps154
    go_wp2
    go_ret
    exact ⟨ret_bool (inB_no (by omega)).symm, rfl⟩
set_option maxHeartbeats 400000 in
theorem l1In_ct (n lo hi : Int) (w : World) : Calls Tryz.prog 102 #[.int .i64 n, .int .i64 lo, .int .i64 hi] w fun e w' => e = .returned (.bool (inB lo hi n)) ∧ w = w' := by
  by_cases h1 : lo ≤ n
  · go_enter Tryz.func102, Tryz.ntmps102
    go_wp2
    go_ret
    exact ⟨ret_bool (by simp [inB, h1]), rfl⟩
  · go_enter Tryz.func102, Tryz.ntmps102
    go_wp2
    go_ret
    exact ⟨ret_bool (inB_no (by omega)).symm, rfl⟩
end Go.Proofs.YtkmggglljkmjoaaGreat

/-
  Places in the arena: sizes, strides, slots, ranges: plain definitions and facts.
-/
namespace Go.Proofs.YtkmggglljkmjoaaGreat
open Go.RowKit
def perPage (c : Int) : Int := if c = 0 then 4 else if c = 1 then 2 else if c = 2 then 1 else 0
def strideOf (c : Int) : Int := if c = 0 then 12 else if c = 1 then 20 else if c = 2 then 44 else 0
def sizeOfC (c : Int) : Int := if c = 0 then 8 else if c = 1 then 16 else if c = 2 then 40 else 0
def classOfS (n : Int) : Int := if n < 1 then -1 else if n ≤ 8 then 0 else if n ≤ 16 then 1 else if n ≤ 40 then 2 else -1
def pageOfS (s : Int) : Int := if inB 0 23 s = true then s / 4 else -1
def indexOfS (s : Int) : Int := if inB 0 23 s = true then s % 4 else -1
def slotAtP (p i : Int) : Int := if inB 0 5 p = true ∧ inB 0 3 i = true then p * 4 + i else -1
def genAt (s c : Int) : Int := if inB 0 23 s = true ∧ inB 0 2 c = true ∧ s % 4 < perPage c then s / 4 * 64 + 8 + s % 4 * strideOf c else -1
def startAt (s c : Int) : Int := if genAt s c < 0 then -1 else genAt s c + 4
theorem cls {c : Int} (h : inB 0 2 c = true) : c = 0 ∨ c = 1 ∨ c = 2 := by
  have := inB_iff.1 h
  omega
theorem perPage_no {c : Int} (h : inB 0 2 c = false) : perPage c = 0 := by
  have := inB_not h
  unfold perPage
  rw [if_neg (by omega), if_neg (by omega), if_neg (by omega)]
theorem strideOf_no {c : Int} (h : inB 0 2 c = false) : strideOf c = 0 := by
  have := inB_not h
  unfold strideOf
  rw [if_neg (by omega), if_neg (by omega), if_neg (by omega)]
theorem sizeOfC_no {c : Int} (h : inB 0 2 c = false) : sizeOfC c = 0 := by
  have := inB_not h
  unfold sizeOfC
  rw [if_neg (by omega), if_neg (by omega), if_neg (by omega)]
theorem perPage_bd (c : Int) : 0 ≤ perPage c ∧ perPage c ≤ 4 := by
  unfold perPage
  repeat' split
  all_goals omega
theorem strideOf_bd (c : Int) : 0 ≤ strideOf c ∧ strideOf c ≤ 44 := by
  unfold strideOf
  repeat' split
  all_goals omega
theorem sizeOfC_bd (c : Int) : 0 ≤ sizeOfC c ∧ sizeOfC c ≤ 40 := by
  unfold sizeOfC
  repeat' split
  all_goals omega
theorem genAt_yes {s c : Int} (h1 : inB 0 23 s = true) (h2 : inB 0 2 c = true) (h3 : s % 4 < perPage c) : genAt s c = s / 4 * 64 + 8 + s % 4 * strideOf c := if_pos ⟨h1, h2, h3⟩
theorem genAt_no1 {s c : Int} (h1 : inB 0 23 s = false) : genAt s c = -1 := if_neg (by rw [h1]; simp)
theorem genAt_no2 {s c : Int} (h1 : inB 0 2 c = false) : genAt s c = -1 := if_neg (by rw [h1]; simp)
theorem genAt_no3 {s c : Int} (h1 : ¬ s % 4 < perPage c) : genAt s c = -1 := if_neg (fun h => h1 h.2.2)
theorem genAt_bd (s c : Int) : genAt s c = -1 ∨ (8 ≤ genAt s c ∧ genAt s c + 4 + sizeOfC c ≤ 384) := by
  by_cases h : inB 0 23 s = true ∧ inB 0 2 c = true ∧ s % 4 < perPage c
  · right
    obtain ⟨h1, h2, h3⟩ := h
    rw [genAt_yes h1 h2 h3]
    have a := inB_iff.1 h1
    rcases cls h2 with rfl | rfl | rfl
    · simp [perPage, strideOf, sizeOfC] at *; omega
    · simp [perPage, strideOf, sizeOfC] at *; omega
    · simp [perPage, strideOf, sizeOfC] at *; omega
  · exact .inl (if_neg h)
theorem genAt_iff {s c : Int} : 0 ≤ genAt s c ↔ inB 0 23 s = true ∧ inB 0 2 c = true ∧ s % 4 < perPage c := by
  constructor
  · intro h
    by_cases k : inB 0 23 s = true ∧ inB 0 2 c = true ∧ s % 4 < perPage c
    · exact k
    · unfold genAt at h
      rw [if_neg k] at h
      omega
  · rintro ⟨h1, h2, h3⟩
    rcases genAt_bd s c with h | h
    · rw [genAt_yes h1 h2 h3] at h
      have a := inB_iff.1 h1
      have b := strideOf_bd c
      have d : 0 ≤ s % 4 * strideOf c := Int.mul_nonneg (by omega) b.1
      omega
    · omega
end Go.Proofs.YtkmggglljkmjoaaGreat

/-
  Places in the arena: the contracts of the small functions.
-/
namespace Go.Proofs.YtkmggglljkmjoaaGreat
open Go.RowKit
theorem isByte_ct (n : Int) (w : World) : Calls Tryz.prog 241 #[.int .i64 n] w fun e w' => e = .returned (.bool (inB 0 255 n)) ∧ w = w' := by
  go_enter Tryz.func241, Tryz.ntmps241
  go_wp2_with (go_at_call 154; refine (within_ct _ _ _ _).mono ?_; rintro e w1 ⟨rfl, rfl⟩)
  go_ret
  exact ⟨rfl, rfl⟩
theorem isSlot_ct (n : Int) (w : World) : Calls Tryz.prog 120 #[.int .i64 n] w fun e w' => e = .returned (.bool (inB 0 23 n)) ∧ w = w' := by
  go_enter Tryz.func120, Tryz.ntmps120
  go_wp2_with (go_at_call 154; refine (within_ct _ _ _ _).mono ?_; rintro e w1 ⟨rfl, rfl⟩)
  go_ret
  exact ⟨rfl, rfl⟩
set_option maxHeartbeats 1000000 in
theorem StrideOf_impl (c : Int) (w : World) : Calls Tryz.prog 180 #[.int .i64 c] w fun e w' => e = .returned (.int .i64 (strideOf c)) ∧ w = w' := by
  have hix := @run_index_one Tryz.prog _ _ _ Tryz.underlying146 (fun _ => by kernel_rfl) (by kernel_rfl)
  by_cases h : inB 0 2 c = true
  · rcases cls h with rfl | rfl | rfl <;>
      (go_enter Tryz.func180, Tryz.ntmps180; go_wp2; go_ret; exact ⟨rfl, rfl⟩)
  · have h' : inB 0 2 c = false := (Bool.not_eq_true _).mp h
    have hn := inB_not h'
    have HS := Hid.mk_ (strideOf_no h')
    have n0 : (c == 0) = false := by simp; omega
    have n1 : (c == 1) = false := by simp; omega
    have n2 : (c == 2) = false := by simp; omega
    clear h
    rcases (show c < 0 ∨ 2 < c by omega) with h1 | h1
    · have h0 : ¬ 0 ≤ c := by omega
      go_enter Tryz.func180, Tryz.ntmps180
      go_wp2
      go_ret
      exact ⟨ret_i64 HS.out.symm, rfl⟩
    · have h0 : ¬ c ≤ 2 := by omega
      go_enter Tryz.func180, Tryz.ntmps180
      go_wp2
      go_ret
      exact ⟨ret_i64 HS.out.symm, rfl⟩
set_option maxHeartbeats 1000000 in
theorem PerPage_impl (c : Int) (w : World) : Calls Tryz.prog 179 #[.int .i64 c] w fun e w' => e = .returned (.int .i64 (perPage c)) ∧ w = w' := by
  have hix := @run_index_one Tryz.prog _ _ _ Tryz.underlying146 (fun _ => by kernel_rfl) (by kernel_rfl)
  by_cases h : inB 0 2 c = true
  · rcases cls h with rfl | rfl | rfl <;>
      (go_enter Tryz.func179, Tryz.ntmps179; go_wp2; go_ret; exact ⟨rfl, rfl⟩)
  · have h' : inB 0 2 c = false := (Bool.not_eq_true _).mp h
    have hn := inB_not h'
    have HS := Hid.mk_ (perPage_no h')
    have n0 : (c == 0) = false := by simp; omega
    have n1 : (c == 1) = false := by simp; omega
    have n2 : (c == 2) = false := by simp; omega
    clear h
    rcases (show c < 0 ∨ 2 < c by omega) with h1 | h1
    · have h0 : ¬ 0 ≤ c := by omega
      go_enter Tryz.func179, Tryz.ntmps179
      go_wp2
      go_ret
      exact ⟨ret_i64 HS.out.symm, rfl⟩
    · have h0 : ¬ c ≤ 2 := by omega
      go_enter Tryz.func179, Tryz.ntmps179
      go_wp2
      go_ret
      exact ⟨ret_i64 HS.out.symm, rfl⟩
set_option maxHeartbeats 1000000 in
theorem SizeOf_spec (c : Int) (w : World) : Calls Tryz.prog 28 #[.int .i64 c] w fun e w' => e = .returned (.int .i64 (sizeOfC c)) ∧ w = w' := by
  by_cases h : inB 0 2 c = true
  · rcases cls h with rfl | rfl | rfl <;>
      (go_enter Tryz.func28, Tryz.ntmps28; go_wp2; go_ret; exact ⟨rfl, rfl⟩)
  · have h' : inB 0 2 c = false := (Bool.not_eq_true _).mp h
    have hn := inB_not h'
    have HS := Hid.mk_ (sizeOfC_no h')
    have n0 : (c == 0) = false := by simp; omega
    have n1 : (c == 1) = false := by simp; omega
    have n2 : (c == 2) = false := by simp; omega
    clear h
    rcases (show c < 0 ∨ 2 < c by omega) with h1 | h1
    · have h0 : ¬ 0 ≤ c := by omega
      go_enter Tryz.func28, Tryz.ntmps28
      go_wp2
      go_ret
      exact ⟨ret_i64 HS.out.symm, rfl⟩
    · have h0 : ¬ c ≤ 2 := by omega
      go_enter Tryz.func28, Tryz.ntmps28
      go_wp2
      go_ret
      exact ⟨ret_i64 HS.out.symm, rfl⟩
set_option maxHeartbeats 1000000 in
theorem PerPage_spec (c : Int) (w : World) : Calls Tryz.prog 150 #[.int .i64 c] w fun e w' => e = .returned (.int .i64 (perPage c)) ∧ w = w' := by
  by_cases h : inB 0 2 c = true
  · rcases cls h with rfl | rfl | rfl <;>
      (go_enter Tryz.func150, Tryz.ntmps150; go_wp2; go_ret; exact ⟨rfl, rfl⟩)
  · have h' : inB 0 2 c = false := (Bool.not_eq_true _).mp h
    have hn := inB_not h'
    have HS := Hid.mk_ (perPage_no h')
    have n0 : (c == 0) = false := by simp; omega
    have n1 : (c == 1) = false := by simp; omega
    have n2 : (c == 2) = false := by simp; omega
    clear h
    rcases (show c < 0 ∨ 2 < c by omega) with h1 | h1
    · have h0 : ¬ 0 ≤ c := by omega
      go_enter Tryz.func150, Tryz.ntmps150
      go_wp2
      go_ret
      exact ⟨ret_i64 HS.out.symm, rfl⟩
    · have h0 : ¬ c ≤ 2 := by omega
      go_enter Tryz.func150, Tryz.ntmps150
      go_wp2
      go_ret
      exact ⟨ret_i64 HS.out.symm, rfl⟩
set_option maxHeartbeats 1000000 in
theorem PageOf_spec (s : Int) (w : World) : Calls Tryz.prog 148 #[.int .i64 s] w fun e w' => e = .returned (.int .i64 (pageOfS s)) ∧ w = w' := by
  by_cases h : inB 0 23 s = true
  · have hb := inB_iff.1 h
    obtain ⟨b1, b2⟩ := hb
    have HS := Hid.mk_ (show pageOfS s = s / 4 from if_pos h)
    go_enter Tryz.func148, Tryz.ntmps148
    go_wp2_with (go_at_call 102; refine (l1In_ct _ _ _ _).mono ?_; rintro e w1 ⟨rfl, rfl⟩)
    go_ret
    exact ⟨ret_i64 HS.out.symm, rfl⟩
  · have HS := Hid.mk_ (show pageOfS s = -1 from if_neg h)
    have h' : inB 0 23 s = false := (Bool.not_eq_true _).mp h
    clear h
    go_enter Tryz.func148, Tryz.ntmps148
    go_wp2_with (go_at_call 102; refine (l1In_ct _ _ _ _).mono ?_; rintro e w1 ⟨rfl, rfl⟩)
    go_ret
    exact ⟨ret_i64 HS.out.symm, rfl⟩
set_option maxHeartbeats 1000000 in
theorem IndexOf_spec (s : Int) (w : World) : Calls Tryz.prog 149 #[.int .i64 s] w fun e w' => e = .returned (.int .i64 (indexOfS s)) ∧ w = w' := by
  by_cases h : inB 0 23 s = true
  · have hb := inB_iff.1 h
    obtain ⟨b1, b2⟩ := hb
    have HS := Hid.mk_ (show indexOfS s = s % 4 from if_pos h)
    go_enter Tryz.func149, Tryz.ntmps149
    go_wp2_with (go_at_call 102; refine (l1In_ct _ _ _ _).mono ?_; rintro e w1 ⟨rfl, rfl⟩)
    go_ret
    exact ⟨ret_i64 HS.out.symm, rfl⟩
  · have HS := Hid.mk_ (show indexOfS s = -1 from if_neg h)
    have h' : inB 0 23 s = false := (Bool.not_eq_true _).mp h
    clear h
    go_enter Tryz.func149, Tryz.ntmps149
    go_wp2_with (go_at_call 102; refine (l1In_ct _ _ _ _).mono ?_; rintro e w1 ⟨rfl, rfl⟩)
    go_ret
    exact ⟨ret_i64 HS.out.symm, rfl⟩
set_option maxHeartbeats 2000000 in
theorem GenAt_impl (s c : Int) (w : World) : Calls Tryz.prog 121 #[.int .i64 s, .int .i64 c] w fun e w' => e = .returned (.int .i64 (genAt s c)) ∧ w = w' := by
  have hix := @run_index_one Tryz.prog _ _ _ Tryz.underlying146 (fun _ => by kernel_rfl) (by kernel_rfl)
  by_cases h : inB 0 23 s = true
  case neg =>
    have h' : inB 0 23 s = false := (Bool.not_eq_true _).mp h
    have HS := Hid.mk_ (genAt_no1 (c := c) h')
    have hn := inB_not h'
    rcases (show s < 0 ∨ 23 < s by omega) with h1 | h1
    · have h0 : ¬ 0 ≤ s := by omega
      go_enter Tryz.func121, Tryz.ntmps121
      go_wp2
      go_ret
      exact ⟨ret_i64 HS.out.symm, rfl⟩
    · have h0 : ¬ s ≤ 23 := by omega
      go_enter Tryz.func121, Tryz.ntmps121
      go_wp2
      go_ret
      exact ⟨ret_i64 HS.out.symm, rfl⟩
  obtain ⟨b1, b2⟩ := inB_iff.1 h
  by_cases hc : inB 0 2 c = true
  case neg =>
    have hc' : inB 0 2 c = false := (Bool.not_eq_true _).mp hc
    have HS := Hid.mk_ (genAt_no2 (s := s) hc')
    have hn := inB_not hc'
    have n0 : (c == 0) = false := by simp; omega
    have n1 : (c == 1) = false := by simp; omega
    have n2 : (c == 2) = false := by simp; omega
    clear h hc hc'
    rcases (show c < 0 ∨ 2 < c by omega) with h1 | h1
    · have h0 : ¬ 0 ≤ c := by omega
      go_enter Tryz.func121, Tryz.ntmps121
      go_wp2
      go_ret
      exact ⟨ret_i64 HS.out.symm, rfl⟩
    · have h0 : ¬ c ≤ 2 := by omega
      go_enter Tryz.func121, Tryz.ntmps121
      go_wp2
      go_ret
      exact ⟨ret_i64 HS.out.symm, rfl⟩
  by_cases hp : s % 4 < perPage c
  · have HS := Hid.mk_ (genAt_yes h hc hp)
    rcases cls hc with rfl | rfl | rfl <;>
      (simp [perPage] at hp; clear h hc; go_enter Tryz.func121, Tryz.ntmps121; go_wp2; go_ret; exact ⟨ret_i64 (by rw [HS.out]; simp [strideOf]), rfl⟩)
  · have HS := Hid.mk_ (genAt_no3 (s := s) (c := c) hp)
    rcases cls hc with rfl | rfl | rfl
    · exact absurd (show s % 4 < perPage 0 by show s % 4 < 4; omega) hp
    · (simp [perPage] at hp; clear h hc; go_enter Tryz.func121, Tryz.ntmps121; go_wp2; go_ret; exact ⟨ret_i64 (by rw [HS.out]), rfl⟩)
    · (simp [perPage] at hp; clear h hc; go_enter Tryz.func121, Tryz.ntmps121; go_wp2; go_ret; exact ⟨ret_i64 (by rw [HS.out]), rfl⟩)
set_option maxHeartbeats 2000000 in
theorem GenAt_spec (s c : Int) (w : World) : Calls Tryz.prog 158 #[.int .i64 s, .int .i64 c] w fun e w' => e = .returned (.int .i64 (genAt s c)) ∧ w = w' := by
  by_cases h : inB 0 23 s = true
  case neg =>
    have h' : inB 0 23 s = false := (Bool.not_eq_true _).mp h
    have HS := Hid.mk_ (genAt_no1 (c := c) h')
    have hn := inB_not h'
    rcases (show s < 0 ∨ 23 < s by omega) with h1 | h1
    · have h0 : ¬ 0 ≤ s := by omega
      go_enter Tryz.func158, Tryz.ntmps158
      go_wp2
      go_ret
      exact ⟨ret_i64 HS.out.symm, rfl⟩
    · have h0 : ¬ s ≤ 23 := by omega
      go_enter Tryz.func158, Tryz.ntmps158
      go_wp2
      go_ret
      exact ⟨ret_i64 HS.out.symm, rfl⟩
  obtain ⟨b1, b2⟩ := inB_iff.1 h
  by_cases hc : inB 0 2 c = true
  case neg =>
    have hc' : inB 0 2 c = false := (Bool.not_eq_true _).mp hc
    have HS := Hid.mk_ (genAt_no2 (s := s) hc')
    have hn := inB_not hc'
    have k1 : ¬ s / 4 < 0 := by omega
    have k2 : ¬ s % 4 ≤ -1 := by omega
    have n0 : (c == 0) = false := by simp; omega
    have n1 : (c == 1) = false := by simp; omega
    have n2 : (c == 2) = false := by simp; omega
    clear h hc hc'
    rcases (show c < 0 ∨ 2 < c by omega) with h1 | h1
    · have h0 : ¬ 0 ≤ c := by omega
      go_enter Tryz.func158, Tryz.ntmps158
      go_wp2
      go_ret
      exact ⟨ret_i64 HS.out.symm, rfl⟩
    · have h0 : ¬ c ≤ 2 := by omega
      go_enter Tryz.func158, Tryz.ntmps158
      go_wp2
      go_ret
      exact ⟨ret_i64 HS.out.symm, rfl⟩
  have k1 : ¬ s / 4 < 0 := by omega
  by_cases hp : s % 4 < perPage c
  · have hp' : s % 4 ≤ perPage c - 1 := by omega
    have HS := Hid.mk_ (genAt_yes h hc hp)
    rcases cls hc with rfl | rfl | rfl <;>
      (simp [perPage] at hp hp'; clear hp; clear h hc; go_enter Tryz.func158, Tryz.ntmps158; go_wp2; go_ret; exact ⟨ret_i64 (by rw [HS.out]; simp [strideOf]), rfl⟩)
  · have hp' : ¬ s % 4 ≤ perPage c - 1 := by omega
    have HS := Hid.mk_ (genAt_no3 (s := s) (c := c) hp)
    rcases cls hc with rfl | rfl | rfl
    · exact absurd (show s % 4 < perPage 0 by show s % 4 < 4; omega) hp
    · (simp [perPage] at hp hp'; clear hp; rw [← Int.not_le] at hp'; clear h hc; go_enter Tryz.func158, Tryz.ntmps158; go_wp2; go_ret; exact ⟨ret_i64 (by rw [HS.out]), rfl⟩)
    · (simp [perPage] at hp hp'; clear hp; rw [← Int.not_le] at hp'; clear h hc; go_enter Tryz.func158, Tryz.ntmps158; go_wp2; go_ret; exact ⟨ret_i64 (by rw [HS.out]), rfl⟩)
end Go.Proofs.YtkmggglljkmjoaaGreat

/-
  Lists of ints searched; bytes: the contracts.
-/
namespace Go.Proofs.YtkmggglljkmjoaaGreat
open Go.RowKit

def idxOf {α : Type} (p : α → Bool) (l : List α) : Int := match l.findIdx? p with | some i => i | none => -1
theorem idxOf_hit {α : Type} (p : α → Bool) (l : List α) (i : Nat) (hi : i < l.length) (h : (l.take i).any p = false) (hp : p l[i] = true) : idxOf p l = i := by
  have hf : l.findIdx? p = some i := by
    rw [List.findIdx?_eq_some_iff_getElem]
    refine ⟨hi, hp, fun j hj => ?_⟩
    rw [List.any_eq_false] at h
    exact h l[j] (List.mem_take_iff_getElem.2 ⟨j, by omega, rfl⟩)
  unfold idxOf
  rw [hf]
theorem idxOf_none {α : Type} (p : α → Bool) (l : List α) (h : l.any p = false) : idxOf p l = -1 := by
  have hf : l.findIdx? p = none := by
    rw [List.findIdx?_eq_none_iff]
    intro x hx
    rw [List.any_eq_false] at h
    simpa using h x hx
  unfold idxOf
  rw [hf]
theorem any_take_succ {α : Type} (p : α → Bool) (l : List α) (i : Nat) (hi : i < l.length) (h : (l.take i).any p = false) (hp : p l[i] = false) : (l.take (i + 1)).any p = false := by
  rw [List.take_succ_eq_append_getElem hi, List.any_append, h]
  simp [hp]
theorem idxOf_ge {α : Type} (p : α → Bool) (l : List α) : decide (0 ≤ idxOf p l) = l.any p := by
  unfold idxOf
  cases h : l.findIdx? p with
  | none =>
    rw [List.findIdx?_eq_none_iff] at h
    have : l.any p = false := by
      rw [List.any_eq_false]
      intro x hx
      simp [h x hx]
    rw [this]
    rfl
  | some i =>
    rw [List.findIdx?_eq_some_iff_getElem] at h
    obtain ⟨hi, hp, _⟩ := h
    have : l.any p = true := List.any_eq_true.2 ⟨l[i], List.getElem_mem hi, hp⟩
    rw [this]
    simp

theorem all_not_any {α : Type} (p : α → Bool) (l : List α) : l.all p = !(l.any fun x => !p x) := by
  induction l with
  | nil => rfl
  | cons x l ih => simp [ih]
def bytesOkB (b : List Int) : Bool := decide (b.length ≤ 1000) && b.all (inB 0 255)
def loadTo (b : List Int) (a : Nat) : Nat → Int
  | 0 => 0
  | k + 1 => loadTo b a k * 256 + b.getD (a + k) 0
def loadN (b : List Int) (a k : Int) : Int := loadTo b a.toNat k.toNat
theorem getD_at {α : Type} {b : List α} {d : α} {i : Nat} (h : i < b.length) : b.getD i d = b[i] := by simp [List.getD, h]
theorem getD_off {α : Type} {b : List α} {d : α} {i : Nat} (h : b.length ≤ i) : b.getD i d = d := by simp [List.getD, h]
theorem byte_at {b : List Int} (hb : b.all (inB 0 255) = true) (i : Nat) : 0 ≤ b.getD i 0 ∧ b.getD i 0 ≤ 255 := by
  by_cases h : i < b.length
  · rw [getD_at h]
    exact inB_iff.1 (List.all_eq_true.1 hb _ (List.getElem_mem h))
  · rw [getD_off (by omega)]
    omega
theorem loadTo_bd {b : List Int} (hb : b.all (inB 0 255) = true) (a k : Nat) : 0 ≤ loadTo b a k ∧ loadTo b a k < 256 ^ k := by
  induction k with
  | zero => exact ⟨Int.le_refl _, by show (0 : Int) < 1; omega⟩
  | succ k ih =>
    have h1 := byte_at hb (a + k)
    show 0 ≤ loadTo b a k * 256 + b.getD (a + k) 0 ∧ loadTo b a k * 256 + b.getD (a + k) 0 < 256 ^ (k + 1)
    rw [Int.pow_succ]
    omega
theorem loadTo_small {b : List Int} (hb : b.all (inB 0 255) = true) (a k : Nat) (hk : k ≤ 6) : 0 ≤ loadTo b a k ∧ loadTo b a k ≤ 281474976710656 := by
  have h1 := loadTo_bd hb a k
  have h2 : (256 : Int) ^ k ≤ 281474976710656 := by
    rcases (show k = 0 ∨ k = 1 ∨ k = 2 ∨ k = 3 ∨ k = 4 ∨ k = 5 ∨ k = 6 by omega) with rfl | rfl | rfl | rfl | rfl | rfl | rfl <;> decide
  omega

set_option maxHeartbeats 400000 in
theorem BytesOk_spec (w : World) (v : Value) (b : List Int) (h : RdL FI w w.heap.size v b) :
    Calls Tryz.prog 147 #[v] w fun e w' => e = .returned (.bool (bytesOkB b)) ∧ w = w' := by
  obtain ⟨A, c, hv, q1, q2, _⟩ := id h
  have hlt0 : b.length ≤ 9223372036854775807 := by unfold maxLen at q2; omega
  subst hv
  clear q1 q2
  have HE := Hid.mk_ (show bytesOkB b = (decide (b.length ≤ 1000) && b.all (inB 0 255)) from rfl)
  go_enter Tryz.func147, Tryz.ntmps147
  go_wp2
  go_loop [3] (fun i => ∃ k : Nat, k ≤ b.length ∧ i = .int .i64 k ∧ Hid ((b.take k).all (inB 0 255) = true)) (fun i => b.length - (intOf i).toNat)
  case atStart => exact ⟨0, Nat.zero_le _, rfl, rfl⟩
  case round =>
    obtain ⟨i, hi, rfl, HT⟩ := hrel
    by_cases hlt : i < b.length
    · obtain ⟨g, off, cap', he, hg, _, _, hc⟩ := h.at_ (List.getElem?_eq_getElem hlt)
      injection he with he1 he2 he3
      clear he2
      subst he1 he3
      have p0 : w.cell? ⟨g, off + i, none⟩ = some (.int .i64 b[i]) := by simpa [FI] using hc 0 _ rfl
      clear hc h
      by_cases c1 : inB 0 255 b[i] = true
      · have HN := Hid.mk_ (show (b.take (i + 1)).all (inB 0 255) = true by rw [List.take_succ_eq_append_getElem hlt, List.all_append, HT.out]; simp [c1])
        go_wp2_with (go_at_call 102; refine (l1In_ct _ _ _ _).mono ?_; rintro e w1 ⟨rfl, rfl⟩)
        go_round
        case rel => exact ⟨i + 1, by omega, by go_num, HN⟩
        case measure => simp [intOf]; omega
      · have c1' : inB 0 255 b[i] = false := (Bool.not_eq_true _).mp c1
        have HN := Hid.mk_ (show b.all (inB 0 255) = false from List.all_eq_false.2 ⟨b[i], List.getElem_mem hlt, by rw [c1']; decide⟩)
        clear c1
        go_wp2_with (go_at_call 102; refine (l1In_ct _ _ _ _).mono ?_; rintro e w1 ⟨rfl, rfl⟩)
        go_ret
        exact ⟨ret_bool (by rw [HE.out, HN.out]; simp), rfl⟩
    · obtain rfl : i = b.length := by omega
      have HN := Hid.mk_ (show b.all (inB 0 255) = true by have a := HT.out; rwa [List.take_length] at a)
      by_cases hl : b.length ≤ 1000
      · go_wp2
        go_ret
        exact ⟨ret_bool (by rw [HE.out, HN.out]; simp; omega), rfl⟩
      · go_wp2
        go_ret
        exact ⟨ret_bool (by rw [HE.out]; simp [hl]; omega), rfl⟩

set_option maxHeartbeats 1000000 in
theorem loadNum_impl (w : World) (v : Value) (b : List Int) (a k : Int) (h : RdL FI w w.heap.size v b) (ha : 0 ≤ a) (hk1 : 1 ≤ k) (hk7 : k ≤ 7) (hl : a + k ≤ b.length) (hb : b.all (inB 0 255) = true) :
    Calls Tryz.prog 90 #[v, .int .i64 a, .int .i64 k] w fun e w' => e = .returned (.int .i64 (loadN b a k)) ∧ w = w' := by
  obtain ⟨A, c, hv, q1, q2, _⟩ := id h
  have hlt0 : b.length ≤ 9223372036854775807 := by unfold maxLen at q2; omega
  subst hv
  obtain ⟨a, rfl⟩ := Int.eq_ofNat_of_zero_le ha
  obtain ⟨k, rfl⟩ := Int.eq_ofNat_of_zero_le (Int.le_trans (by decide) hk1)
  have HB := Hid.mk_ (loadTo_small hb a)
  have HY := Hid.mk_ (fun i => byte_at hb i)
  have hl' : a + k ≤ b.length := by omega
  have hk7' : k ≤ 7 := by omega
  have hk1' : 1 ≤ k := by omega
  clear q2 ha hb hl hk7 hk1
  have HE := Hid.mk_ (show loadN b (a : Int) (k : Int) = loadTo b a k from rfl)
  have HS := Hid.mk_ (fun i => (show loadTo b a (i + 1) = loadTo b a i * 256 + b.getD (a + i) 0 from rfl))
  have H0 := Hid.mk_ (show loadTo b a 0 = 0 from rfl)
  obtain ⟨g, off, cap', he, hg, _, _, _⟩ := h.at_ (List.getElem?_eq_getElem (show a < b.length by omega))
  injection he with he1 he2 he3
  clear he2
  subst he1 he3
  have hac : ¬ c = a := by omega
  go_enter Tryz.func90, Tryz.ntmps90
  go_wp2
  go_loop [7, 17] (fun n i => ∃ j : Nat, j ≤ k ∧ i = .int .i64 j ∧ n = .int .i64 (loadTo b a j)) (fun _ i => k - (intOf i).toNat)
  case atStart => exact ⟨0, Nat.zero_le _, rfl, by rw [H0.out]⟩
  case round =>
    obtain ⟨i, hi, rfl, rfl⟩ := hrel
    by_cases hlt : i < k
    · have hai : a + i < b.length := by omega
      obtain ⟨g1, off1, cap1, he, hg1, _, _, hc⟩ := h.at_ (List.getElem?_eq_getElem hai)
      injection he with he1 he2 he3
      injection he1 with he1
      injection he1 with he1 he4
      clear he2
      subst he1 he3 he4
      obtain ⟨y1, y2⟩ := HY.out (a + i)
      obtain ⟨x1, x2⟩ := HB.out i (by omega)
      have HX := Hid.mk_ (HS.out i)
      have e1 : b.getD (a + i) 0 = b[a + i] := getD_at hai
      rw [e1] at y1 y2 HX
      have p0 : w.cell? ⟨g, off + (a + i), none⟩ = some (.int .i64 b[a + i]) := by simpa [FI] using hc 0 _ rfl
      have p1 : w.cell? ⟨g, off + a + i, none⟩ = some (.int .i64 b[a + i]) := by rw [Nat.add_assoc]; exact p0
      generalize b[a + i] = y at p0 p1 y1 y2 HX
      generalize loadTo b a i = x at x1 x2 HX
      clear hc e1 h
      go_wp2
      go_round
      case rel => exact ⟨i + 1, by omega, by go_num, by rw [HX.out]; first | done | go_num⟩
      case measure => simp [intOf]; omega
    · obtain rfl : i = k := by omega
      go_wp2
      go_ret
      exact ⟨ret_i64 HE.out.symm, rfl⟩

set_option maxHeartbeats 1000000 in
theorem l3Load_spec (w : World) (v : Value) (b : List Int) (a k : Int) (h : RdL FI w w.heap.size v b) (ha : 0 ≤ a) (hk1 : 1 ≤ k) (hk7 : k ≤ 7) (hl : a + k ≤ b.length) (hb : b.all (inB 0 255) = true) :
    Calls Tryz.prog 109 #[v, .int .i64 a, .int .i64 k] w fun e w' => e = .returned (.int .i64 (loadN b a k)) ∧ w = w' := by
  obtain ⟨A, c, hv, q1, q2, _⟩ := id h
  have hlt0 : b.length ≤ 9223372036854775807 := by unfold maxLen at q2; omega
  subst hv
  obtain ⟨a, rfl⟩ := Int.eq_ofNat_of_zero_le ha
  obtain ⟨k, rfl⟩ := Int.eq_ofNat_of_zero_le (Int.le_trans (by decide) hk1)
  have HB := Hid.mk_ (loadTo_small hb a)
  have HY := Hid.mk_ (fun i => byte_at hb i)
  have hl' : a + k ≤ b.length := by omega
  have hk7' : k ≤ 7 := by omega
  have hk1' : 1 ≤ k := by omega
  clear q2 ha hb hl hk7 hk1
  have HE := Hid.mk_ (show loadN b (a : Int) (k : Int) = loadTo b a k from rfl)
  have HS := Hid.mk_ (fun i => (show loadTo b a (i + 1) = loadTo b a i * 256 + b.getD (a + i) 0 from rfl))
  have H0 := Hid.mk_ (show loadTo b a 0 = 0 from rfl)
  obtain ⟨g, off, cap', he, hg, _, _, _⟩ := h.at_ (List.getElem?_eq_getElem (show a < b.length by omega))
  injection he with he1 he2 he3
  clear he2
  subst he1 he3
  have hac : ¬ c = a := by omega
  go_enter Tryz.func109, Tryz.ntmps109
  go_wp2
  go_loop [7, 8] (fun n i => ∃ j : Nat, j ≤ k ∧ i = .int .i64 j ∧ n = .int .i64 (loadTo b a j)) (fun _ i => k - (intOf i).toNat)
  case atStart => exact ⟨0, Nat.zero_le _, rfl, by rw [H0.out]⟩
  case round =>
    obtain ⟨i, hi, rfl, rfl⟩ := hrel
    by_cases hlt : i < k
    · have hai : a + i < b.length := by omega
      obtain ⟨g1, off1, cap1, he, hg1, _, _, hc⟩ := h.at_ (List.getElem?_eq_getElem hai)
      injection he with he1 he2 he3
      injection he1 with he1
      injection he1 with he1 he4
      clear he2
      subst he1 he3 he4
      obtain ⟨y1, y2⟩ := HY.out (a + i)
      obtain ⟨x1, x2⟩ := HB.out i (by omega)
      have HX := Hid.mk_ (HS.out i)
      have e1 : b.getD (a + i) 0 = b[a + i] := getD_at hai
      rw [e1] at y1 y2 HX
      have p0 : w.cell? ⟨g, off + (a + i), none⟩ = some (.int .i64 b[a + i]) := by simpa [FI] using hc 0 _ rfl
      have p1 : w.cell? ⟨g, off + a + i, none⟩ = some (.int .i64 b[a + i]) := by rw [Nat.add_assoc]; exact p0
      generalize b[a + i] = y at p0 p1 y1 y2 HX
      generalize loadTo b a i = x at x1 x2 HX
      clear hc e1 h
      go_wp2
      go_round
      case rel => exact ⟨i + 1, by omega, by go_num, by rw [HX.out]; first | done | go_num⟩
      case measure => simp [intOf]; omega
    · obtain rfl : i = k := by omega
      go_wp2
      go_ret
      exact ⟨ret_i64 HE.out.symm, rfl⟩
end Go.Proofs.YtkmggglljkmjoaaGreat

/-
  Slices of ints: copied, compared, marked.
-/
namespace Go.Proofs.YtkmggglljkmjoaaGreat
open Go.RowKit

theorem Tryz.infoInt : (Tryz.prog.info? 3).map (fun i => (i.zero, i.size, i.bytes)) = some (some (.int .i64 0), FI.n, 8) := by kernel_rfl
end Go.Proofs.YtkmggglljkmjoaaGreat
/-
  Slices of ints marked and held.
-/
namespace Go.Proofs.YtkmggglljkmjoaaGreat
open Go.RowKit
end Go.Proofs.YtkmggglljkmjoaaGreat
/-
  Heaps, lists, memories: what a value reads as, and what the call owns.
-/
namespace Go.Proofs.YtkmggglljkmjoaaGreat
open Go.RowKit
structure Heap where
  Bytes : List Int
  Class : List Int
structure HHeap where
  Bytes : SV
  Class : SV
@[reducible] def HHeap.val (H : HHeap) (_x : Heap) : Value := .agg #[.slice H.Bytes.a H.Bytes.len H.Bytes.cap, .slice H.Class.a H.Class.len H.Class.cap]
def HHeap.foot (H : HHeap) : List Nat := foot1 H.Bytes.val ++ foot1 H.Class.val
structure RdHeap (w : World) (B : Nat) (H : HHeap) (x : Heap) : Prop where
  Bytes : RdL FI w B H.Bytes.val x.Bytes
  Class : RdL FI w B H.Class.val x.Class
structure OwHeap (w : World) (H : HHeap) (x : Heap) : Prop where
  Bytes : OwL FI 3 w H.Bytes.val x.Bytes
  Class : OwL FI 3 w H.Class.val x.Class
  d01 : ∀ g ∈ foot1 H.Bytes.val, g ∉ foot1 H.Class.val
theorem RdHeap.keep {w w' : World} {B B' : Nat} {H : HHeap} {x : Heap} (h : RdHeap w B H x) (hk : ∀ k, k < B → w'.heap[k]? = w.heap[k]?) (hB : B ≤ B') : RdHeap w' B' H x :=
  ⟨h.Bytes.keep hk hB, h.Class.keep hk hB⟩
theorem rdHeap_up {w w' : World} {H : HHeap} {x : Heap} (h : RdHeap w w.heap.size H x) (hb : Below w.heap.size w w') : RdHeap w' w'.heap.size H x := h.keep hb.block hb.size
theorem HHeap.mem_foot {H : HHeap} {g : Nat} : g ∈ H.foot ↔ g ∈ foot1 H.Bytes.val ∨ g ∈ foot1 H.Class.val := by
  unfold HHeap.foot
  simp only [List.mem_append]
theorem OwHeap.lt {w : World} {H : HHeap} {x : Heap} (h : OwHeap w H x) : ∀ g ∈ H.foot, g < w.heap.size := by
  intro g hg
  rcases HHeap.mem_foot.1 hg with hg | hg
  · exact (foot_lt h.Bytes) g hg
  · exact (foot_lt h.Class) g hg
theorem OwHeap.keep {w w' : World} {H : HHeap} {x : Heap} (h : OwHeap w H x) (hk : ∀ g ∈ H.foot, w'.heap[g]? = w.heap[g]?) : OwHeap w' H x :=
  ⟨h.Bytes.keep (fun g hg => hk g (HHeap.mem_foot.2 (.inl (mem_foot1.2 hg)))), h.Class.keep (fun g hg => hk g (HHeap.mem_foot.2 ((.inr (mem_foot1.2 hg))))), h.d01⟩
theorem OwHeap.chg {w w' : World} {H : HHeap} {x : Heap} {F : List Nat} (h : OwHeap w H x) (hc : Chg F w w') (hd : ∀ g ∈ H.foot, g ∉ F) : OwHeap w' H x := h.keep fun g hg => hc.block g (h.lt g hg) (hd g hg)
theorem OwHeap.rd {w : World} {B : Nat} {H : HHeap} {x : Heap} (h : OwHeap w H x) (hB : ∀ g ∈ H.foot, g < B) : RdHeap w B H x :=
  ⟨h.Bytes.rd (fun g hg => hB g (HHeap.mem_foot.2 (.inl (mem_foot1.2 hg)))), h.Class.rd (fun g hg => hB g (HHeap.mem_foot.2 ((.inr (mem_foot1.2 hg)))))⟩
theorem OwHeap.rd' {w : World} {H : HHeap} {x : Heap} (h : OwHeap w H x) : RdHeap w w.heap.size H x := h.rd h.lt
def sizeHeap (x : Heap) : Nat := x.Bytes.length + x.Class.length
structure Lists where
  Global : List (List Int)
  Own : List (List Int)
structure HLists where
  Global : SV
  GlobalT : List SV
  Own : SV
  OwnT : List SV
@[reducible] def HLists.val (H : HLists) (_x : Lists) : Value := .agg #[.slice H.Global.a H.Global.len H.Global.cap, .slice H.Own.a H.Own.len H.Own.cap]
def HLists.foot (H : HLists) : List Nat := foot2 H.Global.val H.GlobalT ++ foot2 H.Own.val H.OwnT
structure RdLists (w : World) (B : Nat) (H : HLists) (x : Lists) : Prop where
  Global : RdLL FI w B H.Global.val H.GlobalT x.Global
  Own : RdLL FI w B H.Own.val H.OwnT x.Own
structure OwLists (w : World) (H : HLists) (x : Lists) : Prop where
  Global : OwLL FI 3 94 w H.Global.val H.GlobalT x.Global
  Own : OwLL FI 3 94 w H.Own.val H.OwnT x.Own
  d01 : ∀ g ∈ foot2 H.Global.val H.GlobalT, g ∉ foot2 H.Own.val H.OwnT
theorem RdLists.keep {w w' : World} {B B' : Nat} {H : HLists} {x : Lists} (h : RdLists w B H x) (hk : ∀ k, k < B → w'.heap[k]? = w.heap[k]?) (hB : B ≤ B') : RdLists w' B' H x :=
  ⟨h.Global.keep hk hB, h.Own.keep hk hB⟩
theorem rdLists_up {w w' : World} {H : HLists} {x : Lists} (h : RdLists w w.heap.size H x) (hb : Below w.heap.size w w') : RdLists w' w'.heap.size H x := h.keep hb.block hb.size
theorem HLists.mem_foot {H : HLists} {g : Nat} : g ∈ H.foot ↔ g ∈ foot2 H.Global.val H.GlobalT ∨ g ∈ foot2 H.Own.val H.OwnT := by
  unfold HLists.foot
  simp only [List.mem_append]
theorem OwLists.lt {w : World} {H : HLists} {x : Lists} (h : OwLists w H x) : ∀ g ∈ H.foot, g < w.heap.size := by
  intro g hg
  rcases HLists.mem_foot.1 hg with hg | hg
  · exact h.Global.lt g hg
  · exact h.Own.lt g hg
theorem OwLists.keep {w w' : World} {H : HLists} {x : Lists} (h : OwLists w H x) (hk : ∀ g ∈ H.foot, w'.heap[g]? = w.heap[g]?) : OwLists w' H x :=
  ⟨h.Global.keep (fun g hg => hk g (HLists.mem_foot.2 (.inl hg))), h.Own.keep (fun g hg => hk g (HLists.mem_foot.2 ((.inr hg)))), h.d01⟩
theorem OwLists.chg {w w' : World} {H : HLists} {x : Lists} {F : List Nat} (h : OwLists w H x) (hc : Chg F w w') (hd : ∀ g ∈ H.foot, g ∉ F) : OwLists w' H x := h.keep fun g hg => hc.block g (h.lt g hg) (hd g hg)
theorem OwLists.rd {w : World} {B : Nat} {H : HLists} {x : Lists} (h : OwLists w H x) (hB : ∀ g ∈ H.foot, g < B) : RdLists w B H x :=
  ⟨h.Global.rd (fun g hg => hB g (HLists.mem_foot.2 (.inl hg))), h.Own.rd (fun g hg => hB g (HLists.mem_foot.2 ((.inr hg))))⟩
theorem OwLists.rd' {w : World} {H : HLists} {x : Lists} (h : OwLists w H x) : RdLists w w.heap.size H x := h.rd h.lt
def sizeLists (x : Lists) : Nat := szLL x.Global + szLL x.Own
structure Mem where
  Heap : Heap
  Lists : Lists
structure HMem where
  Heap : HHeap
  Lists : HLists
@[reducible] def HMem.val (H : HMem) (_x : Mem) : Value := .agg #[.slice H.Heap.Bytes.a H.Heap.Bytes.len H.Heap.Bytes.cap, .slice H.Heap.Class.a H.Heap.Class.len H.Heap.Class.cap, .slice H.Lists.Global.a H.Lists.Global.len H.Lists.Global.cap, .slice H.Lists.Own.a H.Lists.Own.len H.Lists.Own.cap]
def HMem.foot (H : HMem) : List Nat := H.Heap.foot ++ H.Lists.foot
structure RdMem (w : World) (B : Nat) (H : HMem) (x : Mem) : Prop where
  Heap : RdHeap w B H.Heap x.Heap
  Lists : RdLists w B H.Lists x.Lists
structure OwMem (w : World) (H : HMem) (x : Mem) : Prop where
  Heap : OwHeap w H.Heap x.Heap
  Lists : OwLists w H.Lists x.Lists
  d01 : ∀ g ∈ H.Heap.foot, g ∉ H.Lists.foot
theorem RdMem.keep {w w' : World} {B B' : Nat} {H : HMem} {x : Mem} (h : RdMem w B H x) (hk : ∀ k, k < B → w'.heap[k]? = w.heap[k]?) (hB : B ≤ B') : RdMem w' B' H x :=
  ⟨h.Heap.keep hk hB, h.Lists.keep hk hB⟩
theorem rdMem_up {w w' : World} {H : HMem} {x : Mem} (h : RdMem w w.heap.size H x) (hb : Below w.heap.size w w') : RdMem w' w'.heap.size H x := h.keep hb.block hb.size
theorem HMem.mem_foot {H : HMem} {g : Nat} : g ∈ H.foot ↔ g ∈ H.Heap.foot ∨ g ∈ H.Lists.foot := by
  unfold HMem.foot
  simp only [List.mem_append]
theorem OwMem.lt {w : World} {H : HMem} {x : Mem} (h : OwMem w H x) : ∀ g ∈ H.foot, g < w.heap.size := by
  intro g hg
  rcases HMem.mem_foot.1 hg with hg | hg
  · exact h.Heap.lt g hg
  · exact h.Lists.lt g hg
theorem OwMem.keep {w w' : World} {H : HMem} {x : Mem} (h : OwMem w H x) (hk : ∀ g ∈ H.foot, w'.heap[g]? = w.heap[g]?) : OwMem w' H x :=
  ⟨h.Heap.keep (fun g hg => hk g (HMem.mem_foot.2 (.inl hg))), h.Lists.keep (fun g hg => hk g (HMem.mem_foot.2 ((.inr hg)))), h.d01⟩
theorem OwMem.chg {w w' : World} {H : HMem} {x : Mem} {F : List Nat} (h : OwMem w H x) (hc : Chg F w w') (hd : ∀ g ∈ H.foot, g ∉ F) : OwMem w' H x := h.keep fun g hg => hc.block g (h.lt g hg) (hd g hg)
theorem OwMem.rd {w : World} {B : Nat} {H : HMem} {x : Mem} (h : OwMem w H x) (hB : ∀ g ∈ H.foot, g < B) : RdMem w B H x :=
  ⟨h.Heap.rd (fun g hg => hB g (HMem.mem_foot.2 (.inl hg))), h.Lists.rd (fun g hg => hB g (HMem.mem_foot.2 ((.inr hg))))⟩
theorem OwMem.rd' {w : World} {H : HMem} {x : Mem} (h : OwMem w H x) : RdMem w w.heap.size H x := h.rd h.lt
def sizeMem (x : Mem) : Nat := sizeHeap x.Heap + sizeLists x.Lists
end Go.Proofs.YtkmggglljkmjoaaGreat

/-
  Heaps: the shape: the contracts.
-/
namespace Go.Proofs.YtkmggglljkmjoaaGreat
open Go.RowKit

set_option maxHeartbeats 1000000 in
theorem IndexFuncIntQ_ct (w : World) (v : Value) (l : List Int) (h : RdL FI w w.heap.size v l) (fid : FuncId) (cap : Array Value) (p : Int → Bool) (hent : ∀ (x : Int) (W : World), (callFunc fid (#[.int .i64 x] ++ cap)).run Tryz.prog W = .ok (.enter fid (#[.int .i64 x] ++ cap)) W) (hf : ∀ (x : Int), x ∈ l → Calls Tryz.prog fid (#[.int .i64 x] ++ cap) w fun e W' => e = .returned (.bool (p x)) ∧ w = W') :
    Calls Tryz.prog 220 #[v, .func (.func fid) #[] cap] w fun e w' => e = .returned (.int .i64 (idxOf p l)) ∧ w = w' := by
  obtain ⟨A, c, hv, q1, q2, _⟩ := id h
  have hlt0 : l.length ≤ 9223372036854775807 := by unfold maxLen at q2; omega
  subst hv
  have HF := Hid.mk_ hf
  clear hf q1 q2
  go_enter Tryz.func220, Tryz.ntmps220
  go_wp2
  go_loop [5, 8] (fun _ i => ∃ i' : Nat, i' ≤ l.length ∧ i = .int .i64 i' ∧ Hid ((l.take i').any p = false)) (fun _ i => l.length - (intOf i).toNat)
  case atStart => exact ⟨0, Nat.zero_le _, rfl, rfl⟩
  case round =>
    obtain ⟨i, hi, rfl, HN⟩ := hrel
    by_cases hlt : i < l.length
    · obtain ⟨g, off, cap', he, hg, _, _, hc⟩ := h.at_ (List.getElem?_eq_getElem hlt)
      injection he with he1 he2 he3
      clear he2
      subst he1 he3
      have p0 : w.cell? ⟨g, off + i, none⟩ = some (.int .i64 l[i]) := by simpa [FI] using hc 0 _ rfl
      clear hc h
      go_wp2_with fail
      refine (HF.out l[i] (List.getElem_mem hlt)).mono ?_
      rintro e w1 ⟨rfl, rfl⟩
      by_cases hp : p l[i] = true
      · have HP := Hid.mk_ (idxOf_hit p l i hlt HN.out hp)
        rw [hp]
        clear hp
        go_wp2
        go_ret
        exact ⟨ret_i64 HP.out.symm, rfl⟩
      · have hp' : p l[i] = false := by simpa using hp
        have HP := Hid.mk_ (any_take_succ p l i hlt HN.out hp')
        rw [hp']
        clear hp hp'
        go_wp2
        go_round
        case rel => exact ⟨i + 1, by omega, by go_num, HP⟩
        case measure => simp [intOf]; omega
    · go_wp2
      go_ret
      obtain rfl : i = l.length := by omega
      exact ⟨ret_i64 (idxOf_none p l (by simpa using HN.out)).symm, rfl⟩
set_option maxHeartbeats 1000000 in
theorem ContainsFuncIntQ_ct (w : World) (v : Value) (l : List Int) (h : RdL FI w w.heap.size v l) (fid : FuncId) (cap : Array Value) (p : Int → Bool) (hent : ∀ (x : Int) (W : World), (callFunc fid (#[.int .i64 x] ++ cap)).run Tryz.prog W = .ok (.enter fid (#[.int .i64 x] ++ cap)) W) (hf : ∀ (x : Int), x ∈ l → Calls Tryz.prog fid (#[.int .i64 x] ++ cap) w fun e W' => e = .returned (.bool (p x)) ∧ w = W') :
    Calls Tryz.prog 184 #[v, .func (.func fid) #[] cap] w fun e w' => e = .returned (.bool (l.any p)) ∧ w = w' := by
  have HF := Hid.mk_ hf
  clear hf
  go_enter Tryz.func184, Tryz.ntmps184
  go_wp2_with fail
  refine (IndexFuncIntQ_ct w v l h fid cap p hent HF.out).mono ?_
  rintro e w1 ⟨rfl, rfl⟩
  have HP := Hid.mk_ (idxOf_ge p l)
  go_wp2
  go_ret
  exact ⟨ret_bool HP.out, rfl⟩
theorem isZero1_impl (x : Int) (w : World) : Calls Tryz.prog 242 #[.int .i64 x] w fun e w' => e = .returned (.bool (x != 0)) ∧ w = w' := by
  go_enter Tryz.func242, Tryz.ntmps242
  go_wp2
  go_ret
  exact ⟨rfl, rfl⟩
def zerosB (b : List Int) : Bool := b.all fun x => x == 0
theorem isZero_impl (w : World) (v : Value) (b : List Int) (h : RdL FI w w.heap.size v b) :
    Calls Tryz.prog 228 #[v] w fun e w' => e = .returned (.bool (zerosB b)) ∧ w = w' := by
  have HA := Hid.mk_ (show zerosB b = !(b.any fun x => x != 0) by unfold zerosB; rw [all_not_any]; rfl)
  go_enter Tryz.func228, Tryz.ntmps228
  go_wp2_with fail
  refine (ContainsFuncIntQ_ct w _ b h 242 #[] (fun x => x != 0) (fun _ _ => by kernel_rfl) (fun x _ => isZero1_impl x w)).mono ?_
  rintro e w1 ⟨rfl, rfl⟩
  go_wp2
  go_ret
  exact ⟨ret_bool HA.out.symm, rfl⟩
theorem BytesOk1_implQ (x : Int) (w : World) : Calls Tryz.prog 240 #[.int .i64 x] w fun e w' => e = .returned (.bool (!inB 0 255 x)) ∧ w = w' := by
  go_enter Tryz.func240, Tryz.ntmps240
  go_wp2_with (go_at_call 241; refine (isByte_ct _ _).mono ?_; rintro e w1 ⟨rfl, rfl⟩)
  go_ret
  exact ⟨rfl, rfl⟩
set_option maxHeartbeats 400000 in
theorem BytesOk_implQ (w : World) (v : Value) (b : List Int) (h : RdL FI w w.heap.size v b) :
    Calls Tryz.prog 226 #[v] w fun e w' => e = .returned (.bool (bytesOkB b)) ∧ w = w' := by
  obtain ⟨A, c, hv, q1, q2, _⟩ := id h
  have hlt0 : b.length ≤ 9223372036854775807 := by unfold maxLen at q2; omega
  subst hv
  clear q1 q2
  have HA := Hid.mk_ (all_not_any (inB 0 255) b)
  by_cases hl : b.length ≤ 1000
  · have HE := Hid.mk_ (show bytesOkB b = b.all (inB 0 255) by simp [bytesOkB, hl])
    go_enter Tryz.func226, Tryz.ntmps226
    go_wp2_with fail
    refine (ContainsFuncIntQ_ct w _ b h 240 #[] (fun x => !inB 0 255 x) (fun _ _ => by kernel_rfl) (fun x _ => BytesOk1_implQ x w)).mono ?_
    rintro e w1 ⟨rfl, rfl⟩
    go_wp2
    go_ret
    exact ⟨ret_bool (by rw [HE.out, HA.out]), rfl⟩
  · have HE := Hid.mk_ (show bytesOkB b = false by simp [bytesOkB, hl])
    go_enter Tryz.func226, Tryz.ntmps226
    go_wp2
    go_ret
    exact ⟨ret_bool HE.out.symm, rfl⟩
theorem shaped1_impl (x : Int) (w : World) : Calls Tryz.prog 227 #[.int .i64 x] w fun e w' => e = .returned (.bool (!inB (-1) 2 x)) ∧ w = w' := by
  go_enter Tryz.func227, Tryz.ntmps227
  go_wp2_with (go_at_call 154; refine (within_ct _ _ _ _).mono ?_; rintro e w1 ⟨rfl, rfl⟩)
  go_ret
  exact ⟨rfl, rfl⟩

def shapeB (h : Heap) : Bool := (h.Bytes.length == 384) && (h.Class.length == 6) && bytesOkB h.Bytes && h.Class.all (inB (-1) 2)
structure Shape (h : Heap) : Prop where
  bl : h.Bytes.length = 384
  cl : h.Class.length = 6
  by_ : h.Bytes.all (inB 0 255) = true
  cs : ∀ i, -1 ≤ h.Class.getD i (-1) ∧ h.Class.getD i (-1) ≤ 2
theorem shape_of {h : Heap} (k : shapeB h = true) : Shape h := by
  simp only [shapeB, bytesOkB, Bool.and_eq_true, beq_iff_eq] at k
  obtain ⟨⟨⟨k1, k2⟩, k3, k4⟩, k5⟩ := k
  refine ⟨k1, k2, k4, fun i => ?_⟩
  by_cases hi : i < h.Class.length
  · rw [getD_at hi]
    exact inB_iff.1 (List.all_eq_true.1 k5 _ (List.getElem_mem hi))
  · rw [getD_off (by omega)]
    omega
def clAt (h : Heap) (s : Int) : Int := h.Class.getD (s / 4).toNat (-1)
def classInB (h : Heap) (s : Int) : Int := if genAt s (clAt h s) < 0 then -1 else clAt h s
def genInB (h : Heap) (s : Int) : Int := if classInB h s < 0 then 0 else loadN h.Bytes (genAt s (classInB h s)) 4

set_option maxRecDepth 100000 in
set_option maxHeartbeats 1000000 in
theorem shaped_impl (w : World) (H : HHeap) (x : Heap) (h : RdHeap w w.heap.size H x) :
    Calls Tryz.prog 195 #[.agg #[.slice H.Bytes.a H.Bytes.len H.Bytes.cap, .slice H.Class.a H.Class.len H.Class.cap]] w fun e w' => e = .returned (.bool (shapeB x)) ∧ Below w.heap.size w w' := by
  obtain ⟨⟨A1, n1, c1⟩, ⟨A2, n2, c2⟩⟩ := H
  obtain ⟨bs, cs⟩ := x
  have hr1 : RdL FI w w.heap.size (.slice A1 n1 c1) bs := h.Bytes
  have hr2 : RdL FI w w.heap.size (.slice A2 n2 c2) cs := h.Class
  obtain ⟨_, _, hv, q1, q2, qx⟩ := id hr1
  simp only [Value.slice.injEq] at hv
  obtain ⟨rfl, rfl, rfl⟩ := hv
  have hlt1 : bs.length ≤ 9223372036854775807 := by unfold maxLen at q2; omega
  clear q1 q2 qx
  obtain ⟨_, _, hv, q1, q2, qx⟩ := id hr2
  simp only [Value.slice.injEq] at hv
  obtain ⟨rfl, rfl, rfl⟩ := hv
  have hlt2 : cs.length ≤ 9223372036854775807 := by unfold maxLen at q2; omega
  clear q1 q2 qx h
  have HE := Hid.mk_ (show shapeB ⟨bs, cs⟩ = ((bs.length == 384) && (cs.length == 6) && bytesOkB bs && cs.all (inB (-1) 2)) from rfl)
  show Calls Tryz.prog 195 #[.agg #[.slice A1 bs.length c1, .slice A2 cs.length c2]] _ _
  by_cases k1 : (bs.length == 384) = true
  case neg =>
    have k1' : (bs.length == 384) = false := (Bool.not_eq_true _).mp k1
    clear k1
    have k1x : (((bs.length : Nat) : Int) == 384) = false := by simp at k1' ⊢; omega
    have HF := Hid.mk_ k1'
    clear k1'
    go_enter Tryz.func195, Tryz.ntmps195
    go_wp2_with (go_at_call 226; refine (BytesOk_implQ _ _ bs (rd_up hr1 (by repeat (first | exact Below.refl _ _ | refine Below.alloc ?_ (by simp <;> omega) _ | refine below_grow_of ?_ (by simp <;> omega) _ _ | refine Below.drew ?_)))).mono ?_; rintro e w1 ⟨rfl, rfl⟩)
    go_ret
    exact ⟨ret_bool (by rw [HE.out, HF.out]; simp), by repeat (first | exact Below.refl _ _ | refine Below.alloc ?_ (by simp <;> omega) _ | refine below_grow_of ?_ (by simp <;> omega) _ _ | refine Below.drew ?_)⟩
  have k1x : (((bs.length : Nat) : Int) == 384) = true := by simp at k1 ⊢; omega
  have k1h := Hid.mk_ k1
  clear k1
  by_cases k3 : bytesOkB bs = true
  case neg =>
    have k3' : bytesOkB bs = false := (Bool.not_eq_true _).mp k3
    clear k3
    go_enter Tryz.func195, Tryz.ntmps195
    go_wp2_with (go_at_call 226; refine (BytesOk_implQ _ _ bs (rd_up hr1 (by repeat (first | exact Below.refl _ _ | refine Below.alloc ?_ (by simp <;> omega) _ | refine below_grow_of ?_ (by simp <;> omega) _ _ | refine Below.drew ?_)))).mono ?_; rintro e w1 ⟨rfl, rfl⟩)
    go_ret
    exact ⟨ret_bool (by rw [HE.out, k3']; simp), by repeat (first | exact Below.refl _ _ | refine Below.alloc ?_ (by simp <;> omega) _ | refine below_grow_of ?_ (by simp <;> omega) _ _ | refine Below.drew ?_)⟩
  by_cases k2 : (cs.length == 6) = true
  case neg =>
    have k2' : (cs.length == 6) = false := (Bool.not_eq_true _).mp k2
    clear k2
    have k2x : (((cs.length : Nat) : Int) == 6) = false := by simp at k2' ⊢; omega
    have HF := Hid.mk_ k2'
    clear k2'
    go_enter Tryz.func195, Tryz.ntmps195
    go_wp2_with (go_at_call 226; refine (BytesOk_implQ _ _ bs (rd_up hr1 (by repeat (first | exact Below.refl _ _ | refine Below.alloc ?_ (by simp <;> omega) _ | refine below_grow_of ?_ (by simp <;> omega) _ _ | refine Below.drew ?_)))).mono ?_; rintro e w1 ⟨rfl, rfl⟩)
    go_ret
    exact ⟨ret_bool (by rw [HE.out, HF.out]; simp), by repeat (first | exact Below.refl _ _ | refine Below.alloc ?_ (by simp <;> omega) _ | refine below_grow_of ?_ (by simp <;> omega) _ _ | refine Below.drew ?_)⟩
  have k2x : (((cs.length : Nat) : Int) == 6) = true := by simp at k2 ⊢; omega
  have k2h := Hid.mk_ k2
  clear k2
  have HA := Hid.mk_ (all_not_any (inB (-1) 2) cs)
  go_enter Tryz.func195, Tryz.ntmps195
  go_wp2_with (go_at_call 226; refine (BytesOk_implQ _ _ bs (rd_up hr1 (by repeat (first | exact Below.refl _ _ | refine Below.alloc ?_ (by simp <;> omega) _ | refine below_grow_of ?_ (by simp <;> omega) _ _ | refine Below.drew ?_)))).mono ?_; rintro e w1 ⟨rfl, rfl⟩)
  refine (ContainsFuncIntQ_ct _ _ cs (rd_up hr2 (by repeat (first | exact Below.refl _ _ | refine Below.alloc ?_ (by simp <;> omega) _ | refine below_grow_of ?_ (by simp <;> omega) _ _ | refine Below.drew ?_))) 227 #[] (fun x => !inB (-1) 2 x) (fun _ _ => by kernel_rfl) (fun x _ => shaped1_impl x _)).mono ?_
  rintro e w2 ⟨rfl, rfl⟩
  go_wp2
  go_ret
  exact ⟨ret_bool (by rw [HE.out, k1h.out, k2h.out, k3, HA.out]; rfl), by repeat (first | exact Below.refl _ _ | refine Below.alloc ?_ (by simp <;> omega) _ | refine below_grow_of ?_ (by simp <;> omega) _ _ | refine Below.drew ?_)⟩

set_option maxRecDepth 100000 in
set_option maxHeartbeats 1000000 in
theorem l7Shape_spec (w : World) (H : HHeap) (x : Heap) (h : RdHeap w w.heap.size H x) :
    Calls Tryz.prog 76 #[.agg #[.slice H.Bytes.a H.Bytes.len H.Bytes.cap, .slice H.Class.a H.Class.len H.Class.cap]] w fun e w' => e = .returned (.bool (shapeB x)) ∧ Below w.heap.size w w' := by
  obtain ⟨⟨A1, n1, c1⟩, ⟨A2, n2, c2⟩⟩ := H
  obtain ⟨bs, cs⟩ := x
  have hr1 : RdL FI w w.heap.size (.slice A1 n1 c1) bs := h.Bytes
  have hr2 : RdL FI w w.heap.size (.slice A2 n2 c2) cs := h.Class
  obtain ⟨_, _, hv, q1, q2, qx⟩ := id hr1
  simp only [Value.slice.injEq] at hv
  obtain ⟨rfl, rfl, rfl⟩ := hv
  have hlt1 : bs.length ≤ 9223372036854775807 := by unfold maxLen at q2; omega
  clear q1 q2 qx
  obtain ⟨_, _, hv, q1, q2, qx⟩ := id hr2
  simp only [Value.slice.injEq] at hv
  obtain ⟨rfl, rfl, rfl⟩ := hv
  have hlt2 : cs.length ≤ 9223372036854775807 := by unfold maxLen at q2; omega
  clear q1 q2 qx h
  have HE := Hid.mk_ (show shapeB ⟨bs, cs⟩ = ((bs.length == 384) && (cs.length == 6) && bytesOkB bs && cs.all (inB (-1) 2)) from rfl)
  show Calls Tryz.prog 76 #[.agg #[.slice A1 bs.length c1, .slice A2 cs.length c2]] _ _
  by_cases k1 : (bs.length == 384) = true
  case neg =>
    have k1' : (bs.length == 384) = false := (Bool.not_eq_true _).mp k1
    clear k1
    have k1x : (((bs.length : Nat) : Int) != 384) = true := by simp at k1' ⊢; omega
    have HF := Hid.mk_ k1'
    clear k1'
    go_enter Tryz.func76, Tryz.ntmps76
    go_wp2_with (go_at_call 147; refine (BytesOk_spec _ _ bs (rd_up hr1 (by repeat (first | exact Below.refl _ _ | refine Below.alloc ?_ (by simp <;> omega) _ | refine below_grow_of ?_ (by simp <;> omega) _ _ | refine Below.drew ?_)))).mono ?_; rintro e w1 ⟨rfl, rfl⟩)
    go_ret
    exact ⟨ret_bool (by rw [HE.out, HF.out]; simp), by repeat (first | exact Below.refl _ _ | refine Below.alloc ?_ (by simp <;> omega) _ | refine below_grow_of ?_ (by simp <;> omega) _ _ | refine Below.drew ?_)⟩
  have k1x : (((bs.length : Nat) : Int) != 384) = false := by simp at k1 ⊢; omega
  have k1h := Hid.mk_ k1
  clear k1
  by_cases k2 : (cs.length == 6) = true
  case neg =>
    have k2' : (cs.length == 6) = false := (Bool.not_eq_true _).mp k2
    clear k2
    have k2x : (((cs.length : Nat) : Int) != 6) = true := by simp at k2' ⊢; omega
    have HF := Hid.mk_ k2'
    clear k2'
    go_enter Tryz.func76, Tryz.ntmps76
    go_wp2_with (go_at_call 147; refine (BytesOk_spec _ _ bs (rd_up hr1 (by repeat (first | exact Below.refl _ _ | refine Below.alloc ?_ (by simp <;> omega) _ | refine below_grow_of ?_ (by simp <;> omega) _ _ | refine Below.drew ?_)))).mono ?_; rintro e w1 ⟨rfl, rfl⟩)
    go_ret
    exact ⟨ret_bool (by rw [HE.out, HF.out]; simp), by repeat (first | exact Below.refl _ _ | refine Below.alloc ?_ (by simp <;> omega) _ | refine below_grow_of ?_ (by simp <;> omega) _ _ | refine Below.drew ?_)⟩
  have k2x : (((cs.length : Nat) : Int) != 6) = false := by simp at k2 ⊢; omega
  have k2h := Hid.mk_ k2
  clear k2
  by_cases k3 : bytesOkB bs = true
  case neg =>
    have k3' : bytesOkB bs = false := (Bool.not_eq_true _).mp k3
    clear k3
    go_enter Tryz.func76, Tryz.ntmps76
    go_wp2_with (go_at_call 147; refine (BytesOk_spec _ _ bs (rd_up hr1 (by repeat (first | exact Below.refl _ _ | refine Below.alloc ?_ (by simp <;> omega) _ | refine below_grow_of ?_ (by simp <;> omega) _ _ | refine Below.drew ?_)))).mono ?_; rintro e w1 ⟨rfl, rfl⟩)
    go_ret
    exact ⟨ret_bool (by rw [HE.out, k3']; simp), by repeat (first | exact Below.refl _ _ | refine Below.alloc ?_ (by simp <;> omega) _ | refine below_grow_of ?_ (by simp <;> omega) _ _ | refine Below.drew ?_)⟩
  have hl6 : cs.length = 6 := by simpa using k2h.out
  have HB0 : Below w.heap.size w (w.alloc (.cells #[.slice A1 bs.length c1, .slice A2 cs.length c2] 26)) := by repeat (first | exact Below.refl _ _ | refine Below.alloc ?_ (by simp <;> omega) _ | refine below_grow_of ?_ (by simp <;> omega) _ _ | refine Below.drew ?_)
  have L6 := Hid.mk_ hl6
  clear hl6
  go_enter Tryz.func76, Tryz.ntmps76
  go_wp2_with (go_at_call 147; refine (BytesOk_spec _ _ bs (rd_up hr1 (by repeat (first | exact Below.refl _ _ | refine Below.alloc ?_ (by simp <;> omega) _ | refine below_grow_of ?_ (by simp <;> omega) _ _ | refine Below.drew ?_)))).mono ?_; rintro e w1 ⟨rfl, rfl⟩)
  have q1 : (w.alloc (.cells #[.slice A1 bs.length c1, .slice A2 cs.length c2] 26)).cell? ⟨w.heap.size, 1, none⟩ = some (.slice A2 cs.length c2) := by simp [go_sem]
  generalize (w.alloc (.cells #[.slice A1 bs.length c1, .slice A2 cs.length c2] 26)) = w0 at HB0 q1
  go_loop [3] (fun i => ∃ k : Nat, k ≤ 6 ∧ i = .int .i64 k ∧ Hid ((cs.take k).all (inB (-1) 2) = true)) (fun i => 6 - (intOf i).toNat)
  case atStart => exact ⟨0, Nat.zero_le _, rfl, rfl⟩
  case round =>
    obtain ⟨i, hi, rfl, HT⟩ := hrel
    by_cases hl6 : i < 6
    · have hlt : i < cs.length := by rw [L6.out]; exact hl6
      obtain ⟨g, off, cap', he, hg, _, _, hc⟩ := (hr2.below HB0).at_ (List.getElem?_eq_getElem hlt)
      injection he with he1 he2 he3
      clear he2
      subst he1 he3
      have p0 : w0.cell? ⟨g, off + i, none⟩ = some (.int .i64 cs[i]) := by simpa [FI] using hc 0 _ rfl
      clear hc hr1 hr2
      by_cases c1 : inB (-1) 2 cs[i] = true
      · have HN := Hid.mk_ (show (cs.take (i + 1)).all (inB (-1) 2) = true by rw [List.take_succ_eq_append_getElem hlt, List.all_append, HT.out]; simp [c1])
        go_wp2_with (go_at_call 102; refine (l1In_ct _ _ _ _).mono ?_; rintro e w1 ⟨rfl, rfl⟩)
        go_round
        case rel => exact ⟨i + 1, by omega, by go_num, HN⟩
        case measure => simp [intOf]; omega
      · have c1' : inB (-1) 2 cs[i] = false := (Bool.not_eq_true _).mp c1
        have HN := Hid.mk_ (show cs.all (inB (-1) 2) = false from List.all_eq_false.2 ⟨cs[i], List.getElem_mem hlt, by rw [c1']; decide⟩)
        clear c1
        go_wp2_with (go_at_call 102; refine (l1In_ct _ _ _ _).mono ?_; rintro e w1 ⟨rfl, rfl⟩)
        go_ret
        exact ⟨ret_bool (by rw [HE.out, HN.out]; simp), HB0⟩
    · obtain rfl : i = 6 := by omega
      have HN := Hid.mk_ (show cs.all (inB (-1) 2) = true by have a := HT.out; rwa [← L6.out, List.take_length] at a)
      go_wp2
      go_ret
      exact ⟨ret_bool (by rw [HE.out, HN.out, k1h.out, k2h.out, k3]; rfl), HB0⟩
end Go.Proofs.YtkmggglljkmjoaaGreat

/-
  Heaps: the class of a slot.
-/
namespace Go.Proofs.YtkmggglljkmjoaaGreat
open Go.RowKit

theorem clAt_get {h : Heap} (sh : Shape h) {s : Int} (h1 : inB 0 23 s = true) : h.Class[(s / 4).toNat]? = some (clAt h s) := by
  have a := inB_iff.1 h1
  have b := sh.cl
  have hlt : (s / 4).toNat < h.Class.length := by omega
  unfold clAt
  rw [getD_at hlt, List.getElem?_eq_getElem hlt]
theorem clAt_bd {h : Heap} (sh : Shape h) (s : Int) : -1 ≤ clAt h s ∧ clAt h s ≤ 2 := sh.cs _
theorem classInB_cases (h : Heap) (s : Int) : (classInB h s = -1 ∧ genAt s (clAt h s) = -1) ∨ (classInB h s = clAt h s ∧ 8 ≤ genAt s (clAt h s) ∧ genAt s (clAt h s) + 4 + sizeOfC (clAt h s) ≤ 384 ∧ inB 0 23 s = true ∧ inB 0 2 (clAt h s) = true) := by
  rcases genAt_bd s (clAt h s) with k | ⟨k1, k2⟩
  · left
    exact ⟨if_pos (by omega), k⟩
  · right
    have := genAt_iff.1 (show 0 ≤ genAt s (clAt h s) by omega)
    exact ⟨if_neg (by omega), k1, k2, this.1, this.2.1⟩
theorem classInB_out {h : Heap} {s : Int} (h1 : inB 0 23 s = false) : classInB h s = -1 := if_pos (by rw [genAt_no1 h1]; decide)

set_option maxRecDepth 100000 in
set_option maxHeartbeats 1000000 in
theorem classIn_impl (w : World) (H : HHeap) (x : Heap) (s : Int) (h : RdHeap w w.heap.size H x) (hs : shapeB x = true) :
    Calls Tryz.prog 54 #[.agg #[.slice H.Bytes.a H.Bytes.len H.Bytes.cap, .slice H.Class.a H.Class.len H.Class.cap], .int .i64 s] w fun e w' => e = .returned (.int .i64 (classInB x s)) ∧ Below w.heap.size w w' := by
  obtain ⟨⟨A1, n1, c1⟩, ⟨A2, n2, c2⟩⟩ := H
  obtain ⟨bs, cs⟩ := x
  have hr1 : RdL FI w w.heap.size (.slice A1 n1 c1) bs := h.Bytes
  have hr2 : RdL FI w w.heap.size (.slice A2 n2 c2) cs := h.Class
  obtain ⟨_, _, hv, q1, q2, qx⟩ := id hr1
  simp only [Value.slice.injEq] at hv
  obtain ⟨rfl, rfl, rfl⟩ := hv
  have hlt1 : bs.length ≤ 9223372036854775807 := by unfold maxLen at q2; omega
  clear q1 q2 qx
  obtain ⟨_, _, hv, q1, q2, qx⟩ := id hr2
  simp only [Value.slice.injEq] at hv
  obtain ⟨rfl, rfl, rfl⟩ := hv
  have hlt2 : cs.length ≤ 9223372036854775807 := by unfold maxLen at q2; omega
  clear q1 q2 qx h
  have sh := shape_of hs
  have hl6 := Hid.mk_ sh.cl
  have hcb := clAt_bd sh s
  clear hs
  show Calls Tryz.prog 54 #[.agg #[.slice A1 bs.length c1, .slice A2 cs.length c2], .int .i64 s] _ _
  by_cases k1 : inB 0 23 s = true
  case neg =>
    have k1' : inB 0 23 s = false := (Bool.not_eq_true _).mp k1
    have HE := Hid.mk_ (classInB_out (h := ⟨bs, cs⟩) k1')
    clear k1 sh hcb
    go_enter Tryz.func54, Tryz.ntmps54
    go_wp2_with (first | (go_at_call 120; refine (isSlot_ct _ _).mono ?_; rintro e w1 ⟨rfl, rfl⟩) | (go_at_call 121; refine (GenAt_impl _ _ _).mono ?_; rintro e w1 ⟨rfl, rfl⟩))
    go_ret
    exact ⟨ret_i64 HE.out.symm, by repeat (first | exact Below.refl _ _ | refine Below.alloc ?_ (by simp <;> omega) _ | refine below_grow_of ?_ (by simp <;> omega) _ _ | refine Below.drew ?_ | refine below_drewN ?_ _)⟩
  obtain ⟨b1, b2⟩ := inB_iff.1 k1
  have d1 : 0 ≤ s / 4 := by omega
  have d2 : s / 4 < (cs.length : Int) := by rw [hl6.out]; omega
  obtain ⟨g2, off2, cap2, he, hg2, _, _, hc2⟩ := hr2.at_ (clAt_get sh k1)
  injection he with he1 he2 he3
  clear he2
  subst he1 he3
  have p0 : w.cell? ⟨g2, off2 + (s / 4).toNat, none⟩ = some (.int .i64 (clAt ⟨bs, cs⟩ s)) := by simpa [FI] using hc2 0 _ rfl
  clear hc2
  have KC := Hid.mk_ (classInB_cases ⟨bs, cs⟩ s)
  generalize clAt ⟨bs, cs⟩ s = c at p0 hcb KC
  clear sh k1 hr2
  by_cases k2 : genAt s c < 0
  · have HE := Hid.mk_ (show classInB ⟨bs, cs⟩ s = -1 by rcases KC.out with a | a <;> omega)
    have k1 : inB 0 23 s = true := inB_iff.2 ⟨b1, b2⟩
    go_enter Tryz.func54, Tryz.ntmps54
    go_wp2_with (first | (go_at_call 120; refine (isSlot_ct _ _).mono ?_; rintro e w1 ⟨rfl, rfl⟩) | (go_at_call 121; refine (GenAt_impl _ _ _).mono ?_; rintro e w1 ⟨rfl, rfl⟩))
    go_ret
    exact ⟨ret_i64 HE.out.symm, by repeat (first | exact Below.refl _ _ | refine Below.alloc ?_ (by simp <;> omega) _ | refine below_grow_of ?_ (by simp <;> omega) _ _ | refine Below.drew ?_ | refine below_drewN ?_ _)⟩
  · have HE := Hid.mk_ (show classInB ⟨bs, cs⟩ s = c by rcases KC.out with a | a <;> omega)
    have k1 : inB 0 23 s = true := inB_iff.2 ⟨b1, b2⟩
    go_enter Tryz.func54, Tryz.ntmps54
    go_wp2_with (first | (go_at_call 120; refine (isSlot_ct _ _).mono ?_; rintro e w1 ⟨rfl, rfl⟩) | (go_at_call 121; refine (GenAt_impl _ _ _).mono ?_; rintro e w1 ⟨rfl, rfl⟩))
    go_ret
    exact ⟨ret_i64 HE.out.symm, by repeat (first | exact Below.refl _ _ | refine Below.alloc ?_ (by simp <;> omega) _ | refine below_grow_of ?_ (by simp <;> omega) _ _ | refine Below.drew ?_ | refine below_drewN ?_ _)⟩

set_option maxRecDepth 100000 in
set_option maxHeartbeats 1000000 in
theorem l7Class_spec (w : World) (H : HHeap) (x : Heap) (s : Int) (h : RdHeap w w.heap.size H x) (hs : shapeB x = true) :
    Calls Tryz.prog 77 #[.agg #[.slice H.Bytes.a H.Bytes.len H.Bytes.cap, .slice H.Class.a H.Class.len H.Class.cap], .int .i64 s] w fun e w' => e = .returned (.int .i64 (classInB x s)) ∧ Below w.heap.size w w' := by
  obtain ⟨⟨A1, n1, c1⟩, ⟨A2, n2, c2⟩⟩ := H
  obtain ⟨bs, cs⟩ := x
  have hr1 : RdL FI w w.heap.size (.slice A1 n1 c1) bs := h.Bytes
  have hr2 : RdL FI w w.heap.size (.slice A2 n2 c2) cs := h.Class
  obtain ⟨_, _, hv, q1, q2, qx⟩ := id hr1
  simp only [Value.slice.injEq] at hv
  obtain ⟨rfl, rfl, rfl⟩ := hv
  have hlt1 : bs.length ≤ 9223372036854775807 := by unfold maxLen at q2; omega
  clear q1 q2 qx
  obtain ⟨_, _, hv, q1, q2, qx⟩ := id hr2
  simp only [Value.slice.injEq] at hv
  obtain ⟨rfl, rfl, rfl⟩ := hv
  have hlt2 : cs.length ≤ 9223372036854775807 := by unfold maxLen at q2; omega
  clear q1 q2 qx h
  have sh := shape_of hs
  have hl6 := Hid.mk_ sh.cl
  have hcb := clAt_bd sh s
  clear hs
  show Calls Tryz.prog 77 #[.agg #[.slice A1 bs.length c1, .slice A2 cs.length c2], .int .i64 s] _ _
  by_cases k1 : inB 0 23 s = true
  case neg =>
    have k1' : inB 0 23 s = false := (Bool.not_eq_true _).mp k1
    have HE := Hid.mk_ (classInB_out (h := ⟨bs, cs⟩) k1')
    clear k1 sh hcb
    have kp : pageOfS s = -1 := if_neg (by rw [k1']; decide)
    go_enter Tryz.func77, Tryz.ntmps77
    go_wp2_with (first | (go_at_call 148; refine (PageOf_spec _ _).mono ?_; rw [kp]; rintro e w1 ⟨rfl, rfl⟩))
    go_quiet (fail)
    all_goals go_wp2
    all_goals go_ret
    all_goals exact ⟨ret_i64 HE.out.symm, by repeat (first | exact Below.refl _ _ | refine Below.alloc ?_ (by simp <;> omega) _ | refine below_grow_of ?_ (by simp <;> omega) _ _ | refine Below.drew ?_ | refine below_drewN ?_ _)⟩
  obtain ⟨b1, b2⟩ := inB_iff.1 k1
  have d1 : 0 ≤ s / 4 := by omega
  have d2 : s / 4 < (cs.length : Int) := by rw [hl6.out]; omega
  obtain ⟨g2, off2, cap2, he, hg2, _, _, hc2⟩ := hr2.at_ (clAt_get sh k1)
  injection he with he1 he2 he3
  clear he2
  subst he1 he3
  have p0 : w.cell? ⟨g2, off2 + (s / 4).toNat, none⟩ = some (.int .i64 (clAt ⟨bs, cs⟩ s)) := by simpa [FI] using hc2 0 _ rfl
  clear hc2
  have KC := Hid.mk_ (classInB_cases ⟨bs, cs⟩ s)
  have kp : pageOfS s = s / 4 := if_pos k1
  have ki : indexOfS s = s % 4 := if_pos k1
  have HG := Hid.mk_ (fun c (h1 : inB 0 2 c = true) (h2 : s % 4 < perPage c) => (show 0 ≤ genAt s c from genAt_iff.2 ⟨k1, h1, h2⟩))
  have HG2 := Hid.mk_ (fun c (h2 : ¬ s % 4 < perPage c) => genAt_no3 (s := s) (c := c) h2)
  have HG3 := Hid.mk_ (fun c (h2 : c < 0) => genAt_no2 (s := s) (c := c) (inB_no (lo := 0) (hi := 2) (by omega)))
  generalize clAt ⟨bs, cs⟩ s = c at p0 hcb KC
  clear sh k1 hr2
  obtain ⟨p, hp⟩ := Int.eq_ofNat_of_zero_le d1
  rw [hp] at kp p0 d2
  simp only [Int.toNat_natCast, Int.ofNat_lt] at p0 d2
  clear hp d1
  have hd0 : decide ((p : Int) < 0) = false := by simp
  by_cases k2 : c < 0
  · have HE := Hid.mk_ (show classInB ⟨bs, cs⟩ s = -1 by rcases KC.out with a | a; exact a.1; have := HG3.out c k2; omega)
    obtain rfl : c = -1 := by omega
    clear hcb k2 HG HG2 HG3 KC
    go_enter Tryz.func77, Tryz.ntmps77
    go_wp2_with (first | (go_at_call 148; refine (PageOf_spec _ _).mono ?_; rw [kp]; rintro e w1 ⟨rfl, rfl⟩))
    go_quiet (fail)
    all_goals go_wp2
    all_goals go_ret
    all_goals exact ⟨ret_i64 HE.out.symm, by repeat (first | exact Below.refl _ _ | refine Below.alloc ?_ (by simp <;> omega) _ | refine below_grow_of ?_ (by simp <;> omega) _ _ | refine Below.drew ?_ | refine below_drewN ?_ _)⟩
  have k2' : 0 ≤ c := by omega
  have hq1 : ∀ W : World, Calls Tryz.prog 149 #[.int .i64 s] W fun e w' => e = .returned (.int .i64 (s % 4)) ∧ w' = W := fun W => (IndexOf_spec s W).mono fun e w' ⟨a, b⟩ => ⟨by rw [a, ki], b.symm⟩
  have hq2 : ∀ W : World, Calls Tryz.prog 150 #[.int .i64 c] W fun e w' => e = .returned (.int .i64 (perPage c)) ∧ w' = W := fun W => (PerPage_spec c W).mono fun e w' ⟨a, b⟩ => ⟨a, b.symm⟩
  clear ki
  by_cases k3 : perPage c ≤ s % 4
  · have HE := Hid.mk_ (show classInB ⟨bs, cs⟩ s = -1 by rcases KC.out with a | a; exact a.1; have := HG2.out c (by omega); omega)
    go_enter Tryz.func77, Tryz.ntmps77
    go_wp2_with (first | (go_at_call 148; refine (PageOf_spec _ _).mono ?_; rw [kp]; rintro e w1 ⟨rfl, rfl⟩))
    go_quiet ((first | (go_at_call 149; exact Calls.quiet_of_same (hq1 _)) | (go_at_call 150; exact Calls.quiet_of_same (hq2 _))))
    all_goals go_wp2
    all_goals go_ret
    all_goals exact ⟨ret_i64 HE.out.symm, by repeat (first | exact Below.refl _ _ | refine Below.alloc ?_ (by simp <;> omega) _ | refine below_grow_of ?_ (by simp <;> omega) _ _ | refine Below.drew ?_ | refine below_drewN ?_ _)⟩
  · have HE := Hid.mk_ (show classInB ⟨bs, cs⟩ s = c by rcases KC.out with a | a; have := HG.out c (inB_iff.2 ⟨k2', hcb.2⟩) (by omega); omega; exact a.1)
    go_enter Tryz.func77, Tryz.ntmps77
    go_wp2_with (first | (go_at_call 148; refine (PageOf_spec _ _).mono ?_; rw [kp]; rintro e w1 ⟨rfl, rfl⟩))
    go_quiet ((first | (go_at_call 149; exact Calls.quiet_of_same (hq1 _)) | (go_at_call 150; exact Calls.quiet_of_same (hq2 _))))
    all_goals go_wp2
    all_goals go_ret
    all_goals exact ⟨ret_i64 HE.out.symm, by repeat (first | exact Below.refl _ _ | refine Below.alloc ?_ (by simp <;> omega) _ | refine below_grow_of ?_ (by simp <;> omega) _ _ | refine Below.drew ?_ | refine below_drewN ?_ _)⟩
end Go.Proofs.YtkmggglljkmjoaaGreat

/-
  Heaps: the generation of a slot.
-/
namespace Go.Proofs.YtkmggglljkmjoaaGreat
open Go.RowKit
theorem cell_old (w : World) (o : Obj) (g i : Nat) (hg : g < w.heap.size) : (w.alloc o).cell? ⟨g, i, none⟩ = w.cell? ⟨g, i, none⟩ := by
  simp [World.cell?, Below.heap_alloc w o g hg]
theorem cell_old_frozen (w : World) (o : Obj) (g i : Nat) (hg : g < w.heap.size) : (w.alloc o).frozen? ⟨g, i, none⟩ = w.frozen? ⟨g, i, none⟩ := by
  simp [World.frozen?, Below.heap_alloc w o g hg]
theorem cell_up {w w' : World} {g i : Nat} {u : Value} (hb : Below w.heap.size w w') (hg : g < w.heap.size) (h : w.cell? ⟨g, i, none⟩ = some u) : w'.cell? ⟨g, i, none⟩ = some u := (hb.cell (p := ⟨g, i, none⟩) hg).trans h

def classAtB (h : Heap) (s : Int) : Int := if shapeB h = true then classInB h s else -1
theorem quietc {P : Program} {f : FuncId} {args : Array Value} {W : World} {v : Ending} (h : Calls P f args W fun e w' => e = v ∧ W = w') : Calls P f args W fun e w' => e = v ∧ w' = W := h.mono fun _ _ ⟨a, b⟩ => ⟨a, b.symm⟩
theorem genIn_bd {h : Heap} (sh : Shape h) {s : Int} (k : ¬ classInB h s < 0) : 0 ≤ genAt s (classInB h s) ∧ genAt s (classInB h s) + 4 ≤ h.Bytes.length := by
  have a := sizeOfC_bd (clAt h s)
  have b := sh.bl
  rcases classInB_cases h s with ⟨c, _⟩ | ⟨c, d, e, _⟩
  · omega
  · rw [c]; omega

set_option maxRecDepth 100000 in
set_option maxHeartbeats 1000000 in
theorem ClassAt_impl (w : World) (H : HHeap) (x : Heap) (s : Int) (h : RdHeap w w.heap.size H x) :
    Calls Tryz.prog 201 #[.agg #[.slice H.Bytes.a H.Bytes.len H.Bytes.cap, .slice H.Class.a H.Class.len H.Class.cap], .int .i64 s] w fun e w' => e = .returned (.int .i64 (classAtB x s)) ∧ Below w.heap.size w w' := by
  obtain ⟨⟨A1, n1, c1⟩, ⟨A2, n2, c2⟩⟩ := H
  obtain ⟨bs, cs⟩ := x
  have hr1 : RdL FI w w.heap.size (.slice A1 n1 c1) bs := h.Bytes
  have hr2 : RdL FI w w.heap.size (.slice A2 n2 c2) cs := h.Class
  obtain ⟨_, _, hv, q1, q2, qx⟩ := id hr1
  simp only [Value.slice.injEq] at hv
  obtain ⟨rfl, rfl, rfl⟩ := hv
  have hlt1 : bs.length ≤ 9223372036854775807 := by unfold maxLen at q2; omega
  clear q1 q2 qx
  obtain ⟨_, _, hv, q1, q2, qx⟩ := id hr2
  simp only [Value.slice.injEq] at hv
  obtain ⟨rfl, rfl, rfl⟩ := hv
  have hlt2 : cs.length ≤ 9223372036854775807 := by unfold maxLen at q2; omega
  clear q1 q2 qx h
  show Calls Tryz.prog 201 #[.agg #[.slice A1 bs.length c1, .slice A2 cs.length c2], .int .i64 s] _ _
  by_cases hs : shapeB ⟨bs, cs⟩ = true
  · have HE := Hid.mk_ (show classAtB ⟨bs, cs⟩ s = classInB ⟨bs, cs⟩ s from if_pos hs)
    have HT := Hid.mk_ hs
    clear hs
    go_enter Tryz.func201, Tryz.ntmps201
    go_wp2_with (first | (go_at_call 195; refine (shaped_impl _ ⟨⟨A1, bs.length, c1⟩, ⟨A2, cs.length, c2⟩⟩ ⟨bs, cs⟩ ⟨rd_up hr1 (by repeat (first | exact Below.refl _ _ | refine Below.alloc ?_ (by simp <;> omega) _ | refine below_grow_of ?_ (by simp <;> omega) _ _ | refine Below.drew ?_ | refine below_drewN ?_ _)), rd_up hr2 (by repeat (first | exact Below.refl _ _ | refine Below.alloc ?_ (by simp <;> omega) _ | refine below_grow_of ?_ (by simp <;> omega) _ _ | refine Below.drew ?_ | refine below_drewN ?_ _))⟩).mono ?_; rw [HT.out]; rintro e w1 ⟨rfl, hb1⟩; obtain ⟨os1, d1, rfl⟩ := below_grows hb1; clear hb1) | (go_at_call 54; refine (classIn_impl _ ⟨⟨A1, bs.length, c1⟩, ⟨A2, cs.length, c2⟩⟩ ⟨bs, cs⟩ s ⟨rd_up hr1 (by repeat (first | exact Below.refl _ _ | refine Below.alloc ?_ (by simp <;> omega) _ | refine below_grow_of ?_ (by simp <;> omega) _ _ | refine Below.drew ?_ | refine below_drewN ?_ _)), rd_up hr2 (by repeat (first | exact Below.refl _ _ | refine Below.alloc ?_ (by simp <;> omega) _ | refine below_grow_of ?_ (by simp <;> omega) _ _ | refine Below.drew ?_ | refine below_drewN ?_ _))⟩ HT.out).mono ?_; rintro e w2 ⟨rfl, hb2⟩; obtain ⟨os2, d2, rfl⟩ := below_grows hb2; clear hb2))
    go_ret
    exact ⟨ret_i64 HE.out.symm, by repeat (first | exact Below.refl _ _ | refine Below.alloc ?_ (by simp <;> omega) _ | refine below_grow_of ?_ (by simp <;> omega) _ _ | refine Below.drew ?_ | refine below_drewN ?_ _)⟩
  · have HE := Hid.mk_ (show classAtB ⟨bs, cs⟩ s = -1 from if_neg hs)
    have HT := Hid.mk_ ((Bool.not_eq_true _).mp hs)
    clear hs
    go_enter Tryz.func201, Tryz.ntmps201
    go_wp2_with (go_at_call 195; refine (shaped_impl _ ⟨⟨A1, bs.length, c1⟩, ⟨A2, cs.length, c2⟩⟩ ⟨bs, cs⟩ ⟨rd_up hr1 (by repeat (first | exact Below.refl _ _ | refine Below.alloc ?_ (by simp <;> omega) _ | refine below_grow_of ?_ (by simp <;> omega) _ _ | refine Below.drew ?_ | refine below_drewN ?_ _)), rd_up hr2 (by repeat (first | exact Below.refl _ _ | refine Below.alloc ?_ (by simp <;> omega) _ | refine below_grow_of ?_ (by simp <;> omega) _ _ | refine Below.drew ?_ | refine below_drewN ?_ _))⟩).mono ?_; rw [HT.out]; rintro e w1 ⟨rfl, hb1⟩; obtain ⟨os1, d1, rfl⟩ := below_grows hb1; clear hb1)
    go_ret
    exact ⟨ret_i64 HE.out.symm, by repeat (first | exact Below.refl _ _ | refine Below.alloc ?_ (by simp <;> omega) _ | refine below_grow_of ?_ (by simp <;> omega) _ _ | refine Below.drew ?_ | refine below_drewN ?_ _)⟩

set_option maxRecDepth 100000 in
set_option maxHeartbeats 1000000 in
theorem GenIn_impl (w : World) (H : HHeap) (x : Heap) (s : Int) (h : RdHeap w w.heap.size H x) (hs : shapeB x = true) :
    Calls Tryz.prog 144 #[.agg #[.slice H.Bytes.a H.Bytes.len H.Bytes.cap, .slice H.Class.a H.Class.len H.Class.cap], .int .i64 s] w fun e w' => e = .returned (.int .i64 (genInB x s)) ∧ Below w.heap.size w w' := by
  obtain ⟨⟨A1, n1, c1⟩, ⟨A2, n2, c2⟩⟩ := H
  obtain ⟨bs, cs⟩ := x
  have hr1 : RdL FI w w.heap.size (.slice A1 n1 c1) bs := h.Bytes
  have hr2 : RdL FI w w.heap.size (.slice A2 n2 c2) cs := h.Class
  obtain ⟨_, _, hv, q1, q2, qx⟩ := id hr1
  simp only [Value.slice.injEq] at hv
  obtain ⟨rfl, rfl, rfl⟩ := hv
  have hlt1 : bs.length ≤ 9223372036854775807 := by unfold maxLen at q2; omega
  clear q1 q2 qx
  obtain ⟨_, _, hv, q1, q2, qx⟩ := id hr2
  simp only [Value.slice.injEq] at hv
  obtain ⟨rfl, rfl, rfl⟩ := hv
  have hlt2 : cs.length ≤ 9223372036854775807 := by unfold maxLen at q2; omega
  clear q1 q2 qx h
  have sh := shape_of hs
  have HC := Hid.mk_ (show classAtB ⟨bs, cs⟩ s = classInB ⟨bs, cs⟩ s from if_pos hs)
  clear hs
  show Calls Tryz.prog 144 #[.agg #[.slice A1 bs.length c1, .slice A2 cs.length c2], .int .i64 s] _ _
  by_cases k1 : classInB ⟨bs, cs⟩ s < 0
  · have HE := Hid.mk_ (show genInB ⟨bs, cs⟩ s = 0 from if_pos k1)
    clear sh
    go_enter Tryz.func144, Tryz.ntmps144
    go_wp2_with (go_at_call 201; refine (ClassAt_impl _ ⟨⟨A1, bs.length, c1⟩, ⟨A2, cs.length, c2⟩⟩ ⟨bs, cs⟩ s ⟨rd_up hr1 (by repeat (first | exact Below.refl _ _ | refine Below.alloc ?_ (by simp <;> omega) _ | refine below_grow_of ?_ (by simp <;> omega) _ _ | refine Below.drew ?_ | refine below_drewN ?_ _)), rd_up hr2 (by repeat (first | exact Below.refl _ _ | refine Below.alloc ?_ (by simp <;> omega) _ | refine below_grow_of ?_ (by simp <;> omega) _ _ | refine Below.drew ?_ | refine below_drewN ?_ _))⟩).mono ?_; rw [HC.out]; rintro e w1 ⟨rfl, hb1⟩; obtain ⟨os1, d1, rfl⟩ := below_grows hb1; clear hb1)
    go_ret
    exact ⟨ret_i64 HE.out.symm, by repeat (first | exact Below.refl _ _ | refine Below.alloc ?_ (by simp <;> omega) _ | refine below_grow_of ?_ (by simp <;> omega) _ _ | refine Below.drew ?_ | refine below_drewN ?_ _)⟩
  · have HE := Hid.mk_ (show genInB ⟨bs, cs⟩ s = loadN bs (genAt s (classInB ⟨bs, cs⟩ s)) 4 from if_neg k1)
    obtain ⟨g1, g2⟩ := genIn_bd sh k1
    simp only at g2
    have hby := sh.by_
    simp only at hby
    generalize classInB ⟨bs, cs⟩ s = c at k1 HE HC g1 g2
    clear sh
    have HQ1 : ∀ W : World, Calls Tryz.prog 121 #[.int .i64 s, .int .i64 c] W fun e w' => e = .returned (.int .i64 (genAt s c)) ∧ w' = W := fun W => quietc (GenAt_impl s c W)
    generalize genAt s c = a at g1 g2 HE HQ1
    go_enter Tryz.func144, Tryz.ntmps144
    go_wp2_with fail
    refine (ClassAt_impl _ ⟨⟨A1, bs.length, c1⟩, ⟨A2, cs.length, c2⟩⟩ ⟨bs, cs⟩ s ⟨rd_up hr1 (by repeat (first | exact Below.refl _ _ | refine Below.alloc ?_ (by simp <;> omega) _ | refine below_grow_of ?_ (by simp <;> omega) _ _ | refine Below.drew ?_ | refine below_drewN ?_ _)), rd_up hr2 (by repeat (first | exact Below.refl _ _ | refine Below.alloc ?_ (by simp <;> omega) _ | refine below_grow_of ?_ (by simp <;> omega) _ _ | refine Below.drew ?_ | refine below_drewN ?_ _))⟩).mono ?_
    rw [HC.out]
    rintro e w1 ⟨rfl, hb1⟩
    have q0 : w1.cell? ⟨w.heap.size, 0, none⟩ = some (.slice A1 bs.length c1) := cell_up hb1 (by simp <;> omega) (by simp [go_sem])
    have q1 : w1.cell? ⟨w.heap.size, 1, none⟩ = some (.slice A2 cs.length c2) := cell_up hb1 (by simp <;> omega) (by simp [go_sem])
    have hB1 : Below w.heap.size w w1 := Below.trans (by repeat (first | exact Below.refl _ _ | refine Below.alloc ?_ (by simp <;> omega) _ | refine below_grow_of ?_ (by simp <;> omega) _ _ | refine Below.drew ?_ | refine below_drewN ?_ _)) (hb1.mono (by simp))
    clear hb1
    go_wp2
    go_quiet ((first | (go_at_call 121; exact Calls.quiet_of_same (HQ1 _)) | (go_at_call 90; exact Calls.quiet_of_same (quietc (loadNum_impl _ _ bs a 4 (rd_up hr1 (by first | exact hB1 | exact hB1.drew | exact below_drewN hB1 _)) g1 (by decide) (by decide) g2 hby)))))
    go_wp2
    go_ret
    exact ⟨ret_i64 HE.out.symm, by first | exact hB1 | exact hB1.drew | exact below_drewN hB1 _⟩

set_option maxRecDepth 100000 in
set_option maxHeartbeats 1000000 in
theorem l7Gen_spec (w : World) (H : HHeap) (x : Heap) (s : Int) (h : RdHeap w w.heap.size H x) (hs : shapeB x = true) (k1 : ¬ classInB x s < 0) :
    Calls Tryz.prog 108 #[.agg #[.slice H.Bytes.a H.Bytes.len H.Bytes.cap, .slice H.Class.a H.Class.len H.Class.cap], .int .i64 s] w fun e w' => e = .returned (.int .i64 (genInB x s)) ∧ Below w.heap.size w w' := by
  obtain ⟨⟨A1, n1, c1⟩, ⟨A2, n2, c2⟩⟩ := H
  obtain ⟨bs, cs⟩ := x
  have hr1 : RdL FI w w.heap.size (.slice A1 n1 c1) bs := h.Bytes
  have hr2 : RdL FI w w.heap.size (.slice A2 n2 c2) cs := h.Class
  obtain ⟨_, _, hv, q1, q2, qx⟩ := id hr1
  simp only [Value.slice.injEq] at hv
  obtain ⟨rfl, rfl, rfl⟩ := hv
  have hlt1 : bs.length ≤ 9223372036854775807 := by unfold maxLen at q2; omega
  clear q1 q2 qx
  obtain ⟨_, _, hv, q1, q2, qx⟩ := id hr2
  simp only [Value.slice.injEq] at hv
  obtain ⟨rfl, rfl, rfl⟩ := hv
  have hlt2 : cs.length ≤ 9223372036854775807 := by unfold maxLen at q2; omega
  clear q1 q2 qx h
  have sh := shape_of hs
  show Calls Tryz.prog 108 #[.agg #[.slice A1 bs.length c1, .slice A2 cs.length c2], .int .i64 s] _ _
  have HE := Hid.mk_ (show genInB ⟨bs, cs⟩ s = loadN bs (genAt s (classInB ⟨bs, cs⟩ s)) 4 from if_neg k1)
  obtain ⟨g1, g2⟩ := genIn_bd sh k1
  simp only at g2
  have hby := sh.by_
  simp only at hby
  have HQ1 : ∀ W : World, Calls Tryz.prog 158 #[.int .i64 s, .int .i64 (classInB ⟨bs, cs⟩ s)] W fun e w' => e = .returned (.int .i64 (genAt s (classInB ⟨bs, cs⟩ s))) ∧ W = w' := fun W => GenAt_spec s _ W
  generalize genAt s (classInB ⟨bs, cs⟩ s) = a at g1 g2 HE HQ1
  clear sh k1
  go_enter Tryz.func108, Tryz.ntmps108
  go_wp2
  have hB0 : Below w.heap.size w (w.alloc (.cells #[.slice A1 bs.length c1, .slice A2 cs.length c2] 26)) := by repeat (first | exact Below.refl _ _ | refine Below.alloc ?_ (by simp <;> omega) _ | refine below_grow_of ?_ (by simp <;> omega) _ _ | refine Below.drew ?_ | refine below_drewN ?_ _)
  have q0 : (w.alloc (.cells #[.slice A1 bs.length c1, .slice A2 cs.length c2] 26)).cell? ⟨w.heap.size, 0, none⟩ = some (.slice A1 bs.length c1) := by simp [go_sem]
  have q1 : (w.alloc (.cells #[.slice A1 bs.length c1, .slice A2 cs.length c2] 26)).cell? ⟨w.heap.size, 1, none⟩ = some (.slice A2 cs.length c2) := by simp [go_sem]
  have z0 : w.heap.size < (w.alloc (.cells #[.slice A1 bs.length c1, .slice A2 cs.length c2] 26)).heap.size := by simp
  generalize (w.alloc (.cells #[.slice A1 bs.length c1, .slice A2 cs.length c2] 26)) = w0 at hB0 q0 q1 z0 ⊢
  go_region_held3 (fun w' => w'.cell? ⟨w.heap.size, 0, none⟩ = some (.slice A1 bs.length c1) ∧ w'.cell? ⟨w.heap.size, 1, none⟩ = some (.slice A2 cs.length c2) ∧ w.heap.size < w'.heap.size ∧ Below w.heap.size w w') (first | (go_keep; done) | ((try go_split_ands); refine ⟨?_, ?_, ?_, ?_⟩; all_goals first | assumption | exact Below.drew (by assumption) | (simp [go_sem, *]; done) | exact below_grow_of (by assumption) (by omega) _ _ | (rw [size_grow]; omega) | (repeat (first | exact Below.refl _ _ | refine Below.alloc ?_ (by simp <;> omega) _ | refine below_grow_of ?_ (by simp <;> omega) _ _ | refine Below.drew ?_ | refine below_drewN ?_ _); done) | (simp <;> omega))) ((first | (go_at_call 77; refine (l7Class_spec _ ⟨⟨A1, bs.length, c1⟩, ⟨A2, cs.length, c2⟩⟩ ⟨bs, cs⟩ s ⟨rd_up hr1 (by go_split_ands; assumption), rd_up hr2 (by go_split_ands; assumption)⟩ hs).mono ?_; rintro e w1 ⟨rfl, hb1⟩; obtain ⟨os1, d1, rfl⟩ := below_grows hb1; clear hb1) | (go_at_call 158; refine (HQ1 _).mono ?_; rintro e w2 ⟨rfl, rfl⟩) | (go_at_call 109; refine (l3Load_spec _ _ bs a 4 (rd_up hr1 (by go_split_ands; assumption)) g1 (by decide) (by decide) g2 hby).mono ?_; rintro e w3 ⟨rfl, rfl⟩)))
  go_wp2
  go_ret
  exact ⟨ret_i64 HE.out.symm, by first | assumption | (go_split_ands; assumption)⟩
end Go.Proofs.YtkmggglljkmjoaaGreat

