/-
  append on a slice that the call owns: the walk's laws, said of lists.
-/
import Derived.Test.YtkldapdpaldbgaaGreatN
import Derived.Maps.AppendAt
import Derived.Deep.AppendLies
import Derived.RegionTactic
import Derived.OwnWalk
namespace Go.Proofs.YtkldapdpaldbgaaGreat
open Go.RowKit

/-- What is known of a slice type: t is []e, e's zero value and size. -/
structure ST {α : Type} (P : Program) (T : FT α) (t e : TypeId) : Prop where
  und : P.underlying t = some (.slice e)
  info : ∃ z bytes, (P.info? e).map (fun i => (i.zero, i.size, i.bytes)) = some (some z, T.n, bytes) ∧ z.cells.size = T.n ∧ bytes ≤ 1024

variable {α : Type} {T : FT α} {w : World} {t e : TypeId} {P : Program}

theorem flat_one (T : FT α) (l : List α) : ∀ u ∈ flat T l, u.oneCell' = true := by
  intro u hu
  obtain ⟨x, _, hx⟩ := List.mem_flatMap.1 hu
  exact T.one x u hx

theorem run_append_nil0 {base size : Nat} {i : TypeInfo} (ht : P.underlying t = some (.slice e)) (hi : P.info? e = some i)
    (v : Value) (n : Nat) (xs : List Value) (hown : w.ownsRow base e size v n xs) (A : Option Addr) (c : Nat) (ty : TypeId) : (Builtin.append_ #[t, t] ty #[v, .slice A 0 c]).run P w = .ok v w := by
  have hl : ∀ a, (loadCells a 0).run P w = .ok #[] w := fun a => run_loadCells_list (P := P) w a [] (fun j v hv => by simp at hv)
  rcases hown.2 with ⟨rfl, rfl⟩ | ⟨g, cap, cur, rfl, _, _, hnc, _⟩
  · cases A <;> simp [Builtin.append_, run_underlying ht, sizeOf, typeInfo, hi, Builtin.lenOf, Builtin.firstCells, hl]
  · cases A <;> simp [Builtin.append_, run_underlying ht, sizeOf, typeInfo, hi, Builtin.lenOf, Builtin.firstCells, hnc, storeCells, hl]

/-- append(v, x...): v owned, x read. -/
theorem run_append_flat (X : ST P T t e) (ty : TypeId) {v x : Value} {l m : List α} {B : Nat} (hown : OwL T e w v l) (hr : RdL T w B x m) (hlen : l.length + m.length ≤ 1073741824) :
    ∃ v' w', (Builtin.append_ #[t, t] ty #[v, x]).run P w = .ok v' w' ∧ OwL T e w' v' (l ++ m) ∧ w.grownBy w' v.ownBlock ∧ (v'.ownBlock = v.ownBlock ∨ v'.ownBlock = some w.heap.size) := by
  obtain ⟨A, cap, rfl, h1, h2, h3⟩ := hr
  obtain ⟨z, bytes, hinfo, hz, hby⟩ := X.info
  obtain ⟨i, hi, hzz⟩ := Option.map_eq_some_iff.1 hinfo
  simp only [Prod.mk.injEq] at hzz
  obtain ⟨q1, q2, q3⟩ := hzz
  by_cases hm : m = []
  · subst hm
    refine ⟨v, w, run_append_nil0 X.und hi v _ _ hown A cap ty, by simpa using hown, World.grownBy.refl w _, .inl rfl⟩
  · obtain ⟨g, off, rfl, hg, hc⟩ := h3 hm
    have hcells : ∀ j u, (flat T m)[j]? = some u → w.cell? ((⟨g, off, none⟩ : Addr).add j) = some u := by
      intro j u hu
      rw [← hc j u hu]
      unfold Addr.add
      by_cases hj : j = 0 <;> simp [hj]
    have hmx : l.length + m.length ≤ maxLen := by unfold maxLen; omega
    have hbb : (l.length + m.length) * bytes ≤ 140737488355328 := by
      calc (l.length + m.length) * bytes ≤ 1073741824 * 1024 := Nat.mul_le_mul hlen hby
        _ ≤ _ := by omega
    obtain ⟨v', w', hrun, k1, k2, _, k4⟩ := run_append_own_at (P := P) w 0 t ty e i z T.n bytes X.und hi q1 q2 q3 hz T.pos v l.length (flat T l) hown ⟨g, off, none⟩ m.length cap (flat T m) (length_flat T m) hcells (flat_one T m) hmx hbb (Nat.zero_le _)
    refine ⟨v', w', hrun, ?_, k2, k4⟩
    unfold OwL
    rw [List.length_append, flat_append]
    exact k1

theorem wp_append_flat {o : Oper} {a : Act} {K : Act → World → Prop} {Q : Exit → Act → World → Prop} (X : ST P T t e) (s x : Operand)
    (ho : o.op = .call { callee := .builtin .append, args := #[s, x], argTypes := #[t, t] })
    {v y : Value} {l m : List α} {B : Nat} (hs : a.eval s = v) (hx : a.eval x = y) (hown : OwL T e w v l) (hr : RdL T w B y m) (hlen : l.length + m.length ≤ 1073741824)
    (h : ∀ v' w', OwL T e w' v' (l ++ m) → w.grownBy w' v.ownBlock → (v'.ownBlock = v.ownBlock ∨ v'.ownBlock = some w.heap.size) → K (a.put o.dst v') w') : o.wp P a w K Q := by
  obtain ⟨v', w', hrun, h2, h3, h4⟩ := run_append_flat X o.type hown hr hlen
  unfold Oper.wp execOp
  simp only [ho, resolve, invoke, builtin, Sem.run_bind, Sem.run_pure, Result.andThen_ok, List.map_toArray, List.map_cons, List.map_nil, hs, hx, hrun]
  exact h v' w' h2 h3 h4

theorem wpList_append_flat {ops : Array Oper} {rest : List Oper} {o : Oper} {a : Act} {Q : Exit → Act → World → Prop} (X : ST P T t e) (hgd : o.guard = none) (s x : Operand)
    (ho : o.op = .call { callee := .builtin .append, args := #[s, x], argTypes := #[t, t] })
    {v y : Value} {l m : List α} {B : Nat} (hs : a.eval s = v) (hx : a.eval x = y) (hown : OwL T e w v l) (hr : RdL T w B y m) (hlen : l.length + m.length ≤ 1073741824)
    (h : ∀ v' w', OwL T e w' v' (l ++ m) → w.grownBy w' v.ownBlock → (v'.ownBlock = v.ownBlock ∨ v'.ownBlock = some w.heap.size) → wpList P ops Q rest (a.put o.dst v') w') : wpList P ops Q (o :: rest) a w :=
  wpList_plain hgd fun _ hK => wp_append_flat X s x ho hs hx hown hr hlen fun v' w' h2 h3 h4 => hK _ _ (h v' w' h2 h3 h4)

theorem step_append_flat {ops : Array Oper} {o : Oper} {a : Act} {K : Act → World → Prop} {Q : Exit → Act → World → Prop} {E : Prop} (X : ST P T t e) (hgd : o.guard = none) (s x : Operand)
    (ho : o.op = .call { callee := .builtin .append, args := #[s, x], argTypes := #[t, t] })
    {v y : Value} {l m : List α} {B : Nat} (hs : a.eval s = v) (hx : a.eval x = y) (hown : OwL T e w v l) (hr : RdL T w B y m) (hlen : l.length + m.length ≤ 1073741824)
    (h : ∀ v' w', OwL T e w' v' (l ++ m) → w.grownBy w' v.ownBlock → (v'.ownBlock = v.ownBlock ∨ v'.ownBlock = some w.heap.size) → K (a.put o.dst v') w') :
    if Region.wanted o (yielded ops a.tmps) = true then Oper.wp P o a w K Q else E := by
  have hw : Region.wanted o (yielded ops a.tmps) = true := by simp [Region.wanted, hgd]
  rw [if_pos hw]
  exact wp_append_flat X s x ho hs hx hown hr hlen h

/-- A slice literal. -/
theorem OwL.lit (T : FT α) (l : List α) (cs : Array Value) (hcs : cs.toList = flat T l) (hl : l.length ≤ maxLen) (w : World) (e : TypeId) :
    OwL T e (w.alloc (.cells cs e)) (.slice (some ⟨w.heap.size, 0, none⟩) l.length l.length) l := by
  have h := World.ownsRow_lit (base := 0) (e := e) (size := T.n) w cs l.length (Nat.zero_le _) hl (by rw [← Array.length_toList, hcs, length_flat])
  rw [hcs] at h
  exact h

/-- The blocks of a slice that was appended to. -/
theorem foot_app {w : World} {v v' : Value} (h : v'.ownBlock = v.ownBlock ∨ v'.ownBlock = some w.heap.size) : ∀ g ∈ foot1 v', g ∈ foot1 v ∨ g = w.heap.size := by
  intro g hg
  rw [mem_foot1] at hg
  rcases h with h | h
  · exact .inl (mem_foot1.2 (by rw [← h]; exact hg))
  · rw [h] at hg
    injection hg with hg
    exact .inr hg.symm

end Go.Proofs.YtkldapdpaldbgaaGreat
