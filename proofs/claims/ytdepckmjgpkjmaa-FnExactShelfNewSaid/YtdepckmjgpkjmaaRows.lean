/-
  No cell of these rows narrows 'for every input' (looked for: loops, veiled, ifaces, maps, wideKeys, modest, calm, conditions, laid).
  DERIVED. THE GIVEN ROWS OF THIS SEAT. 6 by the template 'for every input the law returns true; each argument reads behind the call as it read before'; 0 by the template 'total and deterministic' (their statements: YtdepckmjgpkjmaaTotals.lean).
  GIVEN WITH THE SEED: the statements are not yours to turn. If you find one false, say at which input.
  Laid BY PROGRAM, IN A SANDBOX (cutbox-rows.mjs): the forced cells as the released guide's own fill.sh prints them over the translation 07a99bd1e783d90c… (all of the seat's roots in one cut). By AI agents, Wed Nov 11 2026. No macro, syntax, notation, axiom, sorry.
-/
import Derived.Test.YtdepckmjgpkjmaaChecked
import GoSem.Claim
import GoSem.ClaimJoined
import GoSem.ClaimMapViews
import Derived.JoinedTies
import Derived.KernelRfl
namespace Go.Proofs.Ytdepckmjgpkjmaa
/- THE CELL 'sum', in the pinned program and in every row, IS THE sha256 OF THE DUMP (.gsa) THAT YtdepckmjgpkjmaaProg.lean LOADS. Nothing in Lean hashes anything: it is a label: what it is worth is what the hold of that sum in a sandbox is worth. -/
noncomputable def Try.pinned : Pinned := { name := "ytdepckmjgpkjmaa", sum := "07a99bd1e783d90c500cc5713f89cfd33f4f5c5ffa4240f714b17287e03fb847", checked := Try.checked }
namespace Rows
def none {H : Type} : Left H := { results := [], args := [] }

/-- 'laws.FnExactCellAt': WHATEVER THE INPUT: true; the input reads as it did. -/
def fnExactCellAtSpec : ChangeSpec := { name := "fnExactCellAt", fn := fun _ => fun
  | [d1, d2, d3] => { results := [.lit (.bool true)], args := [d1, d2, d3] }
  | _ => none }
def fnExactCellAtRow : OpenClaim := { program := "ytdepckmjgpkjmaa", sum := "07a99bd1e783d90c500cc5713f89cfd33f4f5c5ffa4240f714b17287e03fb847", func := "loop.example/g01538/laws.FnExactCellAt", spec := "fnExactCellAt", unfollowed := true, recurses := true, apart := false }
def FnExactCellAtSaid : Prop := fnExactCellAtRow.holds Try.pinned (OpenSpec.ofChange fnExactCellAtSpec)

/-- ITS FALSE NEIGHBOUR: 'it returns false'. Refute it at one input. -/
def fnExactCellAtWrong : ChangeSpec := { name := "fnExactCellAt", fn := fun _ => fun
  | [d1, d2, d3] => { results := [.lit (.bool false)], args := [d1, d2, d3] }
  | _ => none }
def FnExactCellAtWrongFalsely : Prop := fnExactCellAtRow.holds Try.pinned (OpenSpec.ofChange fnExactCellAtWrong)

/-- 'laws.FnExactTruthOf': WHATEVER THE INPUT: true; the input reads as it did. -/
def fnExactTruthOfSpec : ChangeSpec := { name := "fnExactTruthOf", fn := fun _ => fun
  | [d] => { results := [.lit (.bool true)], args := [d] }
  | _ => none }
def fnExactTruthOfRow : OpenClaim := { program := "ytdepckmjgpkjmaa", sum := "07a99bd1e783d90c500cc5713f89cfd33f4f5c5ffa4240f714b17287e03fb847", func := "loop.example/g01538/laws.FnExactTruthOf", spec := "fnExactTruthOf", unfollowed := true, recurses := true, apart := false }
def FnExactTruthOfSaid : Prop := fnExactTruthOfRow.holds Try.pinned (OpenSpec.ofChange fnExactTruthOfSpec)

/-- ITS FALSE NEIGHBOUR: 'it returns false'. Refute it at one input. -/
def fnExactTruthOfWrong : ChangeSpec := { name := "fnExactTruthOf", fn := fun _ => fun
  | [d] => { results := [.lit (.bool false)], args := [d] }
  | _ => none }
def FnExactTruthOfWrongFalsely : Prop := fnExactTruthOfRow.holds Try.pinned (OpenSpec.ofChange fnExactTruthOfWrong)

/-- 'laws.FnExactIdle': WHATEVER THE INPUT: true; the input reads as it did. -/
def fnExactIdleSpec : ChangeSpec := { name := "fnExactIdle", fn := fun _ => fun
  | [d] => { results := [.lit (.bool true)], args := [d] }
  | _ => none }
def fnExactIdleRow : OpenClaim := { program := "ytdepckmjgpkjmaa", sum := "07a99bd1e783d90c500cc5713f89cfd33f4f5c5ffa4240f714b17287e03fb847", func := "loop.example/g01538/laws.FnExactIdle", spec := "fnExactIdle", unfollowed := true, recurses := true, apart := false }
def FnExactIdleSaid : Prop := fnExactIdleRow.holds Try.pinned (OpenSpec.ofChange fnExactIdleSpec)

/-- ITS FALSE NEIGHBOUR: 'it returns false'. Refute it at one input. -/
def fnExactIdleWrong : ChangeSpec := { name := "fnExactIdle", fn := fun _ => fun
  | [d] => { results := [.lit (.bool false)], args := [d] }
  | _ => none }
def FnExactIdleWrongFalsely : Prop := fnExactIdleRow.holds Try.pinned (OpenSpec.ofChange fnExactIdleWrong)

/-- 'laws.FnExactSameShelf': WHATEVER THE INPUT: true; the input reads as it did. -/
def fnExactSameShelfSpec : ChangeSpec := { name := "fnExactSameShelf", fn := fun _ => fun
  | [d1, d2] => { results := [.lit (.bool true)], args := [d1, d2] }
  | _ => none }
def fnExactSameShelfRow : OpenClaim := { program := "ytdepckmjgpkjmaa", sum := "07a99bd1e783d90c500cc5713f89cfd33f4f5c5ffa4240f714b17287e03fb847", func := "loop.example/g01538/laws.FnExactSameShelf", spec := "fnExactSameShelf", unfollowed := true, recurses := true, apart := false }
def FnExactSameShelfSaid : Prop := fnExactSameShelfRow.holds Try.pinned (OpenSpec.ofChange fnExactSameShelfSpec)

/-- ITS FALSE NEIGHBOUR: 'it returns false'. Refute it at one input. -/
def fnExactSameShelfWrong : ChangeSpec := { name := "fnExactSameShelf", fn := fun _ => fun
  | [d1, d2] => { results := [.lit (.bool false)], args := [d1, d2] }
  | _ => none }
def FnExactSameShelfWrongFalsely : Prop := fnExactSameShelfRow.holds Try.pinned (OpenSpec.ofChange fnExactSameShelfWrong)

/-- 'laws.FnExactTells': WHATEVER THE INPUT: true; the input reads as it did. -/
def fnExactTellsSpec : ChangeSpec := { name := "fnExactTells", fn := fun _ => fun
  | [d] => { results := [.lit (.bool true)], args := [d] }
  | _ => none }
def fnExactTellsRow : OpenClaim := { program := "ytdepckmjgpkjmaa", sum := "07a99bd1e783d90c500cc5713f89cfd33f4f5c5ffa4240f714b17287e03fb847", func := "loop.example/g01538/laws.FnExactTells", spec := "fnExactTells", apart := false }
def FnExactTellsSaid : Prop := fnExactTellsRow.holds Try.pinned (OpenSpec.ofChange fnExactTellsSpec)

/-- ITS FALSE NEIGHBOUR: 'it returns false'. Refute it at one input. -/
def fnExactTellsWrong : ChangeSpec := { name := "fnExactTells", fn := fun _ => fun
  | [d] => { results := [.lit (.bool false)], args := [d] }
  | _ => none }
def FnExactTellsWrongFalsely : Prop := fnExactTellsRow.holds Try.pinned (OpenSpec.ofChange fnExactTellsWrong)

/-- 'laws.FnExactShelfNew': WHATEVER THE INPUT: true; the input reads as it did. -/
def fnExactShelfNewSpec : ChangeSpec := { name := "fnExactShelfNew", fn := fun _ => fun
  | [d] => { results := [.lit (.bool true)], args := [d] }
  | _ => none }
def fnExactShelfNewRow : OpenClaim := { program := "ytdepckmjgpkjmaa", sum := "07a99bd1e783d90c500cc5713f89cfd33f4f5c5ffa4240f714b17287e03fb847", func := "loop.example/g01538/laws.FnExactShelfNew", spec := "fnExactShelfNew", unfollowed := true, recurses := true, apart := false }
def FnExactShelfNewSaid : Prop := fnExactShelfNewRow.holds Try.pinned (OpenSpec.ofChange fnExactShelfNewSpec)

/-- ITS FALSE NEIGHBOUR: 'it returns false'. Refute it at one input. -/
def fnExactShelfNewWrong : ChangeSpec := { name := "fnExactShelfNew", fn := fun _ => fun
  | [d] => { results := [.lit (.bool false)], args := [d] }
  | _ => none }
def FnExactShelfNewWrongFalsely : Prop := fnExactShelfNewRow.holds Try.pinned (OpenSpec.ofChange fnExactShelfNewWrong)

/- THE SECOND FORM. 'bulk': how many values and letters a reading holds, each counted each time it is reached (what is shared counts as often as it is met; a slice's spare places count too). A statement '..UptoSaid' is the law's where the arguments, and the package variables that the reading takes, are together of bulk at most 1048576: NARROWER than '..Said'. Prove '..Said' where nothing that the law and all that it calls make is longer than what came in: it says more and counts as full. Else prove '..UptoSaid'. A law counts once. -/
mutual
def uptoBulk {H : Type} : DataW H → Nat
  | .lit (.string bytes) => bytes.length + 1
  | .lit _ => 1
  | .nil => 1
  | .ptr d => uptoBulk d + 1
  | .slice elems spare => uptoBulkAll elems + uptoBulkAll spare + 1
  | .agg parts => uptoBulkAll parts + 1
  | .iface _ d => uptoBulk d + 1
  | .map entries => uptoBulkEntries entries + 1
  | .held _ => 1
def uptoBulkAll {H : Type} : List (DataW H) → Nat
  | [] => 0
  | d :: r => uptoBulk d + uptoBulkAll r
def uptoBulkEntries {H : Type} : List (Lit × DataW H) → Nat
  | [] => 0
  | x :: r => uptoBulkEntry x + uptoBulkEntries r
def uptoBulkEntry {H : Type} : Lit × DataW H → Nat
  | (.string bytes, d) => bytes.length + uptoBulk d + 1
  | (_, d) => uptoBulk d + 1
 end
def uptoSmall : (H : Type) → List (DataW H) → Bool := fun _ ds => decide (uptoBulkAll ds ≤ 1048576)
def OpenSpec.upto (s : _root_.Go.ChangeSpec) : _root_.Go.OpenSpec := { _root_.Go.OpenSpec.ofChange s with cond := some uptoSmall }

/-- 'laws.FnExactCellAt', WHERE WHAT IT READS IS OF BULK AT MOST 1048576: true; the input reads as it did. -/
def fnExactCellAtUptoRow : OpenClaim := { program := "ytdepckmjgpkjmaa", sum := "07a99bd1e783d90c500cc5713f89cfd33f4f5c5ffa4240f714b17287e03fb847", func := "loop.example/g01538/laws.FnExactCellAt", spec := "fnExactCellAt", unfollowed := true, recurses := true, apart := false, narrowed := true }
def FnExactCellAtUptoSaid : Prop := fnExactCellAtUptoRow.holds Try.pinned (OpenSpec.upto fnExactCellAtSpec)

/-- 'laws.FnExactTruthOf', WHERE WHAT IT READS IS OF BULK AT MOST 1048576: true; the input reads as it did. -/
def fnExactTruthOfUptoRow : OpenClaim := { program := "ytdepckmjgpkjmaa", sum := "07a99bd1e783d90c500cc5713f89cfd33f4f5c5ffa4240f714b17287e03fb847", func := "loop.example/g01538/laws.FnExactTruthOf", spec := "fnExactTruthOf", unfollowed := true, recurses := true, apart := false, narrowed := true }
def FnExactTruthOfUptoSaid : Prop := fnExactTruthOfUptoRow.holds Try.pinned (OpenSpec.upto fnExactTruthOfSpec)

/-- 'laws.FnExactIdle', WHERE WHAT IT READS IS OF BULK AT MOST 1048576: true; the input reads as it did. -/
def fnExactIdleUptoRow : OpenClaim := { program := "ytdepckmjgpkjmaa", sum := "07a99bd1e783d90c500cc5713f89cfd33f4f5c5ffa4240f714b17287e03fb847", func := "loop.example/g01538/laws.FnExactIdle", spec := "fnExactIdle", unfollowed := true, recurses := true, apart := false, narrowed := true }
def FnExactIdleUptoSaid : Prop := fnExactIdleUptoRow.holds Try.pinned (OpenSpec.upto fnExactIdleSpec)

/-- 'laws.FnExactSameShelf', WHERE WHAT IT READS IS OF BULK AT MOST 1048576: true; the input reads as it did. -/
def fnExactSameShelfUptoRow : OpenClaim := { program := "ytdepckmjgpkjmaa", sum := "07a99bd1e783d90c500cc5713f89cfd33f4f5c5ffa4240f714b17287e03fb847", func := "loop.example/g01538/laws.FnExactSameShelf", spec := "fnExactSameShelf", unfollowed := true, recurses := true, apart := false, narrowed := true }
def FnExactSameShelfUptoSaid : Prop := fnExactSameShelfUptoRow.holds Try.pinned (OpenSpec.upto fnExactSameShelfSpec)

/-- 'laws.FnExactTells', WHERE WHAT IT READS IS OF BULK AT MOST 1048576: true; the input reads as it did. -/
def fnExactTellsUptoRow : OpenClaim := { program := "ytdepckmjgpkjmaa", sum := "07a99bd1e783d90c500cc5713f89cfd33f4f5c5ffa4240f714b17287e03fb847", func := "loop.example/g01538/laws.FnExactTells", spec := "fnExactTells", apart := false, narrowed := true }
def FnExactTellsUptoSaid : Prop := fnExactTellsUptoRow.holds Try.pinned (OpenSpec.upto fnExactTellsSpec)

/-- 'laws.FnExactShelfNew', WHERE WHAT IT READS IS OF BULK AT MOST 1048576: true; the input reads as it did. -/
def fnExactShelfNewUptoRow : OpenClaim := { program := "ytdepckmjgpkjmaa", sum := "07a99bd1e783d90c500cc5713f89cfd33f4f5c5ffa4240f714b17287e03fb847", func := "loop.example/g01538/laws.FnExactShelfNew", spec := "fnExactShelfNew", unfollowed := true, recurses := true, apart := false, narrowed := true }
def FnExactShelfNewUptoSaid : Prop := fnExactShelfNewUptoRow.holds Try.pinned (OpenSpec.upto fnExactShelfNewSpec)

end Rows
end Go.Proofs.Ytdepckmjgpkjmaa
