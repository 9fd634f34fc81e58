/-
  No cell of these rows narrows 'for every input' (looked for: loops, veiled, ifaces, maps, wideKeys, modest, calm, conditions, laid).
  DERIVED. THE GIVEN ROWS OF THIS SEAT. 3 by the template 'for every input the law returns true; each argument reads behind the call as it read before'; 0 by the template 'total and deterministic' (their statements: YtpjijbonpjoamaaGreatTotals.lean).
  GIVEN WITH THE SEED: the statements are not yours to turn. If you find one false, say at which input.
  Laid BY PROGRAM, IN A SANDBOX (cutbox-rows.mjs): the forced cells as the released guide's own fill.sh prints them over the translation c2f16f1684053ddf… (all of the seat's roots in one cut). By AI agents, Wed Nov 11 2026. No macro, syntax, notation, axiom, sorry.
-/
import Derived.Test.YtpjijbonpjoamaaGreatChecked
import GoSem.Claim
import GoSem.ClaimJoined
import GoSem.ClaimMapViews
import Derived.JoinedTies
import Derived.KernelRfl
namespace Go.Proofs.YtpjijbonpjoamaaGreat
/- THE CELL 'sum', in the pinned program and in every row, IS THE sha256 OF THE DUMP (.gsa) THAT YtpjijbonpjoamaaGreatProg.lean LOADS. Nothing in Lean hashes anything: it is a label: what it is worth is what the hold of that sum in a sandbox is worth. -/
noncomputable def Tryz.pinned : Pinned := { name := "ytpjijbonpjoamaagreat", sum := "c2f16f1684053ddf49e1e0b6ad2b5c45019aa55051254a187ee569fc962b286e", checked := Tryz.checked }
namespace Rows
def none {H : Type} : Left H := { results := [], args := [] }

/-- 'laws.FnExactFreeNow': WHATEVER THE INPUT: true; the input reads as it did. -/
def fnExactFreeNowSpec : ChangeSpec := { name := "fnExactFreeNow", fn := fun _ => fun
  | [d1, d2, d3] => { results := [.lit (.bool true)], args := [d1, d2, d3] }
  | _ => none }
def fnExactFreeNowRow : OpenClaim := { program := "ytpjijbonpjoamaagreat", sum := "c2f16f1684053ddf49e1e0b6ad2b5c45019aa55051254a187ee569fc962b286e", func := "loop.example/g01538/laws.FnExactFreeNow", spec := "fnExactFreeNow", unfollowed := true, recurses := true, apart := false }
def FnExactFreeNowSaid : Prop := fnExactFreeNowRow.holds Tryz.pinned (OpenSpec.ofChange fnExactFreeNowSpec)

/-- ITS FALSE NEIGHBOUR: 'it returns false'. Refute it at one input. -/
def fnExactFreeNowWrong : ChangeSpec := { name := "fnExactFreeNow", fn := fun _ => fun
  | [d1, d2, d3] => { results := [.lit (.bool false)], args := [d1, d2, d3] }
  | _ => none }
def FnExactFreeNowWrongFalsely : Prop := fnExactFreeNowRow.holds Tryz.pinned (OpenSpec.ofChange fnExactFreeNowWrong)

/-- 'laws.FnExactStoreIn': WHATEVER THE INPUT: true; the input reads as it did. -/
def fnExactStoreInSpec : ChangeSpec := { name := "fnExactStoreIn", fn := fun _ => fun
  | [d1, d2, d3, d4, d5] => { results := [.lit (.bool true)], args := [d1, d2, d3, d4, d5] }
  | _ => none }
def fnExactStoreInRow : OpenClaim := { program := "ytpjijbonpjoamaagreat", sum := "c2f16f1684053ddf49e1e0b6ad2b5c45019aa55051254a187ee569fc962b286e", func := "loop.example/g01538/laws.FnExactStoreIn", spec := "fnExactStoreIn", unfollowed := true, recurses := true, apart := false }
def FnExactStoreInSaid : Prop := fnExactStoreInRow.holds Tryz.pinned (OpenSpec.ofChange fnExactStoreInSpec)

/-- ITS FALSE NEIGHBOUR: 'it returns false'. Refute it at one input. -/
def fnExactStoreInWrong : ChangeSpec := { name := "fnExactStoreIn", fn := fun _ => fun
  | [d1, d2, d3, d4, d5] => { results := [.lit (.bool false)], args := [d1, d2, d3, d4, d5] }
  | _ => none }
def FnExactStoreInWrongFalsely : Prop := fnExactStoreInRow.holds Tryz.pinned (OpenSpec.ofChange fnExactStoreInWrong)

/-- 'laws.FnExactAllocNow': WHATEVER THE INPUT: true; the input reads as it did. -/
def fnExactAllocNowSpec : ChangeSpec := { name := "fnExactAllocNow", fn := fun _ => fun
  | [d1, d2, d3] => { results := [.lit (.bool true)], args := [d1, d2, d3] }
  | _ => none }
def fnExactAllocNowRow : OpenClaim := { program := "ytpjijbonpjoamaagreat", sum := "c2f16f1684053ddf49e1e0b6ad2b5c45019aa55051254a187ee569fc962b286e", func := "loop.example/g01538/laws.FnExactAllocNow", spec := "fnExactAllocNow", unfollowed := true, recurses := true, apart := false }
def FnExactAllocNowSaid : Prop := fnExactAllocNowRow.holds Tryz.pinned (OpenSpec.ofChange fnExactAllocNowSpec)

/-- ITS FALSE NEIGHBOUR: 'it returns false'. Refute it at one input. -/
def fnExactAllocNowWrong : ChangeSpec := { name := "fnExactAllocNow", fn := fun _ => fun
  | [d1, d2, d3] => { results := [.lit (.bool false)], args := [d1, d2, d3] }
  | _ => none }
def FnExactAllocNowWrongFalsely : Prop := fnExactAllocNowRow.holds Tryz.pinned (OpenSpec.ofChange fnExactAllocNowWrong)

/- THE SECOND FORM. 'bulk': how many values and letters a reading holds, each counted each time it is reached (what is shared counts as often as it is met; a slice's spare places count too). A statement '..UptoSaid' is the law's where the arguments, and the package variables that the reading takes, are together of bulk at most 1048576: NARROWER than '..Said'. Prove '..Said' where nothing that the law and all that it calls make is longer than what came in: it says more and counts as full. Else prove '..UptoSaid'. A law counts once. -/
mutual
def uptoBulk {H : Type} : DataW H → Nat
  | .lit (.string bytes) => bytes.length + 1
  | .lit _ => 1
  | .nil => 1
  | .ptr d => uptoBulk d + 1
  | .slice elems spare => uptoBulkAll elems + uptoBulkAll spare + 1
  | .agg parts => uptoBulkAll parts + 1
  | .iface _ d => uptoBulk d + 1
  | .map entries => uptoBulkEntries entries + 1
  | .held _ => 1
def uptoBulkAll {H : Type} : List (DataW H) → Nat
  | [] => 0
  | d :: r => uptoBulk d + uptoBulkAll r
def uptoBulkEntries {H : Type} : List (Lit × DataW H) → Nat
  | [] => 0
  | x :: r => uptoBulkEntry x + uptoBulkEntries r
def uptoBulkEntry {H : Type} : Lit × DataW H → Nat
  | (.string bytes, d) => bytes.length + uptoBulk d + 1
  | (_, d) => uptoBulk d + 1
 end
def uptoSmall : (H : Type) → List (DataW H) → Bool := fun _ ds => decide (uptoBulkAll ds ≤ 1048576)
def OpenSpec.upto (s : _root_.Go.ChangeSpec) : _root_.Go.OpenSpec := { _root_.Go.OpenSpec.ofChange s with cond := some uptoSmall }

/-- 'laws.FnExactFreeNow', WHERE WHAT IT READS IS OF BULK AT MOST 1048576: true; the input reads as it did. -/
def fnExactFreeNowUptoRow : OpenClaim := { program := "ytpjijbonpjoamaagreat", sum := "c2f16f1684053ddf49e1e0b6ad2b5c45019aa55051254a187ee569fc962b286e", func := "loop.example/g01538/laws.FnExactFreeNow", spec := "fnExactFreeNow", unfollowed := true, recurses := true, apart := false, narrowed := true }
def FnExactFreeNowUptoSaid : Prop := fnExactFreeNowUptoRow.holds Tryz.pinned (OpenSpec.upto fnExactFreeNowSpec)

/-- 'laws.FnExactStoreIn', WHERE WHAT IT READS IS OF BULK AT MOST 1048576: true; the input reads as it did. -/
def fnExactStoreInUptoRow : OpenClaim := { program := "ytpjijbonpjoamaagreat", sum := "c2f16f1684053ddf49e1e0b6ad2b5c45019aa55051254a187ee569fc962b286e", func := "loop.example/g01538/laws.FnExactStoreIn", spec := "fnExactStoreIn", unfollowed := true, recurses := true, apart := false, narrowed := true }
def FnExactStoreInUptoSaid : Prop := fnExactStoreInUptoRow.holds Tryz.pinned (OpenSpec.upto fnExactStoreInSpec)

/-- 'laws.FnExactAllocNow', WHERE WHAT IT READS IS OF BULK AT MOST 1048576: true; the input reads as it did. -/
def fnExactAllocNowUptoRow : OpenClaim := { program := "ytpjijbonpjoamaagreat", sum := "c2f16f1684053ddf49e1e0b6ad2b5c45019aa55051254a187ee569fc962b286e", func := "loop.example/g01538/laws.FnExactAllocNow", spec := "fnExactAllocNow", unfollowed := true, recurses := true, apart := false, narrowed := true }
def FnExactAllocNowUptoSaid : Prop := fnExactAllocNowUptoRow.holds Tryz.pinned (OpenSpec.upto fnExactAllocNowSpec)

end Rows
end Go.Proofs.YtpjijbonpjoamaaGreat
