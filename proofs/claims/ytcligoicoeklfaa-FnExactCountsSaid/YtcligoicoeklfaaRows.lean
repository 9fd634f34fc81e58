/-
  No cell of these rows narrows 'for every input' (looked for: loops, veiled, ifaces, maps, wideKeys, modest, calm, conditions, laid).
  DERIVED. THE GIVEN ROWS OF THIS SEAT. 6 by the template 'for every input the law returns true; each argument reads behind the call as it read before'; 0 by the template 'total and deterministic' (their statements: YtcligoicoeklfaaTotals.lean).
  GIVEN WITH THE SEED: the statements are not yours to turn. If you find one false, say at which input.
  Laid BY PROGRAM, IN A SANDBOX (cutbox-rows.mjs): the forced cells as the released guide's own fill.sh prints them over the translation c9fb8ee9f61871d5… (all of the seat's roots in one cut). By AI agents, Wed Nov 11 2026. No macro, syntax, notation, axiom, sorry.
-/
import Derived.Test.YtcligoicoeklfaaChecked
import GoSem.Claim
import GoSem.ClaimJoined
import GoSem.ClaimMapViews
import Derived.JoinedTies
import Derived.KernelRfl
namespace Go.Proofs.Ytcligoicoeklfaa
/- THE CELL 'sum', in the pinned program and in every row, IS THE sha256 OF THE DUMP (.gsa) THAT YtcligoicoeklfaaProg.lean LOADS. Nothing in Lean hashes anything: it is a label: what it is worth is what the hold of that sum in a sandbox is worth. -/
noncomputable def Try.pinned : Pinned := { name := "ytcligoicoeklfaa", sum := "c9fb8ee9f61871d5ca04d8789637dd8d32d42bb2523e42bff03fc61bd1c23f5a", checked := Try.checked }
namespace Rows
def none {H : Type} : Left H := { results := [], args := [] }

/-- 'laws.FnExactStateOf': WHATEVER THE INPUT: true; the input reads as it did. -/
def fnExactStateOfSpec : ChangeSpec := { name := "fnExactStateOf", fn := fun _ => fun
  | [d1, d2] => { results := [.lit (.bool true)], args := [d1, d2] }
  | _ => none }
def fnExactStateOfRow : OpenClaim := { program := "ytcligoicoeklfaa", sum := "c9fb8ee9f61871d5ca04d8789637dd8d32d42bb2523e42bff03fc61bd1c23f5a", func := "loop.example/g01538/laws.FnExactStateOf", spec := "fnExactStateOf", unfollowed := true, recurses := true, apart := false }
def FnExactStateOfSaid : Prop := fnExactStateOfRow.holds Try.pinned (OpenSpec.ofChange fnExactStateOfSpec)

/-- ITS FALSE NEIGHBOUR: 'it returns false'. Refute it at one input. -/
def fnExactStateOfWrong : ChangeSpec := { name := "fnExactStateOf", fn := fun _ => fun
  | [d1, d2] => { results := [.lit (.bool false)], args := [d1, d2] }
  | _ => none }
def FnExactStateOfWrongFalsely : Prop := fnExactStateOfRow.holds Try.pinned (OpenSpec.ofChange fnExactStateOfWrong)

/-- 'laws.FnExactRawLoad': WHATEVER THE INPUT: true; the input reads as it did. -/
def fnExactRawLoadSpec : ChangeSpec := { name := "fnExactRawLoad", fn := fun _ => fun
  | [d1, d2, d3, d4] => { results := [.lit (.bool true)], args := [d1, d2, d3, d4] }
  | _ => none }
def fnExactRawLoadRow : OpenClaim := { program := "ytcligoicoeklfaa", sum := "c9fb8ee9f61871d5ca04d8789637dd8d32d42bb2523e42bff03fc61bd1c23f5a", func := "loop.example/g01538/laws.FnExactRawLoad", spec := "fnExactRawLoad", unfollowed := true, recurses := true, apart := false }
def FnExactRawLoadSaid : Prop := fnExactRawLoadRow.holds Try.pinned (OpenSpec.ofChange fnExactRawLoadSpec)

/-- ITS FALSE NEIGHBOUR: 'it returns false'. Refute it at one input. -/
def fnExactRawLoadWrong : ChangeSpec := { name := "fnExactRawLoad", fn := fun _ => fun
  | [d1, d2, d3, d4] => { results := [.lit (.bool false)], args := [d1, d2, d3, d4] }
  | _ => none }
def FnExactRawLoadWrongFalsely : Prop := fnExactRawLoadRow.holds Try.pinned (OpenSpec.ofChange fnExactRawLoadWrong)

/-- 'laws.FnExactValid': WHATEVER THE INPUT: true; the input reads as it did. -/
def fnExactValidSpec : ChangeSpec := { name := "fnExactValid", fn := fun _ => fun
  | [d1, d2] => { results := [.lit (.bool true)], args := [d1, d2] }
  | _ => none }
def fnExactValidRow : OpenClaim := { program := "ytcligoicoeklfaa", sum := "c9fb8ee9f61871d5ca04d8789637dd8d32d42bb2523e42bff03fc61bd1c23f5a", func := "loop.example/g01538/laws.FnExactValid", spec := "fnExactValid", unfollowed := true, recurses := true, apart := false }
def FnExactValidSaid : Prop := fnExactValidRow.holds Try.pinned (OpenSpec.ofChange fnExactValidSpec)

/-- ITS FALSE NEIGHBOUR: 'it returns false'. Refute it at one input. -/
def fnExactValidWrong : ChangeSpec := { name := "fnExactValid", fn := fun _ => fun
  | [d1, d2] => { results := [.lit (.bool false)], args := [d1, d2] }
  | _ => none }
def FnExactValidWrongFalsely : Prop := fnExactValidRow.holds Try.pinned (OpenSpec.ofChange fnExactValidWrong)

/-- 'laws.FnExactCounts': WHATEVER THE INPUT: true; the input reads as it did. -/
def fnExactCountsSpec : ChangeSpec := { name := "fnExactCounts", fn := fun _ => fun
  | [d] => { results := [.lit (.bool true)], args := [d] }
  | _ => none }
def fnExactCountsRow : OpenClaim := { program := "ytcligoicoeklfaa", sum := "c9fb8ee9f61871d5ca04d8789637dd8d32d42bb2523e42bff03fc61bd1c23f5a", func := "loop.example/g01538/laws.FnExactCounts", spec := "fnExactCounts", unfollowed := true, recurses := true, apart := false }
def FnExactCountsSaid : Prop := fnExactCountsRow.holds Try.pinned (OpenSpec.ofChange fnExactCountsSpec)

/-- ITS FALSE NEIGHBOUR: 'it returns false'. Refute it at one input. -/
def fnExactCountsWrong : ChangeSpec := { name := "fnExactCounts", fn := fun _ => fun
  | [d] => { results := [.lit (.bool false)], args := [d] }
  | _ => none }
def FnExactCountsWrongFalsely : Prop := fnExactCountsRow.holds Try.pinned (OpenSpec.ofChange fnExactCountsWrong)

/-- 'laws.FnExactLoadIn': WHATEVER THE INPUT: true; the input reads as it did. -/
def fnExactLoadInSpec : ChangeSpec := { name := "fnExactLoadIn", fn := fun _ => fun
  | [d1, d2, d3, d4] => { results := [.lit (.bool true)], args := [d1, d2, d3, d4] }
  | _ => none }
def fnExactLoadInRow : OpenClaim := { program := "ytcligoicoeklfaa", sum := "c9fb8ee9f61871d5ca04d8789637dd8d32d42bb2523e42bff03fc61bd1c23f5a", func := "loop.example/g01538/laws.FnExactLoadIn", spec := "fnExactLoadIn", unfollowed := true, recurses := true, apart := false }
def FnExactLoadInSaid : Prop := fnExactLoadInRow.holds Try.pinned (OpenSpec.ofChange fnExactLoadInSpec)

/-- ITS FALSE NEIGHBOUR: 'it returns false'. Refute it at one input. -/
def fnExactLoadInWrong : ChangeSpec := { name := "fnExactLoadIn", fn := fun _ => fun
  | [d1, d2, d3, d4] => { results := [.lit (.bool false)], args := [d1, d2, d3, d4] }
  | _ => none }
def FnExactLoadInWrongFalsely : Prop := fnExactLoadInRow.holds Try.pinned (OpenSpec.ofChange fnExactLoadInWrong)

/-- 'laws.FnNoReuse': WHATEVER THE INPUT: true; the input reads as it did. -/
def fnNoReuseSpec : ChangeSpec := { name := "fnNoReuse", fn := fun _ => fun
  | [d] => { results := [.lit (.bool true)], args := [d] }
  | _ => none }
def fnNoReuseRow : OpenClaim := { program := "ytcligoicoeklfaa", sum := "c9fb8ee9f61871d5ca04d8789637dd8d32d42bb2523e42bff03fc61bd1c23f5a", func := "loop.example/g01538/laws.FnNoReuse", spec := "fnNoReuse", unfollowed := true, recurses := true, apart := false }
def FnNoReuseSaid : Prop := fnNoReuseRow.holds Try.pinned (OpenSpec.ofChange fnNoReuseSpec)

/-- ITS FALSE NEIGHBOUR: 'it returns false'. Refute it at one input. -/
def fnNoReuseWrong : ChangeSpec := { name := "fnNoReuse", fn := fun _ => fun
  | [d] => { results := [.lit (.bool false)], args := [d] }
  | _ => none }
def FnNoReuseWrongFalsely : Prop := fnNoReuseRow.holds Try.pinned (OpenSpec.ofChange fnNoReuseWrong)

/- THE SECOND FORM. 'bulk': how many values and letters a reading holds, each counted each time it is reached (what is shared counts as often as it is met; a slice's spare places count too). A statement '..UptoSaid' is the law's where the arguments, and the package variables that the reading takes, are together of bulk at most 1048576: NARROWER than '..Said'. Prove '..Said' where nothing that the law and all that it calls make is longer than what came in: it says more and counts as full. Else prove '..UptoSaid'. A law counts once. -/
mutual
def uptoBulk {H : Type} : DataW H → Nat
  | .lit (.string bytes) => bytes.length + 1
  | .lit _ => 1
  | .nil => 1
  | .ptr d => uptoBulk d + 1
  | .slice elems spare => uptoBulkAll elems + uptoBulkAll spare + 1
  | .agg parts => uptoBulkAll parts + 1
  | .iface _ d => uptoBulk d + 1
  | .map entries => uptoBulkEntries entries + 1
  | .held _ => 1
def uptoBulkAll {H : Type} : List (DataW H) → Nat
  | [] => 0
  | d :: r => uptoBulk d + uptoBulkAll r
def uptoBulkEntries {H : Type} : List (Lit × DataW H) → Nat
  | [] => 0
  | x :: r => uptoBulkEntry x + uptoBulkEntries r
def uptoBulkEntry {H : Type} : Lit × DataW H → Nat
  | (.string bytes, d) => bytes.length + uptoBulk d + 1
  | (_, d) => uptoBulk d + 1
 end
def uptoSmall : (H : Type) → List (DataW H) → Bool := fun _ ds => decide (uptoBulkAll ds ≤ 1048576)
def OpenSpec.upto (s : _root_.Go.ChangeSpec) : _root_.Go.OpenSpec := { _root_.Go.OpenSpec.ofChange s with cond := some uptoSmall }

/-- 'laws.FnExactStateOf', WHERE WHAT IT READS IS OF BULK AT MOST 1048576: true; the input reads as it did. -/
def fnExactStateOfUptoRow : OpenClaim := { program := "ytcligoicoeklfaa", sum := "c9fb8ee9f61871d5ca04d8789637dd8d32d42bb2523e42bff03fc61bd1c23f5a", func := "loop.example/g01538/laws.FnExactStateOf", spec := "fnExactStateOf", unfollowed := true, recurses := true, apart := false, narrowed := true }
def FnExactStateOfUptoSaid : Prop := fnExactStateOfUptoRow.holds Try.pinned (OpenSpec.upto fnExactStateOfSpec)

/-- 'laws.FnExactRawLoad', WHERE WHAT IT READS IS OF BULK AT MOST 1048576: true; the input reads as it did. -/
def fnExactRawLoadUptoRow : OpenClaim := { program := "ytcligoicoeklfaa", sum := "c9fb8ee9f61871d5ca04d8789637dd8d32d42bb2523e42bff03fc61bd1c23f5a", func := "loop.example/g01538/laws.FnExactRawLoad", spec := "fnExactRawLoad", unfollowed := true, recurses := true, apart := false, narrowed := true }
def FnExactRawLoadUptoSaid : Prop := fnExactRawLoadUptoRow.holds Try.pinned (OpenSpec.upto fnExactRawLoadSpec)

/-- 'laws.FnExactValid', WHERE WHAT IT READS IS OF BULK AT MOST 1048576: true; the input reads as it did. -/
def fnExactValidUptoRow : OpenClaim := { program := "ytcligoicoeklfaa", sum := "c9fb8ee9f61871d5ca04d8789637dd8d32d42bb2523e42bff03fc61bd1c23f5a", func := "loop.example/g01538/laws.FnExactValid", spec := "fnExactValid", unfollowed := true, recurses := true, apart := false, narrowed := true }
def FnExactValidUptoSaid : Prop := fnExactValidUptoRow.holds Try.pinned (OpenSpec.upto fnExactValidSpec)

/-- 'laws.FnExactCounts', WHERE WHAT IT READS IS OF BULK AT MOST 1048576: true; the input reads as it did. -/
def fnExactCountsUptoRow : OpenClaim := { program := "ytcligoicoeklfaa", sum := "c9fb8ee9f61871d5ca04d8789637dd8d32d42bb2523e42bff03fc61bd1c23f5a", func := "loop.example/g01538/laws.FnExactCounts", spec := "fnExactCounts", unfollowed := true, recurses := true, apart := false, narrowed := true }
def FnExactCountsUptoSaid : Prop := fnExactCountsUptoRow.holds Try.pinned (OpenSpec.upto fnExactCountsSpec)

/-- 'laws.FnExactLoadIn', WHERE WHAT IT READS IS OF BULK AT MOST 1048576: true; the input reads as it did. -/
def fnExactLoadInUptoRow : OpenClaim := { program := "ytcligoicoeklfaa", sum := "c9fb8ee9f61871d5ca04d8789637dd8d32d42bb2523e42bff03fc61bd1c23f5a", func := "loop.example/g01538/laws.FnExactLoadIn", spec := "fnExactLoadIn", unfollowed := true, recurses := true, apart := false, narrowed := true }
def FnExactLoadInUptoSaid : Prop := fnExactLoadInUptoRow.holds Try.pinned (OpenSpec.upto fnExactLoadInSpec)

/-- 'laws.FnNoReuse', WHERE WHAT IT READS IS OF BULK AT MOST 1048576: true; the input reads as it did. -/
def fnNoReuseUptoRow : OpenClaim := { program := "ytcligoicoeklfaa", sum := "c9fb8ee9f61871d5ca04d8789637dd8d32d42bb2523e42bff03fc61bd1c23f5a", func := "loop.example/g01538/laws.FnNoReuse", spec := "fnNoReuse", unfollowed := true, recurses := true, apart := false, narrowed := true }
def FnNoReuseUptoSaid : Prop := fnNoReuseUptoRow.holds Try.pinned (OpenSpec.upto fnNoReuseSpec)

end Rows
end Go.Proofs.Ytcligoicoeklfaa
