/-
  No cell of these rows narrows 'for every input' (looked for: loops, veiled, ifaces, maps, wideKeys, modest, calm, conditions, laid).
  DERIVED. THE GIVEN ROWS OF THIS SEAT. 12 by the template 'for every input the law returns true; each argument reads behind the call as it read before'; 0 by the template 'total and deterministic' (their statements: YtfhdpnnepfnjhaaTotals.lean).
  GIVEN WITH THE SEED: the statements are not yours to turn. If you find one false, say at which input.
  Laid BY PROGRAM, IN A SANDBOX (cutbox-rows.mjs): the forced cells as the released guide's own fill.sh prints them over the translation aeed09cdcc3a6984… (all of the seat's roots in one cut). By AI agents, Wed Nov 11 2026. No macro, syntax, notation, axiom, sorry.
-/
import Derived.Test.YtfhdpnnepfnjhaaChecked
import GoSem.Claim
import GoSem.ClaimJoined
import GoSem.ClaimMapViews
import Derived.JoinedTies
import Derived.KernelRfl
namespace Go.Proofs.Ytfhdpnnepfnjhaa
/- THE CELL 'sum', in the pinned program and in every row, IS THE sha256 OF THE DUMP (.gsa) THAT YtfhdpnnepfnjhaaProg.lean LOADS. Nothing in Lean hashes anything: it is a label: what it is worth is what the hold of that sum in a sandbox is worth. -/
noncomputable def Try.pinned : Pinned := { name := "ytfhdpnnepfnjhaa", sum := "aeed09cdcc3a6984270a3ccc12743f677fd9f546b95eeca4d3cceb2b2ba78a60", checked := Try.checked }
namespace Rows
def none {H : Type} : Left H := { results := [], args := [] }

/-- 'laws.FnExactClockNew': WHATEVER THE INPUT: true; the input reads as it did. -/
def fnExactClockNewSpec : ChangeSpec := { name := "fnExactClockNew", fn := fun _ => fun
  | [] => { results := [.lit (.bool true)], args := [] }
  | _ => none }
def fnExactClockNewRow : OpenClaim := { program := "ytfhdpnnepfnjhaa", sum := "aeed09cdcc3a6984270a3ccc12743f677fd9f546b95eeca4d3cceb2b2ba78a60", func := "loop.example/g01538/laws.FnExactClockNew", spec := "fnExactClockNew", apart := false }
def FnExactClockNewSaid : Prop := fnExactClockNewRow.holds Try.pinned (OpenSpec.ofChange fnExactClockNewSpec)

/-- ITS FALSE NEIGHBOUR: 'it returns false'. Refute it at one input. -/
def fnExactClockNewWrong : ChangeSpec := { name := "fnExactClockNew", fn := fun _ => fun
  | [] => { results := [.lit (.bool false)], args := [] }
  | _ => none }
def FnExactClockNewWrongFalsely : Prop := fnExactClockNewRow.holds Try.pinned (OpenSpec.ofChange fnExactClockNewWrong)

/-- 'laws.FnExactSameClock': WHATEVER THE INPUT: true; the input reads as it did. -/
def fnExactSameClockSpec : ChangeSpec := { name := "fnExactSameClock", fn := fun _ => fun
  | [d1, d2] => { results := [.lit (.bool true)], args := [d1, d2] }
  | _ => none }
def fnExactSameClockRow : OpenClaim := { program := "ytfhdpnnepfnjhaa", sum := "aeed09cdcc3a6984270a3ccc12743f677fd9f546b95eeca4d3cceb2b2ba78a60", func := "loop.example/g01538/laws.FnExactSameClock", spec := "fnExactSameClock", apart := false }
def FnExactSameClockSaid : Prop := fnExactSameClockRow.holds Try.pinned (OpenSpec.ofChange fnExactSameClockSpec)

/-- ITS FALSE NEIGHBOUR: 'it returns false'. Refute it at one input. -/
def fnExactSameClockWrong : ChangeSpec := { name := "fnExactSameClock", fn := fun _ => fun
  | [d1, d2] => { results := [.lit (.bool false)], args := [d1, d2] }
  | _ => none }
def FnExactSameClockWrongFalsely : Prop := fnExactSameClockRow.holds Try.pinned (OpenSpec.ofChange fnExactSameClockWrong)

/-- 'laws.FnExactClockOk': WHATEVER THE INPUT: true; the input reads as it did. -/
def fnExactClockOkSpec : ChangeSpec := { name := "fnExactClockOk", fn := fun _ => fun
  | [d] => { results := [.lit (.bool true)], args := [d] }
  | _ => none }
def fnExactClockOkRow : OpenClaim := { program := "ytfhdpnnepfnjhaa", sum := "aeed09cdcc3a6984270a3ccc12743f677fd9f546b95eeca4d3cceb2b2ba78a60", func := "loop.example/g01538/laws.FnExactClockOk", spec := "fnExactClockOk", unfollowed := true, recurses := true, apart := false }
def FnExactClockOkSaid : Prop := fnExactClockOkRow.holds Try.pinned (OpenSpec.ofChange fnExactClockOkSpec)

/-- ITS FALSE NEIGHBOUR: 'it returns false'. Refute it at one input. -/
def fnExactClockOkWrong : ChangeSpec := { name := "fnExactClockOk", fn := fun _ => fun
  | [d] => { results := [.lit (.bool false)], args := [d] }
  | _ => none }
def FnExactClockOkWrongFalsely : Prop := fnExactClockOkRow.holds Try.pinned (OpenSpec.ofChange fnExactClockOkWrong)

/-- 'laws.FnExactPinnedAt': WHATEVER THE INPUT: true; the input reads as it did. -/
def fnExactPinnedAtSpec : ChangeSpec := { name := "fnExactPinnedAt", fn := fun _ => fun
  | [d1, d2] => { results := [.lit (.bool true)], args := [d1, d2] }
  | _ => none }
def fnExactPinnedAtRow : OpenClaim := { program := "ytfhdpnnepfnjhaa", sum := "aeed09cdcc3a6984270a3ccc12743f677fd9f546b95eeca4d3cceb2b2ba78a60", func := "loop.example/g01538/laws.FnExactPinnedAt", spec := "fnExactPinnedAt", unfollowed := true, recurses := true, apart := false }
def FnExactPinnedAtSaid : Prop := fnExactPinnedAtRow.holds Try.pinned (OpenSpec.ofChange fnExactPinnedAtSpec)

/-- ITS FALSE NEIGHBOUR: 'it returns false'. Refute it at one input. -/
def fnExactPinnedAtWrong : ChangeSpec := { name := "fnExactPinnedAt", fn := fun _ => fun
  | [d1, d2] => { results := [.lit (.bool false)], args := [d1, d2] }
  | _ => none }
def FnExactPinnedAtWrongFalsely : Prop := fnExactPinnedAtRow.holds Try.pinned (OpenSpec.ofChange fnExactPinnedAtWrong)

/-- 'laws.FnExactBehind': WHATEVER THE INPUT: true; the input reads as it did. -/
def fnExactBehindSpec : ChangeSpec := { name := "fnExactBehind", fn := fun _ => fun
  | [d] => { results := [.lit (.bool true)], args := [d] }
  | _ => none }
def fnExactBehindRow : OpenClaim := { program := "ytfhdpnnepfnjhaa", sum := "aeed09cdcc3a6984270a3ccc12743f677fd9f546b95eeca4d3cceb2b2ba78a60", func := "loop.example/g01538/laws.FnExactBehind", spec := "fnExactBehind", unfollowed := true, recurses := true, apart := false }
def FnExactBehindSaid : Prop := fnExactBehindRow.holds Try.pinned (OpenSpec.ofChange fnExactBehindSpec)

/-- ITS FALSE NEIGHBOUR: 'it returns false'. Refute it at one input. -/
def fnExactBehindWrong : ChangeSpec := { name := "fnExactBehind", fn := fun _ => fun
  | [d] => { results := [.lit (.bool false)], args := [d] }
  | _ => none }
def FnExactBehindWrongFalsely : Prop := fnExactBehindRow.holds Try.pinned (OpenSpec.ofChange fnExactBehindWrong)

/-- 'laws.FnExactBump': WHATEVER THE INPUT: true; the input reads as it did. -/
def fnExactBumpSpec : ChangeSpec := { name := "fnExactBump", fn := fun _ => fun
  | [d1, d2] => { results := [.lit (.bool true)], args := [d1, d2] }
  | _ => none }
def fnExactBumpRow : OpenClaim := { program := "ytfhdpnnepfnjhaa", sum := "aeed09cdcc3a6984270a3ccc12743f677fd9f546b95eeca4d3cceb2b2ba78a60", func := "loop.example/g01538/laws.FnExactBump", spec := "fnExactBump", unfollowed := true, recurses := true, apart := false }
def FnExactBumpSaid : Prop := fnExactBumpRow.holds Try.pinned (OpenSpec.ofChange fnExactBumpSpec)

/-- ITS FALSE NEIGHBOUR: 'it returns false'. Refute it at one input. -/
def fnExactBumpWrong : ChangeSpec := { name := "fnExactBump", fn := fun _ => fun
  | [d1, d2] => { results := [.lit (.bool false)], args := [d1, d2] }
  | _ => none }
def FnExactBumpWrongFalsely : Prop := fnExactBumpRow.holds Try.pinned (OpenSpec.ofChange fnExactBumpWrong)

/-- 'laws.FnExactPinTo': WHATEVER THE INPUT: true; the input reads as it did. -/
def fnExactPinToSpec : ChangeSpec := { name := "fnExactPinTo", fn := fun _ => fun
  | [d1, d2, d3] => { results := [.lit (.bool true)], args := [d1, d2, d3] }
  | _ => none }
def fnExactPinToRow : OpenClaim := { program := "ytfhdpnnepfnjhaa", sum := "aeed09cdcc3a6984270a3ccc12743f677fd9f546b95eeca4d3cceb2b2ba78a60", func := "loop.example/g01538/laws.FnExactPinTo", spec := "fnExactPinTo", unfollowed := true, recurses := true, apart := false }
def FnExactPinToSaid : Prop := fnExactPinToRow.holds Try.pinned (OpenSpec.ofChange fnExactPinToSpec)

/-- ITS FALSE NEIGHBOUR: 'it returns false'. Refute it at one input. -/
def fnExactPinToWrong : ChangeSpec := { name := "fnExactPinTo", fn := fun _ => fun
  | [d1, d2, d3] => { results := [.lit (.bool false)], args := [d1, d2, d3] }
  | _ => none }
def FnExactPinToWrongFalsely : Prop := fnExactPinToRow.holds Try.pinned (OpenSpec.ofChange fnExactPinToWrong)

/-- 'laws.FnExactUnpin': WHATEVER THE INPUT: true; the input reads as it did. -/
def fnExactUnpinSpec : ChangeSpec := { name := "fnExactUnpin", fn := fun _ => fun
  | [d1, d2] => { results := [.lit (.bool true)], args := [d1, d2] }
  | _ => none }
def fnExactUnpinRow : OpenClaim := { program := "ytfhdpnnepfnjhaa", sum := "aeed09cdcc3a6984270a3ccc12743f677fd9f546b95eeca4d3cceb2b2ba78a60", func := "loop.example/g01538/laws.FnExactUnpin", spec := "fnExactUnpin", unfollowed := true, recurses := true, apart := false }
def FnExactUnpinSaid : Prop := fnExactUnpinRow.holds Try.pinned (OpenSpec.ofChange fnExactUnpinSpec)

/-- ITS FALSE NEIGHBOUR: 'it returns false'. Refute it at one input. -/
def fnExactUnpinWrong : ChangeSpec := { name := "fnExactUnpin", fn := fun _ => fun
  | [d1, d2] => { results := [.lit (.bool false)], args := [d1, d2] }
  | _ => none }
def FnExactUnpinWrongFalsely : Prop := fnExactUnpinRow.holds Try.pinned (OpenSpec.ofChange fnExactUnpinWrong)

/-- 'laws.FnExactLookAt': WHATEVER THE INPUT: true; the input reads as it did. -/
def fnExactLookAtSpec : ChangeSpec := { name := "fnExactLookAt", fn := fun _ => fun
  | [d1, d2, d3] => { results := [.lit (.bool true)], args := [d1, d2, d3] }
  | _ => none }
def fnExactLookAtRow : OpenClaim := { program := "ytfhdpnnepfnjhaa", sum := "aeed09cdcc3a6984270a3ccc12743f677fd9f546b95eeca4d3cceb2b2ba78a60", func := "loop.example/g01538/laws.FnExactLookAt", spec := "fnExactLookAt", unfollowed := true, recurses := true, apart := false }
def FnExactLookAtSaid : Prop := fnExactLookAtRow.holds Try.pinned (OpenSpec.ofChange fnExactLookAtSpec)

/-- ITS FALSE NEIGHBOUR: 'it returns false'. Refute it at one input. -/
def fnExactLookAtWrong : ChangeSpec := { name := "fnExactLookAt", fn := fun _ => fun
  | [d1, d2, d3] => { results := [.lit (.bool false)], args := [d1, d2, d3] }
  | _ => none }
def FnExactLookAtWrongFalsely : Prop := fnExactLookAtRow.holds Try.pinned (OpenSpec.ofChange fnExactLookAtWrong)

/-- 'laws.FnLooks': WHATEVER THE INPUT: true; the input reads as it did. -/
def fnLooksSpec : ChangeSpec := { name := "fnLooks", fn := fun _ => fun
  | [d] => { results := [.lit (.bool true)], args := [d] }
  | _ => none }
def fnLooksRow : OpenClaim := { program := "ytfhdpnnepfnjhaa", sum := "aeed09cdcc3a6984270a3ccc12743f677fd9f546b95eeca4d3cceb2b2ba78a60", func := "loop.example/g01538/laws.FnLooks", spec := "fnLooks", unfollowed := true, recurses := true, apart := false }
def FnLooksSaid : Prop := fnLooksRow.holds Try.pinned (OpenSpec.ofChange fnLooksSpec)

/-- ITS FALSE NEIGHBOUR: 'it returns false'. Refute it at one input. -/
def fnLooksWrong : ChangeSpec := { name := "fnLooks", fn := fun _ => fun
  | [d] => { results := [.lit (.bool false)], args := [d] }
  | _ => none }
def FnLooksWrongFalsely : Prop := fnLooksRow.holds Try.pinned (OpenSpec.ofChange fnLooksWrong)

/-- 'laws.FnExactCellAt': WHATEVER THE INPUT: true; the input reads as it did. -/
def fnExactCellAtSpec : ChangeSpec := { name := "fnExactCellAt", fn := fun _ => fun
  | [d1, d2, d3] => { results := [.lit (.bool true)], args := [d1, d2, d3] }
  | _ => none }
def fnExactCellAtRow : OpenClaim := { program := "ytfhdpnnepfnjhaa", sum := "aeed09cdcc3a6984270a3ccc12743f677fd9f546b95eeca4d3cceb2b2ba78a60", func := "loop.example/g01538/laws.FnExactCellAt", spec := "fnExactCellAt", unfollowed := true, recurses := true, apart := false }
def FnExactCellAtSaid : Prop := fnExactCellAtRow.holds Try.pinned (OpenSpec.ofChange fnExactCellAtSpec)

/-- ITS FALSE NEIGHBOUR: 'it returns false'. Refute it at one input. -/
def fnExactCellAtWrong : ChangeSpec := { name := "fnExactCellAt", fn := fun _ => fun
  | [d1, d2, d3] => { results := [.lit (.bool false)], args := [d1, d2, d3] }
  | _ => none }
def FnExactCellAtWrongFalsely : Prop := fnExactCellAtRow.holds Try.pinned (OpenSpec.ofChange fnExactCellAtWrong)

/-- 'laws.FnExactTruthOf': WHATEVER THE INPUT: true; the input reads as it did. -/
def fnExactTruthOfSpec : ChangeSpec := { name := "fnExactTruthOf", fn := fun _ => fun
  | [d] => { results := [.lit (.bool true)], args := [d] }
  | _ => none }
def fnExactTruthOfRow : OpenClaim := { program := "ytfhdpnnepfnjhaa", sum := "aeed09cdcc3a6984270a3ccc12743f677fd9f546b95eeca4d3cceb2b2ba78a60", func := "loop.example/g01538/laws.FnExactTruthOf", spec := "fnExactTruthOf", unfollowed := true, recurses := true, apart := false }
def FnExactTruthOfSaid : Prop := fnExactTruthOfRow.holds Try.pinned (OpenSpec.ofChange fnExactTruthOfSpec)

/-- ITS FALSE NEIGHBOUR: 'it returns false'. Refute it at one input. -/
def fnExactTruthOfWrong : ChangeSpec := { name := "fnExactTruthOf", fn := fun _ => fun
  | [d] => { results := [.lit (.bool false)], args := [d] }
  | _ => none }
def FnExactTruthOfWrongFalsely : Prop := fnExactTruthOfRow.holds Try.pinned (OpenSpec.ofChange fnExactTruthOfWrong)

/- THE SECOND FORM. 'bulk': how many values and letters a reading holds, each counted each time it is reached (what is shared counts as often as it is met; a slice's spare places count too). A statement '..UptoSaid' is the law's where the arguments, and the package variables that the reading takes, are together of bulk at most 1048576: NARROWER than '..Said'. Prove '..Said' where nothing that the law and all that it calls make is longer than what came in: it says more and counts as full. Else prove '..UptoSaid'. A law counts once. -/
mutual
def uptoBulk {H : Type} : DataW H → Nat
  | .lit (.string bytes) => bytes.length + 1
  | .lit _ => 1
  | .nil => 1
  | .ptr d => uptoBulk d + 1
  | .slice elems spare => uptoBulkAll elems + uptoBulkAll spare + 1
  | .agg parts => uptoBulkAll parts + 1
  | .iface _ d => uptoBulk d + 1
  | .map entries => uptoBulkEntries entries + 1
  | .held _ => 1
def uptoBulkAll {H : Type} : List (DataW H) → Nat
  | [] => 0
  | d :: r => uptoBulk d + uptoBulkAll r
def uptoBulkEntries {H : Type} : List (Lit × DataW H) → Nat
  | [] => 0
  | x :: r => uptoBulkEntry x + uptoBulkEntries r
def uptoBulkEntry {H : Type} : Lit × DataW H → Nat
  | (.string bytes, d) => bytes.length + uptoBulk d + 1
  | (_, d) => uptoBulk d + 1
 end
def uptoSmall : (H : Type) → List (DataW H) → Bool := fun _ ds => decide (uptoBulkAll ds ≤ 1048576)
def OpenSpec.upto (s : _root_.Go.ChangeSpec) : _root_.Go.OpenSpec := { _root_.Go.OpenSpec.ofChange s with cond := some uptoSmall }

/-- 'laws.FnExactClockNew', WHERE WHAT IT READS IS OF BULK AT MOST 1048576: true; the input reads as it did. -/
def fnExactClockNewUptoRow : OpenClaim := { program := "ytfhdpnnepfnjhaa", sum := "aeed09cdcc3a6984270a3ccc12743f677fd9f546b95eeca4d3cceb2b2ba78a60", func := "loop.example/g01538/laws.FnExactClockNew", spec := "fnExactClockNew", apart := false, narrowed := true }
def FnExactClockNewUptoSaid : Prop := fnExactClockNewUptoRow.holds Try.pinned (OpenSpec.upto fnExactClockNewSpec)

/-- 'laws.FnExactSameClock', WHERE WHAT IT READS IS OF BULK AT MOST 1048576: true; the input reads as it did. -/
def fnExactSameClockUptoRow : OpenClaim := { program := "ytfhdpnnepfnjhaa", sum := "aeed09cdcc3a6984270a3ccc12743f677fd9f546b95eeca4d3cceb2b2ba78a60", func := "loop.example/g01538/laws.FnExactSameClock", spec := "fnExactSameClock", apart := false, narrowed := true }
def FnExactSameClockUptoSaid : Prop := fnExactSameClockUptoRow.holds Try.pinned (OpenSpec.upto fnExactSameClockSpec)

/-- 'laws.FnExactClockOk', WHERE WHAT IT READS IS OF BULK AT MOST 1048576: true; the input reads as it did. -/
def fnExactClockOkUptoRow : OpenClaim := { program := "ytfhdpnnepfnjhaa", sum := "aeed09cdcc3a6984270a3ccc12743f677fd9f546b95eeca4d3cceb2b2ba78a60", func := "loop.example/g01538/laws.FnExactClockOk", spec := "fnExactClockOk", unfollowed := true, recurses := true, apart := false, narrowed := true }
def FnExactClockOkUptoSaid : Prop := fnExactClockOkUptoRow.holds Try.pinned (OpenSpec.upto fnExactClockOkSpec)

/-- 'laws.FnExactPinnedAt', WHERE WHAT IT READS IS OF BULK AT MOST 1048576: true; the input reads as it did. -/
def fnExactPinnedAtUptoRow : OpenClaim := { program := "ytfhdpnnepfnjhaa", sum := "aeed09cdcc3a6984270a3ccc12743f677fd9f546b95eeca4d3cceb2b2ba78a60", func := "loop.example/g01538/laws.FnExactPinnedAt", spec := "fnExactPinnedAt", unfollowed := true, recurses := true, apart := false, narrowed := true }
def FnExactPinnedAtUptoSaid : Prop := fnExactPinnedAtUptoRow.holds Try.pinned (OpenSpec.upto fnExactPinnedAtSpec)

/-- 'laws.FnExactBehind', WHERE WHAT IT READS IS OF BULK AT MOST 1048576: true; the input reads as it did. -/
def fnExactBehindUptoRow : OpenClaim := { program := "ytfhdpnnepfnjhaa", sum := "aeed09cdcc3a6984270a3ccc12743f677fd9f546b95eeca4d3cceb2b2ba78a60", func := "loop.example/g01538/laws.FnExactBehind", spec := "fnExactBehind", unfollowed := true, recurses := true, apart := false, narrowed := true }
def FnExactBehindUptoSaid : Prop := fnExactBehindUptoRow.holds Try.pinned (OpenSpec.upto fnExactBehindSpec)

/-- 'laws.FnExactBump', WHERE WHAT IT READS IS OF BULK AT MOST 1048576: true; the input reads as it did. -/
def fnExactBumpUptoRow : OpenClaim := { program := "ytfhdpnnepfnjhaa", sum := "aeed09cdcc3a6984270a3ccc12743f677fd9f546b95eeca4d3cceb2b2ba78a60", func := "loop.example/g01538/laws.FnExactBump", spec := "fnExactBump", unfollowed := true, recurses := true, apart := false, narrowed := true }
def FnExactBumpUptoSaid : Prop := fnExactBumpUptoRow.holds Try.pinned (OpenSpec.upto fnExactBumpSpec)

/-- 'laws.FnExactPinTo', WHERE WHAT IT READS IS OF BULK AT MOST 1048576: true; the input reads as it did. -/
def fnExactPinToUptoRow : OpenClaim := { program := "ytfhdpnnepfnjhaa", sum := "aeed09cdcc3a6984270a3ccc12743f677fd9f546b95eeca4d3cceb2b2ba78a60", func := "loop.example/g01538/laws.FnExactPinTo", spec := "fnExactPinTo", unfollowed := true, recurses := true, apart := false, narrowed := true }
def FnExactPinToUptoSaid : Prop := fnExactPinToUptoRow.holds Try.pinned (OpenSpec.upto fnExactPinToSpec)

/-- 'laws.FnExactUnpin', WHERE WHAT IT READS IS OF BULK AT MOST 1048576: true; the input reads as it did. -/
def fnExactUnpinUptoRow : OpenClaim := { program := "ytfhdpnnepfnjhaa", sum := "aeed09cdcc3a6984270a3ccc12743f677fd9f546b95eeca4d3cceb2b2ba78a60", func := "loop.example/g01538/laws.FnExactUnpin", spec := "fnExactUnpin", unfollowed := true, recurses := true, apart := false, narrowed := true }
def FnExactUnpinUptoSaid : Prop := fnExactUnpinUptoRow.holds Try.pinned (OpenSpec.upto fnExactUnpinSpec)

/-- 'laws.FnExactLookAt', WHERE WHAT IT READS IS OF BULK AT MOST 1048576: true; the input reads as it did. -/
def fnExactLookAtUptoRow : OpenClaim := { program := "ytfhdpnnepfnjhaa", sum := "aeed09cdcc3a6984270a3ccc12743f677fd9f546b95eeca4d3cceb2b2ba78a60", func := "loop.example/g01538/laws.FnExactLookAt", spec := "fnExactLookAt", unfollowed := true, recurses := true, apart := false, narrowed := true }
def FnExactLookAtUptoSaid : Prop := fnExactLookAtUptoRow.holds Try.pinned (OpenSpec.upto fnExactLookAtSpec)

/-- 'laws.FnLooks', WHERE WHAT IT READS IS OF BULK AT MOST 1048576: true; the input reads as it did. -/
def fnLooksUptoRow : OpenClaim := { program := "ytfhdpnnepfnjhaa", sum := "aeed09cdcc3a6984270a3ccc12743f677fd9f546b95eeca4d3cceb2b2ba78a60", func := "loop.example/g01538/laws.FnLooks", spec := "fnLooks", unfollowed := true, recurses := true, apart := false, narrowed := true }
def FnLooksUptoSaid : Prop := fnLooksUptoRow.holds Try.pinned (OpenSpec.upto fnLooksSpec)

/-- 'laws.FnExactCellAt', WHERE WHAT IT READS IS OF BULK AT MOST 1048576: true; the input reads as it did. -/
def fnExactCellAtUptoRow : OpenClaim := { program := "ytfhdpnnepfnjhaa", sum := "aeed09cdcc3a6984270a3ccc12743f677fd9f546b95eeca4d3cceb2b2ba78a60", func := "loop.example/g01538/laws.FnExactCellAt", spec := "fnExactCellAt", unfollowed := true, recurses := true, apart := false, narrowed := true }
def FnExactCellAtUptoSaid : Prop := fnExactCellAtUptoRow.holds Try.pinned (OpenSpec.upto fnExactCellAtSpec)

/-- 'laws.FnExactTruthOf', WHERE WHAT IT READS IS OF BULK AT MOST 1048576: true; the input reads as it did. -/
def fnExactTruthOfUptoRow : OpenClaim := { program := "ytfhdpnnepfnjhaa", sum := "aeed09cdcc3a6984270a3ccc12743f677fd9f546b95eeca4d3cceb2b2ba78a60", func := "loop.example/g01538/laws.FnExactTruthOf", spec := "fnExactTruthOf", unfollowed := true, recurses := true, apart := false, narrowed := true }
def FnExactTruthOfUptoSaid : Prop := fnExactTruthOfUptoRow.holds Try.pinned (OpenSpec.upto fnExactTruthOfSpec)

end Rows
end Go.Proofs.Ytfhdpnnepfnjhaa
