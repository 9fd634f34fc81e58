/-
  No cell of these rows narrows 'for every input' (looked for: loops, veiled, ifaces, maps, wideKeys, modest, calm, conditions, laid).
  DERIVED. THE GIVEN ROWS OF THIS SEAT. 8 by the template 'for every input the law returns true; each argument reads behind the call as it read before'; 0 by the template 'total and deterministic' (their statements: YtkldapdpaldbgaaGreatTotals.lean).
  GIVEN WITH THE SEED: the statements are not yours to turn. If you find one false, say at which input.
  Laid BY PROGRAM, IN A SANDBOX (cutbox-rows.mjs): the forced cells as the released guide's own fill.sh prints them over the translation 18dd74e03958633d… (all of the seat's roots in one cut). By AI agents, Wed Nov 11 2026. No macro, syntax, notation, axiom, sorry.
-/
import Derived.Test.YtkldapdpaldbgaaGreatChecked
import GoSem.Claim
import GoSem.ClaimJoined
import GoSem.ClaimMapViews
import Derived.JoinedTies
import Derived.KernelRfl
namespace Go.Proofs.YtkldapdpaldbgaaGreat
/- THE CELL 'sum', in the pinned program and in every row, IS THE sha256 OF THE DUMP (.gsa) THAT YtkldapdpaldbgaaGreatProg.lean LOADS. Nothing in Lean hashes anything: it is a label: what it is worth is what the hold of that sum in a sandbox is worth. -/
noncomputable def Tryz.pinned : Pinned := { name := "ytkldapdpaldbgaagreat", sum := "18dd74e03958633dcbdd74c0afcc328c6a7031392fd280fca315b754c358cbf7", checked := Tryz.checked }
namespace Rows
def none {H : Type} : Left H := { results := [], args := [] }

/-- 'laws.FnRanges': WHATEVER THE INPUT: true; the input reads as it did. -/
def fnRangesSpec : ChangeSpec := { name := "fnRanges", fn := fun _ => fun
  | [d] => { results := [.lit (.bool true)], args := [d] }
  | _ => none }
def fnRangesRow : OpenClaim := { program := "ytkldapdpaldbgaagreat", sum := "18dd74e03958633dcbdd74c0afcc328c6a7031392fd280fca315b754c358cbf7", func := "loop.example/g01538/laws.FnRanges", spec := "fnRanges", unfollowed := true, recurses := true, apart := false }
def FnRangesSaid : Prop := fnRangesRow.holds Tryz.pinned (OpenSpec.ofChange fnRangesSpec)

/-- ITS FALSE NEIGHBOUR: 'it returns false'. Refute it at one input. -/
def fnRangesWrong : ChangeSpec := { name := "fnRanges", fn := fun _ => fun
  | [d] => { results := [.lit (.bool false)], args := [d] }
  | _ => none }
def FnRangesWrongFalsely : Prop := fnRangesRow.holds Tryz.pinned (OpenSpec.ofChange fnRangesWrong)

/-- 'laws.FnExactSafeNow': WHATEVER THE INPUT: true; the input reads as it did. -/
def fnExactSafeNowSpec : ChangeSpec := { name := "fnExactSafeNow", fn := fun _ => fun
  | [d] => { results := [.lit (.bool true)], args := [d] }
  | _ => none }
def fnExactSafeNowRow : OpenClaim := { program := "ytkldapdpaldbgaagreat", sum := "18dd74e03958633dcbdd74c0afcc328c6a7031392fd280fca315b754c358cbf7", func := "loop.example/g01538/laws.FnExactSafeNow", spec := "fnExactSafeNow", unfollowed := true, recurses := true, apart := false }
def FnExactSafeNowSaid : Prop := fnExactSafeNowRow.holds Tryz.pinned (OpenSpec.ofChange fnExactSafeNowSpec)

/-- ITS FALSE NEIGHBOUR: 'it returns false'. Refute it at one input. -/
def fnExactSafeNowWrong : ChangeSpec := { name := "fnExactSafeNow", fn := fun _ => fun
  | [d] => { results := [.lit (.bool false)], args := [d] }
  | _ => none }
def FnExactSafeNowWrongFalsely : Prop := fnExactSafeNowRow.holds Tryz.pinned (OpenSpec.ofChange fnExactSafeNowWrong)

/-- 'laws.FnExactAccounted': WHATEVER THE INPUT: true; the input reads as it did. -/
def fnExactAccountedSpec : ChangeSpec := { name := "fnExactAccounted", fn := fun _ => fun
  | [d] => { results := [.lit (.bool true)], args := [d] }
  | _ => none }
def fnExactAccountedRow : OpenClaim := { program := "ytkldapdpaldbgaagreat", sum := "18dd74e03958633dcbdd74c0afcc328c6a7031392fd280fca315b754c358cbf7", func := "loop.example/g01538/laws.FnExactAccounted", spec := "fnExactAccounted", unfollowed := true, recurses := true, apart := false }
def FnExactAccountedSaid : Prop := fnExactAccountedRow.holds Tryz.pinned (OpenSpec.ofChange fnExactAccountedSpec)

/-- ITS FALSE NEIGHBOUR: 'it returns false'. Refute it at one input. -/
def fnExactAccountedWrong : ChangeSpec := { name := "fnExactAccounted", fn := fun _ => fun
  | [d] => { results := [.lit (.bool false)], args := [d] }
  | _ => none }
def FnExactAccountedWrongFalsely : Prop := fnExactAccountedRow.holds Tryz.pinned (OpenSpec.ofChange fnExactAccountedWrong)

/-- 'laws.FnExactBaseOk': WHATEVER THE INPUT: true; the input reads as it did. -/
def fnExactBaseOkSpec : ChangeSpec := { name := "fnExactBaseOk", fn := fun _ => fun
  | [d] => { results := [.lit (.bool true)], args := [d] }
  | _ => none }
def fnExactBaseOkRow : OpenClaim := { program := "ytkldapdpaldbgaagreat", sum := "18dd74e03958633dcbdd74c0afcc328c6a7031392fd280fca315b754c358cbf7", func := "loop.example/g01538/laws.FnExactBaseOk", spec := "fnExactBaseOk", unfollowed := true, recurses := true, apart := false }
def FnExactBaseOkSaid : Prop := fnExactBaseOkRow.holds Tryz.pinned (OpenSpec.ofChange fnExactBaseOkSpec)

/-- ITS FALSE NEIGHBOUR: 'it returns false'. Refute it at one input. -/
def fnExactBaseOkWrong : ChangeSpec := { name := "fnExactBaseOk", fn := fun _ => fun
  | [d] => { results := [.lit (.bool false)], args := [d] }
  | _ => none }
def FnExactBaseOkWrongFalsely : Prop := fnExactBaseOkRow.holds Tryz.pinned (OpenSpec.ofChange fnExactBaseOkWrong)

/-- 'laws.FnExactWhere': WHATEVER THE INPUT: true; the input reads as it did. -/
def fnExactWhereSpec : ChangeSpec := { name := "fnExactWhere", fn := fun _ => fun
  | [d1, d2] => { results := [.lit (.bool true)], args := [d1, d2] }
  | _ => none }
def fnExactWhereRow : OpenClaim := { program := "ytkldapdpaldbgaagreat", sum := "18dd74e03958633dcbdd74c0afcc328c6a7031392fd280fca315b754c358cbf7", func := "loop.example/g01538/laws.FnExactWhere", spec := "fnExactWhere", unfollowed := true, recurses := true, apart := false }
def FnExactWhereSaid : Prop := fnExactWhereRow.holds Tryz.pinned (OpenSpec.ofChange fnExactWhereSpec)

/-- ITS FALSE NEIGHBOUR: 'it returns false'. Refute it at one input. -/
def fnExactWhereWrong : ChangeSpec := { name := "fnExactWhere", fn := fun _ => fun
  | [d1, d2] => { results := [.lit (.bool false)], args := [d1, d2] }
  | _ => none }
def FnExactWhereWrongFalsely : Prop := fnExactWhereRow.holds Tryz.pinned (OpenSpec.ofChange fnExactWhereWrong)

/-- 'laws.FnExactTally': WHATEVER THE INPUT: true; the input reads as it did. -/
def fnExactTallySpec : ChangeSpec := { name := "fnExactTally", fn := fun _ => fun
  | [d] => { results := [.lit (.bool true)], args := [d] }
  | _ => none }
def fnExactTallyRow : OpenClaim := { program := "ytkldapdpaldbgaagreat", sum := "18dd74e03958633dcbdd74c0afcc328c6a7031392fd280fca315b754c358cbf7", func := "loop.example/g01538/laws.FnExactTally", spec := "fnExactTally", unfollowed := true, recurses := true, apart := false }
def FnExactTallySaid : Prop := fnExactTallyRow.holds Tryz.pinned (OpenSpec.ofChange fnExactTallySpec)

/-- ITS FALSE NEIGHBOUR: 'it returns false'. Refute it at one input. -/
def fnExactTallyWrong : ChangeSpec := { name := "fnExactTally", fn := fun _ => fun
  | [d] => { results := [.lit (.bool false)], args := [d] }
  | _ => none }
def FnExactTallyWrongFalsely : Prop := fnExactTallyRow.holds Tryz.pinned (OpenSpec.ofChange fnExactTallyWrong)

/-- 'laws.FnExactRanges': WHATEVER THE INPUT: true; the input reads as it did. -/
def fnExactRangesSpec : ChangeSpec := { name := "fnExactRanges", fn := fun _ => fun
  | [d] => { results := [.lit (.bool true)], args := [d] }
  | _ => none }
def fnExactRangesRow : OpenClaim := { program := "ytkldapdpaldbgaagreat", sum := "18dd74e03958633dcbdd74c0afcc328c6a7031392fd280fca315b754c358cbf7", func := "loop.example/g01538/laws.FnExactRanges", spec := "fnExactRanges", unfollowed := true, recurses := true, apart := false }
def FnExactRangesSaid : Prop := fnExactRangesRow.holds Tryz.pinned (OpenSpec.ofChange fnExactRangesSpec)

/-- ITS FALSE NEIGHBOUR: 'it returns false'. Refute it at one input. -/
def fnExactRangesWrong : ChangeSpec := { name := "fnExactRanges", fn := fun _ => fun
  | [d] => { results := [.lit (.bool false)], args := [d] }
  | _ => none }
def FnExactRangesWrongFalsely : Prop := fnExactRangesRow.holds Tryz.pinned (OpenSpec.ofChange fnExactRangesWrong)

/-- 'laws.FnExactShelfOk': WHATEVER THE INPUT: true; the input reads as it did. -/
def fnExactShelfOkSpec : ChangeSpec := { name := "fnExactShelfOk", fn := fun _ => fun
  | [d] => { results := [.lit (.bool true)], args := [d] }
  | _ => none }
def fnExactShelfOkRow : OpenClaim := { program := "ytkldapdpaldbgaagreat", sum := "18dd74e03958633dcbdd74c0afcc328c6a7031392fd280fca315b754c358cbf7", func := "loop.example/g01538/laws.FnExactShelfOk", spec := "fnExactShelfOk", unfollowed := true, recurses := true, apart := false }
def FnExactShelfOkSaid : Prop := fnExactShelfOkRow.holds Tryz.pinned (OpenSpec.ofChange fnExactShelfOkSpec)

/-- ITS FALSE NEIGHBOUR: 'it returns false'. Refute it at one input. -/
def fnExactShelfOkWrong : ChangeSpec := { name := "fnExactShelfOk", fn := fun _ => fun
  | [d] => { results := [.lit (.bool false)], args := [d] }
  | _ => none }
def FnExactShelfOkWrongFalsely : Prop := fnExactShelfOkRow.holds Tryz.pinned (OpenSpec.ofChange fnExactShelfOkWrong)

/- THE SECOND FORM. 'bulk': how many values and letters a reading holds, each counted each time it is reached (what is shared counts as often as it is met; a slice's spare places count too). A statement '..UptoSaid' is the law's where the arguments, and the package variables that the reading takes, are together of bulk at most 1048576: NARROWER than '..Said'. Prove '..Said' where nothing that the law and all that it calls make is longer than what came in: it says more and counts as full. Else prove '..UptoSaid'. A law counts once. -/
mutual
def uptoBulk {H : Type} : DataW H → Nat
  | .lit (.string bytes) => bytes.length + 1
  | .lit _ => 1
  | .nil => 1
  | .ptr d => uptoBulk d + 1
  | .slice elems spare => uptoBulkAll elems + uptoBulkAll spare + 1
  | .agg parts => uptoBulkAll parts + 1
  | .iface _ d => uptoBulk d + 1
  | .map entries => uptoBulkEntries entries + 1
  | .held _ => 1
def uptoBulkAll {H : Type} : List (DataW H) → Nat
  | [] => 0
  | d :: r => uptoBulk d + uptoBulkAll r
def uptoBulkEntries {H : Type} : List (Lit × DataW H) → Nat
  | [] => 0
  | x :: r => uptoBulkEntry x + uptoBulkEntries r
def uptoBulkEntry {H : Type} : Lit × DataW H → Nat
  | (.string bytes, d) => bytes.length + uptoBulk d + 1
  | (_, d) => uptoBulk d + 1
 end
def uptoSmall : (H : Type) → List (DataW H) → Bool := fun _ ds => decide (uptoBulkAll ds ≤ 1048576)
def OpenSpec.upto (s : _root_.Go.ChangeSpec) : _root_.Go.OpenSpec := { _root_.Go.OpenSpec.ofChange s with cond := some uptoSmall }

/-- 'laws.FnRanges', WHERE WHAT IT READS IS OF BULK AT MOST 1048576: true; the input reads as it did. -/
def fnRangesUptoRow : OpenClaim := { program := "ytkldapdpaldbgaagreat", sum := "18dd74e03958633dcbdd74c0afcc328c6a7031392fd280fca315b754c358cbf7", func := "loop.example/g01538/laws.FnRanges", spec := "fnRanges", unfollowed := true, recurses := true, apart := false, narrowed := true }
def FnRangesUptoSaid : Prop := fnRangesUptoRow.holds Tryz.pinned (OpenSpec.upto fnRangesSpec)

/-- 'laws.FnExactSafeNow', WHERE WHAT IT READS IS OF BULK AT MOST 1048576: true; the input reads as it did. -/
def fnExactSafeNowUptoRow : OpenClaim := { program := "ytkldapdpaldbgaagreat", sum := "18dd74e03958633dcbdd74c0afcc328c6a7031392fd280fca315b754c358cbf7", func := "loop.example/g01538/laws.FnExactSafeNow", spec := "fnExactSafeNow", unfollowed := true, recurses := true, apart := false, narrowed := true }
def FnExactSafeNowUptoSaid : Prop := fnExactSafeNowUptoRow.holds Tryz.pinned (OpenSpec.upto fnExactSafeNowSpec)

/-- 'laws.FnExactAccounted', WHERE WHAT IT READS IS OF BULK AT MOST 1048576: true; the input reads as it did. -/
def fnExactAccountedUptoRow : OpenClaim := { program := "ytkldapdpaldbgaagreat", sum := "18dd74e03958633dcbdd74c0afcc328c6a7031392fd280fca315b754c358cbf7", func := "loop.example/g01538/laws.FnExactAccounted", spec := "fnExactAccounted", unfollowed := true, recurses := true, apart := false, narrowed := true }
def FnExactAccountedUptoSaid : Prop := fnExactAccountedUptoRow.holds Tryz.pinned (OpenSpec.upto fnExactAccountedSpec)

/-- 'laws.FnExactBaseOk', WHERE WHAT IT READS IS OF BULK AT MOST 1048576: true; the input reads as it did. -/
def fnExactBaseOkUptoRow : OpenClaim := { program := "ytkldapdpaldbgaagreat", sum := "18dd74e03958633dcbdd74c0afcc328c6a7031392fd280fca315b754c358cbf7", func := "loop.example/g01538/laws.FnExactBaseOk", spec := "fnExactBaseOk", unfollowed := true, recurses := true, apart := false, narrowed := true }
def FnExactBaseOkUptoSaid : Prop := fnExactBaseOkUptoRow.holds Tryz.pinned (OpenSpec.upto fnExactBaseOkSpec)

/-- 'laws.FnExactWhere', WHERE WHAT IT READS IS OF BULK AT MOST 1048576: true; the input reads as it did. -/
def fnExactWhereUptoRow : OpenClaim := { program := "ytkldapdpaldbgaagreat", sum := "18dd74e03958633dcbdd74c0afcc328c6a7031392fd280fca315b754c358cbf7", func := "loop.example/g01538/laws.FnExactWhere", spec := "fnExactWhere", unfollowed := true, recurses := true, apart := false, narrowed := true }
def FnExactWhereUptoSaid : Prop := fnExactWhereUptoRow.holds Tryz.pinned (OpenSpec.upto fnExactWhereSpec)

/-- 'laws.FnExactTally', WHERE WHAT IT READS IS OF BULK AT MOST 1048576: true; the input reads as it did. -/
def fnExactTallyUptoRow : OpenClaim := { program := "ytkldapdpaldbgaagreat", sum := "18dd74e03958633dcbdd74c0afcc328c6a7031392fd280fca315b754c358cbf7", func := "loop.example/g01538/laws.FnExactTally", spec := "fnExactTally", unfollowed := true, recurses := true, apart := false, narrowed := true }
def FnExactTallyUptoSaid : Prop := fnExactTallyUptoRow.holds Tryz.pinned (OpenSpec.upto fnExactTallySpec)

/-- 'laws.FnExactRanges', WHERE WHAT IT READS IS OF BULK AT MOST 1048576: true; the input reads as it did. -/
def fnExactRangesUptoRow : OpenClaim := { program := "ytkldapdpaldbgaagreat", sum := "18dd74e03958633dcbdd74c0afcc328c6a7031392fd280fca315b754c358cbf7", func := "loop.example/g01538/laws.FnExactRanges", spec := "fnExactRanges", unfollowed := true, recurses := true, apart := false, narrowed := true }
def FnExactRangesUptoSaid : Prop := fnExactRangesUptoRow.holds Tryz.pinned (OpenSpec.upto fnExactRangesSpec)

/-- 'laws.FnExactShelfOk', WHERE WHAT IT READS IS OF BULK AT MOST 1048576: true; the input reads as it did. -/
def fnExactShelfOkUptoRow : OpenClaim := { program := "ytkldapdpaldbgaagreat", sum := "18dd74e03958633dcbdd74c0afcc328c6a7031392fd280fca315b754c358cbf7", func := "loop.example/g01538/laws.FnExactShelfOk", spec := "fnExactShelfOk", unfollowed := true, recurses := true, apart := false, narrowed := true }
def FnExactShelfOkUptoSaid : Prop := fnExactShelfOkUptoRow.holds Tryz.pinned (OpenSpec.upto fnExactShelfOkSpec)

end Rows
end Go.Proofs.YtkldapdpaldbgaaGreat
