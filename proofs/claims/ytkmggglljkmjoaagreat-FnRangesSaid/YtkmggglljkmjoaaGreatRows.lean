/-
  No cell of these rows narrows 'for every input' (looked for: loops, veiled, ifaces, maps, wideKeys, modest, calm, conditions, laid).
  DERIVED. THE GIVEN ROWS OF THIS SEAT. 5 by the template 'for every input the law returns true; each argument reads behind the call as it read before'; 0 by the template 'total and deterministic' (their statements: YtkmggglljkmjoaaGreatTotals.lean).
  GIVEN WITH THE SEED: the statements are not yours to turn. If you find one false, say at which input.
  Laid BY PROGRAM, IN A SANDBOX (cutbox-rows.mjs): the forced cells as the released guide's own fill.sh prints them over the translation d9f7d43a64f6871d… (all of the seat's roots in one cut). By AI agents, Wed Nov 11 2026. No macro, syntax, notation, axiom, sorry.
-/
import Derived.Test.YtkmggglljkmjoaaGreatChecked
import GoSem.Claim
import GoSem.ClaimJoined
import GoSem.ClaimMapViews
import Derived.JoinedTies
import Derived.KernelRfl
namespace Go.Proofs.YtkmggglljkmjoaaGreat
/- THE CELL 'sum', in the pinned program and in every row, IS THE sha256 OF THE DUMP (.gsa) THAT YtkmggglljkmjoaaGreatProg.lean LOADS. Nothing in Lean hashes anything: it is a label: what it is worth is what the hold of that sum in a sandbox is worth. -/
noncomputable def Tryz.pinned : Pinned := { name := "ytkmggglljkmjoaagreat", sum := "d9f7d43a64f6871dfa7bb2e2caa8e90faeb0f923c7ab608849d2999e0b178913", checked := Tryz.checked }
namespace Rows
def none {H : Type} : Left H := { results := [], args := [] }

/-- 'laws.FnRanges': WHATEVER THE INPUT: true; the input reads as it did. -/
def fnRangesSpec : ChangeSpec := { name := "fnRanges", fn := fun _ => fun
  | [d] => { results := [.lit (.bool true)], args := [d] }
  | _ => none }
def fnRangesRow : OpenClaim := { program := "ytkmggglljkmjoaagreat", sum := "d9f7d43a64f6871dfa7bb2e2caa8e90faeb0f923c7ab608849d2999e0b178913", func := "loop.example/g01538/laws.FnRanges", spec := "fnRanges", unfollowed := true, recurses := true, apart := false }
def FnRangesSaid : Prop := fnRangesRow.holds Tryz.pinned (OpenSpec.ofChange fnRangesSpec)

/-- ITS FALSE NEIGHBOUR: 'it returns false'. Refute it at one input. -/
def fnRangesWrong : ChangeSpec := { name := "fnRanges", fn := fun _ => fun
  | [d] => { results := [.lit (.bool false)], args := [d] }
  | _ => none }
def FnRangesWrongFalsely : Prop := fnRangesRow.holds Tryz.pinned (OpenSpec.ofChange fnRangesWrong)

/-- 'laws.FnCounts': WHATEVER THE INPUT: true; the input reads as it did. -/
def fnCountsSpec : ChangeSpec := { name := "fnCounts", fn := fun _ => fun
  | [d] => { results := [.lit (.bool true)], args := [d] }
  | _ => none }
def fnCountsRow : OpenClaim := { program := "ytkmggglljkmjoaagreat", sum := "d9f7d43a64f6871dfa7bb2e2caa8e90faeb0f923c7ab608849d2999e0b178913", func := "loop.example/g01538/laws.FnCounts", spec := "fnCounts", unfollowed := true, recurses := true, apart := false }
def FnCountsSaid : Prop := fnCountsRow.holds Tryz.pinned (OpenSpec.ofChange fnCountsSpec)

/-- ITS FALSE NEIGHBOUR: 'it returns false'. Refute it at one input. -/
def fnCountsWrong : ChangeSpec := { name := "fnCounts", fn := fun _ => fun
  | [d] => { results := [.lit (.bool false)], args := [d] }
  | _ => none }
def FnCountsWrongFalsely : Prop := fnCountsRow.holds Tryz.pinned (OpenSpec.ofChange fnCountsWrong)

/-- 'laws.FnStores': WHATEVER THE INPUT: true; the input reads as it did. -/
def fnStoresSpec : ChangeSpec := { name := "fnStores", fn := fun _ => fun
  | [d] => { results := [.lit (.bool true)], args := [d] }
  | _ => none }
def fnStoresRow : OpenClaim := { program := "ytkmggglljkmjoaagreat", sum := "d9f7d43a64f6871dfa7bb2e2caa8e90faeb0f923c7ab608849d2999e0b178913", func := "loop.example/g01538/laws.FnStores", spec := "fnStores", unfollowed := true, recurses := true, apart := false }
def FnStoresSaid : Prop := fnStoresRow.holds Tryz.pinned (OpenSpec.ofChange fnStoresSpec)

/-- ITS FALSE NEIGHBOUR: 'it returns false'. Refute it at one input. -/
def fnStoresWrong : ChangeSpec := { name := "fnStores", fn := fun _ => fun
  | [d] => { results := [.lit (.bool false)], args := [d] }
  | _ => none }
def FnStoresWrongFalsely : Prop := fnStoresRow.holds Tryz.pinned (OpenSpec.ofChange fnStoresWrong)

/-- 'laws.FnAllocs': WHATEVER THE INPUT: true; the input reads as it did. -/
def fnAllocsSpec : ChangeSpec := { name := "fnAllocs", fn := fun _ => fun
  | [d] => { results := [.lit (.bool true)], args := [d] }
  | _ => none }
def fnAllocsRow : OpenClaim := { program := "ytkmggglljkmjoaagreat", sum := "d9f7d43a64f6871dfa7bb2e2caa8e90faeb0f923c7ab608849d2999e0b178913", func := "loop.example/g01538/laws.FnAllocs", spec := "fnAllocs", unfollowed := true, recurses := true, apart := false }
def FnAllocsSaid : Prop := fnAllocsRow.holds Tryz.pinned (OpenSpec.ofChange fnAllocsSpec)

/-- ITS FALSE NEIGHBOUR: 'it returns false'. Refute it at one input. -/
def fnAllocsWrong : ChangeSpec := { name := "fnAllocs", fn := fun _ => fun
  | [d] => { results := [.lit (.bool false)], args := [d] }
  | _ => none }
def FnAllocsWrongFalsely : Prop := fnAllocsRow.holds Tryz.pinned (OpenSpec.ofChange fnAllocsWrong)

/-- 'laws.FnFrees': WHATEVER THE INPUT: true; the input reads as it did. -/
def fnFreesSpec : ChangeSpec := { name := "fnFrees", fn := fun _ => fun
  | [d] => { results := [.lit (.bool true)], args := [d] }
  | _ => none }
def fnFreesRow : OpenClaim := { program := "ytkmggglljkmjoaagreat", sum := "d9f7d43a64f6871dfa7bb2e2caa8e90faeb0f923c7ab608849d2999e0b178913", func := "loop.example/g01538/laws.FnFrees", spec := "fnFrees", unfollowed := true, recurses := true, apart := false }
def FnFreesSaid : Prop := fnFreesRow.holds Tryz.pinned (OpenSpec.ofChange fnFreesSpec)

/-- ITS FALSE NEIGHBOUR: 'it returns false'. Refute it at one input. -/
def fnFreesWrong : ChangeSpec := { name := "fnFrees", fn := fun _ => fun
  | [d] => { results := [.lit (.bool false)], args := [d] }
  | _ => none }
def FnFreesWrongFalsely : Prop := fnFreesRow.holds Tryz.pinned (OpenSpec.ofChange fnFreesWrong)

/- THE SECOND FORM. 'bulk': how many values and letters a reading holds, each counted each time it is reached (what is shared counts as often as it is met; a slice's spare places count too). A statement '..UptoSaid' is the law's where the arguments, and the package variables that the reading takes, are together of bulk at most 1048576: NARROWER than '..Said'. Prove '..Said' where nothing that the law and all that it calls make is longer than what came in: it says more and counts as full. Else prove '..UptoSaid'. A law counts once. -/
mutual
def uptoBulk {H : Type} : DataW H → Nat
  | .lit (.string bytes) => bytes.length + 1
  | .lit _ => 1
  | .nil => 1
  | .ptr d => uptoBulk d + 1
  | .slice elems spare => uptoBulkAll elems + uptoBulkAll spare + 1
  | .agg parts => uptoBulkAll parts + 1
  | .iface _ d => uptoBulk d + 1
  | .map entries => uptoBulkEntries entries + 1
  | .held _ => 1
def uptoBulkAll {H : Type} : List (DataW H) → Nat
  | [] => 0
  | d :: r => uptoBulk d + uptoBulkAll r
def uptoBulkEntries {H : Type} : List (Lit × DataW H) → Nat
  | [] => 0
  | x :: r => uptoBulkEntry x + uptoBulkEntries r
def uptoBulkEntry {H : Type} : Lit × DataW H → Nat
  | (.string bytes, d) => bytes.length + uptoBulk d + 1
  | (_, d) => uptoBulk d + 1
 end
def uptoSmall : (H : Type) → List (DataW H) → Bool := fun _ ds => decide (uptoBulkAll ds ≤ 1048576)
def OpenSpec.upto (s : _root_.Go.ChangeSpec) : _root_.Go.OpenSpec := { _root_.Go.OpenSpec.ofChange s with cond := some uptoSmall }

/-- 'laws.FnRanges', WHERE WHAT IT READS IS OF BULK AT MOST 1048576: true; the input reads as it did. -/
def fnRangesUptoRow : OpenClaim := { program := "ytkmggglljkmjoaagreat", sum := "d9f7d43a64f6871dfa7bb2e2caa8e90faeb0f923c7ab608849d2999e0b178913", func := "loop.example/g01538/laws.FnRanges", spec := "fnRanges", unfollowed := true, recurses := true, apart := false, narrowed := true }
def FnRangesUptoSaid : Prop := fnRangesUptoRow.holds Tryz.pinned (OpenSpec.upto fnRangesSpec)

/-- 'laws.FnCounts', WHERE WHAT IT READS IS OF BULK AT MOST 1048576: true; the input reads as it did. -/
def fnCountsUptoRow : OpenClaim := { program := "ytkmggglljkmjoaagreat", sum := "d9f7d43a64f6871dfa7bb2e2caa8e90faeb0f923c7ab608849d2999e0b178913", func := "loop.example/g01538/laws.FnCounts", spec := "fnCounts", unfollowed := true, recurses := true, apart := false, narrowed := true }
def FnCountsUptoSaid : Prop := fnCountsUptoRow.holds Tryz.pinned (OpenSpec.upto fnCountsSpec)

/-- 'laws.FnStores', WHERE WHAT IT READS IS OF BULK AT MOST 1048576: true; the input reads as it did. -/
def fnStoresUptoRow : OpenClaim := { program := "ytkmggglljkmjoaagreat", sum := "d9f7d43a64f6871dfa7bb2e2caa8e90faeb0f923c7ab608849d2999e0b178913", func := "loop.example/g01538/laws.FnStores", spec := "fnStores", unfollowed := true, recurses := true, apart := false, narrowed := true }
def FnStoresUptoSaid : Prop := fnStoresUptoRow.holds Tryz.pinned (OpenSpec.upto fnStoresSpec)

/-- 'laws.FnAllocs', WHERE WHAT IT READS IS OF BULK AT MOST 1048576: true; the input reads as it did. -/
def fnAllocsUptoRow : OpenClaim := { program := "ytkmggglljkmjoaagreat", sum := "d9f7d43a64f6871dfa7bb2e2caa8e90faeb0f923c7ab608849d2999e0b178913", func := "loop.example/g01538/laws.FnAllocs", spec := "fnAllocs", unfollowed := true, recurses := true, apart := false, narrowed := true }
def FnAllocsUptoSaid : Prop := fnAllocsUptoRow.holds Tryz.pinned (OpenSpec.upto fnAllocsSpec)

/-- 'laws.FnFrees', WHERE WHAT IT READS IS OF BULK AT MOST 1048576: true; the input reads as it did. -/
def fnFreesUptoRow : OpenClaim := { program := "ytkmggglljkmjoaagreat", sum := "d9f7d43a64f6871dfa7bb2e2caa8e90faeb0f923c7ab608849d2999e0b178913", func := "loop.example/g01538/laws.FnFrees", spec := "fnFrees", unfollowed := true, recurses := true, apart := false, narrowed := true }
def FnFreesUptoSaid : Prop := fnFreesUptoRow.holds Tryz.pinned (OpenSpec.upto fnFreesSpec)

end Rows
end Go.Proofs.YtkmggglljkmjoaaGreat
