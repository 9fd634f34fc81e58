/-
  No cell of these rows narrows 'for every input' (looked for: loops, veiled, ifaces, maps, wideKeys, modest, calm, conditions, laid).
  DERIVED. THE GIVEN ROWS OF THIS SEAT. 12 by the template 'for every input the law returns true; each argument reads behind the call as it read before'; 0 by the template 'total and deterministic' (their statements: YtcnnjcbcbpfcgaaTotals.lean).
  GIVEN WITH THE SEED: the statements are not yours to turn. If you find one false, say at which input.
  Laid BY PROGRAM, IN A SANDBOX (cutbox-rows.mjs): the forced cells as the released guide's own fill.sh prints them over the translation 53ce0d20f831bc40… (all of the seat's roots in one cut). By AI agents, Wed Nov 11 2026. No macro, syntax, notation, axiom, sorry.
-/
import Derived.Test.YtcnnjcbcbpfcgaaChecked
import GoSem.Claim
import GoSem.ClaimJoined
import GoSem.ClaimMapViews
import Derived.JoinedTies
import Derived.KernelRfl
namespace Go.Proofs.Ytcnnjcbcbpfcgaa
/- THE CELL 'sum', in the pinned program and in every row, IS THE sha256 OF THE DUMP (.gsa) THAT YtcnnjcbcbpfcgaaProg.lean LOADS. Nothing in Lean hashes anything: it is a label: what it is worth is what the hold of that sum in a sandbox is worth. -/
noncomputable def Try.pinned : Pinned := { name := "ytcnnjcbcbpfcgaa", sum := "53ce0d20f831bc40e4c2ef6e5806798070f9ae23c8a1aff938ec3fac6b331622", checked := Try.checked }
namespace Rows
def none {H : Type} : Left H := { results := [], args := [] }

/-- 'laws.FnExactRipe': WHATEVER THE INPUT: true; the input reads as it did. -/
def fnExactRipeSpec : ChangeSpec := { name := "fnExactRipe", fn := fun _ => fun
  | [d1, d2] => { results := [.lit (.bool true)], args := [d1, d2] }
  | _ => none }
def fnExactRipeRow : OpenClaim := { program := "ytcnnjcbcbpfcgaa", sum := "53ce0d20f831bc40e4c2ef6e5806798070f9ae23c8a1aff938ec3fac6b331622", func := "loop.example/g01538/laws.FnExactRipe", spec := "fnExactRipe", apart := false }
def FnExactRipeSaid : Prop := fnExactRipeRow.holds Try.pinned (OpenSpec.ofChange fnExactRipeSpec)

/-- ITS FALSE NEIGHBOUR: 'it returns false'. Refute it at one input. -/
def fnExactRipeWrong : ChangeSpec := { name := "fnExactRipe", fn := fun _ => fun
  | [d1, d2] => { results := [.lit (.bool false)], args := [d1, d2] }
  | _ => none }
def FnExactRipeWrongFalsely : Prop := fnExactRipeRow.holds Try.pinned (OpenSpec.ofChange fnExactRipeWrong)

/-- 'laws.FnExactOpWord': WHATEVER THE INPUT: true; the input reads as it did. -/
def fnExactOpWordSpec : ChangeSpec := { name := "fnExactOpWord", fn := fun _ => fun
  | [d] => { results := [.lit (.bool true)], args := [d] }
  | _ => none }
def fnExactOpWordRow : OpenClaim := { program := "ytcnnjcbcbpfcgaa", sum := "53ce0d20f831bc40e4c2ef6e5806798070f9ae23c8a1aff938ec3fac6b331622", func := "loop.example/g01538/laws.FnExactOpWord", spec := "fnExactOpWord", apart := false }
def FnExactOpWordSaid : Prop := fnExactOpWordRow.holds Try.pinned (OpenSpec.ofChange fnExactOpWordSpec)

/-- ITS FALSE NEIGHBOUR: 'it returns false'. Refute it at one input. -/
def fnExactOpWordWrong : ChangeSpec := { name := "fnExactOpWord", fn := fun _ => fun
  | [d] => { results := [.lit (.bool false)], args := [d] }
  | _ => none }
def FnExactOpWordWrongFalsely : Prop := fnExactOpWordRow.holds Try.pinned (OpenSpec.ofChange fnExactOpWordWrong)

/-- 'laws.FnExactSubWord': WHATEVER THE INPUT: true; the input reads as it did. -/
def fnExactSubWordSpec : ChangeSpec := { name := "fnExactSubWord", fn := fun _ => fun
  | [d] => { results := [.lit (.bool true)], args := [d] }
  | _ => none }
def fnExactSubWordRow : OpenClaim := { program := "ytcnnjcbcbpfcgaa", sum := "53ce0d20f831bc40e4c2ef6e5806798070f9ae23c8a1aff938ec3fac6b331622", func := "loop.example/g01538/laws.FnExactSubWord", spec := "fnExactSubWord", apart := false }
def FnExactSubWordSaid : Prop := fnExactSubWordRow.holds Try.pinned (OpenSpec.ofChange fnExactSubWordSpec)

/-- ITS FALSE NEIGHBOUR: 'it returns false'. Refute it at one input. -/
def fnExactSubWordWrong : ChangeSpec := { name := "fnExactSubWord", fn := fun _ => fun
  | [d] => { results := [.lit (.bool false)], args := [d] }
  | _ => none }
def FnExactSubWordWrongFalsely : Prop := fnExactSubWordRow.holds Try.pinned (OpenSpec.ofChange fnExactSubWordWrong)

/-- 'laws.FnExactHazNew': WHATEVER THE INPUT: true; the input reads as it did. -/
def fnExactHazNewSpec : ChangeSpec := { name := "fnExactHazNew", fn := fun _ => fun
  | [] => { results := [.lit (.bool true)], args := [] }
  | _ => none }
def fnExactHazNewRow : OpenClaim := { program := "ytcnnjcbcbpfcgaa", sum := "53ce0d20f831bc40e4c2ef6e5806798070f9ae23c8a1aff938ec3fac6b331622", func := "loop.example/g01538/laws.FnExactHazNew", spec := "fnExactHazNew", apart := false }
def FnExactHazNewSaid : Prop := fnExactHazNewRow.holds Try.pinned (OpenSpec.ofChange fnExactHazNewSpec)

/-- ITS FALSE NEIGHBOUR: 'it returns false'. Refute it at one input. -/
def fnExactHazNewWrong : ChangeSpec := { name := "fnExactHazNew", fn := fun _ => fun
  | [] => { results := [.lit (.bool false)], args := [] }
  | _ => none }
def FnExactHazNewWrongFalsely : Prop := fnExactHazNewRow.holds Try.pinned (OpenSpec.ofChange fnExactHazNewWrong)

/-- 'laws.FnExactSubNew': WHATEVER THE INPUT: true; the input reads as it did. -/
def fnExactSubNewSpec : ChangeSpec := { name := "fnExactSubNew", fn := fun _ => fun
  | [d1, d2] => { results := [.lit (.bool true)], args := [d1, d2] }
  | _ => none }
def fnExactSubNewRow : OpenClaim := { program := "ytcnnjcbcbpfcgaa", sum := "53ce0d20f831bc40e4c2ef6e5806798070f9ae23c8a1aff938ec3fac6b331622", func := "loop.example/g01538/laws.FnExactSubNew", spec := "fnExactSubNew", apart := false }
def FnExactSubNewSaid : Prop := fnExactSubNewRow.holds Try.pinned (OpenSpec.ofChange fnExactSubNewSpec)

/-- ITS FALSE NEIGHBOUR: 'it returns false'. Refute it at one input. -/
def fnExactSubNewWrong : ChangeSpec := { name := "fnExactSubNew", fn := fun _ => fun
  | [d1, d2] => { results := [.lit (.bool false)], args := [d1, d2] }
  | _ => none }
def FnExactSubNewWrongFalsely : Prop := fnExactSubNewRow.holds Try.pinned (OpenSpec.ofChange fnExactSubNewWrong)

/-- 'laws.FnExactOpOk': WHATEVER THE INPUT: true; the input reads as it did. -/
def fnExactOpOkSpec : ChangeSpec := { name := "fnExactOpOk", fn := fun _ => fun
  | [d] => { results := [.lit (.bool true)], args := [d] }
  | _ => none }
def fnExactOpOkRow : OpenClaim := { program := "ytcnnjcbcbpfcgaa", sum := "53ce0d20f831bc40e4c2ef6e5806798070f9ae23c8a1aff938ec3fac6b331622", func := "loop.example/g01538/laws.FnExactOpOk", spec := "fnExactOpOk", apart := false }
def FnExactOpOkSaid : Prop := fnExactOpOkRow.holds Try.pinned (OpenSpec.ofChange fnExactOpOkSpec)

/-- ITS FALSE NEIGHBOUR: 'it returns false'. Refute it at one input. -/
def fnExactOpOkWrong : ChangeSpec := { name := "fnExactOpOk", fn := fun _ => fun
  | [d] => { results := [.lit (.bool false)], args := [d] }
  | _ => none }
def FnExactOpOkWrongFalsely : Prop := fnExactOpOkRow.holds Try.pinned (OpenSpec.ofChange fnExactOpOkWrong)

/-- 'laws.FnExactStepsOf': WHATEVER THE INPUT: true; the input reads as it did. -/
def fnExactStepsOfSpec : ChangeSpec := { name := "fnExactStepsOf", fn := fun _ => fun
  | [d1, d2] => { results := [.lit (.bool true)], args := [d1, d2] }
  | _ => none }
def fnExactStepsOfRow : OpenClaim := { program := "ytcnnjcbcbpfcgaa", sum := "53ce0d20f831bc40e4c2ef6e5806798070f9ae23c8a1aff938ec3fac6b331622", func := "loop.example/g01538/laws.FnExactStepsOf", spec := "fnExactStepsOf", apart := false }
def FnExactStepsOfSaid : Prop := fnExactStepsOfRow.holds Try.pinned (OpenSpec.ofChange fnExactStepsOfSpec)

/-- ITS FALSE NEIGHBOUR: 'it returns false'. Refute it at one input. -/
def fnExactStepsOfWrong : ChangeSpec := { name := "fnExactStepsOf", fn := fun _ => fun
  | [d1, d2] => { results := [.lit (.bool false)], args := [d1, d2] }
  | _ => none }
def FnExactStepsOfWrongFalsely : Prop := fnExactStepsOfRow.holds Try.pinned (OpenSpec.ofChange fnExactStepsOfWrong)

/-- 'laws.FnExactHazOk': WHATEVER THE INPUT: true; the input reads as it did. -/
def fnExactHazOkSpec : ChangeSpec := { name := "fnExactHazOk", fn := fun _ => fun
  | [d] => { results := [.lit (.bool true)], args := [d] }
  | _ => none }
def fnExactHazOkRow : OpenClaim := { program := "ytcnnjcbcbpfcgaa", sum := "53ce0d20f831bc40e4c2ef6e5806798070f9ae23c8a1aff938ec3fac6b331622", func := "loop.example/g01538/laws.FnExactHazOk", spec := "fnExactHazOk", unfollowed := true, recurses := true, apart := false }
def FnExactHazOkSaid : Prop := fnExactHazOkRow.holds Try.pinned (OpenSpec.ofChange fnExactHazOkSpec)

/-- ITS FALSE NEIGHBOUR: 'it returns false'. Refute it at one input. -/
def fnExactHazOkWrong : ChangeSpec := { name := "fnExactHazOk", fn := fun _ => fun
  | [d] => { results := [.lit (.bool false)], args := [d] }
  | _ => none }
def FnExactHazOkWrongFalsely : Prop := fnExactHazOkRow.holds Try.pinned (OpenSpec.ofChange fnExactHazOkWrong)

/-- 'laws.FnExactHazAt': WHATEVER THE INPUT: true; the input reads as it did. -/
def fnExactHazAtSpec : ChangeSpec := { name := "fnExactHazAt", fn := fun _ => fun
  | [d1, d2] => { results := [.lit (.bool true)], args := [d1, d2] }
  | _ => none }
def fnExactHazAtRow : OpenClaim := { program := "ytcnnjcbcbpfcgaa", sum := "53ce0d20f831bc40e4c2ef6e5806798070f9ae23c8a1aff938ec3fac6b331622", func := "loop.example/g01538/laws.FnExactHazAt", spec := "fnExactHazAt", unfollowed := true, recurses := true, apart := false }
def FnExactHazAtSaid : Prop := fnExactHazAtRow.holds Try.pinned (OpenSpec.ofChange fnExactHazAtSpec)

/-- ITS FALSE NEIGHBOUR: 'it returns false'. Refute it at one input. -/
def fnExactHazAtWrong : ChangeSpec := { name := "fnExactHazAt", fn := fun _ => fun
  | [d1, d2] => { results := [.lit (.bool false)], args := [d1, d2] }
  | _ => none }
def FnExactHazAtWrongFalsely : Prop := fnExactHazAtRow.holds Try.pinned (OpenSpec.ofChange fnExactHazAtWrong)

/-- 'laws.FnExactLimboNew': WHATEVER THE INPUT: true; the input reads as it did. -/
def fnExactLimboNewSpec : ChangeSpec := { name := "fnExactLimboNew", fn := fun _ => fun
  | [] => { results := [.lit (.bool true)], args := [] }
  | _ => none }
def fnExactLimboNewRow : OpenClaim := { program := "ytcnnjcbcbpfcgaa", sum := "53ce0d20f831bc40e4c2ef6e5806798070f9ae23c8a1aff938ec3fac6b331622", func := "loop.example/g01538/laws.FnExactLimboNew", spec := "fnExactLimboNew", apart := false }
def FnExactLimboNewSaid : Prop := fnExactLimboNewRow.holds Try.pinned (OpenSpec.ofChange fnExactLimboNewSpec)

/-- ITS FALSE NEIGHBOUR: 'it returns false'. Refute it at one input. -/
def fnExactLimboNewWrong : ChangeSpec := { name := "fnExactLimboNew", fn := fun _ => fun
  | [] => { results := [.lit (.bool false)], args := [] }
  | _ => none }
def FnExactLimboNewWrongFalsely : Prop := fnExactLimboNewRow.holds Try.pinned (OpenSpec.ofChange fnExactLimboNewWrong)

/-- 'laws.FnExactAmong': WHATEVER THE INPUT: true; the input reads as it did. -/
def fnExactAmongSpec : ChangeSpec := { name := "fnExactAmong", fn := fun _ => fun
  | [d1, d2] => { results := [.lit (.bool true)], args := [d1, d2] }
  | _ => none }
def fnExactAmongRow : OpenClaim := { program := "ytcnnjcbcbpfcgaa", sum := "53ce0d20f831bc40e4c2ef6e5806798070f9ae23c8a1aff938ec3fac6b331622", func := "loop.example/g01538/laws.FnExactAmong", spec := "fnExactAmong", apart := false }
def FnExactAmongSaid : Prop := fnExactAmongRow.holds Try.pinned (OpenSpec.ofChange fnExactAmongSpec)

/-- ITS FALSE NEIGHBOUR: 'it returns false'. Refute it at one input. -/
def fnExactAmongWrong : ChangeSpec := { name := "fnExactAmong", fn := fun _ => fun
  | [d1, d2] => { results := [.lit (.bool false)], args := [d1, d2] }
  | _ => none }
def FnExactAmongWrongFalsely : Prop := fnExactAmongRow.holds Try.pinned (OpenSpec.ofChange fnExactAmongWrong)

/-- 'laws.FnExactDisjoint': WHATEVER THE INPUT: true; the input reads as it did. -/
def fnExactDisjointSpec : ChangeSpec := { name := "fnExactDisjoint", fn := fun _ => fun
  | [d] => { results := [.lit (.bool true)], args := [d] }
  | _ => none }
def fnExactDisjointRow : OpenClaim := { program := "ytcnnjcbcbpfcgaa", sum := "53ce0d20f831bc40e4c2ef6e5806798070f9ae23c8a1aff938ec3fac6b331622", func := "loop.example/g01538/laws.FnExactDisjoint", spec := "fnExactDisjoint", unfollowed := true, recurses := true, apart := false }
def FnExactDisjointSaid : Prop := fnExactDisjointRow.holds Try.pinned (OpenSpec.ofChange fnExactDisjointSpec)

/-- ITS FALSE NEIGHBOUR: 'it returns false'. Refute it at one input. -/
def fnExactDisjointWrong : ChangeSpec := { name := "fnExactDisjoint", fn := fun _ => fun
  | [d] => { results := [.lit (.bool false)], args := [d] }
  | _ => none }
def FnExactDisjointWrongFalsely : Prop := fnExactDisjointRow.holds Try.pinned (OpenSpec.ofChange fnExactDisjointWrong)

/- THE SECOND FORM. 'bulk': how many values and letters a reading holds, each counted each time it is reached (what is shared counts as often as it is met; a slice's spare places count too). A statement '..UptoSaid' is the law's where the arguments, and the package variables that the reading takes, are together of bulk at most 1048576: NARROWER than '..Said'. Prove '..Said' where nothing that the law and all that it calls make is longer than what came in: it says more and counts as full. Else prove '..UptoSaid'. A law counts once. -/
mutual
def uptoBulk {H : Type} : DataW H → Nat
  | .lit (.string bytes) => bytes.length + 1
  | .lit _ => 1
  | .nil => 1
  | .ptr d => uptoBulk d + 1
  | .slice elems spare => uptoBulkAll elems + uptoBulkAll spare + 1
  | .agg parts => uptoBulkAll parts + 1
  | .iface _ d => uptoBulk d + 1
  | .map entries => uptoBulkEntries entries + 1
  | .held _ => 1
def uptoBulkAll {H : Type} : List (DataW H) → Nat
  | [] => 0
  | d :: r => uptoBulk d + uptoBulkAll r
def uptoBulkEntries {H : Type} : List (Lit × DataW H) → Nat
  | [] => 0
  | x :: r => uptoBulkEntry x + uptoBulkEntries r
def uptoBulkEntry {H : Type} : Lit × DataW H → Nat
  | (.string bytes, d) => bytes.length + uptoBulk d + 1
  | (_, d) => uptoBulk d + 1
 end
def uptoSmall : (H : Type) → List (DataW H) → Bool := fun _ ds => decide (uptoBulkAll ds ≤ 1048576)
def OpenSpec.upto (s : _root_.Go.ChangeSpec) : _root_.Go.OpenSpec := { _root_.Go.OpenSpec.ofChange s with cond := some uptoSmall }

/-- 'laws.FnExactRipe', WHERE WHAT IT READS IS OF BULK AT MOST 1048576: true; the input reads as it did. -/
def fnExactRipeUptoRow : OpenClaim := { program := "ytcnnjcbcbpfcgaa", sum := "53ce0d20f831bc40e4c2ef6e5806798070f9ae23c8a1aff938ec3fac6b331622", func := "loop.example/g01538/laws.FnExactRipe", spec := "fnExactRipe", apart := false, narrowed := true }
def FnExactRipeUptoSaid : Prop := fnExactRipeUptoRow.holds Try.pinned (OpenSpec.upto fnExactRipeSpec)

/-- 'laws.FnExactOpWord', WHERE WHAT IT READS IS OF BULK AT MOST 1048576: true; the input reads as it did. -/
def fnExactOpWordUptoRow : OpenClaim := { program := "ytcnnjcbcbpfcgaa", sum := "53ce0d20f831bc40e4c2ef6e5806798070f9ae23c8a1aff938ec3fac6b331622", func := "loop.example/g01538/laws.FnExactOpWord", spec := "fnExactOpWord", apart := false, narrowed := true }
def FnExactOpWordUptoSaid : Prop := fnExactOpWordUptoRow.holds Try.pinned (OpenSpec.upto fnExactOpWordSpec)

/-- 'laws.FnExactSubWord', WHERE WHAT IT READS IS OF BULK AT MOST 1048576: true; the input reads as it did. -/
def fnExactSubWordUptoRow : OpenClaim := { program := "ytcnnjcbcbpfcgaa", sum := "53ce0d20f831bc40e4c2ef6e5806798070f9ae23c8a1aff938ec3fac6b331622", func := "loop.example/g01538/laws.FnExactSubWord", spec := "fnExactSubWord", apart := false, narrowed := true }
def FnExactSubWordUptoSaid : Prop := fnExactSubWordUptoRow.holds Try.pinned (OpenSpec.upto fnExactSubWordSpec)

/-- 'laws.FnExactHazNew', WHERE WHAT IT READS IS OF BULK AT MOST 1048576: true; the input reads as it did. -/
def fnExactHazNewUptoRow : OpenClaim := { program := "ytcnnjcbcbpfcgaa", sum := "53ce0d20f831bc40e4c2ef6e5806798070f9ae23c8a1aff938ec3fac6b331622", func := "loop.example/g01538/laws.FnExactHazNew", spec := "fnExactHazNew", apart := false, narrowed := true }
def FnExactHazNewUptoSaid : Prop := fnExactHazNewUptoRow.holds Try.pinned (OpenSpec.upto fnExactHazNewSpec)

/-- 'laws.FnExactSubNew', WHERE WHAT IT READS IS OF BULK AT MOST 1048576: true; the input reads as it did. -/
def fnExactSubNewUptoRow : OpenClaim := { program := "ytcnnjcbcbpfcgaa", sum := "53ce0d20f831bc40e4c2ef6e5806798070f9ae23c8a1aff938ec3fac6b331622", func := "loop.example/g01538/laws.FnExactSubNew", spec := "fnExactSubNew", apart := false, narrowed := true }
def FnExactSubNewUptoSaid : Prop := fnExactSubNewUptoRow.holds Try.pinned (OpenSpec.upto fnExactSubNewSpec)

/-- 'laws.FnExactOpOk', WHERE WHAT IT READS IS OF BULK AT MOST 1048576: true; the input reads as it did. -/
def fnExactOpOkUptoRow : OpenClaim := { program := "ytcnnjcbcbpfcgaa", sum := "53ce0d20f831bc40e4c2ef6e5806798070f9ae23c8a1aff938ec3fac6b331622", func := "loop.example/g01538/laws.FnExactOpOk", spec := "fnExactOpOk", apart := false, narrowed := true }
def FnExactOpOkUptoSaid : Prop := fnExactOpOkUptoRow.holds Try.pinned (OpenSpec.upto fnExactOpOkSpec)

/-- 'laws.FnExactStepsOf', WHERE WHAT IT READS IS OF BULK AT MOST 1048576: true; the input reads as it did. -/
def fnExactStepsOfUptoRow : OpenClaim := { program := "ytcnnjcbcbpfcgaa", sum := "53ce0d20f831bc40e4c2ef6e5806798070f9ae23c8a1aff938ec3fac6b331622", func := "loop.example/g01538/laws.FnExactStepsOf", spec := "fnExactStepsOf", apart := false, narrowed := true }
def FnExactStepsOfUptoSaid : Prop := fnExactStepsOfUptoRow.holds Try.pinned (OpenSpec.upto fnExactStepsOfSpec)

/-- 'laws.FnExactHazOk', WHERE WHAT IT READS IS OF BULK AT MOST 1048576: true; the input reads as it did. -/
def fnExactHazOkUptoRow : OpenClaim := { program := "ytcnnjcbcbpfcgaa", sum := "53ce0d20f831bc40e4c2ef6e5806798070f9ae23c8a1aff938ec3fac6b331622", func := "loop.example/g01538/laws.FnExactHazOk", spec := "fnExactHazOk", unfollowed := true, recurses := true, apart := false, narrowed := true }
def FnExactHazOkUptoSaid : Prop := fnExactHazOkUptoRow.holds Try.pinned (OpenSpec.upto fnExactHazOkSpec)

/-- 'laws.FnExactHazAt', WHERE WHAT IT READS IS OF BULK AT MOST 1048576: true; the input reads as it did. -/
def fnExactHazAtUptoRow : OpenClaim := { program := "ytcnnjcbcbpfcgaa", sum := "53ce0d20f831bc40e4c2ef6e5806798070f9ae23c8a1aff938ec3fac6b331622", func := "loop.example/g01538/laws.FnExactHazAt", spec := "fnExactHazAt", unfollowed := true, recurses := true, apart := false, narrowed := true }
def FnExactHazAtUptoSaid : Prop := fnExactHazAtUptoRow.holds Try.pinned (OpenSpec.upto fnExactHazAtSpec)

/-- 'laws.FnExactLimboNew', WHERE WHAT IT READS IS OF BULK AT MOST 1048576: true; the input reads as it did. -/
def fnExactLimboNewUptoRow : OpenClaim := { program := "ytcnnjcbcbpfcgaa", sum := "53ce0d20f831bc40e4c2ef6e5806798070f9ae23c8a1aff938ec3fac6b331622", func := "loop.example/g01538/laws.FnExactLimboNew", spec := "fnExactLimboNew", apart := false, narrowed := true }
def FnExactLimboNewUptoSaid : Prop := fnExactLimboNewUptoRow.holds Try.pinned (OpenSpec.upto fnExactLimboNewSpec)

/-- 'laws.FnExactAmong', WHERE WHAT IT READS IS OF BULK AT MOST 1048576: true; the input reads as it did. -/
def fnExactAmongUptoRow : OpenClaim := { program := "ytcnnjcbcbpfcgaa", sum := "53ce0d20f831bc40e4c2ef6e5806798070f9ae23c8a1aff938ec3fac6b331622", func := "loop.example/g01538/laws.FnExactAmong", spec := "fnExactAmong", apart := false, narrowed := true }
def FnExactAmongUptoSaid : Prop := fnExactAmongUptoRow.holds Try.pinned (OpenSpec.upto fnExactAmongSpec)

/-- 'laws.FnExactDisjoint', WHERE WHAT IT READS IS OF BULK AT MOST 1048576: true; the input reads as it did. -/
def fnExactDisjointUptoRow : OpenClaim := { program := "ytcnnjcbcbpfcgaa", sum := "53ce0d20f831bc40e4c2ef6e5806798070f9ae23c8a1aff938ec3fac6b331622", func := "loop.example/g01538/laws.FnExactDisjoint", spec := "fnExactDisjoint", unfollowed := true, recurses := true, apart := false, narrowed := true }
def FnExactDisjointUptoSaid : Prop := fnExactDisjointUptoRow.holds Try.pinned (OpenSpec.upto fnExactDisjointSpec)

end Rows
end Go.Proofs.Ytcnnjcbcbpfcgaa
