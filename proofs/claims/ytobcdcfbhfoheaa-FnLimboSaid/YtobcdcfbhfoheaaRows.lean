/-
  No cell of these rows narrows 'for every input' (looked for: loops, veiled, ifaces, maps, wideKeys, modest, calm, conditions, laid).
  DERIVED. THE GIVEN ROWS OF THIS SEAT. 12 by the template 'for every input the law returns true; each argument reads behind the call as it read before'; 0 by the template 'total and deterministic' (their statements: YtobcdcfbhfoheaaTotals.lean).
  GIVEN WITH THE SEED: the statements are not yours to turn. If you find one false, say at which input.
  Laid BY PROGRAM, IN A SANDBOX (cutbox-rows.mjs): the forced cells as the released guide's own fill.sh prints them over the translation 8b1f761506631350… (all of the seat's roots in one cut). By AI agents, Wed Nov 11 2026. No macro, syntax, notation, axiom, sorry.
-/
import Derived.Test.YtobcdcfbhfoheaaChecked
import GoSem.Claim
import GoSem.ClaimJoined
import GoSem.ClaimMapViews
import Derived.JoinedTies
import Derived.KernelRfl
namespace Go.Proofs.Ytobcdcfbhfoheaa
/- THE CELL 'sum', in the pinned program and in every row, IS THE sha256 OF THE DUMP (.gsa) THAT YtobcdcfbhfoheaaProg.lean LOADS. Nothing in Lean hashes anything: it is a label: what it is worth is what the hold of that sum in a sandbox is worth. -/
noncomputable def Try.pinned : Pinned := { name := "ytobcdcfbhfoheaa", sum := "8b1f7615066313503c58f6fc28a7216c96cf35e4fb4af4a469c68c7b9fd83f53", checked := Try.checked }
namespace Rows
def none {H : Type} : Left H := { results := [], args := [] }

/-- 'laws.FnExactHeldBy': WHATEVER THE INPUT: true; the input reads as it did. -/
def fnExactHeldBySpec : ChangeSpec := { name := "fnExactHeldBy", fn := fun _ => fun
  | [d1, d2] => { results := [.lit (.bool true)], args := [d1, d2] }
  | _ => none }
def fnExactHeldByRow : OpenClaim := { program := "ytobcdcfbhfoheaa", sum := "8b1f7615066313503c58f6fc28a7216c96cf35e4fb4af4a469c68c7b9fd83f53", func := "loop.example/g01538/laws.FnExactHeldBy", spec := "fnExactHeldBy", unfollowed := true, recurses := true, apart := false }
def FnExactHeldBySaid : Prop := fnExactHeldByRow.holds Try.pinned (OpenSpec.ofChange fnExactHeldBySpec)

/-- ITS FALSE NEIGHBOUR: 'it returns false'. Refute it at one input. -/
def fnExactHeldByWrong : ChangeSpec := { name := "fnExactHeldBy", fn := fun _ => fun
  | [d1, d2] => { results := [.lit (.bool false)], args := [d1, d2] }
  | _ => none }
def FnExactHeldByWrongFalsely : Prop := fnExactHeldByRow.holds Try.pinned (OpenSpec.ofChange fnExactHeldByWrong)

/-- 'laws.FnExactClear': WHATEVER THE INPUT: true; the input reads as it did. -/
def fnExactClearSpec : ChangeSpec := { name := "fnExactClear", fn := fun _ => fun
  | [d1, d2] => { results := [.lit (.bool true)], args := [d1, d2] }
  | _ => none }
def fnExactClearRow : OpenClaim := { program := "ytobcdcfbhfoheaa", sum := "8b1f7615066313503c58f6fc28a7216c96cf35e4fb4af4a469c68c7b9fd83f53", func := "loop.example/g01538/laws.FnExactClear", spec := "fnExactClear", unfollowed := true, recurses := true, apart := false }
def FnExactClearSaid : Prop := fnExactClearRow.holds Try.pinned (OpenSpec.ofChange fnExactClearSpec)

/-- ITS FALSE NEIGHBOUR: 'it returns false'. Refute it at one input. -/
def fnExactClearWrong : ChangeSpec := { name := "fnExactClear", fn := fun _ => fun
  | [d1, d2] => { results := [.lit (.bool false)], args := [d1, d2] }
  | _ => none }
def FnExactClearWrongFalsely : Prop := fnExactClearRow.holds Try.pinned (OpenSpec.ofChange fnExactClearWrong)

/-- 'laws.FnExactPublish': WHATEVER THE INPUT: true; the input reads as it did. -/
def fnExactPublishSpec : ChangeSpec := { name := "fnExactPublish", fn := fun _ => fun
  | [d1, d2, d3] => { results := [.lit (.bool true)], args := [d1, d2, d3] }
  | _ => none }
def fnExactPublishRow : OpenClaim := { program := "ytobcdcfbhfoheaa", sum := "8b1f7615066313503c58f6fc28a7216c96cf35e4fb4af4a469c68c7b9fd83f53", func := "loop.example/g01538/laws.FnExactPublish", spec := "fnExactPublish", unfollowed := true, recurses := true, apart := false }
def FnExactPublishSaid : Prop := fnExactPublishRow.holds Try.pinned (OpenSpec.ofChange fnExactPublishSpec)

/-- ITS FALSE NEIGHBOUR: 'it returns false'. Refute it at one input. -/
def fnExactPublishWrong : ChangeSpec := { name := "fnExactPublish", fn := fun _ => fun
  | [d1, d2, d3] => { results := [.lit (.bool false)], args := [d1, d2, d3] }
  | _ => none }
def FnExactPublishWrongFalsely : Prop := fnExactPublishRow.holds Try.pinned (OpenSpec.ofChange fnExactPublishWrong)

/-- 'laws.FnHazards': WHATEVER THE INPUT: true; the input reads as it did. -/
def fnHazardsSpec : ChangeSpec := { name := "fnHazards", fn := fun _ => fun
  | [d] => { results := [.lit (.bool true)], args := [d] }
  | _ => none }
def fnHazardsRow : OpenClaim := { program := "ytobcdcfbhfoheaa", sum := "8b1f7615066313503c58f6fc28a7216c96cf35e4fb4af4a469c68c7b9fd83f53", func := "loop.example/g01538/laws.FnHazards", spec := "fnHazards", unfollowed := true, recurses := true, apart := false }
def FnHazardsSaid : Prop := fnHazardsRow.holds Try.pinned (OpenSpec.ofChange fnHazardsSpec)

/-- ITS FALSE NEIGHBOUR: 'it returns false'. Refute it at one input. -/
def fnHazardsWrong : ChangeSpec := { name := "fnHazards", fn := fun _ => fun
  | [d] => { results := [.lit (.bool false)], args := [d] }
  | _ => none }
def FnHazardsWrongFalsely : Prop := fnHazardsRow.holds Try.pinned (OpenSpec.ofChange fnHazardsWrong)

/-- 'laws.FnExactLimboSize': WHATEVER THE INPUT: true; the input reads as it did. -/
def fnExactLimboSizeSpec : ChangeSpec := { name := "fnExactLimboSize", fn := fun _ => fun
  | [d] => { results := [.lit (.bool true)], args := [d] }
  | _ => none }
def fnExactLimboSizeRow : OpenClaim := { program := "ytobcdcfbhfoheaa", sum := "8b1f7615066313503c58f6fc28a7216c96cf35e4fb4af4a469c68c7b9fd83f53", func := "loop.example/g01538/laws.FnExactLimboSize", spec := "fnExactLimboSize", apart := false }
def FnExactLimboSizeSaid : Prop := fnExactLimboSizeRow.holds Try.pinned (OpenSpec.ofChange fnExactLimboSizeSpec)

/-- ITS FALSE NEIGHBOUR: 'it returns false'. Refute it at one input. -/
def fnExactLimboSizeWrong : ChangeSpec := { name := "fnExactLimboSize", fn := fun _ => fun
  | [d] => { results := [.lit (.bool false)], args := [d] }
  | _ => none }
def FnExactLimboSizeWrongFalsely : Prop := fnExactLimboSizeRow.holds Try.pinned (OpenSpec.ofChange fnExactLimboSizeWrong)

/-- 'laws.FnExactSameLimbo': WHATEVER THE INPUT: true; the input reads as it did. -/
def fnExactSameLimboSpec : ChangeSpec := { name := "fnExactSameLimbo", fn := fun _ => fun
  | [d1, d2] => { results := [.lit (.bool true)], args := [d1, d2] }
  | _ => none }
def fnExactSameLimboRow : OpenClaim := { program := "ytobcdcfbhfoheaa", sum := "8b1f7615066313503c58f6fc28a7216c96cf35e4fb4af4a469c68c7b9fd83f53", func := "loop.example/g01538/laws.FnExactSameLimbo", spec := "fnExactSameLimbo", unfollowed := true, recurses := true, apart := false }
def FnExactSameLimboSaid : Prop := fnExactSameLimboRow.holds Try.pinned (OpenSpec.ofChange fnExactSameLimboSpec)

/-- ITS FALSE NEIGHBOUR: 'it returns false'. Refute it at one input. -/
def fnExactSameLimboWrong : ChangeSpec := { name := "fnExactSameLimbo", fn := fun _ => fun
  | [d1, d2] => { results := [.lit (.bool false)], args := [d1, d2] }
  | _ => none }
def FnExactSameLimboWrongFalsely : Prop := fnExactSameLimboRow.holds Try.pinned (OpenSpec.ofChange fnExactSameLimboWrong)

/-- 'laws.FnExactInLimbo': WHATEVER THE INPUT: true; the input reads as it did. -/
def fnExactInLimboSpec : ChangeSpec := { name := "fnExactInLimbo", fn := fun _ => fun
  | [d1, d2] => { results := [.lit (.bool true)], args := [d1, d2] }
  | _ => none }
def fnExactInLimboRow : OpenClaim := { program := "ytobcdcfbhfoheaa", sum := "8b1f7615066313503c58f6fc28a7216c96cf35e4fb4af4a469c68c7b9fd83f53", func := "loop.example/g01538/laws.FnExactInLimbo", spec := "fnExactInLimbo", unfollowed := true, recurses := true, apart := false }
def FnExactInLimboSaid : Prop := fnExactInLimboRow.holds Try.pinned (OpenSpec.ofChange fnExactInLimboSpec)

/-- ITS FALSE NEIGHBOUR: 'it returns false'. Refute it at one input. -/
def fnExactInLimboWrong : ChangeSpec := { name := "fnExactInLimbo", fn := fun _ => fun
  | [d1, d2] => { results := [.lit (.bool false)], args := [d1, d2] }
  | _ => none }
def FnExactInLimboWrongFalsely : Prop := fnExactInLimboRow.holds Try.pinned (OpenSpec.ofChange fnExactInLimboWrong)

/-- 'laws.FnExactLimboOk': WHATEVER THE INPUT: true; the input reads as it did. -/
def fnExactLimboOkSpec : ChangeSpec := { name := "fnExactLimboOk", fn := fun _ => fun
  | [d] => { results := [.lit (.bool true)], args := [d] }
  | _ => none }
def fnExactLimboOkRow : OpenClaim := { program := "ytobcdcfbhfoheaa", sum := "8b1f7615066313503c58f6fc28a7216c96cf35e4fb4af4a469c68c7b9fd83f53", func := "loop.example/g01538/laws.FnExactLimboOk", spec := "fnExactLimboOk", apart := false }
def FnExactLimboOkSaid : Prop := fnExactLimboOkRow.holds Try.pinned (OpenSpec.ofChange fnExactLimboOkSpec)

/-- ITS FALSE NEIGHBOUR: 'it returns false'. Refute it at one input. -/
def fnExactLimboOkWrong : ChangeSpec := { name := "fnExactLimboOk", fn := fun _ => fun
  | [d] => { results := [.lit (.bool false)], args := [d] }
  | _ => none }
def FnExactLimboOkWrongFalsely : Prop := fnExactLimboOkRow.holds Try.pinned (OpenSpec.ofChange fnExactLimboOkWrong)

/-- 'laws.FnExactBucket': WHATEVER THE INPUT: true; the input reads as it did. -/
def fnExactBucketSpec : ChangeSpec := { name := "fnExactBucket", fn := fun _ => fun
  | [d1, d2, d3] => { results := [.lit (.bool true)], args := [d1, d2, d3] }
  | _ => none }
def fnExactBucketRow : OpenClaim := { program := "ytobcdcfbhfoheaa", sum := "8b1f7615066313503c58f6fc28a7216c96cf35e4fb4af4a469c68c7b9fd83f53", func := "loop.example/g01538/laws.FnExactBucket", spec := "fnExactBucket", apart := false }
def FnExactBucketSaid : Prop := fnExactBucketRow.holds Try.pinned (OpenSpec.ofChange fnExactBucketSpec)

/-- ITS FALSE NEIGHBOUR: 'it returns false'. Refute it at one input. -/
def fnExactBucketWrong : ChangeSpec := { name := "fnExactBucket", fn := fun _ => fun
  | [d1, d2, d3] => { results := [.lit (.bool false)], args := [d1, d2, d3] }
  | _ => none }
def FnExactBucketWrongFalsely : Prop := fnExactBucketRow.holds Try.pinned (OpenSpec.ofChange fnExactBucketWrong)

/-- 'laws.FnExactRetireTo': WHATEVER THE INPUT: true; the input reads as it did. -/
def fnExactRetireToSpec : ChangeSpec := { name := "fnExactRetireTo", fn := fun _ => fun
  | [d1, d2, d3, d4] => { results := [.lit (.bool true)], args := [d1, d2, d3, d4] }
  | _ => none }
def fnExactRetireToRow : OpenClaim := { program := "ytobcdcfbhfoheaa", sum := "8b1f7615066313503c58f6fc28a7216c96cf35e4fb4af4a469c68c7b9fd83f53", func := "loop.example/g01538/laws.FnExactRetireTo", spec := "fnExactRetireTo", apart := false }
def FnExactRetireToSaid : Prop := fnExactRetireToRow.holds Try.pinned (OpenSpec.ofChange fnExactRetireToSpec)

/-- ITS FALSE NEIGHBOUR: 'it returns false'. Refute it at one input. -/
def fnExactRetireToWrong : ChangeSpec := { name := "fnExactRetireTo", fn := fun _ => fun
  | [d1, d2, d3, d4] => { results := [.lit (.bool false)], args := [d1, d2, d3, d4] }
  | _ => none }
def FnExactRetireToWrongFalsely : Prop := fnExactRetireToRow.holds Try.pinned (OpenSpec.ofChange fnExactRetireToWrong)

/-- 'laws.FnExactDropRow': WHATEVER THE INPUT: true; the input reads as it did. -/
def fnExactDropRowSpec : ChangeSpec := { name := "fnExactDropRow", fn := fun _ => fun
  | [d1, d2, d3] => { results := [.lit (.bool true)], args := [d1, d2, d3] }
  | _ => none }
def fnExactDropRowRow : OpenClaim := { program := "ytobcdcfbhfoheaa", sum := "8b1f7615066313503c58f6fc28a7216c96cf35e4fb4af4a469c68c7b9fd83f53", func := "loop.example/g01538/laws.FnExactDropRow", spec := "fnExactDropRow", apart := false }
def FnExactDropRowSaid : Prop := fnExactDropRowRow.holds Try.pinned (OpenSpec.ofChange fnExactDropRowSpec)

/-- ITS FALSE NEIGHBOUR: 'it returns false'. Refute it at one input. -/
def fnExactDropRowWrong : ChangeSpec := { name := "fnExactDropRow", fn := fun _ => fun
  | [d1, d2, d3] => { results := [.lit (.bool false)], args := [d1, d2, d3] }
  | _ => none }
def FnExactDropRowWrongFalsely : Prop := fnExactDropRowRow.holds Try.pinned (OpenSpec.ofChange fnExactDropRowWrong)

/-- 'laws.FnLimbo': WHATEVER THE INPUT: true; the input reads as it did. -/
def fnLimboSpec : ChangeSpec := { name := "fnLimbo", fn := fun _ => fun
  | [d] => { results := [.lit (.bool true)], args := [d] }
  | _ => none }
def fnLimboRow : OpenClaim := { program := "ytobcdcfbhfoheaa", sum := "8b1f7615066313503c58f6fc28a7216c96cf35e4fb4af4a469c68c7b9fd83f53", func := "loop.example/g01538/laws.FnLimbo", spec := "fnLimbo", unfollowed := true, recurses := true, apart := false }
def FnLimboSaid : Prop := fnLimboRow.holds Try.pinned (OpenSpec.ofChange fnLimboSpec)

/-- ITS FALSE NEIGHBOUR: 'it returns false'. Refute it at one input. -/
def fnLimboWrong : ChangeSpec := { name := "fnLimbo", fn := fun _ => fun
  | [d] => { results := [.lit (.bool false)], args := [d] }
  | _ => none }
def FnLimboWrongFalsely : Prop := fnLimboRow.holds Try.pinned (OpenSpec.ofChange fnLimboWrong)

/- THE SECOND FORM. 'bulk': how many values and letters a reading holds, each counted each time it is reached (what is shared counts as often as it is met; a slice's spare places count too). A statement '..UptoSaid' is the law's where the arguments, and the package variables that the reading takes, are together of bulk at most 1048576: NARROWER than '..Said'. Prove '..Said' where nothing that the law and all that it calls make is longer than what came in: it says more and counts as full. Else prove '..UptoSaid'. A law counts once. -/
mutual
def uptoBulk {H : Type} : DataW H → Nat
  | .lit (.string bytes) => bytes.length + 1
  | .lit _ => 1
  | .nil => 1
  | .ptr d => uptoBulk d + 1
  | .slice elems spare => uptoBulkAll elems + uptoBulkAll spare + 1
  | .agg parts => uptoBulkAll parts + 1
  | .iface _ d => uptoBulk d + 1
  | .map entries => uptoBulkEntries entries + 1
  | .held _ => 1
def uptoBulkAll {H : Type} : List (DataW H) → Nat
  | [] => 0
  | d :: r => uptoBulk d + uptoBulkAll r
def uptoBulkEntries {H : Type} : List (Lit × DataW H) → Nat
  | [] => 0
  | x :: r => uptoBulkEntry x + uptoBulkEntries r
def uptoBulkEntry {H : Type} : Lit × DataW H → Nat
  | (.string bytes, d) => bytes.length + uptoBulk d + 1
  | (_, d) => uptoBulk d + 1
 end
def uptoSmall : (H : Type) → List (DataW H) → Bool := fun _ ds => decide (uptoBulkAll ds ≤ 1048576)
def OpenSpec.upto (s : _root_.Go.ChangeSpec) : _root_.Go.OpenSpec := { _root_.Go.OpenSpec.ofChange s with cond := some uptoSmall }

/-- 'laws.FnExactHeldBy', WHERE WHAT IT READS IS OF BULK AT MOST 1048576: true; the input reads as it did. -/
def fnExactHeldByUptoRow : OpenClaim := { program := "ytobcdcfbhfoheaa", sum := "8b1f7615066313503c58f6fc28a7216c96cf35e4fb4af4a469c68c7b9fd83f53", func := "loop.example/g01538/laws.FnExactHeldBy", spec := "fnExactHeldBy", unfollowed := true, recurses := true, apart := false, narrowed := true }
def FnExactHeldByUptoSaid : Prop := fnExactHeldByUptoRow.holds Try.pinned (OpenSpec.upto fnExactHeldBySpec)

/-- 'laws.FnExactClear', WHERE WHAT IT READS IS OF BULK AT MOST 1048576: true; the input reads as it did. -/
def fnExactClearUptoRow : OpenClaim := { program := "ytobcdcfbhfoheaa", sum := "8b1f7615066313503c58f6fc28a7216c96cf35e4fb4af4a469c68c7b9fd83f53", func := "loop.example/g01538/laws.FnExactClear", spec := "fnExactClear", unfollowed := true, recurses := true, apart := false, narrowed := true }
def FnExactClearUptoSaid : Prop := fnExactClearUptoRow.holds Try.pinned (OpenSpec.upto fnExactClearSpec)

/-- 'laws.FnExactPublish', WHERE WHAT IT READS IS OF BULK AT MOST 1048576: true; the input reads as it did. -/
def fnExactPublishUptoRow : OpenClaim := { program := "ytobcdcfbhfoheaa", sum := "8b1f7615066313503c58f6fc28a7216c96cf35e4fb4af4a469c68c7b9fd83f53", func := "loop.example/g01538/laws.FnExactPublish", spec := "fnExactPublish", unfollowed := true, recurses := true, apart := false, narrowed := true }
def FnExactPublishUptoSaid : Prop := fnExactPublishUptoRow.holds Try.pinned (OpenSpec.upto fnExactPublishSpec)

/-- 'laws.FnHazards', WHERE WHAT IT READS IS OF BULK AT MOST 1048576: true; the input reads as it did. -/
def fnHazardsUptoRow : OpenClaim := { program := "ytobcdcfbhfoheaa", sum := "8b1f7615066313503c58f6fc28a7216c96cf35e4fb4af4a469c68c7b9fd83f53", func := "loop.example/g01538/laws.FnHazards", spec := "fnHazards", unfollowed := true, recurses := true, apart := false, narrowed := true }
def FnHazardsUptoSaid : Prop := fnHazardsUptoRow.holds Try.pinned (OpenSpec.upto fnHazardsSpec)

/-- 'laws.FnExactLimboSize', WHERE WHAT IT READS IS OF BULK AT MOST 1048576: true; the input reads as it did. -/
def fnExactLimboSizeUptoRow : OpenClaim := { program := "ytobcdcfbhfoheaa", sum := "8b1f7615066313503c58f6fc28a7216c96cf35e4fb4af4a469c68c7b9fd83f53", func := "loop.example/g01538/laws.FnExactLimboSize", spec := "fnExactLimboSize", apart := false, narrowed := true }
def FnExactLimboSizeUptoSaid : Prop := fnExactLimboSizeUptoRow.holds Try.pinned (OpenSpec.upto fnExactLimboSizeSpec)

/-- 'laws.FnExactSameLimbo', WHERE WHAT IT READS IS OF BULK AT MOST 1048576: true; the input reads as it did. -/
def fnExactSameLimboUptoRow : OpenClaim := { program := "ytobcdcfbhfoheaa", sum := "8b1f7615066313503c58f6fc28a7216c96cf35e4fb4af4a469c68c7b9fd83f53", func := "loop.example/g01538/laws.FnExactSameLimbo", spec := "fnExactSameLimbo", unfollowed := true, recurses := true, apart := false, narrowed := true }
def FnExactSameLimboUptoSaid : Prop := fnExactSameLimboUptoRow.holds Try.pinned (OpenSpec.upto fnExactSameLimboSpec)

/-- 'laws.FnExactInLimbo', WHERE WHAT IT READS IS OF BULK AT MOST 1048576: true; the input reads as it did. -/
def fnExactInLimboUptoRow : OpenClaim := { program := "ytobcdcfbhfoheaa", sum := "8b1f7615066313503c58f6fc28a7216c96cf35e4fb4af4a469c68c7b9fd83f53", func := "loop.example/g01538/laws.FnExactInLimbo", spec := "fnExactInLimbo", unfollowed := true, recurses := true, apart := false, narrowed := true }
def FnExactInLimboUptoSaid : Prop := fnExactInLimboUptoRow.holds Try.pinned (OpenSpec.upto fnExactInLimboSpec)

/-- 'laws.FnExactLimboOk', WHERE WHAT IT READS IS OF BULK AT MOST 1048576: true; the input reads as it did. -/
def fnExactLimboOkUptoRow : OpenClaim := { program := "ytobcdcfbhfoheaa", sum := "8b1f7615066313503c58f6fc28a7216c96cf35e4fb4af4a469c68c7b9fd83f53", func := "loop.example/g01538/laws.FnExactLimboOk", spec := "fnExactLimboOk", apart := false, narrowed := true }
def FnExactLimboOkUptoSaid : Prop := fnExactLimboOkUptoRow.holds Try.pinned (OpenSpec.upto fnExactLimboOkSpec)

/-- 'laws.FnExactBucket', WHERE WHAT IT READS IS OF BULK AT MOST 1048576: true; the input reads as it did. -/
def fnExactBucketUptoRow : OpenClaim := { program := "ytobcdcfbhfoheaa", sum := "8b1f7615066313503c58f6fc28a7216c96cf35e4fb4af4a469c68c7b9fd83f53", func := "loop.example/g01538/laws.FnExactBucket", spec := "fnExactBucket", apart := false, narrowed := true }
def FnExactBucketUptoSaid : Prop := fnExactBucketUptoRow.holds Try.pinned (OpenSpec.upto fnExactBucketSpec)

/-- 'laws.FnExactRetireTo', WHERE WHAT IT READS IS OF BULK AT MOST 1048576: true; the input reads as it did. -/
def fnExactRetireToUptoRow : OpenClaim := { program := "ytobcdcfbhfoheaa", sum := "8b1f7615066313503c58f6fc28a7216c96cf35e4fb4af4a469c68c7b9fd83f53", func := "loop.example/g01538/laws.FnExactRetireTo", spec := "fnExactRetireTo", apart := false, narrowed := true }
def FnExactRetireToUptoSaid : Prop := fnExactRetireToUptoRow.holds Try.pinned (OpenSpec.upto fnExactRetireToSpec)

/-- 'laws.FnExactDropRow', WHERE WHAT IT READS IS OF BULK AT MOST 1048576: true; the input reads as it did. -/
def fnExactDropRowUptoRow : OpenClaim := { program := "ytobcdcfbhfoheaa", sum := "8b1f7615066313503c58f6fc28a7216c96cf35e4fb4af4a469c68c7b9fd83f53", func := "loop.example/g01538/laws.FnExactDropRow", spec := "fnExactDropRow", apart := false, narrowed := true }
def FnExactDropRowUptoSaid : Prop := fnExactDropRowUptoRow.holds Try.pinned (OpenSpec.upto fnExactDropRowSpec)

/-- 'laws.FnLimbo', WHERE WHAT IT READS IS OF BULK AT MOST 1048576: true; the input reads as it did. -/
def fnLimboUptoRow : OpenClaim := { program := "ytobcdcfbhfoheaa", sum := "8b1f7615066313503c58f6fc28a7216c96cf35e4fb4af4a469c68c7b9fd83f53", func := "loop.example/g01538/laws.FnLimbo", spec := "fnLimbo", unfollowed := true, recurses := true, apart := false, narrowed := true }
def FnLimboUptoSaid : Prop := fnLimboUptoRow.holds Try.pinned (OpenSpec.upto fnLimboSpec)

end Rows
end Go.Proofs.Ytobcdcfbhfoheaa
