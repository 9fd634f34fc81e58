/-
  Jobs: the forms that structs want.
-/
import Derived.Test.YtdepckmjgpkjmaaT
import Derived.Test.YtdepckmjgpkjmaaL
import Derived.Deep.QuietTactic
import Derived.BigQuiet
import Derived.Deep.LoopGhost
import Derived.Deep.RegionHeld3
import Derived.Test.YtdepckmjgpkjmaaN
import Derived.Test.YtdepckmjgpkjmaaA
import Derived.WalkSpells
import Derived.Laws.Cover3
import Derived.Test.YtdepckmjgpkjmaaJ3J
import Derived.Test.YtdepckmjgpkjmaaJ4J
import Derived.Test.YtdepckmjgpkjmaaJ5J
import Derived.Test.YtdepckmjgpkjmaaJ6J
namespace Go.Proofs.Ytdepckmjgpkjmaa
open Go.RowKit
theorem toJobS_w (w : World) (K : SV) (l : List Job) (h : RdL FJob w w.heap.size K.val l) (hs : l.length ≤ 1048576) :
    Calls Try.prog 44 #[.slice K.a K.len K.cap] w fun e w' => ∃ K' : SV, e = .returned (.slice K'.a K'.len K'.cap) ∧ OwL FJob 97 w' K'.val l ∧ (∀ g ∈ foot1 K'.val, w.heap.size ≤ g) ∧ Below w.heap.size w w' :=
  (toJobS_ct w _ l h hs).mono fun _ _ ⟨a, b, c⟩ => ⟨⟨_, _, _⟩, a, b, fun g hg => by have := mem_foot1.1 hg; simp [SV.val, Value.ownBlock] at this; omega, c⟩
theorem eqJobS_w (w : World) (K1 K2 : SV) (l : List Job) (h1 : RdL FJob w w.heap.size K1.val l) (h2 : RdL FJob w w.heap.size K2.val l) (hs : l.length ≤ 1073741824) :
    Calls Try.prog 51 #[.slice K1.a K1.len K1.cap, .slice K2.a K2.len K2.cap] w fun e w' => e = .returned (.bool true) ∧ Below w.heap.size w w' := eqJobS_ct w _ _ l h1 h2 hs
theorem szJobS_w (w : World) (K : SV) (l : List Job) (k : Nat) (h : RdL FJob w w.heap.size K.val l) (hk : k ≤ 1073741824) :
    Calls Try.prog 41 #[.slice K.a K.len K.cap, .int .i64 k] w fun e w' => e = .returned (.int .i64 (leftOf k l.length)) ∧ Below w.heap.size w w' := by
  have hl := RdL.len_ (show RdL FJob w w.heap.size (.slice K.a K.len K.cap) l from h)
  rw [← hl.1]
  exact szJobS_ct w K.a K.len K.cap k hl.2 hk
theorem markJobS_w (w : World) (K : SV) (l : List Job) (k : Int) (h : OwL FJob 97 w K.val l) (hk0 : 0 ≤ k) (hk1 : k + ((l.length * 21 : Nat) : Int) ≤ 4611686018427387904) :
    Calls Try.prog 63 #[.slice K.a K.len K.cap, .int .i64 k] w fun e w' => e = .returned (.int .i64 (k + ((l.length * 21 : Nat) : Int))) ∧ OwL FJob 97 w' K.val (marks mkJob 21 l l.length k) ∧ Chg (foot1 K.val) w w' :=
  (markJobS_ct w _ l k h hk0 (by omega)).mono fun _ _ ⟨a, b, c, _⟩ => ⟨a.trans (ret_i64 (by omega)), b, Chg.of_grown c⟩
theorem heldJobS_w (w : World) (K : SV) (l : List Job) (k : Int) (h : RdL FJob w w.heap.size K.val (marks mkJob 21 l l.length k)) (hk0 : 0 ≤ k) (hk1 : k + ((l.length * 21 : Nat) : Int) ≤ 4611686018427387904) :
    Calls Try.prog 76 #[.slice K.a K.len K.cap, .int .i64 k] w fun e w' => e = .returned (.int .i64 (k + ((l.length * 21 : Nat) : Int))) ∧ Below w.heap.size w w' :=
  (heldJobS_ct w _ l k h hk0 (by omega)).mono fun _ _ ⟨a, b⟩ => ⟨a.trans (ret_i64 (by omega)), b⟩
end Go.Proofs.Ytdepckmjgpkjmaa
