/- m -/
import Derived.Test.YtkmggglljkmjoaaGreatUHRanges19
namespace Go.Proofs.YtkmggglljkmjoaaGreat
open Go.RowKit
theorem F9 {x : Lists}{k c : Nat}{s : Int}{l : List Int}(hl : x.O[k]? =some l)(h : l.length<2) : qI x k c s= {x with O:=x.O.set k (l++ [s])}:=by
 have e : x.O.getD k []=l:=by simp [List.getD,hl]
 unfold qI;rw [e,if_pos h]
theorem Ea {x : Lists}{k c : Nat}{s : Int}{l r : List Int}(hl : x.O[k]? =some l)(h : ¬ l.length<2)(hr : x.G[c]? =some r) : qI x k c s= {x with G:=x.G.set c (r++ [s])}:=by
 have e : x.O.getD k []=l:=by simp [List.getD,hl]
 have e2 : x.G.getD c []=r:=by simp [List.getD,hr]
 unfold qI;rw [e,if_neg h,e2]
end Go.Proofs.YtkmggglljkmjoaaGreat
