/- m -/
import Derived.Test.YtkmggglljkmjoaaGreatUHRanges22
namespace Go.Proofs.YtkmggglljkmjoaaGreat
open Go.RowKit
theorem state3 {m : Mem}{s : Int}(h : iI m s=3) : ¬ aG m.E s<0∧mP m.I s=false∧dK m.E s≤6:=by
 unfold iI at h;by_cases k1 : aG m.E s<0
 ·rw [if_pos k1] at h
  exact absurd h (by decide)
 ·rw [if_neg k1] at h
  by_cases k2 : mP m.I s=true
  ·rw [if_pos k2] at h
   exact absurd h (by decide)
  ·rw [if_neg k2] at h
   by_cases k3 : 6<dK m.E s
   ·rw [if_pos k3] at h
    exact absurd h (by decide)
   ·exact⟨k1, (XM _).mp k2,by omega⟩
theorem QG {h : Heap}{s : Int}(sh : Shape h)(k : ¬ aG h s<0) : 0≤aG h s∧aG h s≤2:=by
 have:=E9 sh s;rcases lT h s with ⟨e,_⟩ | ⟨e,_⟩ <;>omega
theorem Np {m : Mem}{wk c : Nat}{s g : Int}(hc : aG m.E s= (c : Int))(hg : dK m.E s=g) : pW m wk s= ⟨rF m.E s (g+1),if g+1≤6 then qI m.I (wk * 3+c) c s else m.I⟩ :=by
 unfold pW;rw [hc,hg,X6]
end Go.Proofs.YtkmggglljkmjoaaGreat
