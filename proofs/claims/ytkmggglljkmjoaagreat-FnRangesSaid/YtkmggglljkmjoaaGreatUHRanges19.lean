/- m -/
import Derived.Test.YtkmggglljkmjoaaGreatUHRanges11
import Derived.Test.YtkmggglljkmjoaaGreatUHRanges18
namespace Go.Proofs.YtkmggglljkmjoaaGreat
open Go.RowKit
theorem lH {eU : List SV}{i : Nat}{s s' : SV}(hi : eU[i]? =some s)(hf : bq s'.val=bq s.val) : ((eU.set i s').flatMap fun s=>bq s.val) =eU.flatMap fun s=>bq s.val:=by
 induction eU generalizing i with
 |nil=>simp at hi
 |cons x xs ih=>
  cases i with
  |zero=>
   simp only [List.getElem?_cons_zero,Option.some.injEq] at hi;subst hi;simp [hf]
  |succ i=>
   simp only [List.getElem?_cons_succ] at hi;simp only [List.set_cons_succ,List.flatMap_cons,ih hi]
theorem wX {eU : List SV}{v : Value}{i : Nat}{s s' : SV}{w : World}{B : Nat}(hi : eU[i]? =some s)(hat : s'.val.ownBlock=s.val.ownBlock∨s'.val.ownBlock=some w.heap.size)(hB : B≤w.heap.size)(h : ∀b∈bT v eU,B≤b) : ∀b∈bT v (eU.set i s'),B≤b:=by
 intro b hb;rcases jF hb with hb|hb
 ·exact h b hb
 ·rw [aS] at hb
  rcases hat with h1|h1
  ·exact h b (dw.2 (.inr ⟨s,XV hi,by rw [←h1];exact hb⟩))
  ·rw [h1] at hb
   injection hb with hb;omega
theorem mq {α : Type}(ll : List (List α))(i : Nat)(l : List α) : fO (ll.set i l) ≤fO ll+l.length:=by
 have : ∀ (ll : List (List α)) i, ((ll.set i l).map List.length).sum≤ (ll.map List.length).sum+l.length:=by
  intro ll;induction ll with
  |nil=>intro i;simp
  |cons x xs ih=>
   intro i;cases i with
   |zero=>simp;omega
   |succ i=>have:=ih i;simp at this⊢;omega
 have:=this ll i;unfold fO;simp only [X8];omega
theorem aJ.ad {w : World}{g : Nat}{vs : List Value}(b : aJ w g vs) : ∃a,a=g∧aJ w a vs:= ⟨g,rfl,b⟩
def qI (x : Lists)(k c : Nat)(s : Int) : Lists:=if (x.O.getD k []).length<2 then {x with O:=x.O.set k (x.O.getD k []++ [s])} else {x with G:=x.G.set c (x.G.getD c []++ [s])}
def rF (h : Heap)(s g : Int) : Heap:= {h with Y:=putAt h.Y (gP s (aG h s)).toNat (iZ 4 g)}
def pW (m : Mem)(w : Nat)(s : Int) : Mem:= {E:=rF m.E s (dK m.E s+1),I:=if dK m.E s+1≤6 then qI m.I (w * 3+ (aG m.E s).toNat) (aG m.E s).toNat s else m.I}
def mX (m : Mem)(w h : Int) : Mem×Int:=if d9 m=false∨bG 0 2 w=false then (m,1) else if gM m h=false then (m,4) else (pW m w.toNat (h%32),0)
theorem Dm {m : Mem}{w h : Int}(c : d9 m=false∨bG 0 2 w=false) : mX m w h= (m,1) :=if_pos c
theorem IK {m : Mem}{w h : Int}(c1 : d9 m=true)(c2 : bG 0 2 w=true)(c3 : gM m h=false) : mX m w h= (m,4) :=by
 unfold mX;rw [if_neg (by rw [c1,c2];decide),if_pos c3]
theorem za {m : Mem}{w h : Int}(c1 : d9 m=true)(c2 : bG 0 2 w=true)(c3 : gM m h=true) : mX m w h= (pW m w.toNat (h%32),0) :=by
 unfold mX;rw [if_neg (by rw [c1,c2];decide),if_neg (by rw [c3];decide)]
theorem eX.jI {H : eX}{g : Nat}(h : g∈bq H.Y.val) : g∈H.foot:=eX.aI.2 (.inl h)
theorem fM.setBytes {w w' : World}{H : eX}{x : Heap}{b : List Int}(h : fM w H x)(hb : aX FI 3 w' H.Y.val b)(hc : bn (bq H.Y.val) w w') : fM w' H {x with Y:=b}:=
 ⟨hb,h.Z.aM hc (fun g hg hm=>h.jy g hm hg),h.jy⟩
end Go.Proofs.YtkmggglljkmjoaaGreat
