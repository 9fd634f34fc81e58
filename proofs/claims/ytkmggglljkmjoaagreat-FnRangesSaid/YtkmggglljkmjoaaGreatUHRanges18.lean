/- m -/
import Derived.Test.YtkmggglljkmjoaaGreatUHRanges17
namespace Go.Proofs.YtkmggglljkmjoaaGreat
open Go.RowKit
theorem bV.jI {H : bV}{g : Nat}(h : g∈bq H.E.Y.val) : g∈H.foot:=bV.aI.2 (.inl (eX.aI.2 (.inl h)))
theorem fq.setBytes {w w' : World}{H : bV}{x : Mem}{b : List Int}(h : fq w H x)(hb : aX FI 3 w' H.E.Y.val b)(hc : bn (bq H.E.Y.val) w w') : fq w' H {x with E:= {x.E with Y:=b}}:=
 ⟨⟨hb,h.E.Z.aM hc (fun g hg hm=>h.E.jy g hm hg),h.E.jy⟩,h.I.aM hc (fun g hg hm=>h.jy g (eX.aI.2 (.inl hm)) hg),h.jy⟩
def jE (m : Mem)(h a k n : Int) : Mem×Int:=if (jT m h a k).2≠0 then (m, (jT m h a k).2) else if rE n k=false then (m,1) else ({m with E:= {m.E with Y:=LV m.E.Y (jT m h a k).1 k n}},0)
theorem AU {m : Mem}{h a k n : Int}(c : (jT m h a k).2≠0) : jE m h a k n= (m, (jT m h a k).2) :=if_pos c
theorem F7 {m : Mem}{h a k n : Int}(c : (jT m h a k).2=0)(f : rE n k=false) : jE m h a k n= (m,1) :=by
 unfold jE;rw [if_neg (by rw [c];decide),if_pos f]
theorem F8 {m : Mem}{h a k n : Int}(c : (jT m h a k).2=0)(f : rE n k=true) : jE m h a k n= ({m with E:= {m.E with Y:=LV m.E.Y (jT m h a k).1 k n}},0) :=by
 unfold jE;rw [if_neg (by rw [c];decide),if_neg (by rw [f];decide)]
end Go.Proofs.YtkmggglljkmjoaaGreat
