/- m -/
import Derived.Test.YtkmggglljkmjoaaGreatUHRanges1
namespace Go.Proofs.YtkmggglljkmjoaaGreat
structure fP where
 Handle : Int
 Epoch : Int
structure Pin where
 On : Bool
 Epoch : Int
 Marked : Bool
 Seen : Int
structure Span where
 From : Int
 To : Int
def FI : FT Int:= {n:=1,enc:=fun x=> [.int .i64 x],dflt:=0,len:=fun _=>rfl,one:=by intro x u hu;simp at hu;subst hu;rfl,pos:=by decide,small:=by decide}
def gZ : FT fP:= {n:=2,enc:=fun x=> [.int .i64 x.Handle, .int .i64 x.Epoch],dflt:= ⟨0,0⟩,len:=fun _=>rfl,one:=by(intro x u hu;simp only [Pe,Pd,XK] at hu;repeat (first| (rcases hu with rfl|hu;rfl) | (subst hu;rfl))),pos:=by decide,small:=by decide}
def iP : FT Pin:= {n:=4,enc:=fun x=> [.bool x.On, .int .i64 x.Epoch, .bool x.Marked, .int .i64 x.Seen],dflt:= ⟨false,0,false,0⟩,len:=fun _=>rfl,one:=by(intro x u hu;simp only [Pe,Pd,XK] at hu;repeat (first| (rcases hu with rfl|hu;rfl) | (subst hu;rfl))),pos:=by decide,small:=by decide}
def nQ : FT Span:= {n:=2,enc:=fun x=> [.int .i64 x.From, .int .i64 x.To],dflt:= ⟨0,0⟩,len:=fun _=>rfl,one:=by(intro x u hu;simp only [Pe,Pd,XK] at hu;repeat (first| (rcases hu with rfl|hu;rfl) | (subst hu;rfl))),pos:=by decide,small:=by decide}
end Go.Proofs.YtkmggglljkmjoaaGreat
namespace Go.Proofs.YtkmggglljkmjoaaGreat
open Go.RowKit
structure Clock where
 Epoch : Int
 aK : List Pin
structure fV where
 aK : SV
@[reducible] def fV.val (H : fV) (x : Clock) : Value:= .agg #[.int .i64 x.Epoch, .slice H.aK.a H.aK.l H.aK.c]
def fV.foot (H : fV) : List Nat:=bq H.aK.val
structure nN (w : World)(B : Nat)(H : fV)(x : Clock) : Prop where
 aK : dX iP w B H.aK.val x.aK
structure iO (w : World)(H : fV)(x : Clock) : Prop where
 aK : aX iP 120 w H.aK.val x.aK
theorem nN.keep {w w' : World}{B B' : Nat}{H : fV}{x : Clock}(h : nN w B H x)(hk : ∀k,k<B→w'.heap[k]? =w.heap[k]?)(hB : B≤B') : nN w' B' H x:=
 ⟨h.aK.keep hk hB⟩
theorem y7 {w w' : World}{H : fV}{x : Clock}(h : nN w w.heap.size H x)(hb : Below w.heap.size w w') : nN w' w'.heap.size H x:=h.keep hb.block hb.size
theorem fV.aI {H : fV}{g : Nat} : g∈H.foot↔g∈bq H.aK.val:=Iff.rfl
theorem iO.lt {w : World}{H : fV}{x : Clock}(h : iO w H x) : ∀g∈H.foot,g<w.heap.size:=by
 intro g hg;exact(dQ h.aK) g hg
theorem iO.keep {w w' : World}{H : fV}{x : Clock}(h : iO w H x)(hk : ∀g∈H.foot,w'.heap[g]? =w.heap[g]?) : iO w' H x:=
 ⟨h.aK.keep (fun g hg=>hk g (fV.aI.2 (aS.2 hg)))⟩
theorem iO.aM {w w' : World}{H : fV}{x : Clock}{F : List Nat}(h : iO w H x)(hc : bn F w w')(hd : ∀g∈H.foot,g∉F) : iO w' H x:=h.keep fun g hg=>hc.block g (h.lt g hg) (hd g hg)
theorem iO.rd {w : World}{B : Nat}{H : fV}{x : Clock}(h : iO w H x)(hB : ∀g∈H.foot,g<B) : nN w B H x:=
 ⟨h.aK.rd (fun g hg=>hB g (fV.aI.2 (aS.2 hg)))⟩
theorem iO.rd' {w : World}{H : fV}{x : Clock}(h : iO w H x) : nN w w.heap.size H x:=h.rd h.lt
end Go.Proofs.YtkmggglljkmjoaaGreat
