/- m -/
import Derived.ProofKit
import Derived.Test.YtkmggglljkmjoaaGreatUHRanges2
import Derived.BigQuiet
import Derived.Deep.LoopGhost
import Derived.Deep.RegionHeld3
import Derived.Deep.WholeRow
namespace Go.Proofs.YtkmggglljkmjoaaGreat
open Go.ChangeShapes Go.WideShapes Go.ChangeAt Go.RowKit
theorem Tryz.own : ownKnob Tryz.prog.godebug=none:=by kernel_rfl
theorem Tryz.laidOut : laidOutB Tryz.prog=true:=by kernel_rfl
theorem zL {H : Type}{enc : TypeId×Value→H}{P : Program}(hl : laidOutB P=true){W W' : World}(hb : Below W.heap.size W W') :
  ∀ (ts : List TypeId) (vs : List Value) (ds : List (DataW H)) (ps : List MemPlace),
   (ts.all fun t=>P.readableRec t&&decide (t<P.types.size)) =true→ (∀x∈ps,x.block<W.heap.size) →
   DataW.TrodAll enc P W 0 (fun _=>true) true ts vs ds ps→DataW.TrodAll enc P W' 0 (fun b=>decide (b<W.heap.size)) true ts vs ds ps
 | [], [], [],_,_,_,h=>h
 |t::ts,v::vs,d::ds,ps,hr,hlt,h=>by
  obtain⟨p,q,h1,h2,rfl⟩ :=h;simp only [List.all_cons,X4,decide_eq_true_eq] at hr;obtain⟨⟨hr1,hr2⟩,hr3⟩ :=hr;exact⟨p,q,Below.trod hl hr1 hr2 h1 hb (fun x hx=>hlt x (XT.2 (.inl hx))),zL hl hb ts vs ds q hr3 (fun x hx=>hlt x (XT.2 (.inr hx))) h2,rfl⟩
 | [], [],_::_,_,_,_,h=>h.elim
 | [],_::_,_,_,_,_,h=>h.elim
 |_::_, [],_,_,_,_,h=>h.elim
 |_::_,_::_, [],_,_,_,h=>h.elim
theorem trodAll_length {H : Type}{enc : TypeId×Value→H}{P : Program}{W : World}{base : Nat}{sp : Nat→Bool}{hd : Bool} :
  ∀ (ts : List TypeId) (vs : List Value) (ds : List (DataW H)) (ps : List MemPlace),DataW.TrodAll enc P W base sp hd ts vs ds ps→ds.length=ts.length∧vs.length=ts.length
 | [], [], [],_,_=> ⟨rfl,rfl⟩
 |_::ts,_::vs,_::ds,_,h=>by
  obtain⟨p,q,_,h2,_⟩ :=h;have:=trodAll_length ts vs ds q h2;simp [this]
 | [], [],_::_,_,h=>h.elim
 | [],_::_,_,_,h=>h.elim
 |_::_, [],_,_,h=>h.elim
 |_::_,_::_, [],_,h=>h.elim
theorem lift {C : Checked}{os : Os}{f : FuncId}{fn : Func}{s : ChangeSpec}{H : Type}{enc : TypeId×Value→H}{conds : List PathCond}{apart handsOn : Bool}(tb : TypeId)
  (own : ownKnob C.prog.godebug=none) (hlaid : laidOutB C.prog=true) (started : os.Started) (noInit : C.prog.inits.idxOf? f=none) (hfn : C.prog.funcs[f]? =some fn)
  (witness : ∃ (w : World) (tape : Tape) (i : Input),w.os=os∧ (w.forCall tape i).Shaped C.prog∧i.vars= []∧Input.okWide C.prog (w.forCall tape i) .any w.heap.size f i∧
   s.pre6 enc C.prog fn conds apart (w.forCall tape i).memory i.args∧ ({} : Assume).holds C.prog (lone (Frame.enter C.prog f i.args .normal) [] (w.forCall tape i)))
  (hvars : s.vars= []) (hres : fn.resultTypes= #[tb]) (htb : C.prog.underlying tb=some .bool)
  (hread : (fn.params.toList.all fun t=>C.prog.readableRec t&&decide (t<C.prog.types.size)) =true)
  (hspec : ∀ds : List (DataW H),ds.length=fn.params.size→s.fn H ds= {results:= [.lit (.bool true)],args:=ds})
  (contract : ∀ (W : World) (args : Array Value) (ds : List (DataW H)) (p : List MemPlace),
   (∀ (j : Nat) t v,fn.params[j]? =some t→args[j]? =some v→ ∃base,Value.okWide C.prog W .any base t v) →
   DataW.TrodAll enc C.prog W 0 (fun _=>true) true fn.params.toList args.toList ds p→
   Calls C.prog f args W fun e W'=>e= .returned (.bool true) ∧Below W.heap.size W W') :
  ReturnsInHanded {} C os f .any (s.pre6 enc C.prog fn conds apart) (s.post enc C.prog fn apart true handsOn false) :=by
 refine returnsInHanded_of_change own started noInit hfn witness ?_;intro W base args ds gs before hval hW _ _;have hW':=hW;obtain⟨p,q,hA,hV,rfl,hfz,hnd⟩ :=hW;have hV':=hV;rw [hvars] at hV';obtain⟨rfl,rfl⟩ :=trodVars_none hV';refine(contract W args ds p (fun j t v h1 h2=> ⟨base,hval j t v h1 h2⟩) hA).mono fun e W' ⟨he,hb⟩ => ?_;have hlen : ds.length=fn.params.size:=by
  simpa using (trodAll_length _ _ _ _ hA).1
 have hs:=hspec ds hlen;refine⟨_,he,ds, [],p++ [], [],p, [],hW', ?_, ?_, ?_,hb.frame _,fun h=>by cases h⟩
 ·rw [List.append_nil,hs,hres]
  exact trodAll_mk1 (shut_bool htb true)
 ·rw [List.append_nil,hs]
  exact zL hlaid hb _ _ _ _ hread (fun x hx=>hW'.lt x (by simpa using hx)) hA
 ·rw [hvars,List.append_nil,hs]
  simp [DataW.TrodVars]
end Go.Proofs.YtkmggglljkmjoaaGreat
namespace Go.Proofs.YtkmggglljkmjoaaGreat
open Go.RowKit
theorem Tryz.infoInt : (Tryz.prog.info? 3).map (fun i=> (i.zero,i.size,i.bytes)) =some (some (.int .i64 0),FI.n,8) :=by kernel_rfl
structure Heap where
 Y : List Int
 Z : List Int
structure eX where
 Y : SV
 Z : SV
@[reducible] def eX.val (H : eX) (_x : Heap) : Value:= .agg #[.slice H.Y.a H.Y.l H.Y.c, .slice H.Z.a H.Z.l H.Z.c]
def eX.foot (H : eX) : List Nat:=bq H.Y.val++bq H.Z.val
structure iW (w : World)(B : Nat)(H : eX)(x : Heap) : Prop where
 Y : dX FI w B H.Y.val x.Y
 Z : dX FI w B H.Z.val x.Z
structure fM (w : World)(H : eX)(x : Heap) : Prop where
 Y : aX FI 3 w H.Y.val x.Y
 Z : aX FI 3 w H.Z.val x.Z
 jy : ∀g∈bq H.Y.val,g∉bq H.Z.val
theorem iW.keep {w w' : World}{B B' : Nat}{H : eX}{x : Heap}(h : iW w B H x)(hk : ∀k,k<B→w'.heap[k]? =w.heap[k]?)(hB : B≤B') : iW w' B' H x:=
 ⟨h.Y.keep hk hB,h.Z.keep hk hB⟩
theorem fT {w w' : World}{H : eX}{x : Heap}(h : iW w w.heap.size H x)(hb : Below w.heap.size w w') : iW w' w'.heap.size H x:=h.keep hb.block hb.size
theorem eX.aI {H : eX}{g : Nat} : g∈H.foot↔g∈bq H.Y.val∨g∈bq H.Z.val:=by
 unfold eX.foot;simp only [XT]
theorem fM.lt {w : World}{H : eX}{x : Heap}(h : fM w H x) : ∀g∈H.foot,g<w.heap.size:=by
 intro g hg;rcases eX.aI.1 hg with hg|hg
 ·exact(dQ h.Y) g hg
 ·exact(dQ h.Z) g hg
theorem fM.keep {w w' : World}{H : eX}{x : Heap}(h : fM w H x)(hk : ∀g∈H.foot,w'.heap[g]? =w.heap[g]?) : fM w' H x:=
 ⟨h.Y.keep (fun g hg=>hk g (eX.aI.2 (.inl (aS.2 hg)))),h.Z.keep (fun g hg=>hk g (eX.aI.2 ((.inr (aS.2 hg))))),h.jy⟩
theorem fM.aM {w w' : World}{H : eX}{x : Heap}{F : List Nat}(h : fM w H x)(hc : bn F w w')(hd : ∀g∈H.foot,g∉F) : fM w' H x:=h.keep fun g hg=>hc.block g (h.lt g hg) (hd g hg)
theorem fM.rd {w : World}{B : Nat}{H : eX}{x : Heap}(h : fM w H x)(hB : ∀g∈H.foot,g<B) : iW w B H x:=
 ⟨h.Y.rd (fun g hg=>hB g (eX.aI.2 (.inl (aS.2 hg)))),h.Z.rd (fun g hg=>hB g (eX.aI.2 ((.inr (aS.2 hg)))))⟩
theorem fM.rd' {w : World}{H : eX}{x : Heap}(h : fM w H x) : iW w w.heap.size H x:=h.rd h.lt
def kE (x : Heap) : Nat:=x.Y.length+x.Z.length
structure Lists where
 G : List (List Int)
 O : List (List Int)
structure bF where
 G : SV
 mM : List SV
 O : SV
 qQ : List SV
@[reducible] def bF.val (H : bF) (_x : Lists) : Value:= .agg #[.slice H.G.a H.G.l H.G.c, .slice H.O.a H.O.l H.O.c]
def bF.foot (H : bF) : List Nat:=bT H.G.val H.mM++bT H.O.val H.qQ
structure jC (w : World)(B : Nat)(H : bF)(x : Lists) : Prop where
 G : ig FI w B H.G.val H.mM x.G
 O : ig FI w B H.O.val H.qQ x.O
structure eZ (w : World)(H : bF)(x : Lists) : Prop where
 G : dF FI 3 94 w H.G.val H.mM x.G
 O : dF FI 3 94 w H.O.val H.qQ x.O
 jy : ∀g∈bT H.G.val H.mM,g∉bT H.O.val H.qQ
theorem jC.keep {w w' : World}{B B' : Nat}{H : bF}{x : Lists}(h : jC w B H x)(hk : ∀k,k<B→w'.heap[k]? =w.heap[k]?)(hB : B≤B') : jC w' B' H x:=
 ⟨h.G.keep hk hB,h.O.keep hk hB⟩
theorem j4 {w w' : World}{H : bF}{x : Lists}(h : jC w w.heap.size H x)(hb : Below w.heap.size w w') : jC w' w'.heap.size H x:=h.keep hb.block hb.size
theorem bF.aI {H : bF}{g : Nat} : g∈H.foot↔g∈bT H.G.val H.mM∨g∈bT H.O.val H.qQ:=by
 unfold bF.foot;simp only [XT]
theorem eZ.lt {w : World}{H : bF}{x : Lists}(h : eZ w H x) : ∀g∈H.foot,g<w.heap.size:=by
 intro g hg;rcases bF.aI.1 hg with hg|hg
 ·exact h.G.lt g hg
 ·exact h.O.lt g hg
theorem eZ.keep {w w' : World}{H : bF}{x : Lists}(h : eZ w H x)(hk : ∀g∈H.foot,w'.heap[g]? =w.heap[g]?) : eZ w' H x:=
 ⟨h.G.keep (fun g hg=>hk g (bF.aI.2 (.inl hg))),h.O.keep (fun g hg=>hk g (bF.aI.2 ((.inr hg)))),h.jy⟩
theorem eZ.aM {w w' : World}{H : bF}{x : Lists}{F : List Nat}(h : eZ w H x)(hc : bn F w w')(hd : ∀g∈H.foot,g∉F) : eZ w' H x:=h.keep fun g hg=>hc.block g (h.lt g hg) (hd g hg)
theorem eZ.rd {w : World}{B : Nat}{H : bF}{x : Lists}(h : eZ w H x)(hB : ∀g∈H.foot,g<B) : jC w B H x:=
 ⟨h.G.rd (fun g hg=>hB g (bF.aI.2 (.inl hg))),h.O.rd (fun g hg=>hB g (bF.aI.2 ((.inr hg))))⟩
theorem eZ.rd' {w : World}{H : bF}{x : Lists}(h : eZ w H x) : jC w w.heap.size H x:=h.rd h.lt
def bX (x : Lists) : Nat:=fO x.G+fO x.O
structure Mem where
 E : Heap
 I : Lists
structure bV where
 E : eX
 I : bF
@[reducible] def bV.val (H : bV) (_x : Mem) : Value:= .agg #[.slice H.E.Y.a H.E.Y.l H.E.Y.c, .slice H.E.Z.a H.E.Z.l H.E.Z.c, .slice H.I.G.a H.I.G.l H.I.G.c, .slice H.I.O.a H.I.O.l H.I.O.c]
def bV.foot (H : bV) : List Nat:=H.E.foot++H.I.foot
structure jN (w : World)(B : Nat)(H : bV)(x : Mem) : Prop where
 E : iW w B H.E x.E
 I : jC w B H.I x.I
structure fq (w : World)(H : bV)(x : Mem) : Prop where
 E : fM w H.E x.E
 I : eZ w H.I x.I
 jy : ∀g∈H.E.foot,g∉H.I.foot
theorem jN.keep {w w' : World}{B B' : Nat}{H : bV}{x : Mem}(h : jN w B H x)(hk : ∀k,k<B→w'.heap[k]? =w.heap[k]?)(hB : B≤B') : jN w' B' H x:=
 ⟨h.E.keep hk hB,h.I.keep hk hB⟩
theorem gu {w w' : World}{H : bV}{x : Mem}(h : jN w w.heap.size H x)(hb : Below w.heap.size w w') : jN w' w'.heap.size H x:=h.keep hb.block hb.size
theorem bV.aI {H : bV}{g : Nat} : g∈H.foot↔g∈H.E.foot∨g∈H.I.foot:=by
 unfold bV.foot;simp only [XT]
theorem fq.lt {w : World}{H : bV}{x : Mem}(h : fq w H x) : ∀g∈H.foot,g<w.heap.size:=by
 intro g hg;rcases bV.aI.1 hg with hg|hg
 ·exact h.E.lt g hg
 ·exact h.I.lt g hg
theorem fq.keep {w w' : World}{H : bV}{x : Mem}(h : fq w H x)(hk : ∀g∈H.foot,w'.heap[g]? =w.heap[g]?) : fq w' H x:=
 ⟨h.E.keep (fun g hg=>hk g (bV.aI.2 (.inl hg))),h.I.keep (fun g hg=>hk g (bV.aI.2 ((.inr hg)))),h.jy⟩
theorem fq.aM {w w' : World}{H : bV}{x : Mem}{F : List Nat}(h : fq w H x)(hc : bn F w w')(hd : ∀g∈H.foot,g∉F) : fq w' H x:=h.keep fun g hg=>hc.block g (h.lt g hg) (hd g hg)
theorem fq.rd {w : World}{B : Nat}{H : bV}{x : Mem}(h : fq w H x)(hB : ∀g∈H.foot,g<B) : jN w B H x:=
 ⟨h.E.rd (fun g hg=>hB g (bV.aI.2 (.inl hg))),h.I.rd (fun g hg=>hB g (bV.aI.2 ((.inr hg))))⟩
theorem fq.rd' {w : World}{H : bV}{x : Mem}(h : fq w H x) : jN w w.heap.size H x:=h.rd h.lt
def eF (x : Mem) : Nat:=kE x.E+bX x.I
structure Base where
 Mem : Mem
 Clock : Clock
 aB : List (List fP)
 bf : List Int
structure aA where
 Mem : bV
 Clock : fV
 aB : SV
 jk : List SV
 bf : SV
@[reducible] def aA.val (H : aA) (x : Base) : Value:= .agg #[.slice H.Mem.E.Y.a H.Mem.E.Y.l H.Mem.E.Y.c, .slice H.Mem.E.Z.a H.Mem.E.Z.l H.Mem.E.Z.c, .slice H.Mem.I.G.a H.Mem.I.G.l H.Mem.I.G.c, .slice H.Mem.I.O.a H.Mem.I.O.l H.Mem.I.O.c, .int .i64 x.Clock.Epoch, .slice H.Clock.aK.a H.Clock.aK.l H.Clock.aK.c, .slice H.aB.a H.aB.l H.aB.c, .slice H.bf.a H.bf.l H.bf.c]
def aA.foot (H : aA) : List Nat:=H.Mem.foot++H.Clock.foot++bT H.aB.val H.jk++bq H.bf.val
structure nu (w : World)(B : Nat)(H : aA)(x : Base) : Prop where
 Mem : jN w B H.Mem x.Mem
 Clock : nN w B H.Clock x.Clock
 aB : ig gZ w B H.aB.val H.jk x.aB
 bf : dX FI w B H.bf.val x.bf
structure dz (w : World)(H : aA)(x : Base) : Prop where
 Mem : fq w H.Mem x.Mem
 Clock : iO w H.Clock x.Clock
 aB : dF gZ 83 123 w H.aB.val H.jk x.aB
 bf : aX FI 3 w H.bf.val x.bf
 jy : ∀g∈H.Mem.foot,g∉H.Clock.foot
 IB : ∀g∈H.Mem.foot,g∉bT H.aB.val H.jk
 K8 : ∀g∈H.Mem.foot,g∉bq H.bf.val
 K_ : ∀g∈H.Clock.foot,g∉bT H.aB.val H.jk
 Nj : ∀g∈H.Clock.foot,g∉bq H.bf.val
 La : ∀g∈bT H.aB.val H.jk,g∉bq H.bf.val
theorem nu.keep {w w' : World}{B B' : Nat}{H : aA}{x : Base}(h : nu w B H x)(hk : ∀k,k<B→w'.heap[k]? =w.heap[k]?)(hB : B≤B') : nu w' B' H x:=
 ⟨h.Mem.keep hk hB,h.Clock.keep hk hB,h.aB.keep hk hB,h.bf.keep hk hB⟩
theorem nU {w w' : World}{H : aA}{x : Base}(h : nu w w.heap.size H x)(hb : Below w.heap.size w w') : nu w' w'.heap.size H x:=h.keep hb.block hb.size
theorem aA.aI {H : aA}{g : Nat} : g∈H.foot↔g∈H.Mem.foot∨g∈H.Clock.foot∨g∈bT H.aB.val H.jk∨g∈bq H.bf.val:=by
 unfold aA.foot;simp only [XT,or_assoc]
theorem dz.lt {w : World}{H : aA}{x : Base}(h : dz w H x) : ∀g∈H.foot,g<w.heap.size:=by
 intro g hg;rcases aA.aI.1 hg with hg|hg|hg|hg
 ·exact h.Mem.lt g hg
 ·exact h.Clock.lt g hg
 ·exact h.aB.lt g hg
 ·exact(dQ h.bf) g hg
theorem dz.keep {w w' : World}{H : aA}{x : Base}(h : dz w H x)(hk : ∀g∈H.foot,w'.heap[g]? =w.heap[g]?) : dz w' H x:=
 ⟨h.Mem.keep (fun g hg=>hk g (aA.aI.2 (.inl hg))),h.Clock.keep (fun g hg=>hk g (aA.aI.2 ((.inr (.inl hg))))),h.aB.keep (fun g hg=>hk g (aA.aI.2 ((.inr ((.inr (.inl hg))))))),h.bf.keep (fun g hg=>hk g (aA.aI.2 ((.inr ((.inr ((.inr (aS.2 hg))))))))),h.jy,h.IB,h.K8,h.K_,h.Nj,h.La⟩
theorem dz.aM {w w' : World}{H : aA}{x : Base}{F : List Nat}(h : dz w H x)(hc : bn F w w')(hd : ∀g∈H.foot,g∉F) : dz w' H x:=h.keep fun g hg=>hc.block g (h.lt g hg) (hd g hg)
theorem dz.rd {w : World}{B : Nat}{H : aA}{x : Base}(h : dz w H x)(hB : ∀g∈H.foot,g<B) : nu w B H x:=
 ⟨h.Mem.rd (fun g hg=>hB g (aA.aI.2 (.inl hg))),h.Clock.rd (fun g hg=>hB g (aA.aI.2 ((.inr (.inl hg))))),h.aB.rd (fun g hg=>hB g (aA.aI.2 ((.inr ((.inr (.inl hg))))))),h.bf.rd (fun g hg=>hB g (aA.aI.2 ((.inr ((.inr ((.inr (aS.2 hg)))))))))⟩
theorem dz.rd' {w : World}{H : aA}{x : Base}(h : dz w H x) : nu w w.heap.size H x:=h.rd h.lt
variable {α : Type} {T : FT α}
structure aJ (w : World)(g : Nat)(vs : List Value) : Prop where
 lt : g<w.heap.size
 cell : ∀j v,vs[j]? =some v→w.cell? ⟨g,j,none⟩ =some v
 dN : ∀j,w.frozen? ⟨g,j,none⟩ =false
theorem aJ.of_block {w w' : World}{g : Nat}{vs : List Value}(h : aJ w g vs)(hs : w.heap.size≤w'.heap.size)(hb : w'.heap[g]? =w.heap[g]?) : aJ w' g vs:=
 ⟨XO h.lt hs,fun j v hv=>by simpa [World.cell?,hb] using h.cell j v hv,fun j=>by simpa [World.frozen?,hb] using h.dN j⟩
theorem aJ.below {w w' : World}{g : Nat}{vs : List Value}(h : aJ w g vs)(hb : Below w.heap.size w w') : aJ w' g vs:=h.of_block hb.size (hb.block g h.lt)
theorem aJ.aM {w w' : World}{g : Nat}{vs : List Value}{F : List Nat}(h : aJ w g vs)(hc : bn F w w')(hn : g∉F) : aJ w' g vs:=h.of_block hc.size (hc.block g h.lt hn)
theorem j5 (w : World){g g' i : Nat}(v : Value)(hn : g≠g') : (w.setCell ⟨g,i,none⟩ v).heap[g']? =w.heap[g']? :=Below.heap_setCell _ _ _ _ (fun e=>hn e.symm)
theorem aJ.other {w : World}{g : Nat}{vs : List Value}(h : aJ w g vs){g' i : Nat}(hn : g'≠g)(v : Value) : aJ (w.setCell ⟨g',i,none⟩ v) g vs:=h.of_block (by simp) (j5 w v hn)
theorem aJ.set {w : World}{g : Nat}{vs : List Value}(h : aJ w g vs)(i : Nat)(v : Value) : aJ (w.setCell ⟨g,i,none⟩ v) g (vs.set i v) :=by
 refine⟨by simpa using h.lt,fun j u hu=> ?_,fun j=> ?_⟩
 ·by_cases hij : i=j
  ·subst hij
   rw [List.getElem?_set] at hu;by_cases hl : i<vs.length
   ·simp [hl] at hu
    subst hu;have:=h.cell i _ (XL hl);simp [go_sem,this]
   ·simp [hl] at hu
  ·rw [List.getElem?_set,if_neg hij] at hu
   rw [World.cell?_setCell_other _ _ _ _ (by intro e;simp only [Addr.mk.injEq] at e;omega)];exact h.cell j u hu
 ·have:=h.dN j
  simp [go_sem,this]
theorem aJ.alloc {w : World}{g : Nat}{vs : List Value}(h : aJ w g vs)(o : Obj) : aJ (w.alloc o) g vs:=h.of_block (by simp) (Below.heap_alloc w o g h.lt)
theorem aJ.drew {w : World}{g : Nat}{vs : List Value}(h : aJ w g vs) : aJ w.drew g vs:=h.of_block (XQ _) rfl
theorem aJ.drewN {w : World}{g : Nat}{vs : List Value}(h : aJ w g vs)(n : Nat) : aJ (w.drewN n) g vs:=h.of_block (XQ _) rfl
theorem aJ.new (w : World)(vs : Array Value)(ty : TypeId) : aJ (w.alloc (.cells vs ty)) w.heap.size vs.toList:=by
 refine⟨by simp,fun j v hv=> ?_,fun j=>by simp [go_sem]⟩;have : vs[j]? =some v:=by simpa using hv
 simp only [World.cell?,heap_alloc_last];exact this
theorem bn.dG {F : List Nat}{w w' : World}(h : bn F w w'){g i : Nat}(hg : g∈F)(v : Value) : bn F w (w'.setCell ⟨g,i,none⟩ v) :=
 ⟨h.os,h.tape,h.output,by simpa using h.size,fun k hk hn=> (Below.heap_setCell _ _ _ _ (fun e=>by have e' : k=g:=e;exact hn (e' ▸ hg))).trans (h.block k hk hn)⟩
theorem bn.av {F : List Nat}{w w' : World}(h : bn F w w')(o : Obj) : bn F w (w'.alloc o) :=
 ⟨h.os,h.tape,h.output,XR h.size (by simp),fun k hk hn=> (Below.heap_alloc w' o k (XO hk h.size)).trans (h.block k hk hn)⟩
theorem bn.xW {F : List Nat}{w w' : World}{o : Obj}(h : bn F (w.alloc o) w') : bn F w w':= ((bn.refl F w).av o).trans h
theorem dX.len_ {w : World}{B : Nat}{a : Option Addr}{n c : Nat}{l : List α}(h : dX T w B (.slice a n c) l) : n=l.length∧n≤9223372036854775807:=by
 obtain⟨A,c',hv,q1,q2,_⟩ :=id h;injection hv with h1 h2 h3;refine⟨h2, ?_⟩;unfold maxLen at q2;omega
theorem bn.aY {F : List Nat}{w w' : World}(h : bn F w w') : bn F w w'.drew:= ⟨h.os,h.tape,h.output,h.size,h.block⟩
theorem dx {F : List Nat}{a b : World}(h : bn F a b:=by repeat (first|with_reducible exact bn.refl _ _|with_reducible refine bn.dG ?_ (by simp) _|with_reducible refine bn.av ?_ _|with_reducible refine bn.aY ?_)) : bn F a b:=h
theorem aJ.nw {w : World}{vs : Array Value}{ty : TypeId}{n : Nat}(h : w.heap.size=n:=by first|with_reducible rfl|simp only [World.size_alloc]) : aJ (w.alloc (.cells vs ty)) n vs.toList:=h ▸ aJ.new w vs ty
theorem aJ.f1 {w : World}{g : Nat}{a : Value}(h : aJ w g [a]) : w.cell? ⟨g,0,none⟩ =some a∧ (∀j,w.frozen? ⟨g,j,none⟩ =false) ∧g<w.heap.size:= ⟨h.cell 0 a rfl,h.dN,h.lt⟩
theorem aJ.f2 {w : World}{g : Nat}{a b : Value}(h : aJ w g [a,b]) : w.cell? ⟨g,0,none⟩ =some a∧w.cell? ⟨g,1,none⟩ =some b∧ (∀j,w.frozen? ⟨g,j,none⟩ =false) ∧g<w.heap.size:= ⟨h.cell 0 a rfl,h.cell 1 b rfl,h.dN,h.lt⟩
theorem aJ.f3 {w : World}{g : Nat}{a b c : Value}(h : aJ w g [a,b,c]) : w.cell? ⟨g,0,none⟩ =some a∧w.cell? ⟨g,1,none⟩ =some b∧w.cell? ⟨g,2,none⟩ =some c∧ (∀j,w.frozen? ⟨g,j,none⟩ =false) ∧g<w.heap.size:= ⟨h.cell 0 a rfl,h.cell 1 b rfl,h.cell 2 c rfl,h.dN,h.lt⟩
theorem aJ.f4 {w : World}{g : Nat}{a b c d : Value}(h : aJ w g [a,b,c,d]) : w.cell? ⟨g,0,none⟩ =some a∧w.cell? ⟨g,1,none⟩ =some b∧w.cell? ⟨g,2,none⟩ =some c∧w.cell? ⟨g,3,none⟩ =some d∧ (∀j,w.frozen? ⟨g,j,none⟩ =false) ∧g<w.heap.size:= ⟨h.cell 0 a rfl,h.cell 1 b rfl,h.cell 2 c rfl,h.cell 3 d rfl,h.dN,h.lt⟩
end Go.Proofs.YtkmggglljkmjoaaGreat
