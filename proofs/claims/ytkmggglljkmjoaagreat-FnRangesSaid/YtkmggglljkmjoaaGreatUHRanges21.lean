/- m -/
import Derived.Test.YtkmggglljkmjoaaGreatUHRanges20
set_option maxRecDepth 100000
set_option maxHeartbeats 4000000
namespace Go.Proofs.YtkmggglljkmjoaaGreat
open Go.RowKit
theorem J4 : ∀ (l : List Int) (j : Nat) (v : Int),j<l.length→ (l.set j v).sum=l.sum - l.getD j 0+v
 | [],j,v,h=>by simp at h
 |a::l,0,v,_=>by simp;omega
 |a::l,j+1,v,h=>by
  have ih:=J4 l j v (by simpa using h);simp only [List.set_cons_succ,List.sum_cons,List.getD_cons_succ];omega
theorem J5 (x : Base) : ∀k : Nat, (nV x k).sum= (k : Int)
 |0=>rfl
 |k+1=>by
  obtain⟨j,hj,e⟩ :=BQ x (k : Int);rw [BR e,J4 _ _ _ (by rw [uM];exact hj),J5 x k];omega
theorem GD (x : Base) : (mW x).sum=if gT x=true then 24 else 0:=by
 unfold mW;split
 ·exact J5 x 24
 ·rfl
theorem GH (l : List Int)(j i : Nat)(v : Int)(hj : j<l.length) : (l.set j v).getD i 0=if i=j then v else l.getD i 0:=by
 by_cases e : i=j
 ·subst e
  rw [if_pos rfl,List.getD,X9 hj];rfl
 ·rw [if_neg e,List.getD,List.getElem?_set_ne (fun h=>e h.symm), ←List.getD]
theorem EU {x : Base}(hok : gT x=true) : ∀k : Nat, ((mH x k).length : Int) = (nV x k).getD 3 0+ (nV x k).getD 4 0
 |0=>rfl
 |k+1=>by
  have ih:=EU hok k;obtain⟨j,hj,e⟩ :=BQ x (k : Int);have hw:=Gz hok (k : Int);rw [BR e,GH _ _ _ _ (by rw [uM];exact hj),GH _ _ _ _ (by rw [uM];exact hj)];by_cases c : 3≤nL x (k : Int)
  ·rw [BL c,XU,List.length_singleton]
   have : j=3∨j=4:=by omega
   rcases this with rfl|rfl
   ·rw [if_pos rfl,if_neg (by omega)];push_cast;omega
   ·rw [if_neg (by omega),if_pos rfl];push_cast;omega
  ·rw [DK c]
   rw [if_neg (by omega),if_neg (by omega)];exact ih
theorem J6 {x : Base}(hok : gT x=true) : ((mg x).length : Int) = (mW x).getD 3 0+ (mW x).getD 4 0:=by
 unfold mg mW;rw [if_pos hok];exact EU hok 24
theorem KU {x : Base}(h : gT x=false) : mg x= []:=zI h 24
def BS (a b : Span) : Prop:=a.To≤a.From∨b.To≤b.From∨a.To≤b.From∨b.To≤a.From
theorem GI {s c : Int}(h : 0≤gP s c) : gP s c=s / 4 * 64+8+s%4 * d_ c∧ (0≤s∧s≤23) ∧ (0≤c∧c≤2) ∧s%4<bS c:=by
 unfold gP at h⊢;split at h
 ·next k=>rw [if_pos k];exact⟨rfl,bH.1 k.1,bH.1 k.2.1,k.2.2⟩
 ·omega
theorem MZ {h : Heap}{a b : Int}(hp : a / 4=b / 4)(ha : 0≤aG h a)(hb : 0≤aG h b) : aG h a=aG h b:=by
 rcases lT h a with ⟨e,_⟩ | ⟨e,_⟩
 ·omega
 rcases lT h b with ⟨f,_⟩ | ⟨f,_⟩
 ·omega
 rw [e,f];unfold mY;rw [hp]
theorem Ou (x : Base){a b : Nat}(hab : a≠b) : BS (wL x (a : Int)) (wL x (b : Int)) :=by
 unfold BS wL;simp only;rcases sV (a : Int) (aG x.Mem.E a) with ⟨_,h1,h2⟩ | ⟨a1,a2,a3,_⟩
 ·exact Or.inl (by omega)
 rcases sV (b : Int) (aG x.Mem.E b) with ⟨_,h1,h2⟩ | ⟨b1,b2,b3,_⟩
 ·exact Or.inr (Or.inl (by omega))
 rcases pF (a : Int) (aG x.Mem.E a) with ⟨_,h1⟩ | ⟨ga,_,sa⟩
 ·omega
 rcases pF (b : Int) (aG x.Mem.E b) with ⟨_,h1⟩ | ⟨gb,_,sb⟩
 ·omega
 obtain⟨va,_,ca,pa⟩ :=GI (show 0≤gP (a : Int) (aG x.Mem.E a) by omega);obtain⟨vb,_,cb,pb⟩ :=GI (show 0≤gP (b : Int) (aG x.Mem.E b) by omega);have hcl:=fun hp : (a : Int) / 4= (b : Int) / 4=>MZ (h:=x.Mem.E) hp ca.1 cb.1
 right;right;rw [a2,a3,b2,b3,sa,sb,va,vb];clear a1 a2 a3 b1 b2 b3 sa sb va vb ga gb;generalize aG x.Mem.E a=c1 at *
 generalize aG x.Mem.E b=c2 at *
 have k1 : c1=0∨c1=1∨c1=2:=by omega
 have k2 : c2=0∨c2=1∨c2=2:=by omega
 have hd : (a<b∧ (a : Int) / 4≤ (b : Int) / 4) ∨ (b<a∧ (b : Int) / 4≤ (a : Int) / 4) :=by
  rcases Nat.lt_or_gt_of_ne hab with h|h
  ·exact Or.inl ⟨h,Int.ediv_le_ediv (by decide) (by omega)⟩
  ·exact Or.inr ⟨h,Int.ediv_le_ediv (by decide) (by omega)⟩
 have hq : (a : Int) / 4= (b : Int) / 4∨ (a : Int) / 4+1≤ (b : Int) / 4∨ (b : Int) / 4+1≤ (a : Int) / 4:=by omega
 rcases hq with hq|hq|hq<;>rcases k1 with rfl|rfl|rfl<;>rcases k2 with rfl|rfl|rfl<;>simp [d_,iA,bS] at pa pb hcl⊢ <;>omega
theorem xV (x : Base)(o : Span) : ∀k,o∈mH x k→ ∃i : Nat,i<k∧o=wL x (i : Int)
 |0,h=>by simp [mH] at h
 |k+1,h=>by
  unfold mH at h;split at h
  ·rw [XT,List.mem_singleton] at h
   rcases h with h|h
   ·obtain⟨i,hi,e⟩ :=xV x o k h
    exact⟨i,by omega,e⟩
   ·exact⟨k,by omega,h⟩
  ·obtain⟨i,hi,e⟩ :=xV x o k h
   exact⟨i,by omega,e⟩
theorem zJ (x : Base) : ∀k, (mH x k).Pairwise BS
 |0=>List.Pairwise.nil
 |k+1=>by
  unfold mH;split
  ·rw [List.pairwise_append]
   refine⟨zJ x k,List.pairwise_singleton _ _,fun a ha b hb=> ?_⟩;obtain⟨i,hi,rfl⟩ :=xV x a k ha;rw [List.mem_singleton] at hb;subst hb;exact Ou x (by omega)
  ·exact zJ x k
theorem Qm (x : Base)(o : Span)(h : o∈mg x) : 0≤o.From∧o.To≤384:=by
 obtain⟨i,_,rfl⟩ :=xV x o 24 h;unfold wL;simp only;rcases sV (i : Int) (aG x.Mem.E i) with ⟨_,h1,h2⟩ | ⟨a1,a2,a3,a4⟩ <;>omega
def rO {α : Type}(T : FT α)(e : TypeId)(w : World)(v : Value)(l : List α) : Prop:=
 ∃ (v0 : Value) (r : List α),aX T e w v0 (l++r) ∧ ((v=v0∧r= []) ∨ ∃g n c c0,v0= .slice (some ⟨g,0,none⟩) n c0∧v= .slice (some ⟨g,0,none⟩) l.length c∧l.length≤c∧c≤c0)
theorem ze {α : Type}{v v0 : Value}{l r : List α}(h : (v=v0∧r= []) ∨ ∃g n c c0,v0= .slice (some ⟨g,0,none⟩) n c0∧v= .slice (some ⟨g,0,none⟩) l.length c∧l.length≤c∧c≤c0) : v.ownBlock=v0.ownBlock:=by
 rcases h with ⟨rfl,_⟩ | ⟨g,n,c,c0,rfl,rfl,_,_⟩ <;>rfl
theorem rO.keep {α : Type}{T : FT α}{e : TypeId}{w w' : World}{v : Value}{l : List α}(h : rO T e w v l)(hk : ∀g,v.ownBlock=some g→w'.heap[g]? =w.heap[g]?) : rO T e w' v l:=by
 obtain⟨v0,r,ho,hd⟩ :=h;exact⟨v0,r,ho.keep (fun g hg=>hk g (by rw [ze hd];exact hg)),hd⟩
theorem rO.lt {α : Type}{T : FT α}{e : TypeId}{w : World}{v : Value}{l : List α}(h : rO T e w v l) : ∀g∈bq v,g<w.heap.size:=by
 obtain⟨v0,r,ho,hd⟩ :=h;intro g hg;exact dQ ho g (aS.2 (by rw [←ze hd];exact aS.1 hg))
theorem rO.aM {α : Type}{T : FT α}{e : TypeId}{w w' : World}{v : Value}{l : List α}{F : List Nat}(h : rO T e w v l)(hc : bn F w w')(hd : ∀g∈bq v,g∉F) : rO T e w' v l:=
 h.keep fun g hg=>hc.block g (h.lt g (aS.2 hg)) (hd g (aS.2 hg))
theorem rO.form {α : Type}{T : FT α}{e : TypeId}{w : World}{v : Value}{l : List α}(h : rO T e w v l) : (v= .slice none 0 0∧l= []) ∨ ∃g cap,v= .slice (some ⟨g,0,none⟩) l.length cap∧g<w.heap.size∧l.length≤cap∧cap≤maxLen:=by
 obtain⟨v0,r,ho,hd⟩ :=h;rcases hd with ⟨rfl,rfl⟩ | ⟨g,n,c,c0,rfl,rfl,h1,h2⟩
 ·rw [List.append_nil] at ho
  exact ho.form
 ·rcases ho.form with ⟨h,_⟩ | ⟨g',cap',hv,hg,hl,hm⟩
  ·cases h
  ·injection hv with e1 e2 e3
   injection e1 with e1;injection e1 with e1;subst e1;exact .inr ⟨g,c,rfl,hg,h1,by omega⟩
theorem rO.cell_ {α : Type}{T : FT α}{e : TypeId}{w : World}{g n c : Nat}{l : List α}(h : rO T e w (.slice (some ⟨g,0,none⟩) n c) l){k j : Nat}{x : α}(hx : l[k]? =some x)(hj : j<T.n) : w.cell? ⟨g,k * T.n+j,none⟩ = (T.enc x)[j]? :=by
 obtain⟨v0,r,ho,hd⟩ :=h;have hx' : (l++r)[k]? =some x:=by rw [List.getElem?_append_left (XW.1 hx).1];exact hx
 rcases hd with ⟨rfl,rfl⟩ | ⟨g',n',c',c0,rfl,hv,h1,h2⟩
 ·exact ho.cell_ hx' hj
 ·injection hv with e1 e2 e3
  injection e1 with e1;injection e1 with e1;subst e1;exact ho.cell_ hx' hj
theorem rO.dM {α : Type}{T : FT α}{e : TypeId}{w : World}{g n c : Nat}{l : List α}(h : rO T e w (.slice (some ⟨g,0,none⟩) n c) l)(j : Nat) : w.frozen? ⟨g,j,none⟩ =false:=by
 obtain⟨v0,r,ho,hd⟩ :=h;rcases hd with ⟨rfl,rfl⟩ | ⟨g',n',c',c0,rfl,hv,h1,h2⟩
 ·exact ho.dM j
 ·injection hv with e1 e2 e3
  injection e1 with e1;injection e1 with e1;subst e1;exact ho.dM j
theorem rO.dG {α : Type}{T : FT α}{e : TypeId}{w : World}{g n c : Nat}{l : List α}(h : rO T e w (.slice (some ⟨g,0,none⟩) n c) l){k j : Nat}{x y : α}{u : Value}(hx : l[k]? =some x)(hj : j<T.n)(hy : T.enc y= (T.enc x).set j u) :
  rO T e (w.setCell ⟨g,k * T.n+j,none⟩ u) (.slice (some ⟨g,0,none⟩) n c) (l.set k y) :=by
 obtain⟨v0,r,ho,hd⟩ :=h;have hk:= (XW.1 hx).1;have hx' : (l++r)[k]? =some x:=by rw [List.getElem?_append_left hk];exact hx
 rcases hd with ⟨rfl,rfl⟩ | ⟨g',n',c',c0,rfl,hv,h1,h2⟩
 ·refine⟨_, [], ?_, .inl ⟨rfl,rfl⟩⟩
  have:=ho.dG hx' hj hy
  rwa [List.append_nil] at this⊢
 ·injection hv with e1 e2 e3
  injection e1 with e1;injection e1 with e1;subst e1 e2 e3;refine⟨_,r, ?_, .inr ⟨g,n',c,c0,rfl,by rw [X8],by rw [X8];exact h1,h2⟩⟩;have:=ho.dG hx' hj hy
  rwa [List.set_append_left _ _ hk] at this
theorem rO.rd {α : Type}{T : FT α}{e : TypeId}{w : World}{B : Nat}{v : Value}{l : List α}(h : rO T e w v l)(hB : ∀g∈bq v,g<B) : dX T w B v l:=by
 obtain⟨v0,r,ho,hd⟩ :=h;have hr:=ho.rd (B:=B) (fun g hg=>hB g (aS.2 (by rw [ze hd];exact hg)));rcases hd with ⟨rfl,rfl⟩ | ⟨g,n,c,c0,rfl,rfl,h1,h2⟩
 ·rwa [List.append_nil] at hr
 ·obtain⟨A,cap,hv,q1,q2,q3⟩ :=hr
  injection hv with e1 e2 e3;subst e1 e2 e3;refine⟨_,c,rfl,h1,by omega,fun hne=> ?_⟩;obtain⟨g',off,hA,hg,hc⟩ :=q3 (by intro hh;exact hne (List.append_eq_nil_iff.1 hh).1);refine⟨g',off,hA,hg,fun j u hu=>hc j u ?_⟩;rw [rV,List.getElem?_append_left (XW.1 hu).1];exact hu
theorem rO.rd' {α : Type}{T : FT α}{e : TypeId}{w : World}{v : Value}{l : List α}(h : rO T e w v l) : dX T w w.heap.size v l:=h.rd h.lt
structure qJ {α : Type}(T : FT α)(e E : TypeId)(w : World)(v : Value)(eU : List SV)(ll : List (List α)) : Prop where
 len : eU.length=ll.length
 outer : aX FS E w v eU
 inner : ∀ (k : Nat) (s : SV) (l : List α),eU[k]? =some s→ll[k]? =some l→rO T e w s.val l
 nodup : (bT v eU).Nodup
theorem qJ.lt {α : Type}{T : FT α}{e E : TypeId}{w : World}{v : Value}{eU : List SV}{ll : List (List α)}(h : qJ T e E w v eU ll) : ∀g∈bT v eU,g<w.heap.size:=by
 intro g hg;rcases dw.1 hg with hg| ⟨s,hs,hg⟩
 ·exact dQ h.outer g (aS.2 hg)
 ·obtain⟨k,hk,rfl⟩ :=List.mem_iff_getElem.1 hs
  exact(h.inner k _ _ (XL hk) (XL (by rw [←h.len];exact hk))).lt g (aS.2 hg)
theorem qJ.keep {α : Type}{T : FT α}{e E : TypeId}{w w' : World}{v : Value}{eU : List SV}{ll : List (List α)}(h : qJ T e E w v eU ll)(hk : ∀g∈bT v eU,w'.heap[g]? =w.heap[g]?) : qJ T e E w' v eU ll:=
 ⟨h.len,h.outer.keep (fun g hg=>hk g (dw.2 (.inl hg))),fun k s l a b=> (h.inner k s l a b).keep (fun g hg=>hk g (dw.2 (.inr ⟨s,XV a,hg⟩))),h.nodup⟩
theorem qJ.aM {α : Type}{T : FT α}{e E : TypeId}{w w' : World}{v : Value}{eU : List SV}{ll : List (List α)}{F : List Nat}(h : qJ T e E w v eU ll)(hc : bn F w w')(hd : ∀g∈bT v eU,g∉F) : qJ T e E w' v eU ll:=
 h.keep fun g hg=>hc.block g (h.lt g hg) (hd g hg)
theorem qJ.rd {α : Type}{T : FT α}{e E : TypeId}{w : World}{B : Nat}{v : Value}{eU : List SV}{ll : List (List α)}(h : qJ T e E w v eU ll)(hB : ∀g∈bT v eU,g<B) : ig T w B v eU ll:=
 ⟨h.len,h.outer.rd (fun g hg=>hB g (dw.2 (.inl hg))),fun k s l a b=> (h.inner k s l a b).rd (fun g hg=>hB g (dw.2 (.inr ⟨s,XV a,aS.1 hg⟩)))⟩
theorem qJ.rd' {α : Type}{T : FT α}{e E : TypeId}{w : World}{v : Value}{eU : List SV}{ll : List (List α)}(h : qJ T e E w v eU ll) : ig T w w.heap.size v eU ll:=h.rd h.lt
structure jP (w : World)(H : bF)(x : Lists) : Prop where
 G : qJ FI 3 94 w H.G.val H.mM x.G
 O : qJ FI 3 94 w H.O.val H.qQ x.O
 jy : ∀g∈bT H.G.val H.mM,g∉bT H.O.val H.qQ
theorem jP.lt {w : World}{H : bF}{x : Lists}(h : jP w H x) : ∀g∈H.foot,g<w.heap.size:=by
 intro g hg;rcases bF.aI.1 hg with hg|hg
 ·exact h.G.lt g hg
 ·exact h.O.lt g hg
theorem jP.keep {w w' : World}{H : bF}{x : Lists}(h : jP w H x)(hk : ∀g∈H.foot,w'.heap[g]? =w.heap[g]?) : jP w' H x:=
 ⟨h.G.keep (fun g hg=>hk g (bF.aI.2 (.inl hg))),h.O.keep (fun g hg=>hk g (bF.aI.2 (.inr hg))),h.jy⟩
theorem jP.aM {w w' : World}{H : bF}{x : Lists}{F : List Nat}(h : jP w H x)(hc : bn F w w')(hd : ∀g∈H.foot,g∉F) : jP w' H x:=h.keep fun g hg=>hc.block g (h.lt g hg) (hd g hg)
theorem jP.rd {w : World}{B : Nat}{H : bF}{x : Lists}(h : jP w H x)(hB : ∀g∈H.foot,g<B) : jC w B H x:=
 ⟨h.G.rd (fun g hg=>hB g (bF.aI.2 (.inl hg))),h.O.rd (fun g hg=>hB g (bF.aI.2 (.inr hg)))⟩
theorem jP.rd' {w : World}{H : bF}{x : Lists}(h : jP w H x) : jC w w.heap.size H x:=h.rd h.lt
structure mD (w : World)(H : bV)(x : Mem) : Prop where
 E : fM w H.E x.E
 I : jP w H.I x.I
 jy : ∀g∈H.E.foot,g∉H.I.foot
theorem mD.lt {w : World}{H : bV}{x : Mem}(h : mD w H x) : ∀g∈H.foot,g<w.heap.size:=by
 intro g hg;rcases bV.aI.1 hg with hg|hg
 ·exact h.E.lt g hg
 ·exact h.I.lt g hg
theorem mD.keep {w w' : World}{H : bV}{x : Mem}(h : mD w H x)(hk : ∀g∈H.foot,w'.heap[g]? =w.heap[g]?) : mD w' H x:=
 ⟨h.E.keep (fun g hg=>hk g (bV.aI.2 (.inl hg))),h.I.keep (fun g hg=>hk g (bV.aI.2 (.inr hg))),h.jy⟩
theorem mD.aM {w w' : World}{H : bV}{x : Mem}{F : List Nat}(h : mD w H x)(hc : bn F w w')(hd : ∀g∈H.foot,g∉F) : mD w' H x:=h.keep fun g hg=>hc.block g (h.lt g hg) (hd g hg)
theorem mD.rd {w : World}{B : Nat}{H : bV}{x : Mem}(h : mD w H x)(hB : ∀g∈H.foot,g<B) : jN w B H x:=
 ⟨h.E.rd (fun g hg=>hB g (bV.aI.2 (.inl hg))),h.I.rd (fun g hg=>hB g (bV.aI.2 (.inr hg)))⟩
theorem mD.rd' {w : World}{H : bV}{x : Mem}(h : mD w H x) : jN w w.heap.size H x:=h.rd h.lt
theorem jP.av {w : World}{H : bF}{x : Lists}(h : jP w H x)(o : Obj) : jP (w.alloc o) H x:=h.keep fun g hg=>Below.heap_alloc w o g (h.lt g hg)
theorem jP.step {w w' : World}{o : Obj}{H : bF}{x : Lists}(h : jP w H x)(hb : Below (w.alloc o).heap.size (w.alloc o) w') : jP w' H x:= (h.av o).keep (fun g hg=>hb.block g ((h.av o).lt g hg))
theorem jP.step0 {w w' : World}{H : bF}{x : Lists}(h : jP w H x)(hb : Below w.heap.size w w') : jP w' H x:=h.keep (fun g hg=>hb.block g (h.lt g hg))
theorem mD.av {w : World}{H : bV}{x : Mem}(h : mD w H x)(o : Obj) : mD (w.alloc o) H x:=h.keep fun g hg=>Below.heap_alloc w o g (h.lt g hg)
theorem mD.step {w w' : World}{o : Obj}{H : bV}{x : Mem}(h : mD w H x)(hb : Below (w.alloc o).heap.size (w.alloc o) w') : mD w' H x:= (h.av o).keep (fun g hg=>hb.block g ((h.av o).lt g hg))
theorem mD.step0 {w w' : World}{H : bV}{x : Mem}(h : mD w H x)(hb : Below w.heap.size w w') : mD w' H x:=h.keep (fun g hg=>hb.block g (h.lt g hg))
theorem zW (n k : Int)(w : World)(hn : dV n) : Calls Tryz.prog 85 #[.int .i64 n, .int .i64 k] w fun e w'=> ∃t : ByteArray,e= .returned (.string t) ∧t.toList.isEmpty= (!rE n k) ∧Below w.heap.size w w':=by
 by_cases h1 : bG 1 7 k=true
 case neg=>
  have h1':= (XM _).mp h1;refine(AQ n k w (.inl h1')).mono ?_;rintro e w' ⟨rfl,rfl⟩;exact⟨_,rfl,by unfold rE;rw [h1',tY];rfl,Below.refl _ _⟩
 by_cases h0 : 0≤n
 case neg=>
  refine(AQ n k w (.inr (by omega))).mono ?_;rintro e w' ⟨rfl,rfl⟩;exact⟨_,rfl,by unfold rE;rw [h1,decide_eq_false h0,tY];rfl,Below.refl _ _⟩
 obtain⟨a,b⟩ :=bH.1 h1;obtain⟨K,rfl⟩ : ∃K : Nat,k= (K : Int) := ⟨k.toNat,by omega⟩;refine(IJ n K w (by omega) (by omega) h0 hn.2).mono ?_;rintro e w' ⟨⟨t,rfl,ht⟩,hb⟩;exact⟨t,rfl,by rw [ht];unfold rE;rw [h1,decide_eq_true h0,X6];rfl,hb⟩
theorem ED (n k : Int)(w : World)(hn : dV n)(hf : rE n k=false) : Calls Tryz.prog 85 #[.int .i64 n, .int .i64 k] w fun e w'=> ∃t : ByteArray,e= .returned (.string t) ∧t.toList.isEmpty=true∧Below w.heap.size w w':=
 (zW n k w hn).mono fun _ _ ⟨t,a,b,c⟩ => ⟨t,a,by rw [b,hf];rfl,c⟩
theorem FD (n k : Int)(w : World)(hn : dV n)(hf : rE n k=true) : Calls Tryz.prog 85 #[.int .i64 n, .int .i64 k] w fun e w'=> ∃t : ByteArray,e= .returned (.string t) ∧t.toList.isEmpty=false∧Below w.heap.size w w':=
 (zW n k w hn).mono fun _ _ ⟨t,a,b,c⟩ => ⟨t,a,by rw [b,hf];rfl,c⟩
theorem Bz (w : World)(H : bV)(x : Mem)(s a k n : Int)(h : jN w w.heap.size H x)(hs : eF x≤536870912)(hn : dV n) :
  Calls Tryz.prog 25 #[.agg #[.slice H.E.Y.a H.E.Y.l H.E.Y.c, .slice H.E.Z.a H.E.Z.l H.E.Z.c, .slice H.I.G.a H.I.G.l H.I.G.c, .slice H.I.O.a H.I.O.l H.I.O.c], .int .i64 s, .int .i64 a, .int .i64 k, .int .i64 n] w fun e w'=> ∃H' : bV,e= .returned (.tuple #[.agg #[.slice H'.E.Y.a H'.E.Y.l H'.E.Y.c, .slice H'.E.Z.a H'.E.Z.l H'.E.Z.c, .slice H'.I.G.a H'.I.G.l H'.I.G.c, .slice H'.I.O.a H'.I.O.l H'.I.O.c], .int .i64 (jE x s a k n).2]) ∧fq w' H' (jE x s a k n).1∧ (∀g∈H'.foot,w.heap.size≤g) ∧Below w.heap.size w w':=by
 have hsp:=fun (W : World) (hW : Below w.heap.size w W) =>Kn W H x s a k (gu h hW) (by unfold eF bX at hs;omega) (by unfold eF bX at hs;omega);by_cases c1 : (jT x s a k).2=0
 case neg=>
  have HV:=Hid.aD (AU (n:=n) c1);have c1' : ((jT x s a k).2 != 0) =true:=by simpa using c1
  clear c1;generalize (jT x s a k).2=c at *
  generalize (jT x s a k).1=p at *
  obtain⟨w0,hW0⟩ : ∃x,x= ((w.alloc (.cells #[.slice H.E.Y.a H.E.Y.l H.E.Y.c, .slice H.E.Z.a H.E.Z.l H.E.Z.c, .slice H.I.G.a H.I.G.l H.I.G.c, .slice H.I.O.a H.I.O.l H.I.O.c] 31)).alloc (.cells #[.slice none 0 0, .slice none 0 0, .slice none 0 0, .slice none 0 0] 31)) := ⟨_,rfl⟩;have ah : aJ w0 (w.heap.size) [.slice H.E.Y.a H.E.Y.l H.E.Y.c, .slice H.E.Z.a H.E.Z.l H.E.Z.c, .slice H.I.G.a H.I.G.l H.I.G.c, .slice H.I.O.a H.I.O.l H.I.O.c]:=by
   rw [hW0];exact aJ.alloc aJ.nw _
  have aj : aJ w0 (w.heap.size+1) [.slice none 0 0, .slice none 0 0, .slice none 0 0, .slice none 0 0]:=by
   rw [hW0];exact aJ.nw
  have hB : Below w.heap.size w w0:=by
   rw [hW0];exact cO
  go_enter Tryz.func25,Tryz.ntmps25;go_wp2_with fail;rw [←hW0];clear hW0;have jA:=ah.lt;have kL:=aj.lt;obtain⟨aL,aN,bC,bD,aT,bE⟩ :=ah.f4;obtain⟨ak,au,aV,aW,aH,aR⟩ :=aj.f4;refine(lN _ H x (gu h hB) hs).mono ?_;rintro e w1 ⟨aF,rfl,bB,l_c,hb⟩;have u_c:=bB.lt;replace ah:=ah.below hb;replace aj:=aj.below hb;replace hB:=hB.trans (hb.mono hB.size);have sz:=hb.size;clear hb;clear aL aN bC bD aT bE;obtain⟨aL,aN,bC,bD,aT,bE⟩ :=ah.f4;clear ak au aV aW aH aR;obtain⟨ak,au,aV,aW,aH,aR⟩ :=aj.f4;go_wp2_with fail;refine(hsp _ (hB.alloc hB.size _)).mono ?_;rintro e w2 ⟨rfl,hb⟩;replace ah:= (ah.alloc _).below hb;replace aj:= (aj.alloc _).below hb;have bB:=bB.step hb;replace hB:=y8 hB hb hB.size;have sz:=hb.size;simp only [World.size_alloc] at sz;have bJ:= (aJ.new w1 #[.slice aF.E.Y.a aF.E.Y.l aF.E.Y.c, .slice aF.E.Z.a aF.E.Z.l aF.E.Z.c, .slice aF.I.G.a aF.I.G.l aF.I.G.c, .slice aF.I.O.a aF.I.O.l aF.I.O.c] 31).below hb;have jG:=bJ.lt;clear hb;clear aL aN bC bD aT bE;obtain⟨aL,aN,bC,bD,aT,bE⟩ :=ah.f4;clear ak au aV aW aH aR;obtain⟨ak,au,aV,aW,aH,aR⟩ :=aj.f4;obtain⟨bO,bQ,eu,eD,dn,dW⟩ :=bJ.f4;clear hsp;go_wp2_with fail;refine bodyPost_ret (v:= .tuple #[.agg #[.slice aF.E.Y.a aF.E.Y.l aF.E.Y.c, .slice aF.E.Z.a aF.E.Z.l aF.E.Z.c, .slice aF.I.G.a aF.I.G.l aF.I.G.c, .slice aF.I.O.a aF.I.O.l aF.I.O.c], .int .i64 c]) (by simp [results,Tryz.results25,go_sem,ak,au,aV,aW]) rfl ⟨aF,by rw [HV.out],by rw [HV.out];exact bB.aM (F:= [w.heap.size+1]) (by repeat (first|exact bn.refl _ _|refine bn.dG ?_ (by simp) _|refine bn.av ?_ _|refine bn.aY ?_)) (fun g hg hm=>by simp only [Pe,Pd,XK] at hm;have:=l_c g hg;have:=u_c g hg;omega),fun g hg=>by have:=l_c g hg;omega,Below.trans hB (by repeat (first|exact Below.refl _ _|refine Below.setCell ?_ (by simp<;>omega) _|refine Below.alloc ?_ (by simp<;>omega) _|refine Below.drew ?_))⟩
 obtain⟨z1,z2,z3,z4,z5,z6,z7,z8⟩ :=FZ c1;have xP:=Hid.aD (nG z1);have hbl : x.E.Y.length=384:= (jr xP.out).bl;by_cases c2 : rE n k=true
 case neg=>
  have c2':= (XM _).mp c2;have HV:=Hid.aD (F7 c1 c2');have hq:=fun W=>ED n k W hn c2';rw [c1] at hsp;clear c1 c2 c2' z1 z4 z5 z6 z7 z8 hbl;generalize (jT x s a k).1=p at *
  obtain⟨w0,hW0⟩ : ∃x,x= ((w.alloc (.cells #[.slice H.E.Y.a H.E.Y.l H.E.Y.c, .slice H.E.Z.a H.E.Z.l H.E.Z.c, .slice H.I.G.a H.I.G.l H.I.G.c, .slice H.I.O.a H.I.O.l H.I.O.c] 31)).alloc (.cells #[.slice none 0 0, .slice none 0 0, .slice none 0 0, .slice none 0 0] 31)) := ⟨_,rfl⟩;have ah : aJ w0 (w.heap.size) [.slice H.E.Y.a H.E.Y.l H.E.Y.c, .slice H.E.Z.a H.E.Z.l H.E.Z.c, .slice H.I.G.a H.I.G.l H.I.G.c, .slice H.I.O.a H.I.O.l H.I.O.c]:=by
   rw [hW0];exact aJ.alloc aJ.nw _
  have aj : aJ w0 (w.heap.size+1) [.slice none 0 0, .slice none 0 0, .slice none 0 0, .slice none 0 0]:=by
   rw [hW0];exact aJ.nw
  have hB : Below w.heap.size w w0:=by
   rw [hW0];exact cO
  go_enter Tryz.func25,Tryz.ntmps25;go_wp2_with fail;rw [←hW0];clear hW0;have jA:=ah.lt;have kL:=aj.lt;obtain⟨aL,aN,bC,bD,aT,bE⟩ :=ah.f4;obtain⟨ak,au,aV,aW,aH,aR⟩ :=aj.f4;refine(lN _ H x (gu h hB) hs).mono ?_;rintro e w1 ⟨aF,rfl,bB,l_c,hb⟩;have u_c:=bB.lt;replace ah:=ah.below hb;replace aj:=aj.below hb;replace hB:=hB.trans (hb.mono hB.size);have sz:=hb.size;clear hb;clear aL aN bC bD aT bE;obtain⟨aL,aN,bC,bD,aT,bE⟩ :=ah.f4;clear ak au aV aW aH aR;obtain⟨ak,au,aV,aW,aH,aR⟩ :=aj.f4;go_wp2_with fail;refine(hsp _ (hB.alloc hB.size _)).mono ?_;rintro e w2 ⟨rfl,hb⟩;replace ah:= (ah.alloc _).below hb;replace aj:= (aj.alloc _).below hb;have bB:=bB.step hb;replace hB:=y8 hB hb hB.size;have sz:=hb.size;simp only [World.size_alloc] at sz;have bJ:= (aJ.new w1 #[.slice aF.E.Y.a aF.E.Y.l aF.E.Y.c, .slice aF.E.Z.a aF.E.Z.l aF.E.Z.c, .slice aF.I.G.a aF.I.G.l aF.I.G.c, .slice aF.I.O.a aF.I.O.l aF.I.O.c] 31).below hb;have jG:=bJ.lt;clear hb;clear aL aN bC bD aT bE;obtain⟨aL,aN,bC,bD,aT,bE⟩ :=ah.f4;clear ak au aV aW aH aR;obtain⟨ak,au,aV,aW,aH,aR⟩ :=aj.f4;obtain⟨bO,bQ,eu,eD,dn,dW⟩ :=bJ.f4;clear hsp;go_wp2_with fail;refine(hq _).mono ?_;rintro e w3 ⟨t,rfl,ht,hb⟩;replace ah:=ah.below hb;replace aj:=aj.below hb;replace bJ:=bJ.below hb;replace bB:=bB.step0 hb;replace hB:=hB.trans (hb.mono hB.size);have sz:=hb.size;clear hb;clear aL aN bC bD aT bE;obtain⟨aL,aN,bC,bD,aT,bE⟩ :=ah.f4;clear ak au aV aW aH aR;obtain⟨ak,au,aV,aW,aH,aR⟩ :=aj.f4;clear bO bQ eu eD dn dW;obtain⟨bO,bQ,eu,eD,dn,dW⟩ :=bJ.f4;clear hq;go_wp2_with fail;refine bodyPost_ret (v:= .tuple #[.agg #[.slice aF.E.Y.a aF.E.Y.l aF.E.Y.c, .slice aF.E.Z.a aF.E.Z.l aF.E.Z.c, .slice aF.I.G.a aF.I.G.l aF.I.G.c, .slice aF.I.O.a aF.I.O.l aF.I.O.c], .int .i64 1]) (by simp [results,Tryz.results25,go_sem,ak,au,aV,aW]) rfl ⟨aF,by rw [HV.out],by rw [HV.out];exact bB.aM (F:= [w.heap.size+1]) (by repeat (first|exact bn.refl _ _|refine bn.dG ?_ (by simp) _|refine bn.av ?_ _|refine bn.aY ?_)) (fun g hg hm=>by simp only [Pe,Pd,XK] at hm;have:=l_c g hg;have:=u_c g hg;omega),fun g hg=>by have:=l_c g hg;omega,Below.trans hB (by repeat (first|exact Below.refl _ _|refine Below.setCell ?_ (by simp<;>omega) _|refine Below.alloc ?_ (by simp<;>omega) _|refine Below.drew ?_))⟩
 have HV:=Hid.aD (F8 c1 c2);obtain⟨y1,y2,y3,y4⟩ :=F3 c2;have hq:=fun W=>FD n k W hn c2;obtain⟨K,rfl⟩ : ∃K : Nat,k= (K : Int) := ⟨k.toNat,by omega⟩;rw [X6] at y4;obtain⟨P,hP⟩ : ∃P : Nat, (jT x s a K).1= (P : Int) := ⟨(jT x s a K).1.toNat,by omega⟩;have HP : Hid (jE x s a K n= ({x with E:= {x.E with Y:=putAt x.E.Y P (iZ K n)}},0)) :=by
  have:=HV.out;rw [hP] at this;unfold LV at this;rw [X6,X6] at this;exact this
 have h72:=Nk (K:=K) (by omega);have HA:=Hid.aD (show 1≤K∧K≤7∧0≤n∧n≤72057594037927936∧P+K≤x.E.Y.length from ⟨by omega,by omega,y3,by omega,by omega⟩);rw [c1,hP] at hsp;clear z1 z4 z5 z6 z7 z8 y3 y4 HV hbl hP c1 c2 y1 y2 h72;obtain⟨w0,hW0⟩ : ∃x,x= ((w.alloc (.cells #[.slice H.E.Y.a H.E.Y.l H.E.Y.c, .slice H.E.Z.a H.E.Z.l H.E.Z.c, .slice H.I.G.a H.I.G.l H.I.G.c, .slice H.I.O.a H.I.O.l H.I.O.c] 31)).alloc (.cells #[.slice none 0 0, .slice none 0 0, .slice none 0 0, .slice none 0 0] 31)) := ⟨_,rfl⟩;have ah : aJ w0 (w.heap.size) [.slice H.E.Y.a H.E.Y.l H.E.Y.c, .slice H.E.Z.a H.E.Z.l H.E.Z.c, .slice H.I.G.a H.I.G.l H.I.G.c, .slice H.I.O.a H.I.O.l H.I.O.c]:=by
  rw [hW0];exact aJ.alloc aJ.nw _
 have aj : aJ w0 (w.heap.size+1) [.slice none 0 0, .slice none 0 0, .slice none 0 0, .slice none 0 0]:=by
  rw [hW0];exact aJ.nw
 have hB : Below w.heap.size w w0:=by
  rw [hW0];exact cO
 go_enter Tryz.func25,Tryz.ntmps25;go_wp2_with fail;rw [←hW0];clear hW0;have jA:=ah.lt;have kL:=aj.lt;obtain⟨aL,aN,bC,bD,aT,bE⟩ :=ah.f4;obtain⟨ak,au,aV,aW,aH,aR⟩ :=aj.f4;refine(lN _ H x (gu h hB) hs).mono ?_;rintro e w1 ⟨aF,rfl,bB,l_c,hb⟩;have u_c:=bB.lt;replace ah:=ah.below hb;replace aj:=aj.below hb;replace hB:=hB.trans (hb.mono hB.size);have sz:=hb.size;clear hb;clear aL aN bC bD aT bE;obtain⟨aL,aN,bC,bD,aT,bE⟩ :=ah.f4;clear ak au aV aW aH aR;obtain⟨ak,au,aV,aW,aH,aR⟩ :=aj.f4;go_wp2_with fail;refine(hsp _ (hB.alloc hB.size _)).mono ?_;rintro e w2 ⟨rfl,hb⟩;replace ah:= (ah.alloc _).below hb;replace aj:= (aj.alloc _).below hb;have bB:=bB.step hb;replace hB:=y8 hB hb hB.size;have sz:=hb.size;simp only [World.size_alloc] at sz;have bJ:= (aJ.new w1 #[.slice aF.E.Y.a aF.E.Y.l aF.E.Y.c, .slice aF.E.Z.a aF.E.Z.l aF.E.Z.c, .slice aF.I.G.a aF.I.G.l aF.I.G.c, .slice aF.I.O.a aF.I.O.l aF.I.O.c] 31).below hb;have jG:=bJ.lt;clear hb;clear aL aN bC bD aT bE;obtain⟨aL,aN,bC,bD,aT,bE⟩ :=ah.f4;clear ak au aV aW aH aR;obtain⟨ak,au,aV,aW,aH,aR⟩ :=aj.f4;obtain⟨bO,bQ,eu,eD,dn,dW⟩ :=bJ.f4;clear hsp;go_wp2_with fail;refine(hq _).mono ?_;rintro e w3 ⟨t,rfl,ht,hb⟩;replace ah:=ah.below hb;replace aj:=aj.below hb;replace bJ:=bJ.below hb;replace bB:=bB.step0 hb;replace hB:=hB.trans (hb.mono hB.size);have sz:=hb.size;clear hb;clear aL aN bC bD aT bE;obtain⟨aL,aN,bC,bD,aT,bE⟩ :=ah.f4;clear ak au aV aW aH aR;obtain⟨ak,au,aV,aW,aH,aR⟩ :=aj.f4;clear bO bQ eu eD dn dW;obtain⟨bO,bQ,eu,eD,dn,dW⟩ :=bJ.f4;clear hq;go_wp2_with fail;refine(tX _ _ x.E.Y P K n (show aX FI 3 _ (.slice aF.E.Y.a aF.E.Y.l aF.E.Y.c) x.E.Y from bB.E.Y) HA.out.1 HA.out.2.1 HA.out.2.2.1 HA.out.2.2.2.1 HA.out.2.2.2.2).mono ?_;rintro e w4 ⟨rfl,hbN,hx⟩;replace hB:=hB.trans (hx.below hB.size (fun g hm=>by have:=l_c g (bV.jI hm);omega));have sz:=hx.size;replace ah:=ah.aM hx (fun hm=>by have:=l_c _ (bV.jI hm);have:=u_c _ (bV.jI hm);omega);replace aj:=aj.aM hx (fun hm=>by have:=l_c _ (bV.jI hm);have:=u_c _ (bV.jI hm);omega);replace bJ:=bJ.aM hx (fun hm=>by have:=l_c _ (bV.jI hm);have:=u_c _ (bV.jI hm);omega);replace bB:= (show fq _ aF {x with E:= {x.E with Y:=putAt x.E.Y P (iZ K n)}} from bB.setBytes hbN hx);clear hx;clear aL aN bC bD aT bE;obtain⟨aL,aN,bC,bD,aT,bE⟩ :=ah.f4;clear ak au aV aW aH aR;obtain⟨ak,au,aV,aW,aH,aR⟩ :=aj.f4;clear bO bQ eu eD dn dW;obtain⟨bO,bQ,eu,eD,dn,dW⟩ :=bJ.f4;go_wp2_with fail;refine bodyPost_ret (v:= .tuple #[.agg #[.slice aF.E.Y.a aF.E.Y.l aF.E.Y.c, .slice aF.E.Z.a aF.E.Z.l aF.E.Z.c, .slice aF.I.G.a aF.I.G.l aF.I.G.c, .slice aF.I.O.a aF.I.O.l aF.I.O.c], .int .i64 0]) (by simp [results,Tryz.results25,go_sem,ak,au,aV,aW]) rfl ⟨aF,by rw [HP.out],by rw [HP.out];exact bB.aM (F:= [w.heap.size+1,w1.heap.size]) (by repeat (first|exact bn.refl _ _|refine bn.dG ?_ (by simp) _|refine bn.av ?_ _|refine bn.aY ?_)) (fun g hg hm=>by simp only [Pe,Pd,XK] at hm;have:=l_c g hg;have:=u_c g hg;omega),fun g hg=>by have:=l_c g hg;omega,Below.trans hB (by repeat (first|exact Below.refl _ _|refine Below.setCell ?_ (by simp<;>omega) _|refine Below.alloc ?_ (by simp<;>omega) _|refine Below.drew ?_))⟩
theorem dB {g n c b : Nat} : b∈bq (.slice (some ⟨g,0,none⟩) n c) ↔b=g:=by simp [bq,Value.ownBlock,eq_comm]
theorem Nl {l : List Int}{x : Int}{p : Nat}(h : idxOf (fun y=>y == x) l= (p : Int)) : p<l.length:=by
 unfold idxOf at h;cases hx : l.findIdx? (fun y=>y == x) with
 |none=>rw [hx] at h;simp at h
 |some i=>
  rw [hx] at h;simp at h;obtain rfl : i=p:=by omega
  exact(List.findIdx?_eq_some_iff_getElem.1 hx).1
theorem Cq {c : Nat}(_hc : c<3) : ∃n : Nat,bS (c : Int) = (n : Int) ∧n≤4∧ (bS (c : Int)).toNat=n:=by
 have:=qj (c : Int);exact⟨(bS (c : Int)).toNat,by omega,by omega,rfl⟩
theorem sK (s g : Int)(w : World)(h1 : bG 0 23 s=true)(h2 : bG 1 6 g=true) : Calls Tryz.prog 41 #[.int .i64 s, .int .i64 g] w fun e w'=>e= .returned (.int .i64 (g * 32+s)) ∧w=w':=by
 obtain⟨a1,a2⟩ :=bH.1 h1;obtain⟨b1,b2⟩ :=bH.1 h2;go_enter Tryz.func41,Tryz.ntmps41;go_wp2_with (first| (go_at_call 102;refine(dH _ _ _ _).mono ?_; (first|rw [h1]|rw [h2]);rintro e w1 ⟨rfl,rfl⟩) | (go_at_call 120;refine(oI _ _).mono ?_;rw [h1];rintro e w1 ⟨rfl,rfl⟩));go_ret;exact⟨rfl,rfl⟩
theorem yE (n : Int) : (fG n= -1∧ (n<1∨40<n)) ∨ (fG n=0∧1≤n∧n≤8) ∨ (fG n=1∧8<n∧n≤16) ∨ (fG n=2∧16<n∧n≤40) :=by
 unfold fG
 repeat' split
 all_goals omega
theorem jl (n : Int)(w : World) : Calls Tryz.prog 101 #[.int .i64 n] w fun e w'=>e= .returned (.int .i64 (fG n)) ∧w=w':=by
 have hz:=fun (c : Int) W=>xX c W;have h0 : ∀W,Calls Tryz.prog 28 #[.int .i64 0] W fun e w'=>e= .returned (.int .i64 8) ∧W=w':=fun W=>hz 0 W;have h1 : ∀W,Calls Tryz.prog 28 #[.int .i64 1] W fun e w'=>e= .returned (.int .i64 16) ∧W=w':=fun W=>hz 1 W;have h2 : ∀W,Calls Tryz.prog 28 #[.int .i64 2] W fun e w'=>e= .returned (.int .i64 40) ∧W=w':=fun W=>hz 2 W;have HC:=Hid.aD (yE n);clear hz;go_enter Tryz.func101,Tryz.ntmps101;go_wp2_with fail
 go_loop [3] (fun i=> (i= .int .i64 0∧Hid (1≤n→0<n)) ∨ (i= .int .i64 1∧Hid (1≤n→8<n)) ∨ (i= .int .i64 2∧Hid (1≤n→16<n)) ∨ (i= .int .i64 3∧Hid (1≤n→40<n))) (fun i=>3 - (intOf i).toNat)
 case atStart=>exact Or.inl ⟨rfl,Hid.aD (fun h=>by omega)⟩
 case round=>
  rcases hrel with ⟨rfl,HN⟩ | ⟨rfl,HN⟩ | ⟨rfl,HN⟩ | ⟨rfl,HN⟩
  ·by_cases c1 : bG 1 8 n=true
   ·go_wp2_with (first| (go_at_call 28;refine(h0 _).mono ?_;rintro e w1 ⟨rfl,rfl⟩) | (go_at_call 102;refine(dH _ _ _ _).mono ?_;rw [c1];rintro e w1 ⟨rfl,rfl⟩))
    have hE : fG n=0:=by have:=HN.out;have:=bH.1 c1;rcases HC.out with h|h|h|h<;>omega
    go_ret;exact⟨by rw [hE];rfl,rfl⟩
   ·have hD : 1≤n→8<n:=by
     intro h;by_cases c2 : n≤8
     ·exact absurd (bH.2 ⟨h,c2⟩) c1
     ·omega
    replace c1:= (XM _).mp c1;replace hD:=Hid.aD hD;go_wp2_with (first| (go_at_call 28;refine(h0 _).mono ?_;rintro e w1 ⟨rfl,rfl⟩) | (go_at_call 102;refine(dH _ _ _ _).mono ?_;rw [c1];rintro e w1 ⟨rfl,rfl⟩))
    go_round
    ·exact Or.inr (Or.inl ⟨rfl,hD⟩)
    ·simp [intOf]
  ·by_cases c1 : bG 1 16 n=true
   ·go_wp2_with (first| (go_at_call 28;refine(h1 _).mono ?_;rintro e w1 ⟨rfl,rfl⟩) | (go_at_call 102;refine(dH _ _ _ _).mono ?_;rw [c1];rintro e w1 ⟨rfl,rfl⟩))
    have hE : fG n=1:=by have:=HN.out;have:=bH.1 c1;rcases HC.out with h|h|h|h<;>omega
    go_ret;exact⟨by rw [hE];rfl,rfl⟩
   ·have hD : 1≤n→16<n:=by
     intro h;by_cases c2 : n≤16
     ·exact absurd (bH.2 ⟨h,c2⟩) c1
     ·omega
    replace c1:= (XM _).mp c1;replace hD:=Hid.aD hD;go_wp2_with (first| (go_at_call 28;refine(h1 _).mono ?_;rintro e w1 ⟨rfl,rfl⟩) | (go_at_call 102;refine(dH _ _ _ _).mono ?_;rw [c1];rintro e w1 ⟨rfl,rfl⟩))
    go_round
    ·exact Or.inr (Or.inr (Or.inl ⟨rfl,hD⟩))
    ·simp [intOf]
  ·by_cases c1 : bG 1 40 n=true
   ·go_wp2_with (first| (go_at_call 28;refine(h2 _).mono ?_;rintro e w1 ⟨rfl,rfl⟩) | (go_at_call 102;refine(dH _ _ _ _).mono ?_;rw [c1];rintro e w1 ⟨rfl,rfl⟩))
    have hE : fG n=2:=by have:=HN.out;have:=bH.1 c1;rcases HC.out with h|h|h|h<;>omega
    go_ret;exact⟨by rw [hE];rfl,rfl⟩
   ·have hD : 1≤n→40<n:=by
     intro h;by_cases c2 : n≤40
     ·exact absurd (bH.2 ⟨h,c2⟩) c1
     ·omega
    replace c1:= (XM _).mp c1;replace hD:=Hid.aD hD;go_wp2_with (first| (go_at_call 28;refine(h2 _).mono ?_;rintro e w1 ⟨rfl,rfl⟩) | (go_at_call 102;refine(dH _ _ _ _).mono ?_;rw [c1];rintro e w1 ⟨rfl,rfl⟩))
    go_round
    ·exact Or.inr (Or.inr (Or.inr ⟨rfl,hD⟩))
    ·simp [intOf]
  ·go_wp2_with fail
   have hE : fG n= -1:=by have:=HN.out;rcases HC.out with h|h|h|h<;>omega
   go_ret;exact⟨by rw [hE];rfl,rfl⟩
end Go.Proofs.YtkmggglljkmjoaaGreat
