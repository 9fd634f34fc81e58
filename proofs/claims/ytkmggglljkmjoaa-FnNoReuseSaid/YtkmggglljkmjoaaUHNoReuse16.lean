/-
  Several texts in one: lemmas and contracts that the claim rests on.
-/
import Derived.Test.YtkmggglljkmjoaaUHNoReuse2
import Derived.Test.YtkmggglljkmjoaaUHNoReuse1
import Derived.Deep.QuietTactic
import Derived.BigQuiet
import Derived.Deep.LoopGhost
import Derived.Deep.RegionHeld3
import Derived.WalkSpells
import Derived.Laws.Cover3
import Derived.Test.YtkmggglljkmjoaaUHNoReuse12
import Derived.Test.YtkmggglljkmjoaaUHNoReuse13
import Derived.Test.YtkmggglljkmjoaaUHNoReuse14
namespace Go.Proofs.Ytkmggglljkmjoaa
open Go.RowKit
def jZ {α : Type}(T : FT α)(e : TypeId)(w : World)(v : Value)(l : List α) : Prop:=
 ∃ (v0 : Value) (r : List α),bF T e w v0 (l++r) ∧ ((v=v0∧r= []) ∨ ∃g n c c0,v0= .slice (some ⟨g,0,none⟩) n c0∧v= .slice (some ⟨g,0,none⟩) l.length c∧l.length≤c∧c≤c0)
theorem bF.toW {α : Type}{T : FT α}{e : TypeId}{w : World}{v : Value}{l : List α}(h : bF T e w v l) : jZ T e w v l:= ⟨v, [],by simpa using h, .inl ⟨rfl,rfl⟩⟩
theorem pI {α : Type}{v v0 : Value}{l r : List α}(h : (v=v0∧r= []) ∨ ∃g n c c0,v0= .slice (some ⟨g,0,none⟩) n c0∧v= .slice (some ⟨g,0,none⟩) l.length c∧l.length≤c∧c≤c0) : v.ownBlock=v0.ownBlock:=by
 rcases h with ⟨rfl,_⟩ | ⟨g,n,c,c0,rfl,rfl,_,_⟩ <;>rfl
theorem jZ.keep {α : Type}{T : FT α}{e : TypeId}{w w' : World}{v : Value}{l : List α}(h : jZ T e w v l)(hk : ∀g,v.ownBlock=some g→w'.heap[g]? =w.heap[g]?) : jZ T e w' v l:=by
 obtain⟨v0,r,ho,hd⟩ :=h
 exact⟨v0,r,ho.keep (fun g hg=>hk g (by rw [pI hd];exact hg)),hd⟩
theorem jZ.lt {α : Type}{T : FT α}{e : TypeId}{w : World}{v : Value}{l : List α}(h : jZ T e w v l) : ∀g∈bL v,g<w.heap.size:=by
 obtain⟨v0,r,ho,hd⟩ :=h
 intro g hg
 exact dQ ho g (bH.2 (by rw [←pI hd];exact bH.1 hg))
theorem jZ.bn {α : Type}{T : FT α}{e : TypeId}{w w' : World}{v : Value}{l : List α}{F : List Nat}(h : jZ T e w v l)(hc : bW F w w')(hd : ∀g∈bL v,g∉F) : jZ T e w' v l:=
 h.keep fun g hg=>hc.block g (h.lt g (bH.2 hg)) (hd g (bH.2 hg))
theorem jZ.form {α : Type}{T : FT α}{e : TypeId}{w : World}{v : Value}{l : List α}(h : jZ T e w v l) : (v= .slice none 0 0∧l= []) ∨ ∃g cap,v= .slice (some ⟨g,0,none⟩) l.length cap∧g<w.heap.size∧l.length≤cap∧cap≤maxLen:=by
 obtain⟨v0,r,ho,hd⟩ :=h
 rcases hd with ⟨rfl,rfl⟩ | ⟨g,n,c,c0,rfl,rfl,h1,h2⟩
 ·rw [List.append_nil] at ho
  exact ho.form
 ·rcases ho.form with ⟨h,_⟩ | ⟨g',cap',hv,hg,hl,hm⟩
  ·cases h
  ·injection hv with e1 e2 e3
   injection e1 with e1
   injection e1 with e1
   subst e1
   exact .inr ⟨g,c,rfl,hg,h1,by omega⟩
theorem jZ.cell_ {α : Type}{T : FT α}{e : TypeId}{w : World}{g n c : Nat}{l : List α}(h : jZ T e w (.slice (some ⟨g,0,none⟩) n c) l){k j : Nat}{x : α}(hx : l[k]? =some x)(hj : j<T.n) : w.cell? ⟨g,k * T.n+j,none⟩ = (T.enc x)[j]? :=by
 obtain⟨v0,r,ho,hd⟩ :=h
 have hx' : (l++r)[k]? =some x:=by rw [List.getElem?_append_left (List.getElem?_eq_some_iff.1 hx).1];exact hx
 rcases hd with ⟨rfl,rfl⟩ | ⟨g',n',c',c0,rfl,hv,h1,h2⟩
 ·exact ho.cell_ hx' hj
 ·injection hv with e1 e2 e3
  injection e1 with e1
  injection e1 with e1
  subst e1
  exact ho.cell_ hx' hj
theorem jZ.iP {α : Type}{T : FT α}{e : TypeId}{w : World}{g n c : Nat}{l : List α}(h : jZ T e w (.slice (some ⟨g,0,none⟩) n c) l)(j : Nat) : w.frozen? ⟨g,j,none⟩ =false:=by
 obtain⟨v0,r,ho,hd⟩ :=h
 rcases hd with ⟨rfl,rfl⟩ | ⟨g',n',c',c0,rfl,hv,h1,h2⟩
 ·exact ho.iP j
 ·injection hv with e1 e2 e3
  injection e1 with e1
  injection e1 with e1
  subst e1
  exact ho.iP j
theorem jZ.gI {α : Type}{T : FT α}{e : TypeId}{w : World}{g n c : Nat}{l : List α}(h : jZ T e w (.slice (some ⟨g,0,none⟩) n c) l){k j : Nat}{x y : α}{u : Value}(hx : l[k]? =some x)(hj : j<T.n)(hy : T.enc y= (T.enc x).set j u) :
  jZ T e (w.setCell ⟨g,k * T.n+j,none⟩ u) (.slice (some ⟨g,0,none⟩) n c) (l.set k y) :=by
 obtain⟨v0,r,ho,hd⟩ :=h
 have hk:= (List.getElem?_eq_some_iff.1 hx).1
 have hx' : (l++r)[k]? =some x:=by rw [List.getElem?_append_left hk];exact hx
 rcases hd with ⟨rfl,rfl⟩ | ⟨g',n',c',c0,rfl,hv,h1,h2⟩
 ·refine⟨_, [], ?_, .inl ⟨rfl,rfl⟩⟩
  have:=ho.gI hx' hj hy
  rwa [List.append_nil] at this⊢
 ·injection hv with e1 e2 e3
  injection e1 with e1
  injection e1 with e1
  subst e1 e2 e3
  refine⟨_,r, ?_, .inr ⟨g,n',c,c0,rfl,by rw [List.length_set],by rw [List.length_set];exact h1,h2⟩⟩
  have:=ho.gI hx' hj hy
  rwa [List.set_append_left _ _ hk] at this
theorem jZ.rd {α : Type}{T : FT α}{e : TypeId}{w : World}{B : Nat}{v : Value}{l : List α}(h : jZ T e w v l)(hB : ∀g∈bL v,g<B) : dz T w B v l:=by
 obtain⟨v0,r,ho,hd⟩ :=h
 have hr:=ho.rd (B:=B) (fun g hg=>hB g (bH.2 (by rw [pI hd];exact hg)))
 rcases hd with ⟨rfl,rfl⟩ | ⟨g,n,c,c0,rfl,rfl,h1,h2⟩
 ·rwa [List.append_nil] at hr
 ·obtain⟨A,cap,hv,q1,q2,q3⟩ :=hr
  injection hv with e1 e2 e3
  subst e1 e2 e3
  refine⟨_,c,rfl,h1,by omega,fun hne=> ?_⟩
  obtain⟨g',off,hA,hg,hc⟩ :=q3 (by intro hh;exact hne (List.append_eq_nil_iff.1 hh).1)
  refine⟨g',off,hA,hg,fun j u hu=>hc j u ?_⟩
  rw [nT,List.getElem?_append_left (List.getElem?_eq_some_iff.1 hu).1]
  exact hu
theorem jZ.rd' {α : Type}{T : FT α}{e : TypeId}{w : World}{v : Value}{l : List α}(h : jZ T e w v l) : dz T w w.heap.size v l:=h.rd h.lt
structure jw {α : Type}(T : FT α)(e E : TypeId)(w : World)(v : Value)(dG : List SV)(ll : List (List α)) : Prop where
 len : dG.length=ll.length
 outer : bF FS E w v dG
 inner : ∀ (k : Nat) (s : SV) (l : List α),dG[k]? =some s→ll[k]? =some l→jZ T e w s.val l
 nodup : (dL v dG).Nodup
theorem dJ.toW {α : Type}{T : FT α}{e E : TypeId}{w : World}{v : Value}{dG : List SV}{ll : List (List α)}(h : dJ T e E w v dG ll) : jw T e E w v dG ll:= ⟨h.len,h.outer,fun k s l a b=> (h.inner k s l a b).toW,h.nodup⟩
theorem jw.lt {α : Type}{T : FT α}{e E : TypeId}{w : World}{v : Value}{dG : List SV}{ll : List (List α)}(h : jw T e E w v dG ll) : ∀g∈dL v dG,g<w.heap.size:=by
 intro g hg
 rcases cu.1 hg with hg| ⟨s,hs,hg⟩
 ·exact dQ h.outer g (bH.2 hg)
 ·obtain⟨k,hk,rfl⟩ :=List.mem_iff_getElem.1 hs
  exact(h.inner k _ _ (List.getElem?_eq_getElem hk) (List.getElem?_eq_getElem (by rw [←h.len];exact hk))).lt g (bH.2 hg)
theorem jw.keep {α : Type}{T : FT α}{e E : TypeId}{w w' : World}{v : Value}{dG : List SV}{ll : List (List α)}(h : jw T e E w v dG ll)(hk : ∀g∈dL v dG,w'.heap[g]? =w.heap[g]?) : jw T e E w' v dG ll:=
 ⟨h.len,h.outer.keep (fun g hg=>hk g (cu.2 (.inl hg))),fun k s l a b=> (h.inner k s l a b).keep (fun g hg=>hk g (cu.2 (.inr ⟨s,List.mem_of_getElem? a,hg⟩))),h.nodup⟩
theorem jw.bn {α : Type}{T : FT α}{e E : TypeId}{w w' : World}{v : Value}{dG : List SV}{ll : List (List α)}{F : List Nat}(h : jw T e E w v dG ll)(hc : bW F w w')(hd : ∀g∈dL v dG,g∉F) : jw T e E w' v dG ll:=
 h.keep fun g hg=>hc.block g (h.lt g hg) (hd g hg)
theorem jw.rd {α : Type}{T : FT α}{e E : TypeId}{w : World}{B : Nat}{v : Value}{dG : List SV}{ll : List (List α)}(h : jw T e E w v dG ll)(hB : ∀g∈dL v dG,g<B) : fO T w B v dG ll:=
 ⟨h.len,h.outer.rd (fun g hg=>hB g (cu.2 (.inl hg))),fun k s l a b=> (h.inner k s l a b).rd (fun g hg=>hB g (cu.2 (.inr ⟨s,List.mem_of_getElem? a,bH.1 hg⟩)))⟩
theorem jw.rd' {α : Type}{T : FT α}{e E : TypeId}{w : World}{v : Value}{dG : List SV}{ll : List (List α)}(h : jw T e E w v dG ll) : fO T w w.heap.size v dG ll:=h.rd h.lt
structure fE (w : World)(H : aY)(x : Lists) : Prop where
 G : jw FI 3 57 w H.G.val H.jG x.G
 O : jw FI 3 57 w H.O.val H.mZ x.O
 iM : ∀g∈dL H.G.val H.jG,g∉dL H.O.val H.mZ
theorem dW.toW {w : World}{H : aY}{x : Lists}(h : dW w H x) : fE w H x:= ⟨h.G.toW,h.O.toW,h.iM⟩
theorem fE.lt {w : World}{H : aY}{x : Lists}(h : fE w H x) : ∀g∈H.foot,g<w.heap.size:=by
 intro g hg
 rcases aY.aZ.1 hg with hg|hg
 ·exact h.G.lt g hg
 ·exact h.O.lt g hg
theorem fE.keep {w w' : World}{H : aY}{x : Lists}(h : fE w H x)(hk : ∀g∈H.foot,w'.heap[g]? =w.heap[g]?) : fE w' H x:=
 ⟨h.G.keep (fun g hg=>hk g (aY.aZ.2 (.inl hg))),h.O.keep (fun g hg=>hk g (aY.aZ.2 (.inr hg))),h.iM⟩
theorem fE.bn {w w' : World}{H : aY}{x : Lists}{F : List Nat}(h : fE w H x)(hc : bW F w w')(hd : ∀g∈H.foot,g∉F) : fE w' H x:=h.keep fun g hg=>hc.block g (h.lt g hg) (hd g hg)
theorem fE.rd {w : World}{B : Nat}{H : aY}{x : Lists}(h : fE w H x)(hB : ∀g∈H.foot,g<B) : gM w B H x:=
 ⟨h.G.rd (fun g hg=>hB g (aY.aZ.2 (.inl hg))),h.O.rd (fun g hg=>hB g (aY.aZ.2 (.inr hg)))⟩
theorem fE.rd' {w : World}{H : aY}{x : Lists}(h : fE w H x) : gM w w.heap.size H x:=h.rd h.lt
structure eZ (w : World)(H : bY)(x : Mem) : Prop where
 E : eT w H.E x.E
 I : fE w H.I x.I
 iM : ∀g∈H.E.foot,g∉H.I.foot
theorem eX.toW {w : World}{H : bY}{x : Mem}(h : eX w H x) : eZ w H x:= ⟨h.E,h.I.toW,h.iM⟩
theorem eZ.lt {w : World}{H : bY}{x : Mem}(h : eZ w H x) : ∀g∈H.foot,g<w.heap.size:=by
 intro g hg
 rcases bY.aZ.1 hg with hg|hg
 ·exact h.E.lt g hg
 ·exact h.I.lt g hg
theorem eZ.keep {w w' : World}{H : bY}{x : Mem}(h : eZ w H x)(hk : ∀g∈H.foot,w'.heap[g]? =w.heap[g]?) : eZ w' H x:=
 ⟨h.E.keep (fun g hg=>hk g (bY.aZ.2 (.inl hg))),h.I.keep (fun g hg=>hk g (bY.aZ.2 (.inr hg))),h.iM⟩
theorem eZ.bn {w w' : World}{H : bY}{x : Mem}{F : List Nat}(h : eZ w H x)(hc : bW F w w')(hd : ∀g∈H.foot,g∉F) : eZ w' H x:=h.keep fun g hg=>hc.block g (h.lt g hg) (hd g hg)
theorem eZ.rd {w : World}{B : Nat}{H : bY}{x : Mem}(h : eZ w H x)(hB : ∀g∈H.foot,g<B) : gD w B H x:=
 ⟨h.E.rd (fun g hg=>hB g (bY.aZ.2 (.inl hg))),h.I.rd (fun g hg=>hB g (bY.aZ.2 (.inr hg)))⟩
theorem eZ.rd' {w : World}{H : bY}{x : Mem}(h : eZ w H x) : gD w w.heap.size H x:=h.rd h.lt
theorem fE.aN {w : World}{H : aY}{x : Lists}(h : fE w H x)(o : Obj) : fE (w.alloc o) H x:=h.keep fun g hg=>Below.heap_alloc w o g (h.lt g hg)
theorem fE.step {w w' : World}{o : Obj}{H : aY}{x : Lists}(h : fE w H x)(hb : Below (w.alloc o).heap.size (w.alloc o) w') : fE w' H x:= (h.aN o).keep (fun g hg=>hb.block g ((h.aN o).lt g hg))
theorem fE.step0 {w w' : World}{H : aY}{x : Lists}(h : fE w H x)(hb : Below w.heap.size w w') : fE w' H x:=h.keep (fun g hg=>hb.block g (h.lt g hg))
theorem eZ.aN {w : World}{H : bY}{x : Mem}(h : eZ w H x)(o : Obj) : eZ (w.alloc o) H x:=h.keep fun g hg=>Below.heap_alloc w o g (h.lt g hg)
theorem eZ.step {w w' : World}{o : Obj}{H : bY}{x : Mem}(h : eZ w H x)(hb : Below (w.alloc o).heap.size (w.alloc o) w') : eZ w' H x:= (h.aN o).keep (fun g hg=>hb.block g ((h.aN o).lt g hg))
theorem eZ.step0 {w w' : World}{H : bY}{x : Mem}(h : eZ w H x)(hb : Below w.heap.size w w') : eZ w' H x:=h.keep (fun g hg=>hb.block g (h.lt g hg))
end Go.Proofs.Ytkmggglljkmjoaa
namespace Go.Proofs.Ytkmggglljkmjoaa
open Go.RowKit
theorem vF {x : Lists}{k c : Nat}{s : Int}{l : List Int}(hl : x.O[k]? =some l)(h : l.length<2) : mV x k c s= {x with O:=x.O.set k (l++ [s])}:=by
 have e : x.O.getD k []=l:=by simp [List.getD,hl]
 unfold mV
 rw [e,if_pos h]
theorem uf {x : Lists}{k c : Nat}{s : Int}{l r : List Int}(hl : x.O[k]? =some l)(h : ¬ l.length<2)(hr : x.G[c]? =some r) : mV x k c s= {x with G:=x.G.set c (r++ [s])}:=by
 have e : x.O.getD k []=l:=by simp [List.getD,hl]
 have e2 : x.G.getD c []=r:=by simp [List.getD,hr]
 unfold mV
 rw [e,if_neg h,e2]
set_option maxRecDepth 100000 in
set_option maxHeartbeats 4000000 in
theorem AJ (w : World)(H : aY)(x : Lists)(wk c : Nat)(s : Int)(h : gM w w.heap.size H x)(hs : eU x≤536870912)(hok : dM x=true)(hw : wk<3)(hc : c<3)(hsl : aW 0 23 s=true)(hno : iw x s=false) :
  Calls Try.prog 43 #[.agg #[.slice H.G.a H.G.l H.G.c, .slice H.O.a H.O.l H.O.c], .int .i64 wk, .int .i64 c, .int .i64 s] w fun e w'=> ∃H' : aY,e= .returned (.tuple #[.agg #[.slice H'.G.a H'.G.l H'.G.c, .slice H'.O.a H'.O.l H'.O.c], .bool true]) ∧dW w' H' (mV x (wk * 3+c) c s) ∧ (∀g∈H'.foot,w.heap.size≤g) ∧Below w.heap.size w w':=by
 obtain⟨hl3,mD⟩ :=jC hok
 have H3:=Hid.aD hl3
 have H9:=Hid.aD mD
 have DK:=Hid.aD (show ∀l,l∈x.O∨l∈x.G→l.length≤536870912 from fun l hl=>by
  unfold eU at hs
  rcases hl with hl|hl
  ·have:=lY hl
   omega
  ·have:=lY hl
   omega)
 obtain⟨lo,hlo⟩ : ∃l,x.O[wk * 3+c]? =some l:= ⟨_,List.getElem?_eq_getElem (by omega)⟩
 obtain⟨lg,wY⟩ : ∃l,x.G[c]? =some l:= ⟨_,List.getElem?_eq_getElem (by omega)⟩
 have HO:=Hid.aD hlo
 have HG:=Hid.aD wY
 have hso:=DK.out lo (.inl (List.mem_of_getElem? hlo))
 have hsg:=DK.out lg (.inr (List.mem_of_getElem? wY))
 have hoa:=fun W=>pG wk c hw hc W
 have zL : wk * 3+c<x.O.length:=by omega
 have hc3 : c<x.G.length:=by omega
 have lW:=Hid.aD zL
 have DL:=Hid.aD hc3
 clear hl3 mD hlo wY zL hc3
 obtain⟨k,hk⟩ : ∃k,k=wk * 3+c:= ⟨_,rfl⟩
 rw [←hk] at hoa HO lW⊢
 clear hk
 obtain⟨w0,hW0⟩ : ∃x,x= ((w.alloc (.cells #[.slice H.G.a H.G.l H.G.c, .slice H.O.a H.O.l H.O.c] 29)).alloc (.cells #[.slice none 0 0, .slice none 0 0] 29)) := ⟨_,rfl⟩
 have aC : aJ w0 (w.heap.size) [.slice H.G.a H.G.l H.G.c, .slice H.O.a H.O.l H.O.c]:=by
  rw [hW0]
  exact aJ.alloc aJ.nw _
 have au : aJ w0 (w.heap.size+1) [.slice none 0 0, .slice none 0 0]:=by
  rw [hW0]
  exact aJ.nw
 have hB : Below w.heap.size w w0:=by
  rw [hW0]
  exact dn
 go_enter Try.func43,Try.ntmps43
 go_wp2_with fail
 rw [←hW0]
 clear hW0
 have jy:=aC.lt
 have ji:=au.lt
 obtain⟨aF,aG,aK,aV⟩ :=aC.f2
 obtain⟨aA,aB,aI,aU⟩ :=au.f2
 refine(gN _ H x (dP h hB) hs).mono ?_
 rintro e w1 ⟨aH,rfl,aT,l_c,hb⟩
 have u_c:=aT.lt
 replace aC:=aC.below hb
 replace au:=au.below hb
 replace hB:=hB.trans (hb.mono hB.size)
 have sz:=hb.size
 clear hb
 clear aF aG aK aV
 obtain⟨aF,aG,aK,aV⟩ :=aC.f2
 clear aA aB aI aU
 obtain⟨aA,aB,aI,aU⟩ :=au.f2
 obtain⟨⟨A1,n1,p1⟩,T1, ⟨A2,n2,p2⟩,T2⟩ :=aH
 obtain⟨g1,c1,hv1,hg1⟩ :=dJ.jK (v:= .slice A1 n1 p1) aT.G (by rw [H3.out];decide)
 obtain⟨g2,c2,hv2,hg2⟩ :=dJ.jK (v:= .slice A2 n2 p2) aT.O (by rw [H9.out];decide)
 injection hv1 with i1 i2 i3
 injection hv2 with j1 j2 j3
 subst i1 i2 i3 j1 j2 j3
 have nM : g1∈aY.foot ⟨⟨some ⟨g1,0,none⟩,x.G.length,p1⟩,T1, ⟨some ⟨g2,0,none⟩,x.O.length,p2⟩,T2⟩ :=aY.aZ.2 (.inl (cu.2 (.inl rfl)))
 have nN : g2∈aY.foot ⟨⟨some ⟨g1,0,none⟩,x.G.length,p1⟩,T1, ⟨some ⟨g2,0,none⟩,x.O.length,p2⟩,T2⟩ :=aY.aZ.2 (.inr (cu.2 (.inl rfl)))
 have zU:=l_c _ nM
 have Bw:=l_c _ nN
 clear nM nN
 go_wp2_with (go_at_call 46;refine(hoa _).mono ?_;rintro e wv ⟨rfl,rfl⟩)
 clear hoa
 generalize hO : Obj.cells #[.slice (some ⟨g1,0,none⟩) x.G.length p1, .slice (some ⟨g2,0,none⟩) x.O.length p2] 29=O_
 replace aC:=aC.alloc O_
 replace au:=au.alloc O_
 replace aT:=aT.aN O_
 replace hB:=hB.alloc hB.size O_
 have ay : aJ (w1.alloc O_) w1.heap.size [.slice (some ⟨g1,0,none⟩) x.G.length p1, .slice (some ⟨g2,0,none⟩) x.O.length p2]:=hO ▸ aJ.new _ _ _
 have iF:=ay.lt
 have sz : w1.heap.size≤ (w1.alloc O_).heap.size:=Nat.le_of_lt ay.lt
 generalize hG : (w1.alloc O_) =w2 at aC au aT hB ay iF sz⊢
 clear hG hO O_
 clear aF aG aK aV
 obtain⟨aF,aG,aK,aV⟩ :=aC.f2
 clear aA aB aI aU
 obtain⟨aA,aB,aI,aU⟩ :=au.f2
 obtain⟨aO,aP,aX,bJ⟩ :=ay.f2
 refine(jI _ H x (dP h hB)).mono ?_
 rw [hok]
 rintro e w3 ⟨rfl,hb⟩
 replace aC:=aC.below hb
 replace au:=au.below hb
 replace ay:=ay.below hb
 have aT:=aT.step0 hb
 replace hB:=hB.trans (hb.mono hB.size)
 have sz:=hb.size
 clear hb
 clear aF aG aK aV
 obtain⟨aF,aG,aK,aV⟩ :=aC.f2
 clear aA aB aI aU
 obtain⟨aA,aB,aI,aU⟩ :=au.f2
 clear aO aP aX bJ
 obtain⟨aO,aP,aX,bJ⟩ :=ay.f2
 clear hok
 go_wp2_with (go_at_call 64;refine(iV _ _).mono ?_;rw [hsl];rintro e wv ⟨rfl,rfl⟩)
 refine(rD _ H x s (dP h hB)).mono ?_
 rw [hno]
 rintro e w4 ⟨rfl,hb⟩
 replace aC:=aC.below hb
 replace au:=au.below hb
 replace ay:=ay.below hb
 replace aT:=aT.step0 hb
 replace hB:=hB.trans (hb.mono hB.size)
 have sz:=hb.size
 clear hb
 clear aF aG aK aV
 obtain⟨aF,aG,aK,aV⟩ :=aC.f2
 clear aA aB aI aU
 obtain⟨aA,aB,aI,aU⟩ :=au.f2
 clear aO aP aX bJ
 obtain⟨aO,aP,aX,bJ⟩ :=ay.f2
 clear hno hsl
 by_cases hlen : lo.length<2
 ·have HLEN:=Hid.aD hlen
  obtain⟨so,jv⟩ : ∃q,T2[k]? =some q:= ⟨_,List.getElem?_eq_getElem (by rw [aT.O.len];exact lW.out)⟩
  have ino:=aT.O.inner k so _ jv HO.out
  have po:=aT.O.outer.cell_ (j:=0) jv (by decide)
  simp only [FS,Nat.mul_one,Nat.add_zero] at po
  obtain⟨Ao,co,qK,_⟩ :=ino.rd'
  obtain⟨ao,no,bo⟩ :=so
  injection qK with k1 k2 k3
  subst k1 k2 k3
  have rP : _=some (Value.slice ao lo.length bo) :=po
  clear po
  have ff:=aT.O.outer.iP k
  have HV:=Hid.aD jv
  have rQ:=Hid.aD (dJ.head_ne (g:=g2) (n:=x.O.length) (c:=p2) aT.O jv)
  have hkk : k<x.O.length:=lW.out
  have rR : g2<w4.heap.size:=by omega
  have zV : g2≠w.heap.size:=by omega
  have yC : g2≠w.heap.size+1:=by omega
  have yD : g2≠w1.heap.size:=by omega
  have zW : w.heap.size≠g2:=by omega
  have yE : w.heap.size+1≠g2:=by omega
  have yF : w1.heap.size≠g2:=by omega
  have oq:=Hid.aD (show ∀b∈bL (SV.val ⟨ao,lo.length,bo⟩),b∈dL (.slice (some ⟨g2,0,none⟩) x.O.length p2) T2 from fun b hb=>cu.2 (.inr ⟨_,List.mem_of_getElem? HV.out,bH.1 hb⟩))
  have jl:=Hid.aD (show ∀b∈bL (SV.val ⟨ao,lo.length,bo⟩),b∈aY.foot ⟨⟨some ⟨g1,0,none⟩,x.G.length,p1⟩,T1, ⟨some ⟨g2,0,none⟩,x.O.length,p2⟩,T2⟩ from fun b hb=>aY.aZ.2 (.inr (oq.out b hb)))
  go_wp2_with (at_builtin;refine dV Try.stInt rfl _ _ rfl (v:= .slice ao lo.length bo) (y:= .slice (some ⟨w4.heap.size,0,none⟩) 1 1) (l:=lo) (m:= [s]) rfl rfl (bF.aN (show bF FI 3 w4 (.slice ao lo.length bo) lo from ino) _) (bF.lit FI [s] #[.int .i64 s] rfl (by simp [maxLen]) w4 3).rd' (by simp;omega) ?_;intro v9 w9 qL qM kU;obtain⟨A9,c9,qN,_⟩ :=qL.rd';simp only [List.length_append,List.length_singleton] at qN;subst qN;have hx:=bW.gP qM;have AL:=hx.size;simp only [World.size_alloc] at AL;have Cx:= (hx.frozen g2 k (by simp;omega) rQ.out).trans ((nK w4 _ g2 k rR).trans ff);have Cy:= (hx.cell g2 k (by simp;omega) rQ.out).trans ((oU w4 _ g2 k rR).trans rP);replace aC:= (aC.alloc _).bn hx (fun hm=>by have:=l_c _ (jl.out _ hm);have:=u_c _ (jl.out _ hm);omega);clear aF aG aK aV;obtain⟨aF,aG,aK,aV⟩ :=aC.f2;replace au:= (au.alloc _).bn hx (fun hm=>by have:=l_c _ (jl.out _ hm);have:=u_c _ (jl.out _ hm);omega);clear aA aB aI aU;obtain⟨aA,aB,aI,aU⟩ :=au.f2;replace ay:= (ay.alloc _).bn hx (fun hm=>by have:=l_c _ (jl.out _ hm);have:=u_c _ (jl.out _ hm);omega);clear aO aP aX bJ;obtain⟨aO,aP,aX,bJ⟩ :=ay.f2)
  have hN:=dJ.qX (s':= ⟨A9,lo.length+1,c9⟩) (aT.O.aN _) HV.out qL qM kU
  have qJ:=wW (B:=w0.heap.size) (s':= ⟨A9,lo.length+1,c9⟩) HV.out kU (by simp;omega) (fun b hb=>l_c b (aY.aZ.2 (.inr hb)))
  have hO : dJ FI 3 57 _ _ _ x.G:= ((aT.G.aN (.cells #[.int .i64 s] 3)).bn hx (fun b hb hm=>aT.iM b hb (oq.out b hm))).bn (F:= [g2]) ((bW.refl _ w9).gI (g:=g2) (i:=k) (by simp) (SV.val ⟨A9,lo.length+1,c9⟩)) (fun b hb hm=>by simp only [List.mem_cons,List.not_mem_nil,or_false] at hm;subst hm;exact aT.iM b hb (cu.2 (.inl rfl)))
  have uO:= (aT.G).lt
  refine bodyPost_ret (v:= .tuple #[.agg #[.slice (some ⟨g1,0,none⟩) x.G.length p1, .slice (some ⟨g2,0,none⟩) x.O.length p2], .bool true]) (by simp [results,Try.results43,go_sem,aA,aB]) rfl ⟨⟨⟨some ⟨g1,0,none⟩,x.G.length,p1⟩,T1, ⟨some ⟨g2,0,none⟩,x.O.length,p2⟩,T2.set k ⟨A9,lo.length+1,c9⟩⟩,rfl,by rw [vF HO.out HLEN.out];exact⟨hO.bn (F:= [w.heap.size+1]) (by repeat (first|exact bW.refl _ _|refine bW.gI ?_ (by simp) _|refine bW.aN ?_ _|refine bW.gU ?_)) (fun g hg hm=>by simp only [List.mem_cons,List.not_mem_nil,or_false] at hm;have:=l_c _ (aY.aZ.2 (.inl hg));omega),hN.bn (F:= [w.heap.size+1]) (by repeat (first|exact bW.refl _ _|refine bW.gI ?_ (by simp) _|refine bW.aN ?_ _|refine bW.gU ?_)) (fun g hg hm=>by simp only [List.mem_cons,List.not_mem_nil,or_false] at hm;have:=qJ _ hg;omega),fun b hb hm=>by rcases j4 hm with hm|hm; (exact aT.iM b hb hm); (rcases iE kU b hm with hm|hm; (exact aT.iM b hb (oq.out b hm)); (have:=uO b hb;simp at hm;omega))⟩,fun b hb=> ?_, ?_⟩
  ·rcases aY.aZ.1 hb with hb|hb
   ·have:=l_c b (aY.aZ.2 (.inl hb))
    omega
   ·have:=qJ b hb
    omega
  ·exact Below.trans hB (Below.trans ((Below.refl _ _).alloc hB.size _) (Below.trans (hx.below (by simp;have:=hB.size;omega) (fun b hb=>by have:=l_c b (jl.out b hb);omega)) (by repeat (first|exact Below.refl _ _|refine Below.setCell ?_ (by simp<;>omega) _|refine Below.alloc ?_ (by simp<;>omega) _|refine Below.drew ?_))))
 ·have HLEN:=Hid.aD hlen
  obtain⟨so,jv⟩ : ∃q,T2[k]? =some q:= ⟨_,List.getElem?_eq_getElem (by rw [aT.O.len];exact lW.out)⟩
  have ino:=aT.O.inner k so _ jv HO.out
  have po:=aT.O.outer.cell_ (j:=0) jv (by decide)
  simp only [FS,Nat.mul_one,Nat.add_zero] at po
  obtain⟨Ao,co,qK,_⟩ :=ino.rd'
  obtain⟨ao,no,bo⟩ :=so
  injection qK with k1 k2 k3
  subst k1 k2 k3
  have rP : _=some (Value.slice ao lo.length bo) :=po
  clear po
  obtain⟨sg,pJ⟩ : ∃q,T1[c]? =some q:= ⟨_,List.getElem?_eq_getElem (by rw [aT.G.len];exact DL.out)⟩
  have ing:=aT.G.inner c sg _ pJ HG.out
  have pg:=aT.G.outer.cell_ (j:=0) pJ (by decide)
  simp only [FS,Nat.mul_one,Nat.add_zero] at pg
  obtain⟨Ag,cg,zX,_⟩ :=ing.rd'
  obtain⟨ag,ng,bg⟩ :=sg
  injection zX with k1 k2 k3
  subst k1 k2 k3
  have zY : _=some (Value.slice ag lg.length bg) :=pg
  clear pg
  have ff:=aT.G.outer.iP c
  have HV:=Hid.aD pJ
  have rQ:=Hid.aD (dJ.head_ne (g:=g1) (n:=x.G.length) (c:=p1) aT.G pJ)
  have hkk : c<x.G.length:=DL.out
  have rR : g1<w4.heap.size:=by omega
  have zV : g1≠w.heap.size:=by omega
  have yC : g1≠w.heap.size+1:=by omega
  have yD : g1≠w1.heap.size:=by omega
  have zW : w.heap.size≠g1:=by omega
  have yE : w.heap.size+1≠g1:=by omega
  have yF : w1.heap.size≠g1:=by omega
  have oq:=Hid.aD (show ∀b∈bL (SV.val ⟨ag,lg.length,bg⟩),b∈dL (.slice (some ⟨g1,0,none⟩) x.G.length p1) T1 from fun b hb=>cu.2 (.inr ⟨_,List.mem_of_getElem? HV.out,bH.1 hb⟩))
  have jl:=Hid.aD (show ∀b∈bL (SV.val ⟨ag,lg.length,bg⟩),b∈aY.foot ⟨⟨some ⟨g1,0,none⟩,x.G.length,p1⟩,T1, ⟨some ⟨g2,0,none⟩,x.O.length,p2⟩,T2⟩ from fun b hb=>aY.aZ.2 (.inl (oq.out b hb)))
  go_wp2_with (at_builtin;refine dV Try.stInt rfl _ _ rfl (v:= .slice ag lg.length bg) (y:= .slice (some ⟨w4.heap.size,0,none⟩) 1 1) (l:=lg) (m:= [s]) rfl rfl (bF.aN (show bF FI 3 w4 (.slice ag lg.length bg) lg from ing) _) (bF.lit FI [s] #[.int .i64 s] rfl (by simp [maxLen]) w4 3).rd' (by simp;omega) ?_;intro v9 w9 qL qM kU;obtain⟨A9,c9,qN,_⟩ :=qL.rd';simp only [List.length_append,List.length_singleton] at qN;subst qN;have hx:=bW.gP qM;have AL:=hx.size;simp only [World.size_alloc] at AL;have Cx:= (hx.frozen g1 c (by simp;omega) rQ.out).trans ((nK w4 _ g1 c rR).trans ff);have Cy:= (hx.cell g1 c (by simp;omega) rQ.out).trans ((oU w4 _ g1 c rR).trans zY);replace aC:= (aC.alloc _).bn hx (fun hm=>by have:=l_c _ (jl.out _ hm);have:=u_c _ (jl.out _ hm);omega);clear aF aG aK aV;obtain⟨aF,aG,aK,aV⟩ :=aC.f2;replace au:= (au.alloc _).bn hx (fun hm=>by have:=l_c _ (jl.out _ hm);have:=u_c _ (jl.out _ hm);omega);clear aA aB aI aU;obtain⟨aA,aB,aI,aU⟩ :=au.f2;replace ay:= (ay.alloc _).bn hx (fun hm=>by have:=l_c _ (jl.out _ hm);have:=u_c _ (jl.out _ hm);omega);clear aO aP aX bJ;obtain⟨aO,aP,aX,bJ⟩ :=ay.f2)
  have hN:=dJ.qX (s':= ⟨A9,lg.length+1,c9⟩) (aT.G.aN _) HV.out qL qM kU
  have qJ:=wW (B:=w0.heap.size) (s':= ⟨A9,lg.length+1,c9⟩) HV.out kU (by simp;omega) (fun b hb=>l_c b (aY.aZ.2 (.inl hb)))
  have hO : dJ FI 3 57 _ _ _ x.O:= ((aT.O.aN (.cells #[.int .i64 s] 3)).bn hx (fun b hb hm=>aT.iM b (oq.out b hm) hb)).bn (F:= [g1]) ((bW.refl _ w9).gI (g:=g1) (i:=c) (by simp) (SV.val ⟨A9,lg.length+1,c9⟩)) (fun b hb hm=>by simp only [List.mem_cons,List.not_mem_nil,or_false] at hm;subst hm;exact aT.iM b (cu.2 (.inl rfl)) hb)
  have uO:= (aT.O).lt
  refine bodyPost_ret (v:= .tuple #[.agg #[.slice (some ⟨g1,0,none⟩) x.G.length p1, .slice (some ⟨g2,0,none⟩) x.O.length p2], .bool true]) (by simp [results,Try.results43,go_sem,aA,aB]) rfl ⟨⟨⟨some ⟨g1,0,none⟩,x.G.length,p1⟩,T1.set c ⟨A9,lg.length+1,c9⟩, ⟨some ⟨g2,0,none⟩,x.O.length,p2⟩,T2⟩,rfl,by rw [uf HO.out HLEN.out HG.out];exact⟨hN.bn (F:= [w.heap.size+1]) (by repeat (first|exact bW.refl _ _|refine bW.gI ?_ (by simp) _|refine bW.aN ?_ _|refine bW.gU ?_)) (fun g hg hm=>by simp only [List.mem_cons,List.not_mem_nil,or_false] at hm;have:=qJ _ hg;omega),hO.bn (F:= [w.heap.size+1]) (by repeat (first|exact bW.refl _ _|refine bW.gI ?_ (by simp) _|refine bW.aN ?_ _|refine bW.gU ?_)) (fun g hg hm=>by simp only [List.mem_cons,List.not_mem_nil,or_false] at hm;have:=l_c _ (aY.aZ.2 (.inr hg));omega),fun b hb hm=>by rcases j4 hb with hb|hb; (exact aT.iM b hb hm); (rcases iE kU b hb with hb|hb; (exact aT.iM b (oq.out b hb) hm); (have:=uO b hm;simp at hb;omega))⟩,fun b hb=> ?_, ?_⟩
  ·rcases aY.aZ.1 hb with hb|hb
   ·have:=qJ b hb
    omega
   ·have:=l_c b (aY.aZ.2 (.inr hb))
    omega
  ·exact Below.trans hB (Below.trans ((Below.refl _ _).alloc hB.size _) (Below.trans (hx.below (by simp;have:=hB.size;omega) (fun b hb=>by have:=l_c b (jl.out b hb);omega)) (by repeat (first|exact Below.refl _ _|refine Below.setCell ?_ (by simp<;>omega) _|refine Below.alloc ?_ (by simp<;>omega) _|refine Below.drew ?_))))
end Go.Proofs.Ytkmggglljkmjoaa
namespace Go.Proofs.Ytkmggglljkmjoaa
open Go.RowKit
theorem dJ.Bz {α : Type}{T : FT α}{e E : TypeId}{w : World}{g n c : Nat}{dG : List SV}{ll : List (List α)}(h : dJ T e E w (.slice (some ⟨g,0,none⟩) n c) dG ll){i : Nat}{s s' : SV}{l' : List α}(hi : dG[i]? =some s)
  (hl : jZ T e w s'.val l') (hat : s'.val.ownBlock=s.val.ownBlock) :
  jw T e E (w.setCell ⟨g,i,none⟩ s'.val) (.slice (some ⟨g,0,none⟩) n c) (dG.set i s') (ll.set i l') :=by
 have hn:=h.nodup
 have hne:=dJ.head_ne h hi
 have hfs : bL s'.val=bL s.val:=by unfold bL;rw [hat]
 unfold dL at hn
 rw [List.nodup_append] at hn
 obtain⟨hn1,hn2,rG⟩ :=hn
 refine⟨by rw [List.length_set,List.length_set];exact h.len, ?_,fun k q l hk hl2=> ?_, ?_⟩
 ·have:=h.outer.gI (k:=i) (j:=0) (x:=s) (y:=s') (u:=s'.val) hi (by decide) rfl
  simpa [FS] using this
 ·by_cases hik : i=k
  ·subst hik
   have hil : i<dG.length:= (List.getElem?_eq_some_iff.1 hi).1
   rw [List.getElem?_set_self hil] at hk
   cases hk
   rw [List.getElem?_set_self (by rw [←h.len];exact hil)] at hl2
   cases hl2
   exact hl.keep (fun b hb=>jo w _ (fun e=>by subst e;exact hne (by rw [←hfs];exact bH.2 hb)))
  ·rw [List.getElem?_set_ne hik] at hk hl2
   exact(h.inner k q l hk hl2).toW.keep (fun b hb=>jo w _ (fun e=>by subst e;exact rG _ (bH.2 rfl) _ (List.mem_flatMap.2 ⟨q,List.mem_of_getElem? hk,bH.2 hb⟩) rfl))
 ·unfold dL
  rw [jQ hi hfs,List.nodup_append]
  exact⟨hn1,hn2,rG⟩
theorem last_at {l : List Int}{s : Int} : (l++ [s])[l.length]? =some s:=by simp
set_option maxHeartbeats 400000 in
theorem yG (w : World)(g k c : Nat)(A : Option Addr)(h0 : w.cell? ⟨g,k,none⟩ =some (.slice A 0 c)) : Calls Try.prog 47 #[.pointer (some ⟨g,k,none⟩)] w fun e w'=>e= .returned (.int .i64 (-1)) ∧w=w':=by
 go_enter Try.func47,Try.ntmps47
 go_wp2
 go_ret
 exact⟨rfl,rfl⟩
set_option maxHeartbeats 1000000 in
theorem yH (w : World)(g k gs n c : Nat)(s : Int)(h0 : w.cell? ⟨g,k,none⟩ =some (.slice (some ⟨gs,0,none⟩) (n+1) c))(hf : w.frozen? ⟨g,k,none⟩ =false)(h1 : w.cell? ⟨gs,n,none⟩ =some (.int .i64 s))(hn : n≤1073741824)(hc : n+1≤c) : Calls Try.prog 47 #[.pointer (some ⟨g,k,none⟩)] w fun e w'=>e= .returned (.int .i64 s) ∧w.setCell ⟨g,k,none⟩ (.slice (some ⟨gs,0,none⟩) n n) =w':=by
 go_enter Try.func47,Try.ntmps47
 go_wp2
 go_ret
 exact⟨rfl,rfl⟩
end Go.Proofs.Ytkmggglljkmjoaa
