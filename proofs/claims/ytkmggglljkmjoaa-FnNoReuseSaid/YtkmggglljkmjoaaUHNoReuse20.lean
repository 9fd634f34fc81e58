/-
  Several texts in one: lemmas and contracts that the claim rests on.
-/
import Derived.Test.YtkmggglljkmjoaaUHNoReuse2
import Derived.Test.YtkmggglljkmjoaaUHNoReuse1
import Derived.Deep.QuietTactic
import Derived.BigQuiet
import Derived.Deep.LoopGhost
import Derived.Deep.RegionHeld3
import Derived.WalkSpells
import Derived.Laws.Cover3
import Derived.Test.YtkmggglljkmjoaaUHNoReuse19
import Derived.Test.YtkmggglljkmjoaaUHNoReuse12
import Derived.Deep.RegionLaw
import Derived.Lib.SliceRun
namespace Go.Proofs.Ytkmggglljkmjoaa
open Go.RowKit
theorem n_ (n : Int) : dK n<3∧ (dK n<0∨ ∃c : Nat,c<3∧dK n= (c : Int)) :=by
 unfold dK
 repeat' split
 ·exact⟨by decide, .inl (by decide)⟩
 ·exact⟨by decide, .inr ⟨0,by decide,rfl⟩⟩
 ·exact⟨by decide, .inr ⟨1,by decide,rfl⟩⟩
 ·exact⟨by decide, .inr ⟨2,by decide,rfl⟩⟩
 ·exact⟨by decide, .inl (by decide)⟩
theorem vM (l : List Int) : l= []∨ ∃r s,l=r++ [s]:=by
 rcases List.eq_nil_or_concat l with e| ⟨r,s,e⟩
 ·exact .inl e
 ·exact .inr ⟨r,s,by simpa using e⟩
theorem pR {m : Mem}{w n : Int}(p : jd m)(hw : aW 0 2 w=true){c : Nat}(hc : c<3)(hn : dK n= (c : Int)) :
  (∃l s,m.I.O[w.toNat * 3+c]? =some (l++ [s]) ∧cO m w n= ({m with I:= {m.I with O:=m.I.O.set (w.toNat * 3+c) l}},bK m.E s * 32+s,0)) ∨
  (m.I.O[w.toNat * 3+c]? =some []∧ ∃l s,m.I.G[c]? =some (l++ [s]) ∧cO m w n= ({m with I:= {m.I with G:=m.I.G.set c l}},bK m.E s * 32+s,0)) ∨
  (m.I.O[w.toNat * 3+c]? =some []∧m.I.G[c]? =some []∧ ((∃q : Nat,q<6∧m.E.Z.getD q (-1) = -1∧idxOf (fun y=>y == -1) m.E.Z= (q : Int) ∧cO m w n= (kL m q c,bK (dR m.E q c) ((q * 4 : Nat) : Int) * 32+ ((q * 4 : Nat) : Int),0)) ∨ (idxOf (fun y=>y == -1) m.E.Z= -1∧cO m w n= (m,0,3)))) :=by
 obtain⟨w0,w2⟩ :=bD.1 hw
 have sh:=gQ (iU.1 p.heap).1
 have hgo : cO m w n=ko m w.toNat c:=by rw [w_ (oz p) hw (by omega),hn,Int.toNat_natCast]
 have hr : m.I.O[w.toNat * 3+c]? =some (m.I.O[w.toNat * 3+c]'(by rw [p.ow];omega)) :=List.getElem?_eq_getElem _
 have hr2 : m.I.G[c]? =some (m.I.G[c]'(by rw [p.gl];omega)) :=List.getElem?_eq_getElem _
 generalize m.I.O[w.toNat * 3+c]'(by rw [p.ow];omega) =row at hr
 generalize m.I.G[c]'(by rw [p.gl];omega) =uV at hr2
 rcases vM row with rfl| ⟨l,s,rfl⟩
 ·rcases vM uV with rfl| ⟨l,s,rfl⟩
  ·refine .inr (.inr ⟨hr,hr2, ?_⟩)
   rcases AQ m.E.Z (-1) with hi| ⟨q,hi⟩
   ·exact .inr ⟨hi,hgo.trans (rU hr hr2 hi)⟩
   ·obtain⟨hq,e⟩ :=Dk hi
    exact .inl ⟨q,by rw [←sh.cl];exact hq,by rw [getD_at hq];exact e,hi,hgo.trans (qP hr hr2 hi)⟩
  ·exact .inr (.inl ⟨hr,l,s,hr2,hgo.trans (p9 hr hr2)⟩)
 ·exact .inl ⟨l,s,hr,hgo.trans (ug hr)⟩
theorem vN {m : Mem}{L : Lists}{s : Int}(hm : ∀t,t∈fB m.I↔t=s∨t∈fB L) : Keeps m {m with I:=L} s:=
 ⟨fun _ _ _=>rfl,fun _ _ _=>rfl,fun t hn _=> ⟨fun h=> (hm t).2 (.inr h),fun h=> ((hm t).1 h).resolve_left hn⟩,fun _ _ _ _ _=>rfl⟩
theorem xA {m : Mem}{w n : Int}(h : (cO m w n).2.2=0) : bX m=true∧aW 0 2 w=true∧ ∃c : Nat,c<3∧dK n= (c : Int) :=by
 by_cases c1 : bX m=false∨aW 0 2 w=false
 ·rw [nP c1] at h;exact absurd h (by simp)
 ·have c1' : bX m=true∧aW 0 2 w=true:=by
   constructor
   ·cases e : bX m with
    |true=>rfl
    |false=>exact absurd (.inl e) c1
   ·cases e : aW 0 2 w with
    |true=>rfl
    |false=>exact absurd (.inr e) c1
  rcases(n_ n).2 with hb|hb
  ·rw [qO c1'.1 c1'.2 hb] at h;exact absurd h (by simp)
  ·exact⟨c1'.1,c1'.2,hb⟩
theorem Aa {m : Mem}{w n : Int}(h : (cO m w n).2.2=0) : ∃s : Int,jd m∧jd (cO m w n).1∧ (cO m w n).2.1=bK (cO m w n).1.E s * 32+s∧aW 0 23 s=true∧aW 1 6 (bK (cO m w n).1.E s) =true∧ak (cO m w n).1.E s=dK n∧s∉fB (cO m w n).1.I∧
  (ak m.E s<0∨ (s∈fB m.I∧ak (cO m w n).1.E s=ak m.E s∧bK (cO m w n).1.E s=bK m.E s)) ∧Keeps m (cO m w n).1 s:=by
 obtain⟨ok,hw,c,hc,hn⟩ :=xA h
 have p:=qY ok
 have hci : aW 0 2 (c : Int) =true:=bD.2 ⟨by omega,by omega⟩
 obtain⟨w0,w2⟩ :=bD.1 hw
 rcases pR p hw hc hn with ⟨l,s,hr,e⟩ | ⟨_,l,s,hr,e⟩ | ⟨_,hr, ⟨q,hq,hcl,hidx,e⟩ | ⟨_,e⟩⟩
 ·have hf:=p.fo _ _ s hr (List.mem_append.2 (.inr (List.mem_singleton_self s)))
  rw [show (w.toNat * 3+c) %3=c by omega] at hf
  obtain⟨f1,f2,f3⟩ :=nO p.heap hf hci
  obtain⟨p2,hm,hnm⟩ :=xu p hr
  rw [e,hn]
  exact⟨s,p,p2,rfl,f1,f3,f2,hnm, .inr ⟨(hm s).2 (.inl rfl),rfl,rfl⟩,vN hm⟩
 ·have hf:=p.fg _ _ s hr (List.mem_append.2 (.inr (List.mem_singleton_self s)))
  obtain⟨f1,f2,f3⟩ :=nO p.heap hf hci
  obtain⟨p2,hm,hnm⟩ :=uj p hr
  rw [e,hn]
  exact⟨s,p,p2,rfl,f1,f3,f2,hnm, .inr ⟨(hm s).2 (.inl rfl),rfl,rfl⟩,vN hm⟩
 ·have hs:= (iU.1 p.heap).1
  have hpp:=pK hci
  have Gi:= (lF (c : Int)).2
  have hg:=fun i hi=>ze (h:=m.E) (p:=q) (c:=c) (i:=i) hs hq hc hi
  have hg0:=hg 0 (by omega)
  rw [Nat.add_zero] at hg0
  have hk:=fun t kt=>x9 (m:=m) (p:=q) (c:=c) (t:=t) p.heap hq hc hcl kt
  have hlist : ∀t∈fB m.I, ¬ ak m.E t<0:=fun t ht=>by
   obtain⟨d,hd,hf⟩ :=xY p ht
   rw [(jS.1 hf).1]
   omega
  have p1 : jd {m with E:=dR m.E q c}:=vJ p (za p.heap hq hc hcl) (fun t ht=> ⟨(hk t (hlist t ht)).1,fun hb=>by rw [(hk t (hlist t ht)).2.1];exact hb⟩)
  have BD : ∀t∈ (dN q (bq (c : Int)).toNat).drop 1, ∃i< (bq (c : Int)).toNat,t= ((q * 4+i : Nat) : Int) :=fun t ht=>yc.1 (List.mem_of_mem_drop ht)
  have AU:=vW q (bq (c : Int)).toNat
  rw [xw (p:=q) (k:= (bq (c : Int)).toNat) (by omega),List.nodup_cons] at AU
  have hout : ∀i<4, ((q * 4+i : Nat) : Int) ∉fB m.I:=fun i hi hm=>hlist _ hm (qR hcl hi)
  have hnd : ((dN q (bq (c : Int)).toNat).drop 1++fB m.I).Nodup:=by
   rw [List.nodup_append]
   refine⟨AU.2,p.nd,fun a ha b hb e=> ?_⟩
   obtain⟨i,hi,rfl⟩ :=BD a ha
   exact hout i (by omega) (e ▸ hb)
  have p2:=nR p1 hr (r:= (dN q (bq (c : Int)).toNat).drop 1) (fun t ht=>by obtain⟨i,hi,rfl⟩ :=BD t ht;exact bD.2 ⟨by omega,by omega⟩) hnd (fun t ht=>by
   obtain⟨i,hi,rfl⟩ :=BD t ht
   obtain⟨g1,g2⟩ :=hg i hi
   exact jS.2 ⟨g1,by rw [g2];decide⟩)
  have hperm:=mo (x:=m.I) ((dN q (bq (c : Int)).toNat).drop 1) hr
  have E8 : kL m q c= {E:=dR m.E q c,I:= {m.I with G:=m.I.G.set c ([]++ (dN q (bq (c : Int)).toNat).drop 1)}}:=by
   unfold kL
   rw [List.getD_eq_getElem?_getD,hr]
   rfl
  rw [e,hn]
  simp only
  rw [E8]
  refine⟨((q * 4 : Nat) : Int),p,p2,rfl,bD.2 ⟨by omega,by omega⟩,by rw [hg0.2];decide,hg0.1, ?_, .inl (by have:=qR (i:=0) hcl (by omega);rwa [Nat.add_zero] at this), ?_⟩
  ·intro hm
   rcases List.mem_append.1 (hperm.mem_iff.1 hm) with hm|hm
   ·exact AU.1 hm
   ·have:=hout 0 (by omega)
    rw [Nat.add_zero] at this
    exact this hm
  ·refine⟨fun t _ kt=> (hk t kt).1,fun t _ kt=> (hk t kt).2.1,fun t _ kt=> ⟨fun hm=> ?_,fun hm=>hperm.mem_iff.2 (List.mem_append.2 (.inr hm))⟩,fun t _ kt=> (hk t kt).2.2.1⟩
   rcases List.mem_append.1 (hperm.mem_iff.1 hm) with hm|hm
   ·obtain⟨i,hi,e⟩ :=BD t hm
    exact absurd e ((hk t kt).2.2.2 i (by omega))
   ·exact hm
 ·rw [e] at h;exact absurd h (by simp)
theorem um {m : Mem}{w n : Int}(h : (cO m w n).2.2≠0) : (cO m w n).1=m∧ (cO m w n).2.1=0:=by
 by_cases c1 : bX m=false∨aW 0 2 w=false
 ·rw [nP c1];exact⟨rfl,rfl⟩
 have c1' : bX m=true∧aW 0 2 w=true:=by
  constructor
  ·cases e : bX m with
   |true=>rfl
   |false=>exact absurd (.inl e) c1
  ·cases e : aW 0 2 w with
   |true=>rfl
   |false=>exact absurd (.inr e) c1
 rcases(n_ n).2 with hb| ⟨c,hc,hn⟩
 ·rw [qO c1'.1 c1'.2 hb];exact⟨rfl,rfl⟩
 ·rcases pR (qY c1'.1) c1'.2 hc hn with ⟨l,s,hr,e⟩ | ⟨_,l,s,hr,e⟩ | ⟨_,hr, ⟨q,hq,hcl,hidx,e⟩ | ⟨_,e⟩⟩
  ·rw [e] at h;exact absurd rfl h
  ·rw [e] at h;exact absurd rfl h
  ·rw [e] at h;exact absurd rfl h
  ·rw [e];exact⟨rfl,rfl⟩
theorem BN {m : Mem}{w h : Int}(k : (iC m w h).2=0) : bX m=true∧aW 0 2 w=true∧fI m h=true:=by
 by_cases c1 : bX m=false∨aW 0 2 w=false
 ·rw [sI c1] at k;exact absurd k (by simp)
 have c1' : bX m=true∧aW 0 2 w=true:=by
  constructor
  ·cases e : bX m with
   |true=>rfl
   |false=>exact absurd (.inl e) c1
  ·cases e : aW 0 2 w with
   |true=>rfl
   |false=>exact absurd (.inr e) c1
 cases e : fI m h with
 |true=>exact⟨c1'.1,c1'.2,rfl⟩
 |false=>rw [sJ c1'.1 c1'.2 e] at k;exact absurd k (by simp)
theorem Ab (g : Int)(h0 : 0≤g)(h1 : g≤7) : ∀ (b : List Int) (a : Nat),a+4≤b.length→eB (putAt b a (eP 4 g)) a 4=g:=fun b a hl=>
 oP 4 g _ _ (fun j hj=>pO (by rw [f_];exact hl) (by rw [f_];exact hj)) h0 (by have : (256 : Int) ^ 4=4294967296:= (by decide);omega)
theorem AV {m : Mem}{w h : Int}(k : (iC m w h).2=0) : jd m∧fI m h=true∧jd (iC m w h).1∧bK (iC m w h).1.E (h%32) =h / 32+1∧ (∀t,ak (iC m w h).1.E t=ak m.E t) ∧Keeps m (iC m w h).1 (h%32) ∧
  (∀t,t∈fB (iC m w h).1.I→t=h%32∨t∈fB m.I) ∧ (iC m w h).1.I= (if h / 32+1≤6 then mV m.I (w.toNat * 3+ (ak m.E (h%32)).toNat) (ak m.E (h%32)).toNat (h%32) else m.I) :=by
 obtain⟨ok,hw,hl⟩ :=BN k
 have p:=qY ok
 obtain⟨hok,hcn,hnl,hge⟩ :=l7.1 hl
 obtain⟨w0,w2⟩ :=bD.1 hw
 have E9:=jV hok
 obtain⟨P,I,hP,BA,es,hcl,hI,hct,DN,_⟩ :=lT hcn
 have sh:=gQ (iU.1 p.heap).1
 have hss:=nZ hcl
 obtain⟨i1,i2⟩ :=lq (P:=P) hcl hI
 have h4:=kr hcl
 rw [sK ok hw hl]
 generalize h%32=s at *
 have hgb:=CB p.heap hcn
 rw [hge] at hgb
 have hg0 : 0≤h / 32+1:=by omega
 have E_ : h / 32+1≤7:=by omega
 have eH : jW m.E s (bK m.E s+1) = {m.E with Y:=putAt m.E.Y (fU P I (ak m.E s)) (eP 4 (h / 32+1))}:=by
  unfold jW
  rw [hge,DN,Int.toNat_natCast]
 have hlen : fU P I (ak m.E s) +4≤m.E.Y.length:=by rw [sh.bl];omega
 have hload:=Ab (h / 32+1) hg0 E_ m.E.Y (fU P I (ak m.E s)) hlen
 have Fa : fH {m.E with Y:=putAt m.E.Y (fU P I (ak m.E s)) (eP 4 (h / 32+1))}=true:=
  heap_put p.heap hcn hP hI hct hcl (qW 4 _) (Nat.le_refl _) (by rw [f_];omega) (by rw [hload];exact bD.2 ⟨by omega,by omega⟩)
 have hgs : bK {m.E with Y:=putAt m.E.Y (fU P I (ak m.E s)) (eP 4 (h / 32+1))} s=h / 32+1:=
  (kW (h:= {m.E with Y:=putAt m.E.Y (fU P I (ak m.E s)) (eP 4 (h / 32+1))}) (P:=P) (I:=I) hcn DN).trans hload
 have hgo : ∀t,t≠s→bK {m.E with Y:=putAt m.E.Y (fU P I (ak m.E s)) (eP 4 (h / 32+1))} t=bK m.E t:=fun t ht=>
  vV sh hcn ht es BA hP hI hct hcl (Nat.le_refl _) (by rw [f_];omega)
 have p1 : jd {m with E:= {m.E with Y:=putAt m.E.Y (fU P I (ak m.E s)) (eP 4 (h / 32+1))}}:=vJ p Fa (fun t ht=> ⟨rfl,fun hb=>by rw [hgo t (fun e=>hnl (e ▸ ht))];exact hb⟩)
 have AX : ∀t,t≠s→ ¬ ak m.E t<0→ ∀j< (iQ (ak m.E t)).toNat, (putAt m.E.Y (fU P I (ak m.E s)) (eP 4 (h / 32+1))).getD ((kY t (ak m.E t)).toNat+j) 0=m.E.Y.getD ((kY t (ak m.E t)).toNat+j) 0:=fun t ht kt j hj=>by
  obtain⟨Q,J,hQ,yI,et,pQ,hJ,Ep,_,est⟩ :=lT kt
  have:=vI (a:=fU P I (ak m.E s)) (ds:=eP 4 (h / 32+1)) sh hcn kt ht es BA hP hI hct hcl (Nat.le_refl _) (by rw [f_];omega) Q J et yI hJ Ep pQ (4+j) (by rw [nZ pQ];omega)
  rw [est,Int.toNat_natCast,Nat.add_assoc]
  exact this
 unfold mq
 rw [eH,hge]
 by_cases h6 : h / 32+1≤6
 case neg=>
  rw [if_neg h6]
  exact⟨p,hl,p1,hgs,fun _=>rfl, ⟨fun _ _ _=>rfl,fun t ht _=>hgo t ht,fun _ _ _=>Iff.rfl,AX⟩,fun t ht=> .inr ht,rfl⟩
 rw [if_pos h6]
 obtain⟨c,hc,ec⟩ : ∃c : Nat,c<3∧ak m.E s= (c : Int) := ⟨(ak m.E s).toNat,by have:=bD.1 hcl;omega,by have:=bD.1 hcl;omega⟩
 have hfit : ∀d : Int,d=ak m.E s→fF {m.E with Y:=putAt m.E.Y (fU P I (ak m.E s)) (eP 4 (h / 32+1))} d s=true:=fun d e=>jS.2 ⟨e.symm,by rw [hgs];exact h6⟩
 have hr : m.I.O[w.toNat * 3+c]? =some (m.I.O[w.toNat * 3+c]'(by rw [p.ow];omega)) :=List.getElem?_eq_getElem _
 have hr2 : m.I.G[c]? =some (m.I.G[c]'(by rw [p.gl];omega)) :=List.getElem?_eq_getElem _
 generalize m.I.O[w.toNat * 3+c]'(by rw [p.ow];omega) =row at hr
 generalize m.I.G[c]'(by rw [p.gl];omega) =uV at hr2
 have CF : aW 0 23 s=true:=E9.2.2.2.1
 rw [show (ak m.E s).toNat=c by omega]
 by_cases hlt : row.length<2
 ·have eg:=vF (c:=c) (s:=s) hr hlt
  have p2:=xq p1 hr hlt CF hnl (hfit _ (by rw [show (w.toNat * 3+c) %3=c by omega];exact ec.symm))
  have hp:=sP (x:=m.I) [s] hr
  rw [eg]
  refine⟨p,hl,p2,hgs,fun _=>rfl, ⟨fun _ _ _=>rfl,fun t ht _=>hgo t ht,fun t ht _=> ?_,AX⟩,fun t ht=> ?_,rfl⟩
  ·have:=hp.mem_iff (a:=t)
   simp only [List.cons_append,List.nil_append,List.mem_cons] at this
   exact⟨fun hm=> (this.1 hm).resolve_left ht,fun hm=>this.2 (.inr hm)⟩
  ·have:=hp.mem_iff (a:=t)
   simp only [List.cons_append,List.nil_append,List.mem_cons] at this
   exact this.1 ht
 ·have eg:=uf (s:=s) hr hlt hr2
  have p2:=nR p1 hr2 (r:= [s]) (fun t ht=>by rw [List.mem_singleton.1 ht];exact CF) (List.nodup_cons.2 ⟨hnl,p.nd⟩) (fun t ht=>by rw [List.mem_singleton.1 ht];exact hfit _ ec.symm)
  have hp:=mo (x:=m.I) [s] hr2
  rw [eg]
  refine⟨p,hl,p2,hgs,fun _=>rfl, ⟨fun _ _ _=>rfl,fun t ht _=>hgo t ht,fun t ht _=> ?_,AX⟩,fun t ht=> ?_,rfl⟩
  ·have:=hp.mem_iff (a:=t)
   simp only [List.cons_append,List.nil_append,List.mem_cons] at this
   exact⟨fun hm=> (this.1 hm).resolve_left ht,fun hm=>this.2 (.inr hm)⟩
  ·have:=hp.mem_iff (a:=t)
   simp only [List.cons_append,List.nil_append,List.mem_cons] at this
   exact this.1 ht
end Go.Proofs.Ytkmggglljkmjoaa
namespace Go.Proofs.Ytkmggglljkmjoaa
open Go.RowKit
def yK : Heap:= ⟨List.replicate 384 0,List.replicate 6 (-1)⟩
def xB : Lists:= ⟨List.replicate 3 [],List.replicate 9 []⟩
def lU : Mem:= ⟨yK,xB⟩
set_option maxRecDepth 100000 in
set_option maxHeartbeats 1000000 in
theorem vX (w : World) : Calls Try.prog 15 #[] w fun e w'=> ∃H' : aY,e= .returned (.agg #[.slice H'.G.a H'.G.l H'.G.c, .slice H'.O.a H'.O.l H'.O.c]) ∧dW w' H' xB∧ (∀g∈H'.foot,w.heap.size≤g) ∧Below w.heap.size w w':=by
 have GQ : ∀w, (Instr.makeSlice 27 (.int .i64 3) (.int .i64 3)).run Try.prog w= .ok (.slice (some ⟨w.heap.size,0,none⟩) 3 3) (w.alloc (.cells (madeCells #[.slice none 0 0] (3 * FS.n)) 57)) :=jT (P:=Try.prog) FS 27 57 (.agg #[.slice none 0 0]) 24 Try.underlying27 Try.infoSList 3 (by omega) (by omega)
 have GR : ∀w, (Instr.makeSlice 27 (.int .i64 9) (.int .i64 9)).run Try.prog w= .ok (.slice (some ⟨w.heap.size,0,none⟩) 9 9) (w.alloc (.cells (madeCells #[.slice none 0 0] (9 * FS.n)) 57)) :=jT (P:=Try.prog) FS 27 57 (.agg #[.slice none 0 0]) 24 Try.underlying27 Try.infoSList 9 (by omega) (by omega)
 obtain⟨w0,hW0⟩ : ∃x,x= (w.alloc (.cells #[.slice none 0 0, .slice none 0 0] 29)) := ⟨_,rfl⟩
 have au : aJ w0 (w.heap.size) [.slice none 0 0, .slice none 0 0]:=by
  rw [hW0]
  exact aJ.nw
 have hB : Below w.heap.size w w0:=by
  rw [hW0]
  exact dn
 go_enter Try.func15,Try.ntmps15
 go_wp2_with fail
 rw [←hW0]
 clear hW0
 have ji:=au.lt
 obtain⟨aA,aB,aI,aU⟩ :=au.f2
 go_region
 all_goals go_wp2_with fail
 ·have br:= (((((au.set 0 (.slice (some ⟨w0.heap.size,0,none⟩) 3 3)).set 1 (.slice (some ⟨w0.heap.size+1,0,none⟩) 9 9)).alloc (.cells (madeCells #[.slice none 0 0] (3 * FS.n)) 57)).alloc (.cells (madeCells #[.slice none 0 0] (9 * FS.n)) 57)).drew)
  have e2 : ((w0.setCell ⟨w.heap.size,0,none⟩ (.slice (some ⟨w0.heap.size,0,none⟩) 3 3)).setCell ⟨w.heap.size,1,none⟩ (.slice (some ⟨w0.heap.size+1,0,none⟩) 9 9)).heap.size=w0.heap.size:=by simp
  have oa:=dJ.made #[.slice none 0 0] rfl 3 (by simp [maxLen]) ((w0.setCell ⟨w.heap.size,0,none⟩ (.slice (some ⟨w0.heap.size,0,none⟩) 3 3)).setCell ⟨w.heap.size,1,none⟩ (.slice (some ⟨w0.heap.size+1,0,none⟩) 9 9)) FI 3 57
  rw [e2] at oa
  have ob:=dJ.made #[.slice none 0 0] rfl 9 (by simp [maxLen]) (((w0.setCell ⟨w.heap.size,0,none⟩ (.slice (some ⟨w0.heap.size,0,none⟩) 3 3)).setCell ⟨w.heap.size,1,none⟩ (.slice (some ⟨w0.heap.size+1,0,none⟩) 9 9)).alloc (.cells (madeCells #[.slice none 0 0] (3 * FS.n)) 57)) FI 3 57
  rw [World.size_alloc,e2] at ob
  have la:=oa.lt
  rw [World.size_alloc,e2] at la
  have fa:=mK w0.heap.size 3
  have fb:=mK (w0.heap.size+1) 9
  have r0:=br.cell 0 _ rfl
  have r1:=br.cell 1 _ rfl
  exact bodyPost_ret (v:= .agg #[.slice (some ⟨w0.heap.size,0,none⟩) 3 3, .slice (some ⟨w0.heap.size+1,0,none⟩) 9 9]) (by simp [results,Try.results15,go_sem,r0,r1]) rfl ⟨⟨⟨some ⟨w0.heap.size,0,none⟩,3,3⟩, (List.replicate 3 ⟨none,0,0⟩), ⟨some ⟨w0.heap.size+1,0,none⟩,9,9⟩, (List.replicate 9 ⟨none,0,0⟩)⟩,rfl, ⟨(oa.aN (.cells (madeCells #[.slice none 0 0] (9 * FS.n)) 57)).keep (fun _ _=>rfl),ob.keep (fun _ _=>rfl),fun b hb hm=>by have h1:=la b hb;have h2:=fb b hm;omega⟩,fun b hb=>by rcases aY.aZ.1 hb with hb|hb; (have:=fa b hb;omega); (have:=fb b hb;omega),Below.trans hB fJ⟩
 ·have br:= (((((au.set 0 (.slice (some ⟨w0.heap.size+1,0,none⟩) 3 3)).set 1 (.slice (some ⟨w0.heap.size,0,none⟩) 9 9)).alloc (.cells (madeCells #[.slice none 0 0] (9 * FS.n)) 57)).alloc (.cells (madeCells #[.slice none 0 0] (3 * FS.n)) 57)).drew)
  have e2 : ((w0.setCell ⟨w.heap.size,0,none⟩ (.slice (some ⟨w0.heap.size+1,0,none⟩) 3 3)).setCell ⟨w.heap.size,1,none⟩ (.slice (some ⟨w0.heap.size,0,none⟩) 9 9)).heap.size=w0.heap.size:=by simp
  have oa:=dJ.made #[.slice none 0 0] rfl 9 (by simp [maxLen]) ((w0.setCell ⟨w.heap.size,0,none⟩ (.slice (some ⟨w0.heap.size+1,0,none⟩) 3 3)).setCell ⟨w.heap.size,1,none⟩ (.slice (some ⟨w0.heap.size,0,none⟩) 9 9)) FI 3 57
  rw [e2] at oa
  have ob:=dJ.made #[.slice none 0 0] rfl 3 (by simp [maxLen]) (((w0.setCell ⟨w.heap.size,0,none⟩ (.slice (some ⟨w0.heap.size+1,0,none⟩) 3 3)).setCell ⟨w.heap.size,1,none⟩ (.slice (some ⟨w0.heap.size,0,none⟩) 9 9)).alloc (.cells (madeCells #[.slice none 0 0] (9 * FS.n)) 57)) FI 3 57
  rw [World.size_alloc,e2] at ob
  have la:=oa.lt
  rw [World.size_alloc,e2] at la
  have fa:=mK w0.heap.size 9
  have fb:=mK (w0.heap.size+1) 3
  have r0:=br.cell 0 _ rfl
  have r1:=br.cell 1 _ rfl
  exact bodyPost_ret (v:= .agg #[.slice (some ⟨w0.heap.size+1,0,none⟩) 3 3, .slice (some ⟨w0.heap.size,0,none⟩) 9 9]) (by simp [results,Try.results15,go_sem,r0,r1]) rfl ⟨⟨⟨some ⟨w0.heap.size+1,0,none⟩,3,3⟩, (List.replicate 3 ⟨none,0,0⟩), ⟨some ⟨w0.heap.size,0,none⟩,9,9⟩, (List.replicate 9 ⟨none,0,0⟩)⟩,rfl, ⟨ob.keep (fun _ _=>rfl), (oa.aN (.cells (madeCells #[.slice none 0 0] (3 * FS.n)) 57)).keep (fun _ _=>rfl),fun b hb hm=>by have h1:=la b hm;have h2:=fb b hb;omega⟩,fun b hb=>by rcases aY.aZ.1 hb with hb|hb; (have:=fb b hb;omega); (have:=fa b hb;omega),Below.trans hB fJ⟩
end Go.Proofs.Ytkmggglljkmjoaa
namespace Go.Proofs.Ytkmggglljkmjoaa
open Go.RowKit
theorem xC {g s : Int}(hs : aW 0 23 s=true)(hg : aW 1 6 g=true) : dY (g * 32+s) =true∧ (g * 32+s) %32=s∧ (g * 32+s) / 32=g:=by
 obtain⟨a,b⟩ :=bD.1 hs
 obtain⟨c,d⟩ :=bD.1 hg
 refine⟨?_,by omega,by omega⟩
 unfold dY
 simp only [Bool.and_eq_true,decide_eq_true_eq]
 omega
theorem uo {m : Mem}{h : Int}(p : jd m) : kJ m h=fI m h:=by
 unfold kJ
 rw [oz p]
 rfl
theorem zf {m : Mem}{w n : Int}(h : (cO m w n).2.2=0) : jd m∧jd (cO m w n).1∧dY (cO m w n).2.1=true∧fI (cO m w n).1 (cO m w n).2.1=true∧ak (cO m w n).1.E ((cO m w n).2.1%32) =dK n∧gu (cO m w n).1 ((cO m w n).2.1%32) =3∧gu m ((cO m w n).2.1%32) ≠3∧fI m (cO m w n).2.1=false∧Keeps m (cO m w n).1 ((cO m w n).2.1%32) ∧
  (¬ ak m.E ((cO m w n).2.1%32) <0→ak (cO m w n).1.E ((cO m w n).2.1%32) =ak m.E ((cO m w n).2.1%32) ∧bK (cO m w n).1.E ((cO m w n).2.1%32) =bK m.E ((cO m w n).2.1%32)) ∧bK (cO m w n).1.E ((cO m w n).2.1%32) = (cO m w n).2.1 / 32:=by
 obtain⟨s,p,p2,eh,hs,hg,hc,hnl,hor,hk⟩ :=Aa h
 obtain⟨_,_,c,hc3,hn⟩ :=xA h
 obtain⟨h1,h2,h3⟩ :=xC hs hg
 rw [←eh] at h1 h2 h3
 have hcn : ¬ ak (cO m w n).1.E s<0:=by rw [hc,hn];omega
 have hl : fI (cO m w n).1 (cO m w n).2.1=true:=l7.2 ⟨h1,by rw [h2];exact hcn,by rw [h2];exact hnl,by rw [h2,h3]⟩
 have hst : gu m s≠3:=fun e=>by
  obtain⟨a,b,_⟩ :=state3 e
  rcases hor with ho| ⟨ho,_⟩
  ·exact a ho
  ·exact(uY.1 b) ho
 refine⟨p,p2,h1,hl,by rw [h2];exact hc, (jg hl).2.1,by rw [h2];exact hst, ?_,by rw [h2];exact hk,fun hn0=> ?_,by rw [h2,h3]⟩
 ·cases e : fI m (cO m w n).2.1 with
  |false=>rfl
  |true=>have:= (jg e).2.1;rw [h2] at this;exact absurd this hst
 ·rw [h2] at hn0⊢
  rcases hor with ho| ⟨_,a,b⟩
  ·exact absurd ho hn0
  ·exact⟨a,b⟩
structure NR (m : Mem)(all gone live : List Int) : Prop where
 ok : jd m
 nd : live.Nodup
 lv : ∀h∈live,fI m h=true
 gn : ∀h∈gone,dY h=true∧ ¬ ak m.E (h%32) <0∧h / 32<bK m.E (h%32)
 al : ∀h∈all,h∈live∨h∈gone
theorem NR.alloc {m : Mem}{all gone live : List Int}(k : NR m all gone live){w n : Int}(h : (cO m w n).2.2=0) : (cO m w n).2.1∉all∧dY (cO m w n).2.1=true∧NR (cO m w n).1 (all++ [(cO m w n).2.1]) gone (live++ [(cO m w n).2.1]) :=by
 obtain⟨p,p2,h1,hl,_,_,hst,hnl,hk,hsm,hge⟩ :=zf h
 generalize (cO m w n).2.1=y at *
 generalize (cO m w n).1=x at *
 have hlv : ∀q∈live,q%32≠y%32:=fun q hq e=>hst (by rw [←e];exact(jg (k.lv q hq)).2.1)
 have Ac : y∉live:=fun hm=>hlv y hm rfl
 have CG : y∉gone:=fun hm=>by
  obtain⟨_,b,c⟩ :=k.gn y hm
  have:= (hsm b).2
  omega
 refine⟨fun hm=> (k.al y hm).elim Ac CG,h1,p2,tK.2 ⟨k.nd,Ac⟩,fun q hq=> ?_,fun q hq=> ?_,fun q hq=> ?_⟩
 ·rcases List.mem_append.1 hq with hq|hq
  ·exact hk.live (hlv q hq) (k.lv q hq)
  ·rw [List.mem_singleton.1 hq];exact hl
 ·obtain⟨a,b,c⟩ :=k.gn q hq
  by_cases e : q%32=y%32
  ·rw [e] at b c⊢
   obtain⟨e1,e2⟩ :=hsm b
   exact⟨a,by rw [e1];exact b,by rw [e2];exact c⟩
  ·exact⟨a,by rw [hk.kc _ e b];exact b,by rw [hk.kg _ e b];exact c⟩
 ·rcases List.mem_append.1 hq with hq|hq
  ·rcases k.al q hq with h|h
   ·exact .inl (List.mem_append.2 (.inl h))
   ·exact .inr h
  ·exact .inl (List.mem_append.2 (.inr hq))
theorem zh {m : Mem}{a b : Int}(ha : fI m a=true)(hb : fI m b=true)(e : a%32=b%32) : a=b:=by
 have h1:= (jg ha).2.2
 have h2:= (jg hb).2.2
 rw [e] at h1
 have h3 : a / 32=b / 32:=h1.symm.trans h2
 omega
theorem NR.free {m : Mem}{all gone live : List Int}(k : NR m all gone live){w : Int}(hw : aW 0 2 w=true){i : Nat}(hi : i<live.length) : (iC m w live[i]).2=0∧NR (iC m w live[i]).1 all (gone++ [live[i]]) (live.take i++live.drop (i+1)) :=by
 have hm:=List.getElem_mem hi
 have hl:=k.lv _ hm
 have h0 : (iC m w live[i]).2=0:=by rw [sK (oz k.ok) hw hl]
 have hsp : live=live.take i++ (live[i]::live.drop (i+1)) :=by rw [←List.drop_eq_getElem_cons hi,List.take_append_drop]
 have hperm : live.Perm (live[i]:: (live.take i++live.drop (i+1))) :=by
  conv=>lhs;rw [hsp]
  exact List.perm_middle
 have hnd:=List.nodup_cons.1 (hperm.nodup_iff.1 k.nd)
 have hmem : ∀q,q∈live↔q=live[i]∨q∈live.take i++live.drop (i+1) :=fun q=>by rw [hperm.mem_iff,List.mem_cons]
 refine⟨h0, ?_⟩
 obtain⟨p,_,p2,hg,hc,hk,_,_⟩ :=AV h0
 generalize live.take i++live.drop (i+1) =rest at *
 generalize live[i]=y at *
 generalize (iC m w y).1=x at *
 have Fb:= (l7.1 hl).2.1
 have hyg:= (jg hl).2.2
 refine⟨p2,hnd.2,fun q hq=> ?_,fun q hq=> ?_,fun q hq=> ?_⟩
 ·have tN:=k.lv q ((hmem q).2 (.inr hq))
  exact hk.live (fun e=>hnd.1 (zh tN hl e ▸ hq)) tN
 ·rcases List.mem_append.1 hq with hq|hq
  ·obtain⟨a,b,c⟩ :=k.gn q hq
   refine⟨a,by rw [hc];exact b, ?_⟩
   by_cases e : q%32=y%32
   ·rw [e] at c⊢
    omega
   ·rw [hk.kg _ e b];exact c
  ·rw [List.mem_singleton.1 hq]
   exact⟨(l7.1 hl).1,by rw [hc];exact Fb,by omega⟩
 ·rcases k.al q hq with h|h
  ·rcases(hmem q).1 h with rfl|h
   ·exact .inr (List.mem_append.2 (.inr (List.mem_singleton_self _)))
   ·exact .inl h
  ·exact .inr (List.mem_append.2 (.inl h))
theorem NR.stale {m : Mem}{all gone live : List Int}(k : NR m all gone live){h : Int}(hm : h∈gone) : fI m h=false∧kJ m h=false∧ (iC m 0 h).2=4:=by
 obtain⟨a,b,c⟩ :=k.gn h hm
 have hl : fI m h=false:=by
  cases e : fI m h with
  |false=>rfl
  |true=>have:= (jg e).2.2;omega
 exact⟨hl,by rw [uo k.ok];exact hl,by rw [sJ (oz k.ok) (by decide) hl]⟩
theorem NR.valid {m : Mem}{all gone live : List Int}(k : NR m all gone live){h : Int}(hm : h∈live) : kJ m h=true:=by
 rw [uo k.ok]
 exact k.lv h hm
theorem Ad : jd lU:=qY (by decide+kernel)
theorem NR.new : NR lU [] [] []:= ⟨Ad,List.nodup_nil,fun _ h=>absurd h (by simp),fun _ h=>absurd h (by simp),fun _ h=>absurd h (by simp)⟩
theorem vO {w n : Int}(hw : aW 0 2 w=true)(h1 : 1≤n)(h2 : n≤40) : (cO lU w n).2.2=0:=by
 have hc : ∃c : Nat,c<3∧dK n= (c : Int) :=by
  rcases(n_ n).2 with h|h
  ·exfalso
   unfold dK at h
   rw [if_neg (by omega)] at h
   split at h
   ·omega
   ·split at h
    ·omega
    ·omega
  ·exact h
 obtain⟨c,hc,hn⟩ :=hc
 rcases pR Ad hw hc hn with ⟨l,s,hr,e⟩ | ⟨_,l,s,hr,e⟩ | ⟨_,_, ⟨q,_,_,_,e⟩ | ⟨hi,_⟩⟩
 ·rw [e]
 ·rw [e]
 ·rw [e]
 ·exact absurd hi (by decide)
end Go.Proofs.Ytkmggglljkmjoaa
namespace Go.Proofs.Ytkmggglljkmjoaa
open Go.RowKit
variable {α : Type} {T : FT α} {w : World} {t e : TypeId} {P : Program}
theorem Ae (T : FT α)(l : List α)(i : Nat) : flat T (l.drop i) = (flat T l).drop (i * T.n) :=by
 induction l generalizing i with
 |nil=>simp [flat]
 |cons x l ih=>
  cases i with
  |zero=>simp [flat]
  |succ i=>
   show flat T (l.drop i) = (T.enc x++flat T l).drop ((i+1) * T.n)
   have hd : (T.enc x).drop ((i+1) * T.n) = []:=List.drop_of_length_le (by rw [T.len,Nat.succ_mul];omega)
   rw [ih i,List.drop_append,T.len,hd,List.nil_append]
   congr 1
   rw [Nat.succ_mul];omega
def xD (g off c k n : Nat) : Option Addr:=if c=k then some ⟨g,off,none⟩ else some ⟨g,off+k * n,none⟩
theorem dz.Dl {g off len c B : Nat}{l : List α}(h : dz T w B (.slice (some ⟨g,off,none⟩) len c) l)(k : Nat)(hk : k≤len) : dz T w B (.slice (xD g off c k T.n) (len - k) (c - k)) (l.drop k) :=by
 obtain⟨A,cap,hv,h1,h2,h3⟩ :=h
 injection hv with e1 e2 e3
 subst e2 e3
 refine⟨_,c - k,by rw [List.length_drop],by rw [List.length_drop];omega,by omega,fun hne=> ?_⟩
 have hl : l≠ []:=by rintro rfl;simp at hne
 have hlt : k<l.length:=by
  rcases Nat.lt_or_ge k l.length with h|h
  ·exact h
  ·exact absurd (List.drop_eq_nil_of_le h) hne
 obtain⟨g',off',hA,hg,hc⟩ :=h3 hl
 rw [←e1] at hA
 simp only [Option.some.injEq,Addr.mk.injEq,and_true] at hA
 obtain⟨rfl,rfl⟩ :=hA
 refine⟨g,off+k * T.n, ?_,hg,fun j u hu=> ?_⟩
 ·unfold xD
  rw [if_neg (by omega)]
 ·rw [Ae,List.getElem?_drop] at hu
  rw [Nat.add_assoc]
  exact hc _ u hu
theorem bF.spare {g n c : Nat}{l : List α}(h : bF T e w (.slice (some ⟨g,0,none⟩) n c) l)(j : Nat)(hj : j<c * T.n) : (w.cell? ⟨g,j,none⟩).isSome=true:=by
 rcases h.2 with ⟨h',_⟩ | ⟨g',cap',cur,h',_,hg,hnc,hcm,hcs,htake⟩
 ·simp at h'
 ·simp only [Value.slice.injEq,Option.some.injEq,Addr.mk.injEq,and_true] at h'
  obtain⟨rfl,_,rfl⟩ :=h'
  rw [cell_of_row w g j cur e (0,0) hg,Array.getElem?_eq_getElem (by omega)]
  rfl
end Go.Proofs.Ytkmggglljkmjoaa
