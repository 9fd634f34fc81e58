/-
  Several texts in one: lemmas and contracts that the claim rests on.
-/
import Derived.Test.YtkmggglljkmjoaaUHNoReuse2
import Derived.Test.YtkmggglljkmjoaaUHNoReuse1
import Derived.Deep.QuietTactic
import Derived.BigQuiet
import Derived.Deep.LoopGhost
import Derived.Deep.RegionHeld3
import Derived.WalkSpells
import Derived.Laws.Cover3
import Derived.Test.YtkmggglljkmjoaaUHNoReuse17
import Derived.Test.YtkmggglljkmjoaaUHNoReuse8
import Derived.Test.YtkmggglljkmjoaaUHNoReuse3
import Derived.Test.YtkmggglljkmjoaaUHNoReuse16
namespace Go.Proofs.Ytkmggglljkmjoaa
open Go.RowKit
theorem nO {h : Heap}{c s : Int}(hok : fH h=true)(hf : fF h c s=true)(hc : aW 0 2 c=true) : aW 0 23 s=true∧ak h s=c∧aW 1 6 (bK h s) =true:=by
 unfold fF at hf
 simp only [Bool.and_eq_true,beq_iff_eq,decide_eq_true_eq] at hf
 obtain⟨h1,h2⟩ :=hf
 obtain⟨c0,c2⟩ :=bD.1 hc
 have hn : ¬ ak h s<0:=by omega
 have ha : ¬ fq s (iL h s) <0:=fun e=>hn (by unfold ak;rw [if_pos e];decide)
 have hcl : iL h s=c:=by unfold ak at h1;rw [if_neg ha] at h1;exact h1
 rw [hcl] at ha
 have hg : aW 0 23 s=true∧aW 0 2 c=true∧s%4<bq c:=by
  by_cases hh : aW 0 23 s=true∧aW 0 2 c=true∧s%4<bq c
  ·exact hh
  ·exact absurd (by unfold fq;rw [if_neg hh];decide) ha
 obtain⟨s0,s1⟩ :=bD.1 hg.1
 have hgen : bK h s=fu h.Y (s / 4 * 64+8+s%4 * bS c) 4:=by
  unfold bK
  rw [if_neg hn,h1]
  unfold fq
  rw [if_pos hg]
 have hst:= (l8 c).1
 have hp : (s / 4).toNat<6:=by omega
 unfold fH at hok
 simp only [Bool.and_eq_true] at hok
 have hpg:=List.all_eq_true.1 hok.2 (s / 4).toNat (List.mem_range.2 hp)
 unfold iL at hcl
 unfold eu at hpg
 rw [hcl,if_neg (by omega)] at hpg
 simp only [Bool.and_eq_true] at hpg
 have hgs:=hpg.2
 unfold dU at hgs
 have:=List.all_eq_true.1 hgs (s%4).toNat (List.mem_range.2 (by omega))
 rw [show (((s / 4).toNat * 64+8+ (s%4).toNat * (bS c).toNat : Nat) : Int) =s / 4 * 64+8+s%4 * bS c by
  simp only [Int.natCast_add,Int.natCast_mul,Int.toNat_of_nonneg (show 0≤s / 4 by omega),Int.toNat_of_nonneg (show 0≤s%4 by omega),Int.toNat_of_nonneg hst]
  rfl] at this
 rw [←hgen] at this
 obtain⟨a,b⟩ :=bD.1 this
 exact⟨hg.1,h1,bD.2 ⟨a,h2⟩⟩
theorem wZ {m : Mem}{k : Nat}{l : List Int}{s : Int}(hok : bX m=true)(hk : k<9)(hr : m.I.O[k]? =some l)(hs : s∈l) : fF m.E ((k%3 : Nat) : Int) s=true:=by
 unfold bX at hok
 simp only [Bool.and_eq_true] at hok
 have:=List.all_eq_true.1 hok.2 k (List.mem_range.2 hk)
 rw [List.getD_eq_getElem?_getD,hr] at this
 exact List.all_eq_true.1 this s hs
theorem rT {m : Mem}{c : Nat}{l : List Int}{s : Int}(hok : bX m=true)(hc : c<3)(hr : m.I.G[c]? =some l)(hs : s∈l) : fF m.E (c : Int) s=true:=by
 unfold bX at hok
 simp only [Bool.and_eq_true] at hok
 have:=List.all_eq_true.1 hok.1.2 c (List.mem_range.2 hc)
 rw [List.getD_eq_getElem?_getD,hr] at this
 exact List.all_eq_true.1 this s hs
def kL (m : Mem)(p c : Nat) : Mem:= {E:=dR m.E p c,I:= {m.I with G:=m.I.G.set c (m.I.G.getD c []++ (dN p (bq (c : Int)).toNat).drop 1)}}
def zZ (m : Mem)(k : Nat) : Mem:= {m with I:= {m.I with O:=m.I.O.set k (m.I.O.getD k []).dropLast}}
def vG (m : Mem)(c : Nat) : Mem:= {m with I:= {m.I with G:=m.I.G.set c (m.I.G.getD c []).dropLast}}
def mX (h : Heap)(s : Int) : Int:=bK h s * 32+s
def ko (m : Mem)(w c : Nat) : Mem×Int×Int:=
 match (m.I.O.getD (w * 3+c) []).getLast? with
 |some s=> (zZ m (w * 3+c),mX m.E s,0)
 |none=>match (m.I.G.getD c []).getLast? with
  |some s=> (vG m c,mX m.E s,0)
  |none=>if idxOf (fun y=>y == -1) m.E.Z<0 then (m,0,3) else
   (kL m (idxOf (fun y=>y == -1) m.E.Z).toNat c,mX (dR m.E (idxOf (fun y=>y == -1) m.E.Z).toNat c) (((idxOf (fun y=>y == -1) m.E.Z).toNat * 4 : Nat) : Int),0)
def cO (m : Mem)(w n : Int) : Mem×Int×Int:=if bX m=false∨aW 0 2 w=false then (m,0,1) else if dK n<0 then (m,0,2) else ko m w.toNat (dK n).toNat
theorem nP {m : Mem}{w n : Int}(c : bX m=false∨aW 0 2 w=false) : cO m w n= (m,0,1) :=if_pos c
theorem qO {m : Mem}{w n : Int}(c1 : bX m=true)(c2 : aW 0 2 w=true)(c3 : dK n<0) : cO m w n= (m,0,2) :=by
 unfold cO
 rw [if_neg (by rw [c1,c2];decide),if_pos c3]
theorem w_ {m : Mem}{w n : Int}(c1 : bX m=true)(c2 : aW 0 2 w=true)(c3 : ¬ dK n<0) : cO m w n=ko m w.toNat (dK n).toNat:=by
 unfold cO
 rw [if_neg (by rw [c1,c2];decide),if_neg c3]
theorem ug {m : Mem}{w c : Nat}{l : List Int}{s : Int}(h : m.I.O[w * 3+c]? =some (l++ [s])) : ko m w c= ({m with I:= {m.I with O:=m.I.O.set (w * 3+c) l}},bK m.E s * 32+s,0) :=by
 unfold ko zZ mX
 rw [List.getD_eq_getElem?_getD,h]
 simp
theorem p9 {m : Mem}{w c : Nat}{l : List Int}{s : Int}(h0 : m.I.O[w * 3+c]? =some [])(h : m.I.G[c]? =some (l++ [s])) : ko m w c= ({m with I:= {m.I with G:=m.I.G.set c l}},bK m.E s * 32+s,0) :=by
 unfold ko vG mX
 rw [List.getD_eq_getElem?_getD,h0,List.getD_eq_getElem?_getD,h]
 simp
theorem rU {m : Mem}{w c : Nat}(h0 : m.I.O[w * 3+c]? =some [])(h : m.I.G[c]? =some [])(hp : idxOf (fun y=>y == -1) m.E.Z= -1) : ko m w c= (m,0,3) :=by
 unfold ko
 rw [List.getD_eq_getElem?_getD,h0,List.getD_eq_getElem?_getD,h,hp]
 simp
theorem qP {m : Mem}{w c p : Nat}(h0 : m.I.O[w * 3+c]? =some [])(h : m.I.G[c]? =some [])(hp : idxOf (fun y=>y == -1) m.E.Z= (p : Int)) : ko m w c= (kL m p c,bK (dR m.E p c) ((p * 4 : Nat) : Int) * 32+ ((p * 4 : Nat) : Int),0) :=by
 unfold ko mX
 rw [List.getD_eq_getElem?_getD,h0,List.getD_eq_getElem?_getD,h,hp]
 simp only [Option.getD_some,List.getLast?_nil,Int.toNat_natCast]
 rw [if_neg (by omega)]
end Go.Proofs.Ytkmggglljkmjoaa
namespace Go.Proofs.Ytkmggglljkmjoaa
open Go.RowKit
theorem pK {c : Int}(hc : aW 0 2 c=true) : 1≤bq c:=by
 rcases cls hc with rfl|rfl|rfl<;>decide
theorem kr {c : Int}(hc : aW 0 2 c=true) : 4≤ (bS c).toNat:=by
 rcases cls hc with rfl|rfl|rfl<;>decide
theorem xg {b : List Int}{p : Nat}{c : Int}(hb : b.all (aW 0 255) =true)(hc : aW 0 2 c=true) : ∀i, (h_ b p c i).all (aW 0 255) =true
 |0=>by
  unfold h_
  refine qw hb ?_
  rcases cls hc with rfl|rfl|rfl<;>decide
 |i+1=>by
  unfold h_
  exact qw (xg hb hc i) (qW 4 1)
theorem uh {b : List Int}{p : Nat}{c : Int}(hb : b.length=384)(hp : p<6)(hc : aW 0 2 c=true)(j : Nat)(hj : j<4) : ∀i,i+1≤ (bq c).toNat→ (h_ b p c (i+1))[p * 64+8+j]? = (eP 4 1)[j]?
 |0,hi=>by
  unfold h_
  rw [show p * 64+8+0 * (bS c).toNat=p * 64+8 by omega]
  exact qy (by rw [j_ hb hp hc 0 (by omega),f_];omega) (by rw [f_];exact hj)
 |i+1,hi=>by
  have hr:=jM hc (i:=i+1) (by omega)
  have hs:=kr hc
  have hm : (bS c).toNat≤ (i+1) * (bS c).toNat:=Nat.le_mul_of_pos_left _ (by omega)
  rw [show h_ b p c (i+1+1) =putAt (h_ b p c (i+1)) (p * 64+8+ (i+1) * (bS c).toNat) (eP 4 1) from rfl,pW (by rw [j_ hb hp hc (i+1) (by omega),f_];omega) (.inl (by omega))]
  exact uh hb hp hc j hj i (by omega)
theorem rV {h : Heap}{p c : Nat}(hs : d_ h=true)(hp : p<6)(hc : c<3) : d_ (dR h p c) =true∧ak (dR h p c) ((p * 4 : Nat) : Int) =c∧bK (dR h p c) ((p * 4 : Nat) : Int) =1:=by
 have hcl : aW 0 2 (c : Int) =true:=bD.2 ⟨by omega,by omega⟩
 have sh:=gQ hs
 have hlen:=j_ (b:=h.Y) (p:=p) (c:= (c : Int)) sh.bl hp hcl (bq (c : Int)).toNat (Nat.le_refl _)
 have hpp:=pK hcl
 have hca : iL (dR h p c) ((p * 4 : Nat) : Int) =c:=by
  unfold iL dR
  rw [show ((((p * 4 : Nat) : Int) / 4).toNat) =p by omega,List.getD_eq_getElem?_getD,List.getElem?_set_self (by rw [sh.cl];exact hp)]
  rfl
 have hga : fq ((p * 4 : Nat) : Int) c= ((p * 64+8 : Nat) : Int) :=by
  unfold fq
  have hm : ((p * 4 : Nat) : Int) %4=0:=by omega
  rw [if_pos ⟨bD.2 ⟨by omega,by omega⟩,hcl,by omega⟩,hm]
  omega
 have hci : ak (dR h p c) ((p * 4 : Nat) : Int) =c:=by
  unfold ak
  rw [hca,if_neg (by rw [hga];omega)]
 refine⟨?_,hci, ?_⟩
 ·unfold d_ gY at hs⊢
  simp only [Bool.and_eq_true,beq_iff_eq] at hs⊢
  refine⟨⟨⟨hlen, ?_⟩, ?_, ?_⟩, ?_⟩
  ·unfold dR
   rw [List.length_set]
   exact hs.1.1.2
  ·unfold dR
   simp only []
   rw [hlen]
   decide
  ·exact xg hs.1.2.2 hcl _
  ·refine List.all_eq_true.2 fun y hy=> ?_
   unfold dR at hy
   rcases List.mem_or_eq_of_mem_set hy with hy|rfl
   ·exact List.all_eq_true.1 hs.2 y hy
   ·exact bD.2 ⟨by omega,by omega⟩
 ·unfold bK
  rw [hci,if_neg (by omega),hga]
  unfold fu
  obtain⟨k,hk⟩ : ∃k, (bq (c : Int)).toNat=k+1:= ⟨(bq (c : Int)).toNat - 1,by omega⟩
  have hf:=fun j hj=>uh (b:=h.Y) sh.bl hp hcl j hj k (by omega)
  rw [show (((p * 64+8 : Nat) : Int)).toNat=p * 64+8 by omega,show (4 : Int).toNat=4 from rfl]
  unfold dR
  simp only []
  rw [hk]
  have f0:=hf 0 (by decide)
  have f1:=hf 1 (by decide)
  have f2:=hf 2 (by decide)
  have f3:=hf 3 (by decide)
  simp only [eB,List.getD_eq_getElem?_getD,f0,f1,f2,f3]
  decide
end Go.Proofs.Ytkmggglljkmjoaa
namespace Go.Proofs.Ytkmggglljkmjoaa
open Go.RowKit
theorem state3 {m : Mem}{s : Int}(h : gu m s=3) : ¬ ak m.E s<0∧iw m.I s=false∧bK m.E s≤6:=by
 unfold gu at h
 by_cases k1 : ak m.E s<0
 ·rw [if_pos k1] at h
  exact absurd h (by decide)
 ·rw [if_neg k1] at h
  by_cases k2 : iw m.I s=true
  ·rw [if_pos k2] at h
   exact absurd h (by decide)
  ·rw [if_neg k2] at h
   by_cases k3 : 6<bK m.E s
   ·rw [if_pos k3] at h
    exact absurd h (by decide)
   ·exact⟨k1, (Bool.not_eq_true _).mp k2,by omega⟩
theorem Cz {h : Heap}{s : Int}(sh : Shape h)(k : ¬ ak h s<0) : 0≤ak h s∧ak h s≤2:=by
 have:=uL sh s
 rcases jH h s with ⟨e,_⟩ | ⟨e,_⟩ <;>omega
theorem z8 {m : Mem}{wk c : Nat}{s g : Int}(hc : ak m.E s= (c : Int))(hg : bK m.E s=g) : mq m wk s= ⟨jW m.E s (g+1),if g+1≤6 then mV m.I (wk * 3+c) c s else m.I⟩ :=by
 unfold mq
 rw [hc,hg,Int.toNat_natCast]
set_option maxRecDepth 100000 in
set_option maxHeartbeats 8000000 in
theorem y8 (w : World)(H : bY)(x : Mem)(wk : Nat)(a : Int)(h : gD w w.heap.size H x)(hs : dS x≤536870912)(c1 : bX x=true)(hw : wk<3)(c3 : fI x a=true) :
  Calls Try.prog 20 #[.agg #[.slice H.E.Y.a H.E.Y.l H.E.Y.c, .slice H.E.Z.a H.E.Z.l H.E.Z.c, .slice H.I.G.a H.I.G.l H.I.G.c, .slice H.I.O.a H.I.O.l H.I.O.c], .int .i64 wk, .int .i64 a] w fun e w'=> ∃H' : bY,e= .returned (.agg #[.slice H'.E.Y.a H'.E.Y.l H'.E.Y.c, .slice H'.E.Z.a H'.E.Z.l H'.E.Z.c, .slice H'.I.G.a H'.I.G.l H'.I.G.c, .slice H'.I.O.a H'.I.O.l H'.I.O.c]) ∧eX w' H' (mq x wk (a%32)) ∧ (∀g∈H'.foot,w.heap.size≤g) ∧Below w.heap.size w w':=by
 obtain⟨l1,l2,l3⟩ :=jg c3
 obtain⟨e1,e2,_,e4,_,_⟩ :=jV l1
 obtain⟨k1,k2,k3⟩ :=state3 l2
 have hsh:=jN c1
 obtain⟨d1,d2⟩ :=Cz (gQ hsh) k1
 obtain⟨c,hc⟩ : ∃c : Nat,ak x.E (a%32) = (c : Int) := ⟨(ak x.E (a%32)).toNat,by omega⟩
 have hcn : c<3:=by omega
 have HE:=Hid.aD (z8 (wk:=wk) hc l3)
 have iO : iK x.E≤536870912∧eU x.I≤536870912:=by unfold dS at hs;omega
 have hsg:=fun (W : World) (hW : Below w.heap.size w W) =>y7 W H.E x.E (a%32) (a / 32+1) (dH h.E hW) iO.1 hsh k1 (by omega) (by omega)
 have hcl:=fun (W : World) (hW : Below w.heap.size w W) =>gN W H.I x.I (dP h.I hW) iO.2
 have hci:=fun (W : World) (hW : Below w.heap.size w W) =>lK W H.E x.E (a%32) (dH h.E hW) hsh
 rw [hc] at hci
 have hgv:=fun (W : World) (hW : Below w.heap.size w W) =>AJ W H.I x.I wk c (a%32) (dP h.I hW) iO.2 (iX c1) hw hcn e4 k2
 clear l1 l2 l3 e4 k1 k2 k3 hsh d1 d2 hc iO hs c1 c3
 obtain⟨w0,hW0⟩ : ∃x,x= ((w.alloc (.cells #[.slice H.E.Y.a H.E.Y.l H.E.Y.c, .slice H.E.Z.a H.E.Z.l H.E.Z.c, .slice H.I.G.a H.I.G.l H.I.G.c, .slice H.I.O.a H.I.O.l H.I.O.c] 31)).alloc (.cells #[.slice none 0 0, .slice none 0 0, .slice none 0 0, .slice none 0 0] 31)) := ⟨_,rfl⟩
 have aC : aJ w0 (w.heap.size) [.slice H.E.Y.a H.E.Y.l H.E.Y.c, .slice H.E.Z.a H.E.Z.l H.E.Z.c, .slice H.I.G.a H.I.G.l H.I.G.c, .slice H.I.O.a H.I.O.l H.I.O.c]:=by
  rw [hW0]
  exact aJ.alloc aJ.nw _
 have au : aJ w0 (w.heap.size+1) [.slice none 0 0, .slice none 0 0, .slice none 0 0, .slice none 0 0]:=by
  rw [hW0]
  exact aJ.nw
 have hB : Below w.heap.size w w0:=by
  rw [hW0]
  exact dn
 go_enter Try.func20,Try.ntmps20
 go_wp2_with fail
 rw [←hW0]
 clear hW0
 have jy:=aC.lt
 have ji:=au.lt
 obtain⟨aF,aG,aQ,aR,aK,aV⟩ :=aC.f4
 obtain⟨aA,aB,aL,aM,aI,aU⟩ :=au.f4
 refine(hsg _ hB).mono ?_
 rintro e w1 ⟨dD,rfl,bC,gF,hb⟩
 have jO:=bC.lt
 replace aC:=aC.below hb
 replace au:=au.below hb
 replace hB:=hB.trans (hb.mono hB.size)
 have sz:=hb.size
 clear hb
 clear aF aG aQ aR aK aV
 obtain⟨aF,aG,aQ,aR,aK,aV⟩ :=aC.f4
 clear aA aB aL aM aI aU
 obtain⟨aA,aB,aL,aM,aI,aU⟩ :=au.f4
 clear hsg
 go_upto_region 3 with (fail)
 generalize hO : Obj.cells #[.slice dD.Y.a dD.Y.l dD.Y.c, .slice dD.Z.a dD.Z.l dD.Z.c] 26=O_
 replace aC:=aC.alloc O_
 replace au:=au.alloc O_
 replace bC:=bC.aN O_
 replace hB:=hB.alloc hB.size O_
 have bR : aJ (w1.alloc O_) w1.heap.size [.slice dD.Y.a dD.Y.l dD.Y.c, .slice dD.Z.a dD.Z.l dD.Z.c]:=hO ▸ aJ.new _ _ _
 have l6:=bR.lt
 have sz : w1.heap.size≤ (w1.alloc O_).heap.size:=Nat.le_of_lt bR.lt
 generalize hG : (w1.alloc O_) =w2 at aC au bC hB bR l6 sz⊢
 clear hG hO O_
 clear aF aG aQ aR aK aV
 obtain⟨aF,aG,aQ,aR,aK,aV⟩ :=aC.f4
 clear aA aB aL aM aI aU
 obtain⟨aA,aB,aL,aM,aI,aU⟩ :=au.f4
 obtain⟨bZ,b_,dF,dX⟩ :=bR.f2
 go_upto_region 3 with (fail)
 go_cut [11] from 11 to 29 (fun v11 wx=> ∃ (go : Nat) (fQ : aY),v11= .pointer (some ⟨go,0,none⟩) ∧aJ wx (w.heap.size) [.slice H.E.Y.a H.E.Y.l H.E.Y.c, .slice H.E.Z.a H.E.Z.l H.E.Z.c, .slice H.I.G.a H.I.G.l H.I.G.c, .slice H.I.O.a H.I.O.l H.I.O.c]∧aJ wx (w.heap.size+1) [.slice none 0 0, .slice none 0 0, .slice none 0 0, .slice none 0 0]∧aJ wx (w1.heap.size) [.slice dD.Y.a dD.Y.l dD.Y.c, .slice dD.Z.a dD.Z.l dD.Z.c]∧aJ wx go [.slice dD.Y.a dD.Y.l dD.Y.c, .slice dD.Z.a dD.Z.l dD.Z.c, .slice fQ.G.a fQ.G.l fQ.G.c, .slice fQ.O.a fQ.O.l fQ.O.c]∧eT wx dD (jW x.E (a%32) (a / 32+1)) ∧dW wx fQ x.I∧ (∀g∈fQ.foot,w2.heap.size≤g∧g≠go) ∧w2.heap.size≤go∧Below w.heap.size w wx∧w2.heap.size≤wx.heap.size)
 case first=>
  go_region_with (first| (go_at_call 38; (first| ((with_reducible refine(hcl _ hB).mono ?_);rintro e wq ⟨fQ,rfl,bf,dB,hb⟩;have iG:=bf.lt;replace aC:=aC.below hb;replace au:=au.below hb;replace bR:=bR.below hb;replace bC:=bC.step0 hb;replace hB:=hB.trans (hb.mono hB.size);have sz:=hb.size; (try replace ay:=ay.below hb); (try replace aO:=ay.cell 0 _ rfl); (try replace aP:=ay.cell 1 _ rfl); (try replace bA:=ay.cell 2 _ rfl); (try replace bB:=ay.cell 3 _ rfl); (try replace aX:=ay.fP); (try replace bJ:=ay.lt);clear hb;clear aF aG aQ aR aK aV;obtain⟨aF,aG,aQ,aR,aK,aV⟩ :=aC.f4;clear aA aB aL aM aI aU;obtain⟨aA,aB,aL,aM,aI,aU⟩ :=au.f4;clear bZ b_ dF dX;obtain⟨bZ,b_,dF,dX⟩ :=bR.f2) | ((with_reducible refine(hcl _ hB.drew).mono ?_);rintro e wq ⟨fQ,rfl,bf,dB,hb⟩;replace hb:=eY hb;replace dB:=iA dB;have iG:=bf.lt;replace aC:=aC.below hb;replace au:=au.below hb;replace bR:=bR.below hb;replace bC:=bC.step0 hb;replace hB:=hB.trans (hb.mono hB.size);have sz:=hb.size; (try replace ay:=ay.below hb); (try replace aO:=ay.cell 0 _ rfl); (try replace aP:=ay.cell 1 _ rfl); (try replace bA:=ay.cell 2 _ rfl); (try replace bB:=ay.cell 3 _ rfl); (try replace aX:=ay.fP); (try replace bJ:=ay.lt);clear hb;clear aF aG aQ aR aK aV;obtain⟨aF,aG,aQ,aR,aK,aV⟩ :=aC.f4;clear aA aB aL aM aI aU;obtain⟨aA,aB,aL,aM,aI,aU⟩ :=au.f4;clear bZ b_ dF dX;obtain⟨bZ,b_,dF,dX⟩ :=bR.f2) | ((with_reducible refine(hcl _ (hB.alloc hB.size _)).mono ?_);rintro e wq ⟨fQ,rfl,bf,dB,hb⟩;simp only [World.size_alloc] at dB;have iG:=bf.lt;replace aC:= (aC.alloc _).below hb;replace au:= (au.alloc _).below hb;replace bR:= (bR.alloc _).below hb;replace bC:=bC.step hb;replace hB:=eF hB hb hB.size;have sz:=hb.size;simp only [World.size_alloc] at sz;have ay:=aJ.below (aJ.new _ #[.slice none 0 0, .slice none 0 0, .slice none 0 0, .slice none 0 0] 31) hb;obtain⟨aO,aP,bA,bB,aX,bJ⟩ :=ay.f4;clear hb;clear aF aG aQ aR aK aV;obtain⟨aF,aG,aQ,aR,aK,aV⟩ :=aC.f4;clear aA aB aL aM aI aU;obtain⟨aA,aB,aL,aM,aI,aU⟩ :=au.f4;clear bZ b_ dF dX;obtain⟨bZ,b_,dF,dX⟩ :=bR.f2) | ((with_reducible refine(hcl _ (hB.alloc hB.size _).drew).mono ?_);rintro e wq ⟨fQ,rfl,bf,dB,hb⟩;replace hb:=eY hb;replace dB:=iA dB;simp only [World.size_alloc] at dB;have iG:=bf.lt;replace aC:= (aC.alloc _).below hb;replace au:= (au.alloc _).below hb;replace bR:= (bR.alloc _).below hb;replace bC:=bC.step hb;replace hB:=eF hB hb hB.size;have sz:=hb.size;simp only [World.size_alloc] at sz;have ay:=aJ.below (aJ.new _ #[.slice none 0 0, .slice none 0 0, .slice none 0 0, .slice none 0 0] 31) hb;obtain⟨aO,aP,bA,bB,aX,bJ⟩ :=ay.f4;clear hb;clear aF aG aQ aR aK aV;obtain⟨aF,aG,aQ,aR,aK,aV⟩ :=aC.f4;clear aA aB aL aM aI aU;obtain⟨aA,aB,aL,aM,aI,aU⟩ :=au.f4;clear bZ b_ dF dX;obtain⟨bZ,b_,dF,dX⟩ :=bR.f2))))
  all_goals
   go_wp2_with fail
   go_meet
   first|exact⟨_,fQ,rfl,aC.alloc _,au.alloc _,bR.alloc _,aJ.new _ _ _,bC.aN _,bf.aN _,fun g hg=> ⟨by have:=dB g hg;omega,by have:=iG g hg;omega⟩,by omega,hB.alloc hB.size _,by simp<;>omega⟩ | (obtain⟨go,hgo,kT⟩ :=ay.ad;rw [←hgo];exact⟨go,fQ,rfl, ((((aC.other (by omega) _).other (by omega) _).other (by omega) _).other (by omega) _), ((((au.other (by omega) _).other (by omega) _).other (by omega) _).other (by omega) _), ((((bR.other (by omega) _).other (by omega) _).other (by omega) _).other (by omega) _), ((((kT.set 0 _).set 1 _).set 2 _).set 3 _),bC.bn (F:= [go]) bV (fun g hg hm=>by simp only [List.mem_cons,List.not_mem_nil,or_false] at hm;have:=gF g hg;have:=jO g hg;omega),bf.bn (F:= [go]) bV (fun g hg hm=>by simp only [List.mem_cons,List.not_mem_nil,or_false] at hm;have:=dB g hg;have:=iG g hg;omega),fun g hg=> ⟨by have:=dB g hg;omega,by have:=dB g hg;have:=iG g hg;omega⟩,by omega,Below.trans hB fJ,by simp<;>omega⟩)
 case rest=>
  clear aC aK aV aF aG aQ aR
  clear au aI aU aA aB aL aM
  clear bR dF dX bZ b_
  clear bC
  clear hB
  obtain⟨go,fQ,rfl,aC,au,bR,ay,bC,bf,nG,sM,hB,sz⟩ :=hcut
  have dB:=fun g hg=> (nG g hg).1
  have jR:=fun g hg=> (nG g hg).2
  have iG:=bf.lt
  clear nG
  have iF:=ay.lt
  obtain⟨aF,aG,aQ,aR,aK,aV⟩ :=aC.f4
  obtain⟨aA,aB,aL,aM,aI,aU⟩ :=au.f4
  obtain⟨bZ,b_,dF,dX⟩ :=bR.f2
  obtain⟨aO,aP,bA,bB,aX,bJ⟩ :=ay.f4
  clear hcl
  by_cases kg : a / 32+1≤6
  case pos=>
   have HF : Hid (mq x wk (a%32) = ⟨jW x.E (a%32) (a / 32+1),mV x.I (wk * 3+c) c (a%32)⟩) :=by rw [HE.out,if_pos kg];exact rfl
   go_wp2_with fail
   go_region_with (first| (go_at_call 44; (first| ((with_reducible refine(hci _ hB).mono ?_);rintro e wq ⟨rfl,hb⟩;replace aC:=aC.below hb;replace au:=au.below hb;replace bR:=bR.below hb;replace ay:=ay.below hb;replace bC:=bC.step0 hb;replace bf:=bf.step0 hb; (try replace kF:=kF.step0 hb);replace hB:=hB.trans (hb.mono hB.size);have sz:=hb.size;clear hb;clear aF aG aQ aR aK aV;obtain⟨aF,aG,aQ,aR,aK,aV⟩ :=aC.f4;clear aA aB aL aM aI aU;obtain⟨aA,aB,aL,aM,aI,aU⟩ :=au.f4;clear bZ b_ dF dX;obtain⟨bZ,b_,dF,dX⟩ :=bR.f2;clear aO aP bA bB aX bJ;obtain⟨aO,aP,bA,bB,aX,bJ⟩ :=ay.f4) | ((with_reducible refine(hci _ hB.drew).mono ?_);rintro e wq ⟨rfl,hb⟩;replace hb:=eY hb;replace aC:=aC.below hb;replace au:=au.below hb;replace bR:=bR.below hb;replace ay:=ay.below hb;replace bC:=bC.step0 hb;replace bf:=bf.step0 hb; (try replace kF:=kF.step0 hb);replace hB:=hB.trans (hb.mono hB.size);have sz:=hb.size;clear hb;clear aF aG aQ aR aK aV;obtain⟨aF,aG,aQ,aR,aK,aV⟩ :=aC.f4;clear aA aB aL aM aI aU;obtain⟨aA,aB,aL,aM,aI,aU⟩ :=au.f4;clear bZ b_ dF dX;obtain⟨bZ,b_,dF,dX⟩ :=bR.f2;clear aO aP bA bB aX bJ;obtain⟨aO,aP,bA,bB,aX,bJ⟩ :=ay.f4))) | (go_at_call 43; (first| ((with_reducible refine(hgv _ hB).mono ?_);rintro e wq ⟨bI,rfl,kF,ou,hb⟩;have u_n:=kF.lt;replace aC:=aC.below hb;replace au:=au.below hb;replace bR:=bR.below hb;replace ay:=ay.below hb;replace bC:=bC.step0 hb;replace bf:=bf.step0 hb;replace hB:=hB.trans (hb.mono hB.size);have sz:=hb.size;clear hb;clear aF aG aQ aR aK aV;obtain⟨aF,aG,aQ,aR,aK,aV⟩ :=aC.f4;clear aA aB aL aM aI aU;obtain⟨aA,aB,aL,aM,aI,aU⟩ :=au.f4;clear bZ b_ dF dX;obtain⟨bZ,b_,dF,dX⟩ :=bR.f2;clear aO aP bA bB aX bJ;obtain⟨aO,aP,bA,bB,aX,bJ⟩ :=ay.f4) | ((with_reducible refine(hgv _ hB.drew).mono ?_);rintro e wq ⟨bI,rfl,kF,ou,hb⟩;replace hb:=eY hb;replace ou:=iA ou;have u_n:=kF.lt;replace aC:=aC.below hb;replace au:=au.below hb;replace bR:=bR.below hb;replace ay:=ay.below hb;replace bC:=bC.step0 hb;replace bf:=bf.step0 hb;replace hB:=hB.trans (hb.mono hB.size);have sz:=hb.size;clear hb;clear aF aG aQ aR aK aV;obtain⟨aF,aG,aQ,aR,aK,aV⟩ :=aC.f4;clear aA aB aL aM aI aU;obtain⟨aA,aB,aL,aM,aI,aU⟩ :=au.f4;clear bZ b_ dF dX;obtain⟨bZ,b_,dF,dX⟩ :=bR.f2;clear aO aP bA bB aX bJ;obtain⟨aO,aP,bA,bB,aX,bJ⟩ :=ay.f4))))
   all_goals
    go_wp2_with fail
    refine bodyPost_ret (v:= .agg #[.slice dD.Y.a dD.Y.l dD.Y.c, .slice dD.Z.a dD.Z.l dD.Z.c, .slice bI.G.a bI.G.l bI.G.c, .slice bI.O.a bI.O.l bI.O.c]) (by simp [results,Try.results20,go_sem,aA,aB,aL,aM]) rfl ⟨⟨dD,bI⟩,rfl,by rw [HF.out];exact⟨bC.bn (F:= [w.heap.size+1,go]) bV (fun g hg hm=>by simp only [List.mem_cons,List.not_mem_nil,or_false] at hm;have:=gF g hg;have:=jO g hg;omega),kF.bn (F:= [w.heap.size+1,go]) bV (fun g hg hm=>by simp only [List.mem_cons,List.not_mem_nil,or_false] at hm;have:=ou g hg;have:=u_n g hg;omega),fun b hb hm=>by have:=jO b hb;have:=gF b hb;have:=u_n b hm;have:=ou b hm;omega⟩,fun b hb=>by rcases bY.aZ.1 hb with hb|hb; (have:=gF b hb;omega); (have:=ou b hb;omega),Below.trans hB fJ⟩
  case neg=>
   have HF : Hid (mq x wk (a%32) = ⟨jW x.E (a%32) (a / 32+1),x.I⟩) :=by rw [HE.out,if_neg kg];exact rfl
   go_wp2_with fail
   refine bodyPost_ret (v:= .agg #[.slice dD.Y.a dD.Y.l dD.Y.c, .slice dD.Z.a dD.Z.l dD.Z.c, .slice fQ.G.a fQ.G.l fQ.G.c, .slice fQ.O.a fQ.O.l fQ.O.c]) (by simp [results,Try.results20,go_sem,aA,aB,aL,aM]) rfl ⟨⟨dD,fQ⟩,rfl,by rw [HF.out];exact⟨bC.bn (F:= [w.heap.size+1]) bV (fun g hg hm=>by simp only [List.mem_cons,List.not_mem_nil,or_false] at hm;have:=gF g hg;have:=jO g hg;omega),bf.bn (F:= [w.heap.size+1]) bV (fun g hg hm=>by simp only [List.mem_cons,List.not_mem_nil,or_false] at hm;have:=dB g hg;have:=iG g hg;omega),fun b hb hm=>by have:=jO b hb;have:=gF b hb;have:=iG b hm;have:=dB b hm;omega⟩,fun b hb=>by rcases bY.aZ.1 hb with hb|hb; (have:=gF b hb;omega); (have:=dB b hb;omega),Below.trans hB fJ⟩
end Go.Proofs.Ytkmggglljkmjoaa
