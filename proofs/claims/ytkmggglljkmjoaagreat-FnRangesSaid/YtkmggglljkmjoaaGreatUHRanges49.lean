/- m -/
import Derived.Test.YtkmggglljkmjoaaGreatUHRanges48
set_option maxRecDepth 100000
set_option maxHeartbeats 0
namespace Go.Proofs.YtkmggglljkmjoaaGreat
open Go.RowKit
def JM (w : World)(g : Nat)(code : List Int)(e : Ending)(w' : World) : Prop:= ∃ (K : aA) (y : Base) (h : Int),e= .returned (.tuple #[K.val y, .int .i64 h]) ∧dz w' K y∧vU y∧ (∀b∈K.foot,w.heap.size≤b) ∧Lim.fQ w' g code∧bn [g] w w'
theorem FH {w : World}{b n c : Nat}{l : List Int}(o : aX FI 3 w (.slice (some ⟨b,0,none⟩) n c) l) : ∀j : Nat,j<l.length→w.cell? ⟨b,j,none⟩ =some (.int .i64 (l.getD j 0)) :=fun j hj=>by
 obtain⟨b',he,_,h⟩ :=EK o hj;injection he with he;injection he with he;subst he;rw [h,XY,XL hj,Option.getD_some]
theorem Rq {w : World}{b n g i : Nat}{f : Nat→Value}(h : ∀j : Nat,j<n→w.cell? ⟨b,j,none⟩ =some (f j))(hn : g≠b)(v : Value) : ∀j : Nat,j<n→ (w.setCell ⟨g,i,none⟩ v).cell? ⟨b,j,none⟩ =some (f j) :=fun j hj=>by
 rw [←h j hj];simp only [World.cell?,j5 w v hn]
theorem JN {w : World}{g : Nat}{code : List Int}(h : Lim.fQ w g code) : Lim.fQ w.drew g code:=h.drewN 1
theorem MS {W : World}{K : aA}{y : Base}{n : Nat}(h : W.heap.size=n) : aJ (W.alloc (.cells #[.slice K.Mem.E.Y.a K.Mem.E.Y.l K.Mem.E.Y.c, .slice K.Mem.E.Z.a K.Mem.E.Z.l K.Mem.E.Z.c, .slice K.Mem.I.G.a K.Mem.I.G.l K.Mem.I.G.c, .slice K.Mem.I.O.a K.Mem.I.O.l K.Mem.I.O.c, .int .i64 y.Clock.Epoch, .slice K.Clock.aK.a K.Clock.aK.l K.Clock.aK.c, .slice K.aB.a K.aB.l K.aB.c, .slice K.bf.a K.bf.l K.bf.c] 37)) n (K.row y) :=aJ.new2 _ _ _ h
theorem Oh {W : World}{t : aO}{n : Nat}(h : W.heap.size=n) : aJ (W.alloc (.cells #[.int .i64 t.k, .int .i64 t.a, .int .i64 t.p, .int .i64 t.e, .int .i64 t.r, .int .i64 t.b, .int .i64 t.h, .int .i64 t.o, .int .i64 t.c, .bool t.d] 155)) n t.row:=aJ.new2 _ _ _ h
theorem TV {W : World}{g : Nat}{K : aA}{y : Base}(h : aJ W g wm) : aJ ((((((((W.setCell ⟨g,0,none⟩ (.slice K.Mem.E.Y.a K.Mem.E.Y.l K.Mem.E.Y.c)).setCell ⟨g,1,none⟩ (.slice K.Mem.E.Z.a K.Mem.E.Z.l K.Mem.E.Z.c)).setCell ⟨g,2,none⟩ (.slice K.Mem.I.G.a K.Mem.I.G.l K.Mem.I.G.c)).setCell ⟨g,3,none⟩ (.slice K.Mem.I.O.a K.Mem.I.O.l K.Mem.I.O.c)).setCell ⟨g,4,none⟩ (.int .i64 y.Clock.Epoch)).setCell ⟨g,5,none⟩ (.slice K.Clock.aK.a K.Clock.aK.l K.Clock.aK.c)).setCell ⟨g,6,none⟩ (.slice K.aB.a K.aB.l K.aB.c)).setCell ⟨g,7,none⟩ (.slice K.bf.a K.bf.l K.bf.c)) g (K.row y) :=aJ.zD h
theorem TW {W : World}{g : Nat}{t : aO}(h : aJ W g Mj) : aJ ((((((((((W.setCell ⟨g,0,none⟩ (.int .i64 t.k)).setCell ⟨g,1,none⟩ (.int .i64 t.a)).setCell ⟨g,2,none⟩ (.int .i64 t.p)).setCell ⟨g,3,none⟩ (.int .i64 t.e)).setCell ⟨g,4,none⟩ (.int .i64 t.r)).setCell ⟨g,5,none⟩ (.int .i64 t.b)).setCell ⟨g,6,none⟩ (.int .i64 t.h)).setCell ⟨g,7,none⟩ (.int .i64 t.o)).setCell ⟨g,8,none⟩ (.int .i64 t.c)).setCell ⟨g,9,none⟩ (.bool t.d)) g t.row:=aJ.PS h
theorem LB.TY {w W X : World}{g a : Nat}{code : List Int}{K : aA}{y : Base}{A : Option Addr}{c : Nat}{l : List Int}(L : LB w W g a code K y A c l){F : List Nat}(hx : bn F W X)(hF : ∀n∈F,w.heap.size<n∧n∉K.foot∧n∉bq (.slice A l.length c)) : LB w X g a code K y A c l:=
 ⟨L.r.aM hx (fun e=>by have:= (hF _ e).1;omega),L.o.aM hx (fun b hb e=> (hF b e).2.1 hb),L.i.aM hx (fun b hb e=> (hF b e).2.2 hb),L.fo,L.fl,L.cu.nJ L.gl (hx.below L.C.size (fun b hb=>by have:= (hF b hb).1;omega)) L.C.size,L.C.BH hx (fun b hb=>by have:= (hF b hb).1;omega),L.gl, ⟨L.ha.1,XO L.ha.2 hx.size⟩,L.ne,L.sz⟩
theorem r16 {w V X : World}{g a gi c ax sa : Nat}{code : List Int}{K K2 : aA}{y y2 : Base}{t2 : aO}{l : List Int}{v11 v12 : Value}(e1 : v11= .pointer (some ⟨ax,0,none⟩))(e2 : v12= .pointer (some ⟨sa,0,none⟩))(bx : aJ X ax (K2.row y2))(bs : aJ X sa t2.row)(bb : aJ V a (K.row y))(L : LB w V g a code K2 y2 (some ⟨gi,0,none⟩) c l)(hX : bn [ax,sa] V X)(h1 : w.heap.size<ax∧ax∉K2.foot∧ax≠gi∧ax≠a)(h2 : w.heap.size<sa∧sa∉K2.foot∧sa≠gi∧sa≠a) :
  ∃ (ax sa : Nat) (K2 : aA) (y2 : Base) (t2 : aO),v11= .pointer (some ⟨ax,0,none⟩) ∧v12= .pointer (some ⟨sa,0,none⟩) ∧aJ X ax (K2.row y2) ∧aJ X sa t2.row∧aJ X a (K.row y) ∧LB w X g a code K2 y2 (some ⟨gi,0,none⟩) c l∧ (w.heap.size<sa∧sa≠a∧ax≠a∧sa≠gi) :=
 ⟨ax,sa,K2,y2,t2,e1,e2,bx,bs,bb.aM hX (by have:=h1.2.2.2;have:=h2.2.2.2;simp;omega),L.TY hX (fun n hn=>by
  simp only [Pe,Pd,XK] at hn;rcases hn with rfl|rfl
  ·exact⟨h1.1,h1.2.1,fun e=>h1.2.2.1 (dB.1 e)⟩
  ·exact⟨h2.1,h2.2.1,fun e=>h2.2.2.1 (dB.1 e)⟩),h2.1,h2.2.2.2,h1.2.2.2,h2.2.2.1⟩
theorem LB.R6 {w W V : World}{g a : Nat}{code : List Int}{K : aA}{y : Base}{A : Option Addr}{c : Nat}{l : List Int}(L : LB w W g a code K y A c l){D : Option Addr}{d N : Nat}{x : Int}(hN : (l++ [x]).length=N)(o : aX FI 3 V (.slice D N d) (l++ [x]))(hg : W.grownBy V (Value.slice A l.length c).ownBlock)(hat : (Value.slice D N d).ownBlock= (Value.slice A l.length c).ownBlock∨ (Value.slice D N d).ownBlock=some W.heap.size) : LB w V g a code K y D d (l++ [x]) :=by
 subst hN;exact L.told o hg hat
theorem Qk {K : aA}{K3 : bV}{n N V W : Nat}(l3 : ∀b∈K3.foot,W≤b)(u3 : ∀b∈ (K.mem K3).foot,b<V)(u2 : ∀b∈K.foot,b<N)(h : N≤n∧ (n<W∨V≤n)) : n∉ (K.mem K3).foot:=fun e=>by
 rcases aA.aI.1 e with q|q|q|q
 ·have h1:=l3 _ q
  have h2:=u3 _ e;omega
 ·have:=u2 _ (aA.aI.2 (.inr (.inl q)));omega
 ·have:=u2 _ (aA.aI.2 (.inr (.inr (.inl q))));omega
 ·have:=u2 _ (aA.aI.2 (.inr (.inr (.inr q))));omega
theorem Rs : vU pI:= ⟨XR (nH I5) (by decide),by decide,by decide,by decide⟩
structure Holes (T : Prop) where
 A : Prop
 B : Prop
 run : Hid A→Hid B→T
def X_ (w : World)(g : Nat)(code : List Int)(hc : Lim.fQ w g code) : Holes (Calls Tryz.prog 115 #[.pointer (some ⟨g,0,none⟩), .int .i64 26] w (JM w g code)) :=by
 apply Holes.mk
 case run=>
  intro hA hB;have hgl:=hc.lt;obtain⟨w1,hW⟩ : ∃W,W=w.alloc (.cells #[.slice none 0 0, .slice none 0 0, .slice none 0 0, .slice none 0 0, .int .i64 0, .slice none 0 0, .slice none 0 0, .slice none 0 0] 37) := ⟨_,rfl⟩;have aj : aJ w1 w.heap.size wm:=by rw [hW];exact aJ.new w _ _
  have hC : bn [g] w w1:=by rw [hW];exact(bn.refl _ _).av _
  replace hc : Lim.fQ w1 g code:=by rw [hW];exact hc.alloc _
  have zr:=aj.lt;go_enter Tryz.func115,Tryz.ntmps115;go_upto_region 1 with (fail);rw [←hW];clear hW;go_wp2_with fail;refine(JH _).mono ?_;rintro e1 w2 ⟨Kn,rfl,jh,jM,hb⟩;replace aj:=aj.below hb;replace hC:=hC.trans (bn.of_below hb);replace hc:=hc.up hb;have LA:=jh.lt;have N9:=hb.size;clear hb;simp only [aA.val];go_upto_region 2 with (fail);obtain⟨w3,hW⟩ : ∃W,W=w2.alloc (.cells #[.slice Kn.Mem.E.Y.a Kn.Mem.E.Y.l Kn.Mem.E.Y.c, .slice Kn.Mem.E.Z.a Kn.Mem.E.Z.l Kn.Mem.E.Z.c, .slice Kn.Mem.I.G.a Kn.Mem.I.G.l Kn.Mem.I.G.c, .slice Kn.Mem.I.O.a Kn.Mem.I.O.l Kn.Mem.I.O.c, .int .i64 pI.Clock.Epoch, .slice Kn.Clock.aK.a Kn.Clock.aK.l Kn.Clock.aK.c, .slice Kn.aB.a Kn.aB.l Kn.aB.c, .slice Kn.bf.a Kn.bf.l Kn.bf.c] 37) := ⟨_,rfl⟩;have fK : aJ w3 w2.heap.size (Kn.row pI) :=by rw [hW];exact aJ.new w2 _ _
  replace aj:=aj.alloc (.cells #[.slice Kn.Mem.E.Y.a Kn.Mem.E.Y.l Kn.Mem.E.Y.c, .slice Kn.Mem.E.Z.a Kn.Mem.E.Z.l Kn.Mem.E.Z.c, .slice Kn.Mem.I.G.a Kn.Mem.I.G.l Kn.Mem.I.G.c, .slice Kn.Mem.I.O.a Kn.Mem.I.O.l Kn.Mem.I.O.c, .int .i64 pI.Clock.Epoch, .slice Kn.Clock.aK.a Kn.Clock.aK.l Kn.Clock.aK.c, .slice Kn.aB.a Kn.aB.l Kn.aB.c, .slice Kn.bf.a Kn.bf.l Kn.bf.c] 37);replace hC:=hC.av (.cells #[.slice Kn.Mem.E.Y.a Kn.Mem.E.Y.l Kn.Mem.E.Y.c, .slice Kn.Mem.E.Z.a Kn.Mem.E.Z.l Kn.Mem.E.Z.c, .slice Kn.Mem.I.G.a Kn.Mem.I.G.l Kn.Mem.I.G.c, .slice Kn.Mem.I.O.a Kn.Mem.I.O.l Kn.Mem.I.O.c, .int .i64 pI.Clock.Epoch, .slice Kn.Clock.aK.a Kn.Clock.aK.l Kn.Clock.aK.c, .slice Kn.aB.a Kn.aB.l Kn.aB.c, .slice Kn.bf.a Kn.bf.l Kn.bf.c] 37);replace hc:=hc.alloc (.cells #[.slice Kn.Mem.E.Y.a Kn.Mem.E.Y.l Kn.Mem.E.Y.c, .slice Kn.Mem.E.Z.a Kn.Mem.E.Z.l Kn.Mem.E.Z.c, .slice Kn.Mem.I.G.a Kn.Mem.I.G.l Kn.Mem.I.G.c, .slice Kn.Mem.I.O.a Kn.Mem.I.O.l Kn.Mem.I.O.c, .int .i64 pI.Clock.Epoch, .slice Kn.Clock.aK.a Kn.Clock.aK.l Kn.Clock.aK.c, .slice Kn.aB.a Kn.aB.l Kn.aB.c, .slice Kn.bf.a Kn.bf.l Kn.bf.c] 37);replace jh:=jh.aM (F:= []) ((bn.refl _ _).av (.cells #[.slice Kn.Mem.E.Y.a Kn.Mem.E.Y.l Kn.Mem.E.Y.c, .slice Kn.Mem.E.Z.a Kn.Mem.E.Z.l Kn.Mem.E.Z.c, .slice Kn.Mem.I.G.a Kn.Mem.I.G.l Kn.Mem.I.G.c, .slice Kn.Mem.I.O.a Kn.Mem.I.O.l Kn.Mem.I.O.c, .int .i64 pI.Clock.Epoch, .slice Kn.Clock.aK.a Kn.Clock.aK.l Kn.Clock.aK.c, .slice Kn.aB.a Kn.aB.l Kn.aB.c, .slice Kn.bf.a Kn.bf.l Kn.bf.c] 37)) (fun _ _ hm=>by cases hm);rw [←hW] at aj hC hc jh⊢;have zb:=fK.lt;have Tg : ∀b∈Kn.foot,b<w3.heap.size:=jh.lt;clear hW;go_upto_region 3 with (fail);have LI:=aX.lit FI [0] #[.int .i64 0] rfl (by simp [maxLen]) w3 3
  have L : LB w (w3.alloc (.cells #[.int .i64 0] 3)) g w2.heap.size code Kn pI (some ⟨w3.heap.size,0,none⟩) 1 [0]:=
   ⟨aj.alloc _,jh.aM (F:= []) ((bn.refl _ _).av _) (fun _ _ hm=>by cases hm),LI,fun b hm=> ⟨by have:=jM b hm;omega,by have:=LA b hm;omega⟩,fun b hm=>by
    have:=dB.1 hm;subst this;exact⟨by omega,by omega,fun e=>by have:=Tg _ e;omega⟩,hc.alloc _,hC.av _,hgl, ⟨by omega,by simp;omega⟩,by decide,Rs⟩
  replace fK:=fK.alloc (.cells #[.int .i64 0] 3);clear LI aj hC hc jh jM LA Tg;generalize w3.alloc (.cells #[.int .i64 0] 3) =w4 at L fK⊢;generalize (some ⟨w3.heap.size,0,none⟩ : Option Addr) =A0 at L⊢;generalize w2.heap.size=a at L fK⊢;clear zr N9 zb;go_wp2_with fail;refine(Lim.bU _ g code 26 (by unfold dV;omega) L.cu).mono ?_;rintro e1 w5 ⟨ni,rfl,n0,n1,cu,hx⟩;have hga : a∉ [g]:=by have:=L.ha.1;have:=L.gl;simp;omega
  replace L:=L.draw hx cu;replace fK:=fK.aM hx hga;obtain⟨nn,rfl⟩ :=XP n0;have hn : nn≤25:=by omega
  clear hx cu n0 n1 hgl;go_wp2_with fail;go_loopw [7,8,9,10,11,12,13,14] (fun v7 v8 _ _ _ _ _ _ wr=> ∃ (n : Nat) (K : aA) (y : Base) (A : Option Addr) (c : Nat) (l : List Int),v7= .slice A l.length c∧v8= .int .i64 (n : Int) ∧n≤25∧l.length+n≤30∧aJ wr a (K.row y) ∧LB w wr g a code K y A c l) (fun _ v8 _ _ _ _ _ _ _=> (intOf v8).toNat)
  case atStart=>exact⟨nn,Kn,pI,A0,1, [0],rfl,rfl,hn,by simp;omega,fK,L⟩
  case round=>
   clear L fK hn;obtain⟨n,K,y,A,c,l,rfl,rfl,hn,hln,fK,L⟩ :=hrel;by_cases hpos : 0<n
   ·go_upto_block 1 with (fail)
    go_cut [7,9,10,11,12,13,14] from 20 to 138 (fun v7 _ _ _ _ _ _ wx=> ∃ (K : aA) (y : Base) (A : Option Addr) (c : Nat) (l : List Int),v7= .slice A l.length c∧l.length+n≤31∧aJ wx a (K.row y) ∧LB w wx g a code K y A c l)
    case first=>
     go_wp2_with fail;refine(Lim.bU _ g code 3 (by unfold dV;omega) L.cu).mono ?_;rintro e1 wA ⟨wi,rfl,k0,k1,cu,hx⟩;replace L:=L.draw hx cu;replace fK:=fK.aM hx hga;obtain⟨wk,rfl⟩ :=XP k0;have hwk : wk<3:=by omega
     clear hx cu k0 k1;go_wp2_with fail;refine(Lim.bU _ g code (l.length : Int) (by unfold dV;omega) L.cu).mono ?_;rintro e1 wB ⟨ji,rfl,k0,k1,cu,hx⟩;replace L:=L.draw hx cu;replace fK:=fK.aM hx hga;obtain⟨j,rfl⟩ :=XP k0;have hne:=L.ne;have hj : j<l.length:=by omega
     clear hx cu k0 k1;obtain⟨gi,he2,hgi,pj⟩ :=EK L.i hj;subst he2;have hj3 : (j : Int) < (l.length : Int) :=by omega
     generalize l[j]=hh at pj;go_wp2_with fail;refine(Lim.bU _ g code 12 (by unfold dV;omega) L.cu).mono ?_;rintro e1 wD ⟨ki,rfl,k0,k1,cu,hx⟩;replace L:=L.draw hx cu;replace fK:=fK.aM hx hga;obtain⟨k,rfl⟩ :=XP k0;have hk : k<12:=by omega
     clear hx cu k0 k1 pj hj3 hj hgi;have bL:=fK.f8;have hz0 : dV 0:=by unfold dV;omega
     by_cases hk4 : k<4
     ·go_upto_if 54 with (fail)
      go_cut [54] from 20 to 138 (fun v54 wx=>v54= .bool true∧wx=wD)
      case first=>
       rcases(by omega : k=0∨k=1∨k=2∨k=3) with rfl|rfl|rfl|rfl
       all_goals
        go_wp2_with fail;go_meet;exact⟨rfl,rfl⟩
      case rest=>
       obtain⟨rfl,rfl⟩ :=hcut;clear hk hk4;have zb:=fK.lt;have JO:=L.ha.1;have Xd:=L.gl;have Xe:= (L.fl gi (dB.2 rfl)).1;have Xf:= (L.fl gi (dB.2 rfl)).2.1;have NU:=dQ L.i gi (dB.2 rfl);go_upto_region 16 with (fail);rename_i Ka Ja Kb ha hb Qc hq Kd hd
       go_cut [11,12] from 20 to 138 (fun v11 v12 wx=> ∃ (ax sa : Nat) (K2 : aA) (y2 : Base) (t2 : aO),v11= .pointer (some ⟨ax,0,none⟩) ∧v12= .pointer (some ⟨sa,0,none⟩) ∧aJ wx ax (K2.row y2) ∧aJ wx sa t2.row∧aJ wx a (K.row y) ∧LB w wx g a code K2 y2 (some ⟨gi,0,none⟩) c l∧ (w.heap.size<sa∧sa≠a∧ax≠a∧sa≠gi))
       case first=>
        rename_i Je Ke he hf
        clear hd Kd ha hb hq
        clear_value Qc
        revert Kn A0 a nn u11 u12 u13 u14 n K y c l Kb wk gi Qc hh wc u20 u21 u22 u23 u24 u25 u26 u27 u28 u29 u30 u31 u32 u33 u34 u35 u36 u37 u38 u39 u40 u41 u42 u43 u44 u45 u46 u47 u48 u49 u50 u51 u52 u53 u55 u56 u57 u58 u59 u60 u61 u62 u63 u64 u65 u66 u67 u68 u69 u70 u71 u72 u73 u74 u75 u76 u77 u78 u79 u80 u81 u82 u83 u84 u85 u86 u87 u88 u89 u90 u91 u92 u93 u94 u95 u96 u97 u98 u99 u100 u101 u102 u103 u104 u105 u106 u107 u108 u109 u110 u111 u112 u113 u114 u115 u116 u117 u118 u119 u120 u121 u122 u123 u124 u125 u126 u127 u128 u129 u130 u131 u132 u133 u134 u135 u136 u137 u138 Je Ke;exact hA.out
       case rest=>
        clear L fK bL zb NU hq
        clear_value Qc
        revert Kn A0 a nn u13 u14 n K y c l Ja Kb wk gi Qc hh Kd wc u11 u12 u20 u21 u22 u23 u24 u25 u26 u27 u28 u29 u30 u31 u32 u33 u34 u35 u36 u37 u38 u39 u40 u41 u42 u43 u44 u45 u46 u47 u48 u49 u50 u51 u52 u53 u54 u55 u56 u57 u58 u59 u60 u61 u62 u63 u64 u65 u66 u67 u68 u69 u70 u71 u72 u73 u74 u75 u76 u77 u78 u79 u80 u81 u82 u83 u84 u85 u86 u87 u88 u89 u90 u91 u92 u93 u94 u95 u96 u97 u98 u99 u100 u101 u102 u103 u104 u105 u106 u107 u108 u109 u110 u111 u112 u113 u114 u115 u116 u117 u118 u119 u120 u121 u122 u123 u124 u125 u126 u127 u128 u129 u130 u131 u132 u133 u134 u135 u136 u137 u138;exact hB.out
     rcases(by omega : k=4∨k=5∨k=6∨k=7∨k=8∨k=9∨k=10∨k=11) with rfl|rfl|rfl|rfl|rfl|rfl|rfl|rfl
     ·go_wp2_with fail
      go_region_with (first| (go_at_call 172;refine(rz _ _ _).mono ?_;rintro e1 wq ⟨rfl,hb⟩;obtain⟨os,d',rfl⟩ :=bN hb;clear hb) | (go_at_call 171;refine(rA (w:=w) (g:=g) (a:=a) (code:=code) (K:=K) (y:=y) (A:=some ⟨gi,0,none⟩) (c:=c) (l:=l) ?L wk hwk ⟨2,hh,0,0,0,0,0,0,0,false⟩ hz0).mono ?_; (case L=> ((repeat (first|with_reducible exact L|with_reducible refine LB.bZ ?_ _ _|with_reducible refine LB.av ?_ _|with_reducible refine LB.aY ?_|with_reducible refine LB.qH ?_ _))));rintro e1 w9 ⟨K2,y2,t2,rfl,L2,l2,hb⟩;have B9 : aJ w9 a (K.row y) :=aJ.below (by first|with_reducible exact fK|with_reducible exact fK.drew|with_reducible exact fK.below (below_grow _ _ _)) hb;have f9:=B9.f8;simp only [aA.val,aO.val]))
      all_goals
       go_wp2_with fail;go_meet;exact⟨K2,y2,_,c,l,rfl,by omega,aJ.zD B9, (by repeat (first|with_reducible exact L2|with_reducible refine LB.qH ?_ _))⟩
     ·go_wp2_with fail
      go_region_with (first| (go_at_call 172;refine(rz _ _ _).mono ?_;rintro e1 wq ⟨rfl,hb⟩;obtain⟨os,d',rfl⟩ :=bN hb;clear hb) | (go_at_call 171;refine(rA (w:=w) (g:=g) (a:=a) (code:=code) (K:=K) (y:=y) (A:=some ⟨gi,0,none⟩) (c:=c) (l:=l) ?L wk hwk ⟨2,hh,0,0,0,0,0,0,0,false⟩ hz0).mono ?_; (case L=> ((repeat (first|with_reducible exact L|with_reducible refine LB.bZ ?_ _ _|with_reducible refine LB.av ?_ _|with_reducible refine LB.aY ?_|with_reducible refine LB.qH ?_ _))));rintro e1 w9 ⟨K2,y2,t2,rfl,L2,l2,hb⟩;have B9 : aJ w9 a (K.row y) :=aJ.below (by first|with_reducible exact fK|with_reducible exact fK.drew|with_reducible exact fK.below (below_grow _ _ _)) hb;have f9:=B9.f8;simp only [aA.val,aO.val]))
      all_goals
       go_wp2_with fail;go_meet;exact⟨K2,y2,_,c,l,rfl,by omega,aJ.zD B9, (by repeat (first|with_reducible exact L2|with_reducible refine LB.qH ?_ _))⟩
     ·go_wp2_with fail
      go_region_with (first| (go_at_call 172;refine(rz _ _ _).mono ?_;rintro e1 wq ⟨rfl,hb⟩;obtain⟨os,d',rfl⟩ :=bN hb;clear hb) | (go_at_call 171;refine(rA (w:=w) (g:=g) (a:=a) (code:=code) (K:=K) (y:=y) (A:=some ⟨gi,0,none⟩) (c:=c) (l:=l) ?L wk hwk ⟨3,0,0,0,0,0,0,0,0,false⟩ hz0).mono ?_; (case L=> ((repeat (first|with_reducible exact L|with_reducible refine LB.bZ ?_ _ _|with_reducible refine LB.av ?_ _|with_reducible refine LB.aY ?_|with_reducible refine LB.qH ?_ _))));rintro e1 w9 ⟨K2,y2,t2,rfl,L2,l2,hb⟩;have B9 : aJ w9 a (K.row y) :=aJ.below (by first|with_reducible exact fK|with_reducible exact fK.drew|with_reducible exact fK.below (below_grow _ _ _)) hb;have f9:=B9.f8;simp only [aA.val,aO.val]))
      all_goals
       go_wp2_with fail;go_meet;exact⟨K2,y2,_,c,l,rfl,by omega,aJ.zD B9, (by repeat (first|with_reducible exact L2|with_reducible refine LB.qH ?_ _))⟩
     ·go_wp2_with fail
      go_region_with (first| (go_at_call 172;refine(rz _ _ _).mono ?_;rintro e1 wq ⟨rfl,hb⟩;obtain⟨os,d',rfl⟩ :=bN hb;clear hb) | (go_at_call 171;refine(rA (w:=w) (g:=g) (a:=a) (code:=code) (K:=K) (y:=y) (A:=some ⟨gi,0,none⟩) (c:=c) (l:=l) ?L wk hwk ⟨3,0,0,0,0,0,0,0,0,false⟩ hz0).mono ?_; (case L=> ((repeat (first|with_reducible exact L|with_reducible refine LB.bZ ?_ _ _|with_reducible refine LB.av ?_ _|with_reducible refine LB.aY ?_|with_reducible refine LB.qH ?_ _))));rintro e1 w9 ⟨K2,y2,t2,rfl,L2,l2,hb⟩;have B9 : aJ w9 a (K.row y) :=aJ.below (by first|with_reducible exact fK|with_reducible exact fK.drew|with_reducible exact fK.below (below_grow _ _ _)) hb;have f9:=B9.f8;simp only [aA.val,aO.val]))
      all_goals
       go_wp2_with fail;go_meet;exact⟨K2,y2,_,c,l,rfl,by omega,aJ.zD B9, (by repeat (first|with_reducible exact L2|with_reducible refine LB.qH ?_ _))⟩
     ·go_wp2_with fail
      go_region_with (first| (go_at_call 172;refine(rz _ _ _).mono ?_;rintro e1 wq ⟨rfl,hb⟩;obtain⟨os,d',rfl⟩ :=bN hb;clear hb) | (go_at_call 171;refine(rA (w:=w) (g:=g) (a:=a) (code:=code) (K:=K) (y:=y) (A:=some ⟨gi,0,none⟩) (c:=c) (l:=l) ?L wk hwk ⟨4,0,0,0,0,0,0,0,0,false⟩ hz0).mono ?_; (case L=> ((repeat (first|with_reducible exact L|with_reducible refine LB.bZ ?_ _ _|with_reducible refine LB.av ?_ _|with_reducible refine LB.aY ?_|with_reducible refine LB.qH ?_ _))));rintro e1 w9 ⟨K2,y2,t2,rfl,L2,l2,hb⟩;have B9 : aJ w9 a (K.row y) :=aJ.below (by first|with_reducible exact fK|with_reducible exact fK.drew|with_reducible exact fK.below (below_grow _ _ _)) hb;have f9:=B9.f8;simp only [aA.val,aO.val]))
      all_goals
       go_wp2_with fail;go_meet;exact⟨K2,y2,_,c,l,rfl,by omega,aJ.zD B9, (by repeat (first|with_reducible exact L2|with_reducible refine LB.qH ?_ _))⟩
     ·go_wp2_with fail
      go_region_with (first| (go_at_call 172;refine(rz _ _ _).mono ?_;rintro e1 wq ⟨rfl,hb⟩;obtain⟨os,d',rfl⟩ :=bN hb;clear hb) | (go_at_call 171;refine(rA (w:=w) (g:=g) (a:=a) (code:=code) (K:=K) (y:=y) (A:=some ⟨gi,0,none⟩) (c:=c) (l:=l) ?L wk hwk ⟨5,0,0,0,0,0,0,0,0,false⟩ hz0).mono ?_; (case L=> ((repeat (first|with_reducible exact L|with_reducible refine LB.bZ ?_ _ _|with_reducible refine LB.av ?_ _|with_reducible refine LB.aY ?_|with_reducible refine LB.qH ?_ _))));rintro e1 w9 ⟨K2,y2,t2,rfl,L2,l2,hb⟩;have B9 : aJ w9 a (K.row y) :=aJ.below (by first|with_reducible exact fK|with_reducible exact fK.drew|with_reducible exact fK.below (below_grow _ _ _)) hb;have f9:=B9.f8;simp only [aA.val,aO.val]))
      all_goals
       go_wp2_with fail;go_meet;exact⟨K2,y2,_,c,l,rfl,by omega,aJ.zD B9, (by repeat (first|with_reducible exact L2|with_reducible refine LB.qH ?_ _))⟩
     ·go_wp2_with fail
      refine(OY L (wk : Int)).mono ?_;rintro e1 w9 ⟨K2,q,bv,rfl,L2,hb⟩;have B9:=fK.below hb;have f9:=B9.f8;go_wp2_with fail;go_meet;exact⟨{K with Clock:=K2}, {y with Clock:=q},_,c,l,rfl,by omega, (B9.set 4 _).set 5 _, (by repeat (first|with_reducible exact L2|with_reducible refine LB.qH ?_ _))⟩
     ·go_wp2_with fail
      refine(MQ L (wk : Int) hh).mono ?_;rintro e1 w9 ⟨s9,z9,bv,rfl,L2,hb⟩;have B9:=fK.below hb;have f9:=B9.f8;clear bL;go_wp2_with fail;refine(Lim.vG _ g code 3 (by unfold dV;omega) (LB.qH L2 _).cu).mono ?_;rintro e1 wE ⟨b2,rfl,cu,hx⟩;have L4:= (LB.qH L2 _).draw hx cu;have B4 : aJ wE a (aA.row {K with bf:=s9} {y with bf:=z9}) := (B9.set 7 _).aM hx hga;clear hx cu f9 B9 L2 hb;cases b2 with
      |false=>
       go_wp2_with fail;go_meet;exact⟨_,_,_,c,l,rfl,by omega,B4,L4⟩
      |true=>
       have f4:=B4.f8;go_wp2_with fail;refine(OZ L4 (wk : Int)).mono ?_;rintro e1 w6 ⟨s6,z6,Xg,rfl,L6,hb⟩;have B6:=B4.below hb;have f6:=B6.f8;go_wp2_with fail;go_meet;exact⟨{K with bf:=s6}, {y with bf:=z6},_,c,l,rfl,by omega,B6.set 7 _, (by repeat (first|with_reducible exact L6|with_reducible refine LB.qH ?_ _))⟩
    case rest=>
     clear fK L;obtain⟨K,y,A,c,l,rfl,hl2,fK,L⟩ :=hcut;have hwn : IntKind.i64.wrap ((n : Int) - 1) = (n : Int) - 1:=by rw [IntKind.wrap_i64];omega
     go_wp2_with fail;go_roundw
     case rel=>exact⟨n - 1,K,y,A,c,l,rfl,by go_num,by omega,by omega,fK,L⟩
     case measure=>simp [intOf];omega
   ·have hne:=L.ne
    obtain⟨gi,he2,hgi,_⟩ :=EK L.i hne;subst he2;have bL:=fK.f8;have dR:=L.r.f8;have cI:=FH L.i;have nb:=L.ha.1;have ni:= (L.fl gi (dB.2 rfl)).1;go_wp2_with fail;go_region_held3 (fun wx=>bR wx a K y∧ ∀j : Nat,j<l.length→wx.cell? ⟨gi,j,none⟩ =some (.int .i64 (l.getD j 0))) (first| ((try dsimp only);refine⟨?_, ?_⟩ <;> (repeat (first|with_reducible exact bL.1|with_reducible exact cI|with_reducible refine bR.kH ?_ (by omega) _|with_reducible refine Rq ?_ (by omega) _|with_reducible refine bR.aY ?_|exact cI)))) (first| (go_at_call 63;refine(Lim.bU _ g code (l.length : Int) (by unfold dV;omega) ?cu).mono ?_; (case cu=>first|with_reducible exact L.aY.cu|with_reducible exact L.cu);rintro e1 wE ⟨ji,rfl,k0,k1,cu,hx⟩; (try replace hx:=bn.o8 hx);replace L:=L.draw hx cu;replace fK:=fK.aM hx hga;clear hx cu bL dR cI;obtain⟨j,rfl⟩ :=Int.eq_ofNat_of_zero_le k0;have hj : j<l.length:= (by omega);have hj3 : (j : Int) < (l.length : Int) := (by omega);have bL:=fK.f8;have dR:=L.r.f8;have cI:=FH L.i))
    all_goals
     go_wp2_with fail;refine bodyPost_ret (v:= .tuple #[aA.val K y, .int .i64 l[j]]) (by simp [results,Tryz.results115,go_sem,aA.val,dR]) rfl ⟨K,y,_,rfl,L.o.aM (F:= [w.heap.size]) dx (fun b hb hm=>by simp only [Pe,Pd,XK] at hm;have:= (L.fo b hb).1;omega),L.sz,fun b hb=>X7 (L.fo b hb).1,L.cu.nJ L.gl (by repeat (first|with_reducible exact Below.refl _ _|with_reducible refine Below.setCell ?_ (by simp<;>omega) _|with_reducible refine Below.alloc ?_ (by simp<;>omega) _|with_reducible refine bA ?_ (by simp<;>omega) _ _|with_reducible refine Below.drew ?_|with_reducible refine below_drewN ?_ _)) L.C.size,L.C.BH (G:= [w.heap.size]) dx (fun b hb=>by simp at hb;omega)⟩
theorem Yb (w : World)(g : Nat)(code : List Int)(hc : Lim.fQ w g code) : (X_ w g code hc).A:=by
 intro Kn A0 a hga nn u11 u12 u13 u14 n K y c l hn hln hpos Kb wk hwk hne gi Qc hh wc
 iterate 118 intro _
 intro L fK bL zb JO Xe Xf NU Je Ke he hf;have Xd:=L.gl;have hz0 : dV 0:=by unfold dV;omega
 go_region_held3 (fun wx=>bR wx a K y) (first| ((try dsimp only);repeat (first|with_reducible exact(aJ.f8 fK).1|with_reducible refine bR.av ?_ (by first|exact fK.lt|exact Nat.lt_of_lt_of_le fK.lt (by simp)) _|with_reducible refine bR.aY ?_|with_reducible refine bR.kH ?_ (by omega) _))) (first| (go_at_call 63;refine(Lim.bU _ g code 40 (by unfold dV;omega) ?cu).mono ?_; (case cu=> (repeat (first|with_reducible exact L.cu|with_reducible refine Lim.fQ.alloc ?_ _|with_reducible refine JN ?_)));rintro e1 V1 ⟨z1,rfl,U4,U5,cu,hx⟩;have LN:=LB.draw (K:=K) (y:=y) (A:= (some ⟨gi,0,none⟩)) (c:=c) (l:=l) (a:=a) (w:=w) (by repeat (first|with_reducible exact L|with_reducible refine LB.av ?_ _|with_reducible refine LB.aY ?_)) hx cu; (try replace hx:=bn.o8 hx); (try (obtain⟨bK,hx,jS⟩ :=Ce hx (by have:=L.ha;have:=L.gl;simp;omega))); (try (obtain⟨mZ,hx,Oi⟩ :=MP hx (by have:=L.ha;have:=L.gl;simp;omega))); (try (obtain⟨bK,hx,jS⟩ :=Ce hx (by have:=L.ha;have:=L.gl;simp;omega))); (try simp only [World.size_alloc] at bK jS); (try simp only [World.size_alloc] at mZ Oi); (try replace bK:=bK.aM hx (by have:=L.ha;have:=L.gl;simp;omega)); (try replace mZ:=mZ.aM hx (by have:=L.ha;have:=L.gl;simp;omega));replace fK:=fK.aM hx hga;have zq:=fK.lt;have zw:=hx.size;replace L:=LN;clear LN cu hx) | (go_at_call 172;refine(rz _ _ _).mono ?_;rintro e1 V2 ⟨rfl,hb⟩;have LN:=LB.below (K:=K) (y:=y) (A:= (some ⟨gi,0,none⟩)) (c:=c) (l:=l) (a:=a) (w:=w) (g:=g) (code:=code) (by repeat (first|with_reducible exact L|with_reducible refine LB.av ?_ _|with_reducible refine LB.aY ?_)) hb;have hx:=bn.of_below (F:= [g]) hb; (try replace hx:=bn.o8 hx); (try (obtain⟨bK,hx,jS⟩ :=Ce hx (by have:=L.ha;have:=L.gl;simp;omega))); (try (obtain⟨mZ,hx,Oi⟩ :=MP hx (by have:=L.ha;have:=L.gl;simp;omega))); (try (obtain⟨bK,hx,jS⟩ :=Ce hx (by have:=L.ha;have:=L.gl;simp;omega))); (try simp only [World.size_alloc] at bK jS); (try simp only [World.size_alloc] at mZ Oi); (try replace bK:=bK.aM hx (by have:=L.ha;have:=L.gl;simp;omega)); (try replace mZ:=mZ.aM hx (by have:=L.ha;have:=L.gl;simp;omega));replace fK:=fK.aM hx hga;have zq:=fK.lt;have zw:=hx.size;replace L:=LN;clear LN hb hx) | (go_at_call 171;refine(rA (w:=w) (g:=g) (a:=a) (code:=code) (K:=K) (y:=y) (A:= (some ⟨gi,0,none⟩)) (c:=c) (l:=l) ?L wk hwk _ ?he).mono ?_; (case L=>repeat (first|with_reducible exact L|with_reducible refine LB.av ?_ _|with_reducible refine LB.aY ?_)); (case he=>exact hz0);rintro e1 V3 ⟨K2,y2,t2,rfl,L2,l2,hb⟩;have hx:=bn.of_below (F:= [g]) hb; (try replace hx:=bn.o8 hx); (try (obtain⟨bK,hx,jS⟩ :=Ce hx (by have:=L.ha;have:=L.gl;simp;omega))); (try (obtain⟨mZ,hx,Oi⟩ :=MP hx (by have:=L.ha;have:=L.gl;simp;omega))); (try (obtain⟨bK,hx,jS⟩ :=Ce hx (by have:=L.ha;have:=L.gl;simp;omega))); (try simp only [World.size_alloc] at bK jS); (try simp only [World.size_alloc] at mZ Oi); (try replace bK:=bK.aM hx (by have:=L.ha;have:=L.gl;simp;omega)); (try replace mZ:=mZ.aM hx (by have:=L.ha;have:=L.gl;simp;omega));replace fK:=fK.aM hx hga;have zq:=fK.lt;have zw:=hx.size;have u2:=L2.o.lt; (try have CU:=bK.f8); (try have bM:=mZ.f10);simp only [aA.val,aO.val]))
 all_goals as_aux_lemma=>
  go_wp2_with fail;go_meet;refine r16 (K2:=K2) (y2:=y2) (t2:=t2) rfl rfl ?_ ?_ fK L2 ?_ ⟨?_, ?_, ?_, ?_⟩ ⟨?_, ?_, ?_, ?_⟩
  ·repeat (first|with_reducible exact bK|with_reducible refine TV ?_|with_reducible exact MS (by simp) |with_reducible refine aJ.other ?_ (by omega) _|with_reducible refine aJ.alloc ?_ _|with_reducible refine aJ.drew ?_)
  ·repeat (first|with_reducible exact mZ|with_reducible refine TW ?_|with_reducible exact Oh (by simp) |with_reducible refine aJ.other ?_ (by omega) _|with_reducible refine aJ.alloc ?_ _|with_reducible refine aJ.drew ?_)
  ·repeat (first|with_reducible exact bn.refl _ _|with_reducible refine bn.dG ?_ (by simp) _|with_reducible refine bn.av ?_ _|with_reducible refine bn.aY ?_)
  ·omega
  ·exact(fun e=>by have q1:=l2 _ e;have q2:=u2 _ e;first|omega| (simp at q1<;>omega))
  ·omega
  ·omega
  ·omega
  ·exact(fun e=>by have q1:=l2 _ e;have q2:=u2 _ e;first|omega| (simp at q1<;>omega))
  ·omega
  ·omega
theorem Yc (w : World)(g : Nat)(code : List Int)(hc : Lim.fQ w g code) : (X_ w g code hc).B:=by
 intro Kn A0 a hga nn u13 u14 n K y c l hn hln hpos Ja Kb ha hb wk hwk hne gi Qc hh JO Xe Xf Kd hd wc u11 u12
 iterate 119 intro _
 intro hcut;have Xd:=hc.lt;obtain⟨ax,sa,K2,y2,t2,rfl,rfl,bK,mZ,fK,L,s1,s2,s3,s4⟩ :=hcut;have CU:=bK.f8;have bL:=fK.f8;go_upto_region 17 with (fail);go_cut [] from 20 to 138 (fun wx=>aJ wx sa t2.row∧aJ wx a (K2.row y2) ∧LB w wx g a code K2 y2 (some ⟨gi,0,none⟩) c l)
 case first=>
  go_wp2_with fail;go_meet;exact⟨(by repeat (first|with_reducible exact mZ|with_reducible refine aJ.other ?_ (by omega) _)),aJ.zD fK, (by repeat (first|with_reducible exact L|with_reducible refine LB.qH ?_ _))⟩
 case rest=>
  clear L fK bL mZ bK CU;obtain⟨mZ,fK,L⟩ :=hcut;have bM:=mZ.f10;have bL:=fK.f8;by_cases ho : t2.o=0
  ·have U6 : (t2.o != 0) =false:=by simp [ho]
   clear ho;go_wp2_with fail;go_meet;exact⟨K2,y2,_,c,l,rfl,by omega,fK,L⟩
  ·have U6 : (t2.o != 0) =true:=by simpa using ho
   clear ho;go_upto_region 19 with (fail);go_cut [7] from 20 to 138 (fun v7 wx=> ∃ (A4 : Option Addr) (c4 : Nat),v7= .slice A4 (l.length+1) c4∧aJ wx sa t2.row∧aJ wx a (K2.row y2) ∧LB w wx g a code K2 y2 A4 c4 (l++ [t2.o]))
   case first=>
    go_wp2_with (at_builtin;refine eP Tryz.stInt rfl _ _ rfl (v:= .slice (some ⟨gi,0,none⟩) l.length c) (y:= .slice (some ⟨wc.heap.size,0,none⟩) 1 1) (l:=l) (m:= [t2.o]) rfl rfl (aX.av L.i _) (aX.lit FI [t2.o] #[.int .i64 t2.o] rfl (by simp [maxLen]) wc 3).rd' (by simp;omega) ?_;intro v4 w4 rP hg4 qy;obtain⟨A4,c4,hv4,_⟩ :=id rP.rd';simp only [XU,List.length_cons,List.length_nil] at hv4;subst hv4);go_meet;have hx4:=bn.iD hg4;exact⟨A4,c4,rfl, (mZ.alloc _).aM hx4 (fun e=>by have:=dB.1 e;omega), (fK.alloc _).aM hx4 (fun e=>by have:=dB.1 e;omega),LB.R6 (L.av _) (by simp) rP hg4 qy⟩
   case rest=>
    clear L fK bL mZ bM;obtain⟨A4,c4,rfl,mZ,fK,L⟩ :=hcut;have hl5:=Hid.aD (show (l++ [t2.o]).length=l.length+1 by simp);generalize l++ [t2.o]=l5 at L hl5;have bM:=mZ.f10;have bL:=fK.f8;have u2:=L.o.lt;have zb:=fK.lt;have zs:=mZ.lt;have f2:=L.fo;have Ti:=dQ L.i;go_upto_region 20 with (fail);go_cut [13,14] from 20 to 138 (fun v13 _ wx=> ∃ (am : Nat) (K3 : bV) (m3 : Mem),v13= .pointer (some ⟨am,0,none⟩) ∧aJ wx am [.slice K3.E.Y.a K3.E.Y.l K3.E.Y.c, .slice K3.E.Z.a K3.E.Z.l K3.E.Z.c, .slice K3.I.G.a K3.I.G.l K3.I.G.c, .slice K3.I.O.a K3.I.O.l K3.I.O.c]∧aJ wx a (K2.row y2) ∧LB w wx g a code (K2.mem K3) (y2.mem m3) A4 c4 l5∧am≠a)
    case first=>
     go_region_held3 (fun wx=>bR wx a K2 y2∧bW wx sa t2) (first| ((try dsimp only);refine⟨?_, ?_⟩ <;> (repeat (first|with_reducible exact(aJ.f8 fK).1|with_reducible exact(aJ.f10 mZ).1|with_reducible refine bR.av ?_ (by first|exact fK.lt|exact Nat.lt_of_lt_of_le fK.lt (by simp)) _|with_reducible refine bW.av ?_ (by first|exact mZ.lt|exact Nat.lt_of_lt_of_le mZ.lt (by simp)) _|with_reducible refine bR.aY ?_|with_reducible refine bW.aY ?_|with_reducible refine bR.kH ?_ (by omega) _|with_reducible refine bW.kH ?_ (by omega) _)))) (first| (go_at_call 63;refine(Lim.bU _ g code 60000 (by unfold dV;omega) ?cu).mono ?_; (case cu=> (repeat (first|with_reducible exact L.cu|with_reducible refine Lim.fQ.alloc ?_ _|with_reducible refine JN ?_)));rintro e1 V1 ⟨z1,rfl,U4,U5,cu,hx⟩;have LN:=LB.draw (K:=K2) (y:=y2) (A:=A4) (c:=c4) (l:=l5) (a:=a) (w:=w) (by repeat (first|with_reducible exact L|with_reducible refine LB.av ?_ _|with_reducible refine LB.aY ?_)) hx cu; (try replace hx:=bn.o8 hx); (try (obtain⟨dZ,hx,iF⟩ :=PX hx (by have:=L.ha;have:=L.gl;simp;omega))); (try simp only [World.size_alloc] at dZ iF); (try replace dZ:=dZ.aM hx (by have:=L.ha;have:=L.gl;simp;omega));replace mZ:=mZ.aM hx (by simp;omega);replace fK:=fK.aM hx hga;have zq:=fK.lt;have zw:=hx.size;replace L:=LN;have hz1 : dV z1:= (by unfold dV;omega);clear LN cu hx) | (go_at_call 25;refine(MR (w:=w) (g:=g) (a:=a) (code:=code) (K:=K2) (y:=y2) (A:=A4) (c:=c4) (l:=l5) ?L t2.o 0 4 z1 hz1).mono ?_; (case L=>repeat (first|with_reducible exact L|with_reducible refine LB.av ?_ _|with_reducible refine LB.aY ?_));rintro e1 V3 ⟨K3,m3,bv,rfl,L3,l3,hb⟩;have hx:=bn.of_below (F:= [g]) hb; (try replace hx:=bn.o8 hx); (try (obtain⟨dZ,hx,iF⟩ :=PX hx (by have:=L.ha;have:=L.gl;simp;omega))); (try simp only [World.size_alloc] at dZ iF); (try replace dZ:=dZ.aM hx (by have:=L.ha;have:=L.gl;simp;omega));replace mZ:=mZ.aM hx (by simp;omega);replace fK:=fK.aM hx hga;have zq:=fK.lt;have zw:=hx.size;have u3:=L3.o.lt; (try have U7:=dZ.f4)))
     all_goals
      go_wp2_with fail;go_meet;refine⟨_,K3,m3,rfl, ?_, ?_, ?_,by omega⟩
      ·first|exact(((dZ.set 0 _).set 1 _).set 2 _).set 3 _|exact aJ.new2 _ _ _ rfl
      ·repeat (first|with_reducible exact fK|with_reducible refine aJ.other ?_ (by omega) _|with_reducible refine aJ.alloc ?_ _|with_reducible refine aJ.drew ?_)
      ·repeat (first|with_reducible exact L3|with_reducible refine LB.Rp ?_ (by omega) (Qk l3 u3 u2 (by simp;omega)) (fun e=>by have:=Ti _ e;omega) _|with_reducible refine LB.av ?_ _|with_reducible refine LB.aY ?_)
    case rest=>
     clear L fK bL mZ bM u2 zb zs f2 Ti;obtain⟨am,K3,m3,rfl,dZ,fK,L,s5⟩ :=hcut;have U7:=dZ.f4;have bL:=fK.f8;go_wp2_with fail;go_meet;exact⟨K2.mem K3,y2.mem m3,A4,c4,l5,by rw [hl5.out],by rw [hl5.out];omega, (((fK.set 0 _).set 1 _).set 2 _).set 3 _, (by repeat (first|with_reducible exact L|with_reducible refine LB.qH ?_ _))⟩
theorem MU (w : World)(g : Nat)(code : List Int)(hc : Lim.fQ w g code) : Calls Tryz.prog 115 #[.pointer (some ⟨g,0,none⟩), .int .i64 26] w (JM w g code) := (X_ w g code hc).run (Hid.aD (Yb w g code hc)) (Hid.aD (Yc w g code hc))
end Go.Proofs.YtkmggglljkmjoaaGreat
