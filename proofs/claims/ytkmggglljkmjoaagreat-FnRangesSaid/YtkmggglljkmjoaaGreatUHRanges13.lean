/- m -/
import Derived.Test.YtkmggglljkmjoaaGreatUHRanges12
set_option maxRecDepth 100000
set_option maxHeartbeats 4000000
namespace Go.Proofs.YtkmggglljkmjoaaGreat
open Go.RowKit
theorem yZ {B g0 g k : Nat}{v0 v1 v2 v3 u : Value}{W w w' : World}(h : w.cell? ⟨g0,0,none⟩ =some v0∧w.cell? ⟨g0,1,none⟩ =some v1∧w.cell? ⟨g0,2,none⟩ =some v2∧w.cell? ⟨g0,3,none⟩ =some v3∧w.cell? ⟨g,k,none⟩ =some u∧g0<w.heap.size∧g<w.heap.size∧Below B W w)(hb : Below w.heap.size w w')(hB : B≤g0) :
  w'.cell? ⟨g0,0,none⟩ =some v0∧w'.cell? ⟨g0,1,none⟩ =some v1∧w'.cell? ⟨g0,2,none⟩ =some v2∧w'.cell? ⟨g0,3,none⟩ =some v3∧w'.cell? ⟨g,k,none⟩ =some u∧g0<w'.heap.size∧g<w'.heap.size∧Below B W w':=by
 obtain⟨a,b,a',b',c,d,e,f⟩ :=h;exact⟨aZ hb d a,aZ hb d b,aZ hb d a',aZ hb d b',aZ hb e c,XO d hb.size,XO e hb.size,f.trans (hb.mono (by omega))⟩
def Dh (m : Mem)(c : Nat) : Bool:= (m.I.G.getD c []).all (jw m.E c)
def y5 (m : Mem)(k : Nat) : Bool:= (m.I.O.getD k []).all (jw m.E ((k%3 : Nat) : Int))
theorem Io {m : Mem}(h : ∀c<3,Dh m c=true∧ ∀w<3,y5 m (w * 3+c) =true) : r9 m 3=true∧pV m 9=true:=by
 constructor
 ·exact X5.2 fun c hc=> (h c (List.mem_range.1 hc)).1
 ·refine X5.2 fun k hk=> ?_
  have AJ:=List.mem_range.1 hk;have a:= (h (k%3) (by omega)).2 (k / 3) (by omega)
  rwa [show k / 3 * 3+k%3=k by omega] at a
theorem pQ (a c : Nat)(ha : a<3)(hc : c<3)(w : World) : Calls Tryz.prog 75 #[.int .i64 a, .int .i64 c] w fun e w'=>e= .returned (.int .i64 ((a * 3+c : Nat) : Int)) ∧w=w':=by
 have h1 : bG 0 2 (a : Int) =true:=bH.2 ⟨by omega,by omega⟩;have h2 : bG 0 2 (c : Int) =true:=bH.2 ⟨by omega,by omega⟩;have a1 : (a : Int) ≤2:=by omega
 have c1 : (c : Int) ≤2:=by omega
 go_enter Tryz.func75,Tryz.ntmps75;go_wp2_with (go_at_call 102;refine(dH _ _ _ _).mono ?_;rintro e w1 ⟨rfl,rfl⟩);go_ret;exact⟨cB (by omega),rfl⟩
theorem lU (w : World)(H : bV)(x : Mem)(h : jN w w.heap.size H x)(hs1 : fO x.I.G≤536870912)(hs2 : fO x.I.O≤536870912) :
  Calls Tryz.prog 19 #[.agg #[.slice H.E.Y.a H.E.Y.l H.E.Y.c, .slice H.E.Z.a H.E.Z.l H.E.Z.c, .slice H.I.G.a H.I.G.l H.I.G.c, .slice H.I.O.a H.I.O.l H.I.O.c]] w fun e w'=>e= .returned (.bool (d9 x)) ∧Below w.heap.size w w':=by
 have jL : aJ (w.alloc (.cells #[.slice H.E.Y.a H.E.Y.l H.E.Y.c, .slice H.E.Z.a H.E.Z.l H.E.Z.c, .slice H.I.G.a H.I.G.l H.I.G.c, .slice H.I.O.a H.I.O.l H.I.O.c] 31)) w.heap.size [.slice H.E.Y.a H.E.Y.l H.E.Y.c, .slice H.E.Z.a H.E.Z.l H.E.Z.c, .slice H.I.G.a H.I.G.l H.I.G.c, .slice H.I.O.a H.I.O.l H.I.O.c]:=aJ.new w #[.slice H.E.Y.a H.E.Y.l H.E.Y.c, .slice H.E.Z.a H.E.Z.l H.E.Z.c, .slice H.I.G.a H.I.G.l H.I.G.c, .slice H.I.O.a H.I.O.l H.I.O.c] _;have hB0 : Below w.heap.size w (w.alloc (.cells #[.slice H.E.Y.a H.E.Y.l H.E.Y.c, .slice H.E.Z.a H.E.Z.l H.E.Z.c, .slice H.I.G.a H.I.G.l H.I.G.c, .slice H.I.O.a H.I.O.l H.I.O.c] 31)) :=cO;have HE:=Hid.aD (FU x);go_enter Tryz.func19,Tryz.ntmps19;go_wp2_with fail;refine(Cm _ H.E x.E (fT h.E hB0)).mono ?_;rintro e w1 ⟨rfl,hb⟩;have jJ:=jL.below hb;have hB1:=hB0.trans (hb.mono hB0.size);clear hb jL hB0;by_cases k1 : jD x.E=true
 case neg=>
  have k1' : jD x.E=false:= (XM _).mp k1;have HN:=Hid.aD (show d9 x=false by rw [HE.out,k1'];rfl);rw [k1'];clear k1 k1';go_wp2;go_ret;exact⟨aU HN.out.symm,hB1⟩
 have K1:=Hid.aD k1;rw [k1];clear k1;have jR:=jJ.cell 0 _ rfl;have jH:=jJ.cell 1 _ rfl;have lD:=jJ.cell 2 _ rfl;have lF:=jJ.cell 3 _ rfl;go_wp2_with fail;refine(pU _ H.I x.I (j4 h.I hB1) hs1 hs2).mono ?_;rintro e w2 ⟨rfl,hb⟩;have mQ:=jJ.below hb;have hB2:=hB1.trans (hb.mono hB1.size);clear hb jJ hB1 jR jH lD lF;by_cases k2 : gF x.I=true
 case neg=>
  have k2' : gF x.I=false:= (XM _).mp k2;have HN:=Hid.aD (show d9 x=false by rw [HE.out,k2'];simp);rw [k2'];clear k2 k2';go_wp2;go_ret;exact⟨aU HN.out.symm,hB2⟩
 rw [k2];have hs:=Hid.aD (vY K1.out);have HL:=Hid.aD (oJ k2);have HE2:=Hid.aD (show d9 x= (r9 x 3&&pV x 9) by rw [HE.out,K1.out,k2];rfl);clear k2 HE;obtain⟨wS,_,hm1⟩ := (show ig FI w w.heap.size (.slice H.I.G.a H.I.G.l H.I.G.c) H.I.mM x.I.G from h.I.G).len';obtain⟨wT,_,hm2⟩ := (show ig FI w w.heap.size (.slice H.I.O.a H.I.O.l H.I.O.c) H.I.qQ x.I.O from h.I.O).len';have Dc : H.I.G.l=3:=by rw [wS,HL.out.1]
 have Df : H.I.O.l=9:=by rw [wT,HL.out.2]
 have hgr : ig FI w w.heap.size (.slice H.I.G.a 3 H.I.G.c) H.I.mM x.I.G:=by rw [←Dc];exact h.I.G
 have hor : ig FI w w.heap.size (.slice H.I.O.a 9 H.I.O.c) H.I.qQ x.I.O:=by rw [←Df];exact h.I.O
 rw [Dc,Df] at mQ;clear wS wT hm1 hm2 Dc Df;obtain⟨gG,oG,_,_,eG,_,_,_⟩ :=hgr.row (Below.refl _ _) (show 0<x.I.G.length by rw [HL.out.1];decide);obtain⟨gO,oO,_,_,eO,_,_,_⟩ :=hor.row (Below.refl _ _) (show 0<x.I.O.length by rw [HL.out.2];decide);rw [eG] at hgr mQ;rw [eO] at hor mQ;go_wp2;go_loopw [3,4] (fun i _ wr=> ∃k : Nat,k≤3∧i= .int .i64 k∧Hid (∀c<k,Dh x c=true∧ ∀a<3,y5 x (a * 3+c) =true) ∧Below w.heap.size w wr∧wr.cell? ⟨w.heap.size,0,none⟩ =some (.slice H.E.Y.a H.E.Y.l H.E.Y.c) ∧wr.cell? ⟨w.heap.size,1,none⟩ =some (.slice H.E.Z.a H.E.Z.l H.E.Z.c) ∧wr.cell? ⟨w.heap.size,2,none⟩ =some (.slice (some ⟨gG,oG,none⟩) 3 H.I.G.c) ∧wr.cell? ⟨w.heap.size,3,none⟩ =some (.slice (some ⟨gO,oO,none⟩) 9 H.I.O.c) ∧w.heap.size<wr.heap.size) (fun i _ _=>3 - (intOf i).toNat)
 case atStart=>exact⟨0,X3 _,rfl,Hid.aD (fun c hc=>absurd hc (Nat.not_lt_zero c)),hB2,mQ.cell 0 _ rfl,mQ.cell 1 _ rfl,mQ.cell 2 _ rfl,mQ.cell 3 _ rfl,mQ.lt⟩
 case round=>
  obtain⟨i,hi,rfl,HT,hb,jR,jH,lD,lF,zl⟩ :=hrel;clear mQ hB2;by_cases hlt : i<3
  ·have Oz : (i : Int) <3:=by omega
   have hig : i<x.I.G.length:=by rw [HL.out.1];exact hlt
   obtain⟨g,o,A',c',rZ,hg,p0,rr⟩ :=hgr.row hb hig;injection rZ with rZ;injection rZ with hA1 hA2;subst hA1 hA2;have hgw : gG<wr.heap.size:=XO hg hb.size;have HX:=Hid.aD (show Dh x i= (x.I.G[i]).all (jw x.E i) by unfold Dh;rw [getD_at hig]);have kJ:=Hid.aD (fun hf : Dh x i=false=>FW (m:=x) (k:=i) (n:=3) hlt hf);generalize x.I.G[i]=row at p0 rr HX;have hq1:=fun (W : World) (hW : Below w.heap.size w W) =>zN W H.E x.E A' c' row i (fT h.E hW) hs.out (bY rr hW) (by omega);rw [←HX.out] at hq1;by_cases k3 : Dh x i=true
   case neg=>
    have pR : Dh x i=false:= (XM _).mp k3;have HN:=Hid.aD (show d9 x=false by rw [HE2.out,kJ.out pR];rfl);rw [pR] at hq1;clear k3 pR HX kJ;go_wp2;go_region_held3 (fun w'=>w'.cell? ⟨w.heap.size,0,none⟩ =some (.slice H.E.Y.a H.E.Y.l H.E.Y.c) ∧w'.cell? ⟨w.heap.size,1,none⟩ =some (.slice H.E.Z.a H.E.Z.l H.E.Z.c) ∧w'.cell? ⟨w.heap.size,2,none⟩ =some (.slice (some ⟨gG,oG,none⟩) 3 H.I.G.c) ∧w'.cell? ⟨w.heap.size,3,none⟩ =some (.slice (some ⟨gO,oO,none⟩) 9 H.I.O.c) ∧w'.cell? ⟨gG,oG+i,none⟩ =some (.slice A' row.length c') ∧w.heap.size<w'.heap.size∧gG<w'.heap.size∧Below w.heap.size w w') (first| (go_keep;done) |exact yZ (by assumption) (by assumption) (XQ _) |exact⟨by assumption,by assumption,by assumption,by assumption,by assumption,by assumption,by assumption,Below.drew (by assumption)⟩) ((go_at_call 74;refine(hq1 _ (by go_split_ands;assumption)).mono ?_;rintro e w3 ⟨rfl,hb3⟩));go_wp2;go_ret;exact⟨aU HN.out.symm,by first|assumption| (go_split_ands;assumption)⟩
   have K3:=Hid.aD k3;rw [k3] at hq1;clear k3 HX kJ;go_wp2;go_region_held3 (fun w'=>w'.cell? ⟨w.heap.size,0,none⟩ =some (.slice H.E.Y.a H.E.Y.l H.E.Y.c) ∧w'.cell? ⟨w.heap.size,1,none⟩ =some (.slice H.E.Z.a H.E.Z.l H.E.Z.c) ∧w'.cell? ⟨w.heap.size,2,none⟩ =some (.slice (some ⟨gG,oG,none⟩) 3 H.I.G.c) ∧w'.cell? ⟨w.heap.size,3,none⟩ =some (.slice (some ⟨gO,oO,none⟩) 9 H.I.O.c) ∧w'.cell? ⟨gG,oG+i,none⟩ =some (.slice A' row.length c') ∧w.heap.size<w'.heap.size∧gG<w'.heap.size∧Below w.heap.size w w') (first| (go_keep;done) |exact yZ (by assumption) (by assumption) (XQ _) |exact⟨by assumption,by assumption,by assumption,by assumption,by assumption,by assumption,by assumption,Below.drew (by assumption)⟩) ((go_at_call 74;refine(hq1 _ (by go_split_ands;assumption)).mono ?_;rintro e w3 ⟨rfl,hb3⟩));rename_i hh
   obtain⟨jR,jH,lD,lF,_,WL,_,hb2⟩ :=hh;clear hq1 p0;go_wp2;go_loopw [4] (fun j wr=> ∃k : Nat,k≤3∧j= .int .i64 k∧Hid (∀a<k,y5 x (a * 3+i) =true) ∧Below w.heap.size w wr∧wr.cell? ⟨w.heap.size,0,none⟩ =some (.slice H.E.Y.a H.E.Y.l H.E.Y.c) ∧wr.cell? ⟨w.heap.size,1,none⟩ =some (.slice H.E.Z.a H.E.Z.l H.E.Z.c) ∧wr.cell? ⟨w.heap.size,2,none⟩ =some (.slice (some ⟨gG,oG,none⟩) 3 H.I.G.c) ∧wr.cell? ⟨w.heap.size,3,none⟩ =some (.slice (some ⟨gO,oO,none⟩) 9 H.I.O.c) ∧w.heap.size<wr.heap.size) (fun j _=>3 - (intOf j).toNat)
   case atStart=>exact⟨0,X3 _,rfl,Hid.aD (fun a ha=>absurd ha (Nat.not_lt_zero a)),by assumption,by assumption,by assumption,by assumption,by assumption,by assumption⟩
   case round=>
    obtain⟨j,hj,rfl,HU,hb,jR,jH,lD,lF,zl⟩ :=hrel;by_cases hlj : j<3
    ·have V8 : (j : Int) <3:=by omega
     have Qx : j * 3+i<x.I.O.length:=by rw [HL.out.2];omega
     obtain⟨g,o,Qy,c2',rZ,hg,p0,rr⟩ :=hor.row hb Qx;injection rZ with rZ;injection rZ with hA1 hA2;subst hA1 hA2;have hgw : gO<wr.heap.size:=XO hg hb.size;have HX:=Hid.aD (show y5 x (j * 3+i) = (x.I.O[j * 3+i]).all (jw x.E i) by unfold y5;rw [getD_at Qx,show (j * 3+i) %3=i by omega]);have kJ:=Hid.aD (fun hf : y5 x (j * 3+i) =false=>D8 (m:=x) (k:=j * 3+i) (n:=9) (by omega) hf);generalize x.I.O[j * 3+i]=Fj at p0 rr HX;have hq1:=fun (W : World) (hW : Below w.heap.size w W) =>zN W H.E x.E Qy c2' Fj i (fT h.E hW) hs.out (bY rr hW) (by omega);have hq2:=fun (W : World) =>pQ j i hlj hlt W;rw [←HX.out] at hq1;have n0 : (0 : Int) ≤ ((j * 3+i : Nat) : Int) :=by omega
     have n1 : ((j * 3+i : Nat) : Int) <9:=by omega
     have n2 : j * 3+i<9:=by omega
     have n3 : ((j * 3+i : Nat) : Int).toNat=j * 3+i:=by omega
     obtain⟨kk,hkk⟩ : ∃kk,kk=j * 3+i:= ⟨_,rfl⟩;rw [←hkk] at p0 n0 n1 n2 n3;simp only [←hkk] at hq2;clear hkk;by_cases k4 : y5 x (j * 3+i) =true
     ·have HN:=Hid.aD (show ∀a<j+1,y5 x (a * 3+i) =true from fun a ha=>by
       by_cases e : a=j
       ·rw [e];exact k4
       ·exact HU.out a (by omega))
      rw [k4] at hq1;clear k4 HX kJ;go_wp2;go_region_held3 (fun w'=>w'.cell? ⟨w.heap.size,0,none⟩ =some (.slice H.E.Y.a H.E.Y.l H.E.Y.c) ∧w'.cell? ⟨w.heap.size,1,none⟩ =some (.slice H.E.Z.a H.E.Z.l H.E.Z.c) ∧w'.cell? ⟨w.heap.size,2,none⟩ =some (.slice (some ⟨gG,oG,none⟩) 3 H.I.G.c) ∧w'.cell? ⟨w.heap.size,3,none⟩ =some (.slice (some ⟨gO,oO,none⟩) 9 H.I.O.c) ∧w'.cell? ⟨gO,oO+kk,none⟩ =some (.slice Qy Fj.length c2') ∧w.heap.size<w'.heap.size∧gO<w'.heap.size∧Below w.heap.size w w') (first| (go_keep;done) |exact yZ (by assumption) (by assumption) (XQ _) |exact⟨by assumption,by assumption,by assumption,by assumption,by assumption,by assumption,by assumption,Below.drew (by assumption)⟩) (first| (go_at_call 75;refine(hq2 _).mono ?_;rintro e w3 ⟨rfl,rfl⟩) | (go_at_call 74;refine(hq1 _ (by go_split_ands;assumption)).mono ?_;rintro e w3 ⟨rfl,hb3⟩));go_wp2;go_roundw
      case rel=>exact⟨j+1,by omega,by go_num,HN,by first|assumption| (go_split_ands;assumption),by first|assumption| (go_split_ands;assumption),by first|assumption| (go_split_ands;assumption),by first|assumption| (go_split_ands;assumption),by first|assumption| (go_split_ands;assumption),by first|assumption| (go_split_ands;assumption)⟩
      case measure=>simp [intOf];omega
     ·have Ie : y5 x (j * 3+i) =false:= (XM _).mp k4
      have HN:=Hid.aD (show d9 x=false by rw [HE2.out,kJ.out Ie];simp);rw [Ie] at hq1;clear k4 Ie HX kJ;go_wp2;go_region_held3 (fun w'=>w'.cell? ⟨w.heap.size,0,none⟩ =some (.slice H.E.Y.a H.E.Y.l H.E.Y.c) ∧w'.cell? ⟨w.heap.size,1,none⟩ =some (.slice H.E.Z.a H.E.Z.l H.E.Z.c) ∧w'.cell? ⟨w.heap.size,2,none⟩ =some (.slice (some ⟨gG,oG,none⟩) 3 H.I.G.c) ∧w'.cell? ⟨w.heap.size,3,none⟩ =some (.slice (some ⟨gO,oO,none⟩) 9 H.I.O.c) ∧w'.cell? ⟨gO,oO+kk,none⟩ =some (.slice Qy Fj.length c2') ∧w.heap.size<w'.heap.size∧gO<w'.heap.size∧Below w.heap.size w w') (first| (go_keep;done) |exact yZ (by assumption) (by assumption) (XQ _) |exact⟨by assumption,by assumption,by assumption,by assumption,by assumption,by assumption,by assumption,Below.drew (by assumption)⟩) (first| (go_at_call 75;refine(hq2 _).mono ?_;rintro e w3 ⟨rfl,rfl⟩) | (go_at_call 74;refine(hq1 _ (by go_split_ands;assumption)).mono ?_;rintro e w3 ⟨rfl,hb3⟩));go_wp2;go_ret;exact⟨aU HN.out.symm,by first|assumption| (go_split_ands;assumption)⟩
    ·obtain rfl : j=3:=by omega
     go_wp2;go_roundw
     case rel=>
      refine⟨i+1,by omega,by go_num,Hid.aD (fun c hc=> ?_),hb,jR,jH,lD,lF,zl⟩;by_cases e : c=i
      ·rw [e];exact⟨K3.out,HU.out⟩
      ·exact HT.out c (by omega)
     case measure=>simp [intOf];omega
  ·obtain rfl : i=3:=by omega
   have HN:=Hid.aD (show d9 x=true by rw [HE2.out, (Io HT.out).1, (Io HT.out).2];rfl);go_wp2;go_ret;exact⟨aU HN.out.symm,hb⟩
theorem kK (h : Int)(w : World) : Calls Tryz.prog 114 #[.int .i64 h] w fun e w'=>e= .returned (.bool (dO h)) ∧w=w':=by
 by_cases h1 : 32≤h
 ·by_cases h2 : h≤223
  ·go_enter Tryz.func114,Tryz.ntmps114
   go_wp2;go_ret;exact⟨aU (by simp [dO,h1,h2]),rfl⟩
  ·go_enter Tryz.func114,Tryz.ntmps114
   go_wp2;go_ret;exact⟨aU (by simp [dO];omega),rfl⟩
 ·go_enter Tryz.func114,Tryz.ntmps114
  go_wp2;go_ret;exact⟨aU (by simp [dO];omega),rfl⟩
theorem jv (h : Int)(w : World) : Calls Tryz.prog 91 #[.int .i64 h] w fun e w'=>e= .returned (.bool (dO h)) ∧w=w':=by
 by_cases h1 : 32≤h
 ·by_cases h2 : h≤223
  ·go_enter Tryz.func91,Tryz.ntmps91
   go_wp2;go_ret;exact⟨aU (by simp [dO,h1,h2]),rfl⟩
  ·go_enter Tryz.func91,Tryz.ntmps91
   go_wp2;go_ret;exact⟨aU (by simp [dO];omega),rfl⟩
 ·go_enter Tryz.func91,Tryz.ntmps91
  go_wp2;go_ret;exact⟨aU (by simp [dO];omega),rfl⟩
theorem oM {h : Int}(k : dO h=true) : 32≤h∧h≤223∧h%32<24∧bG 0 23 (h%32) =true∧h.tmod 32=h%32∧h.tdiv 32=h / 32:=by
 unfold dO at k;simp only [X4,decide_eq_true_eq] at k;obtain⟨⟨a,b⟩,c⟩ :=k;exact⟨a,b,c,bH.2 ⟨by omega,by omega⟩,Int.tmod_eq_emod_of_nonneg (by omega),Int.tdiv_eq_ediv_of_nonneg (by omega)⟩
theorem iT (h : Int)(w : World)(k : dO h=true) : Calls Tryz.prog 30 #[.int .i64 h] w fun e w'=>e= .returned (.int .i64 (h%32)) ∧w=w':=by
 obtain⟨a,b,_,_,c,_⟩ :=oM k;have HC:=Hid.aD c;clear c;go_enter Tryz.func30,Tryz.ntmps30;go_wp2_with (go_at_call 91;refine(jv _ _).mono ?_;rw [k];rintro e w1 ⟨rfl,rfl⟩);go_ret;exact⟨cB (by first|rfl|rw [HC.out]),rfl⟩
theorem Fp (h : Int)(w : World)(k : dO h=true) : Calls Tryz.prog 123 #[.int .i64 h] w fun e w'=>e= .returned (.int .i64 (h / 32)) ∧w=w':=by
 obtain⟨a,b,_,_,_,c⟩ :=oM k;have HC:=Hid.aD c;clear c;go_enter Tryz.func123,Tryz.ntmps123;go_wp2_with (go_at_call 91;refine(jv _ _).mono ?_;rw [k];rintro e w1 ⟨rfl,rfl⟩);go_ret;exact⟨cB (by first|rfl|rw [HC.out]),rfl⟩
theorem AL (w : World)(H : bV)(x : Mem)(s : Int)(h : jN w w.heap.size H x)(hs : fJ x.E=true) :
  Calls Tryz.prog 71 #[.agg #[.slice H.E.Y.a H.E.Y.l H.E.Y.c, .slice H.E.Z.a H.E.Z.l H.E.Z.c, .slice H.I.G.a H.I.G.l H.I.G.c, .slice H.I.O.a H.I.O.l H.I.O.c], .int .i64 s] w fun e w'=>e= .returned (.int .i64 (iI x s)) ∧Below w.heap.size w w':=by
 have jL : aJ (w.alloc (.cells #[.slice H.E.Y.a H.E.Y.l H.E.Y.c, .slice H.E.Z.a H.E.Z.l H.E.Z.c, .slice H.I.G.a H.I.G.l H.I.G.c, .slice H.I.O.a H.I.O.l H.I.O.c] 31)) w.heap.size [.slice H.E.Y.a H.E.Y.l H.E.Y.c, .slice H.E.Z.a H.E.Z.l H.E.Z.c, .slice H.I.G.a H.I.G.l H.I.G.c, .slice H.I.O.a H.I.O.l H.I.O.c]:=aJ.new w #[.slice H.E.Y.a H.E.Y.l H.E.Y.c, .slice H.E.Z.a H.E.Z.l H.E.Z.c, .slice H.I.G.a H.I.G.l H.I.G.c, .slice H.I.O.a H.I.O.l H.I.O.c] _;have hB0 : Below w.heap.size w (w.alloc (.cells #[.slice H.E.Y.a H.E.Y.l H.E.Y.c, .slice H.E.Z.a H.E.Z.l H.E.Z.c, .slice H.I.G.a H.I.G.l H.I.G.c, .slice H.I.O.a H.I.O.l H.I.O.c] 31)) :=cO;have HE:=Hid.aD (show iI x s= (if aG x.E s<0 then 0 else if mP x.I s=true then 1 else if 6<dK x.E s then 2 else 3) from rfl);have HS:=Hid.aD hs;clear hs;go_enter Tryz.func71,Tryz.ntmps71;go_wp2_with fail;refine(tH _ H.E x.E s (fT h.E hB0) HS.out).mono ?_;rintro e w1 ⟨rfl,hb⟩;have jJ:=jL.below hb;have hB1:=hB0.trans (hb.mono hB0.size);clear hb jL hB0;by_cases k1 : aG x.E s<0
 ·have HN:=Hid.aD (show iI x s=0 by rw [HE.out,if_pos k1])
  go_wp2;go_ret;exact⟨cB HN.out.symm,hB1⟩
 have K1:=Hid.aD k1;have jR:=jJ.cell 0 _ rfl;have jH:=jJ.cell 1 _ rfl;have lD:=jJ.cell 2 _ rfl;have lF:=jJ.cell 3 _ rfl;go_wp2_with fail;refine(Ki _ H.I x.I s (j4 h.I hB1)).mono ?_;rintro e w2 ⟨rfl,hb⟩;have mQ:=jJ.below hb;have hB2:=hB1.trans (hb.mono hB1.size);clear jR jH lD lF hb jJ hB1 k1;by_cases k2 : mP x.I s=true
 ·have HN:=Hid.aD (show iI x s=1 by rw [HE.out,if_neg (show ¬ aG x.E s<0 by have:=K1.out;omega),if_pos k2])
  rw [k2];clear k2;go_wp2;go_ret;exact⟨cB HN.out.symm,hB2⟩
 have K2:=Hid.aD ((XM _).mp k2);rw [(XM _).mp k2];clear k2;have jR:=mQ.cell 0 _ rfl;have jH:=mQ.cell 1 _ rfl;have lD:=mQ.cell 2 _ rfl;have lF:=mQ.cell 3 _ rfl;go_wp2_with fail;refine(yR _ H.E x.E s (fT h.E hB2) HS.out).mono ?_;rintro e w3 ⟨rfl,hb⟩;have hB3:=hB2.trans (hb.mono hB2.size);clear jR jH lD lF hb mQ hB2;by_cases k3 : 6<dK x.E s
 ·have HN:=Hid.aD (show iI x s=2 by rw [HE.out,if_neg (show ¬ aG x.E s<0 by have:=K1.out;omega),if_neg (show ¬ mP x.I s=true by rw [K2.out];decide),if_pos k3])
  go_wp2;go_ret;exact⟨cB HN.out.symm,hB3⟩
 ·have HN:=Hid.aD (show iI x s=3 by rw [HE.out,if_neg (show ¬ aG x.E s<0 by have:=K1.out;omega),if_neg (show ¬ mP x.I s=true by rw [K2.out];decide),if_neg (show ¬ 6<dK x.E s by omega)])
  go_wp2;go_ret;exact⟨cB HN.out.symm,hB3⟩
theorem AO (w : World)(H : bV)(x : Mem)(s : Int)(h : jN w w.heap.size H x)(hs : fJ x.E=true)(hs1 : fO x.I.G≤536870912)(hs2 : fO x.I.O≤536870912) :
  Calls Tryz.prog 78 #[.agg #[.slice H.E.Y.a H.E.Y.l H.E.Y.c, .slice H.E.Z.a H.E.Z.l H.E.Z.c, .slice H.I.G.a H.I.G.l H.I.G.c, .slice H.I.O.a H.I.O.l H.I.O.c], .int .i64 s] w fun e w'=>e= .returned (.int .i64 (iI x s)) ∧Below w.heap.size w w':=by
 have jL : aJ (w.alloc (.cells #[.slice H.E.Y.a H.E.Y.l H.E.Y.c, .slice H.E.Z.a H.E.Z.l H.E.Z.c, .slice H.I.G.a H.I.G.l H.I.G.c, .slice H.I.O.a H.I.O.l H.I.O.c] 31)) w.heap.size [.slice H.E.Y.a H.E.Y.l H.E.Y.c, .slice H.E.Z.a H.E.Z.l H.E.Z.c, .slice H.I.G.a H.I.G.l H.I.G.c, .slice H.I.O.a H.I.O.l H.I.O.c]:=aJ.new w #[.slice H.E.Y.a H.E.Y.l H.E.Y.c, .slice H.E.Z.a H.E.Z.l H.E.Z.c, .slice H.I.G.a H.I.G.l H.I.G.c, .slice H.I.O.a H.I.O.l H.I.O.c] _;have hB0 : Below w.heap.size w (w.alloc (.cells #[.slice H.E.Y.a H.E.Y.l H.E.Y.c, .slice H.E.Z.a H.E.Z.l H.E.Z.c, .slice H.I.G.a H.I.G.l H.I.G.c, .slice H.I.O.a H.I.O.l H.I.O.c] 31)) :=cO;have HE:=Hid.aD (show iI x s= (if aG x.E s<0 then 0 else if mP x.I s=true then 1 else if 6<dK x.E s then 2 else 3) from rfl);have HS:=Hid.aD hs;clear hs;go_enter Tryz.func78,Tryz.ntmps78;go_wp2_with fail;refine(nk _ H.E x.E s (fT h.E hB0) HS.out).mono ?_;rintro e w1 ⟨rfl,hb⟩;have jJ:=jL.below hb;have hB1:=hB0.trans (hb.mono hB0.size);clear hb jL hB0;by_cases k1 : aG x.E s<0
 ·have HN:=Hid.aD (show iI x s=0 by rw [HE.out,if_pos k1])
  go_wp2;go_ret;exact⟨cB HN.out.symm,hB1⟩
 have K1:=Hid.aD k1;have jR:=jJ.cell 0 _ rfl;have jH:=jJ.cell 1 _ rfl;have lD:=jJ.cell 2 _ rfl;have lF:=jJ.cell 3 _ rfl;go_wp2_with fail;refine(Kj _ H.I x.I s (j4 h.I hB1) hs1 hs2).mono ?_;rintro e w2 ⟨rfl,hb⟩;have mQ:=jJ.below hb;have hB2:=hB1.trans (hb.mono hB1.size);clear jR jH lD lF hb jJ hB1 k1;by_cases k2 : mP x.I s=true
 ·have HN:=Hid.aD (show iI x s=1 by rw [HE.out,if_neg (show ¬ aG x.E s<0 by have:=K1.out;omega),if_pos k2])
  rw [k2];clear k2;go_wp2;go_ret;exact⟨cB HN.out.symm,hB2⟩
 have K2:=Hid.aD ((XM _).mp k2);rw [(XM _).mp k2];clear k2;have jR:=mQ.cell 0 _ rfl;have jH:=mQ.cell 1 _ rfl;have lD:=mQ.cell 2 _ rfl;have lF:=mQ.cell 3 _ rfl;go_wp2_with fail;refine(tJ _ H.E x.E s (fT h.E hB2) HS.out (by have:=K1.out;omega)).mono ?_;rintro e w3 ⟨rfl,hb⟩;have hB3:=hB2.trans (hb.mono hB2.size);clear jR jH lD lF hb mQ hB2;by_cases k3 : 6<dK x.E s
 ·have HN:=Hid.aD (show iI x s=2 by rw [HE.out,if_neg (show ¬ aG x.E s<0 by have:=K1.out;omega),if_neg (show ¬ mP x.I s=true by rw [K2.out];decide),if_pos k3])
  go_wp2;go_ret;exact⟨cB HN.out.symm,hB3⟩
 ·have HN:=Hid.aD (show iI x s=3 by rw [HE.out,if_neg (show ¬ aG x.E s<0 by have:=K1.out;omega),if_neg (show ¬ mP x.I s=true by rw [K2.out];decide),if_neg (show ¬ 6<dK x.E s by omega)])
  go_wp2;go_ret;exact⟨cB HN.out.symm,hB3⟩
theorem FX {x : Mem}{s : Int}(h : iI x s≠0) : ¬ aG x.E s<0:=fun k=>h (if_pos k)
theorem OA (x : Mem)(s : Int) : iI x s=0∨iI x s=1∨iI x s=2∨iI x s=3:=by
 unfold iI
 repeat' split
 all_goals simp
end Go.Proofs.YtkmggglljkmjoaaGreat
