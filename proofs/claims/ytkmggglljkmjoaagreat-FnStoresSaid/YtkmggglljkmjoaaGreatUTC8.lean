/-
  Several texts in one: lemmas and contracts that the claim rests on.
-/
import Derived.Test.YtkmggglljkmjoaaGreatUTC1
import Derived.Deep.QuietTactic
import Derived.BigQuiet
import Derived.Deep.LoopGhost
import Derived.Deep.RegionHeld3
import Derived.Test.YtkmggglljkmjoaaGreatUTC2
import Derived.WalkSpells
import Derived.Laws.Cover3
import Derived.Test.YtkmggglljkmjoaaGreatUTC7
import Derived.Test.YtkmggglljkmjoaaGreatUTC6
namespace Go.Proofs.YtkmggglljkmjoaaGreat
open Go.RowKit
theorem xZ {B g0 g k : Nat}{v0 v1 v2 v3 u : Value}{W w w' : World}(h : w.cell? ⟨g0,0,none⟩ =some v0∧w.cell? ⟨g0,1,none⟩ =some v1∧w.cell? ⟨g0,2,none⟩ =some v2∧w.cell? ⟨g0,3,none⟩ =some v3∧w.cell? ⟨g,k,none⟩ =some u∧g0<w.heap.size∧g<w.heap.size∧Below B W w)(hb : Below w.heap.size w w')(hB : B≤g0) :
  w'.cell? ⟨g0,0,none⟩ =some v0∧w'.cell? ⟨g0,1,none⟩ =some v1∧w'.cell? ⟨g0,2,none⟩ =some v2∧w'.cell? ⟨g0,3,none⟩ =some v3∧w'.cell? ⟨g,k,none⟩ =some u∧g0<w'.heap.size∧g<w'.heap.size∧Below B W w':=by
 obtain⟨a,b,a',b',c,d,e,f⟩ :=h
 exact⟨jJ hb d a,jJ hb d b,jJ hb d a',jJ hb d b',jJ hb e c,Nat.lt_of_lt_of_le d hb.size,Nat.lt_of_lt_of_le e hb.size,f.trans (hb.mono (by omega))⟩
def BF (m : Mem)(c : Nat) : Bool:= (m.I.G.getD c []).all (jv m.E c)
def x9 (m : Mem)(k : Nat) : Bool:= (m.I.O.getD k []).all (jv m.E ((k%3 : Nat) : Int))
theorem Fe {m : Mem}(h : ∀c<3,BF m c=true∧ ∀w<3,x9 m (w * 3+c) =true) : qN m 3=true∧oJ m 9=true:=by
 constructor
 ·exact List.all_eq_true.2 fun c hc=> (h c (List.mem_range.1 hc)).1
 ·refine List.all_eq_true.2 fun k hk=> ?_
  have Eb:=List.mem_range.1 hk
  have a:= (h (k%3) (by omega)).2 (k / 3) (by omega)
  rwa [show k / 3 * 3+k%3=k by omega] at a
set_option maxHeartbeats 1000000 in
theorem qI (a c : Nat)(ha : a<3)(hc : c<3)(w : World) : Calls Tryz.prog 75 #[.int .i64 a, .int .i64 c] w fun e w'=>e= .returned (.int .i64 ((a * 3+c : Nat) : Int)) ∧w=w':=by
 have h1 : bO 0 2 (a : Int) =true:=bJ.2 ⟨by omega,by omega⟩
 have h2 : bO 0 2 (c : Int) =true:=bJ.2 ⟨by omega,by omega⟩
 have a1 : (a : Int) ≤2:=by omega
 have c1 : (c : Int) ≤2:=by omega
 go_enter Tryz.func75,Tryz.ntmps75
 go_wp2_with (go_at_call 102;refine(fG _ _ _ _).mono ?_;rintro e w1 ⟨rfl,rfl⟩)
 go_ret
 exact⟨dN (by omega),rfl⟩
set_option maxRecDepth 100000 in
set_option maxHeartbeats 4000000 in
theorem jA (w : World)(H : bP)(x : Mem)(h : gJ w w.heap.size H x)(hs1 : jh x.I.G≤536870912)(hs2 : jh x.I.O≤536870912) :
  Calls Tryz.prog 19 #[.agg #[.slice H.E.Y.a H.E.Y.l H.E.Y.c, .slice H.E.Z.a H.E.Z.l H.E.Z.c, .slice H.I.G.a H.I.G.l H.I.G.c, .slice H.I.O.a H.I.O.l H.I.O.c]] w fun e w'=>e= .returned (.bool (dG x)) ∧Below w.heap.size w w':=by
 have iW : aB (w.alloc (.cells #[.slice H.E.Y.a H.E.Y.l H.E.Y.c, .slice H.E.Z.a H.E.Z.l H.E.Z.c, .slice H.I.G.a H.I.G.l H.I.G.c, .slice H.I.O.a H.I.O.l H.I.O.c] 31)) w.heap.size [.slice H.E.Y.a H.E.Y.l H.E.Y.c, .slice H.E.Z.a H.E.Z.l H.E.Z.c, .slice H.I.G.a H.I.G.l H.I.G.c, .slice H.I.O.a H.I.O.l H.I.O.c]:=aB.new w #[.slice H.E.Y.a H.E.Y.l H.E.Y.c, .slice H.E.Z.a H.E.Z.l H.E.Z.c, .slice H.I.G.a H.I.G.l H.I.G.c, .slice H.I.O.a H.I.O.l H.I.O.c] _
 have hB0 : Below w.heap.size w (w.alloc (.cells #[.slice H.E.Y.a H.E.Y.l H.E.Y.c, .slice H.E.Z.a H.E.Z.l H.E.Z.c, .slice H.I.G.a H.I.G.l H.I.G.c, .slice H.I.O.a H.I.O.l H.I.O.c] 31)) :=dJ
 have HE:=Hid.aT (D_ x)
 go_enter Tryz.func19,Tryz.ntmps19
 go_wp2_with fail
 refine(AA _ H.E x.E (dW h.E hB0)).mono ?_
 rintro e w1 ⟨rfl,hb⟩
 have fV:=iW.below hb
 have hB1:=hB0.trans (hb.mono hB0.size)
 clear hb iW hB0
 by_cases k1 : jg x.E=true
 case neg=>
  have k1' : jg x.E=false:= (Bool.not_eq_true _).mp k1
  have HN:=Hid.aT (show dG x=false by rw [HE.out,k1'];rfl)
  rw [k1']
  clear k1 k1'
  go_wp2
  go_ret
  exact⟨bK HN.out.symm,hB1⟩
 have K1:=Hid.aT k1
 rw [k1]
 clear k1
 have iH:=fV.cell 0 _ rfl
 have iq:=fV.cell 1 _ rfl
 have jK:=fV.cell 2 _ rfl
 have jL:=fV.cell 3 _ rfl
 go_wp2_with fail
 refine(ou _ H.I x.I (eZ h.I hB1) hs1 hs2).mono ?_
 rintro e w2 ⟨rfl,hb⟩
 have jY:=fV.below hb
 have hB2:=hB1.trans (hb.mono hB1.size)
 clear hb fV hB1 iH iq jK jL
 by_cases k2 : fU x.I=true
 case neg=>
  have k2' : fU x.I=false:= (Bool.not_eq_true _).mp k2
  have HN:=Hid.aT (show dG x=false by rw [HE.out,k2'];simp)
  rw [k2']
  clear k2 k2'
  go_wp2
  go_ret
  exact⟨bK HN.out.symm,hB2⟩
 rw [k2]
 have hs:=Hid.aT (rZ K1.out)
 have HL:=Hid.aT (kD k2)
 have HE2:=Hid.aT (show dG x= (qN x 3&&oJ x 9) by rw [HE.out,K1.out,k2];rfl)
 clear k2 HE
 obtain⟨sW,_,hm1⟩ := (show jl FI w w.heap.size (.slice H.I.G.a H.I.G.l H.I.G.c) H.I.nC x.I.G from h.I.G).len'
 obtain⟨sZ,_,hm2⟩ := (show jl FI w w.heap.size (.slice H.I.O.a H.I.O.l H.I.O.c) H.I.tK x.I.O from h.I.O).len'
 have BA : H.I.G.l=3:=by rw [sW,HL.out.1]
 have BD : H.I.O.l=9:=by rw [sZ,HL.out.2]
 have hgr : jl FI w w.heap.size (.slice H.I.G.a 3 H.I.G.c) H.I.nC x.I.G:=by rw [←BA];exact h.I.G
 have hor : jl FI w w.heap.size (.slice H.I.O.a 9 H.I.O.c) H.I.tK x.I.O:=by rw [←BD];exact h.I.O
 rw [BA,BD] at jY
 clear sW sZ hm1 hm2 BA BD
 obtain⟨gG,oG,_,_,eG,_,_,_⟩ :=hgr.row (Below.refl _ _) (show 0<x.I.G.length by rw [HL.out.1];decide)
 obtain⟨gO,oO,_,_,eO,_,_,_⟩ :=hor.row (Below.refl _ _) (show 0<x.I.O.length by rw [HL.out.2];decide)
 rw [eG] at hgr jY
 rw [eO] at hor jY
 go_wp2
 go_loopw [3,4] (fun i _ wr=> ∃k : Nat,k≤3∧i= .int .i64 k∧Hid (∀c<k,BF x c=true∧ ∀a<3,x9 x (a * 3+c) =true) ∧Below w.heap.size w wr∧wr.cell? ⟨w.heap.size,0,none⟩ =some (.slice H.E.Y.a H.E.Y.l H.E.Y.c) ∧wr.cell? ⟨w.heap.size,1,none⟩ =some (.slice H.E.Z.a H.E.Z.l H.E.Z.c) ∧wr.cell? ⟨w.heap.size,2,none⟩ =some (.slice (some ⟨gG,oG,none⟩) 3 H.I.G.c) ∧wr.cell? ⟨w.heap.size,3,none⟩ =some (.slice (some ⟨gO,oO,none⟩) 9 H.I.O.c) ∧w.heap.size<wr.heap.size) (fun i _ _=>3 - (intOf i).toNat)
 case atStart=>exact⟨0,Nat.zero_le _,rfl,Hid.aT (fun c hc=>absurd hc (Nat.not_lt_zero c)),hB2,jY.cell 0 _ rfl,jY.cell 1 _ rfl,jY.cell 2 _ rfl,jY.cell 3 _ rfl,jY.lt⟩
 case round=>
  obtain⟨i,hi,rfl,HT,hb,iH,iq,jK,jL,zl⟩ :=hrel
  clear jY hB2
  by_cases hlt : i<3
  ·have JQ : (i : Int) <3:=by omega
   have hig : i<x.I.G.length:=by rw [HL.out.1];exact hlt
   obtain⟨g,o,A',c',qM,hg,p0,rr⟩ :=hgr.row hb hig
   injection qM with qM
   injection qM with hA1 hA2
   subst hA1 hA2
   have hgw : gG<wr.heap.size:=Nat.lt_of_lt_of_le hg hb.size
   have HX:=Hid.aT (show BF x i= (x.I.G[i]).all (jv x.E i) by unfold BF;rw [getD_at hig])
   have kH:=Hid.aT (fun hf : BF x i=false=>Ea (m:=x) (k:=i) (n:=3) hlt hf)
   generalize x.I.G[i]=row at p0 rr HX
   have hq1:=fun (W : World) (hW : Below w.heap.size w W) =>yO W H.E x.E A' c' row i (dW h.E hW) hs.out (eP rr hW) (by omega)
   rw [←HX.out] at hq1
   by_cases k3 : BF x i=true
   case neg=>
    have rW : BF x i=false:= (Bool.not_eq_true _).mp k3
    have HN:=Hid.aT (show dG x=false by rw [HE2.out,kH.out rW];rfl)
    rw [rW] at hq1
    clear k3 rW HX kH
    go_wp2
    go_region_held3 (fun w'=>w'.cell? ⟨w.heap.size,0,none⟩ =some (.slice H.E.Y.a H.E.Y.l H.E.Y.c) ∧w'.cell? ⟨w.heap.size,1,none⟩ =some (.slice H.E.Z.a H.E.Z.l H.E.Z.c) ∧w'.cell? ⟨w.heap.size,2,none⟩ =some (.slice (some ⟨gG,oG,none⟩) 3 H.I.G.c) ∧w'.cell? ⟨w.heap.size,3,none⟩ =some (.slice (some ⟨gO,oO,none⟩) 9 H.I.O.c) ∧w'.cell? ⟨gG,oG+i,none⟩ =some (.slice A' row.length c') ∧w.heap.size<w'.heap.size∧gG<w'.heap.size∧Below w.heap.size w w') (first| (go_keep;done) |exact xZ (by assumption) (by assumption) (Nat.le_refl _) |exact⟨by assumption,by assumption,by assumption,by assumption,by assumption,by assumption,by assumption,Below.drew (by assumption)⟩) ((go_at_call 74;refine(hq1 _ (by go_split_ands;assumption)).mono ?_;rintro e w3 ⟨rfl,hb3⟩))
    go_wp2
    go_ret
    exact⟨bK HN.out.symm,by first|assumption| (go_split_ands;assumption)⟩
   have K3:=Hid.aT k3
   rw [k3] at hq1
   clear k3 HX kH
   go_wp2
   go_region_held3 (fun w'=>w'.cell? ⟨w.heap.size,0,none⟩ =some (.slice H.E.Y.a H.E.Y.l H.E.Y.c) ∧w'.cell? ⟨w.heap.size,1,none⟩ =some (.slice H.E.Z.a H.E.Z.l H.E.Z.c) ∧w'.cell? ⟨w.heap.size,2,none⟩ =some (.slice (some ⟨gG,oG,none⟩) 3 H.I.G.c) ∧w'.cell? ⟨w.heap.size,3,none⟩ =some (.slice (some ⟨gO,oO,none⟩) 9 H.I.O.c) ∧w'.cell? ⟨gG,oG+i,none⟩ =some (.slice A' row.length c') ∧w.heap.size<w'.heap.size∧gG<w'.heap.size∧Below w.heap.size w w') (first| (go_keep;done) |exact xZ (by assumption) (by assumption) (Nat.le_refl _) |exact⟨by assumption,by assumption,by assumption,by assumption,by assumption,by assumption,by assumption,Below.drew (by assumption)⟩) ((go_at_call 74;refine(hq1 _ (by go_split_ands;assumption)).mono ?_;rintro e w3 ⟨rfl,hb3⟩))
   rename_i hh
   obtain⟨iH,iq,jK,jL,_,QC,_,hb2⟩ :=hh
   clear hq1 p0
   go_wp2
   go_loopw [4] (fun j wr=> ∃k : Nat,k≤3∧j= .int .i64 k∧Hid (∀a<k,x9 x (a * 3+i) =true) ∧Below w.heap.size w wr∧wr.cell? ⟨w.heap.size,0,none⟩ =some (.slice H.E.Y.a H.E.Y.l H.E.Y.c) ∧wr.cell? ⟨w.heap.size,1,none⟩ =some (.slice H.E.Z.a H.E.Z.l H.E.Z.c) ∧wr.cell? ⟨w.heap.size,2,none⟩ =some (.slice (some ⟨gG,oG,none⟩) 3 H.I.G.c) ∧wr.cell? ⟨w.heap.size,3,none⟩ =some (.slice (some ⟨gO,oO,none⟩) 9 H.I.O.c) ∧w.heap.size<wr.heap.size) (fun j _=>3 - (intOf j).toNat)
   case atStart=>exact⟨0,Nat.zero_le _,rfl,Hid.aT (fun a ha=>absurd ha (Nat.not_lt_zero a)),by assumption,by assumption,by assumption,by assumption,by assumption,by assumption⟩
   case round=>
    obtain⟨j,hj,rfl,HU,hb,iH,iq,jK,jL,zl⟩ :=hrel
    by_cases hlj : j<3
    ·have Qe : (j : Int) <3:=by omega
     have Lu : j * 3+i<x.I.O.length:=by rw [HL.out.2];omega
     obtain⟨g,o,Lv,c2',qM,hg,p0,rr⟩ :=hor.row hb Lu
     injection qM with qM
     injection qM with hA1 hA2
     subst hA1 hA2
     have hgw : gO<wr.heap.size:=Nat.lt_of_lt_of_le hg hb.size
     have HX:=Hid.aT (show x9 x (j * 3+i) = (x.I.O[j * 3+i]).all (jv x.E i) by unfold x9;rw [getD_at Lu,show (j * 3+i) %3=i by omega])
     have kH:=Hid.aT (fun hf : x9 x (j * 3+i) =false=>Cx (m:=x) (k:=j * 3+i) (n:=9) (by omega) hf)
     generalize x.I.O[j * 3+i]=DF at p0 rr HX
     have hq1:=fun (W : World) (hW : Below w.heap.size w W) =>yO W H.E x.E Lv c2' DF i (dW h.E hW) hs.out (eP rr hW) (by omega)
     have hq2:=fun (W : World) =>qI j i hlj hlt W
     rw [←HX.out] at hq1
     have n0 : (0 : Int) ≤ ((j * 3+i : Nat) : Int) :=by omega
     have n1 : ((j * 3+i : Nat) : Int) <9:=by omega
     have n2 : j * 3+i<9:=by omega
     have n3 : ((j * 3+i : Nat) : Int).toNat=j * 3+i:=by omega
     obtain⟨kk,hkk⟩ : ∃kk,kk=j * 3+i:= ⟨_,rfl⟩
     rw [←hkk] at p0 n0 n1 n2 n3
     simp only [←hkk] at hq2
     clear hkk
     by_cases k4 : x9 x (j * 3+i) =true
     ·have HN:=Hid.aT (show ∀a<j+1,x9 x (a * 3+i) =true from fun a ha=>by
       by_cases e : a=j
       ·rw [e];exact k4
       ·exact HU.out a (by omega))
      rw [k4] at hq1
      clear k4 HX kH
      go_wp2
      go_region_held3 (fun w'=>w'.cell? ⟨w.heap.size,0,none⟩ =some (.slice H.E.Y.a H.E.Y.l H.E.Y.c) ∧w'.cell? ⟨w.heap.size,1,none⟩ =some (.slice H.E.Z.a H.E.Z.l H.E.Z.c) ∧w'.cell? ⟨w.heap.size,2,none⟩ =some (.slice (some ⟨gG,oG,none⟩) 3 H.I.G.c) ∧w'.cell? ⟨w.heap.size,3,none⟩ =some (.slice (some ⟨gO,oO,none⟩) 9 H.I.O.c) ∧w'.cell? ⟨gO,oO+kk,none⟩ =some (.slice Lv DF.length c2') ∧w.heap.size<w'.heap.size∧gO<w'.heap.size∧Below w.heap.size w w') (first| (go_keep;done) |exact xZ (by assumption) (by assumption) (Nat.le_refl _) |exact⟨by assumption,by assumption,by assumption,by assumption,by assumption,by assumption,by assumption,Below.drew (by assumption)⟩) (first| (go_at_call 75;refine(hq2 _).mono ?_;rintro e w3 ⟨rfl,rfl⟩) | (go_at_call 74;refine(hq1 _ (by go_split_ands;assumption)).mono ?_;rintro e w3 ⟨rfl,hb3⟩))
      go_wp2
      go_roundw
      case rel=>exact⟨j+1,by omega,by go_num,HN,by first|assumption| (go_split_ands;assumption),by first|assumption| (go_split_ands;assumption),by first|assumption| (go_split_ands;assumption),by first|assumption| (go_split_ands;assumption),by first|assumption| (go_split_ands;assumption),by first|assumption| (go_split_ands;assumption)⟩
      case measure=>simp [intOf];omega
     ·have IW : x9 x (j * 3+i) =false:= (Bool.not_eq_true _).mp k4
      have HN:=Hid.aT (show dG x=false by rw [HE2.out,kH.out IW];simp)
      rw [IW] at hq1
      clear k4 IW HX kH
      go_wp2
      go_region_held3 (fun w'=>w'.cell? ⟨w.heap.size,0,none⟩ =some (.slice H.E.Y.a H.E.Y.l H.E.Y.c) ∧w'.cell? ⟨w.heap.size,1,none⟩ =some (.slice H.E.Z.a H.E.Z.l H.E.Z.c) ∧w'.cell? ⟨w.heap.size,2,none⟩ =some (.slice (some ⟨gG,oG,none⟩) 3 H.I.G.c) ∧w'.cell? ⟨w.heap.size,3,none⟩ =some (.slice (some ⟨gO,oO,none⟩) 9 H.I.O.c) ∧w'.cell? ⟨gO,oO+kk,none⟩ =some (.slice Lv DF.length c2') ∧w.heap.size<w'.heap.size∧gO<w'.heap.size∧Below w.heap.size w w') (first| (go_keep;done) |exact xZ (by assumption) (by assumption) (Nat.le_refl _) |exact⟨by assumption,by assumption,by assumption,by assumption,by assumption,by assumption,by assumption,Below.drew (by assumption)⟩) (first| (go_at_call 75;refine(hq2 _).mono ?_;rintro e w3 ⟨rfl,rfl⟩) | (go_at_call 74;refine(hq1 _ (by go_split_ands;assumption)).mono ?_;rintro e w3 ⟨rfl,hb3⟩))
      go_wp2
      go_ret
      exact⟨bK HN.out.symm,by first|assumption| (go_split_ands;assumption)⟩
    ·obtain rfl : j=3:=by omega
     go_wp2
     go_roundw
     case rel=>
      refine⟨i+1,by omega,by go_num,Hid.aT (fun c hc=> ?_),hb,iH,iq,jK,jL,zl⟩
      by_cases e : c=i
      ·rw [e];exact⟨K3.out,HU.out⟩
      ·exact HT.out c (by omega)
     case measure=>simp [intOf];omega
  ·obtain rfl : i=3:=by omega
   have HN:=Hid.aT (show dG x=true by rw [HE2.out, (Fe HT.out).1, (Fe HT.out).2];rfl)
   go_wp2
   go_ret
   exact⟨bK HN.out.symm,hb⟩
end Go.Proofs.YtkmggglljkmjoaaGreat
namespace Go.Proofs.YtkmggglljkmjoaaGreat
open Go.RowKit
set_option maxHeartbeats 400000 in
theorem pI (h : Int)(w : World) : Calls Tryz.prog 114 #[.int .i64 h] w fun e w'=>e= .returned (.bool (eY h)) ∧w=w':=by
 by_cases h1 : 32≤h
 ·by_cases h2 : h≤223
  ·go_enter Tryz.func114,Tryz.ntmps114
   go_wp2
   go_ret
   exact⟨bK (by simp [eY,h1,h2]),rfl⟩
  ·go_enter Tryz.func114,Tryz.ntmps114
   go_wp2
   go_ret
   exact⟨bK (by simp [eY];omega),rfl⟩
 ·go_enter Tryz.func114,Tryz.ntmps114
  go_wp2
  go_ret
  exact⟨bK (by simp [eY];omega),rfl⟩
set_option maxHeartbeats 400000 in
theorem mR (h : Int)(w : World) : Calls Tryz.prog 91 #[.int .i64 h] w fun e w'=>e= .returned (.bool (eY h)) ∧w=w':=by
 by_cases h1 : 32≤h
 ·by_cases h2 : h≤223
  ·go_enter Tryz.func91,Tryz.ntmps91
   go_wp2
   go_ret
   exact⟨bK (by simp [eY,h1,h2]),rfl⟩
  ·go_enter Tryz.func91,Tryz.ntmps91
   go_wp2
   go_ret
   exact⟨bK (by simp [eY];omega),rfl⟩
 ·go_enter Tryz.func91,Tryz.ntmps91
  go_wp2
  go_ret
  exact⟨bK (by simp [eY];omega),rfl⟩
theorem kX {h : Int}(k : eY h=true) : 32≤h∧h≤223∧h%32<24∧bO 0 23 (h%32) =true∧h.tmod 32=h%32∧h.tdiv 32=h / 32:=by
 unfold eY at k
 simp only [Bool.and_eq_true,decide_eq_true_eq] at k
 obtain⟨⟨a,b⟩,c⟩ :=k
 exact⟨a,b,c,bJ.2 ⟨by omega,by omega⟩,Int.tmod_eq_emod_of_nonneg (by omega),Int.tdiv_eq_ediv_of_nonneg (by omega)⟩
set_option maxHeartbeats 400000 in
theorem mP (h : Int)(w : World)(k : eY h=true) : Calls Tryz.prog 30 #[.int .i64 h] w fun e w'=>e= .returned (.int .i64 (h%32)) ∧w=w':=by
 obtain⟨a,b,_,_,c,_⟩ :=kX k
 have HC:=Hid.aT c
 clear c
 go_enter Tryz.func30,Tryz.ntmps30
 go_wp2_with (go_at_call 91;refine(mR _ _).mono ?_;rw [k];rintro e w1 ⟨rfl,rfl⟩)
 go_ret
 exact⟨dN (by first|rfl|rw [HC.out]),rfl⟩
set_option maxHeartbeats 400000 in
theorem DI (h : Int)(w : World)(k : eY h=true) : Calls Tryz.prog 123 #[.int .i64 h] w fun e w'=>e= .returned (.int .i64 (h / 32)) ∧w=w':=by
 obtain⟨a,b,_,_,_,c⟩ :=kX k
 have HC:=Hid.aT c
 clear c
 go_enter Tryz.func123,Tryz.ntmps123
 go_wp2_with (go_at_call 91;refine(mR _ _).mono ?_;rw [k];rintro e w1 ⟨rfl,rfl⟩)
 go_ret
 exact⟨dN (by first|rfl|rw [HC.out]),rfl⟩
set_option maxRecDepth 100000 in
set_option maxHeartbeats 4000000 in
theorem zB (w : World)(H : bP)(x : Mem)(s : Int)(h : gJ w w.heap.size H x)(hs : gI x.E=true) :
  Calls Tryz.prog 71 #[.agg #[.slice H.E.Y.a H.E.Y.l H.E.Y.c, .slice H.E.Z.a H.E.Z.l H.E.Z.c, .slice H.I.G.a H.I.G.l H.I.G.c, .slice H.I.O.a H.I.O.l H.I.O.c], .int .i64 s] w fun e w'=>e= .returned (.int .i64 (jw x s)) ∧Below w.heap.size w w':=by
 have iW : aB (w.alloc (.cells #[.slice H.E.Y.a H.E.Y.l H.E.Y.c, .slice H.E.Z.a H.E.Z.l H.E.Z.c, .slice H.I.G.a H.I.G.l H.I.G.c, .slice H.I.O.a H.I.O.l H.I.O.c] 31)) w.heap.size [.slice H.E.Y.a H.E.Y.l H.E.Y.c, .slice H.E.Z.a H.E.Z.l H.E.Z.c, .slice H.I.G.a H.I.G.l H.I.G.c, .slice H.I.O.a H.I.O.l H.I.O.c]:=aB.new w #[.slice H.E.Y.a H.E.Y.l H.E.Y.c, .slice H.E.Z.a H.E.Z.l H.E.Z.c, .slice H.I.G.a H.I.G.l H.I.G.c, .slice H.I.O.a H.I.O.l H.I.O.c] _
 have hB0 : Below w.heap.size w (w.alloc (.cells #[.slice H.E.Y.a H.E.Y.l H.E.Y.c, .slice H.E.Z.a H.E.Z.l H.E.Z.c, .slice H.I.G.a H.I.G.l H.I.G.c, .slice H.I.O.a H.I.O.l H.I.O.c] 31)) :=dJ
 have HE:=Hid.aT (show jw x s= (if aO x.E s<0 then 0 else if kZ x.I s=true then 1 else if 6<dz x.E s then 2 else 3) from rfl)
 have HS:=Hid.aT hs
 clear hs
 go_enter Tryz.func71,Tryz.ntmps71
 go_wp2_with fail
 refine(ql _ H.E x.E s (dW h.E hB0) HS.out).mono ?_
 rintro e w1 ⟨rfl,hb⟩
 have fV:=iW.below hb
 have hB1:=hB0.trans (hb.mono hB0.size)
 clear hb iW hB0
 by_cases k1 : aO x.E s<0
 ·have HN:=Hid.aT (show jw x s=0 by rw [HE.out,if_pos k1])
  go_wp2
  go_ret
  exact⟨dN HN.out.symm,hB1⟩
 have K1:=Hid.aT k1
 have iH:=fV.cell 0 _ rfl
 have iq:=fV.cell 1 _ rfl
 have jK:=fV.cell 2 _ rfl
 have jL:=fV.cell 3 _ rfl
 go_wp2_with fail
 refine(AB _ H.I x.I s (eZ h.I hB1)).mono ?_
 rintro e w2 ⟨rfl,hb⟩
 have jY:=fV.below hb
 have hB2:=hB1.trans (hb.mono hB1.size)
 clear iH iq jK jL hb fV hB1 k1
 by_cases k2 : kZ x.I s=true
 ·have HN:=Hid.aT (show jw x s=1 by rw [HE.out,if_neg (show ¬ aO x.E s<0 by have:=K1.out;omega),if_pos k2])
  rw [k2]
  clear k2
  go_wp2
  go_ret
  exact⟨dN HN.out.symm,hB2⟩
 have K2:=Hid.aT ((Bool.not_eq_true _).mp k2)
 rw [(Bool.not_eq_true _).mp k2]
 clear k2
 have iH:=jY.cell 0 _ rfl
 have iq:=jY.cell 1 _ rfl
 have jK:=jY.cell 2 _ rfl
 have jL:=jY.cell 3 _ rfl
 go_wp2_with fail
 refine(vo _ H.E x.E s (dW h.E hB2) HS.out).mono ?_
 rintro e w3 ⟨rfl,hb⟩
 have hB3:=hB2.trans (hb.mono hB2.size)
 clear iH iq jK jL hb jY hB2
 by_cases k3 : 6<dz x.E s
 ·have HN:=Hid.aT (show jw x s=2 by rw [HE.out,if_neg (show ¬ aO x.E s<0 by have:=K1.out;omega),if_neg (show ¬ kZ x.I s=true by rw [K2.out];decide),if_pos k3])
  go_wp2
  go_ret
  exact⟨dN HN.out.symm,hB3⟩
 ·have HN:=Hid.aT (show jw x s=3 by rw [HE.out,if_neg (show ¬ aO x.E s<0 by have:=K1.out;omega),if_neg (show ¬ kZ x.I s=true by rw [K2.out];decide),if_neg (show ¬ 6<dz x.E s by omega)])
  go_wp2
  go_ret
  exact⟨dN HN.out.symm,hB3⟩
set_option maxRecDepth 100000 in
set_option maxHeartbeats 4000000 in
theorem zC (w : World)(H : bP)(x : Mem)(s : Int)(h : gJ w w.heap.size H x)(hs : gI x.E=true)(hs1 : jh x.I.G≤536870912)(hs2 : jh x.I.O≤536870912) :
  Calls Tryz.prog 78 #[.agg #[.slice H.E.Y.a H.E.Y.l H.E.Y.c, .slice H.E.Z.a H.E.Z.l H.E.Z.c, .slice H.I.G.a H.I.G.l H.I.G.c, .slice H.I.O.a H.I.O.l H.I.O.c], .int .i64 s] w fun e w'=>e= .returned (.int .i64 (jw x s)) ∧Below w.heap.size w w':=by
 have iW : aB (w.alloc (.cells #[.slice H.E.Y.a H.E.Y.l H.E.Y.c, .slice H.E.Z.a H.E.Z.l H.E.Z.c, .slice H.I.G.a H.I.G.l H.I.G.c, .slice H.I.O.a H.I.O.l H.I.O.c] 31)) w.heap.size [.slice H.E.Y.a H.E.Y.l H.E.Y.c, .slice H.E.Z.a H.E.Z.l H.E.Z.c, .slice H.I.G.a H.I.G.l H.I.G.c, .slice H.I.O.a H.I.O.l H.I.O.c]:=aB.new w #[.slice H.E.Y.a H.E.Y.l H.E.Y.c, .slice H.E.Z.a H.E.Z.l H.E.Z.c, .slice H.I.G.a H.I.G.l H.I.G.c, .slice H.I.O.a H.I.O.l H.I.O.c] _
 have hB0 : Below w.heap.size w (w.alloc (.cells #[.slice H.E.Y.a H.E.Y.l H.E.Y.c, .slice H.E.Z.a H.E.Z.l H.E.Z.c, .slice H.I.G.a H.I.G.l H.I.G.c, .slice H.I.O.a H.I.O.l H.I.O.c] 31)) :=dJ
 have HE:=Hid.aT (show jw x s= (if aO x.E s<0 then 0 else if kZ x.I s=true then 1 else if 6<dz x.E s then 2 else 3) from rfl)
 have HS:=Hid.aT hs
 clear hs
 go_enter Tryz.func78,Tryz.ntmps78
 go_wp2_with fail
 refine(mD _ H.E x.E s (dW h.E hB0) HS.out).mono ?_
 rintro e w1 ⟨rfl,hb⟩
 have fV:=iW.below hb
 have hB1:=hB0.trans (hb.mono hB0.size)
 clear hb iW hB0
 by_cases k1 : aO x.E s<0
 ·have HN:=Hid.aT (show jw x s=0 by rw [HE.out,if_pos k1])
  go_wp2
  go_ret
  exact⟨dN HN.out.symm,hB1⟩
 have K1:=Hid.aT k1
 have iH:=fV.cell 0 _ rfl
 have iq:=fV.cell 1 _ rfl
 have jK:=fV.cell 2 _ rfl
 have jL:=fV.cell 3 _ rfl
 go_wp2_with fail
 refine(Gr _ H.I x.I s (eZ h.I hB1) hs1 hs2).mono ?_
 rintro e w2 ⟨rfl,hb⟩
 have jY:=fV.below hb
 have hB2:=hB1.trans (hb.mono hB1.size)
 clear iH iq jK jL hb fV hB1 k1
 by_cases k2 : kZ x.I s=true
 ·have HN:=Hid.aT (show jw x s=1 by rw [HE.out,if_neg (show ¬ aO x.E s<0 by have:=K1.out;omega),if_pos k2])
  rw [k2]
  clear k2
  go_wp2
  go_ret
  exact⟨dN HN.out.symm,hB2⟩
 have K2:=Hid.aT ((Bool.not_eq_true _).mp k2)
 rw [(Bool.not_eq_true _).mp k2]
 clear k2
 have iH:=jY.cell 0 _ rfl
 have iq:=jY.cell 1 _ rfl
 have jK:=jY.cell 2 _ rfl
 have jL:=jY.cell 3 _ rfl
 go_wp2_with fail
 refine(qH _ H.E x.E s (dW h.E hB2) HS.out (by have:=K1.out;omega)).mono ?_
 rintro e w3 ⟨rfl,hb⟩
 have hB3:=hB2.trans (hb.mono hB2.size)
 clear iH iq jK jL hb jY hB2
 by_cases k3 : 6<dz x.E s
 ·have HN:=Hid.aT (show jw x s=2 by rw [HE.out,if_neg (show ¬ aO x.E s<0 by have:=K1.out;omega),if_neg (show ¬ kZ x.I s=true by rw [K2.out];decide),if_pos k3])
  go_wp2
  go_ret
  exact⟨dN HN.out.symm,hB3⟩
 ·have HN:=Hid.aT (show jw x s=3 by rw [HE.out,if_neg (show ¬ aO x.E s<0 by have:=K1.out;omega),if_neg (show ¬ kZ x.I s=true by rw [K2.out];decide),if_neg (show ¬ 6<dz x.E s by omega)])
  go_wp2
  go_ret
  exact⟨dN HN.out.symm,hB3⟩
theorem Ec {x : Mem}{s : Int}(h : jw x s≠0) : ¬ aO x.E s<0:=fun k=>h (if_pos k)
end Go.Proofs.YtkmggglljkmjoaaGreat
namespace Go.Proofs.YtkmggglljkmjoaaGreat
open Go.RowKit
theorem JR {B g0 : Nat}{v0 v1 v2 v3 : Value}{W w w' : World}(h : w.cell? ⟨g0,0,none⟩ =some v0∧w.cell? ⟨g0,1,none⟩ =some v1∧w.cell? ⟨g0,2,none⟩ =some v2∧w.cell? ⟨g0,3,none⟩ =some v3∧g0<w.heap.size∧Below B W w)(hb : Below w.heap.size w w')(hB : B≤g0) :
  w'.cell? ⟨g0,0,none⟩ =some v0∧w'.cell? ⟨g0,1,none⟩ =some v1∧w'.cell? ⟨g0,2,none⟩ =some v2∧w'.cell? ⟨g0,3,none⟩ =some v3∧g0<w'.heap.size∧Below B W w':=by
 obtain⟨a,b,a',b',d,f⟩ :=h
 exact⟨jJ hb d a,jJ hb d b,jJ hb d a',jJ hb d b',Nat.lt_of_lt_of_le d hb.size,f.trans (hb.mono (by omega))⟩
set_option maxRecDepth 100000 in
set_option maxHeartbeats 4000000 in
theorem qO (w : World)(H : bP)(x : Mem)(s : Int)(h : gJ w w.heap.size H x)(hs : gI x.E=true) :
  Calls Tryz.prog 89 #[.agg #[.slice H.E.Y.a H.E.Y.l H.E.Y.c, .slice H.E.Z.a H.E.Z.l H.E.Z.c, .slice H.I.G.a H.I.G.l H.I.G.c, .slice H.I.O.a H.I.O.l H.I.O.c], .int .i64 s] w fun e w'=>e= .returned (.bool (gM x s)) ∧Below w.heap.size w w':=by
 have iW : aB (w.alloc (.cells #[.slice H.E.Y.a H.E.Y.l H.E.Y.c, .slice H.E.Z.a H.E.Z.l H.E.Z.c, .slice H.I.G.a H.I.G.l H.I.G.c, .slice H.I.O.a H.I.O.l H.I.O.c] 31)) w.heap.size [.slice H.E.Y.a H.E.Y.l H.E.Y.c, .slice H.E.Z.a H.E.Z.l H.E.Z.c, .slice H.I.G.a H.I.G.l H.I.G.c, .slice H.I.O.a H.I.O.l H.I.O.c]:=aB.new w #[.slice H.E.Y.a H.E.Y.l H.E.Y.c, .slice H.E.Z.a H.E.Z.l H.E.Z.c, .slice H.I.G.a H.I.G.l H.I.G.c, .slice H.I.O.a H.I.O.l H.I.O.c] _
 have hB0 : Below w.heap.size w (w.alloc (.cells #[.slice H.E.Y.a H.E.Y.l H.E.Y.c, .slice H.E.Z.a H.E.Z.l H.E.Z.c, .slice H.I.G.a H.I.G.l H.I.G.c, .slice H.I.O.a H.I.O.l H.I.O.c] 31)) :=dJ
 have HE:=Hid.aT (show gM x s= (eY s&& (jw x (s%32) == 3) && (dz x.E (s%32) == s / 32)) from rfl)
 have HS:=Hid.aT hs
 clear hs
 go_enter Tryz.func89,Tryz.ntmps89
 by_cases k1 : eY s=true
 case neg=>
  have k1' : eY s=false:= (Bool.not_eq_true _).mp k1
  have HN:=Hid.aT (show gM x s=false by rw [HE.out,k1'];rfl)
  clear k1
  go_wp2_with (go_at_call 114;refine(pI _ _).mono ?_;rw [k1'];rintro e w1 ⟨rfl,rfl⟩)
  go_ret
  exact⟨bK HN.out.symm,hB0⟩
 obtain⟨a1,a2,a3,a4,a5,a6⟩ :=kX k1
 have K1:=Hid.aT k1
 go_wp2_with (go_at_call 114;refine(pI _ _).mono ?_;rw [k1];rintro e w1 ⟨rfl,rfl⟩)
 clear k1
 refine(zB _ H x (s%32) (dO h hB0) HS.out).mono ?_
 rintro e w1 ⟨rfl,hb⟩
 have fV:=iW.below hb
 have hB1:=hB0.trans (hb.mono hB0.size)
 clear hb iW hB0
 by_cases k2 : (jw x (s%32) == 3) =true
 case neg=>
  have k2' : (jw x (s%32) == 3) =false:= (Bool.not_eq_true _).mp k2
  have HN:=Hid.aT (show gM x s=false by rw [HE.out,k2'];simp)
  clear k2
  go_wp2
  go_ret
  exact⟨bK HN.out.symm,hB1⟩
 have K2:=Hid.aT k2
 have iH:=fV.cell 0 _ rfl
 have iq:=fV.cell 1 _ rfl
 have jK:=fV.cell 2 _ rfl
 have jL:=fV.cell 3 _ rfl
 go_wp2_with fail
 refine(vo _ H.E x.E (s%32) (dW h.E hB1) HS.out).mono ?_
 rintro e w3 ⟨rfl,hb⟩
 have hB3:=hB1.trans (hb.mono hB1.size)
 clear iH iq jK jL hb fV hB1 k2
 by_cases k3 : (dz x.E (s%32) == s / 32) =true
 ·have HN:=Hid.aT (show gM x s=true by rw [HE.out,K1.out,K2.out,k3];rfl)
  go_wp2
  go_ret
  exact⟨bK HN.out.symm,hB3⟩
 ·have rW : (dz x.E (s%32) == s / 32) =false:= (Bool.not_eq_true _).mp k3
  have HN:=Hid.aT (show gM x s=false by rw [HE.out,rW];simp)
  clear k3
  go_wp2
  go_ret
  exact⟨bK HN.out.symm,hB3⟩
set_option maxRecDepth 100000 in
set_option maxHeartbeats 8000000 in
theorem r9 (w : World)(H : bP)(x : Mem)(s : Int)(h : gJ w w.heap.size H x)(hs : gI x.E=true)(hs1 : jh x.I.G≤536870912)(hs2 : jh x.I.O≤536870912) :
  Calls Tryz.prog 59 #[.agg #[.slice H.E.Y.a H.E.Y.l H.E.Y.c, .slice H.E.Z.a H.E.Z.l H.E.Z.c, .slice H.I.G.a H.I.G.l H.I.G.c, .slice H.I.O.a H.I.O.l H.I.O.c], .int .i64 s] w fun e w'=>e= .returned (.bool (gM x s)) ∧Below w.heap.size w w':=by
 have iW : aB (w.alloc (.cells #[.slice H.E.Y.a H.E.Y.l H.E.Y.c, .slice H.E.Z.a H.E.Z.l H.E.Z.c, .slice H.I.G.a H.I.G.l H.I.G.c, .slice H.I.O.a H.I.O.l H.I.O.c] 31)) w.heap.size [.slice H.E.Y.a H.E.Y.l H.E.Y.c, .slice H.E.Z.a H.E.Z.l H.E.Z.c, .slice H.I.G.a H.I.G.l H.I.G.c, .slice H.I.O.a H.I.O.l H.I.O.c]:=aB.new w #[.slice H.E.Y.a H.E.Y.l H.E.Y.c, .slice H.E.Z.a H.E.Z.l H.E.Z.c, .slice H.I.G.a H.I.G.l H.I.G.c, .slice H.I.O.a H.I.O.l H.I.O.c] _
 have hB0 : Below w.heap.size w (w.alloc (.cells #[.slice H.E.Y.a H.E.Y.l H.E.Y.c, .slice H.E.Z.a H.E.Z.l H.E.Z.c, .slice H.I.G.a H.I.G.l H.I.G.c, .slice H.I.O.a H.I.O.l H.I.O.c] 31)) :=dJ
 have HE:=Hid.aT (show gM x s= (eY s&& (jw x (s%32) == 3) && (dz x.E (s%32) == s / 32)) from rfl)
 have HS:=Hid.aT hs
 clear hs
 go_enter Tryz.func59,Tryz.ntmps59
 go_wp2
 generalize (w.alloc (.cells #[.slice H.E.Y.a H.E.Y.l H.E.Y.c, .slice H.E.Z.a H.E.Z.l H.E.Z.c, .slice H.I.G.a H.I.G.l H.I.G.c, .slice H.I.O.a H.I.O.l H.I.O.c] 31)) =w0 at iW hB0⊢
 have iH:=iW.cell 0 _ rfl
 have iq:=iW.cell 1 _ rfl
 have jK:=iW.cell 2 _ rfl
 have jL:=iW.cell 3 _ rfl
 have zl:=iW.lt
 by_cases k1 : eY s=true
 case neg=>
  have k1' : eY s=false:= (Bool.not_eq_true _).mp k1
  have HN:=Hid.aT (show gM x s=false by rw [HE.out,k1'];rfl)
  have hq1 : ∀W : World,Calls Tryz.prog 91 #[.int .i64 s] W fun e w'=>e= .returned (.bool false) ∧W=w':=fun W=> (mR s W).mono fun e w' ⟨u,v⟩ => ⟨by rw [u,k1'],v⟩
  clear k1 k1'
  go_quiet ((go_at_call 91;exact fM (hq1 _)))
  go_wp2
  go_ret
  exact⟨bK HN.out.symm,by first|exact hB0|exact hB0.drew|exact below_drewN hB0 _⟩
 have hq1 : ∀W : World,Calls Tryz.prog 91 #[.int .i64 s] W fun e w'=>e= .returned (.bool true) ∧W=w':=fun W=> (mR s W).mono fun e w' ⟨u,v⟩ => ⟨by rw [u,k1],v⟩
 have hq2:=fun W : World=>mP s W k1
 have hq3:=fun W : World=>DI s W k1
 have HF:=Hid.aT (show gM x s= ((jw x (s%32) == 3) && (dz x.E (s%32) == s / 32)) by rw [HE.out,k1];rfl)
 have hq4:=fun (W : World) (hW : Below w.heap.size w W) =>zC W H x (s%32) (dO h hW) HS.out hs1 hs2
 have GX:=fun (W : World) (hW : Below w.heap.size w W) (k : jw x (s%32) ≠0) =>qH W H.E x.E (s%32) (dW h.E hW) HS.out (Ec k)
 clear k1 HE
 generalize s%32=sl at hq2 hq4 GX HF
 generalize s / 32=gn at hq3 HF
 generalize jw x sl=st at hq4 GX HF
 generalize dz x.E sl=ge at GX HF
 by_cases k2 : st=3
 case neg=>
  have HN:=Hid.aT (show gM x s=false by rw [HF.out,show (st == 3) =false by simpa using k2];rfl)
  have k2' : (st == 3) =false:=by simpa using k2
  clear k2 HF GX hq3
  first| (go_region_with (first| (go_at_call 91;refine(hq1 _).mono ?_;rintro e w1 ⟨rfl,rfl⟩) | (go_at_call 30;refine(hq2 _).mono ?_;rintro e w1 ⟨rfl,rfl⟩) | (go_at_call 78;refine(hq4 _ (by first|exact hB0.drew|exact below_drewN hB0 _|exact hB0)).mono ?_;rintro e w1 ⟨rfl,hb1⟩;obtain⟨os1,d1,rfl⟩ :=lS hb1;clear hb1))) |fail
  all_goals go_wp2
  all_goals go_ret
  all_goals exact⟨bK HN.out.symm,by first|exact dA hB0 (by omega) _ _|repeat (first|exact Below.refl _ _|refine Below.alloc ?_ (by simp<;>omega) _|refine dA ?_ (by simp<;>omega) _ _|refine Below.drew ?_|refine below_drewN ?_ _)⟩
 subst k2
 have NA:=fun (W : World) (hW : Below w.heap.size w W) =>GX W hW (by decide)
 clear GX
 have HG:=Hid.aT (show gM x s= (ge == gn) by rw [HF.out];simp)
 clear HF
 go_region_held3 (fun w'=>w'.cell? ⟨w.heap.size,0,none⟩ =some (.slice H.E.Y.a H.E.Y.l H.E.Y.c) ∧w'.cell? ⟨w.heap.size,1,none⟩ =some (.slice H.E.Z.a H.E.Z.l H.E.Z.c) ∧w'.cell? ⟨w.heap.size,2,none⟩ =some (.slice H.I.G.a H.I.G.l H.I.G.c) ∧w'.cell? ⟨w.heap.size,3,none⟩ =some (.slice H.I.O.a H.I.O.l H.I.O.c) ∧w.heap.size<w'.heap.size∧Below w.heap.size w w') (first| (go_keep;done) |exact JR (by assumption) (by assumption) (Nat.le_refl _) |exact⟨by assumption,by assumption,by assumption,by assumption,by assumption,Below.drew (by assumption)⟩) (first| (go_at_call 91;refine(hq1 _).mono ?_;rintro e w1 ⟨rfl,rfl⟩) | (go_at_call 30;refine(hq2 _).mono ?_;rintro e w1 ⟨rfl,rfl⟩) | (go_at_call 123;refine(hq3 _).mono ?_;rintro e w1 ⟨rfl,rfl⟩) | (go_at_call 78;refine(hq4 _ (by go_split_ands;assumption)).mono ?_;rintro e w1 ⟨rfl,hb1⟩) | (go_at_call 108;refine(NA _ (by go_split_ands;assumption)).mono ?_;rintro e w1 ⟨rfl,hb1⟩))
 go_wp2
 go_ret
 exact⟨bK HG.out.symm,by first|assumption| (go_split_ands;assumption)⟩
end Go.Proofs.YtkmggglljkmjoaaGreat
namespace Go.Proofs.YtkmggglljkmjoaaGreat
open Go.RowKit
def kM (m : Mem)(s : Int) : Int:=if dG m=true then jw m s else 0
def oL (m : Mem)(h : Int) : Bool:=dG m&&gM m h
theorem jd {m : Mem}(k : dG m=true) : gI m.E=true:=rZ (o_ k)
theorem Ed {m : Mem}(k : dG m=false)(h : Int) : oL m h=false:=by unfold oL;rw [k];rfl
theorem Cy {m : Mem}(k : dG m=true)(h : Int) : oL m h=gM m h:=by unfold oL;rw [k];rfl
set_option maxRecDepth 100000 in
set_option maxHeartbeats 1000000 in
theorem r_ (w : World)(H : bP)(x : Mem)(s : Int)(h : gJ w w.heap.size H x) :
  Calls Tryz.prog 39 #[.agg #[.slice H.E.Y.a H.E.Y.l H.E.Y.c, .slice H.E.Z.a H.E.Z.l H.E.Z.c, .slice H.I.G.a H.I.G.l H.I.G.c, .slice H.I.O.a H.I.O.l H.I.O.c], .int .i64 s] w fun e w'=>e= .returned (.int .i64 (kM x s)) ∧Below w.heap.size w w':=by
 have iW : aB (w.alloc (.cells #[.slice H.E.Y.a H.E.Y.l H.E.Y.c, .slice H.E.Z.a H.E.Z.l H.E.Z.c, .slice H.I.G.a H.I.G.l H.I.G.c, .slice H.I.O.a H.I.O.l H.I.O.c] 31)) w.heap.size [.slice H.E.Y.a H.E.Y.l H.E.Y.c, .slice H.E.Z.a H.E.Z.l H.E.Z.c, .slice H.I.G.a H.I.G.l H.I.G.c, .slice H.I.O.a H.I.O.l H.I.O.c]:=aB.new w #[.slice H.E.Y.a H.E.Y.l H.E.Y.c, .slice H.E.Z.a H.E.Z.l H.E.Z.c, .slice H.I.G.a H.I.G.l H.I.G.c, .slice H.I.O.a H.I.O.l H.I.O.c] _
 have hB0 : Below w.heap.size w (w.alloc (.cells #[.slice H.E.Y.a H.E.Y.l H.E.Y.c, .slice H.E.Z.a H.E.Z.l H.E.Z.c, .slice H.I.G.a H.I.G.l H.I.G.c, .slice H.I.O.a H.I.O.l H.I.O.c] 31)) :=dJ
 by_cases k1 : dG x=true
 case neg=>
  have k1' : dG x=false:= (Bool.not_eq_true _).mp k1
  have HN:=Hid.aT (show kM x s=0 from if_neg k1)
  clear k1
  go_enter Tryz.func39,Tryz.ntmps39
  go_wp2_with fail
  refine(jS _ H x (dO h hB0)).mono ?_
  rw [k1']
  rintro e w1 ⟨rfl,hb⟩
  have hB1:=hB0.trans (hb.mono hB0.size)
  clear hb iW hB0
  go_wp2
  go_ret
  exact⟨dN HN.out.symm,hB1⟩
 have HN:=Hid.aT (show kM x s=jw x s from if_pos k1)
 have HS:=Hid.aT (jd k1)
 go_enter Tryz.func39,Tryz.ntmps39
 go_wp2_with fail
 refine(jS _ H x (dO h hB0)).mono ?_
 rw [k1]
 rintro e w1 ⟨rfl,hb⟩
 have fV:=iW.below hb
 have hB1:=hB0.trans (hb.mono hB0.size)
 clear hb iW hB0 k1
 have iH:=fV.cell 0 _ rfl
 have iq:=fV.cell 1 _ rfl
 have jK:=fV.cell 2 _ rfl
 have jL:=fV.cell 3 _ rfl
 go_wp2_with fail
 refine(zB _ H x s (dO h hB1) HS.out).mono ?_
 rintro e w2 ⟨rfl,hb⟩
 have hB2:=hB1.trans (hb.mono hB1.size)
 clear iH iq jK jL hb fV hB1
 go_wp2
 go_ret
 exact⟨dN HN.out.symm,hB2⟩
set_option maxRecDepth 100000 in
set_option maxHeartbeats 1000000 in
theorem yc (w : World)(H : bP)(x : Mem)(s : Int)(h : gJ w w.heap.size H x) :
  Calls Tryz.prog 36 #[.agg #[.slice H.E.Y.a H.E.Y.l H.E.Y.c, .slice H.E.Z.a H.E.Z.l H.E.Z.c, .slice H.I.G.a H.I.G.l H.I.G.c, .slice H.I.O.a H.I.O.l H.I.O.c], .int .i64 s] w fun e w'=>e= .returned (.bool (oL x s)) ∧Below w.heap.size w w':=by
 have iW : aB (w.alloc (.cells #[.slice H.E.Y.a H.E.Y.l H.E.Y.c, .slice H.E.Z.a H.E.Z.l H.E.Z.c, .slice H.I.G.a H.I.G.l H.I.G.c, .slice H.I.O.a H.I.O.l H.I.O.c] 31)) w.heap.size [.slice H.E.Y.a H.E.Y.l H.E.Y.c, .slice H.E.Z.a H.E.Z.l H.E.Z.c, .slice H.I.G.a H.I.G.l H.I.G.c, .slice H.I.O.a H.I.O.l H.I.O.c]:=aB.new w #[.slice H.E.Y.a H.E.Y.l H.E.Y.c, .slice H.E.Z.a H.E.Z.l H.E.Z.c, .slice H.I.G.a H.I.G.l H.I.G.c, .slice H.I.O.a H.I.O.l H.I.O.c] _
 have hB0 : Below w.heap.size w (w.alloc (.cells #[.slice H.E.Y.a H.E.Y.l H.E.Y.c, .slice H.E.Z.a H.E.Z.l H.E.Z.c, .slice H.I.G.a H.I.G.l H.I.G.c, .slice H.I.O.a H.I.O.l H.I.O.c] 31)) :=dJ
 by_cases k1 : dG x=true
 case neg=>
  have k1' : dG x=false:= (Bool.not_eq_true _).mp k1
  have HN:=Hid.aT (Ed k1' s)
  clear k1
  go_enter Tryz.func36,Tryz.ntmps36
  go_wp2_with fail
  refine(jS _ H x (dO h hB0)).mono ?_
  rw [k1']
  rintro e w1 ⟨rfl,hb⟩
  have hB1:=hB0.trans (hb.mono hB0.size)
  clear hb iW hB0
  go_wp2
  go_ret
  exact⟨bK HN.out.symm,hB1⟩
 have HN:=Hid.aT (Cy k1 s)
 have HS:=Hid.aT (jd k1)
 go_enter Tryz.func36,Tryz.ntmps36
 go_wp2_with fail
 refine(jS _ H x (dO h hB0)).mono ?_
 rw [k1]
 rintro e w1 ⟨rfl,hb⟩
 have fV:=iW.below hb
 have hB1:=hB0.trans (hb.mono hB0.size)
 clear hb iW hB0 k1
 have iH:=fV.cell 0 _ rfl
 have iq:=fV.cell 1 _ rfl
 have jK:=fV.cell 2 _ rfl
 have jL:=fV.cell 3 _ rfl
 go_wp2_with fail
 refine(qO _ H x s (dO h hB1) HS.out).mono ?_
 rintro e w2 ⟨rfl,hb⟩
 have hB2:=hB1.trans (hb.mono hB1.size)
 clear iH iq jK jL hb fV hB1
 go_wp2
 go_ret
 exact⟨bK HN.out.symm,hB2⟩
set_option maxRecDepth 100000 in
set_option maxHeartbeats 1000000 in
theorem sj (w : World)(H : bP)(x : Mem)(s : Int)(h : gJ w w.heap.size H x)(hs1 : jh x.I.G≤536870912)(hs2 : jh x.I.O≤536870912) :
  Calls Tryz.prog 40 #[.agg #[.slice H.E.Y.a H.E.Y.l H.E.Y.c, .slice H.E.Z.a H.E.Z.l H.E.Z.c, .slice H.I.G.a H.I.G.l H.I.G.c, .slice H.I.O.a H.I.O.l H.I.O.c], .int .i64 s] w fun e w'=>e= .returned (.int .i64 (kM x s)) ∧Below w.heap.size w w':=by
 have iW : aB (w.alloc (.cells #[.slice H.E.Y.a H.E.Y.l H.E.Y.c, .slice H.E.Z.a H.E.Z.l H.E.Z.c, .slice H.I.G.a H.I.G.l H.I.G.c, .slice H.I.O.a H.I.O.l H.I.O.c] 31)) w.heap.size [.slice H.E.Y.a H.E.Y.l H.E.Y.c, .slice H.E.Z.a H.E.Z.l H.E.Z.c, .slice H.I.G.a H.I.G.l H.I.G.c, .slice H.I.O.a H.I.O.l H.I.O.c]:=aB.new w #[.slice H.E.Y.a H.E.Y.l H.E.Y.c, .slice H.E.Z.a H.E.Z.l H.E.Z.c, .slice H.I.G.a H.I.G.l H.I.G.c, .slice H.I.O.a H.I.O.l H.I.O.c] _
 have hB0 : Below w.heap.size w (w.alloc (.cells #[.slice H.E.Y.a H.E.Y.l H.E.Y.c, .slice H.E.Z.a H.E.Z.l H.E.Z.c, .slice H.I.G.a H.I.G.l H.I.G.c, .slice H.I.O.a H.I.O.l H.I.O.c] 31)) :=dJ
 by_cases k1 : dG x=true
 case neg=>
  have k1' : dG x=false:= (Bool.not_eq_true _).mp k1
  have HN:=Hid.aT (show kM x s=0 from if_neg k1)
  clear k1
  go_enter Tryz.func40,Tryz.ntmps40
  go_wp2_with fail
  refine(jA _ H x (dO h hB0) hs1 hs2).mono ?_
  rw [k1']
  rintro e w1 ⟨rfl,hb⟩
  have hB1:=hB0.trans (hb.mono hB0.size)
  clear hb iW hB0
  go_wp2
  go_ret
  exact⟨dN HN.out.symm,hB1⟩
 have HN:=Hid.aT (show kM x s=jw x s from if_pos k1)
 have HS:=Hid.aT (jd k1)
 go_enter Tryz.func40,Tryz.ntmps40
 go_wp2_with fail
 refine(jA _ H x (dO h hB0) hs1 hs2).mono ?_
 rw [k1]
 rintro e w1 ⟨rfl,hb⟩
 have fV:=iW.below hb
 have hB1:=hB0.trans (hb.mono hB0.size)
 clear hb iW hB0 k1
 have iH:=fV.cell 0 _ rfl
 have iq:=fV.cell 1 _ rfl
 have jK:=fV.cell 2 _ rfl
 have jL:=fV.cell 3 _ rfl
 go_wp2_with fail
 refine(zC _ H x s (dO h hB1) HS.out hs1 hs2).mono ?_
 rintro e w2 ⟨rfl,hb⟩
 have hB2:=hB1.trans (hb.mono hB1.size)
 clear iH iq jK jL hb fV hB1
 go_wp2
 go_ret
 exact⟨dN HN.out.symm,hB2⟩
set_option maxRecDepth 100000 in
set_option maxHeartbeats 1000000 in
theorem Cz (w : World)(H : bP)(x : Mem)(s : Int)(h : gJ w w.heap.size H x)(hs1 : jh x.I.G≤536870912)(hs2 : jh x.I.O≤536870912) :
  Calls Tryz.prog 37 #[.agg #[.slice H.E.Y.a H.E.Y.l H.E.Y.c, .slice H.E.Z.a H.E.Z.l H.E.Z.c, .slice H.I.G.a H.I.G.l H.I.G.c, .slice H.I.O.a H.I.O.l H.I.O.c], .int .i64 s] w fun e w'=>e= .returned (.bool (oL x s)) ∧Below w.heap.size w w':=by
 have iW : aB (w.alloc (.cells #[.slice H.E.Y.a H.E.Y.l H.E.Y.c, .slice H.E.Z.a H.E.Z.l H.E.Z.c, .slice H.I.G.a H.I.G.l H.I.G.c, .slice H.I.O.a H.I.O.l H.I.O.c] 31)) w.heap.size [.slice H.E.Y.a H.E.Y.l H.E.Y.c, .slice H.E.Z.a H.E.Z.l H.E.Z.c, .slice H.I.G.a H.I.G.l H.I.G.c, .slice H.I.O.a H.I.O.l H.I.O.c]:=aB.new w #[.slice H.E.Y.a H.E.Y.l H.E.Y.c, .slice H.E.Z.a H.E.Z.l H.E.Z.c, .slice H.I.G.a H.I.G.l H.I.G.c, .slice H.I.O.a H.I.O.l H.I.O.c] _
 have hB0 : Below w.heap.size w (w.alloc (.cells #[.slice H.E.Y.a H.E.Y.l H.E.Y.c, .slice H.E.Z.a H.E.Z.l H.E.Z.c, .slice H.I.G.a H.I.G.l H.I.G.c, .slice H.I.O.a H.I.O.l H.I.O.c] 31)) :=dJ
 by_cases k1 : dG x=true
 case neg=>
  have k1' : dG x=false:= (Bool.not_eq_true _).mp k1
  have HN:=Hid.aT (Ed k1' s)
  clear k1
  go_enter Tryz.func37,Tryz.ntmps37
  go_wp2_with fail
  refine(jA _ H x (dO h hB0) hs1 hs2).mono ?_
  rw [k1']
  rintro e w1 ⟨rfl,hb⟩
  have hB1:=hB0.trans (hb.mono hB0.size)
  clear hb iW hB0
  go_wp2
  go_ret
  exact⟨bK HN.out.symm,hB1⟩
 have HN:=Hid.aT (Cy k1 s)
 have HS:=Hid.aT (jd k1)
 go_enter Tryz.func37,Tryz.ntmps37
 go_wp2_with fail
 refine(jA _ H x (dO h hB0) hs1 hs2).mono ?_
 rw [k1]
 rintro e w1 ⟨rfl,hb⟩
 have fV:=iW.below hb
 have hB1:=hB0.trans (hb.mono hB0.size)
 clear hb iW hB0 k1
 have iH:=fV.cell 0 _ rfl
 have iq:=fV.cell 1 _ rfl
 have jK:=fV.cell 2 _ rfl
 have jL:=fV.cell 3 _ rfl
 go_wp2_with fail
 refine(r9 _ H x s (dO h hB1) HS.out hs1 hs2).mono ?_
 rintro e w2 ⟨rfl,hb⟩
 have hB2:=hB1.trans (hb.mono hB1.size)
 clear iH iq jK jL hb fV hB1
 go_wp2
 go_ret
 exact⟨bK HN.out.symm,hB2⟩
end Go.Proofs.YtkmggglljkmjoaaGreat
namespace Go.Proofs.YtkmggglljkmjoaaGreat
open Go.RowKit
theorem Tryz.infoSList : (Tryz.prog.info? 94).map (fun i=> (i.zero,i.size,i.bytes)) =some (some (.agg #[.slice none 0 0]),FS.n,24) :=by kernel_rfl
end Go.Proofs.YtkmggglljkmjoaaGreat
namespace Go.Proofs.YtkmggglljkmjoaaGreat
open Go.RowKit
structure Clock where
 Epoch : Int
 pq : List Pin
structure lM where
 pq : SV
@[reducible] def lM.val (H : lM) (x : Clock) : Value:= .agg #[.int .i64 x.Epoch, .slice H.pq.a H.pq.l H.pq.c]
def lM.foot (H : lM) : List Nat:=cu H.pq.val
structure vL (w : World)(B : Nat)(H : lM)(x : Clock) : Prop where
 pq : fE Lf w B H.pq.val x.pq
structure kF (w : World)(H : lM)(x : Clock) : Prop where
 pq : bA Lf 120 w H.pq.val x.pq
theorem vL.keep {w w' : World}{B B' : Nat}{H : lM}{x : Clock}(h : vL w B H x)(hk : ∀k,k<B→w'.heap[k]? =w.heap[k]?)(hB : B≤B') : vL w' B' H x:=
 ⟨h.pq.keep hk hB⟩
theorem lM.aX {H : lM}{g : Nat} : g∈H.foot↔g∈cu H.pq.val:=Iff.rfl
theorem kF.lt {w : World}{H : lM}{x : Clock}(h : kF w H x) : ∀g∈H.foot,g<w.heap.size:=by
 intro g hg
 exact(iQ h.pq) g hg
theorem kF.keep {w w' : World}{H : lM}{x : Clock}(h : kF w H x)(hk : ∀g∈H.foot,w'.heap[g]? =w.heap[g]?) : kF w' H x:=
 ⟨h.pq.keep (fun g hg=>hk g (lM.aX.2 (bV.2 hg)))⟩
theorem kF.aM {w w' : World}{H : lM}{x : Clock}{F : List Nat}(h : kF w H x)(hc : aY F w w')(hd : ∀g∈H.foot,g∉F) : kF w' H x:=h.keep fun g hg=>hc.block g (h.lt g hg) (hd g hg)
theorem kF.rd {w : World}{B : Nat}{H : lM}{x : Clock}(h : kF w H x)(hB : ∀g∈H.foot,g<B) : vL w B H x:=
 ⟨h.pq.rd (fun g hg=>hB g (lM.aX.2 (bV.2 hg)))⟩
theorem kF.rd' {w : World}{H : lM}{x : Clock}(h : kF w H x) : vL w w.heap.size H x:=h.rd h.lt
end Go.Proofs.YtkmggglljkmjoaaGreat
namespace Go.Proofs.YtkmggglljkmjoaaGreat
open Go.RowKit
end Go.Proofs.YtkmggglljkmjoaaGreat
