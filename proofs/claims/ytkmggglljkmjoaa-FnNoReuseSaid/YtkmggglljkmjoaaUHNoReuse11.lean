/-
  Several texts in one: lemmas and contracts that the claim rests on.
-/
import Derived.Test.YtkmggglljkmjoaaUHNoReuse2
import Derived.Test.YtkmggglljkmjoaaUHNoReuse1
import Derived.Deep.QuietTactic
import Derived.BigQuiet
import Derived.Deep.LoopGhost
import Derived.Deep.RegionHeld3
import Derived.WalkSpells
import Derived.Laws.Cover3
import Derived.Test.YtkmggglljkmjoaaUHNoReuse10
namespace Go.Proofs.Ytkmggglljkmjoaa
open Go.RowKit
def kI (m : Mem)(k : Nat) : Bool:= (List.range k).all fun c=> (m.I.G.getD c []).all (fF m.E c)
def jJ (m : Mem)(k : Nat) : Bool:= (List.range k).all fun k=> (m.I.O.getD k []).all (fF m.E ((k%3 : Nat) : Int))
theorem vv (m : Mem) : bX m= (fH m.E&&dM m.I&&kI m 3&&jJ m 9) :=rfl
theorem xW (m : Mem)(k : Nat) : kI m (k+1) = (kI m k&& (m.I.G.getD k []).all (fF m.E k)) :=by
 unfold kI
 rw [List.range_succ,List.all_append]
 simp
theorem wO (m : Mem)(k : Nat) : jJ m (k+1) = (jJ m k&& (m.I.O.getD k []).all (fF m.E ((k%3 : Nat) : Int))) :=by
 unfold jJ
 rw [List.range_succ,List.all_append]
 simp
theorem vw {m : Mem}{k n : Nat}(hk : k<n)(h : (m.I.G.getD k []).all (fF m.E k) =false) : kI m n=false:=
 List.all_eq_false.2 ⟨k,List.mem_range.2 hk,by rw [h];decide⟩
theorem tQ {m : Mem}{k n : Nat}(hk : k<n)(h : (m.I.O.getD k []).all (fF m.E ((k%3 : Nat) : Int)) =false) : jJ m n=false:=
 List.all_eq_false.2 ⟨k,List.mem_range.2 hk,by rw [h];decide⟩
theorem jC {l : Lists}(h : dM l=true) : l.G.length=3∧l.O.length=9:=by
 unfold dM at h
 simp only [Bool.and_eq_true,beq_iff_eq] at h
 exact⟨h.1.1.1,h.1.1.2⟩
set_option maxRecDepth 100000 in
set_option maxHeartbeats 4000000 in
theorem iT (w : World)(H : bY)(x : Mem)(h : gD w w.heap.size H x) :
  Calls Try.prog 16 #[.agg #[.slice H.E.Y.a H.E.Y.l H.E.Y.c, .slice H.E.Z.a H.E.Z.l H.E.Z.c, .slice H.I.G.a H.I.G.l H.I.G.c, .slice H.I.O.a H.I.O.l H.I.O.c]] w fun e w'=>e= .returned (.bool (bX x)) ∧Below w.heap.size w w':=by
 have ig : aJ (w.alloc (.cells #[.slice H.E.Y.a H.E.Y.l H.E.Y.c, .slice H.E.Z.a H.E.Z.l H.E.Z.c, .slice H.I.G.a H.I.G.l H.I.G.c, .slice H.I.O.a H.I.O.l H.I.O.c] 31)) w.heap.size [.slice H.E.Y.a H.E.Y.l H.E.Y.c, .slice H.E.Z.a H.E.Z.l H.E.Z.c, .slice H.I.G.a H.I.G.l H.I.G.c, .slice H.I.O.a H.I.O.l H.I.O.c]:=aJ.new w #[.slice H.E.Y.a H.E.Y.l H.E.Y.c, .slice H.E.Z.a H.E.Z.l H.E.Z.c, .slice H.I.G.a H.I.G.l H.I.G.c, .slice H.I.O.a H.I.O.l H.I.O.c] _
 have hB0 : Below w.heap.size w (w.alloc (.cells #[.slice H.E.Y.a H.E.Y.l H.E.Y.c, .slice H.E.Z.a H.E.Z.l H.E.Z.c, .slice H.I.G.a H.I.G.l H.I.G.c, .slice H.I.O.a H.I.O.l H.I.O.c] 31)) :=dn
 have HE:=Hid.aD (vv x)
 go_enter Try.func16,Try.ntmps16
 go_wp2_with fail
 refine(nW _ H.E x.E (dH h.E hB0)).mono ?_
 rintro e w1 ⟨rfl,hb⟩
 have gy:=ig.below hb
 have hB1:=hB0.trans (hb.mono hB0.size)
 clear hb ig hB0
 by_cases k1 : fH x.E=true
 case neg=>
  have k1' : fH x.E=false:= (Bool.not_eq_true _).mp k1
  have HN:=Hid.aD (show bX x=false by rw [HE.out,k1'];rfl)
  rw [k1']
  clear k1 k1'
  go_wp2
  go_ret
  exact⟨aS HN.out.symm,hB1⟩
 have K1:=Hid.aD k1
 rw [k1]
 clear k1
 have gZ:=gy.cell 0 _ rfl
 have gL:=gy.cell 1 _ rfl
 have iY:=gy.cell 2 _ rfl
 have iZ:=gy.cell 3 _ rfl
 go_wp2_with fail
 refine(jI _ H.I x.I (dP h.I hB1)).mono ?_
 rintro e w2 ⟨rfl,hb⟩
 have jf:=gy.below hb
 have hB2:=hB1.trans (hb.mono hB1.size)
 clear hb gy hB1 gZ gL iY iZ
 by_cases k2 : dM x.I=true
 case neg=>
  have k2' : dM x.I=false:= (Bool.not_eq_true _).mp k2
  have HN:=Hid.aD (show bX x=false by rw [HE.out,k2'];simp)
  rw [k2']
  clear k2 k2'
  go_wp2
  go_ret
  exact⟨aS HN.out.symm,hB2⟩
 rw [k2]
 have hs:=Hid.aD (mQ K1.out)
 have HL:=Hid.aD (jC k2)
 have HE2:=Hid.aD (show bX x= (kI x 3&&jJ x 9) by rw [HE.out,K1.out,k2];rfl)
 clear k2 HE
 obtain⟨nu,_,hm1⟩ := (show fO FI w w.heap.size (.slice H.I.G.a H.I.G.l H.I.G.c) H.I.jG x.I.G from h.I.G).len'
 obtain⟨ny,_,hm2⟩ := (show fO FI w w.heap.size (.slice H.I.O.a H.I.O.l H.I.O.c) H.I.mZ x.I.O from h.I.O).len'
 have sF : H.I.G.l=3:=by rw [nu,HL.out.1]
 have sG : H.I.O.l=9:=by rw [ny,HL.out.2]
 have hgr : fO FI w w.heap.size (.slice H.I.G.a 3 H.I.G.c) H.I.jG x.I.G:=by rw [←sF];exact h.I.G
 have hor : fO FI w w.heap.size (.slice H.I.O.a 9 H.I.O.c) H.I.mZ x.I.O:=by rw [←sG];exact h.I.O
 rw [sF,sG] at jf
 clear nu ny hm1 hm2 sF sG
 obtain⟨gG,oG,_,_,eG,_,_,_⟩ :=hgr.row (Below.refl _ _) (show 0<x.I.G.length by rw [HL.out.1];decide)
 obtain⟨gO,oO,_,_,eO,_,_,_⟩ :=hor.row (Below.refl _ _) (show 0<x.I.O.length by rw [HL.out.2];decide)
 rw [eG] at hgr jf
 rw [eO] at hor jf
 have gZ:=jf.cell 0 _ rfl
 have gL:=jf.cell 1 _ rfl
 have iY:=jf.cell 2 _ rfl
 have iZ:=jf.cell 3 _ rfl
 go_wp2
 go_loopw [3,4,21] (fun _ _ i wr=> ∃k : Nat,k≤3∧i= .int .i64 k∧Hid (kI x k=true) ∧Below w.heap.size w wr∧aJ wr w.heap.size [.slice H.E.Y.a H.E.Y.l H.E.Y.c, .slice H.E.Z.a H.E.Z.l H.E.Z.c, .slice (some ⟨gG,oG,none⟩) 3 H.I.G.c, .slice (some ⟨gO,oO,none⟩) 9 H.I.O.c]) (fun _ _ i _=>3 - (intOf i).toNat)
 case atStart=>exact⟨0,Nat.zero_le _,rfl,rfl,hB2,jf⟩
 case round=>
  obtain⟨i,hi,rfl,HT,hb,ba⟩ :=hrel
  clear jf hB2 gZ gL iY iZ
  have zl:=ba.lt
  by_cases hlt : i<3
  ·have Au : (i : Int) <3:=by omega
   have hig : i<x.I.G.length:=by rw [HL.out.1];exact hlt
   obtain⟨g,o,A',c',kH,hg,p0,rr⟩ :=hgr.row hb hig
   injection kH with kH
   injection kH with hA1 hA2
   subst hA1 hA2
   have hgw : gG<wr.heap.size:=Nat.lt_of_lt_of_le hg hb.size
   have hln:= (dz.len_ rr).2
   have HX:=Hid.aD (show x.I.G.getD i []=x.I.G[i] by rw [getD_at hig])
   have wP:=Hid.aD (xW x i)
   have gK:=Hid.aD (fun hf=>vw (m:=x) (k:=i) (n:=3) hlt hf)
   rw [HX.out] at wP gK
   clear HX
   generalize x.I.G[i]=row at p0 rr hln wP gK
   have gZ:=ba.cell 0 _ rfl
   have gL:=ba.cell 1 _ rfl
   have iY:=ba.cell 2 _ rfl
   have iZ:=ba.cell 3 _ rfl
   go_wp2_with fail
   have hb' : Below w.heap.size w (wr.alloc (.cells #[.slice A' row.length c'] 57)) :=hb.alloc hb.size _
   have ba':=ba.alloc (.cells #[.slice A' row.length c'] 57)
   refine(pX _ H.E x.E A' c' row i (dH h.E hb') hs.out (dh rr hb')).mono ?_
   rintro e w3 ⟨rfl,hb3⟩
   have Ce:=ba'.below hb3
   have hB3:=hb'.trans (hb3.mono hb'.size)
   clear hb3 hb' ba' hb ba p0 gZ gL iY iZ
   by_cases k3 : row.all (fF x.E i) =true
   ·have HN:=Hid.aD (show kI x (i+1) =true by rw [wP.out,HT.out,k3];rfl)
    rw [k3]
    clear k3
    go_wp2
    go_roundw
    case rel=>exact⟨i+1,by omega,by go_num,HN,hB3,Ce⟩
    case measure=>simp [intOf];omega
   ·have lJ : row.all (fF x.E i) =false:= (Bool.not_eq_true _).mp k3
    have HN:=Hid.aD (show bX x=false by rw [HE2.out,gK.out lJ];rfl)
    rw [lJ]
    clear k3 lJ
    go_wp2
    go_ret
    exact⟨aS HN.out.symm,hB3⟩
  ·obtain rfl : i=3:=by omega
   have Dy:=Hid.aD (show bX x=jJ x 9 by rw [HE2.out,HT.out];rfl)
   clear HT HE2
   rw [show ((3 : Nat) : Int) =3 from rfl]
   have gZ:=ba.cell 0 _ rfl
   have gL:=ba.cell 1 _ rfl
   have iY:=ba.cell 2 _ rfl
   have iZ:=ba.cell 3 _ rfl
   go_wp2
   go_loopw [5,6,37] (fun _ _ i wr=> ∃k : Nat,k≤9∧i= .int .i64 k∧Hid (jJ x k=true) ∧Below w.heap.size w wr∧aJ wr w.heap.size [.slice H.E.Y.a H.E.Y.l H.E.Y.c, .slice H.E.Z.a H.E.Z.l H.E.Z.c, .slice (some ⟨gG,oG,none⟩) 3 H.I.G.c, .slice (some ⟨gO,oO,none⟩) 9 H.I.O.c]) (fun _ _ i _=>9 - (intOf i).toNat)
   case atStart=>exact⟨0,Nat.zero_le _,rfl,rfl,hb,ba⟩
   case round=>
    obtain⟨i,hi,rfl,HT,hb,ba⟩ :=hrel
    clear gZ gL iY iZ
    have zl:=ba.lt
    by_cases hlt : i<9
    ·have Au : (i : Int) <9:=by omega
     have hig : i<x.I.O.length:=by rw [HL.out.2];exact hlt
     obtain⟨g,o,A',c',kH,hg,p0,rr⟩ :=hor.row hb hig
     injection kH with kH
     injection kH with hA1 hA2
     subst hA1 hA2
     have hgw : gO<wr.heap.size:=Nat.lt_of_lt_of_le hg hb.size
     have hln:= (dz.len_ rr).2
     have HX:=Hid.aD (show x.I.O.getD i []=x.I.O[i] by rw [getD_at hig])
     have wP:=Hid.aD (wO x i)
     have gK:=Hid.aD (fun hf=>tQ (m:=x) (k:=i) (n:=9) hlt hf)
     rw [HX.out] at wP gK
     clear HX
     generalize x.I.O[i]=row at p0 rr hln wP gK
     have gZ:=ba.cell 0 _ rfl
     have gL:=ba.cell 1 _ rfl
     have iY:=ba.cell 2 _ rfl
     have iZ:=ba.cell 3 _ rfl
     go_wp2_with fail
     have hb' : Below w.heap.size w (wr.alloc (.cells #[.slice A' row.length c'] 57)) :=hb.alloc hb.size _
     have ba':=ba.alloc (.cells #[.slice A' row.length c'] 57)
     refine(pX _ H.E x.E A' c' row ((i%3 : Nat) : Int) (dH h.E hb') hs.out (dh rr hb')).mono ?_
     rintro e w3 ⟨rfl,hb3⟩
     have Ce:=ba'.below hb3
     have hB3:=hb'.trans (hb3.mono hb'.size)
     clear hb3 hb' ba' hb ba p0 gZ gL iY iZ
     by_cases k3 : row.all (fF x.E ((i%3 : Nat) : Int)) =true
     ·have HN:=Hid.aD (show jJ x (i+1) =true by rw [wP.out,HT.out,k3];rfl)
      rw [k3]
      clear k3
      go_wp2
      go_roundw
      case rel=>exact⟨i+1,by omega,by go_num,HN,hB3,Ce⟩
      case measure=>simp [intOf];omega
     ·have lJ : row.all (fF x.E ((i%3 : Nat) : Int)) =false:= (Bool.not_eq_true _).mp k3
      have HN:=Hid.aD (show bX x=false by rw [Dy.out,gK.out lJ])
      rw [lJ]
      clear k3 lJ
      go_wp2
      go_ret
      exact⟨aS HN.out.symm,hB3⟩
    ·obtain rfl : i=9:=by omega
     have HN:=Hid.aD (show bX x=true by rw [Dy.out,HT.out])
     go_wp2
     go_ret
     exact⟨aS HN.out.symm,hb⟩
end Go.Proofs.Ytkmggglljkmjoaa
namespace Go.Proofs.Ytkmggglljkmjoaa
open Go.RowKit
theorem pq {B g0 g k : Nat}{v0 v1 v2 v3 u : Value}{W w w' : World}(h : w.cell? ⟨g0,0,none⟩ =some v0∧w.cell? ⟨g0,1,none⟩ =some v1∧w.cell? ⟨g0,2,none⟩ =some v2∧w.cell? ⟨g0,3,none⟩ =some v3∧w.cell? ⟨g,k,none⟩ =some u∧g0<w.heap.size∧g<w.heap.size∧Below B W w)(hb : Below w.heap.size w w')(hB : B≤g0) :
  w'.cell? ⟨g0,0,none⟩ =some v0∧w'.cell? ⟨g0,1,none⟩ =some v1∧w'.cell? ⟨g0,2,none⟩ =some v2∧w'.cell? ⟨g0,3,none⟩ =some v3∧w'.cell? ⟨g,k,none⟩ =some u∧g0<w'.heap.size∧g<w'.heap.size∧Below B W w':=by
 obtain⟨a,b,a',b',c,d,e,f⟩ :=h
 exact⟨fV hb d a,fV hb d b,fV hb d a',fV hb d b',fV hb e c,Nat.lt_of_lt_of_le d hb.size,Nat.lt_of_lt_of_le e hb.size,f.trans (hb.mono (by omega))⟩
def sH (m : Mem)(c : Nat) : Bool:= (m.I.G.getD c []).all (fF m.E c)
def pz (m : Mem)(k : Nat) : Bool:= (m.I.O.getD k []).all (fF m.E ((k%3 : Nat) : Int))
theorem wQ {m : Mem}(h : ∀c<3,sH m c=true∧ ∀w<3,pz m (w * 3+c) =true) : kI m 3=true∧jJ m 9=true:=by
 constructor
 ·exact List.all_eq_true.2 fun c hc=> (h c (List.mem_range.1 hc)).1
 ·refine List.all_eq_true.2 fun k hk=> ?_
  have zL:=List.mem_range.1 hk
  have a:= (h (k%3) (by omega)).2 (k / 3) (by omega)
  rwa [show k / 3 * 3+k%3=k by omega] at a
set_option maxHeartbeats 1000000 in
theorem yZ (a c : Nat)(ha : a<3)(hc : c<3)(w : World) : Calls Try.prog 31 #[.int .i64 a, .int .i64 c] w fun e w'=>e= .returned (.int .i64 ((a * 3+c : Nat) : Int)) ∧w=w':=by
 have h1 : aW 0 2 (a : Int) =true:=bD.2 ⟨by omega,by omega⟩
 have h2 : aW 0 2 (c : Int) =true:=bD.2 ⟨by omega,by omega⟩
 have a1 : (a : Int) ≤2:=by omega
 have c1 : (c : Int) ≤2:=by omega
 go_enter Try.func31,Try.ntmps31
 go_wp2_with (go_at_call 26;refine(g_ _ _ _ _).mono ?_;rintro e w1 ⟨rfl,rfl⟩)
 go_ret
 exact⟨bU (by omega),rfl⟩
set_option maxRecDepth 100000 in
set_option maxHeartbeats 4000000 in
theorem pE (w : World)(H : bY)(x : Mem)(h : gD w w.heap.size H x)(hs1 : iJ x.I.G≤536870912)(hs2 : iJ x.I.O≤536870912) :
  Calls Try.prog 13 #[.agg #[.slice H.E.Y.a H.E.Y.l H.E.Y.c, .slice H.E.Z.a H.E.Z.l H.E.Z.c, .slice H.I.G.a H.I.G.l H.I.G.c, .slice H.I.O.a H.I.O.l H.I.O.c]] w fun e w'=>e= .returned (.bool (bX x)) ∧Below w.heap.size w w':=by
 have ig : aJ (w.alloc (.cells #[.slice H.E.Y.a H.E.Y.l H.E.Y.c, .slice H.E.Z.a H.E.Z.l H.E.Z.c, .slice H.I.G.a H.I.G.l H.I.G.c, .slice H.I.O.a H.I.O.l H.I.O.c] 31)) w.heap.size [.slice H.E.Y.a H.E.Y.l H.E.Y.c, .slice H.E.Z.a H.E.Z.l H.E.Z.c, .slice H.I.G.a H.I.G.l H.I.G.c, .slice H.I.O.a H.I.O.l H.I.O.c]:=aJ.new w #[.slice H.E.Y.a H.E.Y.l H.E.Y.c, .slice H.E.Z.a H.E.Z.l H.E.Z.c, .slice H.I.G.a H.I.G.l H.I.G.c, .slice H.I.O.a H.I.O.l H.I.O.c] _
 have hB0 : Below w.heap.size w (w.alloc (.cells #[.slice H.E.Y.a H.E.Y.l H.E.Y.c, .slice H.E.Z.a H.E.Z.l H.E.Z.c, .slice H.I.G.a H.I.G.l H.I.G.c, .slice H.I.O.a H.I.O.l H.I.O.c] 31)) :=dn
 have HE:=Hid.aD (vv x)
 go_enter Try.func13,Try.ntmps13
 go_wp2_with fail
 refine(xS _ H.E x.E (dH h.E hB0)).mono ?_
 rintro e w1 ⟨rfl,hb⟩
 have gy:=ig.below hb
 have hB1:=hB0.trans (hb.mono hB0.size)
 clear hb ig hB0
 by_cases k1 : fH x.E=true
 case neg=>
  have k1' : fH x.E=false:= (Bool.not_eq_true _).mp k1
  have HN:=Hid.aD (show bX x=false by rw [HE.out,k1'];rfl)
  rw [k1']
  clear k1 k1'
  go_wp2
  go_ret
  exact⟨aS HN.out.symm,hB1⟩
 have K1:=Hid.aD k1
 rw [k1]
 clear k1
 have gZ:=gy.cell 0 _ rfl
 have gL:=gy.cell 1 _ rfl
 have iY:=gy.cell 2 _ rfl
 have iZ:=gy.cell 3 _ rfl
 go_wp2_with fail
 refine(wM _ H.I x.I (dP h.I hB1) hs1 hs2).mono ?_
 rintro e w2 ⟨rfl,hb⟩
 have jf:=gy.below hb
 have hB2:=hB1.trans (hb.mono hB1.size)
 clear hb gy hB1 gZ gL iY iZ
 by_cases k2 : dM x.I=true
 case neg=>
  have k2' : dM x.I=false:= (Bool.not_eq_true _).mp k2
  have HN:=Hid.aD (show bX x=false by rw [HE.out,k2'];simp)
  rw [k2']
  clear k2 k2'
  go_wp2
  go_ret
  exact⟨aS HN.out.symm,hB2⟩
 rw [k2]
 have hs:=Hid.aD (mQ K1.out)
 have HL:=Hid.aD (jC k2)
 have HE2:=Hid.aD (show bX x= (kI x 3&&jJ x 9) by rw [HE.out,K1.out,k2];rfl)
 clear k2 HE
 obtain⟨nu,_,hm1⟩ := (show fO FI w w.heap.size (.slice H.I.G.a H.I.G.l H.I.G.c) H.I.jG x.I.G from h.I.G).len'
 obtain⟨ny,_,hm2⟩ := (show fO FI w w.heap.size (.slice H.I.O.a H.I.O.l H.I.O.c) H.I.mZ x.I.O from h.I.O).len'
 have sF : H.I.G.l=3:=by rw [nu,HL.out.1]
 have sG : H.I.O.l=9:=by rw [ny,HL.out.2]
 have hgr : fO FI w w.heap.size (.slice H.I.G.a 3 H.I.G.c) H.I.jG x.I.G:=by rw [←sF];exact h.I.G
 have hor : fO FI w w.heap.size (.slice H.I.O.a 9 H.I.O.c) H.I.mZ x.I.O:=by rw [←sG];exact h.I.O
 rw [sF,sG] at jf
 clear nu ny hm1 hm2 sF sG
 obtain⟨gG,oG,_,_,eG,_,_,_⟩ :=hgr.row (Below.refl _ _) (show 0<x.I.G.length by rw [HL.out.1];decide)
 obtain⟨gO,oO,_,_,eO,_,_,_⟩ :=hor.row (Below.refl _ _) (show 0<x.I.O.length by rw [HL.out.2];decide)
 rw [eG] at hgr jf
 rw [eO] at hor jf
 go_wp2
 go_loopw [3,4] (fun i _ wr=> ∃k : Nat,k≤3∧i= .int .i64 k∧Hid (∀c<k,sH x c=true∧ ∀a<3,pz x (a * 3+c) =true) ∧Below w.heap.size w wr∧wr.cell? ⟨w.heap.size,0,none⟩ =some (.slice H.E.Y.a H.E.Y.l H.E.Y.c) ∧wr.cell? ⟨w.heap.size,1,none⟩ =some (.slice H.E.Z.a H.E.Z.l H.E.Z.c) ∧wr.cell? ⟨w.heap.size,2,none⟩ =some (.slice (some ⟨gG,oG,none⟩) 3 H.I.G.c) ∧wr.cell? ⟨w.heap.size,3,none⟩ =some (.slice (some ⟨gO,oO,none⟩) 9 H.I.O.c) ∧w.heap.size<wr.heap.size) (fun i _ _=>3 - (intOf i).toNat)
 case atStart=>exact⟨0,Nat.zero_le _,rfl,Hid.aD (fun c hc=>absurd hc (Nat.not_lt_zero c)),hB2,jf.cell 0 _ rfl,jf.cell 1 _ rfl,jf.cell 2 _ rfl,jf.cell 3 _ rfl,jf.lt⟩
 case round=>
  obtain⟨i,hi,rfl,HT,hb,gZ,gL,iY,iZ,zl⟩ :=hrel
  clear jf hB2
  by_cases hlt : i<3
  ·have Au : (i : Int) <3:=by omega
   have hig : i<x.I.G.length:=by rw [HL.out.1];exact hlt
   obtain⟨g,o,A',c',kH,hg,p0,rr⟩ :=hgr.row hb hig
   injection kH with kH
   injection kH with hA1 hA2
   subst hA1 hA2
   have hgw : gG<wr.heap.size:=Nat.lt_of_lt_of_le hg hb.size
   have HX:=Hid.aD (show sH x i= (x.I.G[i]).all (fF x.E i) by unfold sH;rw [getD_at hig])
   have gK:=Hid.aD (fun hf : sH x i=false=>vw (m:=x) (k:=i) (n:=3) hlt hf)
   generalize x.I.G[i]=row at p0 rr HX
   have hq1:=fun (W : World) (hW : Below w.heap.size w W) =>pY W H.E x.E A' c' row i (dH h.E hW) hs.out (dh rr hW) (by omega)
   rw [←HX.out] at hq1
   by_cases k3 : sH x i=true
   case neg=>
    have lJ : sH x i=false:= (Bool.not_eq_true _).mp k3
    have HN:=Hid.aD (show bX x=false by rw [HE2.out,gK.out lJ];rfl)
    rw [lJ] at hq1
    clear k3 lJ HX gK
    go_wp2
    go_region_held3 (fun w'=>w'.cell? ⟨w.heap.size,0,none⟩ =some (.slice H.E.Y.a H.E.Y.l H.E.Y.c) ∧w'.cell? ⟨w.heap.size,1,none⟩ =some (.slice H.E.Z.a H.E.Z.l H.E.Z.c) ∧w'.cell? ⟨w.heap.size,2,none⟩ =some (.slice (some ⟨gG,oG,none⟩) 3 H.I.G.c) ∧w'.cell? ⟨w.heap.size,3,none⟩ =some (.slice (some ⟨gO,oO,none⟩) 9 H.I.O.c) ∧w'.cell? ⟨gG,oG+i,none⟩ =some (.slice A' row.length c') ∧w.heap.size<w'.heap.size∧gG<w'.heap.size∧Below w.heap.size w w') (first| (go_keep;done) |exact pq (by assumption) (by assumption) (Nat.le_refl _) |exact⟨by assumption,by assumption,by assumption,by assumption,by assumption,by assumption,by assumption,Below.drew (by assumption)⟩) ((go_at_call 30;refine(hq1 _ (by go_split_ands;assumption)).mono ?_;rintro e w3 ⟨rfl,hb3⟩))
    go_wp2
    go_ret
    exact⟨aS HN.out.symm,by first|assumption| (go_split_ands;assumption)⟩
   have K3:=Hid.aD k3
   rw [k3] at hq1
   clear k3 HX gK
   go_wp2
   go_region_held3 (fun w'=>w'.cell? ⟨w.heap.size,0,none⟩ =some (.slice H.E.Y.a H.E.Y.l H.E.Y.c) ∧w'.cell? ⟨w.heap.size,1,none⟩ =some (.slice H.E.Z.a H.E.Z.l H.E.Z.c) ∧w'.cell? ⟨w.heap.size,2,none⟩ =some (.slice (some ⟨gG,oG,none⟩) 3 H.I.G.c) ∧w'.cell? ⟨w.heap.size,3,none⟩ =some (.slice (some ⟨gO,oO,none⟩) 9 H.I.O.c) ∧w'.cell? ⟨gG,oG+i,none⟩ =some (.slice A' row.length c') ∧w.heap.size<w'.heap.size∧gG<w'.heap.size∧Below w.heap.size w w') (first| (go_keep;done) |exact pq (by assumption) (by assumption) (Nat.le_refl _) |exact⟨by assumption,by assumption,by assumption,by assumption,by assumption,by assumption,by assumption,Below.drew (by assumption)⟩) ((go_at_call 30;refine(hq1 _ (by go_split_ands;assumption)).mono ?_;rintro e w3 ⟨rfl,hb3⟩))
   rename_i hh
   obtain⟨gZ,gL,iY,iZ,_,Cg,_,hb2⟩ :=hh
   clear hq1 p0
   go_wp2
   go_loopw [4] (fun j wr=> ∃k : Nat,k≤3∧j= .int .i64 k∧Hid (∀a<k,pz x (a * 3+i) =true) ∧Below w.heap.size w wr∧wr.cell? ⟨w.heap.size,0,none⟩ =some (.slice H.E.Y.a H.E.Y.l H.E.Y.c) ∧wr.cell? ⟨w.heap.size,1,none⟩ =some (.slice H.E.Z.a H.E.Z.l H.E.Z.c) ∧wr.cell? ⟨w.heap.size,2,none⟩ =some (.slice (some ⟨gG,oG,none⟩) 3 H.I.G.c) ∧wr.cell? ⟨w.heap.size,3,none⟩ =some (.slice (some ⟨gO,oO,none⟩) 9 H.I.O.c) ∧w.heap.size<wr.heap.size) (fun j _=>3 - (intOf j).toNat)
   case atStart=>exact⟨0,Nat.zero_le _,rfl,Hid.aD (fun a ha=>absurd ha (Nat.not_lt_zero a)),by assumption,by assumption,by assumption,by assumption,by assumption,by assumption⟩
   case round=>
    obtain⟨j,hj,rfl,HU,hb,gZ,gL,iY,iZ,zl⟩ :=hrel
    by_cases hlj : j<3
    ·have Gh : (j : Int) <3:=by omega
     have Ch : j * 3+i<x.I.O.length:=by rw [HL.out.2];omega
     obtain⟨g,o,Ci,c2',kH,hg,p0,rr⟩ :=hor.row hb Ch
     injection kH with kH
     injection kH with hA1 hA2
     subst hA1 hA2
     have hgw : gO<wr.heap.size:=Nat.lt_of_lt_of_le hg hb.size
     have HX:=Hid.aD (show pz x (j * 3+i) = (x.I.O[j * 3+i]).all (fF x.E i) by unfold pz;rw [getD_at Ch,show (j * 3+i) %3=i by omega])
     have gK:=Hid.aD (fun hf : pz x (j * 3+i) =false=>tQ (m:=x) (k:=j * 3+i) (n:=9) (by omega) hf)
     generalize x.I.O[j * 3+i]=uV at p0 rr HX
     have hq1:=fun (W : World) (hW : Below w.heap.size w W) =>pY W H.E x.E Ci c2' uV i (dH h.E hW) hs.out (dh rr hW) (by omega)
     have hq2:=fun (W : World) =>yZ j i hlj hlt W
     rw [←HX.out] at hq1
     have n0 : (0 : Int) ≤ ((j * 3+i : Nat) : Int) :=by omega
     have n1 : ((j * 3+i : Nat) : Int) <9:=by omega
     have n2 : j * 3+i<9:=by omega
     have n3 : ((j * 3+i : Nat) : Int).toNat=j * 3+i:=by omega
     obtain⟨kk,hkk⟩ : ∃kk,kk=j * 3+i:= ⟨_,rfl⟩
     rw [←hkk] at p0 n0 n1 n2 n3
     simp only [←hkk] at hq2
     clear hkk
     by_cases k4 : pz x (j * 3+i) =true
     ·have HN:=Hid.aD (show ∀a<j+1,pz x (a * 3+i) =true from fun a ha=>by
       by_cases e : a=j
       ·rw [e];exact k4
       ·exact HU.out a (by omega))
      rw [k4] at hq1
      clear k4 HX gK
      go_wp2
      go_region_held3 (fun w'=>w'.cell? ⟨w.heap.size,0,none⟩ =some (.slice H.E.Y.a H.E.Y.l H.E.Y.c) ∧w'.cell? ⟨w.heap.size,1,none⟩ =some (.slice H.E.Z.a H.E.Z.l H.E.Z.c) ∧w'.cell? ⟨w.heap.size,2,none⟩ =some (.slice (some ⟨gG,oG,none⟩) 3 H.I.G.c) ∧w'.cell? ⟨w.heap.size,3,none⟩ =some (.slice (some ⟨gO,oO,none⟩) 9 H.I.O.c) ∧w'.cell? ⟨gO,oO+kk,none⟩ =some (.slice Ci uV.length c2') ∧w.heap.size<w'.heap.size∧gO<w'.heap.size∧Below w.heap.size w w') (first| (go_keep;done) |exact pq (by assumption) (by assumption) (Nat.le_refl _) |exact⟨by assumption,by assumption,by assumption,by assumption,by assumption,by assumption,by assumption,Below.drew (by assumption)⟩) (first| (go_at_call 31;refine(hq2 _).mono ?_;rintro e w3 ⟨rfl,rfl⟩) | (go_at_call 30;refine(hq1 _ (by go_split_ands;assumption)).mono ?_;rintro e w3 ⟨rfl,hb3⟩))
      go_wp2
      go_roundw
      case rel=>exact⟨j+1,by omega,by go_num,HN,by first|assumption| (go_split_ands;assumption),by first|assumption| (go_split_ands;assumption),by first|assumption| (go_split_ands;assumption),by first|assumption| (go_split_ands;assumption),by first|assumption| (go_split_ands;assumption),by first|assumption| (go_split_ands;assumption)⟩
      case measure=>simp [intOf];omega
     ·have zy : pz x (j * 3+i) =false:= (Bool.not_eq_true _).mp k4
      have HN:=Hid.aD (show bX x=false by rw [HE2.out,gK.out zy];simp)
      rw [zy] at hq1
      clear k4 zy HX gK
      go_wp2
      go_region_held3 (fun w'=>w'.cell? ⟨w.heap.size,0,none⟩ =some (.slice H.E.Y.a H.E.Y.l H.E.Y.c) ∧w'.cell? ⟨w.heap.size,1,none⟩ =some (.slice H.E.Z.a H.E.Z.l H.E.Z.c) ∧w'.cell? ⟨w.heap.size,2,none⟩ =some (.slice (some ⟨gG,oG,none⟩) 3 H.I.G.c) ∧w'.cell? ⟨w.heap.size,3,none⟩ =some (.slice (some ⟨gO,oO,none⟩) 9 H.I.O.c) ∧w'.cell? ⟨gO,oO+kk,none⟩ =some (.slice Ci uV.length c2') ∧w.heap.size<w'.heap.size∧gO<w'.heap.size∧Below w.heap.size w w') (first| (go_keep;done) |exact pq (by assumption) (by assumption) (Nat.le_refl _) |exact⟨by assumption,by assumption,by assumption,by assumption,by assumption,by assumption,by assumption,Below.drew (by assumption)⟩) (first| (go_at_call 31;refine(hq2 _).mono ?_;rintro e w3 ⟨rfl,rfl⟩) | (go_at_call 30;refine(hq1 _ (by go_split_ands;assumption)).mono ?_;rintro e w3 ⟨rfl,hb3⟩))
      go_wp2
      go_ret
      exact⟨aS HN.out.symm,by first|assumption| (go_split_ands;assumption)⟩
    ·obtain rfl : j=3:=by omega
     go_wp2
     go_roundw
     case rel=>
      refine⟨i+1,by omega,by go_num,Hid.aD (fun c hc=> ?_),hb,gZ,gL,iY,iZ,zl⟩
      by_cases e : c=i
      ·rw [e];exact⟨K3.out,HU.out⟩
      ·exact HT.out c (by omega)
     case measure=>simp [intOf];omega
  ·obtain rfl : i=3:=by omega
   have HN:=Hid.aD (show bX x=true by rw [HE2.out, (wQ HT.out).1, (wQ HT.out).2];rfl)
   go_wp2
   go_ret
   exact⟨aS HN.out.symm,hb⟩
end Go.Proofs.Ytkmggglljkmjoaa
namespace Go.Proofs.Ytkmggglljkmjoaa
open Go.RowKit
set_option maxHeartbeats 400000 in
theorem p8 (h : Int)(w : World) : Calls Try.prog 39 #[.int .i64 h] w fun e w'=>e= .returned (.bool (dY h)) ∧w=w':=by
 by_cases h1 : 32≤h
 ·by_cases h2 : h≤223
  ·go_enter Try.func39,Try.ntmps39
   go_wp2
   go_ret
   exact⟨aS (by simp [dY,h1,h2]),rfl⟩
  ·go_enter Try.func39,Try.ntmps39
   go_wp2
   go_ret
   exact⟨aS (by simp [dY];omega),rfl⟩
 ·go_enter Try.func39,Try.ntmps39
  go_wp2
  go_ret
  exact⟨aS (by simp [dY];omega),rfl⟩
set_option maxHeartbeats 400000 in
theorem jB (h : Int)(w : World) : Calls Try.prog 10 #[.int .i64 h] w fun e w'=>e= .returned (.bool (dY h)) ∧w=w':=by
 by_cases h1 : 32≤h
 ·by_cases h2 : h≤223
  ·go_enter Try.func10,Try.ntmps10
   go_wp2
   go_ret
   exact⟨aS (by simp [dY,h1,h2]),rfl⟩
  ·go_enter Try.func10,Try.ntmps10
   go_wp2
   go_ret
   exact⟨aS (by simp [dY];omega),rfl⟩
 ·go_enter Try.func10,Try.ntmps10
  go_wp2
  go_ret
  exact⟨aS (by simp [dY];omega),rfl⟩
theorem jV {h : Int}(k : dY h=true) : 32≤h∧h≤223∧h%32<24∧aW 0 23 (h%32) =true∧h.tmod 32=h%32∧h.tdiv 32=h / 32:=by
 unfold dY at k
 simp only [Bool.and_eq_true,decide_eq_true_eq] at k
 obtain⟨⟨a,b⟩,c⟩ :=k
 exact⟨a,b,c,bD.2 ⟨by omega,by omega⟩,Int.tmod_eq_emod_of_nonneg (by omega),Int.tdiv_eq_ediv_of_nonneg (by omega)⟩
set_option maxHeartbeats 400000 in
theorem tT (h : Int)(w : World)(k : dY h=true) : Calls Try.prog 52 #[.int .i64 h] w fun e w'=>e= .returned (.int .i64 (h%32)) ∧w=w':=by
 obtain⟨a,b,_,_,c,_⟩ :=jV k
 have HC:=Hid.aD c
 clear c
 go_enter Try.func52,Try.ntmps52
 go_wp2_with (go_at_call 10;refine(jB _ _).mono ?_;rw [k];rintro e w1 ⟨rfl,rfl⟩)
 go_ret
 exact⟨bU (by first|rfl|rw [HC.out]),rfl⟩
set_option maxHeartbeats 400000 in
theorem uW (h : Int)(w : World)(k : dY h=true) : Calls Try.prog 54 #[.int .i64 h] w fun e w'=>e= .returned (.int .i64 (h / 32)) ∧w=w':=by
 obtain⟨a,b,_,_,_,c⟩ :=jV k
 have HC:=Hid.aD c
 clear c
 go_enter Try.func54,Try.ntmps54
 go_wp2_with (go_at_call 10;refine(jB _ _).mono ?_;rw [k];rintro e w1 ⟨rfl,rfl⟩)
 go_ret
 exact⟨bU (by first|rfl|rw [HC.out]),rfl⟩
set_option maxRecDepth 100000 in
set_option maxHeartbeats 4000000 in
theorem wR (w : World)(H : bY)(x : Mem)(s : Int)(h : gD w w.heap.size H x)(hs : d_ x.E=true) :
  Calls Try.prog 40 #[.agg #[.slice H.E.Y.a H.E.Y.l H.E.Y.c, .slice H.E.Z.a H.E.Z.l H.E.Z.c, .slice H.I.G.a H.I.G.l H.I.G.c, .slice H.I.O.a H.I.O.l H.I.O.c], .int .i64 s] w fun e w'=>e= .returned (.int .i64 (gu x s)) ∧Below w.heap.size w w':=by
 have ig : aJ (w.alloc (.cells #[.slice H.E.Y.a H.E.Y.l H.E.Y.c, .slice H.E.Z.a H.E.Z.l H.E.Z.c, .slice H.I.G.a H.I.G.l H.I.G.c, .slice H.I.O.a H.I.O.l H.I.O.c] 31)) w.heap.size [.slice H.E.Y.a H.E.Y.l H.E.Y.c, .slice H.E.Z.a H.E.Z.l H.E.Z.c, .slice H.I.G.a H.I.G.l H.I.G.c, .slice H.I.O.a H.I.O.l H.I.O.c]:=aJ.new w #[.slice H.E.Y.a H.E.Y.l H.E.Y.c, .slice H.E.Z.a H.E.Z.l H.E.Z.c, .slice H.I.G.a H.I.G.l H.I.G.c, .slice H.I.O.a H.I.O.l H.I.O.c] _
 have hB0 : Below w.heap.size w (w.alloc (.cells #[.slice H.E.Y.a H.E.Y.l H.E.Y.c, .slice H.E.Z.a H.E.Z.l H.E.Z.c, .slice H.I.G.a H.I.G.l H.I.G.c, .slice H.I.O.a H.I.O.l H.I.O.c] 31)) :=dn
 have HE:=Hid.aD (show gu x s= (if ak x.E s<0 then 0 else if iw x.I s=true then 1 else if 6<bK x.E s then 2 else 3) from rfl)
 have HS:=Hid.aD hs
 clear hs
 go_enter Try.func40,Try.ntmps40
 go_wp2_with fail
 refine(lK _ H.E x.E s (dH h.E hB0) HS.out).mono ?_
 rintro e w1 ⟨rfl,hb⟩
 have gy:=ig.below hb
 have hB1:=hB0.trans (hb.mono hB0.size)
 clear hb ig hB0
 by_cases k1 : ak x.E s<0
 ·have HN:=Hid.aD (show gu x s=0 by rw [HE.out,if_pos k1])
  go_wp2
  go_ret
  exact⟨bU HN.out.symm,hB1⟩
 have K1:=Hid.aD k1
 have gZ:=gy.cell 0 _ rfl
 have gL:=gy.cell 1 _ rfl
 have iY:=gy.cell 2 _ rfl
 have iZ:=gy.cell 3 _ rfl
 go_wp2_with fail
 refine(rD _ H.I x.I s (dP h.I hB1)).mono ?_
 rintro e w2 ⟨rfl,hb⟩
 have jf:=gy.below hb
 have hB2:=hB1.trans (hb.mono hB1.size)
 clear gZ gL iY iZ hb gy hB1 k1
 by_cases k2 : iw x.I s=true
 ·have HN:=Hid.aD (show gu x s=1 by rw [HE.out,if_neg (show ¬ ak x.E s<0 by have:=K1.out;omega),if_pos k2])
  rw [k2]
  clear k2
  go_wp2
  go_ret
  exact⟨bU HN.out.symm,hB2⟩
 have K2:=Hid.aD ((Bool.not_eq_true _).mp k2)
 rw [(Bool.not_eq_true _).mp k2]
 clear k2
 have gZ:=jf.cell 0 _ rfl
 have gL:=jf.cell 1 _ rfl
 have iY:=jf.cell 2 _ rfl
 have iZ:=jf.cell 3 _ rfl
 go_wp2_with fail
 refine(mO _ H.E x.E s (dH h.E hB2) HS.out).mono ?_
 rintro e w3 ⟨rfl,hb⟩
 have hB3:=hB2.trans (hb.mono hB2.size)
 clear gZ gL iY iZ hb jf hB2
 by_cases k3 : 6<bK x.E s
 ·have HN:=Hid.aD (show gu x s=2 by rw [HE.out,if_neg (show ¬ ak x.E s<0 by have:=K1.out;omega),if_neg (show ¬ iw x.I s=true by rw [K2.out];decide),if_pos k3])
  go_wp2
  go_ret
  exact⟨bU HN.out.symm,hB3⟩
 ·have HN:=Hid.aD (show gu x s=3 by rw [HE.out,if_neg (show ¬ ak x.E s<0 by have:=K1.out;omega),if_neg (show ¬ iw x.I s=true by rw [K2.out];decide),if_neg (show ¬ 6<bK x.E s by omega)])
  go_wp2
  go_ret
  exact⟨bU HN.out.symm,hB3⟩
set_option maxRecDepth 100000 in
set_option maxHeartbeats 4000000 in
theorem wS (w : World)(H : bY)(x : Mem)(s : Int)(h : gD w w.heap.size H x)(hs : d_ x.E=true)(hs1 : iJ x.I.G≤536870912)(hs2 : iJ x.I.O≤536870912) :
  Calls Try.prog 51 #[.agg #[.slice H.E.Y.a H.E.Y.l H.E.Y.c, .slice H.E.Z.a H.E.Z.l H.E.Z.c, .slice H.I.G.a H.I.G.l H.I.G.c, .slice H.I.O.a H.I.O.l H.I.O.c], .int .i64 s] w fun e w'=>e= .returned (.int .i64 (gu x s)) ∧Below w.heap.size w w':=by
 have ig : aJ (w.alloc (.cells #[.slice H.E.Y.a H.E.Y.l H.E.Y.c, .slice H.E.Z.a H.E.Z.l H.E.Z.c, .slice H.I.G.a H.I.G.l H.I.G.c, .slice H.I.O.a H.I.O.l H.I.O.c] 31)) w.heap.size [.slice H.E.Y.a H.E.Y.l H.E.Y.c, .slice H.E.Z.a H.E.Z.l H.E.Z.c, .slice H.I.G.a H.I.G.l H.I.G.c, .slice H.I.O.a H.I.O.l H.I.O.c]:=aJ.new w #[.slice H.E.Y.a H.E.Y.l H.E.Y.c, .slice H.E.Z.a H.E.Z.l H.E.Z.c, .slice H.I.G.a H.I.G.l H.I.G.c, .slice H.I.O.a H.I.O.l H.I.O.c] _
 have hB0 : Below w.heap.size w (w.alloc (.cells #[.slice H.E.Y.a H.E.Y.l H.E.Y.c, .slice H.E.Z.a H.E.Z.l H.E.Z.c, .slice H.I.G.a H.I.G.l H.I.G.c, .slice H.I.O.a H.I.O.l H.I.O.c] 31)) :=dn
 have HE:=Hid.aD (show gu x s= (if ak x.E s<0 then 0 else if iw x.I s=true then 1 else if 6<bK x.E s then 2 else 3) from rfl)
 have HS:=Hid.aD hs
 clear hs
 go_enter Try.func51,Try.ntmps51
 go_wp2_with fail
 refine(lM _ H.E x.E s (dH h.E hB0) HS.out).mono ?_
 rintro e w1 ⟨rfl,hb⟩
 have gy:=ig.below hb
 have hB1:=hB0.trans (hb.mono hB0.size)
 clear hb ig hB0
 by_cases k1 : ak x.E s<0
 ·have HN:=Hid.aD (show gu x s=0 by rw [HE.out,if_pos k1])
  go_wp2
  go_ret
  exact⟨bU HN.out.symm,hB1⟩
 have K1:=Hid.aD k1
 have gZ:=gy.cell 0 _ rfl
 have gL:=gy.cell 1 _ rfl
 have iY:=gy.cell 2 _ rfl
 have iZ:=gy.cell 3 _ rfl
 go_wp2_with fail
 refine(xU _ H.I x.I s (dP h.I hB1) hs1 hs2).mono ?_
 rintro e w2 ⟨rfl,hb⟩
 have jf:=gy.below hb
 have hB2:=hB1.trans (hb.mono hB1.size)
 clear gZ gL iY iZ hb gy hB1 k1
 by_cases k2 : iw x.I s=true
 ·have HN:=Hid.aD (show gu x s=1 by rw [HE.out,if_neg (show ¬ ak x.E s<0 by have:=K1.out;omega),if_pos k2])
  rw [k2]
  clear k2
  go_wp2
  go_ret
  exact⟨bU HN.out.symm,hB2⟩
 have K2:=Hid.aD ((Bool.not_eq_true _).mp k2)
 rw [(Bool.not_eq_true _).mp k2]
 clear k2
 have gZ:=jf.cell 0 _ rfl
 have gL:=jf.cell 1 _ rfl
 have iY:=jf.cell 2 _ rfl
 have iZ:=jf.cell 3 _ rfl
 go_wp2_with fail
 refine(oV _ H.E x.E s (dH h.E hB2) HS.out (by have:=K1.out;omega)).mono ?_
 rintro e w3 ⟨rfl,hb⟩
 have hB3:=hB2.trans (hb.mono hB2.size)
 clear gZ gL iY iZ hb jf hB2
 by_cases k3 : 6<bK x.E s
 ·have HN:=Hid.aD (show gu x s=2 by rw [HE.out,if_neg (show ¬ ak x.E s<0 by have:=K1.out;omega),if_neg (show ¬ iw x.I s=true by rw [K2.out];decide),if_pos k3])
  go_wp2
  go_ret
  exact⟨bU HN.out.symm,hB3⟩
 ·have HN:=Hid.aD (show gu x s=3 by rw [HE.out,if_neg (show ¬ ak x.E s<0 by have:=K1.out;omega),if_neg (show ¬ iw x.I s=true by rw [K2.out];decide),if_neg (show ¬ 6<bK x.E s by omega)])
  go_wp2
  go_ret
  exact⟨bU HN.out.symm,hB3⟩
theorem zM {x : Mem}{s : Int}(h : gu x s≠0) : ¬ ak x.E s<0:=fun k=>h (if_pos k)
end Go.Proofs.Ytkmggglljkmjoaa
