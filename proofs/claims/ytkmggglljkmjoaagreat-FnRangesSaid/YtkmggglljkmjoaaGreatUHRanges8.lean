/- m -/
import Derived.Test.YtkmggglljkmjoaaGreatUHRanges4
import Derived.Lib.AppendZerosOnto
import Derived.Lib.Walk
set_option maxRecDepth 100000
set_option maxHeartbeats 4000000
namespace Go.Proofs.YtkmggglljkmjoaaGreat
open Go.RowKit
theorem j6 {P : Program}{f : FuncId}{args : Array Value}{w : World}{a n : Nat}{v : Value}
  (h : Calls P f args (w.drewN (a+n)) fun e w'=>e= .returned v∧w.drewN (a+n) =w') :
  Calls P f args (w.drewN (a+n)) fun e w''=>e= .returned v∧ ∃m,w''=w.drewN (a+m) :=
 h.mono fun _ _ ⟨he,hm⟩ => ⟨he,n,hm.symm⟩
theorem dX.E_ {g off n c B : Nat}{w : World}{l : List Int}(h : dX FI w B (.slice (some ⟨g,off,none⟩) n c) l)(lo m : Nat)(h1 : lo+m≤l.length) : dX FI w B (.slice (some ⟨g,off+lo,none⟩) m (c - lo)) ((l.drop lo).take m) :=by
 obtain⟨A,cap,hv,a1,a2,a3⟩ :=h;simp only [Ya] at hv;obtain⟨rfl,rfl,rfl⟩ :=hv;have hlen : ((l.drop lo).take m).length=m:=by rw [List.length_take,List.length_drop];omega
 refine⟨_,c - lo,by rw [hlen],by rw [hlen];omega,by omega,fun hne=> ?_⟩;have hl : l≠ []:=by
  rintro rfl;simp at hne
 obtain⟨g',off',hA,hg,hc⟩ :=a3 hl;injection hA with hA;injection hA with hA1 hA2;subst hA1 hA2;refine⟨_,_,rfl,hg,fun j u hu=> ?_⟩;have hu' : (flat FI l)[lo+j]? =some u:=by
  have e : ∀q : List Int,flat FI q=q.map fun x=>Value.int .i64 x:=fun q=>by
   induction q with
   |nil=>rfl
   |cons z q ih=>show FI.enc z++flat FI q=_;rw [ih];rfl
  rw [e] at hu⊢;rw [List.getElem?_map,List.getElem?_take] at hu;split at hu
  ·rw [List.getElem?_drop] at hu
   rw [List.getElem?_map];exact hu
  ·simp at hu
 have:=hc _ u hu'
 rwa [←Nat.add_assoc] at this
def iE (h : Heap)(p : Nat)(c : Int)(k : Nat) : Bool:= (List.range k).all fun i=>bG 1 7 (jc h.Y ((p * 64+8+i * (d_ c).toNat : Nat) : Int) 4)
def iV (h : Heap)(p : Nat) : Bool:=
 if h.Z.getD p (-1) <0 then jK ((h.Y.drop (p * 64)).take 64)
 else (h.Y.getD (p * 64) 0 == 171) && (h.Y.getD (p * 64+1) 0 == h.Z.getD p (-1)) && (h.Y.getD (p * 64+2) 0 == bS (h.Z.getD p (-1))) &&jK ((h.Y.drop (p * 64+3)).take 5) &&iE h p (h.Z.getD p (-1)) (bS (h.Z.getD p (-1))).toNat
def jD (h : Heap) : Bool:=fJ h&& (List.range 6).all (iV h)
theorem LY (b : List Int)(lo m a k : Nat)(h : a+k≤m)(_ : lo+m≤b.length) : iH ((b.drop lo).take m) a k=iH b (lo+a) k:=by
 induction k with
 |zero=>rfl
 |succ k ih=>
  show iH _ a k * 256+_=iH _ (lo+a) k * 256+_;rw [ih (by omega)];congr 1;simp only [List.getD,List.getElem?_take,List.getElem?_drop];rw [if_pos (by omega),Nat.add_assoc]
theorem qd {c : Int}(hc : bG 0 2 c=true){i : Nat}(hi : i< (bS c).toNat) : 8+i * (d_ c).toNat+4≤64:=by
 rcases cls hc with rfl|rfl|rfl<;>simp [bS,d_] at * <;>omega
theorem DV (h : Heap)(p : Nat)(c : Int)(k : Nat) : iE h p c (k+1) = (iE h p c k&&bG 1 7 (jc h.Y ((p * 64+8+k * (d_ c).toNat : Nat) : Int) 4)) :=by
 unfold iE;rw [List.range_succ,List.all_append];simp
theorem Ic {h : Heap}{p : Nat}{c : Int}{k n : Nat}(hk : k<n)(hn : bG 1 7 (jc h.Y ((p * 64+8+k * (d_ c).toNat : Nat) : Int) 4) =false) : iE h p c n=false:=by
 unfold iE;rw [List.all_eq_false];exact⟨k,List.mem_range.2 hk,by rw [hn];decide⟩
theorem M_ {b : List Int}(hb : b.all (bG 0 255) =true)(lo m : Nat) : ((b.drop lo).take m).all (bG 0 255) =true:=by
 rw [X5] at hb⊢;exact fun x hx=>hb x (List.mem_of_mem_drop (List.mem_of_mem_take hx))
theorem Cj (w : World)(H : eX)(x : Heap)(p : Nat)(hp : p<6)(h : iW w w.heap.size H x)(hs : fJ x=true) :
  Calls Tryz.prog 196 #[.agg #[.slice H.Y.a H.Y.l H.Y.c, .slice H.Z.a H.Z.l H.Z.c], .int .i64 p] w fun e w'=>e= .returned (.bool (iV x p)) ∧Below w.heap.size w w':=by
 obtain⟨⟨A1,n1,c1⟩, ⟨A2,n2,c2⟩⟩ :=H;obtain⟨bs,cs⟩ :=x;have hr1 : dX FI w w.heap.size (.slice A1 n1 c1) bs:=h.Y;have hr2 : dX FI w w.heap.size (.slice A2 n2 c2) cs:=h.Z;obtain⟨_,_,hv,q1,q2,qx⟩ :=id hr1;simp only [Ya] at hv;obtain⟨rfl,rfl,rfl⟩ :=hv;have hlt1 : bs.length≤9223372036854775807:=by unfold maxLen at q2;omega
 clear q1 q2 qx;obtain⟨_,_,hv,q1,q2,qx⟩ :=id hr2;simp only [Ya] at hv;obtain⟨rfl,rfl,rfl⟩ :=hv;have hlt2 : cs.length≤9223372036854775807:=by unfold maxLen at q2;omega
 clear q1 q2 qx h;have sh:=jr hs;have xH:=sh.cl;have DW:=sh.bl;have hby:=sh.sS;have hcb:=sh.cs p;simp only at xH DW hby hcb;have hpl : p<cs.length:=by omega
 have HE:=Hid.aD (show iV ⟨bs,cs⟩ p= (if cs.getD p (-1) <0 then jK ((bs.drop (p * 64)).take 64) else (bs.getD (p * 64) 0 == 171) && (bs.getD (p * 64+1) 0 == cs.getD p (-1)) && (bs.getD (p * 64+2) 0 == bS (cs.getD p (-1))) &&jK ((bs.drop (p * 64+3)).take 5) &&iE ⟨bs,cs⟩ p (cs.getD p (-1)) (bS (cs.getD p (-1))).toNat) from rfl);show Calls Tryz.prog 196 #[.agg #[.slice A1 bs.length c1, .slice A2 cs.length c2], .int .i64 p] _ _;obtain⟨g2,off2,cap2,he,hg2,_,_,hc2⟩ :=hr2.at_ (show cs[p]? =some (cs.getD p (-1)) by rw [getD_at hpl];exact XL hpl);injection he with he1 he2 gq;clear he2;subst he1 gq;have p0 : w.cell? ⟨g2,off2+p,none⟩ =some (.int .i64 (cs.getD p (-1))) :=by simpa [FI] using hc2 0 _ rfl
 clear hc2;have HG:=Hid.aD (fun c k=>DV ⟨bs,cs⟩ p c k);have HG2:=Hid.aD (fun c k n=>Ic (h:= ⟨bs,cs⟩) (p:=p) (c:=c) (k:=k) (n:=n));have HR:=Hid.aD (fun c hc i=>qd (c:=c) hc (i:=i));generalize cs.getD p (-1) =c at p0 hcb HE;obtain⟨g1,off1,E5,he,hg1,Tz,TA,hc1⟩ :=hr1.at_ (show bs[p * 64]? =some (bs.getD (p * 64) 0) by rw [getD_at (by omega)];exact XL (by omega));injection he with he1 he2 gq;clear he2;subst he1 gq;have x0 : w.cell? ⟨g1,off1+p * 64,none⟩ =some (.int .i64 (bs.getD (p * 64) 0)) :=by simpa [FI] using hc1 0 _ rfl
 obtain⟨g1',yS,xI,he,_,_,_,hc1⟩ :=hr1.at_ (show bs[p * 64+1]? =some (bs.getD (p * 64+1) 0) by rw [getD_at (by omega)];exact XL (by omega));injection he with he1 he2 gq;injection he1 with he1;injection he1 with he1 qP;subst he1 gq qP;have x1 : w.cell? ⟨g1,off1+ (p * 64+1),none⟩ =some (.int .i64 (bs.getD (p * 64+1) 0)) :=by simpa [FI] using hc1 0 _ rfl
 obtain⟨g1',yS,xI,he,_,_,_,hc1⟩ :=hr1.at_ (show bs[p * 64+2]? =some (bs.getD (p * 64+2) 0) by rw [getD_at (by omega)];exact XL (by omega));injection he with he1 he2 gq;injection he1 with he1;injection he1 with he1 qP;subst he1 gq qP;have x2 : w.cell? ⟨g1,off1+ (p * 64+2),none⟩ =some (.int .i64 (bs.getD (p * 64+2) 0)) :=by simpa [FI] using hc1 0 _ rfl
 clear hc1 he2 sh hs;have hrz:=hr1.E_ (p * 64) 64 (by omega);have hrf:=hr1.E_ (p * 64+3) 5 (by omega);rw [←Nat.add_assoc,Nat.sub_add_eq] at hrf;have RY : 384≤bs.length:=by omega
 have hb6 : 6≤cs.length:=by omega
 clear DW xH;have x1' : w.cell? ⟨g1,off1+p * 64+1,none⟩ =some (.int .i64 (bs.getD (p * 64+1) 0)) :=by rw [Nat.add_assoc];exact x1
 have x2' : w.cell? ⟨g1,off1+p * 64+2,none⟩ =some (.int .i64 (bs.getD (p * 64+2) 0)) :=by rw [Nat.add_assoc];exact x2
 generalize bs.getD (p * 64) 0=y0 at x0 HE;generalize bs.getD (p * 64+1) 0=y1 at x1 x1' HE;generalize bs.getD (p * 64+2) 0=y2 at x2 x2' HE;have FM:=Hid.aD (fun q (hq : q+4≤64) =>LY bs (p * 64) 64 q 4 hq (by omega));have Fa:=M_ hby (p * 64) 64;have e1 : (p : Int) * 64= ((p * 64 : Nat) : Int) :=by omega
 have e2 : ((p : Int) +1) * 64= ((p * 64+64 : Nat) : Int) :=by omega
 have ha : p * 64+64≤bs.length:=by omega
 have Qs : ((bs.drop (p * 64)).take 64).length=64:=by rw [List.length_take,List.length_drop];omega
 have Fb:=Hid.aD Qs;clear Qs;generalize p * 64=a at *
 by_cases k0 : c<0
 ·have hd0 : decide (c<0) =true:=by simpa using k0
  rw [if_pos k0] at HE;clear HG HG2 HR FM;go_enter Tryz.func196,Tryz.ntmps196;go_wp2;go_quiet (fail);go_wp2_with fail;refine(rX _ _ _ (bY hrz cO)).mono ?_;rintro e w1 ⟨rfl,rfl⟩;go_wp2;go_ret;exact⟨aU HE.out.symm,by repeat (first|exact Below.refl _ _|refine Below.alloc ?_ (by simp<;>omega) _|refine bA ?_ (by simp<;>omega) _ _|refine Below.drew ?_|refine below_drewN ?_ _)⟩
 rw [if_neg k0] at HE;have hd0 : decide (c<0) =false:=by simpa using k0
 have hc : bG 0 2 c=true:=bH.2 ⟨by omega,hcb.2⟩;by_cases k1 : y0=171
 case neg=>
  have k1' : (y0 != 171) =true:=by simpa using k1
  have K1:=Hid.aD (show (y0 == 171) =false by simpa using k1);clear k1 HG HG2 HR FM;have h64 : a+64 - a=64:=by omega
  go_enter Tryz.func196,Tryz.ntmps196;go_wp2;go_quiet (fail);go_wp2;go_quiet ((first| (go_at_call 179;exact j6 (mh _ _))));go_wp2;go_ret;exact⟨aU (by rw [HE.out];rw [K1.out];simp),by repeat (first|exact Below.refl _ _|refine Below.alloc ?_ (by simp<;>omega) _|refine bA ?_ (by simp<;>omega) _ _|refine Below.drew ?_|refine below_drewN ?_ _)⟩
 subst k1;by_cases k2 : y1=c
 case neg=>
  have k2' : (y1 != c) =true:=by simpa using k2
  have K2:=Hid.aD (show (y1 == c) =false by simpa using k2);clear k2 HG HG2 HR FM;have h64 : a+64 - a=64:=by omega
  go_enter Tryz.func196,Tryz.ntmps196;go_wp2;go_quiet (fail);go_wp2;go_quiet ((first| (go_at_call 179;exact j6 (mh _ _))));go_wp2;go_ret;exact⟨aU (by rw [HE.out];rw [K2.out];simp),by repeat (first|exact Below.refl _ _|refine Below.alloc ?_ (by simp<;>omega) _|refine bA ?_ (by simp<;>omega) _ _|refine Below.drew ?_|refine below_drewN ?_ _)⟩
 subst k2;by_cases k3 : y2=bS y1
 case neg=>
  have pR : (y2 != bS y1) =true:=by simpa using k3
  have K3:=Hid.aD (show (y2 == bS y1) =false by simpa using k3);clear k3 HG HG2 HR FM;have h64 : a+64 - a=64:=by omega
  go_enter Tryz.func196,Tryz.ntmps196;go_wp2;go_quiet (fail);go_wp2;go_quiet ((first| (go_at_call 179;exact j6 (mh _ _))));go_wp2;go_ret;exact⟨aU (by rw [HE.out];rw [K3.out];simp),by repeat (first|exact Below.refl _ _|refine Below.alloc ?_ (by simp<;>omega) _|refine bA ?_ (by simp<;>omega) _ _|refine Below.drew ?_|refine below_drewN ?_ _)⟩
 subst k3;by_cases k4 : jK ((bs.drop (a+3)).take 5) =true
 case neg=>
  have Ie : jK ((bs.drop (a+3)).take 5) =false:= (XM _).mp k4;have K4:=Hid.aD Ie;clear k4 HG HG2 HR FM;have h64 : a+64 - a=64:=by omega
  go_enter Tryz.func196,Tryz.ntmps196;go_wp2;go_quiet (fail);go_wp2;go_quiet ((first| (go_at_call 179;exact j6 (mh _ _)) | (go_at_call 228;exact j6 (rX _ _ _ (bY hrf cO)))));go_wp2;go_ret;exact⟨aU (by rw [HE.out];rw [K4.out];simp),by repeat (first|exact Below.refl _ _|refine Below.alloc ?_ (by simp<;>omega) _|refine bA ?_ (by simp<;>omega) _ _|refine Below.drew ?_|refine below_drewN ?_ _)⟩
 have HF:=Hid.aD (show iV ⟨bs,cs⟩ p=iE ⟨bs,cs⟩ p y1 (bS y1).toNat by rw [HE.out,k4];simp);clear HE;rcases cls hc with rfl|rfl|rfl
 ·have mo : bS 0=4:=rfl
  have hst : d_ 0=12:=rfl;rw [mo] at x2 x2';have sU:=Hid.aD (show iV ⟨bs,cs⟩ p=iE ⟨bs,cs⟩ p 0 4 from HF.out);clear HF hc hcb k0;have h64 : a+64 - a=64:=by omega
  go_enter Tryz.func196,Tryz.ntmps196;go_wp2;go_quiet (fail);go_wp2;go_quiet ((first| (go_at_call 179;exact j6 ((mh 0 _).mono fun e w' ⟨u,v⟩ => ⟨by rw [u,mo],v⟩)) | (go_at_call 228;exact j6 (rX _ _ _ (bY hrf cO)))));go_wp2_with (go_at_call 179;refine(mh _ _).mono ?_;rw [mo];rintro e w2 ⟨rfl,rfl⟩)
  go_loop [7,52] (fun _ i=> ∃k : Nat,k≤4∧i= .int .i64 k∧Hid (iE ⟨bs,cs⟩ p 0 k=true)) (fun _ i=>4 - (intOf i).toNat)
  case atStart=>exact⟨0,X3 _,rfl,rfl⟩
  case round=>
   obtain⟨i,hi,rfl,HT⟩ :=hrel;by_cases hlt : i<4
   ·have HV:=Hid.aD (show jc ((bs.drop a).take 64) (8+ (i : Int) * 12) 4=jc bs ((a+8+i * 12 : Nat) : Int) 4 by
     have u:=FM.out (8+i * 12) (by omega);unfold jc;rw [show (8+ (i : Int) * 12).toNat=8+i * 12 by omega,show (((a+8+i * 12 : Nat) : Int)).toNat=a+ (8+i * 12) by omega];exact u)
    have HS:=Hid.aD (show iE ⟨bs,cs⟩ p 0 (i+1) = (iE ⟨bs,cs⟩ p 0 i&&bG 1 7 (jc bs ((a+8+i * 12 : Nat) : Int) 4)) from HG.out 0 i);have kJ:=Hid.aD (show bG 1 7 (jc bs ((a+8+i * 12 : Nat) : Int) 4) =false→iE ⟨bs,cs⟩ p 0 4=false from HG2.out 0 i 4 hlt);generalize jc bs ((a+8+i * 12 : Nat) : Int) 4=z at HV HS kJ;by_cases k5 : bG 1 7 z=true
    ·have HN:=Hid.aD (show iE ⟨bs,cs⟩ p 0 (i+1) =true by rw [HS.out,HT.out,k5];rfl)
     go_wp2_with (first| (go_at_call 180;refine(pE _ _).mono ?_;rw [hst];rintro e w2 ⟨rfl,rfl⟩) | (go_at_call 90;refine(oV _ _ ((bs.drop a).take 64) (8+ (i : Int) * 12) 4 (bY hrz cO) (by omega) (by decide) (by decide) (by rw [Fb.out];omega) Fa).mono ?_;rw [HV.out];rintro e w2 ⟨rfl,rfl⟩) | (go_at_call 154;refine(kQ _ _ _ _).mono ?_;rintro e w1 ⟨rfl,rfl⟩))
     go_round
     case rel=>exact⟨i+1,by omega,by go_num,HN⟩
     case measure=>simp [intOf];omega
    ·have Av : bG 1 7 z=false:= (XM _).mp k5
     have HN:=Hid.aD (kJ.out Av);clear k5;go_wp2_with (first| (go_at_call 180;refine(pE _ _).mono ?_;rw [hst];rintro e w2 ⟨rfl,rfl⟩) | (go_at_call 90;refine(oV _ _ ((bs.drop a).take 64) (8+ (i : Int) * 12) 4 (bY hrz cO) (by omega) (by decide) (by decide) (by rw [Fb.out];omega) Fa).mono ?_;rw [HV.out];rintro e w2 ⟨rfl,rfl⟩) | (go_at_call 154;refine(kQ _ _ _ _).mono ?_;rintro e w1 ⟨rfl,rfl⟩));go_ret;exact⟨aU (by rw [sU.out,HN.out]),by repeat (first|exact Below.refl _ _|refine Below.alloc ?_ (by simp<;>omega) _|refine bA ?_ (by simp<;>omega) _ _|refine Below.drew ?_|refine below_drewN ?_ _)⟩
   ·obtain rfl : i=4:=by omega
    go_wp2;go_ret;exact⟨aU (by rw [sU.out,HT.out]),by repeat (first|exact Below.refl _ _|refine Below.alloc ?_ (by simp<;>omega) _|refine bA ?_ (by simp<;>omega) _ _|refine Below.drew ?_|refine below_drewN ?_ _)⟩
 ·have mo : bS 1=2:=rfl
  have hst : d_ 1=20:=rfl;rw [mo] at x2 x2';have sU:=Hid.aD (show iV ⟨bs,cs⟩ p=iE ⟨bs,cs⟩ p 1 2 from HF.out);clear HF hc hcb k0;have h64 : a+64 - a=64:=by omega
  go_enter Tryz.func196,Tryz.ntmps196;go_wp2;go_quiet (fail);go_wp2;go_quiet ((first| (go_at_call 179;exact j6 ((mh 1 _).mono fun e w' ⟨u,v⟩ => ⟨by rw [u,mo],v⟩)) | (go_at_call 228;exact j6 (rX _ _ _ (bY hrf cO)))));go_wp2_with (go_at_call 179;refine(mh _ _).mono ?_;rw [mo];rintro e w2 ⟨rfl,rfl⟩)
  go_loop [7,52] (fun _ i=> ∃k : Nat,k≤2∧i= .int .i64 k∧Hid (iE ⟨bs,cs⟩ p 1 k=true)) (fun _ i=>2 - (intOf i).toNat)
  case atStart=>exact⟨0,X3 _,rfl,rfl⟩
  case round=>
   obtain⟨i,hi,rfl,HT⟩ :=hrel;by_cases hlt : i<2
   ·have HV:=Hid.aD (show jc ((bs.drop a).take 64) (8+ (i : Int) * 20) 4=jc bs ((a+8+i * 20 : Nat) : Int) 4 by
     have u:=FM.out (8+i * 20) (by omega);unfold jc;rw [show (8+ (i : Int) * 20).toNat=8+i * 20 by omega,show (((a+8+i * 20 : Nat) : Int)).toNat=a+ (8+i * 20) by omega];exact u)
    have HS:=Hid.aD (show iE ⟨bs,cs⟩ p 1 (i+1) = (iE ⟨bs,cs⟩ p 1 i&&bG 1 7 (jc bs ((a+8+i * 20 : Nat) : Int) 4)) from HG.out 1 i);have kJ:=Hid.aD (show bG 1 7 (jc bs ((a+8+i * 20 : Nat) : Int) 4) =false→iE ⟨bs,cs⟩ p 1 2=false from HG2.out 1 i 2 hlt);generalize jc bs ((a+8+i * 20 : Nat) : Int) 4=z at HV HS kJ;by_cases k5 : bG 1 7 z=true
    ·have HN:=Hid.aD (show iE ⟨bs,cs⟩ p 1 (i+1) =true by rw [HS.out,HT.out,k5];rfl)
     go_wp2_with (first| (go_at_call 180;refine(pE _ _).mono ?_;rw [hst];rintro e w2 ⟨rfl,rfl⟩) | (go_at_call 90;refine(oV _ _ ((bs.drop a).take 64) (8+ (i : Int) * 20) 4 (bY hrz cO) (by omega) (by decide) (by decide) (by rw [Fb.out];omega) Fa).mono ?_;rw [HV.out];rintro e w2 ⟨rfl,rfl⟩) | (go_at_call 154;refine(kQ _ _ _ _).mono ?_;rintro e w1 ⟨rfl,rfl⟩))
     go_round
     case rel=>exact⟨i+1,by omega,by go_num,HN⟩
     case measure=>simp [intOf];omega
    ·have Av : bG 1 7 z=false:= (XM _).mp k5
     have HN:=Hid.aD (kJ.out Av);clear k5;go_wp2_with (first| (go_at_call 180;refine(pE _ _).mono ?_;rw [hst];rintro e w2 ⟨rfl,rfl⟩) | (go_at_call 90;refine(oV _ _ ((bs.drop a).take 64) (8+ (i : Int) * 20) 4 (bY hrz cO) (by omega) (by decide) (by decide) (by rw [Fb.out];omega) Fa).mono ?_;rw [HV.out];rintro e w2 ⟨rfl,rfl⟩) | (go_at_call 154;refine(kQ _ _ _ _).mono ?_;rintro e w1 ⟨rfl,rfl⟩));go_ret;exact⟨aU (by rw [sU.out,HN.out]),by repeat (first|exact Below.refl _ _|refine Below.alloc ?_ (by simp<;>omega) _|refine bA ?_ (by simp<;>omega) _ _|refine Below.drew ?_|refine below_drewN ?_ _)⟩
   ·obtain rfl : i=2:=by omega
    go_wp2;go_ret;exact⟨aU (by rw [sU.out,HT.out]),by repeat (first|exact Below.refl _ _|refine Below.alloc ?_ (by simp<;>omega) _|refine bA ?_ (by simp<;>omega) _ _|refine Below.drew ?_|refine below_drewN ?_ _)⟩
 ·have mo : bS 2=1:=rfl
  have hst : d_ 2=44:=rfl;rw [mo] at x2 x2';have sU:=Hid.aD (show iV ⟨bs,cs⟩ p=iE ⟨bs,cs⟩ p 2 1 from HF.out);clear HF hc hcb k0;have h64 : a+64 - a=64:=by omega
  go_enter Tryz.func196,Tryz.ntmps196;go_wp2;go_quiet (fail);go_wp2;go_quiet ((first| (go_at_call 179;exact j6 ((mh 2 _).mono fun e w' ⟨u,v⟩ => ⟨by rw [u,mo],v⟩)) | (go_at_call 228;exact j6 (rX _ _ _ (bY hrf cO)))));go_wp2_with (go_at_call 179;refine(mh _ _).mono ?_;rw [mo];rintro e w2 ⟨rfl,rfl⟩)
  go_loop [7,52] (fun _ i=> ∃k : Nat,k≤1∧i= .int .i64 k∧Hid (iE ⟨bs,cs⟩ p 2 k=true)) (fun _ i=>1 - (intOf i).toNat)
  case atStart=>exact⟨0,X3 _,rfl,rfl⟩
  case round=>
   obtain⟨i,hi,rfl,HT⟩ :=hrel;by_cases hlt : i<1
   ·have HV:=Hid.aD (show jc ((bs.drop a).take 64) (8+ (i : Int) * 44) 4=jc bs ((a+8+i * 44 : Nat) : Int) 4 by
     have u:=FM.out (8+i * 44) (by omega);unfold jc;rw [show (8+ (i : Int) * 44).toNat=8+i * 44 by omega,show (((a+8+i * 44 : Nat) : Int)).toNat=a+ (8+i * 44) by omega];exact u)
    have HS:=Hid.aD (show iE ⟨bs,cs⟩ p 2 (i+1) = (iE ⟨bs,cs⟩ p 2 i&&bG 1 7 (jc bs ((a+8+i * 44 : Nat) : Int) 4)) from HG.out 2 i);have kJ:=Hid.aD (show bG 1 7 (jc bs ((a+8+i * 44 : Nat) : Int) 4) =false→iE ⟨bs,cs⟩ p 2 1=false from HG2.out 2 i 1 hlt);generalize jc bs ((a+8+i * 44 : Nat) : Int) 4=z at HV HS kJ;by_cases k5 : bG 1 7 z=true
    ·have HN:=Hid.aD (show iE ⟨bs,cs⟩ p 2 (i+1) =true by rw [HS.out,HT.out,k5];rfl)
     go_wp2_with (first| (go_at_call 180;refine(pE _ _).mono ?_;rw [hst];rintro e w2 ⟨rfl,rfl⟩) | (go_at_call 90;refine(oV _ _ ((bs.drop a).take 64) (8+ (i : Int) * 44) 4 (bY hrz cO) (by omega) (by decide) (by decide) (by rw [Fb.out];omega) Fa).mono ?_;rw [HV.out];rintro e w2 ⟨rfl,rfl⟩) | (go_at_call 154;refine(kQ _ _ _ _).mono ?_;rintro e w1 ⟨rfl,rfl⟩))
     go_round
     case rel=>exact⟨i+1,by omega,by go_num,HN⟩
     case measure=>simp [intOf];omega
    ·have Av : bG 1 7 z=false:= (XM _).mp k5
     have HN:=Hid.aD (kJ.out Av);clear k5;go_wp2_with (first| (go_at_call 180;refine(pE _ _).mono ?_;rw [hst];rintro e w2 ⟨rfl,rfl⟩) | (go_at_call 90;refine(oV _ _ ((bs.drop a).take 64) (8+ (i : Int) * 44) 4 (bY hrz cO) (by omega) (by decide) (by decide) (by rw [Fb.out];omega) Fa).mono ?_;rw [HV.out];rintro e w2 ⟨rfl,rfl⟩) | (go_at_call 154;refine(kQ _ _ _ _).mono ?_;rintro e w1 ⟨rfl,rfl⟩));go_ret;exact⟨aU (by rw [sU.out,HN.out]),by repeat (first|exact Below.refl _ _|refine Below.alloc ?_ (by simp<;>omega) _|refine bA ?_ (by simp<;>omega) _ _|refine Below.drew ?_|refine below_drewN ?_ _)⟩
   ·obtain rfl : i=1:=by omega
    go_wp2;go_ret;exact⟨aU (by rw [sU.out,HT.out]),by repeat (first|exact Below.refl _ _|refine Below.alloc ?_ (by simp<;>omega) _|refine bA ?_ (by simp<;>omega) _ _|refine Below.drew ?_|refine below_drewN ?_ _)⟩
theorem xY (p i : Int)(w : World) : Calls Tryz.prog 202 #[.int .i64 p, .int .i64 i] w fun e w'=>e= .returned (.int .i64 (l8 p i)) ∧w=w':=by
 by_cases h1 : bG 0 5 p=true
 case neg=>
  have h1' : bG 0 5 p=false:= (XM _).mp h1;have HS:=Hid.aD (show l8 p i= -1 from if_neg (fun hh=>h1 hh.1));clear h1;go_enter Tryz.func202,Tryz.ntmps202;go_wp2_with (go_at_call 102;refine(dH _ _ _ _).mono ?_;rintro e w1 ⟨rfl,rfl⟩);go_ret;exact⟨cB HS.out.symm,rfl⟩
 by_cases h2 : bG 0 3 i=true
 case neg=>
  have h2' : bG 0 3 i=false:= (XM _).mp h2;have HS:=Hid.aD (show l8 p i= -1 from if_neg (fun hh=>h2 hh.2));clear h2;go_enter Tryz.func202,Tryz.ntmps202;go_wp2_with (go_at_call 102;refine(dH _ _ _ _).mono ?_;rintro e w1 ⟨rfl,rfl⟩);go_ret;exact⟨cB HS.out.symm,rfl⟩
 have HS:=Hid.aD (show l8 p i=p * 4+i from if_pos ⟨h1,h2⟩);obtain⟨a1,a2⟩ :=bH.1 h1;obtain⟨b1,b2⟩ :=bH.1 h2;go_enter Tryz.func202,Tryz.ntmps202;go_wp2_with (go_at_call 102;refine(dH _ _ _ _).mono ?_;rintro e w1 ⟨rfl,rfl⟩);go_ret;exact⟨cB HS.out.symm,rfl⟩
theorem vX {b : List Int}{lo m : Nat}(h1 : lo≤m)(h2 : m<b.length)(hz : jK ((b.drop lo).take (m - lo)) =true)(h0 : b.getD m 0=0) : jK ((b.drop lo).take (m+1 - lo)) =true:=by
 unfold jK at *
 rw [show m+1 - lo= (m - lo) +1 by omega,XZ (by rw [List.length_drop];omega),List.all_append,hz];rw [getD_at h2] at h0;simp only [List.getElem_drop,List.all_cons,List.all_nil,Bool.and_true,Bool.true_and];rw [show b[lo+ (m - lo)]=b[m] by congr 1;omega,h0];rfl
theorem yT {b : List Int}{lo n m : Nat}(h1 : lo≤m)(h2 : m<b.length)(h3 : m<lo+n)(h0 : b.getD m 0≠0) : jK ((b.drop lo).take n) =false:=by
 unfold jK;rw [List.all_eq_false];refine⟨b[m], ?_, ?_⟩
 ·rw [List.mem_take_iff_getElem]
  refine⟨m - lo,by rw [List.length_drop];omega, ?_⟩;rw [List.getElem_drop];congr 1;omega
 ·rw [getD_at h2] at h0
  simpa using h0
theorem DX {p i : Nat}{c : Int}(hp : p<6)(hc : bG 0 2 c=true)(hi : i< (bS c).toNat) : gP (l8 p i) c= ((p * 64+8+i * (d_ c).toNat : Nat) : Int) :=by
 have a:=qj c;have e : l8 p i= (p : Int) * 4+i:=if_pos ⟨bH.2 ⟨by omega,by omega⟩,bH.2 ⟨by omega,by omega⟩⟩;have e1 : ((p : Int) * 4+i) / 4=p:=by omega
 have e2 : ((p : Int) * 4+i) %4=i:=by omega
 rw [e,qO (bH.2 ⟨by omega,by omega⟩) hc (by rw [e2];omega),e1,e2];rcases cls hc with rfl|rfl|rfl
 ·show (p : Int) * 64+8+i * 12= ((p * 64+8+i * 12 : Nat) : Int)
  omega
 ·show (p : Int) * 64+8+i * 20= ((p * 64+8+i * 20 : Nat) : Int)
  omega
 ·show (p : Int) * 64+8+i * 44= ((p * 64+8+i * 44 : Nat) : Int)
  omega
theorem fI {P : Program}{f : FuncId}{args : Array Value}{w : World}{n : Nat}{v : Value}
  (h : Calls P f args (w.drewN n) fun e w'=>e= .returned v∧w.drewN n=w') : Calls P f args (w.drewN n) fun e w''=>e= .returned v∧ ∃m,w''=w.drewN m:=
 h.mono fun _ _ ⟨he,hm⟩ => ⟨he,n,hm.symm⟩
theorem Ck (w : World)(H : eX)(x : Heap)(p : Nat)(hp : p<6)(h : iW w w.heap.size H x)(hs : fJ x=true) :
  Calls Tryz.prog 145 #[.agg #[.slice H.Y.a H.Y.l H.Y.c, .slice H.Z.a H.Z.l H.Z.c], .int .i64 p] w fun e w'=>e= .returned (.bool (iV x p)) ∧Below w.heap.size w w':=by
 obtain⟨⟨A1,n1,c1⟩, ⟨A2,n2,c2⟩⟩ :=H;obtain⟨bs,cs⟩ :=x;have hr1 : dX FI w w.heap.size (.slice A1 n1 c1) bs:=h.Y;have hr2 : dX FI w w.heap.size (.slice A2 n2 c2) cs:=h.Z;obtain⟨_,_,hv,q1,q2,qx⟩ :=id hr1;simp only [Ya] at hv;obtain⟨rfl,rfl,rfl⟩ :=hv;have hlt1 : bs.length≤9223372036854775807:=by unfold maxLen at q2;omega
 clear q1 q2 qx;obtain⟨_,_,hv,q1,q2,qx⟩ :=id hr2;simp only [Ya] at hv;obtain⟨rfl,rfl,rfl⟩ :=hv;have hlt2 : cs.length≤9223372036854775807:=by unfold maxLen at q2;omega
 clear q1 q2 qx h;have sh:=jr hs;have xH:=sh.cl;have DW:=sh.bl;have hby:=sh.sS;have hcb:=sh.cs p;simp only at xH DW hby hcb;have hpl : p<cs.length:=by omega
 have HE:=Hid.aD (show iV ⟨bs,cs⟩ p= (if cs.getD p (-1) <0 then jK ((bs.drop (p * 64)).take 64) else (bs.getD (p * 64) 0 == 171) && (bs.getD (p * 64+1) 0 == cs.getD p (-1)) && (bs.getD (p * 64+2) 0 == bS (cs.getD p (-1))) &&jK ((bs.drop (p * 64+3)).take 5) &&iE ⟨bs,cs⟩ p (cs.getD p (-1)) (bS (cs.getD p (-1))).toNat) from rfl);show Calls Tryz.prog 145 #[.agg #[.slice A1 bs.length c1, .slice A2 cs.length c2], .int .i64 p] _ _;obtain⟨g2,off2,cap2,he,hg2,_,_,hc2⟩ :=hr2.at_ (show cs[p]? =some (cs.getD p (-1)) by rw [getD_at hpl];exact XL hpl);injection he with he1 he2 gq;clear he2;subst he1 gq;have p0 : w.cell? ⟨g2,off2+p,none⟩ =some (.int .i64 (cs.getD p (-1))) :=by simpa [FI] using hc2 0 _ rfl
 clear hc2;have HG:=Hid.aD (fun c k=>DV ⟨bs,cs⟩ p c k);have HG2:=Hid.aD (fun c k n=>Ic (h:= ⟨bs,cs⟩) (p:=p) (c:=c) (k:=k) (n:=n));have HR:=Hid.aD (fun c hc i=>qd (c:=c) hc (i:=i));generalize cs.getD p (-1) =c at p0 hcb HE;obtain⟨g1,off1,E5,he,hg1,Tz,TA,hc1⟩ :=hr1.at_ (show bs[p * 64]? =some (bs.getD (p * 64) 0) by rw [getD_at (by omega)];exact XL (by omega));injection he with he1 he2 gq;clear he2;subst he1 gq;have x0 : w.cell? ⟨g1,off1+p * 64,none⟩ =some (.int .i64 (bs.getD (p * 64) 0)) :=by simpa [FI] using hc1 0 _ rfl
 obtain⟨g1',yS,xI,he,_,_,_,hc1⟩ :=hr1.at_ (show bs[p * 64+1]? =some (bs.getD (p * 64+1) 0) by rw [getD_at (by omega)];exact XL (by omega));injection he with he1 he2 gq;injection he1 with he1;injection he1 with he1 qP;subst he1 gq qP;have x1 : w.cell? ⟨g1,off1+ (p * 64+1),none⟩ =some (.int .i64 (bs.getD (p * 64+1) 0)) :=by simpa [FI] using hc1 0 _ rfl
 obtain⟨g1',yS,xI,he,_,_,_,hc1⟩ :=hr1.at_ (show bs[p * 64+2]? =some (bs.getD (p * 64+2) 0) by rw [getD_at (by omega)];exact XL (by omega));injection he with he1 he2 gq;injection he1 with he1;injection he1 with he1 qP;subst he1 gq qP;have x2 : w.cell? ⟨g1,off1+ (p * 64+2),none⟩ =some (.int .i64 (bs.getD (p * 64+2) 0)) :=by simpa [FI] using hc1 0 _ rfl
 clear hc1 he2 sh hs;have hrz:=hr1.E_ (p * 64) 64 (by omega);have hrf:=hr1.E_ (p * 64+3) 5 (by omega);rw [←Nat.add_assoc,Nat.sub_add_eq] at hrf;have RY : 384≤bs.length:=by omega
 have hb6 : 6≤cs.length:=by omega
 clear DW xH;have x1' : w.cell? ⟨g1,off1+p * 64+1,none⟩ =some (.int .i64 (bs.getD (p * 64+1) 0)) :=by rw [Nat.add_assoc];exact x1
 have x2' : w.cell? ⟨g1,off1+p * 64+2,none⟩ =some (.int .i64 (bs.getD (p * 64+2) 0)) :=by rw [Nat.add_assoc];exact x2
 generalize bs.getD (p * 64) 0=y0 at x0 HE;generalize bs.getD (p * 64+1) 0=y1 at x1 x1' HE;generalize bs.getD (p * 64+2) 0=y2 at x2 x2' HE;have Ig:=Hid.aD (fun c hc i=>DX (p:=p) (i:=i) (c:=c) hp hc);have e1 : (p : Int) * 64= ((p * 64 : Nat) : Int) :=by omega
 have ha : p * 64+64≤bs.length:=by omega
 generalize p * 64=a at *
 by_cases k0 : c<0
 ·have hd0 : decide (c<0) =true:=by simpa using k0
  rw [if_pos k0] at HE;clear HG HG2 HR Ig;go_enter Tryz.func145,Tryz.ntmps145;go_wp2;generalize hW : (w.alloc (.cells #[.slice (some ⟨g1,off1,none⟩) bs.length c1, .slice (some ⟨g2,off2,none⟩) cs.length c2] 26)) =w0;have hB0 : Below w.heap.size w w0:=by rw [←hW];repeat (first|exact Below.refl _ _|refine Below.alloc ?_ (by simp<;>omega) _|refine bA ?_ (by simp<;>omega) _ _|refine Below.drew ?_|refine below_drewN ?_ _)
  have q0 : w0.cell? ⟨w.heap.size,0,none⟩ =some (.slice (some ⟨g1,off1,none⟩) bs.length c1) :=by rw [←hW];simp [go_sem]
  clear hW
  go_loop [7] (fun i=> ∃m : Nat,a≤m∧m≤a+64∧i= .int .i64 m∧Hid (jK ((bs.drop (a)).take (m - (a))) =true)) (fun i=>a+64 - (intOf i).toNat)
  case atStart=>exact⟨a,XQ _,by omega,by go_num,Hid.aD (by rw [Nat.sub_self];rfl)⟩
  case round=>
   obtain⟨m,hm1,hm2,rfl,HT⟩ :=hrel;by_cases hlt : m<a+64
   ·have ht : decide ((m : Int) < (a : Int) +64) =true:=decide_eq_true (by omega)
    have ht' : (m : Int) < (a : Int) +64:=by omega
    have hmb : m<bs.length:=by omega
    obtain⟨g1',yS,xI,he,_,_,_,hc1⟩ := (hr1.below hB0).at_ (show bs[m]? =some (bs.getD m 0) by rw [getD_at hmb];exact XL hmb);injection he with he1 he2 gq;injection he1 with he1;injection he1 with he1 qP;subst he1 gq qP;have x0 : w0.cell? ⟨g1,off1+m,none⟩ =some (.int .i64 (bs.getD m 0)) :=by simpa [FI] using hc1 0 _ rfl
    clear hc1 he2;have HS:=Hid.aD (fun h0=>vX (b:=bs) hm1 hmb HT.out h0);have kJ:=Hid.aD (fun h0=>yT (b:=bs) (n:=64) hm1 hmb hlt h0);generalize bs.getD m 0=y at x0 HS kJ;by_cases hy : y=0
    ·have HN:=Hid.aD (HS.out hy)
     have hy' : (y != 0) =false:=by simpa using hy
     clear hy;go_wp2
     go_round
     case rel=>exact⟨m+1,by omega,by omega,by go_num,HN⟩
     case measure=>simp [intOf];omega
    ·have HN:=Hid.aD (kJ.out hy)
     have hy' : (y != 0) =true:=by simpa using hy
     clear hy;go_wp2;go_ret;exact⟨aU (by rw [HE.out,HN.out]), (by first|exact hB0|exact hB0.drew|exact below_drewN hB0 _)⟩
   ·obtain rfl : m=a+64:=by omega
    have HN:=Hid.aD (show jK ((bs.drop (a)).take 64) =true by have u:=HT.out;rwa [show a+64 - (a) =64 by omega] at u);have ht : decide (((a+64 : Nat) : Int) < (a : Int) +64) =false:=decide_eq_false (by omega);clear HT;go_wp2;go_ret;exact⟨aU (by rw [HE.out,HN.out]), (by first|exact hB0|exact hB0.drew|exact below_drewN hB0 _)⟩
 rw [if_neg k0] at HE;have hd0 : decide (c<0) =false:=by simpa using k0
 have hc : bG 0 2 c=true:=bH.2 ⟨by omega,hcb.2⟩;by_cases k1 : y0=171
 case neg=>
  have k1' : (y0 != 171) =true:=by simpa using k1
  have K1:=Hid.aD (show (y0 == 171) =false by simpa using k1);clear k1 HG HG2 HR Ig;go_enter Tryz.func145,Tryz.ntmps145;go_wp2;go_quiet ((go_at_call 150;exact fI (iG _ _)));go_wp2;go_ret;exact⟨aU (by rw [HE.out];rw [K1.out];simp),by repeat (first|exact Below.refl _ _|refine Below.alloc ?_ (by simp<;>omega) _|refine bA ?_ (by simp<;>omega) _ _|refine Below.drew ?_|refine below_drewN ?_ _)⟩
 subst k1;by_cases k2 : y1=c
 case neg=>
  have k2' : (y1 != c) =true:=by simpa using k2
  have K2:=Hid.aD (show (y1 == c) =false by simpa using k2);clear k2 HG HG2 HR Ig;go_enter Tryz.func145,Tryz.ntmps145;go_wp2;go_quiet ((go_at_call 150;exact fI (iG _ _)));go_wp2;go_ret;exact⟨aU (by rw [HE.out];rw [K2.out];simp),by repeat (first|exact Below.refl _ _|refine Below.alloc ?_ (by simp<;>omega) _|refine bA ?_ (by simp<;>omega) _ _|refine Below.drew ?_|refine below_drewN ?_ _)⟩
 subst k2;by_cases k3 : y2=bS y1
 case neg=>
  have pR : (y2 != bS y1) =true:=by simpa using k3
  have K3:=Hid.aD (show (y2 == bS y1) =false by simpa using k3);clear k3 HG HG2 HR Ig;go_enter Tryz.func145,Tryz.ntmps145;go_wp2;go_quiet ((go_at_call 150;exact fI (iG _ _)));go_wp2;go_ret;exact⟨aU (by rw [HE.out];rw [K3.out];simp),by repeat (first|exact Below.refl _ _|refine Below.alloc ?_ (by simp<;>omega) _|refine bA ?_ (by simp<;>omega) _ _|refine Below.drew ?_|refine below_drewN ?_ _)⟩
 subst k3;have HF:=Hid.aD (show iV ⟨bs,cs⟩ p= (jK ((bs.drop (a+3)).take 5) &&iE ⟨bs,cs⟩ p y1 (bS y1).toNat) by rw [HE.out];simp);clear HE;rcases cls hc with rfl|rfl|rfl
 ·have mo : bS 0=4:=rfl
  have Ih : (d_ 0).toNat=12:=rfl;rw [mo] at x2 x2';have sU:=Hid.aD (show iV ⟨bs,cs⟩ p= (jK ((bs.drop (a+3)).take 5) &&iE ⟨bs,cs⟩ p 0 4) from HF.out);clear HF hcb k0;go_enter Tryz.func145,Tryz.ntmps145;go_wp2;go_quiet ((go_at_call 150;exact fI ((iG 0 _).mono fun e w' ⟨u,v⟩ => ⟨by rw [u,mo],v⟩)));generalize hW : World.drewN _ _=w0;have hB0 : Below w.heap.size w w0:=by rw [←hW];repeat (first|exact Below.refl _ _|refine Below.alloc ?_ (by simp<;>omega) _|refine bA ?_ (by simp<;>omega) _ _|refine Below.drew ?_|refine below_drewN ?_ _)
  have q0 : w0.cell? ⟨w.heap.size,0,none⟩ =some (.slice (some ⟨g1,off1,none⟩) bs.length c1) :=by rw [←hW];simp [go_sem]
  have q1 : w0.cell? ⟨w.heap.size,1,none⟩ =some (.slice (some ⟨g2,off2,none⟩) cs.length c2) :=by rw [←hW];simp [go_sem]
  clear hW;clear x0 x1 x2 x1' x2' p0;go_wp2
  go_loop [8] (fun i=> ∃m : Nat,a+3≤m∧m≤a+3+5∧i= .int .i64 m∧Hid (jK ((bs.drop (a+3)).take (m - (a+3))) =true)) (fun i=>a+3+5 - (intOf i).toNat)
  case atStart=>exact⟨a+3,XQ _,by omega,by go_num,Hid.aD (by rw [Nat.sub_self];rfl)⟩
  case round=>
   obtain⟨m,hm1,hm2,rfl,HT⟩ :=hrel;by_cases hlt : m<a+3+5
   ·have ht : decide ((m : Int) < (a : Int) +8) =true:=decide_eq_true (by omega)
    have ht' : (m : Int) < (a : Int) +8:=by omega
    have hmb : m<bs.length:=by omega
    obtain⟨g1',yS,xI,he,_,_,_,hc1⟩ := (hr1.below hB0).at_ (show bs[m]? =some (bs.getD m 0) by rw [getD_at hmb];exact XL hmb);injection he with he1 he2 gq;injection he1 with he1;injection he1 with he1 qP;subst he1 gq qP;have x0 : w0.cell? ⟨g1,off1+m,none⟩ =some (.int .i64 (bs.getD m 0)) :=by simpa [FI] using hc1 0 _ rfl
    clear hc1 he2;have HS:=Hid.aD (fun h0=>vX (b:=bs) hm1 hmb HT.out h0);have kJ:=Hid.aD (fun h0=>yT (b:=bs) (n:=5) hm1 hmb hlt h0);generalize bs.getD m 0=y at x0 HS kJ;by_cases hy : y=0
    ·have HN:=Hid.aD (HS.out hy)
     have hy' : (y != 0) =false:=by simpa using hy
     clear hy;go_wp2
     go_round
     case rel=>exact⟨m+1,by omega,by omega,by go_num,HN⟩
     case measure=>simp [intOf];omega
    ·have HN:=Hid.aD (kJ.out hy)
     have hy' : (y != 0) =true:=by simpa using hy
     clear hy;go_wp2;go_ret;exact⟨aU (by rw [sU.out,HN.out];rfl), (by first|exact hB0|exact hB0.drew|exact below_drewN hB0 _)⟩
   ·obtain rfl : m=a+3+5:=by omega
    have HN:=Hid.aD (show jK ((bs.drop (a+3)).take 5) =true by have u:=HT.out;rwa [show a+3+5 - (a+3) =5 by omega] at u);have ht : decide (((a+3+5 : Nat) : Int) < (a : Int) +8) =false:=decide_eq_false (by omega);clear HT;go_wp2_with (go_at_call 150;refine(iG _ _).mono ?_;rw [mo];rintro e w2 ⟨rfl,rfl⟩);go_loopw [9] (fun i wr=> ∃k : Nat,k≤4∧i= .int .i64 k∧Hid (iE ⟨bs,cs⟩ p 0 k=true) ∧Below w.heap.size w wr∧wr.cell? ⟨w.heap.size,0,none⟩ =some (.slice (some ⟨g1,off1,none⟩) bs.length c1)) (fun i _=>4 - (intOf i).toNat)
    case atStart=>exact⟨0,X3 _,rfl,rfl,hB0,q0⟩
    case round=>
     obtain⟨i,hi,rfl,HT,hB1,r0⟩ :=hrel;clear hB0 q0 q1 hr2;by_cases hlt : i<4
     ·have xJ:=Hid.aD (Ig.out 0 hc i hlt)
      have hroom:=HR.out 0 hc i hlt;rw [Ih] at xJ hroom;have HS:=Hid.aD (show iE ⟨bs,cs⟩ p 0 (i+1) = (iE ⟨bs,cs⟩ p 0 i&&bG 1 7 (jc bs ((a+8+i * 12 : Nat) : Int) 4)) from HG.out 0 i);have kJ:=Hid.aD (show bG 1 7 (jc bs ((a+8+i * 12 : Nat) : Int) 4) =false→iE ⟨bs,cs⟩ p 0 4=false from HG2.out 0 i 4 hlt);have wR : ∀W : World,Calls Tryz.prog 202 #[.int .i64 p, .int .i64 i] W fun e w'=>e= .returned (.int .i64 (l8 p i)) ∧W=w':=fun W=>xY p i W;have tL : ∀W : World,Calls Tryz.prog 158 #[.int .i64 (l8 p i), .int .i64 0] W fun e w'=>e= .returned (.int .i64 ((a+8+i * 12 : Nat) : Int)) ∧W=w':=fun W=> (pK _ 0 W).mono fun e w' ⟨u,v⟩ => ⟨by rw [u,xJ.out],v⟩;have hge : a+8+i * 12+4≤bs.length:=by omega
      have tN : ∀W : World,Below w.heap.size w W→Calls Tryz.prog 109 #[.slice (some ⟨g1,off1,none⟩) bs.length c1, .int .i64 ((a+8+i * 12 : Nat) : Int), .int .i64 4] W fun e w'=>e= .returned (.int .i64 (jc bs ((a+8+i * 12 : Nat) : Int) 4)) ∧W=w':=fun W hW=>uS W _ bs _ 4 (bY hr1 hW) (by omega) (by decide) (by decide) (by omega) hby;generalize jc bs ((a+8+i * 12 : Nat) : Int) 4=z at tN HS kJ;generalize a+8+i * 12=ga at tL tN hge;generalize l8 p i=sl at wR tL;by_cases k5 : bG 1 7 z=true
      ·have HN:=Hid.aD (show iE ⟨bs,cs⟩ p 0 (i+1) =true by rw [HS.out,HT.out,k5];rfl)
       clear HS kJ xJ hroom;go_wp2_with (go_at_call 150;refine(iG _ _).mono ?_;rw [mo];rintro e w2 ⟨rfl,rfl⟩);go_quiet ((first| (go_at_call 202;exact fI (wR _)) | (go_at_call 158;exact fI (tL _)) | (go_at_call 109;exact fI (tN _ (by first|exact hB1|exact hB1.drew|exact below_drewN hB1 _))) | (go_at_call 102;exact fI (dH _ _ _ _))));go_wp2;go_roundw
       case rel=>exact⟨i+1,by omega,by go_num,HN,by first|exact hB1|exact hB1.drew|exact below_drewN hB1 _,by first|exact r0|simpa [go_sem] using r0⟩
       case measure=>simp [intOf];omega
      ·have Av : bG 1 7 z=false:= (XM _).mp k5
       have Na:=Hid.aD (kJ.out Av);clear k5 HS kJ xJ hroom;go_wp2_with (go_at_call 150;refine(iG _ _).mono ?_;rw [mo];rintro e w2 ⟨rfl,rfl⟩);go_quiet ((first| (go_at_call 202;exact fI (wR _)) | (go_at_call 158;exact fI (tL _)) | (go_at_call 109;exact fI (tN _ (by first|exact hB1|exact hB1.drew|exact below_drewN hB1 _))) | (go_at_call 102;exact fI (dH _ _ _ _))));go_wp2;go_ret;exact⟨aU (by rw [sU.out,Na.out];simp),by first|exact hB1|exact hB1.drew|exact below_drewN hB1 _⟩
     ·obtain rfl : i=4:=by omega
      go_wp2_with (go_at_call 150;refine(iG _ _).mono ?_;rw [mo];rintro e w2 ⟨rfl,rfl⟩);go_ret;exact⟨aU (by rw [sU.out,HN.out,HT.out];rfl),by first|exact hB1|exact hB1.drew|exact below_drewN hB1 _⟩
 ·have mo : bS 1=2:=rfl
  have Ih : (d_ 1).toNat=20:=rfl;rw [mo] at x2 x2';have sU:=Hid.aD (show iV ⟨bs,cs⟩ p= (jK ((bs.drop (a+3)).take 5) &&iE ⟨bs,cs⟩ p 1 2) from HF.out);clear HF hcb k0;go_enter Tryz.func145,Tryz.ntmps145;go_wp2;go_quiet ((go_at_call 150;exact fI ((iG 1 _).mono fun e w' ⟨u,v⟩ => ⟨by rw [u,mo],v⟩)));generalize hW : World.drewN _ _=w0;have hB0 : Below w.heap.size w w0:=by rw [←hW];repeat (first|exact Below.refl _ _|refine Below.alloc ?_ (by simp<;>omega) _|refine bA ?_ (by simp<;>omega) _ _|refine Below.drew ?_|refine below_drewN ?_ _)
  have q0 : w0.cell? ⟨w.heap.size,0,none⟩ =some (.slice (some ⟨g1,off1,none⟩) bs.length c1) :=by rw [←hW];simp [go_sem]
  have q1 : w0.cell? ⟨w.heap.size,1,none⟩ =some (.slice (some ⟨g2,off2,none⟩) cs.length c2) :=by rw [←hW];simp [go_sem]
  clear hW;clear x0 x1 x2 x1' x2' p0;go_wp2
  go_loop [8] (fun i=> ∃m : Nat,a+3≤m∧m≤a+3+5∧i= .int .i64 m∧Hid (jK ((bs.drop (a+3)).take (m - (a+3))) =true)) (fun i=>a+3+5 - (intOf i).toNat)
  case atStart=>exact⟨a+3,XQ _,by omega,by go_num,Hid.aD (by rw [Nat.sub_self];rfl)⟩
  case round=>
   obtain⟨m,hm1,hm2,rfl,HT⟩ :=hrel;by_cases hlt : m<a+3+5
   ·have ht : decide ((m : Int) < (a : Int) +8) =true:=decide_eq_true (by omega)
    have ht' : (m : Int) < (a : Int) +8:=by omega
    have hmb : m<bs.length:=by omega
    obtain⟨g1',yS,xI,he,_,_,_,hc1⟩ := (hr1.below hB0).at_ (show bs[m]? =some (bs.getD m 0) by rw [getD_at hmb];exact XL hmb);injection he with he1 he2 gq;injection he1 with he1;injection he1 with he1 qP;subst he1 gq qP;have x0 : w0.cell? ⟨g1,off1+m,none⟩ =some (.int .i64 (bs.getD m 0)) :=by simpa [FI] using hc1 0 _ rfl
    clear hc1 he2;have HS:=Hid.aD (fun h0=>vX (b:=bs) hm1 hmb HT.out h0);have kJ:=Hid.aD (fun h0=>yT (b:=bs) (n:=5) hm1 hmb hlt h0);generalize bs.getD m 0=y at x0 HS kJ;by_cases hy : y=0
    ·have HN:=Hid.aD (HS.out hy)
     have hy' : (y != 0) =false:=by simpa using hy
     clear hy;go_wp2
     go_round
     case rel=>exact⟨m+1,by omega,by omega,by go_num,HN⟩
     case measure=>simp [intOf];omega
    ·have HN:=Hid.aD (kJ.out hy)
     have hy' : (y != 0) =true:=by simpa using hy
     clear hy;go_wp2;go_ret;exact⟨aU (by rw [sU.out,HN.out];rfl), (by first|exact hB0|exact hB0.drew|exact below_drewN hB0 _)⟩
   ·obtain rfl : m=a+3+5:=by omega
    have HN:=Hid.aD (show jK ((bs.drop (a+3)).take 5) =true by have u:=HT.out;rwa [show a+3+5 - (a+3) =5 by omega] at u);have ht : decide (((a+3+5 : Nat) : Int) < (a : Int) +8) =false:=decide_eq_false (by omega);clear HT;go_wp2_with (go_at_call 150;refine(iG _ _).mono ?_;rw [mo];rintro e w2 ⟨rfl,rfl⟩);go_loopw [9] (fun i wr=> ∃k : Nat,k≤2∧i= .int .i64 k∧Hid (iE ⟨bs,cs⟩ p 1 k=true) ∧Below w.heap.size w wr∧wr.cell? ⟨w.heap.size,0,none⟩ =some (.slice (some ⟨g1,off1,none⟩) bs.length c1)) (fun i _=>2 - (intOf i).toNat)
    case atStart=>exact⟨0,X3 _,rfl,rfl,hB0,q0⟩
    case round=>
     obtain⟨i,hi,rfl,HT,hB1,r0⟩ :=hrel;clear hB0 q0 q1 hr2;by_cases hlt : i<2
     ·have xJ:=Hid.aD (Ig.out 1 hc i hlt)
      have hroom:=HR.out 1 hc i hlt;rw [Ih] at xJ hroom;have HS:=Hid.aD (show iE ⟨bs,cs⟩ p 1 (i+1) = (iE ⟨bs,cs⟩ p 1 i&&bG 1 7 (jc bs ((a+8+i * 20 : Nat) : Int) 4)) from HG.out 1 i);have kJ:=Hid.aD (show bG 1 7 (jc bs ((a+8+i * 20 : Nat) : Int) 4) =false→iE ⟨bs,cs⟩ p 1 2=false from HG2.out 1 i 2 hlt);have wR : ∀W : World,Calls Tryz.prog 202 #[.int .i64 p, .int .i64 i] W fun e w'=>e= .returned (.int .i64 (l8 p i)) ∧W=w':=fun W=>xY p i W;have tL : ∀W : World,Calls Tryz.prog 158 #[.int .i64 (l8 p i), .int .i64 1] W fun e w'=>e= .returned (.int .i64 ((a+8+i * 20 : Nat) : Int)) ∧W=w':=fun W=> (pK _ 1 W).mono fun e w' ⟨u,v⟩ => ⟨by rw [u,xJ.out],v⟩;have hge : a+8+i * 20+4≤bs.length:=by omega
      have tN : ∀W : World,Below w.heap.size w W→Calls Tryz.prog 109 #[.slice (some ⟨g1,off1,none⟩) bs.length c1, .int .i64 ((a+8+i * 20 : Nat) : Int), .int .i64 4] W fun e w'=>e= .returned (.int .i64 (jc bs ((a+8+i * 20 : Nat) : Int) 4)) ∧W=w':=fun W hW=>uS W _ bs _ 4 (bY hr1 hW) (by omega) (by decide) (by decide) (by omega) hby;generalize jc bs ((a+8+i * 20 : Nat) : Int) 4=z at tN HS kJ;generalize a+8+i * 20=ga at tL tN hge;generalize l8 p i=sl at wR tL;by_cases k5 : bG 1 7 z=true
      ·have HN:=Hid.aD (show iE ⟨bs,cs⟩ p 1 (i+1) =true by rw [HS.out,HT.out,k5];rfl)
       clear HS kJ xJ hroom;go_wp2_with (go_at_call 150;refine(iG _ _).mono ?_;rw [mo];rintro e w2 ⟨rfl,rfl⟩);go_quiet ((first| (go_at_call 202;exact fI (wR _)) | (go_at_call 158;exact fI (tL _)) | (go_at_call 109;exact fI (tN _ (by first|exact hB1|exact hB1.drew|exact below_drewN hB1 _))) | (go_at_call 102;exact fI (dH _ _ _ _))));go_wp2;go_roundw
       case rel=>exact⟨i+1,by omega,by go_num,HN,by first|exact hB1|exact hB1.drew|exact below_drewN hB1 _,by first|exact r0|simpa [go_sem] using r0⟩
       case measure=>simp [intOf];omega
      ·have Av : bG 1 7 z=false:= (XM _).mp k5
       have Na:=Hid.aD (kJ.out Av);clear k5 HS kJ xJ hroom;go_wp2_with (go_at_call 150;refine(iG _ _).mono ?_;rw [mo];rintro e w2 ⟨rfl,rfl⟩);go_quiet ((first| (go_at_call 202;exact fI (wR _)) | (go_at_call 158;exact fI (tL _)) | (go_at_call 109;exact fI (tN _ (by first|exact hB1|exact hB1.drew|exact below_drewN hB1 _))) | (go_at_call 102;exact fI (dH _ _ _ _))));go_wp2;go_ret;exact⟨aU (by rw [sU.out,Na.out];simp),by first|exact hB1|exact hB1.drew|exact below_drewN hB1 _⟩
     ·obtain rfl : i=2:=by omega
      go_wp2_with (go_at_call 150;refine(iG _ _).mono ?_;rw [mo];rintro e w2 ⟨rfl,rfl⟩);go_ret;exact⟨aU (by rw [sU.out,HN.out,HT.out];rfl),by first|exact hB1|exact hB1.drew|exact below_drewN hB1 _⟩
 ·have mo : bS 2=1:=rfl
  have Ih : (d_ 2).toNat=44:=rfl;rw [mo] at x2 x2';have sU:=Hid.aD (show iV ⟨bs,cs⟩ p= (jK ((bs.drop (a+3)).take 5) &&iE ⟨bs,cs⟩ p 2 1) from HF.out);clear HF hcb k0;go_enter Tryz.func145,Tryz.ntmps145;go_wp2;go_quiet ((go_at_call 150;exact fI ((iG 2 _).mono fun e w' ⟨u,v⟩ => ⟨by rw [u,mo],v⟩)));generalize hW : World.drewN _ _=w0;have hB0 : Below w.heap.size w w0:=by rw [←hW];repeat (first|exact Below.refl _ _|refine Below.alloc ?_ (by simp<;>omega) _|refine bA ?_ (by simp<;>omega) _ _|refine Below.drew ?_|refine below_drewN ?_ _)
  have q0 : w0.cell? ⟨w.heap.size,0,none⟩ =some (.slice (some ⟨g1,off1,none⟩) bs.length c1) :=by rw [←hW];simp [go_sem]
  have q1 : w0.cell? ⟨w.heap.size,1,none⟩ =some (.slice (some ⟨g2,off2,none⟩) cs.length c2) :=by rw [←hW];simp [go_sem]
  clear hW;clear x0 x1 x2 x1' x2' p0;go_wp2
  go_loop [8] (fun i=> ∃m : Nat,a+3≤m∧m≤a+3+5∧i= .int .i64 m∧Hid (jK ((bs.drop (a+3)).take (m - (a+3))) =true)) (fun i=>a+3+5 - (intOf i).toNat)
  case atStart=>exact⟨a+3,XQ _,by omega,by go_num,Hid.aD (by rw [Nat.sub_self];rfl)⟩
  case round=>
   obtain⟨m,hm1,hm2,rfl,HT⟩ :=hrel;by_cases hlt : m<a+3+5
   ·have ht : decide ((m : Int) < (a : Int) +8) =true:=decide_eq_true (by omega)
    have ht' : (m : Int) < (a : Int) +8:=by omega
    have hmb : m<bs.length:=by omega
    obtain⟨g1',yS,xI,he,_,_,_,hc1⟩ := (hr1.below hB0).at_ (show bs[m]? =some (bs.getD m 0) by rw [getD_at hmb];exact XL hmb);injection he with he1 he2 gq;injection he1 with he1;injection he1 with he1 qP;subst he1 gq qP;have x0 : w0.cell? ⟨g1,off1+m,none⟩ =some (.int .i64 (bs.getD m 0)) :=by simpa [FI] using hc1 0 _ rfl
    clear hc1 he2;have HS:=Hid.aD (fun h0=>vX (b:=bs) hm1 hmb HT.out h0);have kJ:=Hid.aD (fun h0=>yT (b:=bs) (n:=5) hm1 hmb hlt h0);generalize bs.getD m 0=y at x0 HS kJ;by_cases hy : y=0
    ·have HN:=Hid.aD (HS.out hy)
     have hy' : (y != 0) =false:=by simpa using hy
     clear hy;go_wp2
     go_round
     case rel=>exact⟨m+1,by omega,by omega,by go_num,HN⟩
     case measure=>simp [intOf];omega
    ·have HN:=Hid.aD (kJ.out hy)
     have hy' : (y != 0) =true:=by simpa using hy
     clear hy;go_wp2;go_ret;exact⟨aU (by rw [sU.out,HN.out];rfl), (by first|exact hB0|exact hB0.drew|exact below_drewN hB0 _)⟩
   ·obtain rfl : m=a+3+5:=by omega
    have HN:=Hid.aD (show jK ((bs.drop (a+3)).take 5) =true by have u:=HT.out;rwa [show a+3+5 - (a+3) =5 by omega] at u);have ht : decide (((a+3+5 : Nat) : Int) < (a : Int) +8) =false:=decide_eq_false (by omega);clear HT;go_wp2_with (go_at_call 150;refine(iG _ _).mono ?_;rw [mo];rintro e w2 ⟨rfl,rfl⟩);go_loopw [9] (fun i wr=> ∃k : Nat,k≤1∧i= .int .i64 k∧Hid (iE ⟨bs,cs⟩ p 2 k=true) ∧Below w.heap.size w wr∧wr.cell? ⟨w.heap.size,0,none⟩ =some (.slice (some ⟨g1,off1,none⟩) bs.length c1)) (fun i _=>1 - (intOf i).toNat)
    case atStart=>exact⟨0,X3 _,rfl,rfl,hB0,q0⟩
    case round=>
     obtain⟨i,hi,rfl,HT,hB1,r0⟩ :=hrel;clear hB0 q0 q1 hr2;by_cases hlt : i<1
     ·have xJ:=Hid.aD (Ig.out 2 hc i hlt)
      have hroom:=HR.out 2 hc i hlt;rw [Ih] at xJ hroom;have HS:=Hid.aD (show iE ⟨bs,cs⟩ p 2 (i+1) = (iE ⟨bs,cs⟩ p 2 i&&bG 1 7 (jc bs ((a+8+i * 44 : Nat) : Int) 4)) from HG.out 2 i);have kJ:=Hid.aD (show bG 1 7 (jc bs ((a+8+i * 44 : Nat) : Int) 4) =false→iE ⟨bs,cs⟩ p 2 1=false from HG2.out 2 i 1 hlt);have wR : ∀W : World,Calls Tryz.prog 202 #[.int .i64 p, .int .i64 i] W fun e w'=>e= .returned (.int .i64 (l8 p i)) ∧W=w':=fun W=>xY p i W;have tL : ∀W : World,Calls Tryz.prog 158 #[.int .i64 (l8 p i), .int .i64 2] W fun e w'=>e= .returned (.int .i64 ((a+8+i * 44 : Nat) : Int)) ∧W=w':=fun W=> (pK _ 2 W).mono fun e w' ⟨u,v⟩ => ⟨by rw [u,xJ.out],v⟩;have hge : a+8+i * 44+4≤bs.length:=by omega
      have tN : ∀W : World,Below w.heap.size w W→Calls Tryz.prog 109 #[.slice (some ⟨g1,off1,none⟩) bs.length c1, .int .i64 ((a+8+i * 44 : Nat) : Int), .int .i64 4] W fun e w'=>e= .returned (.int .i64 (jc bs ((a+8+i * 44 : Nat) : Int) 4)) ∧W=w':=fun W hW=>uS W _ bs _ 4 (bY hr1 hW) (by omega) (by decide) (by decide) (by omega) hby;generalize jc bs ((a+8+i * 44 : Nat) : Int) 4=z at tN HS kJ;generalize a+8+i * 44=ga at tL tN hge;generalize l8 p i=sl at wR tL;by_cases k5 : bG 1 7 z=true
      ·have HN:=Hid.aD (show iE ⟨bs,cs⟩ p 2 (i+1) =true by rw [HS.out,HT.out,k5];rfl)
       clear HS kJ xJ hroom;go_wp2_with (go_at_call 150;refine(iG _ _).mono ?_;rw [mo];rintro e w2 ⟨rfl,rfl⟩);go_quiet ((first| (go_at_call 202;exact fI (wR _)) | (go_at_call 158;exact fI (tL _)) | (go_at_call 109;exact fI (tN _ (by first|exact hB1|exact hB1.drew|exact below_drewN hB1 _))) | (go_at_call 102;exact fI (dH _ _ _ _))));go_wp2;go_roundw
       case rel=>exact⟨i+1,by omega,by go_num,HN,by first|exact hB1|exact hB1.drew|exact below_drewN hB1 _,by first|exact r0|simpa [go_sem] using r0⟩
       case measure=>simp [intOf];omega
      ·have Av : bG 1 7 z=false:= (XM _).mp k5
       have Na:=Hid.aD (kJ.out Av);clear k5 HS kJ xJ hroom;go_wp2_with (go_at_call 150;refine(iG _ _).mono ?_;rw [mo];rintro e w2 ⟨rfl,rfl⟩);go_quiet ((first| (go_at_call 202;exact fI (wR _)) | (go_at_call 158;exact fI (tL _)) | (go_at_call 109;exact fI (tN _ (by first|exact hB1|exact hB1.drew|exact below_drewN hB1 _))) | (go_at_call 102;exact fI (dH _ _ _ _))));go_wp2;go_ret;exact⟨aU (by rw [sU.out,Na.out];simp),by first|exact hB1|exact hB1.drew|exact below_drewN hB1 _⟩
     ·obtain rfl : i=1:=by omega
      go_wp2_with (go_at_call 150;refine(iG _ _).mono ?_;rw [mo];rintro e w2 ⟨rfl,rfl⟩);go_ret;exact⟨aU (by rw [sU.out,HN.out,HT.out];rfl),by first|exact hB1|exact hB1.drew|exact below_drewN hB1 _⟩
theorem Kg (w : World)(H : eX)(x : Heap)(h : iW w w.heap.size H x) :
  Calls Tryz.prog 140 #[.agg #[.slice H.Y.a H.Y.l H.Y.c, .slice H.Z.a H.Z.l H.Z.c]] w fun e w'=>e= .returned (.bool (jD x)) ∧Below w.heap.size w w':=by
 obtain⟨⟨A1,n1,c1⟩, ⟨A2,n2,c2⟩⟩ :=H;obtain⟨bs,cs⟩ :=x;have hr1 : dX FI w w.heap.size (.slice A1 n1 c1) bs:=h.Y;have hr2 : dX FI w w.heap.size (.slice A2 n2 c2) cs:=h.Z;obtain⟨_,_,hv,q1,q2,qx⟩ :=id hr1;simp only [Ya] at hv;obtain⟨rfl,rfl,rfl⟩ :=hv;have hlt1 : bs.length≤9223372036854775807:=by unfold maxLen at q2;omega
 clear q1 q2 qx;obtain⟨_,_,hv,q1,q2,qx⟩ :=id hr2;simp only [Ya] at hv;obtain⟨rfl,rfl,rfl⟩ :=hv;have hlt2 : cs.length≤9223372036854775807:=by unfold maxLen at q2;omega
 clear q1 q2 qx h;have HE:=Hid.aD (show jD ⟨bs,cs⟩ = (fJ ⟨bs,cs⟩ && (List.range 6).all (iV ⟨bs,cs⟩)) from rfl);show Calls Tryz.prog 140 #[.agg #[.slice A1 bs.length c1, .slice A2 cs.length c2]] _ _;by_cases hs : fJ ⟨bs,cs⟩ =true
 case neg=>
  have HT:=Hid.aD ((XM _).mp hs);clear hs;go_enter Tryz.func140,Tryz.ntmps140;go_wp2_with (go_at_call 195;refine(uT _ ⟨⟨A1,bs.length,c1⟩, ⟨A2,cs.length,c2⟩⟩ ⟨bs,cs⟩ ⟨bY hr1 cO,bY hr2 cO⟩).mono ?_;rw [HT.out];rintro e w1 ⟨rfl,hb1⟩;obtain⟨os1,d1,rfl⟩ :=bN hb1;clear hb1);go_ret;exact⟨aU (by rw [HE.out,HT.out];rfl),by repeat (first|exact Below.refl _ _|refine Below.alloc ?_ (by simp<;>omega) _|refine bA ?_ (by simp<;>omega) _ _|refine Below.drew ?_|refine below_drewN ?_ _)⟩
 have HS:=Hid.aD hs;clear hs;go_enter Tryz.func140,Tryz.ntmps140;go_wp2_with fail;refine(uT _ ⟨⟨A1,bs.length,c1⟩, ⟨A2,cs.length,c2⟩⟩ ⟨bs,cs⟩ ⟨bY hr1 cO,bY hr2 cO⟩).mono ?_;rw [HS.out];rintro e w1 ⟨rfl,hb1⟩;have q0 : w1.cell? ⟨w.heap.size,0,none⟩ =some (.slice A1 bs.length c1) :=aZ hb1 (by simp<;>omega) (by simp [go_sem]);have q1 : w1.cell? ⟨w.heap.size,1,none⟩ =some (.slice A2 cs.length c2) :=aZ hb1 (by simp<;>omega) (by simp [go_sem]);have hB1 : Below w.heap.size w w1:=Below.trans cO (hb1.mono (by simp));have z1 : w.heap.size<w1.heap.size:=by have:=hb1.size;simp at this;omega
 clear hb1;go_wp2;go_loopw [3,7] (fun _ i wr=> ∃k : Nat,k≤6∧i= .int .i64 k∧Hid ((List.range k).all (iV ⟨bs,cs⟩) =true) ∧Below w.heap.size w wr∧wr.cell? ⟨w.heap.size,0,none⟩ =some (.slice A1 bs.length c1) ∧wr.cell? ⟨w.heap.size,1,none⟩ =some (.slice A2 cs.length c2) ∧w.heap.size<wr.heap.size) (fun _ i _=>6 - (intOf i).toNat)
 case atStart=>exact⟨0,X3 _,rfl,rfl,hB1,q0,q1,z1⟩
 case round=>
  obtain⟨i,hi,rfl,HT,hb,r0,r1,hz⟩ :=hrel;clear q0 q1 hB1 z1;by_cases hlt : i<6
  ·have HX:=Hid.aD (show (List.range (i+1)).all (iV ⟨bs,cs⟩) =iV ⟨bs,cs⟩ i by rw [List.range_succ,List.all_append,HT.out];simp)
   by_cases k1 : iV ⟨bs,cs⟩ i=true
   ·have HK:=Hid.aD k1
    clear k1;go_wp2_with (go_at_call 196;refine(Cj _ ⟨⟨A1,bs.length,c1⟩, ⟨A2,cs.length,c2⟩⟩ ⟨bs,cs⟩ i hlt ⟨bY hr1 hb,bY hr2 hb⟩ HS.out).mono ?_;rw [HK.out];rintro e w2 ⟨rfl,hb2⟩);go_roundw
    case rel=>exact⟨i+1,by omega,by go_num,Hid.aD (by rw [HX.out,HK.out]),hb.trans (hb2.mono hb.size),aZ hb2 hz r0,aZ hb2 hz r1,XO hz hb2.size⟩
    case measure=>simp [intOf];omega
   ·have HK:=Hid.aD ((XM _).mp k1)
    have HN:=Hid.aD (show (List.range 6).all (iV ⟨bs,cs⟩) =false from List.all_eq_false.2 ⟨i,List.mem_range.2 hlt,by rw [HK.out];decide⟩);clear k1;go_wp2_with (go_at_call 196;refine(Cj _ ⟨⟨A1,bs.length,c1⟩, ⟨A2,cs.length,c2⟩⟩ ⟨bs,cs⟩ i hlt ⟨bY hr1 hb,bY hr2 hb⟩ HS.out).mono ?_;rw [HK.out];rintro e w2 ⟨rfl,hb2⟩);go_ret;exact⟨aU (by rw [HE.out,HN.out];simp),hb.trans (hb2.mono hb.size)⟩
  ·obtain rfl : i=6:=by omega
   go_wp2;go_ret;exact⟨aU (by rw [HE.out,HT.out,HS.out];rfl),hb⟩
theorem Cm (w : World)(H : eX)(x : Heap)(h : iW w w.heap.size H x) :
  Calls Tryz.prog 72 #[.agg #[.slice H.Y.a H.Y.l H.Y.c, .slice H.Z.a H.Z.l H.Z.c]] w fun e w'=>e= .returned (.bool (jD x)) ∧Below w.heap.size w w':=by
 obtain⟨⟨A1,n1,c1⟩, ⟨A2,n2,c2⟩⟩ :=H;obtain⟨bs,cs⟩ :=x;have hr1 : dX FI w w.heap.size (.slice A1 n1 c1) bs:=h.Y;have hr2 : dX FI w w.heap.size (.slice A2 n2 c2) cs:=h.Z;obtain⟨_,_,hv,q1,q2,qx⟩ :=id hr1;simp only [Ya] at hv;obtain⟨rfl,rfl,rfl⟩ :=hv;have hlt1 : bs.length≤9223372036854775807:=by unfold maxLen at q2;omega
 clear q1 q2 qx;obtain⟨_,_,hv,q1,q2,qx⟩ :=id hr2;simp only [Ya] at hv;obtain⟨rfl,rfl,rfl⟩ :=hv;have hlt2 : cs.length≤9223372036854775807:=by unfold maxLen at q2;omega
 clear q1 q2 qx h;have HE:=Hid.aD (show jD ⟨bs,cs⟩ = (fJ ⟨bs,cs⟩ && (List.range 6).all (iV ⟨bs,cs⟩)) from rfl);show Calls Tryz.prog 72 #[.agg #[.slice A1 bs.length c1, .slice A2 cs.length c2]] _ _;by_cases hs : fJ ⟨bs,cs⟩ =true
 case neg=>
  have HT:=Hid.aD ((XM _).mp hs);clear hs;go_enter Tryz.func72,Tryz.ntmps72;go_wp2_with (go_at_call 76;refine(wQ _ ⟨⟨A1,bs.length,c1⟩, ⟨A2,cs.length,c2⟩⟩ ⟨bs,cs⟩ ⟨bY hr1 cO,bY hr2 cO⟩).mono ?_;rw [HT.out];rintro e w1 ⟨rfl,hb1⟩;obtain⟨os1,d1,rfl⟩ :=bN hb1;clear hb1);go_ret;exact⟨aU (by rw [HE.out,HT.out];rfl),by repeat (first|exact Below.refl _ _|refine Below.alloc ?_ (by simp<;>omega) _|refine bA ?_ (by simp<;>omega) _ _|refine Below.drew ?_|refine below_drewN ?_ _)⟩
 have HS:=Hid.aD hs;clear hs;go_enter Tryz.func72,Tryz.ntmps72;go_wp2_with fail;refine(wQ _ ⟨⟨A1,bs.length,c1⟩, ⟨A2,cs.length,c2⟩⟩ ⟨bs,cs⟩ ⟨bY hr1 cO,bY hr2 cO⟩).mono ?_;rw [HS.out];rintro e w1 ⟨rfl,hb1⟩;have q0 : w1.cell? ⟨w.heap.size,0,none⟩ =some (.slice A1 bs.length c1) :=aZ hb1 (by simp<;>omega) (by simp [go_sem]);have q1 : w1.cell? ⟨w.heap.size,1,none⟩ =some (.slice A2 cs.length c2) :=aZ hb1 (by simp<;>omega) (by simp [go_sem]);have hB1 : Below w.heap.size w w1:=Below.trans cO (hb1.mono (by simp));have z1 : w.heap.size<w1.heap.size:=by have:=hb1.size;simp at this;omega
 clear hb1;go_wp2;go_loopw [3] (fun i wr=> ∃k : Nat,k≤6∧i= .int .i64 k∧Hid ((List.range k).all (iV ⟨bs,cs⟩) =true) ∧Below w.heap.size w wr∧wr.cell? ⟨w.heap.size,0,none⟩ =some (.slice A1 bs.length c1) ∧wr.cell? ⟨w.heap.size,1,none⟩ =some (.slice A2 cs.length c2) ∧w.heap.size<wr.heap.size) (fun i _=>6 - (intOf i).toNat)
 case atStart=>exact⟨0,X3 _,rfl,rfl,hB1,q0,q1,z1⟩
 case round=>
  obtain⟨i,hi,rfl,HT,hb,r0,r1,hz⟩ :=hrel;clear q0 q1 hB1 z1;by_cases hlt : i<6
  ·have HX:=Hid.aD (show (List.range (i+1)).all (iV ⟨bs,cs⟩) =iV ⟨bs,cs⟩ i by rw [List.range_succ,List.all_append,HT.out];simp)
   by_cases k1 : iV ⟨bs,cs⟩ i=true
   ·have HK:=Hid.aD k1
    clear k1;go_wp2_with (go_at_call 145;refine(Ck _ ⟨⟨A1,bs.length,c1⟩, ⟨A2,cs.length,c2⟩⟩ ⟨bs,cs⟩ i hlt ⟨bY hr1 hb,bY hr2 hb⟩ HS.out).mono ?_;rw [HK.out];rintro e w2 ⟨rfl,hb2⟩);go_roundw
    case rel=>exact⟨i+1,by omega,by go_num,Hid.aD (by rw [HX.out,HK.out]),hb.trans (hb2.mono hb.size),aZ hb2 hz r0,aZ hb2 hz r1,XO hz hb2.size⟩
    case measure=>simp [intOf];omega
   ·have HK:=Hid.aD ((XM _).mp k1)
    have HN:=Hid.aD (show (List.range 6).all (iV ⟨bs,cs⟩) =false from List.all_eq_false.2 ⟨i,List.mem_range.2 hlt,by rw [HK.out];decide⟩);clear k1;go_wp2_with (go_at_call 145;refine(Ck _ ⟨⟨A1,bs.length,c1⟩, ⟨A2,cs.length,c2⟩⟩ ⟨bs,cs⟩ i hlt ⟨bY hr1 hb,bY hr2 hb⟩ HS.out).mono ?_;rw [HK.out];rintro e w2 ⟨rfl,hb2⟩);go_ret;exact⟨aU (by rw [HE.out,HN.out];simp),hb.trans (hb2.mono hb.size)⟩
  ·obtain rfl : i=6:=by omega
   go_wp2;go_ret;exact⟨aU (by rw [HE.out,HT.out,HS.out];rfl),hb⟩
theorem Tryz.stInt : ST Tryz.prog FI 24 3:= ⟨Tryz.underlying24, .int .i64 0,8,by kernel_rfl,rfl,by decide⟩
theorem Kh (w : World)(v : Value)(l : List Int)(x : Int)(h : dX FI w w.heap.size v l) :
  Calls Tryz.prog 207 #[v, .int .i64 x] w fun e w'=>e= .returned (.int .i64 (idxOf (fun y=>y == x) l)) ∧w=w':=by
 obtain⟨A,c,hv,q1,q2,_⟩ :=id h;have kT : l.length≤9223372036854775807:=by unfold maxLen at q2;omega
 subst hv;clear q1 q2;go_enter Tryz.func207,Tryz.ntmps207;go_wp2
 go_loop [5,8] (fun _ i=> ∃i' : Nat,i'≤l.length∧i= .int .i64 i'∧Hid ((l.take i').any (fun y=>y == x) =false)) (fun _ i=>l.length - (intOf i).toNat)
 case atStart=>exact⟨0,X3 _,rfl,rfl⟩
 case round=>
  obtain⟨i,hi,rfl,HN⟩ :=hrel;by_cases hlt : i<l.length
  ·obtain⟨g,off,cap',he,hg,_,_,hc⟩ :=h.at_ (XL hlt)
   injection he with he1 he2 gq;clear he2;subst he1 gq;have p0 : w.cell? ⟨g,off+i,none⟩ =some (.int .i64 l[i]) :=by simpa [FI] using hc 0 _ rfl
   clear hc h;by_cases hp : x=l[i]
   ·have HP:=Hid.aD (idxOf_hit (fun y=>y == x) l i hlt HN.out (by simp [hp]))
    have hp' : (x == l[i]) =true:=by simpa using hp
    clear hp;go_wp2;go_ret;exact⟨cB HP.out.symm,rfl⟩
   ·have HP:=Hid.aD (any_take_succ (fun y=>y == x) l i hlt HN.out (by simpa using fun e=>hp e.symm))
    have hp' : (x == l[i]) =false:=by simpa using hp
    clear hp;go_wp2
    go_round
    case rel=>exact⟨i+1,by omega,by go_num,HP⟩
    case measure=>simp [intOf];omega
  ·go_wp2
   go_ret;obtain rfl : i=l.length:=by omega
   exact⟨cB (mF _ l (by simpa using HN.out)).symm,rfl⟩
theorem Fe (w : World)(v : Value)(l : List Int)(x : Int)(h : dX FI w w.heap.size v l) :
  Calls Tryz.prog 199 #[v, .int .i64 x] w fun e w'=>e= .returned (.bool (l.any fun y=>y == x)) ∧w=w':=by
 go_enter Tryz.func199,Tryz.ntmps199;go_wp2_with fail;refine(Kh w v l x h).mono ?_;rintro e w1 ⟨rfl,rfl⟩;have HP:=Hid.aD (og (fun y=>y == x) l);go_wp2;go_ret;exact⟨aU HP.out,rfl⟩
theorem Fg (w : World)(v : Value)(t : List SV)(ll : List (List Int))(h : ig FI w w.heap.size v t ll)(fid : FuncId)(cap : Array Value)(p : List Int→Bool)(hent : ∀ (A : Option Addr) (n c : Nat) (W : World), (callFunc fid (#[.agg #[.slice A n c]]++cap)).run Tryz.prog W= .ok (.enter fid (#[.agg #[.slice A n c]]++cap)) W)(hf : ∀ (A : Option Addr) (c : Nat) (l : List Int) (W : World),Below w.heap.size w W→dX FI W W.heap.size (.slice A l.length c) l→Calls Tryz.prog fid (#[.agg #[.slice A l.length c]]++cap) W fun e W'=>e= .returned (.bool (p l)) ∧Below W.heap.size W W') :
  Calls Tryz.prog 230 #[v, .func (.func fid) #[] cap] w fun e w'=>e= .returned (.int .i64 (idxOf p ll)) ∧Below w.heap.size w w':=by
 obtain⟨A,c,hv,_⟩ :=id h.outer;subst hv;obtain⟨en,hcap,hmx⟩ :=h.len';have kT : ll.length≤9223372036854775807:=by unfold maxLen at hmx;omega
 rw [en] at h⊢;clear en hcap hmx;have HF:=Hid.aD hf;clear hf;go_enter Tryz.func230,Tryz.ntmps230;go_wp2;go_loopw [5,8] (fun _ i wr=> ∃i' : Nat,i'≤ll.length∧i= .int .i64 i'∧Below w.heap.size w wr∧ (ll.take i').any p=false) (fun _ i _=>ll.length - (intOf i).toNat)
 case atStart=>exact⟨0,X3 _,rfl,Below.refl _ _,rfl⟩
 case round=>
  obtain⟨i,hi,rfl,hb,hno⟩ :=hrel;have HN:=Hid.aD hno;clear hno;by_cases hlt : i<ll.length
  ·obtain⟨g,o,A',c',rfl,hg,p0,r1⟩ :=h.row hb hlt
   clear h;go_wp2_with fail;refine(HF.out A' c' ll[i] wr hb (bY r1 hb)).mono ?_;rintro e w1 ⟨rfl,hb1⟩;have hb2:=hb.trans (hb1.mono hb.size);by_cases hp : p ll[i]=true
   ·have HP:=Hid.aD (idxOf_hit p ll i hlt HN.out hp)
    rw [hp];clear hp;go_wp2;go_ret;exact⟨cB HP.out.symm,hb2⟩
   ·have hp' : p ll[i]=false:=by simpa using hp
    have HP:=Hid.aD (any_take_succ p ll i hlt HN.out hp');rw [hp'];clear hp hp';go_wp2;go_roundw
    case rel=>exact⟨i+1,by omega,by go_num,hb2,HP.out⟩
    case measure=>simp [intOf];omega
  ·go_wp2
   go_ret;obtain rfl : i=ll.length:=by omega
   exact⟨cB (mF p ll (by simpa using HN.out)).symm,hb⟩
theorem vQ (w : World)(v : Value)(t : List SV)(ll : List (List Int))(h : ig FI w w.heap.size v t ll)(fid : FuncId)(cap : Array Value)(p : List Int→Bool)(hent : ∀ (A : Option Addr) (n c : Nat) (W : World), (callFunc fid (#[.agg #[.slice A n c]]++cap)).run Tryz.prog W= .ok (.enter fid (#[.agg #[.slice A n c]]++cap)) W)(hf : ∀ (A : Option Addr) (c : Nat) (l : List Int) (W : World),Below w.heap.size w W→dX FI W W.heap.size (.slice A l.length c) l→Calls Tryz.prog fid (#[.agg #[.slice A l.length c]]++cap) W fun e W'=>e= .returned (.bool (p l)) ∧Below W.heap.size W W') :
  Calls Tryz.prog 200 #[v, .func (.func fid) #[] cap] w fun e w'=>e= .returned (.bool (ll.any p)) ∧Below w.heap.size w w':=by
 have HF:=Hid.aD hf;clear hf;go_enter Tryz.func200,Tryz.ntmps200;go_wp2_with fail;refine(Fg w v t ll h fid cap p hent HF.out).mono ?_;rintro e w1 ⟨rfl,hb1⟩;have HP:=Hid.aD (og p ll);go_wp2;go_ret;exact⟨aU HP.out,hb1⟩
theorem uI (w : World)(v : Value)(z : List Int)(x : Int)(h : dX FI w w.heap.size v z) :
  Calls Tryz.prog 122 #[v, .int .i64 x] w fun e w'=>e= .returned (.bool (z.any fun y=>y == x)) ∧Below w.heap.size w w':=by
 obtain⟨A,c,hv,q1,q2,_⟩ :=id h;have kT : z.length≤9223372036854775807:=by unfold maxLen at q2;omega
 subst hv;clear q1 q2;go_enter Tryz.func122,Tryz.ntmps122;go_wp2;go_loopw [5] (fun i wr=> ∃k : Nat,k≤z.length∧i= .int .i64 k∧Below w.heap.size w wr∧ (z.take k).any (fun y=>y == x) =false) (fun i _=>z.length - (intOf i).toNat)
 case atStart=>exact⟨0,X3 _,rfl,Below.refl _ _,rfl⟩
 case round=>
  obtain⟨i,hi,rfl,hb,hno⟩ :=hrel;have HN:=Hid.aD hno;clear hno;by_cases hlt : i<z.length
  ·obtain⟨g,off,cap',he,hg,_,_,hc⟩ := (h.below hb).at_ (XL hlt)
   injection he with he1 he2 gq;clear he2;subst he1 gq;have p0 : wr.cell? ⟨g,off+i,none⟩ =some (.int .i64 z[i]) :=by simpa [FI] using hc 0 _ rfl
   clear hc h;by_cases hz : z[i]=x
   ·have hz1 : (z[i] == x) =true:=by simpa using hz
    have HP:=Hid.aD (show (z.any fun y=>y == x) =true from List.any_eq_true.2 ⟨z[i],X0 hlt,hz1⟩);clear hz;go_wp2;go_ret;exact⟨aU HP.out.symm,hb⟩
   ·have hz1 : (z[i] == x) =false:=by simpa using hz
    have HP:=Hid.aD (any_take_succ (fun y=>y == x) z i hlt HN.out hz1);clear hz;go_wp2;go_roundw
    case rel=>exact⟨i+1,by omega,by go_num,hb,HP.out⟩
    case measure=>simp [intOf];omega
  ·go_wp2
   go_ret;obtain rfl : i=z.length:=by omega
   exact⟨aU (by simpa using HN.out.symm),hb⟩
def mP (l : Lists)(s : Int) : Bool:= (l.G.any fun r=>r.any fun y=>y == s) || (l.O.any fun r=>r.any fun y=>y == s)
theorem tQ {α : Type}(p : α→Bool)(ll : List (List α)) : ll.flatten.any p=ll.any fun l=>l.any p:=by
 induction ll with
 |nil=>rfl
 |cons a l ih=>simp [ih]
def iR (l : Lists) : List Int:=l.G.flatten++l.O.flatten
theorem Cn (l : Lists)(s : Int) : mP l s= (iR l).any fun y=>y == s:=by
 unfold mP iR;rw [List.any_append,tQ,tQ]
theorem Aw (A : Option Addr)(c : Nat)(l : List Int)(slot : Int)(b : Nat)(w : World)(h : dX FI w w.heap.size (.slice A l.length c) l)(h0 : w.cell? ⟨b,0,none⟩ =some (.int .i64 slot))(hb : b<w.heap.size) :
  Calls Tryz.prog 198 #[.agg #[.slice A l.length c], .pointer (some ⟨b,0,none⟩)] w fun e w'=>e= .returned (.bool (l.any fun y=>y == slot)) ∧Below w.heap.size w w':=by
 go_enter Tryz.func198,Tryz.ntmps198;go_wp2_with fail;refine(Fe _ _ l slot (bY h cO)).mono ?_;rintro e w1 ⟨rfl,rfl⟩;go_wp2;go_ret;exact⟨rfl,by repeat (first|exact Below.refl _ _|refine Below.alloc ?_ (by simp<;>omega) _|refine bA ?_ (by simp<;>omega) _ _|refine Below.drew ?_|refine below_drewN ?_ _)⟩
theorem Ki (w : World)(H : bF)(x : Lists)(s : Int)(h : jC w w.heap.size H x) :
  Calls Tryz.prog 143 #[.agg #[.slice H.G.a H.G.l H.G.c, .slice H.O.a H.O.l H.O.c], .int .i64 s] w fun e w'=>e= .returned (.bool (mP x s)) ∧Below w.heap.size w w':=by
 obtain⟨⟨A1,n1,c1⟩,T1, ⟨A2,n2,c2⟩,T2⟩ :=H;obtain⟨gl,ow⟩ :=x;have hr1 : ig FI w w.heap.size (.slice A1 n1 c1) T1 gl:=h.G;have hr2 : ig FI w w.heap.size (.slice A2 n2 c2) T2 ow:=h.O;obtain⟨wS,_,hmx⟩ :=hr1.len';have hlt1 : gl.length≤9223372036854775807:=by unfold maxLen at hmx;omega
 clear hmx;obtain⟨wT,_,hmx⟩ :=hr2.len';have hlt2 : ow.length≤9223372036854775807:=by unfold maxLen at hmx;omega
 clear hmx h;subst wS wT;have HE:=Hid.aD (show mP ⟨gl,ow⟩ s= ((gl.any fun r=>r.any fun y=>y == s) || (ow.any fun r=>r.any fun y=>y == s)) from rfl);show Calls Tryz.prog 143 #[.agg #[.slice A1 gl.length c1, .slice A2 ow.length c2], .int .i64 s] _ _;go_enter Tryz.func143,Tryz.ntmps143;go_wp2_with fail;refine(vQ _ _ T1 gl (kY hr1 cO) 198 #[.pointer (some ⟨w.heap.size+1,0,none⟩)] (fun l=>l.any fun y=>y == s) (fun _ _ _ _=>by kernel_rfl) (fun A c l W hW hr=>Aw A c l s (w.heap.size+1) W hr ((hW.cell (p:= ⟨w.heap.size+1,0,none⟩) (by simp)).trans (by simp [go_sem])) (by have:=hW.size;simp at this;omega))).mono ?_;rintro e w1 ⟨rfl,hb1⟩;have q0 : w1.cell? ⟨w.heap.size,0,none⟩ =some (.slice A1 gl.length c1) :=aZ hb1 (by simp<;>omega) (by simp [go_sem]);have q1 : w1.cell? ⟨w.heap.size,1,none⟩ =some (.slice A2 ow.length c2) :=aZ hb1 (by simp<;>omega) (by simp [go_sem]);have q2 : w1.cell? ⟨w.heap.size+1,0,none⟩ =some (.int .i64 s) :=aZ hb1 (by simp<;>omega) (by simp [go_sem]);have hB1 : Below w.heap.size w w1:=Below.trans cO (hb1.mono (by simp<;>omega));have z1 : w.heap.size+1<w1.heap.size:=by have:=hb1.size;simp at this;omega
 clear hb1;by_cases k1 : (gl.any fun r=>r.any fun y=>y == s) =true
 ·have K1:=Hid.aD k1
  rw [k1];clear k1;go_wp2;go_ret;exact⟨aU (by rw [HE.out,K1.out];rfl),hB1⟩
 ·have k1' : (gl.any fun r=>r.any fun y=>y == s) =false:= (XM _).mp k1
  have K1:=Hid.aD k1';rw [k1'];clear k1 k1';go_wp2_with fail;refine(vQ _ _ T2 ow (kY hr2 hB1) 198 #[.pointer (some ⟨w.heap.size+1,0,none⟩)] (fun l=>l.any fun y=>y == s) (fun _ _ _ _=>by kernel_rfl) (fun A c l W hW hr=>Aw A c l s (w.heap.size+1) W hr ((hW.cell (p:= ⟨w.heap.size+1,0,none⟩) z1).trans q2) (XO z1 hW.size))).mono ?_;rintro e w2 ⟨rfl,hb2⟩;go_wp2;go_ret;exact⟨aU (by rw [HE.out,K1.out];rfl),hB1.trans (hb2.mono hB1.size)⟩
theorem Hz {w w' : World}{r : Option Nat}(h : w.grownBy w' r)(g i : Nat)(hg : g<w.heap.size)(hn : r≠some g) : w'.cell? ⟨g,i,none⟩ =w.cell? ⟨g,i,none⟩ :=by
 simp [World.cell?,h.block g hg (fun e=>hn e.symm)]
theorem C9 (w : World)(H : bF)(x : Lists)(h : jC w w.heap.size H x)(hs1 : fO x.G≤536870912)(hs2 : fO x.O≤536870912) :
  Calls Tryz.prog 146 #[.agg #[.slice H.G.a H.G.l H.G.c, .slice H.O.a H.O.l H.O.c]] w fun e w'=> ∃v',e= .returned v'∧aX FI 3 w' v' (iR x) ∧ (∀g∈bq v',w.heap.size≤g) ∧Below w.heap.size w w':=by
 obtain⟨⟨A1,n1,c1⟩,T1, ⟨A2,n2,c2⟩,T2⟩ :=H;obtain⟨gl,ow⟩ :=x;have hr1 : ig FI w w.heap.size (.slice A1 n1 c1) T1 gl:=h.G;have hr2 : ig FI w w.heap.size (.slice A2 n2 c2) T2 ow:=h.O;obtain⟨wS,_,hmx⟩ :=hr1.len';have hlt1 : gl.length≤9223372036854775807:=by unfold maxLen at hmx;omega
 clear hmx;obtain⟨wT,_,hmx⟩ :=hr2.len';have hlt2 : ow.length≤9223372036854775807:=by unfold maxLen at hmx;omega
 clear hmx h;subst wS wT;simp only at hs1 hs2;have Ul:=Hid.aD (show iR ⟨gl,ow⟩ =gl.flatten++ow.flatten from rfl);show Calls Tryz.prog 146 #[.agg #[.slice A1 gl.length c1, .slice A2 ow.length c2]] _ _;go_enter Tryz.func146,Tryz.ntmps146;go_wp2;go_loopw [3,4] (fun o i wr=> ∃k : Nat,k≤gl.length∧i= .int .i64 k∧aX FI 3 wr o ((gl.take k).flatten) ∧ (∀g∈bq o,w.heap.size<g) ∧Below w.heap.size w wr∧wr.cell? ⟨w.heap.size,0,none⟩ =some (.slice A1 gl.length c1) ∧wr.cell? ⟨w.heap.size,1,none⟩ =some (.slice A2 ow.length c2) ∧w.heap.size<wr.heap.size) (fun _ i _=>gl.length - (intOf i).toNat)
 case atStart=>exact⟨0,X3 _,rfl, (by have hq:=aX.lit FI [] #[] rfl (by decide) (w.alloc (.cells #[.slice A1 gl.length c1, .slice A2 ow.length c2] 29)) 3;simpa using hq),by simp [bq,Value.ownBlock],by repeat (first|exact Below.refl _ _|refine Below.alloc ?_ (by simp<;>omega) _|refine bA ?_ (by simp<;>omega) _ _|refine Below.drew ?_|refine below_drewN ?_ _),by simp [go_sem],by simp [go_sem],by simp;omega⟩
 case round=>
  obtain⟨i,hi,rfl,ho,hfo,hb,r0,r1,hz⟩ :=hrel;by_cases hlt : i<gl.length
  ·obtain⟨g,o,A',c',rZ,hg,p0,Pj⟩ :=hr1.row hb hlt
   subst rZ;have hfl : ((gl.take i).flatten).length+gl[i].length≤1073741824:=by
    have a:=nW gl i hlt;have b:=nE gl (i+1);have c : ku gl≤fO gl:=Nat.le_add_left _ _;rw [←qh];omega
   have HF:=Hid.aD (show (gl.take (i+1)).flatten= ((gl.take i).flatten) ++gl[i] from by rw [XZ hlt,List.flatten_append,List.flatten_singleton]);clear hr1 hr2;go_wp2_with (at_builtin;refine eP Tryz.stInt rfl _ _ rfl (v:=u3) (y:= .slice A' gl[i].length c') (l:= (gl.take i).flatten) (m:=gl[i]) rfl rfl ho (bY Pj hb) hfl ?_;intro v' w3 ho' hg' hat');have hb3 : Below w.heap.size w w3:=hb.grown hg' hb.size (fun k hk=>X7 (hfo k (aS.2 hk)));have s0:= (Hz hg' w.heap.size 0 hz (fun hm=>by have:=hfo _ (aS.2 hm);omega)).trans r0;have s1:= (Hz hg' w.heap.size 1 hz (fun hm=>by have:=hfo _ (aS.2 hm);omega)).trans r1;go_roundw
   case rel=>exact⟨i+1,by omega,by go_num,by rw [HF.out];exact ho',fun b hb'=>by rcases iY hat' b hb' with h|h; (exact hfo b h); (have:=hb.size;omega),hb3,s0,s1,XO hz hg'.size⟩
   case measure=>simp [intOf];omega
  ·obtain rfl : i=gl.length:=by omega
   rw [List.take_length] at ho;go_wp2;go_loopw [3,5] (fun o i wr=> ∃k : Nat,k≤ow.length∧i= .int .i64 k∧aX FI 3 wr o (gl.flatten++ (ow.take k).flatten) ∧ (∀g∈bq o,w.heap.size<g) ∧Below w.heap.size w wr∧wr.cell? ⟨w.heap.size,0,none⟩ =some (.slice A1 gl.length c1) ∧wr.cell? ⟨w.heap.size,1,none⟩ =some (.slice A2 ow.length c2) ∧w.heap.size<wr.heap.size) (fun _ i _=>ow.length - (intOf i).toNat)
   case atStart=>exact⟨0,X3 _,rfl,by simpa using ho,hfo,hb,r0,r1,hz⟩
   case round=>
    obtain⟨i,hi,rfl,ho,hfo,hb,r0,r1,hz⟩ :=hrel;by_cases hlt : i<ow.length
    ·obtain⟨g,o,A',c',rZ,hg,p0,Pj⟩ :=hr2.row hb hlt
     subst rZ;have hfl : (gl.flatten++ (ow.take i).flatten).length+ow[i].length≤1073741824:=by
      have a:=nW ow i hlt;have b:=nE ow (i+1);have c : ku ow≤fO ow:=Nat.le_add_left _ _;simp only [XU];rw [←qh, ←qh];have d : ku gl≤fO gl:=Nat.le_add_left _ _;omega
     have HF:=Hid.aD (show gl.flatten++ (ow.take (i+1)).flatten= (gl.flatten++ (ow.take i).flatten) ++ow[i] from by rw [XZ hlt,List.flatten_append,List.flatten_singleton];rw [List.append_assoc]);clear hr1 hr2;go_wp2_with (at_builtin;refine eP Tryz.stInt rfl _ _ rfl (v:=u3) (y:= .slice A' ow[i].length c') (l:=gl.flatten++ (ow.take i).flatten) (m:=ow[i]) rfl rfl ho (bY Pj hb) hfl ?_;intro v' w3 ho' hg' hat');have hb3 : Below w.heap.size w w3:=hb.grown hg' hb.size (fun k hk=>X7 (hfo k (aS.2 hk)));have s0:= (Hz hg' w.heap.size 0 hz (fun hm=>by have:=hfo _ (aS.2 hm);omega)).trans r0;have s1:= (Hz hg' w.heap.size 1 hz (fun hm=>by have:=hfo _ (aS.2 hm);omega)).trans r1;go_roundw
     case rel=>exact⟨i+1,by omega,by go_num,by rw [HF.out];exact ho',fun b hb'=>by rcases iY hat' b hb' with h|h; (exact hfo b h); (have:=hb.size;omega),hb3,s0,s1,XO hz hg'.size⟩
     case measure=>simp [intOf];omega
    ·obtain rfl : i=ow.length:=by omega
     go_wp2;go_ret;refine⟨_,rfl, ?_,fun g hg=>X7 (hfo g hg),hb⟩;rw [Ul.out];simpa using ho
theorem Kj (w : World)(H : bF)(x : Lists)(s : Int)(h : jC w w.heap.size H x)(hs1 : fO x.G≤536870912)(hs2 : fO x.O≤536870912) :
  Calls Tryz.prog 151 #[.agg #[.slice H.G.a H.G.l H.G.c, .slice H.O.a H.O.l H.O.c], .int .i64 s] w fun e w'=>e= .returned (.bool (mP x s)) ∧Below w.heap.size w w':=by
 obtain⟨⟨A1,n1,c1⟩,T1, ⟨A2,n2,c2⟩,T2⟩ :=H;obtain⟨gl,ow⟩ :=x;have hr1 : ig FI w w.heap.size (.slice A1 n1 c1) T1 gl:=h.G;have hr2 : ig FI w w.heap.size (.slice A2 n2 c2) T2 ow:=h.O;obtain⟨wS,_,hmx⟩ :=hr1.len';have hlt1 : gl.length≤9223372036854775807:=by unfold maxLen at hmx;omega
 clear hmx;obtain⟨wT,_,hmx⟩ :=hr2.len';have hlt2 : ow.length≤9223372036854775807:=by unfold maxLen at hmx;omega
 clear hmx h;subst wS wT;simp only at hs1 hs2;have HE:=Hid.aD (Cn ⟨gl,ow⟩ s);show Calls Tryz.prog 151 #[.agg #[.slice A1 gl.length c1, .slice A2 ow.length c2], .int .i64 s] _ _;go_enter Tryz.func151,Tryz.ntmps151;go_wp2_with fail;refine(C9 _ ⟨⟨A1,gl.length,c1⟩,T1, ⟨A2,ow.length,c2⟩,T2⟩ ⟨gl,ow⟩ ⟨kY hr1 cO,kY hr2 cO⟩ hs1 hs2).mono ?_;rintro e w1 ⟨v',rfl,ho,hf,hb0⟩;have hB1 : Below w.heap.size w w1:=Below.trans cO (hb0.mono (by simp<;>omega));clear hf hb0;generalize iR ⟨gl,ow⟩ =L at ho HE;go_wp2_with fail;refine(uI _ _ L s ho.rd').mono ?_;rintro e w2 ⟨rfl,hb2⟩;go_wp2;go_ret;exact⟨aU HE.out.symm,hB1.trans (hb2.mono hB1.size)⟩
theorem Tryz.infoSL : (Tryz.prog.info? 94).map (fun i=> (i.zero,i.size,i.bytes)) =some (some (.agg #[.slice none 0 0]),FS.n,24) :=by kernel_rfl
theorem Tryz.stSL : ST Tryz.prog FS 27 94:= ⟨Tryz.underlying27, .agg #[.slice none 0 0],24,by kernel_rfl,rfl,by decide⟩
theorem Nf (w : World)(n : Nat)(hn : 0<n)(hn2 : n≤1000) :
  Calls Tryz.prog 229 #[.slice none 0 0, .int .i64 n] w fun e w'=> ∃v,e= .returned v∧aX FS 94 w' v []∧ (∀g∈bq v,w.heap.size≤g) ∧Below w.heap.size w w':=by
 obtain⟨i,hi,hzz⟩ :=Option.map_eq_some_iff.1 Tryz.infoSL;simp only [Prod.mk.injEq] at hzz;obtain⟨q1,q2,q3⟩ :=hzz
 have hrz : ∀ty, (Builtin.append_ #[27,3] ty #[.slice none 0 0, .int .i64 (n : Int)]).run Tryz.prog w=
   .ok (.slice (some ⟨w.heap.size,0,none⟩) n (grownCap w n 0 94)) (w.drew.alloc (.cells (Builtin.zeroCells #[.slice none 0 0] n++Builtin.zeroCells #[.slice none 0 0] (grownCap w n 0 94 - n)) 94)) :=fun ty=>by
  have h:=Lib.run_append_grow_zeros w 27 3 ty 94 i _ .i64 .i64 Tryz.underlying27 Tryz.underlying3 hi q1 none 0 0 [] (run_firstCells_none w.drew i.size 0 0 0) n hn (by rw [q2];decide) (by omega) (by omega) (by rw [q3];omega) (by rw [q3];exact growslice_fits (by omega) (by omega));simpa [Value.cells] using h
 have hG0:=grownCap_ge w n 0 94;have Pk:=grownCap_le_maxLen w n 0 94 (by unfold maxLen;omega);generalize grownCap w n 0 94=G at hrz hG0 Pk;have hG1 : G≤9223372036854775807:=by unfold maxLen at Pk;omega
 have how:=World.ownsRow_made (base:=0) (e:=94) (size:=1) w.drew (Builtin.zeroCells #[.slice none 0 0] n++Builtin.zeroCells #[.slice none 0 0] (G - n)) G (X3 _) Pk (by simp [Builtin.zeroCells];omega);have hGn : ¬ (n : Int) ≤0:=by omega
 clear hi q1 q2 q3 Pk;go_enter Tryz.func229,Tryz.ntmps229;go_wp2_with (at_builtin;refine Lib.wpList_append_run _ rfl _ _ _ _ rfl _ _ rfl rfl _ _ (hrz _) ?_);go_ret;refine⟨_,rfl, ?_, ?_, ?_⟩
 ·unfold aX
  exact how
 ·simp [bq,Value.ownBlock]
 ·exact Below.alloc (Below.drew (Below.refl _ _)) (by simp) _
theorem below_app {w w' : World}{B : Nat}(h : Below B w w')(hB : B≤w.heap.size)(v : Value)(w2 : World)(hg : w'.grownBy w2 v.ownBlock)(hf : ∀g∈bq v,B≤g) : Below B w w2:=h.grown hg (XR hB h.size) (fun k hk=>hf k (aS.2 hk))
theorem Kk (w : World)(gb : Nat)(A1 A2 : Option Addr)(c1 c2 : Nat)(T1 T2 : List SV)(bb : aJ w gb [.slice A1 9 c1, .slice A2 3 c2])(h1 : dX FS w w.heap.size (.slice A1 9 c1) T1)(h2 : dX FS w w.heap.size (.slice A2 3 c2) T2) :
  Calls Tryz.prog 197 #[.slice (some ⟨gb,0,none⟩) 2 2] w fun e w'=> ∃v,e= .returned v∧aX FS 94 w' v (T1++T2) ∧ (∀g∈bq v,w.heap.size≤g) ∧Below w.heap.size w w':=by
 have l1:= (dX.len_ h1).1;have l2:= (dX.len_ h2).1;have p0:=bb.cell 0 _ rfl;have p1:=bb.cell 1 _ rfl;have WG:=bb.lt;have Sg:=Hid.aD l1;have HL2:=Hid.aD l2;clear l1 l2;go_enter Tryz.func197,Tryz.ntmps197;go_wp2
 go_loop [3,5,11] (fun s _ i=> ∃k : Nat,k≤2∧i= .int .i64 k∧s= .int .i64 (if k=0 then 0 else if k=1 then 9 else 12)) (fun _ _ i=>2 - (intOf i).toNat)
 case atStart=>exact⟨0,by omega,rfl,rfl⟩
 case round=>
  obtain⟨k,hk,rfl,rfl⟩ :=hrel;rcases(show k=0∨k=1∨k=2 by omega) with rfl|rfl|rfl
  ·go_wp2
   go_round
   case rel=>exact⟨1,by omega,rfl,rfl⟩
   case measure=>simp [intOf]
  ·go_wp2
   go_round
   case rel=>exact⟨2,by omega,rfl,rfl⟩
   case measure=>simp [intOf]
  ·go_wp2_with fail
   refine(Nf _ 12 (by decide) (by decide)).mono ?_;rintro e w1 ⟨v1,rfl,ho,hf,hb⟩;clear p0 p1;go_wp2;go_loopw [6,8,27] (fun o _ i wr=> ∃k : Nat,k≤2∧i= .int .i64 k∧aX FS 94 wr o (if k=0 then [] else if k=1 then T1 else T1++T2) ∧ (∀g∈bq o,w.heap.size≤g) ∧Below w.heap.size w wr) (fun _ _ i _=>2 - (intOf i).toNat)
   case atStart=>exact⟨0,by omega,rfl,ho,hf,hb⟩
   case round=>
    obtain⟨k,hk,rfl,ho,hf,hb⟩ :=hrel;have bw:=bb.below hb;have p0:=bw.cell 0 _ rfl;have p1:=bw.cell 1 _ rfl;have zl:=bw.lt;rcases(show k=0∨k=1∨k=2 by omega) with rfl|rfl|rfl
    ·go_wp2_with (at_builtin;refine eP Tryz.stSL rfl _ _ rfl (v:=u6) (y:= .slice A1 9 c1) (l:= []) (m:=T1) rfl rfl ho (bY h1 hb) (by simp;rw [←Sg.out];omega) ?_;intro v' w3 ho' hg' hat')
     go_roundw
     case rel=>exact⟨1,by omega,rfl,by simpa using ho',fun g hg=>by rcases iY hat' g hg with h|h; (exact hf g h); (have:=hb.size;omega),below_app hb (XQ _) _ _ hg' hf⟩
     case measure=>simp [intOf]
    ·go_wp2_with (at_builtin;refine eP Tryz.stSL rfl _ _ rfl (v:=u6) (y:= .slice A2 3 c2) (l:=T1) (m:=T2) rfl rfl ho (bY h2 hb) (by rw [←Sg.out, ←HL2.out];omega) ?_;intro v' w3 ho' hg' hat')
     go_roundw
     case rel=>exact⟨2,by omega,rfl,ho',fun g hg=>by rcases iY hat' g hg with h|h; (exact hf g h); (have:=hb.size;omega),below_app hb (XQ _) _ _ hg' hf⟩
     case measure=>simp [intOf]
    ·go_wp2
     go_ret;exact⟨_,rfl,ho,hf,hb⟩
end Go.Proofs.YtkmggglljkmjoaaGreat
