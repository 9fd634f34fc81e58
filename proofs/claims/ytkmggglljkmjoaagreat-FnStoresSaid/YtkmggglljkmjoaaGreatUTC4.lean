/-
  Several texts in one: lemmas and contracts that the claim rests on.
-/
import Derived.Test.YtkmggglljkmjoaaGreatUTC1
import Derived.Deep.QuietTactic
import Derived.BigQuiet
import Derived.Deep.LoopGhost
import Derived.Deep.RegionHeld3
import Derived.Test.YtkmggglljkmjoaaGreatUTC2
import Derived.WalkSpells
import Derived.Laws.Cover3
import Derived.Test.YtkmggglljkmjoaaGreatUTC3
namespace Go.Proofs.YtkmggglljkmjoaaGreat
open Go.RowKit
theorem jm {P : Program}{f : FuncId}{args : Array Value}{w : World}{a n : Nat}{v : Value}
  (h : Calls P f args (w.drewN (a+n)) fun e w'=>e= .returned v∧w.drewN (a+n) =w') :
  Calls P f args (w.drewN (a+n)) fun e w''=>e= .returned v∧ ∃m,w''=w.drewN (a+m) :=
 h.mono fun _ _ ⟨he,hm⟩ => ⟨he,n,hm.symm⟩
theorem fE.Bt {g off n c B : Nat}{w : World}{l : List Int}(h : fE FI w B (.slice (some ⟨g,off,none⟩) n c) l)(lo m : Nat)(h1 : lo+m≤l.length) : fE FI w B (.slice (some ⟨g,off+lo,none⟩) m (c - lo)) ((l.drop lo).take m) :=by
 obtain⟨A,cap,hv,a1,a2,a3⟩ :=h
 simp only [Value.slice.injEq] at hv
 obtain⟨rfl,rfl,rfl⟩ :=hv
 have hlen : ((l.drop lo).take m).length=m:=by rw [List.length_take,List.length_drop];omega
 refine⟨_,c - lo,by rw [hlen],by rw [hlen];omega,by omega,fun hne=> ?_⟩
 have hl : l≠ []:=by
  rintro rfl
  simp at hne
 obtain⟨g',off',hA,hg,hc⟩ :=a3 hl
 injection hA with hA
 injection hA with hA1 hA2
 subst hA1 hA2
 refine⟨_,_,rfl,hg,fun j u hu=> ?_⟩
 have hu' : (flat FI l)[lo+j]? =some u:=by
  have e : ∀q : List Int,flat FI q=q.map fun x=>Value.int .i64 x:=fun q=>by
   induction q with
   |nil=>rfl
   |cons z q ih=>show FI.enc z++flat FI q=_;rw [ih];rfl
  rw [e] at hu⊢
  rw [List.getElem?_map,List.getElem?_take] at hu
  split at hu
  ·rw [List.getElem?_drop] at hu
   rw [List.getElem?_map]
   exact hu
  ·simp at hu
 have:=hc _ u hu'
 rwa [←Nat.add_assoc] at this
def iG (h : Heap)(p : Nat)(c : Int)(k : Nat) : Bool:= (List.range k).all fun i=>bO 1 7 (iF h.Y ((p * 64+8+i * (eu c).toNat : Nat) : Int) 4)
def iR (h : Heap)(p : Nat) : Bool:=
 if h.Z.getD p (-1) <0 then jN ((h.Y.drop (p * 64)).take 64)
 else (h.Y.getD (p * 64) 0 == 171) && (h.Y.getD (p * 64+1) 0 == h.Z.getD p (-1)) && (h.Y.getD (p * 64+2) 0 == cO (h.Z.getD p (-1))) &&jN ((h.Y.drop (p * 64+3)).take 5) &&iG h p (h.Z.getD p (-1)) (cO (h.Z.getD p (-1))).toNat
def jg (h : Heap) : Bool:=gI h&& (List.range 6).all (iR h)
theorem Ht (b : List Int)(lo m a k : Nat)(h : a+k≤m)(_ : lo+m≤b.length) : iJ ((b.drop lo).take m) a k=iJ b (lo+a) k:=by
 induction k with
 |zero=>rfl
 |succ k ih=>
  show iJ _ a k * 256+_=iJ _ (lo+a) k * 256+_
  rw [ih (by omega)]
  congr 1
  simp only [List.getD,List.getElem?_take,List.getElem?_drop]
  rw [if_pos (by omega),Nat.add_assoc]
theorem nQ {c : Int}(hc : bO 0 2 c=true){i : Nat}(hi : i< (cO c).toNat) : 8+i * (eu c).toNat+4≤64:=by
 rcases cls hc with rfl|rfl|rfl<;>simp [cO,eu] at * <;>omega
theorem Cq (h : Heap)(p : Nat)(c : Int)(k : Nat) : iG h p c (k+1) = (iG h p c k&&bO 1 7 (iF h.Y ((p * 64+8+k * (eu c).toNat : Nat) : Int) 4)) :=by
 unfold iG
 rw [List.range_succ,List.all_append]
 simp
theorem EZ {h : Heap}{p : Nat}{c : Int}{k n : Nat}(hk : k<n)(hn : bO 1 7 (iF h.Y ((p * 64+8+k * (eu c).toNat : Nat) : Int) 4) =false) : iG h p c n=false:=by
 unfold iG
 rw [List.all_eq_false]
 exact⟨k,List.mem_range.2 hk,by rw [hn];decide⟩
theorem IV {b : List Int}(hb : b.all (bO 0 255) =true)(lo m : Nat) : ((b.drop lo).take m).all (bO 0 255) =true:=by
 rw [List.all_eq_true] at hb⊢
 exact fun x hx=>hb x (List.mem_of_mem_drop (List.mem_of_mem_take hx))
set_option maxRecDepth 100000 in
set_option maxHeartbeats 4000000 in
theorem Ay (w : World)(H : dU)(x : Heap)(p : Nat)(hp : p<6)(h : gU w w.heap.size H x)(hs : gI x=true) :
  Calls Tryz.prog 196 #[.agg #[.slice H.Y.a H.Y.l H.Y.c, .slice H.Z.a H.Z.l H.Z.c], .int .i64 p] w fun e w'=>e= .returned (.bool (iR x p)) ∧Below w.heap.size w w':=by
 obtain⟨⟨A1,n1,c1⟩, ⟨A2,n2,c2⟩⟩ :=H
 obtain⟨bs,cs⟩ :=x
 have hr1 : fE FI w w.heap.size (.slice A1 n1 c1) bs:=h.Y
 have hr2 : fE FI w w.heap.size (.slice A2 n2 c2) cs:=h.Z
 obtain⟨_,_,hv,q1,q2,qx⟩ :=id hr1
 simp only [Value.slice.injEq] at hv
 obtain⟨rfl,rfl,rfl⟩ :=hv
 have hlt1 : bs.length≤9223372036854775807:=by unfold maxLen at q2;omega
 clear q1 q2 qx
 obtain⟨_,_,hv,q1,q2,qx⟩ :=id hr2
 simp only [Value.slice.injEq] at hv
 obtain⟨rfl,rfl,rfl⟩ :=hv
 have hlt2 : cs.length≤9223372036854775807:=by unfold maxLen at q2;omega
 clear q1 q2 qx h
 have sh:=iA hs
 have wF:=sh.cl
 have Cr:=sh.bl
 have hby:=sh.rG
 have hcb:=sh.cs p
 simp only at wF Cr hby hcb
 have hpl : p<cs.length:=by omega
 have HE:=Hid.aT (show iR ⟨bs,cs⟩ p= (if cs.getD p (-1) <0 then jN ((bs.drop (p * 64)).take 64) else (bs.getD (p * 64) 0 == 171) && (bs.getD (p * 64+1) 0 == cs.getD p (-1)) && (bs.getD (p * 64+2) 0 == cO (cs.getD p (-1))) &&jN ((bs.drop (p * 64+3)).take 5) &&iG ⟨bs,cs⟩ p (cs.getD p (-1)) (cO (cs.getD p (-1))).toNat) from rfl)
 show Calls Tryz.prog 196 #[.agg #[.slice A1 bs.length c1, .slice A2 cs.length c2], .int .i64 p] _ _
 obtain⟨g2,off2,cap2,he,hg2,_,_,hc2⟩ :=hr2.at_ (show cs[p]? =some (cs.getD p (-1)) by rw [getD_at hpl];exact List.getElem?_eq_getElem hpl)
 injection he with he1 he2 jW
 clear he2
 subst he1 jW
 have p0 : w.cell? ⟨g2,off2+p,none⟩ =some (.int .i64 (cs.getD p (-1))) :=by simpa [FI] using hc2 0 _ rfl
 clear hc2
 have HG:=Hid.aT (fun c k=>Cq ⟨bs,cs⟩ p c k)
 have HG2:=Hid.aT (fun c k n=>EZ (h:= ⟨bs,cs⟩) (p:=p) (c:=c) (k:=k) (n:=n))
 have HR:=Hid.aT (fun c hc i=>nQ (c:=c) hc (i:=i))
 generalize cs.getD p (-1) =c at p0 hcb HE
 obtain⟨g1,off1,Du,he,hg1,Ny,Nz,hc1⟩ :=hr1.at_ (show bs[p * 64]? =some (bs.getD (p * 64) 0) by rw [getD_at (by omega)];exact List.getElem?_eq_getElem (by omega))
 injection he with he1 he2 jW
 clear he2
 subst he1 jW
 have x0 : w.cell? ⟨g1,off1+p * 64,none⟩ =some (.int .i64 (bs.getD (p * 64) 0)) :=by simpa [FI] using hc1 0 _ rfl
 obtain⟨g1',xR,xS,he,_,_,_,hc1⟩ :=hr1.at_ (show bs[p * 64+1]? =some (bs.getD (p * 64+1) 0) by rw [getD_at (by omega)];exact List.getElem?_eq_getElem (by omega))
 injection he with he1 he2 jW
 injection he1 with he1
 injection he1 with he1 rV
 subst he1 jW rV
 have x1 : w.cell? ⟨g1,off1+ (p * 64+1),none⟩ =some (.int .i64 (bs.getD (p * 64+1) 0)) :=by simpa [FI] using hc1 0 _ rfl
 obtain⟨g1',xR,xS,he,_,_,_,hc1⟩ :=hr1.at_ (show bs[p * 64+2]? =some (bs.getD (p * 64+2) 0) by rw [getD_at (by omega)];exact List.getElem?_eq_getElem (by omega))
 injection he with he1 he2 jW
 injection he1 with he1
 injection he1 with he1 rV
 subst he1 jW rV
 have x2 : w.cell? ⟨g1,off1+ (p * 64+2),none⟩ =some (.int .i64 (bs.getD (p * 64+2) 0)) :=by simpa [FI] using hc1 0 _ rfl
 clear hc1 he2 sh hs
 have hrz:=hr1.Bt (p * 64) 64 (by omega)
 have hrf:=hr1.Bt (p * 64+3) 5 (by omega)
 rw [←Nat.add_assoc,Nat.sub_add_eq] at hrf
 have MP : 384≤bs.length:=by omega
 have hb6 : 6≤cs.length:=by omega
 clear Cr wF
 have x1' : w.cell? ⟨g1,off1+p * 64+1,none⟩ =some (.int .i64 (bs.getD (p * 64+1) 0)) :=by rw [Nat.add_assoc];exact x1
 have x2' : w.cell? ⟨g1,off1+p * 64+2,none⟩ =some (.int .i64 (bs.getD (p * 64+2) 0)) :=by rw [Nat.add_assoc];exact x2
 generalize bs.getD (p * 64) 0=y0 at x0 HE
 generalize bs.getD (p * 64+1) 0=y1 at x1 x1' HE
 generalize bs.getD (p * 64+2) 0=y2 at x2 x2' HE
 have D8:=Hid.aT (fun q (hq : q+4≤64) =>Ht bs (p * 64) 64 q 4 hq (by omega))
 have Dx:=IV hby (p * 64) 64
 have e1 : (p : Int) * 64= ((p * 64 : Nat) : Int) :=by omega
 have e2 : ((p : Int) +1) * 64= ((p * 64+64 : Nat) : Int) :=by omega
 have ha : p * 64+64≤bs.length:=by omega
 have Lj : ((bs.drop (p * 64)).take 64).length=64:=by rw [List.length_take,List.length_drop];omega
 have Dy:=Hid.aT Lj
 clear Lj
 generalize p * 64=a at *
 by_cases k0 : c<0
 ·have hd0 : decide (c<0) =true:=by simpa using k0
  rw [if_pos k0] at HE
  clear HG HG2 HR D8
  go_enter Tryz.func196,Tryz.ntmps196
  go_wp2
  go_quiet (fail)
  go_wp2_with fail
  refine(ny _ _ _ (eP hrz dJ)).mono ?_
  rintro e w1 ⟨rfl,rfl⟩
  go_wp2
  go_ret
  exact⟨bK HE.out.symm,by repeat (first|exact Below.refl _ _|refine Below.alloc ?_ (by simp<;>omega) _|refine dA ?_ (by simp<;>omega) _ _|refine Below.drew ?_|refine below_drewN ?_ _)⟩
 rw [if_neg k0] at HE
 have hd0 : decide (c<0) =false:=by simpa using k0
 have hc : bO 0 2 c=true:=bJ.2 ⟨by omega,hcb.2⟩
 by_cases k1 : y0=171
 case neg=>
  have k1' : (y0 != 171) =true:=by simpa using k1
  have K1:=Hid.aT (show (y0 == 171) =false by simpa using k1)
  clear k1 HG HG2 HR D8
  have h64 : a+64 - a=64:=by omega
  go_enter Tryz.func196,Tryz.ntmps196
  go_wp2
  go_quiet (fail)
  go_wp2
  go_quiet ((first| (go_at_call 179;exact jm (kT _ _)) | (go_at_call 228;exact jm (ny _ _ _ (eP hrf dJ)))))
  go_wp2
  go_ret
  exact⟨bK (by rw [HE.out];rw [K1.out];simp),by repeat (first|exact Below.refl _ _|refine Below.alloc ?_ (by simp<;>omega) _|refine dA ?_ (by simp<;>omega) _ _|refine Below.drew ?_|refine below_drewN ?_ _)⟩
 subst k1
 by_cases k2 : y1=c
 case neg=>
  have k2' : (y1 != c) =true:=by simpa using k2
  have K2:=Hid.aT (show (y1 == c) =false by simpa using k2)
  clear k2 HG HG2 HR D8
  have h64 : a+64 - a=64:=by omega
  go_enter Tryz.func196,Tryz.ntmps196
  go_wp2
  go_quiet (fail)
  go_wp2
  go_quiet ((first| (go_at_call 179;exact jm (kT _ _)) | (go_at_call 228;exact jm (ny _ _ _ (eP hrf dJ)))))
  go_wp2
  go_ret
  exact⟨bK (by rw [HE.out];rw [K2.out];simp),by repeat (first|exact Below.refl _ _|refine Below.alloc ?_ (by simp<;>omega) _|refine dA ?_ (by simp<;>omega) _ _|refine Below.drew ?_|refine below_drewN ?_ _)⟩
 subst k2
 by_cases k3 : y2=cO y1
 case neg=>
  have rW : (y2 != cO y1) =true:=by simpa using k3
  have K3:=Hid.aT (show (y2 == cO y1) =false by simpa using k3)
  clear k3 HG HG2 HR D8
  have h64 : a+64 - a=64:=by omega
  go_enter Tryz.func196,Tryz.ntmps196
  go_wp2
  go_quiet (fail)
  go_wp2
  go_quiet ((first| (go_at_call 179;exact jm (kT _ _)) | (go_at_call 228;exact jm (ny _ _ _ (eP hrf dJ)))))
  go_wp2
  go_ret
  exact⟨bK (by rw [HE.out];rw [K3.out];simp),by repeat (first|exact Below.refl _ _|refine Below.alloc ?_ (by simp<;>omega) _|refine dA ?_ (by simp<;>omega) _ _|refine Below.drew ?_|refine below_drewN ?_ _)⟩
 subst k3
 by_cases k4 : jN ((bs.drop (a+3)).take 5) =true
 case neg=>
  have IW : jN ((bs.drop (a+3)).take 5) =false:= (Bool.not_eq_true _).mp k4
  have K4:=Hid.aT IW
  clear k4 HG HG2 HR D8
  have h64 : a+64 - a=64:=by omega
  go_enter Tryz.func196,Tryz.ntmps196
  go_wp2
  go_quiet (fail)
  go_wp2
  go_quiet ((first| (go_at_call 179;exact jm (kT _ _)) | (go_at_call 228;exact jm (ny _ _ _ (eP hrf dJ)))))
  go_wp2
  go_ret
  exact⟨bK (by rw [HE.out];rw [K4.out];simp),by repeat (first|exact Below.refl _ _|refine Below.alloc ?_ (by simp<;>omega) _|refine dA ?_ (by simp<;>omega) _ _|refine Below.drew ?_|refine below_drewN ?_ _)⟩
 have HF:=Hid.aT (show iR ⟨bs,cs⟩ p=iG ⟨bs,cs⟩ p y1 (cO y1).toNat by rw [HE.out,k4];simp)
 clear HE
 rcases cls hc with rfl|rfl|rfl
 ·have lH : cO 0=4:=rfl
  have hst : eu 0=12:=rfl
  rw [lH] at x2 x2'
  have rH:=Hid.aT (show iR ⟨bs,cs⟩ p=iG ⟨bs,cs⟩ p 0 4 from HF.out)
  clear HF hc hcb k0
  have h64 : a+64 - a=64:=by omega
  go_enter Tryz.func196,Tryz.ntmps196
  go_wp2
  go_quiet (fail)
  go_wp2
  go_quiet ((first| (go_at_call 179;exact jm ((kT 0 _).mono fun e w' ⟨u,v⟩ => ⟨by rw [u,lH],v⟩)) | (go_at_call 228;exact jm (ny _ _ _ (eP hrf dJ)))))
  go_wp2_with (go_at_call 179;refine(kT _ _).mono ?_;rw [lH];rintro e w2 ⟨rfl,rfl⟩)
  go_loop [7,52] (fun _ i=> ∃k : Nat,k≤4∧i= .int .i64 k∧Hid (iG ⟨bs,cs⟩ p 0 k=true)) (fun _ i=>4 - (intOf i).toNat)
  case atStart=>exact⟨0,Nat.zero_le _,rfl,rfl⟩
  case round=>
   obtain⟨i,hi,rfl,HT⟩ :=hrel
   by_cases hlt : i<4
   ·have HV:=Hid.aT (show iF ((bs.drop a).take 64) (8+ (i : Int) * 12) 4=iF bs ((a+8+i * 12 : Nat) : Int) 4 by
     have u:=D8.out (8+i * 12) (by omega)
     unfold iF
     rw [show (8+ (i : Int) * 12).toNat=8+i * 12 by omega,show (((a+8+i * 12 : Nat) : Int)).toNat=a+ (8+i * 12) by omega]
     exact u)
    have HS:=Hid.aT (show iG ⟨bs,cs⟩ p 0 (i+1) = (iG ⟨bs,cs⟩ p 0 i&&bO 1 7 (iF bs ((a+8+i * 12 : Nat) : Int) 4)) from HG.out 0 i)
    have kH:=Hid.aT (show bO 1 7 (iF bs ((a+8+i * 12 : Nat) : Int) 4) =false→iG ⟨bs,cs⟩ p 0 4=false from HG2.out 0 i 4 hlt)
    generalize iF bs ((a+8+i * 12 : Nat) : Int) 4=z at HV HS kH
    by_cases k5 : bO 1 7 z=true
    ·have HN:=Hid.aT (show iG ⟨bs,cs⟩ p 0 (i+1) =true by rw [HS.out,HT.out,k5];rfl)
     go_wp2_with (first| (go_at_call 180;refine(nL _ _).mono ?_;rw [hst];rintro e w2 ⟨rfl,rfl⟩) | (go_at_call 90;refine(mq _ _ ((bs.drop a).take 64) (8+ (i : Int) * 12) 4 (eP hrz dJ) (by omega) (by decide) (by decide) (by rw [Dy.out];omega) Dx).mono ?_;rw [HV.out];rintro e w2 ⟨rfl,rfl⟩) | (go_at_call 154;refine(kC _ _ _ _).mono ?_;rintro e w1 ⟨rfl,rfl⟩))
     go_round
     case rel=>exact⟨i+1,by omega,by go_num,HN⟩
     case measure=>simp [intOf];omega
    ·have zu : bO 1 7 z=false:= (Bool.not_eq_true _).mp k5
     have HN:=Hid.aT (kH.out zu)
     clear k5
     go_wp2_with (first| (go_at_call 180;refine(nL _ _).mono ?_;rw [hst];rintro e w2 ⟨rfl,rfl⟩) | (go_at_call 90;refine(mq _ _ ((bs.drop a).take 64) (8+ (i : Int) * 12) 4 (eP hrz dJ) (by omega) (by decide) (by decide) (by rw [Dy.out];omega) Dx).mono ?_;rw [HV.out];rintro e w2 ⟨rfl,rfl⟩) | (go_at_call 154;refine(kC _ _ _ _).mono ?_;rintro e w1 ⟨rfl,rfl⟩))
     go_ret
     exact⟨bK (by rw [rH.out,HN.out]),by repeat (first|exact Below.refl _ _|refine Below.alloc ?_ (by simp<;>omega) _|refine dA ?_ (by simp<;>omega) _ _|refine Below.drew ?_|refine below_drewN ?_ _)⟩
   ·obtain rfl : i=4:=by omega
    go_wp2
    go_ret
    exact⟨bK (by rw [rH.out,HT.out]),by repeat (first|exact Below.refl _ _|refine Below.alloc ?_ (by simp<;>omega) _|refine dA ?_ (by simp<;>omega) _ _|refine Below.drew ?_|refine below_drewN ?_ _)⟩
 ·have lH : cO 1=2:=rfl
  have hst : eu 1=20:=rfl
  rw [lH] at x2 x2'
  have rH:=Hid.aT (show iR ⟨bs,cs⟩ p=iG ⟨bs,cs⟩ p 1 2 from HF.out)
  clear HF hc hcb k0
  have h64 : a+64 - a=64:=by omega
  go_enter Tryz.func196,Tryz.ntmps196
  go_wp2
  go_quiet (fail)
  go_wp2
  go_quiet ((first| (go_at_call 179;exact jm ((kT 1 _).mono fun e w' ⟨u,v⟩ => ⟨by rw [u,lH],v⟩)) | (go_at_call 228;exact jm (ny _ _ _ (eP hrf dJ)))))
  go_wp2_with (go_at_call 179;refine(kT _ _).mono ?_;rw [lH];rintro e w2 ⟨rfl,rfl⟩)
  go_loop [7,52] (fun _ i=> ∃k : Nat,k≤2∧i= .int .i64 k∧Hid (iG ⟨bs,cs⟩ p 1 k=true)) (fun _ i=>2 - (intOf i).toNat)
  case atStart=>exact⟨0,Nat.zero_le _,rfl,rfl⟩
  case round=>
   obtain⟨i,hi,rfl,HT⟩ :=hrel
   by_cases hlt : i<2
   ·have HV:=Hid.aT (show iF ((bs.drop a).take 64) (8+ (i : Int) * 20) 4=iF bs ((a+8+i * 20 : Nat) : Int) 4 by
     have u:=D8.out (8+i * 20) (by omega)
     unfold iF
     rw [show (8+ (i : Int) * 20).toNat=8+i * 20 by omega,show (((a+8+i * 20 : Nat) : Int)).toNat=a+ (8+i * 20) by omega]
     exact u)
    have HS:=Hid.aT (show iG ⟨bs,cs⟩ p 1 (i+1) = (iG ⟨bs,cs⟩ p 1 i&&bO 1 7 (iF bs ((a+8+i * 20 : Nat) : Int) 4)) from HG.out 1 i)
    have kH:=Hid.aT (show bO 1 7 (iF bs ((a+8+i * 20 : Nat) : Int) 4) =false→iG ⟨bs,cs⟩ p 1 2=false from HG2.out 1 i 2 hlt)
    generalize iF bs ((a+8+i * 20 : Nat) : Int) 4=z at HV HS kH
    by_cases k5 : bO 1 7 z=true
    ·have HN:=Hid.aT (show iG ⟨bs,cs⟩ p 1 (i+1) =true by rw [HS.out,HT.out,k5];rfl)
     go_wp2_with (first| (go_at_call 180;refine(nL _ _).mono ?_;rw [hst];rintro e w2 ⟨rfl,rfl⟩) | (go_at_call 90;refine(mq _ _ ((bs.drop a).take 64) (8+ (i : Int) * 20) 4 (eP hrz dJ) (by omega) (by decide) (by decide) (by rw [Dy.out];omega) Dx).mono ?_;rw [HV.out];rintro e w2 ⟨rfl,rfl⟩) | (go_at_call 154;refine(kC _ _ _ _).mono ?_;rintro e w1 ⟨rfl,rfl⟩))
     go_round
     case rel=>exact⟨i+1,by omega,by go_num,HN⟩
     case measure=>simp [intOf];omega
    ·have zu : bO 1 7 z=false:= (Bool.not_eq_true _).mp k5
     have HN:=Hid.aT (kH.out zu)
     clear k5
     go_wp2_with (first| (go_at_call 180;refine(nL _ _).mono ?_;rw [hst];rintro e w2 ⟨rfl,rfl⟩) | (go_at_call 90;refine(mq _ _ ((bs.drop a).take 64) (8+ (i : Int) * 20) 4 (eP hrz dJ) (by omega) (by decide) (by decide) (by rw [Dy.out];omega) Dx).mono ?_;rw [HV.out];rintro e w2 ⟨rfl,rfl⟩) | (go_at_call 154;refine(kC _ _ _ _).mono ?_;rintro e w1 ⟨rfl,rfl⟩))
     go_ret
     exact⟨bK (by rw [rH.out,HN.out]),by repeat (first|exact Below.refl _ _|refine Below.alloc ?_ (by simp<;>omega) _|refine dA ?_ (by simp<;>omega) _ _|refine Below.drew ?_|refine below_drewN ?_ _)⟩
   ·obtain rfl : i=2:=by omega
    go_wp2
    go_ret
    exact⟨bK (by rw [rH.out,HT.out]),by repeat (first|exact Below.refl _ _|refine Below.alloc ?_ (by simp<;>omega) _|refine dA ?_ (by simp<;>omega) _ _|refine Below.drew ?_|refine below_drewN ?_ _)⟩
 ·have lH : cO 2=1:=rfl
  have hst : eu 2=44:=rfl
  rw [lH] at x2 x2'
  have rH:=Hid.aT (show iR ⟨bs,cs⟩ p=iG ⟨bs,cs⟩ p 2 1 from HF.out)
  clear HF hc hcb k0
  have h64 : a+64 - a=64:=by omega
  go_enter Tryz.func196,Tryz.ntmps196
  go_wp2
  go_quiet (fail)
  go_wp2
  go_quiet ((first| (go_at_call 179;exact jm ((kT 2 _).mono fun e w' ⟨u,v⟩ => ⟨by rw [u,lH],v⟩)) | (go_at_call 228;exact jm (ny _ _ _ (eP hrf dJ)))))
  go_wp2_with (go_at_call 179;refine(kT _ _).mono ?_;rw [lH];rintro e w2 ⟨rfl,rfl⟩)
  go_loop [7,52] (fun _ i=> ∃k : Nat,k≤1∧i= .int .i64 k∧Hid (iG ⟨bs,cs⟩ p 2 k=true)) (fun _ i=>1 - (intOf i).toNat)
  case atStart=>exact⟨0,Nat.zero_le _,rfl,rfl⟩
  case round=>
   obtain⟨i,hi,rfl,HT⟩ :=hrel
   by_cases hlt : i<1
   ·have HV:=Hid.aT (show iF ((bs.drop a).take 64) (8+ (i : Int) * 44) 4=iF bs ((a+8+i * 44 : Nat) : Int) 4 by
     have u:=D8.out (8+i * 44) (by omega)
     unfold iF
     rw [show (8+ (i : Int) * 44).toNat=8+i * 44 by omega,show (((a+8+i * 44 : Nat) : Int)).toNat=a+ (8+i * 44) by omega]
     exact u)
    have HS:=Hid.aT (show iG ⟨bs,cs⟩ p 2 (i+1) = (iG ⟨bs,cs⟩ p 2 i&&bO 1 7 (iF bs ((a+8+i * 44 : Nat) : Int) 4)) from HG.out 2 i)
    have kH:=Hid.aT (show bO 1 7 (iF bs ((a+8+i * 44 : Nat) : Int) 4) =false→iG ⟨bs,cs⟩ p 2 1=false from HG2.out 2 i 1 hlt)
    generalize iF bs ((a+8+i * 44 : Nat) : Int) 4=z at HV HS kH
    by_cases k5 : bO 1 7 z=true
    ·have HN:=Hid.aT (show iG ⟨bs,cs⟩ p 2 (i+1) =true by rw [HS.out,HT.out,k5];rfl)
     go_wp2_with (first| (go_at_call 180;refine(nL _ _).mono ?_;rw [hst];rintro e w2 ⟨rfl,rfl⟩) | (go_at_call 90;refine(mq _ _ ((bs.drop a).take 64) (8+ (i : Int) * 44) 4 (eP hrz dJ) (by omega) (by decide) (by decide) (by rw [Dy.out];omega) Dx).mono ?_;rw [HV.out];rintro e w2 ⟨rfl,rfl⟩) | (go_at_call 154;refine(kC _ _ _ _).mono ?_;rintro e w1 ⟨rfl,rfl⟩))
     go_round
     case rel=>exact⟨i+1,by omega,by go_num,HN⟩
     case measure=>simp [intOf];omega
    ·have zu : bO 1 7 z=false:= (Bool.not_eq_true _).mp k5
     have HN:=Hid.aT (kH.out zu)
     clear k5
     go_wp2_with (first| (go_at_call 180;refine(nL _ _).mono ?_;rw [hst];rintro e w2 ⟨rfl,rfl⟩) | (go_at_call 90;refine(mq _ _ ((bs.drop a).take 64) (8+ (i : Int) * 44) 4 (eP hrz dJ) (by omega) (by decide) (by decide) (by rw [Dy.out];omega) Dx).mono ?_;rw [HV.out];rintro e w2 ⟨rfl,rfl⟩) | (go_at_call 154;refine(kC _ _ _ _).mono ?_;rintro e w1 ⟨rfl,rfl⟩))
     go_ret
     exact⟨bK (by rw [rH.out,HN.out]),by repeat (first|exact Below.refl _ _|refine Below.alloc ?_ (by simp<;>omega) _|refine dA ?_ (by simp<;>omega) _ _|refine Below.drew ?_|refine below_drewN ?_ _)⟩
   ·obtain rfl : i=1:=by omega
    go_wp2
    go_ret
    exact⟨bK (by rw [rH.out,HT.out]),by repeat (first|exact Below.refl _ _|refine Below.alloc ?_ (by simp<;>omega) _|refine dA ?_ (by simp<;>omega) _ _|refine Below.drew ?_|refine below_drewN ?_ _)⟩
end Go.Proofs.YtkmggglljkmjoaaGreat
