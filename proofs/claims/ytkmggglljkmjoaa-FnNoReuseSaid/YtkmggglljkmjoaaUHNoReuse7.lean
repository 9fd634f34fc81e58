/-
  Several texts in one: lemmas and contracts that the claim rests on.
-/
import Derived.Test.YtkmggglljkmjoaaUHNoReuse2
import Derived.Test.YtkmggglljkmjoaaUHNoReuse1
import Derived.Deep.QuietTactic
import Derived.BigQuiet
import Derived.Deep.LoopGhost
import Derived.Deep.RegionHeld3
import Derived.WalkSpells
import Derived.Laws.Cover3
import Derived.Test.YtkmggglljkmjoaaUHNoReuse5
namespace Go.Proofs.Ytkmggglljkmjoaa
open Go.RowKit
set_option maxHeartbeats 1000000 in
theorem nV (p i : Int)(w : World) : Calls Try.prog 80 #[.int .i64 p, .int .i64 i] w fun e w'=>e= .returned (.int .i64 (iq p i)) ∧w=w':=by
 by_cases h1 : aW 0 5 p=true
 case neg=>
  have h1' : aW 0 5 p=false:= (Bool.not_eq_true _).mp h1
  have HS:=Hid.aD (show iq p i= -1 from if_neg (fun hh=>h1 hh.1))
  clear h1
  go_enter Try.func80,Try.ntmps80
  go_wp2_with (go_at_call 26;refine(g_ _ _ _ _).mono ?_;rintro e w1 ⟨rfl,rfl⟩)
  go_ret
  exact⟨bU HS.out.symm,rfl⟩
 by_cases h2 : aW 0 3 i=true
 case neg=>
  have h2' : aW 0 3 i=false:= (Bool.not_eq_true _).mp h2
  have HS:=Hid.aD (show iq p i= -1 from if_neg (fun hh=>h2 hh.2))
  clear h2
  go_enter Try.func80,Try.ntmps80
  go_wp2_with (go_at_call 26;refine(g_ _ _ _ _).mono ?_;rintro e w1 ⟨rfl,rfl⟩)
  go_ret
  exact⟨bU HS.out.symm,rfl⟩
 have HS:=Hid.aD (show iq p i=p * 4+i from if_pos ⟨h1,h2⟩)
 obtain⟨a1,a2⟩ :=bD.1 h1
 obtain⟨b1,b2⟩ :=bD.1 h2
 go_enter Try.func80,Try.ntmps80
 go_wp2_with (go_at_call 26;refine(g_ _ _ _ _).mono ?_;rintro e w1 ⟨rfl,rfl⟩)
 go_ret
 exact⟨bU HS.out.symm,rfl⟩
theorem mP {b : List Int}{lo m : Nat}(h1 : lo≤m)(h2 : m<b.length)(hz : fT ((b.drop lo).take (m - lo)) =true)(h0 : b.getD m 0=0) : fT ((b.drop lo).take (m+1 - lo)) =true:=by
 unfold fT at *
 rw [show m+1 - lo= (m - lo) +1 by omega,List.take_succ_eq_append_getElem (by rw [List.length_drop];omega),List.all_append,hz]
 rw [getD_at h2] at h0
 simp only [List.getElem_drop,List.all_cons,List.all_nil,Bool.and_true,Bool.true_and]
 rw [show b[lo+ (m - lo)]=b[m] by congr 1;omega,h0]
 rfl
theorem o7 {b : List Int}{lo n m : Nat}(h1 : lo≤m)(h2 : m<b.length)(h3 : m<lo+n)(h0 : b.getD m 0≠0) : fT ((b.drop lo).take n) =false:=by
 unfold fT
 rw [List.all_eq_false]
 refine⟨b[m], ?_, ?_⟩
 ·rw [List.mem_take_iff_getElem]
  refine⟨m - lo,by rw [List.length_drop];omega, ?_⟩
  rw [List.getElem_drop]
  congr 1
  omega
 ·rw [getD_at h2] at h0
  simpa using h0
theorem tJ {p i : Nat}{c : Int}(hp : p<6)(hc : aW 0 2 c=true)(hi : i< (bq c).toNat) : fq (iq p i) c= ((p * 64+8+i * (bS c).toNat : Nat) : Int) :=by
 have a:=lF c
 have e : iq p i= (p : Int) * 4+i:=if_pos ⟨bD.2 ⟨by omega,by omega⟩,bD.2 ⟨by omega,by omega⟩⟩
 have e1 : ((p : Int) * 4+i) / 4=p:=by omega
 have e2 : ((p : Int) * 4+i) %4=i:=by omega
 rw [e,j5 (bD.2 ⟨by omega,by omega⟩) hc (by rw [e2];omega),e1,e2]
 rcases cls hc with rfl|rfl|rfl
 ·show (p : Int) * 64+8+i * 12= ((p * 64+8+i * 12 : Nat) : Int)
  omega
 ·show (p : Int) * 64+8+i * 20= ((p * 64+8+i * 20 : Nat) : Int)
  omega
 ·show (p : Int) * 64+8+i * 44= ((p * 64+8+i * 44 : Nat) : Int)
  omega
theorem dx {P : Program}{f : FuncId}{args : Array Value}{w : World}{n : Nat}{v : Value}
  (h : Calls P f args (w.drewN n) fun e w'=>e= .returned v∧w.drewN n=w') : Calls P f args (w.drewN n) fun e w''=>e= .returned v∧ ∃m,w''=w.drewN m:=
 h.mono fun _ _ ⟨he,hm⟩ => ⟨he,n,hm.symm⟩
set_option maxRecDepth 100000 in
set_option maxHeartbeats 4000000 in
theorem rA (w : World)(H : dA)(x : Heap)(p : Nat)(hp : p<6)(h : fZ w w.heap.size H x)(hs : d_ x=true) :
  Calls Try.prog 56 #[.agg #[.slice H.Y.a H.Y.l H.Y.c, .slice H.Z.a H.Z.l H.Z.c], .int .i64 p] w fun e w'=>e= .returned (.bool (eu x p)) ∧Below w.heap.size w w':=by
 obtain⟨⟨A1,n1,c1⟩, ⟨A2,n2,c2⟩⟩ :=H
 obtain⟨bs,cs⟩ :=x
 have hr1 : dz FI w w.heap.size (.slice A1 n1 c1) bs:=h.Y
 have hr2 : dz FI w w.heap.size (.slice A2 n2 c2) cs:=h.Z
 obtain⟨_,_,hv,q1,q2,qx⟩ :=id hr1
 simp only [Value.slice.injEq] at hv
 obtain⟨rfl,rfl,rfl⟩ :=hv
 have hlt1 : bs.length≤9223372036854775807:=by unfold maxLen at q2;omega
 clear q1 q2 qx
 obtain⟨_,_,hv,q1,q2,qx⟩ :=id hr2
 simp only [Value.slice.injEq] at hv
 obtain⟨rfl,rfl,rfl⟩ :=hv
 have hlt2 : cs.length≤9223372036854775807:=by unfold maxLen at q2;omega
 clear q1 q2 qx h
 have sh:=gQ hs
 have nJ:=sh.cl
 have tH:=sh.bl
 have hby:=sh.Bc
 have hcb:=sh.cs p
 simp only at nJ tH hby hcb
 have hpl : p<cs.length:=by omega
 have HE:=Hid.aD (show eu ⟨bs,cs⟩ p= (if cs.getD p (-1) <0 then fT ((bs.drop (p * 64)).take 64) else (bs.getD (p * 64) 0 == 171) && (bs.getD (p * 64+1) 0 == cs.getD p (-1)) && (bs.getD (p * 64+2) 0 == bq (cs.getD p (-1))) &&fT ((bs.drop (p * 64+3)).take 5) &&dU ⟨bs,cs⟩ p (cs.getD p (-1)) (bq (cs.getD p (-1))).toNat) from rfl)
 show Calls Try.prog 56 #[.agg #[.slice A1 bs.length c1, .slice A2 cs.length c2], .int .i64 p] _ _
 obtain⟨g2,off2,cap2,he,hg2,_,_,hc2⟩ :=hr2.at_ (show cs[p]? =some (cs.getD p (-1)) by rw [getD_at hpl];exact List.getElem?_eq_getElem hpl)
 injection he with he1 he2 gq
 clear he2
 subst he1 gq
 have p0 : w.cell? ⟨g2,off2+p,none⟩ =some (.int .i64 (cs.getD p (-1))) :=by simpa [FI] using hc2 0 _ rfl
 clear hc2
 have HG:=Hid.aD (fun c k=>tF ⟨bs,cs⟩ p c k)
 have HG2:=Hid.aD (fun c k n=>wG (h:= ⟨bs,cs⟩) (p:=p) (c:=c) (k:=k) (n:=n))
 have HR:=Hid.aD (fun c hc i=>jM (c:=c) hc (i:=i))
 generalize cs.getD p (-1) =c at p0 hcb HE
 obtain⟨g1,off1,wC,he,hg1,Ei,Ej,hc1⟩ :=hr1.at_ (show bs[p * 64]? =some (bs.getD (p * 64) 0) by rw [getD_at (by omega)];exact List.getElem?_eq_getElem (by omega))
 injection he with he1 he2 gq
 clear he2
 subst he1 gq
 have x0 : w.cell? ⟨g1,off1+p * 64,none⟩ =some (.int .i64 (bs.getD (p * 64) 0)) :=by simpa [FI] using hc1 0 _ rfl
 obtain⟨g1',oW,oZ,he,_,_,_,hc1⟩ :=hr1.at_ (show bs[p * 64+1]? =some (bs.getD (p * 64+1) 0) by rw [getD_at (by omega)];exact List.getElem?_eq_getElem (by omega))
 injection he with he1 he2 gq
 injection he1 with he1
 injection he1 with he1 lI
 subst he1 gq lI
 have x1 : w.cell? ⟨g1,off1+ (p * 64+1),none⟩ =some (.int .i64 (bs.getD (p * 64+1) 0)) :=by simpa [FI] using hc1 0 _ rfl
 obtain⟨g1',oW,oZ,he,_,_,_,hc1⟩ :=hr1.at_ (show bs[p * 64+2]? =some (bs.getD (p * 64+2) 0) by rw [getD_at (by omega)];exact List.getElem?_eq_getElem (by omega))
 injection he with he1 he2 gq
 injection he1 with he1
 injection he1 with he1 lI
 subst he1 gq lI
 have x2 : w.cell? ⟨g1,off1+ (p * 64+2),none⟩ =some (.int .i64 (bs.getD (p * 64+2) 0)) :=by simpa [FI] using hc1 0 _ rfl
 clear hc1 he2 sh hs
 have hrz:=hr1.uM (p * 64) 64 (by omega)
 have hrf:=hr1.uM (p * 64+3) 5 (by omega)
 rw [←Nat.add_assoc,Nat.sub_add_eq] at hrf
 have Di : 384≤bs.length:=by omega
 have hb6 : 6≤cs.length:=by omega
 clear tH nJ
 have x1' : w.cell? ⟨g1,off1+p * 64+1,none⟩ =some (.int .i64 (bs.getD (p * 64+1) 0)) :=by rw [Nat.add_assoc];exact x1
 have x2' : w.cell? ⟨g1,off1+p * 64+2,none⟩ =some (.int .i64 (bs.getD (p * 64+2) 0)) :=by rw [Nat.add_assoc];exact x2
 generalize bs.getD (p * 64) 0=y0 at x0 HE
 generalize bs.getD (p * 64+1) 0=y1 at x1 x1' HE
 generalize bs.getD (p * 64+2) 0=y2 at x2 x2' HE
 have wI:=Hid.aD (fun c hc i=>tJ (p:=p) (i:=i) (c:=c) hp hc)
 have e1 : (p : Int) * 64= ((p * 64 : Nat) : Int) :=by omega
 have ha : p * 64+64≤bs.length:=by omega
 generalize p * 64=a at *
 by_cases k0 : c<0
 ·have hd0 : decide (c<0) =true:=by simpa using k0
  rw [if_pos k0] at HE
  clear HG HG2 HR wI
  go_enter Try.func56,Try.ntmps56
  go_wp2
  generalize hW : (w.alloc (.cells #[.slice (some ⟨g1,off1,none⟩) bs.length c1, .slice (some ⟨g2,off2,none⟩) cs.length c2] 26)) =w0
  have hB0 : Below w.heap.size w w0:=by rw [←hW];repeat (first|exact Below.refl _ _|refine Below.alloc ?_ (by simp<;>omega) _|refine bE ?_ (by simp<;>omega) _ _|refine Below.drew ?_|refine below_drewN ?_ _)
  have q0 : w0.cell? ⟨w.heap.size,0,none⟩ =some (.slice (some ⟨g1,off1,none⟩) bs.length c1) :=by rw [←hW];simp [go_sem]
  clear hW
  go_loop [7] (fun i=> ∃m : Nat,a≤m∧m≤a+64∧i= .int .i64 m∧Hid (fT ((bs.drop (a)).take (m - (a))) =true)) (fun i=>a+64 - (intOf i).toNat)
  case atStart=>exact⟨a,Nat.le_refl _,by omega,by go_num,Hid.aD (by rw [Nat.sub_self];rfl)⟩
  case round=>
   obtain⟨m,hm1,hm2,rfl,HT⟩ :=hrel
   by_cases hlt : m<a+64
   ·have ht : decide ((m : Int) < (a : Int) +64) =true:=decide_eq_true (by omega)
    have ht' : (m : Int) < (a : Int) +64:=by omega
    have hmb : m<bs.length:=by omega
    obtain⟨g1',oW,oZ,he,_,_,_,hc1⟩ := (hr1.below hB0).at_ (show bs[m]? =some (bs.getD m 0) by rw [getD_at hmb];exact List.getElem?_eq_getElem hmb)
    injection he with he1 he2 gq
    injection he1 with he1
    injection he1 with he1 lI
    subst he1 gq lI
    have x0 : w0.cell? ⟨g1,off1+m,none⟩ =some (.int .i64 (bs.getD m 0)) :=by simpa [FI] using hc1 0 _ rfl
    clear hc1 he2
    have HS:=Hid.aD (fun h0=>mP (b:=bs) hm1 hmb HT.out h0)
    have gK:=Hid.aD (fun h0=>o7 (b:=bs) (n:=64) hm1 hmb hlt h0)
    generalize bs.getD m 0=y at x0 HS gK
    by_cases hy : y=0
    ·have HN:=Hid.aD (HS.out hy)
     have hy' : (y != 0) =false:=by simpa using hy
     clear hy
     go_wp2
     go_round
     case rel=>exact⟨m+1,by omega,by omega,by go_num,HN⟩
     case measure=>simp [intOf];omega
    ·have HN:=Hid.aD (gK.out hy)
     have hy' : (y != 0) =true:=by simpa using hy
     clear hy
     go_wp2
     go_ret
     exact⟨aS (by rw [HE.out,HN.out]), (by first|exact hB0|exact hB0.drew|exact below_drewN hB0 _)⟩
   ·obtain rfl : m=a+64:=by omega
    have HN:=Hid.aD (show fT ((bs.drop (a)).take 64) =true by have u:=HT.out;rwa [show a+64 - (a) =64 by omega] at u)
    have ht : decide (((a+64 : Nat) : Int) < (a : Int) +64) =false:=decide_eq_false (by omega)
    clear HT
    go_wp2
    go_ret
    exact⟨aS (by rw [HE.out,HN.out]), (by first|exact hB0|exact hB0.drew|exact below_drewN hB0 _)⟩
 rw [if_neg k0] at HE
 have hd0 : decide (c<0) =false:=by simpa using k0
 have hc : aW 0 2 c=true:=bD.2 ⟨by omega,hcb.2⟩
 by_cases k1 : y0=171
 case neg=>
  have k1' : (y0 != 171) =true:=by simpa using k1
  have K1:=Hid.aD (show (y0 == 171) =false by simpa using k1)
  clear k1 HG HG2 HR wI
  go_enter Try.func56,Try.ntmps56
  go_wp2
  go_quiet ((go_at_call 79;exact dx (d9 _ _)))
  go_wp2
  go_ret
  exact⟨aS (by rw [HE.out];rw [K1.out];simp),by repeat (first|exact Below.refl _ _|refine Below.alloc ?_ (by simp<;>omega) _|refine bE ?_ (by simp<;>omega) _ _|refine Below.drew ?_|refine below_drewN ?_ _)⟩
 subst k1
 by_cases k2 : y1=c
 case neg=>
  have k2' : (y1 != c) =true:=by simpa using k2
  have K2:=Hid.aD (show (y1 == c) =false by simpa using k2)
  clear k2 HG HG2 HR wI
  go_enter Try.func56,Try.ntmps56
  go_wp2
  go_quiet ((go_at_call 79;exact dx (d9 _ _)))
  go_wp2
  go_ret
  exact⟨aS (by rw [HE.out];rw [K2.out];simp),by repeat (first|exact Below.refl _ _|refine Below.alloc ?_ (by simp<;>omega) _|refine bE ?_ (by simp<;>omega) _ _|refine Below.drew ?_|refine below_drewN ?_ _)⟩
 subst k2
 by_cases k3 : y2=bq y1
 case neg=>
  have lJ : (y2 != bq y1) =true:=by simpa using k3
  have K3:=Hid.aD (show (y2 == bq y1) =false by simpa using k3)
  clear k3 HG HG2 HR wI
  go_enter Try.func56,Try.ntmps56
  go_wp2
  go_quiet ((go_at_call 79;exact dx (d9 _ _)))
  go_wp2
  go_ret
  exact⟨aS (by rw [HE.out];rw [K3.out];simp),by repeat (first|exact Below.refl _ _|refine Below.alloc ?_ (by simp<;>omega) _|refine bE ?_ (by simp<;>omega) _ _|refine Below.drew ?_|refine below_drewN ?_ _)⟩
 subst k3
 have HF:=Hid.aD (show eu ⟨bs,cs⟩ p= (fT ((bs.drop (a+3)).take 5) &&dU ⟨bs,cs⟩ p y1 (bq y1).toNat) by rw [HE.out];simp)
 clear HE
 rcases cls hc with rfl|rfl|rfl
 ·have iy : bq 0=4:=rfl
  have wJ : (bS 0).toNat=12:=rfl
  rw [iy] at x2 x2'
  have kZ:=Hid.aD (show eu ⟨bs,cs⟩ p= (fT ((bs.drop (a+3)).take 5) &&dU ⟨bs,cs⟩ p 0 4) from HF.out)
  clear HF hcb k0
  go_enter Try.func56,Try.ntmps56
  go_wp2
  go_quiet ((go_at_call 79;exact dx ((d9 0 _).mono fun e w' ⟨u,v⟩ => ⟨by rw [u,iy],v⟩)))
  generalize hW : World.drewN _ _=w0
  have hB0 : Below w.heap.size w w0:=by rw [←hW];repeat (first|exact Below.refl _ _|refine Below.alloc ?_ (by simp<;>omega) _|refine bE ?_ (by simp<;>omega) _ _|refine Below.drew ?_|refine below_drewN ?_ _)
  have q0 : w0.cell? ⟨w.heap.size,0,none⟩ =some (.slice (some ⟨g1,off1,none⟩) bs.length c1) :=by rw [←hW];simp [go_sem]
  have q1 : w0.cell? ⟨w.heap.size,1,none⟩ =some (.slice (some ⟨g2,off2,none⟩) cs.length c2) :=by rw [←hW];simp [go_sem]
  clear hW
  clear x0 x1 x2 x1' x2' p0
  go_wp2
  go_loop [8] (fun i=> ∃m : Nat,a+3≤m∧m≤a+3+5∧i= .int .i64 m∧Hid (fT ((bs.drop (a+3)).take (m - (a+3))) =true)) (fun i=>a+3+5 - (intOf i).toNat)
  case atStart=>exact⟨a+3,Nat.le_refl _,by omega,by go_num,Hid.aD (by rw [Nat.sub_self];rfl)⟩
  case round=>
   obtain⟨m,hm1,hm2,rfl,HT⟩ :=hrel
   by_cases hlt : m<a+3+5
   ·have ht : decide ((m : Int) < (a : Int) +8) =true:=decide_eq_true (by omega)
    have ht' : (m : Int) < (a : Int) +8:=by omega
    have hmb : m<bs.length:=by omega
    obtain⟨g1',oW,oZ,he,_,_,_,hc1⟩ := (hr1.below hB0).at_ (show bs[m]? =some (bs.getD m 0) by rw [getD_at hmb];exact List.getElem?_eq_getElem hmb)
    injection he with he1 he2 gq
    injection he1 with he1
    injection he1 with he1 lI
    subst he1 gq lI
    have x0 : w0.cell? ⟨g1,off1+m,none⟩ =some (.int .i64 (bs.getD m 0)) :=by simpa [FI] using hc1 0 _ rfl
    clear hc1 he2
    have HS:=Hid.aD (fun h0=>mP (b:=bs) hm1 hmb HT.out h0)
    have gK:=Hid.aD (fun h0=>o7 (b:=bs) (n:=5) hm1 hmb hlt h0)
    generalize bs.getD m 0=y at x0 HS gK
    by_cases hy : y=0
    ·have HN:=Hid.aD (HS.out hy)
     have hy' : (y != 0) =false:=by simpa using hy
     clear hy
     go_wp2
     go_round
     case rel=>exact⟨m+1,by omega,by omega,by go_num,HN⟩
     case measure=>simp [intOf];omega
    ·have HN:=Hid.aD (gK.out hy)
     have hy' : (y != 0) =true:=by simpa using hy
     clear hy
     go_wp2
     go_ret
     exact⟨aS (by rw [kZ.out,HN.out];rfl), (by first|exact hB0|exact hB0.drew|exact below_drewN hB0 _)⟩
   ·obtain rfl : m=a+3+5:=by omega
    have HN:=Hid.aD (show fT ((bs.drop (a+3)).take 5) =true by have u:=HT.out;rwa [show a+3+5 - (a+3) =5 by omega] at u)
    have ht : decide (((a+3+5 : Nat) : Int) < (a : Int) +8) =false:=decide_eq_false (by omega)
    clear HT
    go_wp2_with (go_at_call 79;refine(d9 _ _).mono ?_;rw [iy];rintro e w2 ⟨rfl,rfl⟩)
    go_loopw [9] (fun i wr=> ∃k : Nat,k≤4∧i= .int .i64 k∧Hid (dU ⟨bs,cs⟩ p 0 k=true) ∧Below w.heap.size w wr∧wr.cell? ⟨w.heap.size,0,none⟩ =some (.slice (some ⟨g1,off1,none⟩) bs.length c1)) (fun i _=>4 - (intOf i).toNat)
    case atStart=>exact⟨0,Nat.zero_le _,rfl,rfl,hB0,q0⟩
    case round=>
     obtain⟨i,hi,rfl,HT,hB1,r0⟩ :=hrel
     clear hB0 q0 q1 hr2
     by_cases hlt : i<4
     ·have nL:=Hid.aD (wI.out 0 hc i hlt)
      have hroom:=HR.out 0 hc i hlt
      rw [wJ] at nL hroom
      have HS:=Hid.aD (show dU ⟨bs,cs⟩ p 0 (i+1) = (dU ⟨bs,cs⟩ p 0 i&&aW 1 7 (fu bs ((a+8+i * 12 : Nat) : Int) 4)) from HG.out 0 i)
      have gK:=Hid.aD (show aW 1 7 (fu bs ((a+8+i * 12 : Nat) : Int) 4) =false→dU ⟨bs,cs⟩ p 0 4=false from HG2.out 0 i 4 hlt)
      have nk : ∀W : World,Calls Try.prog 80 #[.int .i64 p, .int .i64 i] W fun e w'=>e= .returned (.int .i64 (iq p i)) ∧W=w':=fun W=>nV p i W
      have lN : ∀W : World,Calls Try.prog 77 #[.int .i64 (iq p i), .int .i64 0] W fun e w'=>e= .returned (.int .i64 ((a+8+i * 12 : Nat) : Int)) ∧W=w':=fun W=> (mM _ 0 W).mono fun e w' ⟨u,v⟩ => ⟨by rw [u,nL.out],v⟩
      have hge : a+8+i * 12+4≤bs.length:=by omega
      have lQ : ∀W : World,Below w.heap.size w W→Calls Try.prog 76 #[.slice (some ⟨g1,off1,none⟩) bs.length c1, .int .i64 ((a+8+i * 12 : Nat) : Int), .int .i64 4] W fun e w'=>e= .returned (.int .i64 (fu bs ((a+8+i * 12 : Nat) : Int) 4)) ∧W=w':=fun W hW=>mg W _ bs _ 4 (dh hr1 hW) (by omega) (by decide) (by decide) (by omega) hby
      generalize fu bs ((a+8+i * 12 : Nat) : Int) 4=z at lQ HS gK
      generalize a+8+i * 12=ga at lN lQ hge
      generalize iq p i=sl at nk lN
      by_cases k5 : aW 1 7 z=true
      ·have HN:=Hid.aD (show dU ⟨bs,cs⟩ p 0 (i+1) =true by rw [HS.out,HT.out,k5];rfl)
       clear HS gK nL hroom
       go_wp2_with (go_at_call 79;refine(d9 _ _).mono ?_;rw [iy];rintro e w2 ⟨rfl,rfl⟩)
       go_quiet ((first| (go_at_call 80;exact dx (nk _)) | (go_at_call 77;exact dx (lN _)) | (go_at_call 76;exact dx (lQ _ (by first|exact hB1|exact hB1.drew|exact below_drewN hB1 _))) | (go_at_call 26;exact dx (g_ _ _ _ _))))
       go_wp2
       go_roundw
       case rel=>exact⟨i+1,by omega,by go_num,HN,by first|exact hB1|exact hB1.drew|exact below_drewN hB1 _,by first|exact r0|simpa [go_sem] using r0⟩
       case measure=>simp [intOf];omega
      ·have qB : aW 1 7 z=false:= (Bool.not_eq_true _).mp k5
       have zA:=Hid.aD (gK.out qB)
       clear k5 HS gK nL hroom
       go_wp2_with (go_at_call 79;refine(d9 _ _).mono ?_;rw [iy];rintro e w2 ⟨rfl,rfl⟩)
       go_quiet ((first| (go_at_call 80;exact dx (nk _)) | (go_at_call 77;exact dx (lN _)) | (go_at_call 76;exact dx (lQ _ (by first|exact hB1|exact hB1.drew|exact below_drewN hB1 _))) | (go_at_call 26;exact dx (g_ _ _ _ _))))
       go_wp2
       go_ret
       exact⟨aS (by rw [kZ.out,zA.out];simp),by first|exact hB1|exact hB1.drew|exact below_drewN hB1 _⟩
     ·obtain rfl : i=4:=by omega
      go_wp2_with (go_at_call 79;refine(d9 _ _).mono ?_;rw [iy];rintro e w2 ⟨rfl,rfl⟩)
      go_ret
      exact⟨aS (by rw [kZ.out,HN.out,HT.out];rfl),by first|exact hB1|exact hB1.drew|exact below_drewN hB1 _⟩
 ·have iy : bq 1=2:=rfl
  have wJ : (bS 1).toNat=20:=rfl
  rw [iy] at x2 x2'
  have kZ:=Hid.aD (show eu ⟨bs,cs⟩ p= (fT ((bs.drop (a+3)).take 5) &&dU ⟨bs,cs⟩ p 1 2) from HF.out)
  clear HF hcb k0
  go_enter Try.func56,Try.ntmps56
  go_wp2
  go_quiet ((go_at_call 79;exact dx ((d9 1 _).mono fun e w' ⟨u,v⟩ => ⟨by rw [u,iy],v⟩)))
  generalize hW : World.drewN _ _=w0
  have hB0 : Below w.heap.size w w0:=by rw [←hW];repeat (first|exact Below.refl _ _|refine Below.alloc ?_ (by simp<;>omega) _|refine bE ?_ (by simp<;>omega) _ _|refine Below.drew ?_|refine below_drewN ?_ _)
  have q0 : w0.cell? ⟨w.heap.size,0,none⟩ =some (.slice (some ⟨g1,off1,none⟩) bs.length c1) :=by rw [←hW];simp [go_sem]
  have q1 : w0.cell? ⟨w.heap.size,1,none⟩ =some (.slice (some ⟨g2,off2,none⟩) cs.length c2) :=by rw [←hW];simp [go_sem]
  clear hW
  clear x0 x1 x2 x1' x2' p0
  go_wp2
  go_loop [8] (fun i=> ∃m : Nat,a+3≤m∧m≤a+3+5∧i= .int .i64 m∧Hid (fT ((bs.drop (a+3)).take (m - (a+3))) =true)) (fun i=>a+3+5 - (intOf i).toNat)
  case atStart=>exact⟨a+3,Nat.le_refl _,by omega,by go_num,Hid.aD (by rw [Nat.sub_self];rfl)⟩
  case round=>
   obtain⟨m,hm1,hm2,rfl,HT⟩ :=hrel
   by_cases hlt : m<a+3+5
   ·have ht : decide ((m : Int) < (a : Int) +8) =true:=decide_eq_true (by omega)
    have ht' : (m : Int) < (a : Int) +8:=by omega
    have hmb : m<bs.length:=by omega
    obtain⟨g1',oW,oZ,he,_,_,_,hc1⟩ := (hr1.below hB0).at_ (show bs[m]? =some (bs.getD m 0) by rw [getD_at hmb];exact List.getElem?_eq_getElem hmb)
    injection he with he1 he2 gq
    injection he1 with he1
    injection he1 with he1 lI
    subst he1 gq lI
    have x0 : w0.cell? ⟨g1,off1+m,none⟩ =some (.int .i64 (bs.getD m 0)) :=by simpa [FI] using hc1 0 _ rfl
    clear hc1 he2
    have HS:=Hid.aD (fun h0=>mP (b:=bs) hm1 hmb HT.out h0)
    have gK:=Hid.aD (fun h0=>o7 (b:=bs) (n:=5) hm1 hmb hlt h0)
    generalize bs.getD m 0=y at x0 HS gK
    by_cases hy : y=0
    ·have HN:=Hid.aD (HS.out hy)
     have hy' : (y != 0) =false:=by simpa using hy
     clear hy
     go_wp2
     go_round
     case rel=>exact⟨m+1,by omega,by omega,by go_num,HN⟩
     case measure=>simp [intOf];omega
    ·have HN:=Hid.aD (gK.out hy)
     have hy' : (y != 0) =true:=by simpa using hy
     clear hy
     go_wp2
     go_ret
     exact⟨aS (by rw [kZ.out,HN.out];rfl), (by first|exact hB0|exact hB0.drew|exact below_drewN hB0 _)⟩
   ·obtain rfl : m=a+3+5:=by omega
    have HN:=Hid.aD (show fT ((bs.drop (a+3)).take 5) =true by have u:=HT.out;rwa [show a+3+5 - (a+3) =5 by omega] at u)
    have ht : decide (((a+3+5 : Nat) : Int) < (a : Int) +8) =false:=decide_eq_false (by omega)
    clear HT
    go_wp2_with (go_at_call 79;refine(d9 _ _).mono ?_;rw [iy];rintro e w2 ⟨rfl,rfl⟩)
    go_loopw [9] (fun i wr=> ∃k : Nat,k≤2∧i= .int .i64 k∧Hid (dU ⟨bs,cs⟩ p 1 k=true) ∧Below w.heap.size w wr∧wr.cell? ⟨w.heap.size,0,none⟩ =some (.slice (some ⟨g1,off1,none⟩) bs.length c1)) (fun i _=>2 - (intOf i).toNat)
    case atStart=>exact⟨0,Nat.zero_le _,rfl,rfl,hB0,q0⟩
    case round=>
     obtain⟨i,hi,rfl,HT,hB1,r0⟩ :=hrel
     clear hB0 q0 q1 hr2
     by_cases hlt : i<2
     ·have nL:=Hid.aD (wI.out 1 hc i hlt)
      have hroom:=HR.out 1 hc i hlt
      rw [wJ] at nL hroom
      have HS:=Hid.aD (show dU ⟨bs,cs⟩ p 1 (i+1) = (dU ⟨bs,cs⟩ p 1 i&&aW 1 7 (fu bs ((a+8+i * 20 : Nat) : Int) 4)) from HG.out 1 i)
      have gK:=Hid.aD (show aW 1 7 (fu bs ((a+8+i * 20 : Nat) : Int) 4) =false→dU ⟨bs,cs⟩ p 1 2=false from HG2.out 1 i 2 hlt)
      have nk : ∀W : World,Calls Try.prog 80 #[.int .i64 p, .int .i64 i] W fun e w'=>e= .returned (.int .i64 (iq p i)) ∧W=w':=fun W=>nV p i W
      have lN : ∀W : World,Calls Try.prog 77 #[.int .i64 (iq p i), .int .i64 1] W fun e w'=>e= .returned (.int .i64 ((a+8+i * 20 : Nat) : Int)) ∧W=w':=fun W=> (mM _ 1 W).mono fun e w' ⟨u,v⟩ => ⟨by rw [u,nL.out],v⟩
      have hge : a+8+i * 20+4≤bs.length:=by omega
      have lQ : ∀W : World,Below w.heap.size w W→Calls Try.prog 76 #[.slice (some ⟨g1,off1,none⟩) bs.length c1, .int .i64 ((a+8+i * 20 : Nat) : Int), .int .i64 4] W fun e w'=>e= .returned (.int .i64 (fu bs ((a+8+i * 20 : Nat) : Int) 4)) ∧W=w':=fun W hW=>mg W _ bs _ 4 (dh hr1 hW) (by omega) (by decide) (by decide) (by omega) hby
      generalize fu bs ((a+8+i * 20 : Nat) : Int) 4=z at lQ HS gK
      generalize a+8+i * 20=ga at lN lQ hge
      generalize iq p i=sl at nk lN
      by_cases k5 : aW 1 7 z=true
      ·have HN:=Hid.aD (show dU ⟨bs,cs⟩ p 1 (i+1) =true by rw [HS.out,HT.out,k5];rfl)
       clear HS gK nL hroom
       go_wp2_with (go_at_call 79;refine(d9 _ _).mono ?_;rw [iy];rintro e w2 ⟨rfl,rfl⟩)
       go_quiet ((first| (go_at_call 80;exact dx (nk _)) | (go_at_call 77;exact dx (lN _)) | (go_at_call 76;exact dx (lQ _ (by first|exact hB1|exact hB1.drew|exact below_drewN hB1 _))) | (go_at_call 26;exact dx (g_ _ _ _ _))))
       go_wp2
       go_roundw
       case rel=>exact⟨i+1,by omega,by go_num,HN,by first|exact hB1|exact hB1.drew|exact below_drewN hB1 _,by first|exact r0|simpa [go_sem] using r0⟩
       case measure=>simp [intOf];omega
      ·have qB : aW 1 7 z=false:= (Bool.not_eq_true _).mp k5
       have zA:=Hid.aD (gK.out qB)
       clear k5 HS gK nL hroom
       go_wp2_with (go_at_call 79;refine(d9 _ _).mono ?_;rw [iy];rintro e w2 ⟨rfl,rfl⟩)
       go_quiet ((first| (go_at_call 80;exact dx (nk _)) | (go_at_call 77;exact dx (lN _)) | (go_at_call 76;exact dx (lQ _ (by first|exact hB1|exact hB1.drew|exact below_drewN hB1 _))) | (go_at_call 26;exact dx (g_ _ _ _ _))))
       go_wp2
       go_ret
       exact⟨aS (by rw [kZ.out,zA.out];simp),by first|exact hB1|exact hB1.drew|exact below_drewN hB1 _⟩
     ·obtain rfl : i=2:=by omega
      go_wp2_with (go_at_call 79;refine(d9 _ _).mono ?_;rw [iy];rintro e w2 ⟨rfl,rfl⟩)
      go_ret
      exact⟨aS (by rw [kZ.out,HN.out,HT.out];rfl),by first|exact hB1|exact hB1.drew|exact below_drewN hB1 _⟩
 ·have iy : bq 2=1:=rfl
  have wJ : (bS 2).toNat=44:=rfl
  rw [iy] at x2 x2'
  have kZ:=Hid.aD (show eu ⟨bs,cs⟩ p= (fT ((bs.drop (a+3)).take 5) &&dU ⟨bs,cs⟩ p 2 1) from HF.out)
  clear HF hcb k0
  go_enter Try.func56,Try.ntmps56
  go_wp2
  go_quiet ((go_at_call 79;exact dx ((d9 2 _).mono fun e w' ⟨u,v⟩ => ⟨by rw [u,iy],v⟩)))
  generalize hW : World.drewN _ _=w0
  have hB0 : Below w.heap.size w w0:=by rw [←hW];repeat (first|exact Below.refl _ _|refine Below.alloc ?_ (by simp<;>omega) _|refine bE ?_ (by simp<;>omega) _ _|refine Below.drew ?_|refine below_drewN ?_ _)
  have q0 : w0.cell? ⟨w.heap.size,0,none⟩ =some (.slice (some ⟨g1,off1,none⟩) bs.length c1) :=by rw [←hW];simp [go_sem]
  have q1 : w0.cell? ⟨w.heap.size,1,none⟩ =some (.slice (some ⟨g2,off2,none⟩) cs.length c2) :=by rw [←hW];simp [go_sem]
  clear hW
  clear x0 x1 x2 x1' x2' p0
  go_wp2
  go_loop [8] (fun i=> ∃m : Nat,a+3≤m∧m≤a+3+5∧i= .int .i64 m∧Hid (fT ((bs.drop (a+3)).take (m - (a+3))) =true)) (fun i=>a+3+5 - (intOf i).toNat)
  case atStart=>exact⟨a+3,Nat.le_refl _,by omega,by go_num,Hid.aD (by rw [Nat.sub_self];rfl)⟩
  case round=>
   obtain⟨m,hm1,hm2,rfl,HT⟩ :=hrel
   by_cases hlt : m<a+3+5
   ·have ht : decide ((m : Int) < (a : Int) +8) =true:=decide_eq_true (by omega)
    have ht' : (m : Int) < (a : Int) +8:=by omega
    have hmb : m<bs.length:=by omega
    obtain⟨g1',oW,oZ,he,_,_,_,hc1⟩ := (hr1.below hB0).at_ (show bs[m]? =some (bs.getD m 0) by rw [getD_at hmb];exact List.getElem?_eq_getElem hmb)
    injection he with he1 he2 gq
    injection he1 with he1
    injection he1 with he1 lI
    subst he1 gq lI
    have x0 : w0.cell? ⟨g1,off1+m,none⟩ =some (.int .i64 (bs.getD m 0)) :=by simpa [FI] using hc1 0 _ rfl
    clear hc1 he2
    have HS:=Hid.aD (fun h0=>mP (b:=bs) hm1 hmb HT.out h0)
    have gK:=Hid.aD (fun h0=>o7 (b:=bs) (n:=5) hm1 hmb hlt h0)
    generalize bs.getD m 0=y at x0 HS gK
    by_cases hy : y=0
    ·have HN:=Hid.aD (HS.out hy)
     have hy' : (y != 0) =false:=by simpa using hy
     clear hy
     go_wp2
     go_round
     case rel=>exact⟨m+1,by omega,by omega,by go_num,HN⟩
     case measure=>simp [intOf];omega
    ·have HN:=Hid.aD (gK.out hy)
     have hy' : (y != 0) =true:=by simpa using hy
     clear hy
     go_wp2
     go_ret
     exact⟨aS (by rw [kZ.out,HN.out];rfl), (by first|exact hB0|exact hB0.drew|exact below_drewN hB0 _)⟩
   ·obtain rfl : m=a+3+5:=by omega
    have HN:=Hid.aD (show fT ((bs.drop (a+3)).take 5) =true by have u:=HT.out;rwa [show a+3+5 - (a+3) =5 by omega] at u)
    have ht : decide (((a+3+5 : Nat) : Int) < (a : Int) +8) =false:=decide_eq_false (by omega)
    clear HT
    go_wp2_with (go_at_call 79;refine(d9 _ _).mono ?_;rw [iy];rintro e w2 ⟨rfl,rfl⟩)
    go_loopw [9] (fun i wr=> ∃k : Nat,k≤1∧i= .int .i64 k∧Hid (dU ⟨bs,cs⟩ p 2 k=true) ∧Below w.heap.size w wr∧wr.cell? ⟨w.heap.size,0,none⟩ =some (.slice (some ⟨g1,off1,none⟩) bs.length c1)) (fun i _=>1 - (intOf i).toNat)
    case atStart=>exact⟨0,Nat.zero_le _,rfl,rfl,hB0,q0⟩
    case round=>
     obtain⟨i,hi,rfl,HT,hB1,r0⟩ :=hrel
     clear hB0 q0 q1 hr2
     by_cases hlt : i<1
     ·have nL:=Hid.aD (wI.out 2 hc i hlt)
      have hroom:=HR.out 2 hc i hlt
      rw [wJ] at nL hroom
      have HS:=Hid.aD (show dU ⟨bs,cs⟩ p 2 (i+1) = (dU ⟨bs,cs⟩ p 2 i&&aW 1 7 (fu bs ((a+8+i * 44 : Nat) : Int) 4)) from HG.out 2 i)
      have gK:=Hid.aD (show aW 1 7 (fu bs ((a+8+i * 44 : Nat) : Int) 4) =false→dU ⟨bs,cs⟩ p 2 1=false from HG2.out 2 i 1 hlt)
      have nk : ∀W : World,Calls Try.prog 80 #[.int .i64 p, .int .i64 i] W fun e w'=>e= .returned (.int .i64 (iq p i)) ∧W=w':=fun W=>nV p i W
      have lN : ∀W : World,Calls Try.prog 77 #[.int .i64 (iq p i), .int .i64 2] W fun e w'=>e= .returned (.int .i64 ((a+8+i * 44 : Nat) : Int)) ∧W=w':=fun W=> (mM _ 2 W).mono fun e w' ⟨u,v⟩ => ⟨by rw [u,nL.out],v⟩
      have hge : a+8+i * 44+4≤bs.length:=by omega
      have lQ : ∀W : World,Below w.heap.size w W→Calls Try.prog 76 #[.slice (some ⟨g1,off1,none⟩) bs.length c1, .int .i64 ((a+8+i * 44 : Nat) : Int), .int .i64 4] W fun e w'=>e= .returned (.int .i64 (fu bs ((a+8+i * 44 : Nat) : Int) 4)) ∧W=w':=fun W hW=>mg W _ bs _ 4 (dh hr1 hW) (by omega) (by decide) (by decide) (by omega) hby
      generalize fu bs ((a+8+i * 44 : Nat) : Int) 4=z at lQ HS gK
      generalize a+8+i * 44=ga at lN lQ hge
      generalize iq p i=sl at nk lN
      by_cases k5 : aW 1 7 z=true
      ·have HN:=Hid.aD (show dU ⟨bs,cs⟩ p 2 (i+1) =true by rw [HS.out,HT.out,k5];rfl)
       clear HS gK nL hroom
       go_wp2_with (go_at_call 79;refine(d9 _ _).mono ?_;rw [iy];rintro e w2 ⟨rfl,rfl⟩)
       go_quiet ((first| (go_at_call 80;exact dx (nk _)) | (go_at_call 77;exact dx (lN _)) | (go_at_call 76;exact dx (lQ _ (by first|exact hB1|exact hB1.drew|exact below_drewN hB1 _))) | (go_at_call 26;exact dx (g_ _ _ _ _))))
       go_wp2
       go_roundw
       case rel=>exact⟨i+1,by omega,by go_num,HN,by first|exact hB1|exact hB1.drew|exact below_drewN hB1 _,by first|exact r0|simpa [go_sem] using r0⟩
       case measure=>simp [intOf];omega
      ·have qB : aW 1 7 z=false:= (Bool.not_eq_true _).mp k5
       have zA:=Hid.aD (gK.out qB)
       clear k5 HS gK nL hroom
       go_wp2_with (go_at_call 79;refine(d9 _ _).mono ?_;rw [iy];rintro e w2 ⟨rfl,rfl⟩)
       go_quiet ((first| (go_at_call 80;exact dx (nk _)) | (go_at_call 77;exact dx (lN _)) | (go_at_call 76;exact dx (lQ _ (by first|exact hB1|exact hB1.drew|exact below_drewN hB1 _))) | (go_at_call 26;exact dx (g_ _ _ _ _))))
       go_wp2
       go_ret
       exact⟨aS (by rw [kZ.out,zA.out];simp),by first|exact hB1|exact hB1.drew|exact below_drewN hB1 _⟩
     ·obtain rfl : i=1:=by omega
      go_wp2_with (go_at_call 79;refine(d9 _ _).mono ?_;rw [iy];rintro e w2 ⟨rfl,rfl⟩)
      go_ret
      exact⟨aS (by rw [kZ.out,HN.out,HT.out];rfl),by first|exact hB1|exact hB1.drew|exact below_drewN hB1 _⟩
end Go.Proofs.Ytkmggglljkmjoaa
