/-
  Several texts in one: lemmas and contracts that the claim rests on.
-/
import Derived.Test.YtkmggglljkmjoaaUHNoReuse2
import Derived.Test.YtkmggglljkmjoaaUHNoReuse1
import Derived.Deep.QuietTactic
import Derived.BigQuiet
import Derived.Deep.LoopGhost
import Derived.Deep.RegionHeld3
import Derived.WalkSpells
import Derived.Laws.Cover3
import Derived.Test.YtkmggglljkmjoaaUHNoReuse4
namespace Go.Proofs.Ytkmggglljkmjoaa
open Go.RowKit
theorem oU (w : World)(o : Obj)(g i : Nat)(hg : g<w.heap.size) : (w.alloc o).cell? ⟨g,i,none⟩ =w.cell? ⟨g,i,none⟩ :=by
 simp [World.cell?,Below.heap_alloc w o g hg]
theorem nK (w : World)(o : Obj)(g i : Nat)(hg : g<w.heap.size) : (w.alloc o).frozen? ⟨g,i,none⟩ =w.frozen? ⟨g,i,none⟩ :=by
 simp [World.frozen?,Below.heap_alloc w o g hg]
theorem fV {w w' : World}{g i : Nat}{u : Value}(hb : Below w.heap.size w w')(hg : g<w.heap.size)(h : w.cell? ⟨g,i,none⟩ =some u) : w'.cell? ⟨g,i,none⟩ =some u:= (hb.cell (p:= ⟨g,i,none⟩) hg).trans h
def m_ (h : Heap)(s : Int) : Int:=if d_ h=true then ak h s else -1
theorem zu {P : Program}{f : FuncId}{args : Array Value}{W : World}{v : Ending}(h : Calls P f args W fun e w'=>e=v∧W=w') : Calls P f args W fun e w'=>e=v∧w'=W:=h.mono fun _ _ ⟨a,b⟩ => ⟨a,b.symm⟩
theorem sj {h : Heap}(sh : Shape h){s : Int}(k : ¬ ak h s<0) : 0≤fq s (ak h s) ∧fq s (ak h s) +4≤h.Y.length:=by
 have a:=yQ (iL h s)
 have b:=sh.bl
 rcases jH h s with ⟨c,_⟩ | ⟨c,d,e,_⟩
 ·omega
 ·rw [c];omega
set_option maxRecDepth 100000 in
set_option maxHeartbeats 1000000 in
theorem ni (w : World)(H : dA)(x : Heap)(s : Int)(h : fZ w w.heap.size H x) :
  Calls Try.prog 67 #[.agg #[.slice H.Y.a H.Y.l H.Y.c, .slice H.Z.a H.Z.l H.Z.c], .int .i64 s] w fun e w'=>e= .returned (.int .i64 (m_ x s)) ∧Below w.heap.size w w':=by
 obtain⟨⟨A1,n1,c1⟩, ⟨A2,n2,c2⟩⟩ :=H
 obtain⟨bs,cs⟩ :=x
 have hr1 : dz FI w w.heap.size (.slice A1 n1 c1) bs:=h.Y
 have hr2 : dz FI w w.heap.size (.slice A2 n2 c2) cs:=h.Z
 obtain⟨_,_,hv,q1,q2,qx⟩ :=id hr1
 simp only [Value.slice.injEq] at hv
 obtain⟨rfl,rfl,rfl⟩ :=hv
 have hlt1 : bs.length≤9223372036854775807:=by unfold maxLen at q2;omega
 clear q1 q2 qx
 obtain⟨_,_,hv,q1,q2,qx⟩ :=id hr2
 simp only [Value.slice.injEq] at hv
 obtain⟨rfl,rfl,rfl⟩ :=hv
 have hlt2 : cs.length≤9223372036854775807:=by unfold maxLen at q2;omega
 clear q1 q2 qx h
 show Calls Try.prog 67 #[.agg #[.slice A1 bs.length c1, .slice A2 cs.length c2], .int .i64 s] _ _
 by_cases hs : d_ ⟨bs,cs⟩ =true
 ·have HE:=Hid.aD (show m_ ⟨bs,cs⟩ s=ak ⟨bs,cs⟩ s from if_pos hs)
  have HT:=Hid.aD hs
  clear hs
  go_enter Try.func67,Try.ntmps67
  go_wp2_with (first| (go_at_call 61;refine(mh _ ⟨⟨A1,bs.length,c1⟩, ⟨A2,cs.length,c2⟩⟩ ⟨bs,cs⟩ ⟨dh hr1 dn,dh hr2 dn⟩).mono ?_;rw [HT.out];rintro e w1 ⟨rfl,hb1⟩;obtain⟨os1,d1,rfl⟩ :=iR hb1;clear hb1) | (go_at_call 44;refine(lK _ ⟨⟨A1,bs.length,c1⟩, ⟨A2,cs.length,c2⟩⟩ ⟨bs,cs⟩ s ⟨dh hr1 dn,dh hr2 dn⟩ HT.out).mono ?_;rintro e w2 ⟨rfl,hb2⟩;obtain⟨os2,d2,rfl⟩ :=iR hb2;clear hb2))
  go_ret
  exact⟨bU HE.out.symm,by repeat (first|exact Below.refl _ _|refine Below.alloc ?_ (by simp<;>omega) _|refine bE ?_ (by simp<;>omega) _ _|refine Below.drew ?_|refine below_drewN ?_ _)⟩
 ·have HE:=Hid.aD (show m_ ⟨bs,cs⟩ s= -1 from if_neg hs)
  have HT:=Hid.aD ((Bool.not_eq_true _).mp hs)
  clear hs
  go_enter Try.func67,Try.ntmps67
  go_wp2_with (go_at_call 61;refine(mh _ ⟨⟨A1,bs.length,c1⟩, ⟨A2,cs.length,c2⟩⟩ ⟨bs,cs⟩ ⟨dh hr1 dn,dh hr2 dn⟩).mono ?_;rw [HT.out];rintro e w1 ⟨rfl,hb1⟩;obtain⟨os1,d1,rfl⟩ :=iR hb1;clear hb1)
  go_ret
  exact⟨bU HE.out.symm,by repeat (first|exact Below.refl _ _|refine Below.alloc ?_ (by simp<;>omega) _|refine bE ?_ (by simp<;>omega) _ _|refine Below.drew ?_|refine below_drewN ?_ _)⟩
set_option maxRecDepth 100000 in
set_option maxHeartbeats 1000000 in
theorem mO (w : World)(H : dA)(x : Heap)(s : Int)(h : fZ w w.heap.size H x)(hs : d_ x=true) :
  Calls Try.prog 41 #[.agg #[.slice H.Y.a H.Y.l H.Y.c, .slice H.Z.a H.Z.l H.Z.c], .int .i64 s] w fun e w'=>e= .returned (.int .i64 (bK x s)) ∧Below w.heap.size w w':=by
 obtain⟨⟨A1,n1,c1⟩, ⟨A2,n2,c2⟩⟩ :=H
 obtain⟨bs,cs⟩ :=x
 have hr1 : dz FI w w.heap.size (.slice A1 n1 c1) bs:=h.Y
 have hr2 : dz FI w w.heap.size (.slice A2 n2 c2) cs:=h.Z
 obtain⟨_,_,hv,q1,q2,qx⟩ :=id hr1
 simp only [Value.slice.injEq] at hv
 obtain⟨rfl,rfl,rfl⟩ :=hv
 have hlt1 : bs.length≤9223372036854775807:=by unfold maxLen at q2;omega
 clear q1 q2 qx
 obtain⟨_,_,hv,q1,q2,qx⟩ :=id hr2
 simp only [Value.slice.injEq] at hv
 obtain⟨rfl,rfl,rfl⟩ :=hv
 have hlt2 : cs.length≤9223372036854775807:=by unfold maxLen at q2;omega
 clear q1 q2 qx h
 have sh:=gQ hs
 have HC:=Hid.aD (show m_ ⟨bs,cs⟩ s=ak ⟨bs,cs⟩ s from if_pos hs)
 clear hs
 show Calls Try.prog 41 #[.agg #[.slice A1 bs.length c1, .slice A2 cs.length c2], .int .i64 s] _ _
 by_cases k1 : ak ⟨bs,cs⟩ s<0
 ·have HE:=Hid.aD (show bK ⟨bs,cs⟩ s=0 from if_pos k1)
  clear sh
  go_enter Try.func41,Try.ntmps41
  go_wp2_with (go_at_call 67;refine(ni _ ⟨⟨A1,bs.length,c1⟩, ⟨A2,cs.length,c2⟩⟩ ⟨bs,cs⟩ s ⟨dh hr1 dn,dh hr2 dn⟩).mono ?_;rw [HC.out];rintro e w1 ⟨rfl,hb1⟩;obtain⟨os1,d1,rfl⟩ :=iR hb1;clear hb1)
  go_ret
  exact⟨bU HE.out.symm,by repeat (first|exact Below.refl _ _|refine Below.alloc ?_ (by simp<;>omega) _|refine bE ?_ (by simp<;>omega) _ _|refine Below.drew ?_|refine below_drewN ?_ _)⟩
 ·have HE:=Hid.aD (show bK ⟨bs,cs⟩ s=fu bs (fq s (ak ⟨bs,cs⟩ s)) 4 from if_neg k1)
  obtain⟨g1,g2⟩ :=sj sh k1
  simp only at g2
  have hby:=sh.Bc
  simp only at hby
  generalize ak ⟨bs,cs⟩ s=c at k1 HE HC g1 g2
  clear sh
  have zw : ∀W : World,Calls Try.prog 69 #[.int .i64 s, .int .i64 c] W fun e w'=>e= .returned (.int .i64 (fq s c)) ∧w'=W:=fun W=>zu (ku s c W)
  generalize fq s c=a at g1 g2 HE zw
  go_enter Try.func41,Try.ntmps41
  go_wp2_with fail
  refine(ni _ ⟨⟨A1,bs.length,c1⟩, ⟨A2,cs.length,c2⟩⟩ ⟨bs,cs⟩ s ⟨dh hr1 dn,dh hr2 dn⟩).mono ?_
  rw [HC.out]
  rintro e w1 ⟨rfl,hb1⟩
  have q0 : w1.cell? ⟨w.heap.size,0,none⟩ =some (.slice A1 bs.length c1) :=fV hb1 (by simp<;>omega) (by simp [go_sem])
  have q1 : w1.cell? ⟨w.heap.size,1,none⟩ =some (.slice A2 cs.length c2) :=fV hb1 (by simp<;>omega) (by simp [go_sem])
  have hB1 : Below w.heap.size w w1:=Below.trans dn (hb1.mono (by simp))
  clear hb1
  go_wp2
  go_quiet ((first| (go_at_call 69;exact Calls.quiet_of_same (zw _)) | (go_at_call 68;exact Calls.quiet_of_same (zu (jq _ _ bs a 4 (dh hr1 (by first|exact hB1|exact hB1.drew|exact below_drewN hB1 _)) g1 (by decide) (by decide) g2 hby)))))
  go_wp2
  go_ret
  exact⟨bU HE.out.symm,by first|exact hB1|exact hB1.drew|exact below_drewN hB1 _⟩
set_option maxRecDepth 100000 in
set_option maxHeartbeats 1000000 in
theorem oV (w : World)(H : dA)(x : Heap)(s : Int)(h : fZ w w.heap.size H x)(hs : d_ x=true)(k1 : ¬ ak x s<0) :
  Calls Try.prog 53 #[.agg #[.slice H.Y.a H.Y.l H.Y.c, .slice H.Z.a H.Z.l H.Z.c], .int .i64 s] w fun e w'=>e= .returned (.int .i64 (bK x s)) ∧Below w.heap.size w w':=by
 obtain⟨⟨A1,n1,c1⟩, ⟨A2,n2,c2⟩⟩ :=H
 obtain⟨bs,cs⟩ :=x
 have hr1 : dz FI w w.heap.size (.slice A1 n1 c1) bs:=h.Y
 have hr2 : dz FI w w.heap.size (.slice A2 n2 c2) cs:=h.Z
 obtain⟨_,_,hv,q1,q2,qx⟩ :=id hr1
 simp only [Value.slice.injEq] at hv
 obtain⟨rfl,rfl,rfl⟩ :=hv
 have hlt1 : bs.length≤9223372036854775807:=by unfold maxLen at q2;omega
 clear q1 q2 qx
 obtain⟨_,_,hv,q1,q2,qx⟩ :=id hr2
 simp only [Value.slice.injEq] at hv
 obtain⟨rfl,rfl,rfl⟩ :=hv
 have hlt2 : cs.length≤9223372036854775807:=by unfold maxLen at q2;omega
 clear q1 q2 qx h
 have sh:=gQ hs
 show Calls Try.prog 53 #[.agg #[.slice A1 bs.length c1, .slice A2 cs.length c2], .int .i64 s] _ _
 have HE:=Hid.aD (show bK ⟨bs,cs⟩ s=fu bs (fq s (ak ⟨bs,cs⟩ s)) 4 from if_neg k1)
 obtain⟨g1,g2⟩ :=sj sh k1
 simp only at g2
 have hby:=sh.Bc
 simp only at hby
 have zw : ∀W : World,Calls Try.prog 77 #[.int .i64 s, .int .i64 (ak ⟨bs,cs⟩ s)] W fun e w'=>e= .returned (.int .i64 (fq s (ak ⟨bs,cs⟩ s))) ∧W=w':=fun W=>mM s _ W
 generalize fq s (ak ⟨bs,cs⟩ s) =a at g1 g2 HE zw
 clear sh k1
 go_enter Try.func53,Try.ntmps53
 go_wp2
 have hB0 : Below w.heap.size w (w.alloc (.cells #[.slice A1 bs.length c1, .slice A2 cs.length c2] 26)) :=dn
 have q0 : (w.alloc (.cells #[.slice A1 bs.length c1, .slice A2 cs.length c2] 26)).cell? ⟨w.heap.size,0,none⟩ =some (.slice A1 bs.length c1) :=by simp [go_sem]
 have q1 : (w.alloc (.cells #[.slice A1 bs.length c1, .slice A2 cs.length c2] 26)).cell? ⟨w.heap.size,1,none⟩ =some (.slice A2 cs.length c2) :=by simp [go_sem]
 have z0 : w.heap.size< (w.alloc (.cells #[.slice A1 bs.length c1, .slice A2 cs.length c2] 26)).heap.size:=by simp
 generalize (w.alloc (.cells #[.slice A1 bs.length c1, .slice A2 cs.length c2] 26)) =w0 at hB0 q0 q1 z0⊢
 go_region_held3 (fun w'=>w'.cell? ⟨w.heap.size,0,none⟩ =some (.slice A1 bs.length c1) ∧w'.cell? ⟨w.heap.size,1,none⟩ =some (.slice A2 cs.length c2) ∧w.heap.size<w'.heap.size∧Below w.heap.size w w') (first| (go_keep;done) | ((try go_split_ands);refine⟨?_, ?_, ?_, ?_⟩;all_goals first|assumption|exact Below.drew (by assumption) | (simp [go_sem, *];done) |exact bE (by assumption) (by omega) _ _| (rw [size_grow];omega) | (repeat (first|exact Below.refl _ _|refine Below.alloc ?_ (by simp<;>omega) _|refine bE ?_ (by simp<;>omega) _ _|refine Below.drew ?_|refine below_drewN ?_ _);done) | (simp<;>omega))) ((first| (go_at_call 59;refine(lM _ ⟨⟨A1,bs.length,c1⟩, ⟨A2,cs.length,c2⟩⟩ ⟨bs,cs⟩ s ⟨dh hr1 (by go_split_ands;assumption),dh hr2 (by go_split_ands;assumption)⟩ hs).mono ?_;rintro e w1 ⟨rfl,hb1⟩;obtain⟨os1,d1,rfl⟩ :=iR hb1;clear hb1) | (go_at_call 77;refine(zw _).mono ?_;rintro e w2 ⟨rfl,rfl⟩) | (go_at_call 76;refine(mg _ _ bs a 4 (dh hr1 (by go_split_ands;assumption)) g1 (by decide) (by decide) g2 hby).mono ?_;rintro e w3 ⟨rfl,rfl⟩)))
 go_wp2
 go_ret
 exact⟨bU HE.out.symm,by first|assumption| (go_split_ands;assumption)⟩
end Go.Proofs.Ytkmggglljkmjoaa
namespace Go.Proofs.Ytkmggglljkmjoaa
open Go.RowKit
theorem fD {P : Program}{f : FuncId}{args : Array Value}{w : World}{a n : Nat}{v : Value}
  (h : Calls P f args (w.drewN (a+n)) fun e w'=>e= .returned v∧w.drewN (a+n) =w') :
  Calls P f args (w.drewN (a+n)) fun e w''=>e= .returned v∧ ∃m,w''=w.drewN (a+m) :=
 h.mono fun _ _ ⟨he,hm⟩ => ⟨he,n,hm.symm⟩
theorem dz.uM {g off n c B : Nat}{w : World}{l : List Int}(h : dz FI w B (.slice (some ⟨g,off,none⟩) n c) l)(lo m : Nat)(h1 : lo+m≤l.length) : dz FI w B (.slice (some ⟨g,off+lo,none⟩) m (c - lo)) ((l.drop lo).take m) :=by
 obtain⟨A,cap,hv,a1,a2,a3⟩ :=h
 simp only [Value.slice.injEq] at hv
 obtain⟨rfl,rfl,rfl⟩ :=hv
 have hlen : ((l.drop lo).take m).length=m:=by rw [List.length_take,List.length_drop];omega
 refine⟨_,c - lo,by rw [hlen],by rw [hlen];omega,by omega,fun hne=> ?_⟩
 have hl : l≠ []:=by
  rintro rfl
  simp at hne
 obtain⟨g',off',hA,hg,hc⟩ :=a3 hl
 injection hA with hA
 injection hA with hA1 hA2
 subst hA1 hA2
 refine⟨_,_,rfl,hg,fun j u hu=> ?_⟩
 have hu' : (flat FI l)[lo+j]? =some u:=by
  have e : ∀q : List Int,flat FI q=q.map fun x=>Value.int .i64 x:=fun q=>by
   induction q with
   |nil=>rfl
   |cons z q ih=>show FI.enc z++flat FI q=_;rw [ih];rfl
  rw [e] at hu⊢
  rw [List.getElem?_map,List.getElem?_take] at hu
  split at hu
  ·rw [List.getElem?_drop] at hu
   rw [List.getElem?_map]
   exact hu
  ·simp at hu
 have:=hc _ u hu'
 rwa [←Nat.add_assoc] at this
def dU (h : Heap)(p : Nat)(c : Int)(k : Nat) : Bool:= (List.range k).all fun i=>aW 1 7 (fu h.Y ((p * 64+8+i * (bS c).toNat : Nat) : Int) 4)
def eu (h : Heap)(p : Nat) : Bool:=
 if h.Z.getD p (-1) <0 then fT ((h.Y.drop (p * 64)).take 64)
 else (h.Y.getD (p * 64) 0 == 171) && (h.Y.getD (p * 64+1) 0 == h.Z.getD p (-1)) && (h.Y.getD (p * 64+2) 0 == bq (h.Z.getD p (-1))) &&fT ((h.Y.drop (p * 64+3)).take 5) &&dU h p (h.Z.getD p (-1)) (bq (h.Z.getD p (-1))).toNat
def fH (h : Heap) : Bool:=d_ h&& (List.range 6).all (eu h)
theorem yV (b : List Int)(lo m a k : Nat)(h : a+k≤m)(_ : lo+m≤b.length) : eB ((b.drop lo).take m) a k=eB b (lo+a) k:=by
 induction k with
 |zero=>rfl
 |succ k ih=>
  show eB _ a k * 256+_=eB _ (lo+a) k * 256+_
  rw [ih (by omega)]
  congr 1
  simp only [List.getD,List.getElem?_take,List.getElem?_drop]
  rw [if_pos (by omega),Nat.add_assoc]
theorem jM {c : Int}(hc : aW 0 2 c=true){i : Nat}(hi : i< (bq c).toNat) : 8+i * (bS c).toNat+4≤64:=by
 rcases cls hc with rfl|rfl|rfl<;>simp [bq,bS] at * <;>omega
theorem tF (h : Heap)(p : Nat)(c : Int)(k : Nat) : dU h p c (k+1) = (dU h p c k&&aW 1 7 (fu h.Y ((p * 64+8+k * (bS c).toNat : Nat) : Int) 4)) :=by
 unfold dU
 rw [List.range_succ,List.all_append]
 simp
theorem wG {h : Heap}{p : Nat}{c : Int}{k n : Nat}(hk : k<n)(hn : aW 1 7 (fu h.Y ((p * 64+8+k * (bS c).toNat : Nat) : Int) 4) =false) : dU h p c n=false:=by
 unfold dU
 rw [List.all_eq_false]
 exact⟨k,List.mem_range.2 hk,by rw [hn];decide⟩
theorem zx {b : List Int}(hb : b.all (aW 0 255) =true)(lo m : Nat) : ((b.drop lo).take m).all (aW 0 255) =true:=by
 rw [List.all_eq_true] at hb⊢
 exact fun x hx=>hb x (List.mem_of_mem_drop (List.mem_of_mem_take hx))
set_option maxRecDepth 100000 in
set_option maxHeartbeats 4000000 in
theorem ru (w : World)(H : dA)(x : Heap)(p : Nat)(hp : p<6)(h : fZ w w.heap.size H x)(hs : d_ x=true) :
  Calls Try.prog 62 #[.agg #[.slice H.Y.a H.Y.l H.Y.c, .slice H.Z.a H.Z.l H.Z.c], .int .i64 p] w fun e w'=>e= .returned (.bool (eu x p)) ∧Below w.heap.size w w':=by
 obtain⟨⟨A1,n1,c1⟩, ⟨A2,n2,c2⟩⟩ :=H
 obtain⟨bs,cs⟩ :=x
 have hr1 : dz FI w w.heap.size (.slice A1 n1 c1) bs:=h.Y
 have hr2 : dz FI w w.heap.size (.slice A2 n2 c2) cs:=h.Z
 obtain⟨_,_,hv,q1,q2,qx⟩ :=id hr1
 simp only [Value.slice.injEq] at hv
 obtain⟨rfl,rfl,rfl⟩ :=hv
 have hlt1 : bs.length≤9223372036854775807:=by unfold maxLen at q2;omega
 clear q1 q2 qx
 obtain⟨_,_,hv,q1,q2,qx⟩ :=id hr2
 simp only [Value.slice.injEq] at hv
 obtain⟨rfl,rfl,rfl⟩ :=hv
 have hlt2 : cs.length≤9223372036854775807:=by unfold maxLen at q2;omega
 clear q1 q2 qx h
 have sh:=gQ hs
 have nJ:=sh.cl
 have tH:=sh.bl
 have hby:=sh.Bc
 have hcb:=sh.cs p
 simp only at nJ tH hby hcb
 have hpl : p<cs.length:=by omega
 have HE:=Hid.aD (show eu ⟨bs,cs⟩ p= (if cs.getD p (-1) <0 then fT ((bs.drop (p * 64)).take 64) else (bs.getD (p * 64) 0 == 171) && (bs.getD (p * 64+1) 0 == cs.getD p (-1)) && (bs.getD (p * 64+2) 0 == bq (cs.getD p (-1))) &&fT ((bs.drop (p * 64+3)).take 5) &&dU ⟨bs,cs⟩ p (cs.getD p (-1)) (bq (cs.getD p (-1))).toNat) from rfl)
 show Calls Try.prog 62 #[.agg #[.slice A1 bs.length c1, .slice A2 cs.length c2], .int .i64 p] _ _
 obtain⟨g2,off2,cap2,he,hg2,_,_,hc2⟩ :=hr2.at_ (show cs[p]? =some (cs.getD p (-1)) by rw [getD_at hpl];exact List.getElem?_eq_getElem hpl)
 injection he with he1 he2 gq
 clear he2
 subst he1 gq
 have p0 : w.cell? ⟨g2,off2+p,none⟩ =some (.int .i64 (cs.getD p (-1))) :=by simpa [FI] using hc2 0 _ rfl
 clear hc2
 have HG:=Hid.aD (fun c k=>tF ⟨bs,cs⟩ p c k)
 have HG2:=Hid.aD (fun c k n=>wG (h:= ⟨bs,cs⟩) (p:=p) (c:=c) (k:=k) (n:=n))
 have HR:=Hid.aD (fun c hc i=>jM (c:=c) hc (i:=i))
 generalize cs.getD p (-1) =c at p0 hcb HE
 obtain⟨g1,off1,wC,he,hg1,Ei,Ej,hc1⟩ :=hr1.at_ (show bs[p * 64]? =some (bs.getD (p * 64) 0) by rw [getD_at (by omega)];exact List.getElem?_eq_getElem (by omega))
 injection he with he1 he2 gq
 clear he2
 subst he1 gq
 have x0 : w.cell? ⟨g1,off1+p * 64,none⟩ =some (.int .i64 (bs.getD (p * 64) 0)) :=by simpa [FI] using hc1 0 _ rfl
 obtain⟨g1',oW,oZ,he,_,_,_,hc1⟩ :=hr1.at_ (show bs[p * 64+1]? =some (bs.getD (p * 64+1) 0) by rw [getD_at (by omega)];exact List.getElem?_eq_getElem (by omega))
 injection he with he1 he2 gq
 injection he1 with he1
 injection he1 with he1 lI
 subst he1 gq lI
 have x1 : w.cell? ⟨g1,off1+ (p * 64+1),none⟩ =some (.int .i64 (bs.getD (p * 64+1) 0)) :=by simpa [FI] using hc1 0 _ rfl
 obtain⟨g1',oW,oZ,he,_,_,_,hc1⟩ :=hr1.at_ (show bs[p * 64+2]? =some (bs.getD (p * 64+2) 0) by rw [getD_at (by omega)];exact List.getElem?_eq_getElem (by omega))
 injection he with he1 he2 gq
 injection he1 with he1
 injection he1 with he1 lI
 subst he1 gq lI
 have x2 : w.cell? ⟨g1,off1+ (p * 64+2),none⟩ =some (.int .i64 (bs.getD (p * 64+2) 0)) :=by simpa [FI] using hc1 0 _ rfl
 clear hc1 he2 sh hs
 have hrz:=hr1.uM (p * 64) 64 (by omega)
 have hrf:=hr1.uM (p * 64+3) 5 (by omega)
 rw [←Nat.add_assoc,Nat.sub_add_eq] at hrf
 have Di : 384≤bs.length:=by omega
 have hb6 : 6≤cs.length:=by omega
 clear tH nJ
 have x1' : w.cell? ⟨g1,off1+p * 64+1,none⟩ =some (.int .i64 (bs.getD (p * 64+1) 0)) :=by rw [Nat.add_assoc];exact x1
 have x2' : w.cell? ⟨g1,off1+p * 64+2,none⟩ =some (.int .i64 (bs.getD (p * 64+2) 0)) :=by rw [Nat.add_assoc];exact x2
 generalize bs.getD (p * 64) 0=y0 at x0 HE
 generalize bs.getD (p * 64+1) 0=y1 at x1 x1' HE
 generalize bs.getD (p * 64+2) 0=y2 at x2 x2' HE
 have vk:=Hid.aD (fun q (hq : q+4≤64) =>yV bs (p * 64) 64 q 4 hq (by omega))
 have uN:=zx hby (p * 64) 64
 have e1 : (p : Int) * 64= ((p * 64 : Nat) : Int) :=by omega
 have e2 : ((p : Int) +1) * 64= ((p * 64+64 : Nat) : Int) :=by omega
 have ha : p * 64+64≤bs.length:=by omega
 have BU : ((bs.drop (p * 64)).take 64).length=64:=by rw [List.length_take,List.length_drop];omega
 have uP:=Hid.aD BU
 clear BU
 generalize p * 64=a at *
 by_cases k0 : c<0
 ·have hd0 : decide (c<0) =true:=by simpa using k0
  rw [if_pos k0] at HE
  clear HG HG2 HR vk
  go_enter Try.func62,Try.ntmps62
  go_wp2
  go_quiet (fail)
  go_wp2_with fail
  refine(jk _ _ _ (dh hrz dn)).mono ?_
  rintro e w1 ⟨rfl,rfl⟩
  go_wp2
  go_ret
  exact⟨aS HE.out.symm,by repeat (first|exact Below.refl _ _|refine Below.alloc ?_ (by simp<;>omega) _|refine bE ?_ (by simp<;>omega) _ _|refine Below.drew ?_|refine below_drewN ?_ _)⟩
 rw [if_neg k0] at HE
 have hd0 : decide (c<0) =false:=by simpa using k0
 have hc : aW 0 2 c=true:=bD.2 ⟨by omega,hcb.2⟩
 by_cases k1 : y0=171
 case neg=>
  have k1' : (y0 != 171) =true:=by simpa using k1
  have K1:=Hid.aD (show (y0 == 171) =false by simpa using k1)
  clear k1 HG HG2 HR vk
  have h64 : a+64 - a=64:=by omega
  go_enter Try.func62,Try.ntmps62
  go_wp2
  go_quiet (fail)
  go_wp2
  go_quiet ((first| (go_at_call 73;exact fD (gX _ _)) | (go_at_call 88;exact fD (jk _ _ _ (dh hrf dn)))))
  go_wp2
  go_ret
  exact⟨aS (by rw [HE.out];rw [K1.out];simp),by repeat (first|exact Below.refl _ _|refine Below.alloc ?_ (by simp<;>omega) _|refine bE ?_ (by simp<;>omega) _ _|refine Below.drew ?_|refine below_drewN ?_ _)⟩
 subst k1
 by_cases k2 : y1=c
 case neg=>
  have k2' : (y1 != c) =true:=by simpa using k2
  have K2:=Hid.aD (show (y1 == c) =false by simpa using k2)
  clear k2 HG HG2 HR vk
  have h64 : a+64 - a=64:=by omega
  go_enter Try.func62,Try.ntmps62
  go_wp2
  go_quiet (fail)
  go_wp2
  go_quiet ((first| (go_at_call 73;exact fD (gX _ _)) | (go_at_call 88;exact fD (jk _ _ _ (dh hrf dn)))))
  go_wp2
  go_ret
  exact⟨aS (by rw [HE.out];rw [K2.out];simp),by repeat (first|exact Below.refl _ _|refine Below.alloc ?_ (by simp<;>omega) _|refine bE ?_ (by simp<;>omega) _ _|refine Below.drew ?_|refine below_drewN ?_ _)⟩
 subst k2
 by_cases k3 : y2=bq y1
 case neg=>
  have lJ : (y2 != bq y1) =true:=by simpa using k3
  have K3:=Hid.aD (show (y2 == bq y1) =false by simpa using k3)
  clear k3 HG HG2 HR vk
  have h64 : a+64 - a=64:=by omega
  go_enter Try.func62,Try.ntmps62
  go_wp2
  go_quiet (fail)
  go_wp2
  go_quiet ((first| (go_at_call 73;exact fD (gX _ _)) | (go_at_call 88;exact fD (jk _ _ _ (dh hrf dn)))))
  go_wp2
  go_ret
  exact⟨aS (by rw [HE.out];rw [K3.out];simp),by repeat (first|exact Below.refl _ _|refine Below.alloc ?_ (by simp<;>omega) _|refine bE ?_ (by simp<;>omega) _ _|refine Below.drew ?_|refine below_drewN ?_ _)⟩
 subst k3
 by_cases k4 : fT ((bs.drop (a+3)).take 5) =true
 case neg=>
  have zy : fT ((bs.drop (a+3)).take 5) =false:= (Bool.not_eq_true _).mp k4
  have K4:=Hid.aD zy
  clear k4 HG HG2 HR vk
  have h64 : a+64 - a=64:=by omega
  go_enter Try.func62,Try.ntmps62
  go_wp2
  go_quiet (fail)
  go_wp2
  go_quiet ((first| (go_at_call 73;exact fD (gX _ _)) | (go_at_call 88;exact fD (jk _ _ _ (dh hrf dn)))))
  go_wp2
  go_ret
  exact⟨aS (by rw [HE.out];rw [K4.out];simp),by repeat (first|exact Below.refl _ _|refine Below.alloc ?_ (by simp<;>omega) _|refine bE ?_ (by simp<;>omega) _ _|refine Below.drew ?_|refine below_drewN ?_ _)⟩
 have HF:=Hid.aD (show eu ⟨bs,cs⟩ p=dU ⟨bs,cs⟩ p y1 (bq y1).toNat by rw [HE.out,k4];simp)
 clear HE
 rcases cls hc with rfl|rfl|rfl
 ·have iy : bq 0=4:=rfl
  have hst : bS 0=12:=rfl
  rw [iy] at x2 x2'
  have kZ:=Hid.aD (show eu ⟨bs,cs⟩ p=dU ⟨bs,cs⟩ p 0 4 from HF.out)
  clear HF hc hcb k0
  have h64 : a+64 - a=64:=by omega
  go_enter Try.func62,Try.ntmps62
  go_wp2
  go_quiet (fail)
  go_wp2
  go_quiet ((first| (go_at_call 73;exact fD ((gX 0 _).mono fun e w' ⟨u,v⟩ => ⟨by rw [u,iy],v⟩)) | (go_at_call 88;exact fD (jk _ _ _ (dh hrf dn)))))
  go_wp2_with (go_at_call 73;refine(gX _ _).mono ?_;rw [iy];rintro e w2 ⟨rfl,rfl⟩)
  go_loop [7,52] (fun _ i=> ∃k : Nat,k≤4∧i= .int .i64 k∧Hid (dU ⟨bs,cs⟩ p 0 k=true)) (fun _ i=>4 - (intOf i).toNat)
  case atStart=>exact⟨0,Nat.zero_le _,rfl,rfl⟩
  case round=>
   obtain⟨i,hi,rfl,HT⟩ :=hrel
   by_cases hlt : i<4
   ·have HV:=Hid.aD (show fu ((bs.drop a).take 64) (8+ (i : Int) * 12) 4=fu bs ((a+8+i * 12 : Nat) : Int) 4 by
     have u:=vk.out (8+i * 12) (by omega)
     unfold fu
     rw [show (8+ (i : Int) * 12).toNat=8+i * 12 by omega,show (((a+8+i * 12 : Nat) : Int)).toNat=a+ (8+i * 12) by omega]
     exact u)
    have HS:=Hid.aD (show dU ⟨bs,cs⟩ p 0 (i+1) = (dU ⟨bs,cs⟩ p 0 i&&aW 1 7 (fu bs ((a+8+i * 12 : Nat) : Int) 4)) from HG.out 0 i)
    have gK:=Hid.aD (show aW 1 7 (fu bs ((a+8+i * 12 : Nat) : Int) 4) =false→dU ⟨bs,cs⟩ p 0 4=false from HG2.out 0 i 4 hlt)
    generalize fu bs ((a+8+i * 12 : Nat) : Int) 4=z at HV HS gK
    by_cases k5 : aW 1 7 z=true
    ·have HN:=Hid.aD (show dU ⟨bs,cs⟩ p 0 (i+1) =true by rw [HS.out,HT.out,k5];rfl)
     go_wp2_with (first| (go_at_call 89;refine(jA _ _).mono ?_;rw [hst];rintro e w2 ⟨rfl,rfl⟩) | (go_at_call 68;refine(jq _ _ ((bs.drop a).take 64) (8+ (i : Int) * 12) 4 (dh hrz dn) (by omega) (by decide) (by decide) (by rw [uP.out];omega) uN).mono ?_;rw [HV.out];rintro e w2 ⟨rfl,rfl⟩) | (go_at_call 36;refine(gW _ _ _ _).mono ?_;rintro e w1 ⟨rfl,rfl⟩))
     go_round
     case rel=>exact⟨i+1,by omega,by go_num,HN⟩
     case measure=>simp [intOf];omega
    ·have qB : aW 1 7 z=false:= (Bool.not_eq_true _).mp k5
     have HN:=Hid.aD (gK.out qB)
     clear k5
     go_wp2_with (first| (go_at_call 89;refine(jA _ _).mono ?_;rw [hst];rintro e w2 ⟨rfl,rfl⟩) | (go_at_call 68;refine(jq _ _ ((bs.drop a).take 64) (8+ (i : Int) * 12) 4 (dh hrz dn) (by omega) (by decide) (by decide) (by rw [uP.out];omega) uN).mono ?_;rw [HV.out];rintro e w2 ⟨rfl,rfl⟩) | (go_at_call 36;refine(gW _ _ _ _).mono ?_;rintro e w1 ⟨rfl,rfl⟩))
     go_ret
     exact⟨aS (by rw [kZ.out,HN.out]),by repeat (first|exact Below.refl _ _|refine Below.alloc ?_ (by simp<;>omega) _|refine bE ?_ (by simp<;>omega) _ _|refine Below.drew ?_|refine below_drewN ?_ _)⟩
   ·obtain rfl : i=4:=by omega
    go_wp2
    go_ret
    exact⟨aS (by rw [kZ.out,HT.out]),by repeat (first|exact Below.refl _ _|refine Below.alloc ?_ (by simp<;>omega) _|refine bE ?_ (by simp<;>omega) _ _|refine Below.drew ?_|refine below_drewN ?_ _)⟩
 ·have iy : bq 1=2:=rfl
  have hst : bS 1=20:=rfl
  rw [iy] at x2 x2'
  have kZ:=Hid.aD (show eu ⟨bs,cs⟩ p=dU ⟨bs,cs⟩ p 1 2 from HF.out)
  clear HF hc hcb k0
  have h64 : a+64 - a=64:=by omega
  go_enter Try.func62,Try.ntmps62
  go_wp2
  go_quiet (fail)
  go_wp2
  go_quiet ((first| (go_at_call 73;exact fD ((gX 1 _).mono fun e w' ⟨u,v⟩ => ⟨by rw [u,iy],v⟩)) | (go_at_call 88;exact fD (jk _ _ _ (dh hrf dn)))))
  go_wp2_with (go_at_call 73;refine(gX _ _).mono ?_;rw [iy];rintro e w2 ⟨rfl,rfl⟩)
  go_loop [7,52] (fun _ i=> ∃k : Nat,k≤2∧i= .int .i64 k∧Hid (dU ⟨bs,cs⟩ p 1 k=true)) (fun _ i=>2 - (intOf i).toNat)
  case atStart=>exact⟨0,Nat.zero_le _,rfl,rfl⟩
  case round=>
   obtain⟨i,hi,rfl,HT⟩ :=hrel
   by_cases hlt : i<2
   ·have HV:=Hid.aD (show fu ((bs.drop a).take 64) (8+ (i : Int) * 20) 4=fu bs ((a+8+i * 20 : Nat) : Int) 4 by
     have u:=vk.out (8+i * 20) (by omega)
     unfold fu
     rw [show (8+ (i : Int) * 20).toNat=8+i * 20 by omega,show (((a+8+i * 20 : Nat) : Int)).toNat=a+ (8+i * 20) by omega]
     exact u)
    have HS:=Hid.aD (show dU ⟨bs,cs⟩ p 1 (i+1) = (dU ⟨bs,cs⟩ p 1 i&&aW 1 7 (fu bs ((a+8+i * 20 : Nat) : Int) 4)) from HG.out 1 i)
    have gK:=Hid.aD (show aW 1 7 (fu bs ((a+8+i * 20 : Nat) : Int) 4) =false→dU ⟨bs,cs⟩ p 1 2=false from HG2.out 1 i 2 hlt)
    generalize fu bs ((a+8+i * 20 : Nat) : Int) 4=z at HV HS gK
    by_cases k5 : aW 1 7 z=true
    ·have HN:=Hid.aD (show dU ⟨bs,cs⟩ p 1 (i+1) =true by rw [HS.out,HT.out,k5];rfl)
     go_wp2_with (first| (go_at_call 89;refine(jA _ _).mono ?_;rw [hst];rintro e w2 ⟨rfl,rfl⟩) | (go_at_call 68;refine(jq _ _ ((bs.drop a).take 64) (8+ (i : Int) * 20) 4 (dh hrz dn) (by omega) (by decide) (by decide) (by rw [uP.out];omega) uN).mono ?_;rw [HV.out];rintro e w2 ⟨rfl,rfl⟩) | (go_at_call 36;refine(gW _ _ _ _).mono ?_;rintro e w1 ⟨rfl,rfl⟩))
     go_round
     case rel=>exact⟨i+1,by omega,by go_num,HN⟩
     case measure=>simp [intOf];omega
    ·have qB : aW 1 7 z=false:= (Bool.not_eq_true _).mp k5
     have HN:=Hid.aD (gK.out qB)
     clear k5
     go_wp2_with (first| (go_at_call 89;refine(jA _ _).mono ?_;rw [hst];rintro e w2 ⟨rfl,rfl⟩) | (go_at_call 68;refine(jq _ _ ((bs.drop a).take 64) (8+ (i : Int) * 20) 4 (dh hrz dn) (by omega) (by decide) (by decide) (by rw [uP.out];omega) uN).mono ?_;rw [HV.out];rintro e w2 ⟨rfl,rfl⟩) | (go_at_call 36;refine(gW _ _ _ _).mono ?_;rintro e w1 ⟨rfl,rfl⟩))
     go_ret
     exact⟨aS (by rw [kZ.out,HN.out]),by repeat (first|exact Below.refl _ _|refine Below.alloc ?_ (by simp<;>omega) _|refine bE ?_ (by simp<;>omega) _ _|refine Below.drew ?_|refine below_drewN ?_ _)⟩
   ·obtain rfl : i=2:=by omega
    go_wp2
    go_ret
    exact⟨aS (by rw [kZ.out,HT.out]),by repeat (first|exact Below.refl _ _|refine Below.alloc ?_ (by simp<;>omega) _|refine bE ?_ (by simp<;>omega) _ _|refine Below.drew ?_|refine below_drewN ?_ _)⟩
 ·have iy : bq 2=1:=rfl
  have hst : bS 2=44:=rfl
  rw [iy] at x2 x2'
  have kZ:=Hid.aD (show eu ⟨bs,cs⟩ p=dU ⟨bs,cs⟩ p 2 1 from HF.out)
  clear HF hc hcb k0
  have h64 : a+64 - a=64:=by omega
  go_enter Try.func62,Try.ntmps62
  go_wp2
  go_quiet (fail)
  go_wp2
  go_quiet ((first| (go_at_call 73;exact fD ((gX 2 _).mono fun e w' ⟨u,v⟩ => ⟨by rw [u,iy],v⟩)) | (go_at_call 88;exact fD (jk _ _ _ (dh hrf dn)))))
  go_wp2_with (go_at_call 73;refine(gX _ _).mono ?_;rw [iy];rintro e w2 ⟨rfl,rfl⟩)
  go_loop [7,52] (fun _ i=> ∃k : Nat,k≤1∧i= .int .i64 k∧Hid (dU ⟨bs,cs⟩ p 2 k=true)) (fun _ i=>1 - (intOf i).toNat)
  case atStart=>exact⟨0,Nat.zero_le _,rfl,rfl⟩
  case round=>
   obtain⟨i,hi,rfl,HT⟩ :=hrel
   by_cases hlt : i<1
   ·have HV:=Hid.aD (show fu ((bs.drop a).take 64) (8+ (i : Int) * 44) 4=fu bs ((a+8+i * 44 : Nat) : Int) 4 by
     have u:=vk.out (8+i * 44) (by omega)
     unfold fu
     rw [show (8+ (i : Int) * 44).toNat=8+i * 44 by omega,show (((a+8+i * 44 : Nat) : Int)).toNat=a+ (8+i * 44) by omega]
     exact u)
    have HS:=Hid.aD (show dU ⟨bs,cs⟩ p 2 (i+1) = (dU ⟨bs,cs⟩ p 2 i&&aW 1 7 (fu bs ((a+8+i * 44 : Nat) : Int) 4)) from HG.out 2 i)
    have gK:=Hid.aD (show aW 1 7 (fu bs ((a+8+i * 44 : Nat) : Int) 4) =false→dU ⟨bs,cs⟩ p 2 1=false from HG2.out 2 i 1 hlt)
    generalize fu bs ((a+8+i * 44 : Nat) : Int) 4=z at HV HS gK
    by_cases k5 : aW 1 7 z=true
    ·have HN:=Hid.aD (show dU ⟨bs,cs⟩ p 2 (i+1) =true by rw [HS.out,HT.out,k5];rfl)
     go_wp2_with (first| (go_at_call 89;refine(jA _ _).mono ?_;rw [hst];rintro e w2 ⟨rfl,rfl⟩) | (go_at_call 68;refine(jq _ _ ((bs.drop a).take 64) (8+ (i : Int) * 44) 4 (dh hrz dn) (by omega) (by decide) (by decide) (by rw [uP.out];omega) uN).mono ?_;rw [HV.out];rintro e w2 ⟨rfl,rfl⟩) | (go_at_call 36;refine(gW _ _ _ _).mono ?_;rintro e w1 ⟨rfl,rfl⟩))
     go_round
     case rel=>exact⟨i+1,by omega,by go_num,HN⟩
     case measure=>simp [intOf];omega
    ·have qB : aW 1 7 z=false:= (Bool.not_eq_true _).mp k5
     have HN:=Hid.aD (gK.out qB)
     clear k5
     go_wp2_with (first| (go_at_call 89;refine(jA _ _).mono ?_;rw [hst];rintro e w2 ⟨rfl,rfl⟩) | (go_at_call 68;refine(jq _ _ ((bs.drop a).take 64) (8+ (i : Int) * 44) 4 (dh hrz dn) (by omega) (by decide) (by decide) (by rw [uP.out];omega) uN).mono ?_;rw [HV.out];rintro e w2 ⟨rfl,rfl⟩) | (go_at_call 36;refine(gW _ _ _ _).mono ?_;rintro e w1 ⟨rfl,rfl⟩))
     go_ret
     exact⟨aS (by rw [kZ.out,HN.out]),by repeat (first|exact Below.refl _ _|refine Below.alloc ?_ (by simp<;>omega) _|refine bE ?_ (by simp<;>omega) _ _|refine Below.drew ?_|refine below_drewN ?_ _)⟩
   ·obtain rfl : i=1:=by omega
    go_wp2
    go_ret
    exact⟨aS (by rw [kZ.out,HT.out]),by repeat (first|exact Below.refl _ _|refine Below.alloc ?_ (by simp<;>omega) _|refine bE ?_ (by simp<;>omega) _ _|refine Below.drew ?_|refine below_drewN ?_ _)⟩
end Go.Proofs.Ytkmggglljkmjoaa
