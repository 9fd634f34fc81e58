/-
  Several texts in one: lemmas and contracts that the claim rests on.
-/
import Derived.Test.YtkmggglljkmjoaaUHNoReuse2
import Derived.Test.YtkmggglljkmjoaaUHNoReuse1
import Derived.Deep.QuietTactic
import Derived.BigQuiet
import Derived.Deep.LoopGhost
import Derived.Deep.RegionHeld3
import Derived.WalkSpells
import Derived.Laws.Cover3
import Derived.Test.YtkmggglljkmjoaaUHNoReuse7
namespace Go.Proofs.Ytkmggglljkmjoaa
open Go.RowKit
set_option maxRecDepth 100000 in
set_option maxHeartbeats 1000000 in
theorem nW (w : World)(H : dA)(x : Heap)(h : fZ w w.heap.size H x) :
  Calls Try.prog 33 #[.agg #[.slice H.Y.a H.Y.l H.Y.c, .slice H.Z.a H.Z.l H.Z.c]] w fun e w'=>e= .returned (.bool (fH x)) ∧Below w.heap.size w w':=by
 obtain⟨⟨A1,n1,c1⟩, ⟨A2,n2,c2⟩⟩ :=H
 obtain⟨bs,cs⟩ :=x
 have hr1 : dz FI w w.heap.size (.slice A1 n1 c1) bs:=h.Y
 have hr2 : dz FI w w.heap.size (.slice A2 n2 c2) cs:=h.Z
 obtain⟨_,_,hv,q1,q2,qx⟩ :=id hr1
 simp only [Value.slice.injEq] at hv
 obtain⟨rfl,rfl,rfl⟩ :=hv
 have hlt1 : bs.length≤9223372036854775807:=by unfold maxLen at q2;omega
 clear q1 q2 qx
 obtain⟨_,_,hv,q1,q2,qx⟩ :=id hr2
 simp only [Value.slice.injEq] at hv
 obtain⟨rfl,rfl,rfl⟩ :=hv
 have hlt2 : cs.length≤9223372036854775807:=by unfold maxLen at q2;omega
 clear q1 q2 qx h
 have HE:=Hid.aD (show fH ⟨bs,cs⟩ = (d_ ⟨bs,cs⟩ && (List.range 6).all (eu ⟨bs,cs⟩)) from rfl)
 show Calls Try.prog 33 #[.agg #[.slice A1 bs.length c1, .slice A2 cs.length c2]] _ _
 by_cases hs : d_ ⟨bs,cs⟩ =true
 case neg=>
  have HT:=Hid.aD ((Bool.not_eq_true _).mp hs)
  clear hs
  go_enter Try.func33,Try.ntmps33
  go_wp2_with (go_at_call 61;refine(mh _ ⟨⟨A1,bs.length,c1⟩, ⟨A2,cs.length,c2⟩⟩ ⟨bs,cs⟩ ⟨dh hr1 dn,dh hr2 dn⟩).mono ?_;rw [HT.out];rintro e w1 ⟨rfl,hb1⟩;obtain⟨os1,d1,rfl⟩ :=iR hb1;clear hb1)
  go_ret
  exact⟨aS (by rw [HE.out,HT.out];rfl),by repeat (first|exact Below.refl _ _|refine Below.alloc ?_ (by simp<;>omega) _|refine bE ?_ (by simp<;>omega) _ _|refine Below.drew ?_|refine below_drewN ?_ _)⟩
 have HS:=Hid.aD hs
 clear hs
 go_enter Try.func33,Try.ntmps33
 go_wp2_with fail
 refine(mh _ ⟨⟨A1,bs.length,c1⟩, ⟨A2,cs.length,c2⟩⟩ ⟨bs,cs⟩ ⟨dh hr1 dn,dh hr2 dn⟩).mono ?_
 rw [HS.out]
 rintro e w1 ⟨rfl,hb1⟩
 have q0 : w1.cell? ⟨w.heap.size,0,none⟩ =some (.slice A1 bs.length c1) :=fV hb1 (by simp<;>omega) (by simp [go_sem])
 have q1 : w1.cell? ⟨w.heap.size,1,none⟩ =some (.slice A2 cs.length c2) :=fV hb1 (by simp<;>omega) (by simp [go_sem])
 have hB1 : Below w.heap.size w w1:=Below.trans dn (hb1.mono (by simp))
 have z1 : w.heap.size<w1.heap.size:=by have:=hb1.size;simp at this;omega
 clear hb1
 go_wp2
 go_loopw [3,7] (fun _ i wr=> ∃k : Nat,k≤6∧i= .int .i64 k∧Hid ((List.range k).all (eu ⟨bs,cs⟩) =true) ∧Below w.heap.size w wr∧wr.cell? ⟨w.heap.size,0,none⟩ =some (.slice A1 bs.length c1) ∧wr.cell? ⟨w.heap.size,1,none⟩ =some (.slice A2 cs.length c2) ∧w.heap.size<wr.heap.size) (fun _ i _=>6 - (intOf i).toNat)
 case atStart=>exact⟨0,Nat.zero_le _,rfl,rfl,hB1,q0,q1,z1⟩
 case round=>
  obtain⟨i,hi,rfl,HT,hb,r0,r1,hz⟩ :=hrel
  clear q0 q1 hB1 z1
  by_cases hlt : i<6
  ·have HX:=Hid.aD (show (List.range (i+1)).all (eu ⟨bs,cs⟩) =eu ⟨bs,cs⟩ i by rw [List.range_succ,List.all_append,HT.out];simp)
   by_cases k1 : eu ⟨bs,cs⟩ i=true
   ·have HK:=Hid.aD k1
    clear k1
    go_wp2_with (go_at_call 62;refine(ru _ ⟨⟨A1,bs.length,c1⟩, ⟨A2,cs.length,c2⟩⟩ ⟨bs,cs⟩ i hlt ⟨dh hr1 hb,dh hr2 hb⟩ HS.out).mono ?_;rw [HK.out];rintro e w2 ⟨rfl,hb2⟩)
    go_roundw
    case rel=>exact⟨i+1,by omega,by go_num,Hid.aD (by rw [HX.out,HK.out]),hb.trans (hb2.mono hb.size),fV hb2 hz r0,fV hb2 hz r1,Nat.lt_of_lt_of_le hz hb2.size⟩
    case measure=>simp [intOf];omega
   ·have HK:=Hid.aD ((Bool.not_eq_true _).mp k1)
    have HN:=Hid.aD (show (List.range 6).all (eu ⟨bs,cs⟩) =false from List.all_eq_false.2 ⟨i,List.mem_range.2 hlt,by rw [HK.out];decide⟩)
    clear k1
    go_wp2_with (go_at_call 62;refine(ru _ ⟨⟨A1,bs.length,c1⟩, ⟨A2,cs.length,c2⟩⟩ ⟨bs,cs⟩ i hlt ⟨dh hr1 hb,dh hr2 hb⟩ HS.out).mono ?_;rw [HK.out];rintro e w2 ⟨rfl,hb2⟩)
    go_ret
    exact⟨aS (by rw [HE.out,HN.out];simp),hb.trans (hb2.mono hb.size)⟩
  ·obtain rfl : i=6:=by omega
   go_wp2
   go_ret
   exact⟨aS (by rw [HE.out,HT.out,HS.out];rfl),hb⟩
set_option maxRecDepth 100000 in
set_option maxHeartbeats 1000000 in
theorem xS (w : World)(H : dA)(x : Heap)(h : fZ w w.heap.size H x) :
  Calls Try.prog 28 #[.agg #[.slice H.Y.a H.Y.l H.Y.c, .slice H.Z.a H.Z.l H.Z.c]] w fun e w'=>e= .returned (.bool (fH x)) ∧Below w.heap.size w w':=by
 obtain⟨⟨A1,n1,c1⟩, ⟨A2,n2,c2⟩⟩ :=H
 obtain⟨bs,cs⟩ :=x
 have hr1 : dz FI w w.heap.size (.slice A1 n1 c1) bs:=h.Y
 have hr2 : dz FI w w.heap.size (.slice A2 n2 c2) cs:=h.Z
 obtain⟨_,_,hv,q1,q2,qx⟩ :=id hr1
 simp only [Value.slice.injEq] at hv
 obtain⟨rfl,rfl,rfl⟩ :=hv
 have hlt1 : bs.length≤9223372036854775807:=by unfold maxLen at q2;omega
 clear q1 q2 qx
 obtain⟨_,_,hv,q1,q2,qx⟩ :=id hr2
 simp only [Value.slice.injEq] at hv
 obtain⟨rfl,rfl,rfl⟩ :=hv
 have hlt2 : cs.length≤9223372036854775807:=by unfold maxLen at q2;omega
 clear q1 q2 qx h
 have HE:=Hid.aD (show fH ⟨bs,cs⟩ = (d_ ⟨bs,cs⟩ && (List.range 6).all (eu ⟨bs,cs⟩)) from rfl)
 show Calls Try.prog 28 #[.agg #[.slice A1 bs.length c1, .slice A2 cs.length c2]] _ _
 by_cases hs : d_ ⟨bs,cs⟩ =true
 case neg=>
  have HT:=Hid.aD ((Bool.not_eq_true _).mp hs)
  clear hs
  go_enter Try.func28,Try.ntmps28
  go_wp2_with (go_at_call 55;refine(qz _ ⟨⟨A1,bs.length,c1⟩, ⟨A2,cs.length,c2⟩⟩ ⟨bs,cs⟩ ⟨dh hr1 dn,dh hr2 dn⟩).mono ?_;rw [HT.out];rintro e w1 ⟨rfl,hb1⟩;obtain⟨os1,d1,rfl⟩ :=iR hb1;clear hb1)
  go_ret
  exact⟨aS (by rw [HE.out,HT.out];rfl),by repeat (first|exact Below.refl _ _|refine Below.alloc ?_ (by simp<;>omega) _|refine bE ?_ (by simp<;>omega) _ _|refine Below.drew ?_|refine below_drewN ?_ _)⟩
 have HS:=Hid.aD hs
 clear hs
 go_enter Try.func28,Try.ntmps28
 go_wp2_with fail
 refine(qz _ ⟨⟨A1,bs.length,c1⟩, ⟨A2,cs.length,c2⟩⟩ ⟨bs,cs⟩ ⟨dh hr1 dn,dh hr2 dn⟩).mono ?_
 rw [HS.out]
 rintro e w1 ⟨rfl,hb1⟩
 have q0 : w1.cell? ⟨w.heap.size,0,none⟩ =some (.slice A1 bs.length c1) :=fV hb1 (by simp<;>omega) (by simp [go_sem])
 have q1 : w1.cell? ⟨w.heap.size,1,none⟩ =some (.slice A2 cs.length c2) :=fV hb1 (by simp<;>omega) (by simp [go_sem])
 have hB1 : Below w.heap.size w w1:=Below.trans dn (hb1.mono (by simp))
 have z1 : w.heap.size<w1.heap.size:=by have:=hb1.size;simp at this;omega
 clear hb1
 go_wp2
 go_loopw [3] (fun i wr=> ∃k : Nat,k≤6∧i= .int .i64 k∧Hid ((List.range k).all (eu ⟨bs,cs⟩) =true) ∧Below w.heap.size w wr∧wr.cell? ⟨w.heap.size,0,none⟩ =some (.slice A1 bs.length c1) ∧wr.cell? ⟨w.heap.size,1,none⟩ =some (.slice A2 cs.length c2) ∧w.heap.size<wr.heap.size) (fun i _=>6 - (intOf i).toNat)
 case atStart=>exact⟨0,Nat.zero_le _,rfl,rfl,hB1,q0,q1,z1⟩
 case round=>
  obtain⟨i,hi,rfl,HT,hb,r0,r1,hz⟩ :=hrel
  clear q0 q1 hB1 z1
  by_cases hlt : i<6
  ·have HX:=Hid.aD (show (List.range (i+1)).all (eu ⟨bs,cs⟩) =eu ⟨bs,cs⟩ i by rw [List.range_succ,List.all_append,HT.out];simp)
   by_cases k1 : eu ⟨bs,cs⟩ i=true
   ·have HK:=Hid.aD k1
    clear k1
    go_wp2_with (go_at_call 56;refine(rA _ ⟨⟨A1,bs.length,c1⟩, ⟨A2,cs.length,c2⟩⟩ ⟨bs,cs⟩ i hlt ⟨dh hr1 hb,dh hr2 hb⟩ HS.out).mono ?_;rw [HK.out];rintro e w2 ⟨rfl,hb2⟩)
    go_roundw
    case rel=>exact⟨i+1,by omega,by go_num,Hid.aD (by rw [HX.out,HK.out]),hb.trans (hb2.mono hb.size),fV hb2 hz r0,fV hb2 hz r1,Nat.lt_of_lt_of_le hz hb2.size⟩
    case measure=>simp [intOf];omega
   ·have HK:=Hid.aD ((Bool.not_eq_true _).mp k1)
    have HN:=Hid.aD (show (List.range 6).all (eu ⟨bs,cs⟩) =false from List.all_eq_false.2 ⟨i,List.mem_range.2 hlt,by rw [HK.out];decide⟩)
    clear k1
    go_wp2_with (go_at_call 56;refine(rA _ ⟨⟨A1,bs.length,c1⟩, ⟨A2,cs.length,c2⟩⟩ ⟨bs,cs⟩ i hlt ⟨dh hr1 hb,dh hr2 hb⟩ HS.out).mono ?_;rw [HK.out];rintro e w2 ⟨rfl,hb2⟩)
    go_ret
    exact⟨aS (by rw [HE.out,HN.out];simp),hb.trans (hb2.mono hb.size)⟩
  ·obtain rfl : i=6:=by omega
   go_wp2
   go_ret
   exact⟨aS (by rw [HE.out,HT.out,HS.out];rfl),hb⟩
end Go.Proofs.Ytkmggglljkmjoaa
namespace Go.Proofs.Ytkmggglljkmjoaa
open Go.RowKit
theorem Try.stInt : ST Try.prog FI 24 3:= ⟨Try.underlying24, .int .i64 0,8,by kernel_rfl,rfl,by decide⟩
set_option maxHeartbeats 1000000 in
theorem nX (w : World)(v : Value)(l : List Int)(x : Int)(h : dz FI w w.heap.size v l) :
  Calls Try.prog 72 #[v, .int .i64 x] w fun e w'=>e= .returned (.int .i64 (idxOf (fun y=>y == x) l)) ∧w=w':=by
 obtain⟨A,c,hv,q1,q2,_⟩ :=id h
 have kR : l.length≤9223372036854775807:=by unfold maxLen at q2;omega
 subst hv
 clear q1 q2
 go_enter Try.func72,Try.ntmps72
 go_wp2
 go_loop [5,8] (fun _ i=> ∃i' : Nat,i'≤l.length∧i= .int .i64 i'∧Hid ((l.take i').any (fun y=>y == x) =false)) (fun _ i=>l.length - (intOf i).toNat)
 case atStart=>exact⟨0,Nat.zero_le _,rfl,rfl⟩
 case round=>
  obtain⟨i,hi,rfl,HN⟩ :=hrel
  by_cases hlt : i<l.length
  ·obtain⟨g,off,cap',he,hg,_,_,hc⟩ :=h.at_ (List.getElem?_eq_getElem hlt)
   injection he with he1 he2 gq
   clear he2
   subst he1 gq
   have p0 : w.cell? ⟨g,off+i,none⟩ =some (.int .i64 l[i]) :=by simpa [FI] using hc 0 _ rfl
   clear hc h
   by_cases hp : x=l[i]
   ·have HP:=Hid.aD (idxOf_hit (fun y=>y == x) l i hlt HN.out (by simp [hp]))
    have hp' : (x == l[i]) =true:=by simpa using hp
    clear hp
    go_wp2
    go_ret
    exact⟨bU HP.out.symm,rfl⟩
   ·have HP:=Hid.aD (any_take_succ (fun y=>y == x) l i hlt HN.out (by simpa using fun e=>hp e.symm))
    have hp' : (x == l[i]) =false:=by simpa using hp
    clear hp
    go_wp2
    go_round
    case rel=>exact⟨i+1,by omega,by go_num,HP⟩
    case measure=>simp [intOf];omega
  ·go_wp2
   go_ret
   obtain rfl : i=l.length:=by omega
   exact⟨bU (oJ _ l (by simpa using HN.out)).symm,rfl⟩
set_option maxHeartbeats 1000000 in
theorem uS (w : World)(v : Value)(l : List Int)(x : Int)(h : dz FI w w.heap.size v l) :
  Calls Try.prog 92 #[v, .int .i64 x] w fun e w'=>e= .returned (.bool (l.any fun y=>y == x)) ∧w=w':=by
 go_enter Try.func92,Try.ntmps92
 go_wp2_with fail
 refine(nX w v l x h).mono ?_
 rintro e w1 ⟨rfl,rfl⟩
 have HP:=Hid.aD (rZ (fun y=>y == x) l)
 go_wp2
 go_ret
 exact⟨aS HP.out,rfl⟩
set_option maxHeartbeats 1000000 in
theorem uT (w : World)(v : Value)(t : List SV)(ll : List (List Int))(h : fO FI w w.heap.size v t ll)(fid : FuncId)(cap : Array Value)(p : List Int→Bool)(hent : ∀ (A : Option Addr) (n c : Nat) (W : World), (callFunc fid (#[.agg #[.slice A n c]]++cap)).run Try.prog W= .ok (.enter fid (#[.agg #[.slice A n c]]++cap)) W)(hf : ∀ (A : Option Addr) (c : Nat) (l : List Int) (W : World),Below w.heap.size w W→dz FI W W.heap.size (.slice A l.length c) l→Calls Try.prog fid (#[.agg #[.slice A l.length c]]++cap) W fun e W'=>e= .returned (.bool (p l)) ∧Below W.heap.size W W') :
  Calls Try.prog 100 #[v, .func (.func fid) #[] cap] w fun e w'=>e= .returned (.int .i64 (idxOf p ll)) ∧Below w.heap.size w w':=by
 obtain⟨A,c,hv,_⟩ :=id h.outer
 subst hv
 obtain⟨en,hcap,hmx⟩ :=h.len'
 have kR : ll.length≤9223372036854775807:=by unfold maxLen at hmx;omega
 rw [en] at h⊢
 clear en hcap hmx
 have HF:=Hid.aD hf
 clear hf
 go_enter Try.func100,Try.ntmps100
 go_wp2
 go_loopw [5,8] (fun _ i wr=> ∃i' : Nat,i'≤ll.length∧i= .int .i64 i'∧Below w.heap.size w wr∧ (ll.take i').any p=false) (fun _ i _=>ll.length - (intOf i).toNat)
 case atStart=>exact⟨0,Nat.zero_le _,rfl,Below.refl _ _,rfl⟩
 case round=>
  obtain⟨i,hi,rfl,hb,hno⟩ :=hrel
  have HN:=Hid.aD hno
  clear hno
  by_cases hlt : i<ll.length
  ·obtain⟨g,o,A',c',rfl,hg,p0,r1⟩ :=h.row hb hlt
   clear h
   go_wp2_with fail
   refine(HF.out A' c' ll[i] wr hb (dh r1 hb)).mono ?_
   rintro e w1 ⟨rfl,hb1⟩
   have hb2:=hb.trans (hb1.mono hb.size)
   by_cases hp : p ll[i]=true
   ·have HP:=Hid.aD (idxOf_hit p ll i hlt HN.out hp)
    rw [hp]
    clear hp
    go_wp2
    go_ret
    exact⟨bU HP.out.symm,hb2⟩
   ·have hp' : p ll[i]=false:=by simpa using hp
    have HP:=Hid.aD (any_take_succ p ll i hlt HN.out hp')
    rw [hp']
    clear hp hp'
    go_wp2
    go_roundw
    case rel=>exact⟨i+1,by omega,by go_num,hb2,HP.out⟩
    case measure=>simp [intOf];omega
  ·go_wp2
   go_ret
   obtain rfl : i=ll.length:=by omega
   exact⟨bU (oJ p ll (by simpa using HN.out)).symm,hb⟩
set_option maxHeartbeats 1000000 in
theorem mJ (w : World)(v : Value)(t : List SV)(ll : List (List Int))(h : fO FI w w.heap.size v t ll)(fid : FuncId)(cap : Array Value)(p : List Int→Bool)(hent : ∀ (A : Option Addr) (n c : Nat) (W : World), (callFunc fid (#[.agg #[.slice A n c]]++cap)).run Try.prog W= .ok (.enter fid (#[.agg #[.slice A n c]]++cap)) W)(hf : ∀ (A : Option Addr) (c : Nat) (l : List Int) (W : World),Below w.heap.size w W→dz FI W W.heap.size (.slice A l.length c) l→Calls Try.prog fid (#[.agg #[.slice A l.length c]]++cap) W fun e W'=>e= .returned (.bool (p l)) ∧Below W.heap.size W W') :
  Calls Try.prog 93 #[v, .func (.func fid) #[] cap] w fun e w'=>e= .returned (.bool (ll.any p)) ∧Below w.heap.size w w':=by
 have HF:=Hid.aD hf
 clear hf
 go_enter Try.func93,Try.ntmps93
 go_wp2_with fail
 refine(uT w v t ll h fid cap p hent HF.out).mono ?_
 rintro e w1 ⟨rfl,hb1⟩
 have HP:=Hid.aD (rZ p ll)
 go_wp2
 go_ret
 exact⟨aS HP.out,hb1⟩
set_option maxHeartbeats 1000000 in
theorem Aq (w : World)(v : Value)(z : List Int)(x : Int)(h : dz FI w w.heap.size v z) :
  Calls Try.prog 58 #[v, .int .i64 x] w fun e w'=>e= .returned (.bool (z.any fun y=>y == x)) ∧Below w.heap.size w w':=by
 obtain⟨A,c,hv,q1,q2,_⟩ :=id h
 have kR : z.length≤9223372036854775807:=by unfold maxLen at q2;omega
 subst hv
 clear q1 q2
 go_enter Try.func58,Try.ntmps58
 go_wp2
 go_loopw [5] (fun i wr=> ∃k : Nat,k≤z.length∧i= .int .i64 k∧Below w.heap.size w wr∧ (z.take k).any (fun y=>y == x) =false) (fun i _=>z.length - (intOf i).toNat)
 case atStart=>exact⟨0,Nat.zero_le _,rfl,Below.refl _ _,rfl⟩
 case round=>
  obtain⟨i,hi,rfl,hb,hno⟩ :=hrel
  have HN:=Hid.aD hno
  clear hno
  by_cases hlt : i<z.length
  ·obtain⟨g,off,cap',he,hg,_,_,hc⟩ := (h.below hb).at_ (List.getElem?_eq_getElem hlt)
   injection he with he1 he2 gq
   clear he2
   subst he1 gq
   have p0 : wr.cell? ⟨g,off+i,none⟩ =some (.int .i64 z[i]) :=by simpa [FI] using hc 0 _ rfl
   clear hc h
   by_cases hz : z[i]=x
   ·have hz1 : (z[i] == x) =true:=by simpa using hz
    have HP:=Hid.aD (show (z.any fun y=>y == x) =true from List.any_eq_true.2 ⟨z[i],List.getElem_mem hlt,hz1⟩)
    clear hz
    go_wp2
    go_ret
    exact⟨aS HP.out.symm,hb⟩
   ·have hz1 : (z[i] == x) =false:=by simpa using hz
    have HP:=Hid.aD (any_take_succ (fun y=>y == x) z i hlt HN.out hz1)
    clear hz
    go_wp2
    go_roundw
    case rel=>exact⟨i+1,by omega,by go_num,hb,HP.out⟩
    case measure=>simp [intOf];omega
  ·go_wp2
   go_ret
   obtain rfl : i=z.length:=by omega
   exact⟨aS (by simpa using HN.out.symm),hb⟩
def iw (l : Lists)(s : Int) : Bool:= (l.G.any fun r=>r.any fun y=>y == s) || (l.O.any fun r=>r.any fun y=>y == s)
theorem qC {α : Type}(p : α→Bool)(ll : List (List α)) : ll.flatten.any p=ll.any fun l=>l.any p:=by
 induction ll with
 |nil=>rfl
 |cons a l ih=>simp [ih]
def fB (l : Lists) : List Int:=l.G.flatten++l.O.flatten
theorem rC (l : Lists)(s : Int) : iw l s= (fB l).any fun y=>y == s:=by
 unfold iw fB
 rw [List.any_append,qC,qC]
set_option maxHeartbeats 1000000 in
theorem qD (A : Option Addr)(c : Nat)(l : List Int)(slot : Int)(b : Nat)(w : World)(h : dz FI w w.heap.size (.slice A l.length c) l)(h0 : w.cell? ⟨b,0,none⟩ =some (.int .i64 slot))(hb : b<w.heap.size) :
  Calls Try.prog 91 #[.agg #[.slice A l.length c], .pointer (some ⟨b,0,none⟩)] w fun e w'=>e= .returned (.bool (l.any fun y=>y == slot)) ∧Below w.heap.size w w':=by
 go_enter Try.func91,Try.ntmps91
 go_wp2_with fail
 refine(uS _ _ l slot (dh h dn)).mono ?_
 rintro e w1 ⟨rfl,rfl⟩
 go_wp2
 go_ret
 exact⟨rfl,by repeat (first|exact Below.refl _ _|refine Below.alloc ?_ (by simp<;>omega) _|refine bE ?_ (by simp<;>omega) _ _|refine Below.drew ?_|refine below_drewN ?_ _)⟩
set_option maxRecDepth 100000 in
set_option maxHeartbeats 1000000 in
theorem rD (w : World)(H : aY)(x : Lists)(s : Int)(h : gM w w.heap.size H x) :
  Calls Try.prog 66 #[.agg #[.slice H.G.a H.G.l H.G.c, .slice H.O.a H.O.l H.O.c], .int .i64 s] w fun e w'=>e= .returned (.bool (iw x s)) ∧Below w.heap.size w w':=by
 obtain⟨⟨A1,n1,c1⟩,T1, ⟨A2,n2,c2⟩,T2⟩ :=H
 obtain⟨gl,ow⟩ :=x
 have hr1 : fO FI w w.heap.size (.slice A1 n1 c1) T1 gl:=h.G
 have hr2 : fO FI w w.heap.size (.slice A2 n2 c2) T2 ow:=h.O
 obtain⟨nu,_,hmx⟩ :=hr1.len'
 have hlt1 : gl.length≤9223372036854775807:=by unfold maxLen at hmx;omega
 clear hmx
 obtain⟨ny,_,hmx⟩ :=hr2.len'
 have hlt2 : ow.length≤9223372036854775807:=by unfold maxLen at hmx;omega
 clear hmx h
 subst nu ny
 have HE:=Hid.aD (show iw ⟨gl,ow⟩ s= ((gl.any fun r=>r.any fun y=>y == s) || (ow.any fun r=>r.any fun y=>y == s)) from rfl)
 show Calls Try.prog 66 #[.agg #[.slice A1 gl.length c1, .slice A2 ow.length c2], .int .i64 s] _ _
 go_enter Try.func66,Try.ntmps66
 go_wp2_with fail
 refine(mJ _ _ T1 gl (mW hr1 dn) 91 #[.pointer (some ⟨w.heap.size+1,0,none⟩)] (fun l=>l.any fun y=>y == s) (fun _ _ _ _=>by kernel_rfl) (fun A c l W hW hr=>qD A c l s (w.heap.size+1) W hr ((hW.cell (p:= ⟨w.heap.size+1,0,none⟩) (by simp)).trans (by simp [go_sem])) (by have:=hW.size;simp at this;omega))).mono ?_
 rintro e w1 ⟨rfl,hb1⟩
 have q0 : w1.cell? ⟨w.heap.size,0,none⟩ =some (.slice A1 gl.length c1) :=fV hb1 (by simp<;>omega) (by simp [go_sem])
 have q1 : w1.cell? ⟨w.heap.size,1,none⟩ =some (.slice A2 ow.length c2) :=fV hb1 (by simp<;>omega) (by simp [go_sem])
 have q2 : w1.cell? ⟨w.heap.size+1,0,none⟩ =some (.int .i64 s) :=fV hb1 (by simp<;>omega) (by simp [go_sem])
 have hB1 : Below w.heap.size w w1:=Below.trans dn (hb1.mono (by simp<;>omega))
 have z1 : w.heap.size+1<w1.heap.size:=by have:=hb1.size;simp at this;omega
 clear hb1
 by_cases k1 : (gl.any fun r=>r.any fun y=>y == s) =true
 ·have K1:=Hid.aD k1
  rw [k1]
  clear k1
  go_wp2
  go_ret
  exact⟨aS (by rw [HE.out,K1.out];rfl),hB1⟩
 ·have k1' : (gl.any fun r=>r.any fun y=>y == s) =false:= (Bool.not_eq_true _).mp k1
  have K1:=Hid.aD k1'
  rw [k1']
  clear k1 k1'
  go_wp2_with fail
  refine(mJ _ _ T2 ow (mW hr2 hB1) 91 #[.pointer (some ⟨w.heap.size+1,0,none⟩)] (fun l=>l.any fun y=>y == s) (fun _ _ _ _=>by kernel_rfl) (fun A c l W hW hr=>qD A c l s (w.heap.size+1) W hr ((hW.cell (p:= ⟨w.heap.size+1,0,none⟩) z1).trans q2) (Nat.lt_of_lt_of_le z1 hW.size))).mono ?_
  rintro e w2 ⟨rfl,hb2⟩
  go_wp2
  go_ret
  exact⟨aS (by rw [HE.out,K1.out];rfl),hB1.trans (hb2.mono hB1.size)⟩
theorem wh {w w' : World}{r : Option Nat}(h : w.grownBy w' r)(g i : Nat)(hg : g<w.heap.size)(hn : r≠some g) : w'.cell? ⟨g,i,none⟩ =w.cell? ⟨g,i,none⟩ :=by
 simp [World.cell?,h.block g hg (fun e=>hn e.symm)]
set_option maxRecDepth 100000 in
set_option maxHeartbeats 1000000 in
theorem wK (w : World)(H : aY)(x : Lists)(h : gM w w.heap.size H x)(hs1 : iJ x.G≤536870912)(hs2 : iJ x.O≤536870912) :
  Calls Try.prog 57 #[.agg #[.slice H.G.a H.G.l H.G.c, .slice H.O.a H.O.l H.O.c]] w fun e w'=> ∃v',e= .returned v'∧bF FI 3 w' v' (fB x) ∧ (∀g∈bL v',w.heap.size≤g) ∧Below w.heap.size w w':=by
 obtain⟨⟨A1,n1,c1⟩,T1, ⟨A2,n2,c2⟩,T2⟩ :=H
 obtain⟨gl,ow⟩ :=x
 have hr1 : fO FI w w.heap.size (.slice A1 n1 c1) T1 gl:=h.G
 have hr2 : fO FI w w.heap.size (.slice A2 n2 c2) T2 ow:=h.O
 obtain⟨nu,_,hmx⟩ :=hr1.len'
 have hlt1 : gl.length≤9223372036854775807:=by unfold maxLen at hmx;omega
 clear hmx
 obtain⟨ny,_,hmx⟩ :=hr2.len'
 have hlt2 : ow.length≤9223372036854775807:=by unfold maxLen at hmx;omega
 clear hmx h
 subst nu ny
 simp only at hs1 hs2
 have Ew:=Hid.aD (show fB ⟨gl,ow⟩ =gl.flatten++ow.flatten from rfl)
 show Calls Try.prog 57 #[.agg #[.slice A1 gl.length c1, .slice A2 ow.length c2]] _ _
 go_enter Try.func57,Try.ntmps57
 go_wp2
 go_loopw [3,4] (fun o i wr=> ∃k : Nat,k≤gl.length∧i= .int .i64 k∧bF FI 3 wr o ((gl.take k).flatten) ∧ (∀g∈bL o,w.heap.size<g) ∧Below w.heap.size w wr∧wr.cell? ⟨w.heap.size,0,none⟩ =some (.slice A1 gl.length c1) ∧wr.cell? ⟨w.heap.size,1,none⟩ =some (.slice A2 ow.length c2) ∧w.heap.size<wr.heap.size) (fun _ i _=>gl.length - (intOf i).toNat)
 case atStart=>exact⟨0,Nat.zero_le _,rfl, (by have hq:=bF.lit FI [] #[] rfl (by decide) (w.alloc (.cells #[.slice A1 gl.length c1, .slice A2 ow.length c2] 29)) 3;simpa using hq),by simp [bL,Value.ownBlock],by repeat (first|exact Below.refl _ _|refine Below.alloc ?_ (by simp<;>omega) _|refine bE ?_ (by simp<;>omega) _ _|refine Below.drew ?_|refine below_drewN ?_ _),by simp [go_sem],by simp [go_sem],by simp;omega⟩
 case round=>
  obtain⟨i,hi,rfl,ho,hfo,hb,r0,r1,hz⟩ :=hrel
  by_cases hlt : i<gl.length
  ·obtain⟨g,o,A',c',kH,hg,p0,Bg⟩ :=hr1.row hb hlt
   subst kH
   have hfl : ((gl.take i).flatten).length+gl[i].length≤1073741824:=by
    have a:=lD gl i hlt
    have b:=mG gl (i+1)
    have c : jE gl≤iJ gl:=Nat.le_add_left _ _
    rw [←mY]
    omega
   have HF:=Hid.aD (show (gl.take (i+1)).flatten= ((gl.take i).flatten) ++gl[i] from by rw [List.take_succ_eq_append_getElem hlt,List.flatten_append,List.flatten_singleton])
   clear hr1 hr2
   go_wp2_with (at_builtin;refine dV Try.stInt rfl _ _ rfl (v:=u3) (y:= .slice A' gl[i].length c') (l:= (gl.take i).flatten) (m:=gl[i]) rfl rfl ho (dh Bg hb) hfl ?_;intro v' w3 ho' hg' hat')
   have hb3 : Below w.heap.size w w3:=hb.grown hg' hb.size (fun k hk=>Nat.le_of_lt (hfo k (bH.2 hk)))
   have s0:= (wh hg' w.heap.size 0 hz (fun hm=>by have:=hfo _ (bH.2 hm);omega)).trans r0
   have s1:= (wh hg' w.heap.size 1 hz (fun hm=>by have:=hfo _ (bH.2 hm);omega)).trans r1
   go_roundw
   case rel=>exact⟨i+1,by omega,by go_num,by rw [HF.out];exact ho',fun b hb'=>by rcases iE hat' b hb' with h|h; (exact hfo b h); (have:=hb.size;omega),hb3,s0,s1,Nat.lt_of_lt_of_le hz hg'.size⟩
   case measure=>simp [intOf];omega
  ·obtain rfl : i=gl.length:=by omega
   rw [List.take_length] at ho
   go_wp2
   go_loopw [3,5] (fun o i wr=> ∃k : Nat,k≤ow.length∧i= .int .i64 k∧bF FI 3 wr o (gl.flatten++ (ow.take k).flatten) ∧ (∀g∈bL o,w.heap.size<g) ∧Below w.heap.size w wr∧wr.cell? ⟨w.heap.size,0,none⟩ =some (.slice A1 gl.length c1) ∧wr.cell? ⟨w.heap.size,1,none⟩ =some (.slice A2 ow.length c2) ∧w.heap.size<wr.heap.size) (fun _ i _=>ow.length - (intOf i).toNat)
   case atStart=>exact⟨0,Nat.zero_le _,rfl,by simpa using ho,hfo,hb,r0,r1,hz⟩
   case round=>
    obtain⟨i,hi,rfl,ho,hfo,hb,r0,r1,hz⟩ :=hrel
    by_cases hlt : i<ow.length
    ·obtain⟨g,o,A',c',kH,hg,p0,Bg⟩ :=hr2.row hb hlt
     subst kH
     have hfl : (gl.flatten++ (ow.take i).flatten).length+ow[i].length≤1073741824:=by
      have a:=lD ow i hlt
      have b:=mG ow (i+1)
      have c : jE ow≤iJ ow:=Nat.le_add_left _ _
      simp only [List.length_append];rw [←mY, ←mY];have d : jE gl≤iJ gl:=Nat.le_add_left _ _
      omega
     have HF:=Hid.aD (show gl.flatten++ (ow.take (i+1)).flatten= (gl.flatten++ (ow.take i).flatten) ++ow[i] from by rw [List.take_succ_eq_append_getElem hlt,List.flatten_append,List.flatten_singleton];rw [List.append_assoc])
     clear hr1 hr2
     go_wp2_with (at_builtin;refine dV Try.stInt rfl _ _ rfl (v:=u3) (y:= .slice A' ow[i].length c') (l:=gl.flatten++ (ow.take i).flatten) (m:=ow[i]) rfl rfl ho (dh Bg hb) hfl ?_;intro v' w3 ho' hg' hat')
     have hb3 : Below w.heap.size w w3:=hb.grown hg' hb.size (fun k hk=>Nat.le_of_lt (hfo k (bH.2 hk)))
     have s0:= (wh hg' w.heap.size 0 hz (fun hm=>by have:=hfo _ (bH.2 hm);omega)).trans r0
     have s1:= (wh hg' w.heap.size 1 hz (fun hm=>by have:=hfo _ (bH.2 hm);omega)).trans r1
     go_roundw
     case rel=>exact⟨i+1,by omega,by go_num,by rw [HF.out];exact ho',fun b hb'=>by rcases iE hat' b hb' with h|h; (exact hfo b h); (have:=hb.size;omega),hb3,s0,s1,Nat.lt_of_lt_of_le hz hg'.size⟩
     case measure=>simp [intOf];omega
    ·obtain rfl : i=ow.length:=by omega
     go_wp2
     go_ret
     refine⟨_,rfl, ?_,fun g hg=>Nat.le_of_lt (hfo g hg),hb⟩
     rw [Ew.out]
     simpa using ho
set_option maxHeartbeats 1000000 in
theorem xU (w : World)(H : aY)(x : Lists)(s : Int)(h : gM w w.heap.size H x)(hs1 : iJ x.G≤536870912)(hs2 : iJ x.O≤536870912) :
  Calls Try.prog 75 #[.agg #[.slice H.G.a H.G.l H.G.c, .slice H.O.a H.O.l H.O.c], .int .i64 s] w fun e w'=>e= .returned (.bool (iw x s)) ∧Below w.heap.size w w':=by
 obtain⟨⟨A1,n1,c1⟩,T1, ⟨A2,n2,c2⟩,T2⟩ :=H
 obtain⟨gl,ow⟩ :=x
 have hr1 : fO FI w w.heap.size (.slice A1 n1 c1) T1 gl:=h.G
 have hr2 : fO FI w w.heap.size (.slice A2 n2 c2) T2 ow:=h.O
 obtain⟨nu,_,hmx⟩ :=hr1.len'
 have hlt1 : gl.length≤9223372036854775807:=by unfold maxLen at hmx;omega
 clear hmx
 obtain⟨ny,_,hmx⟩ :=hr2.len'
 have hlt2 : ow.length≤9223372036854775807:=by unfold maxLen at hmx;omega
 clear hmx h
 subst nu ny
 simp only at hs1 hs2
 have HE:=Hid.aD (rC ⟨gl,ow⟩ s)
 show Calls Try.prog 75 #[.agg #[.slice A1 gl.length c1, .slice A2 ow.length c2], .int .i64 s] _ _
 go_enter Try.func75,Try.ntmps75
 go_wp2_with fail
 refine(wK _ ⟨⟨A1,gl.length,c1⟩,T1, ⟨A2,ow.length,c2⟩,T2⟩ ⟨gl,ow⟩ ⟨mW hr1 dn,mW hr2 dn⟩ hs1 hs2).mono ?_
 rintro e w1 ⟨v',rfl,ho,hf,hb0⟩
 have hB1 : Below w.heap.size w w1:=Below.trans dn (hb0.mono (by simp<;>omega))
 clear hf hb0
 generalize fB ⟨gl,ow⟩ =L at ho HE
 go_wp2_with fail
 refine(Aq _ _ L s ho.rd').mono ?_
 rintro e w2 ⟨rfl,hb2⟩
 go_wp2
 go_ret
 exact⟨aS HE.out.symm,hB1.trans (hb2.mono hB1.size)⟩
end Go.Proofs.Ytkmggglljkmjoaa
namespace Go.Proofs.Ytkmggglljkmjoaa
open Go.RowKit
def gT (L : List Int) : Bool:=L.all (aW 0 23) &&decide L.Nodup
theorem o8 (L : List Int)(x : Int) : (L.any fun y=>y == x) =decide (x∈L) :=by
 rw [Bool.eq_iff_iff]
 simp
theorem tK {L : List Int}{x : Int} : (L++ [x]).Nodup↔L.Nodup∧x∉L:=by
 rw [List.nodup_append]
 constructor
 ·rintro⟨a,_,b⟩
  exact⟨a,fun h=>b x h x (List.mem_singleton_self x) rfl⟩
 ·rintro⟨a,b⟩
  refine⟨a,by simp,fun u hu v hv e=> ?_⟩
  rw [List.mem_singleton.1 hv] at e
  exact b (e ▸ hu)
theorem qE {L : List Int}{p : Nat}(hp : p<L.length)(h : gT (L.take p) =true)(h1 : aW 0 23 L[p]=true)(h2 : ((L.take p).any fun y=>y == L[p]) =false) : gT (L.take (p+1)) =true:=by
 rw [o8,decide_eq_false_iff_not] at h2
 unfold gT at *
 rw [List.take_succ_eq_append_getElem hp,List.all_append]
 simp only [Bool.and_eq_true,decide_eq_true_eq] at *
 exact⟨⟨h.1,by simp [h1]⟩,tK.2 ⟨h.2,h2⟩⟩
theorem su {L : List Int}{p : Nat}(hp : p<L.length)(h1 : aW 0 23 L[p]=false) : gT L=false:=by
 unfold gT
 have : L.all (aW 0 23) =false:=List.all_eq_false.2 ⟨L[p],List.getElem_mem hp,by rw [h1];decide⟩
 rw [this]
 rfl
theorem sw {L : List Int}{p : Nat}(hp : p<L.length)(h2 : ((L.take p).any fun y=>y == L[p]) =true) : gT L=false:=by
 rw [o8,decide_eq_true_eq] at h2
 unfold gT
 have : ¬ L.Nodup:=fun hn=>by
  have e : L=L.take p++L.drop p:= (List.take_append_drop p L).symm
  rw [e,List.nodup_append] at hn
  exact hn.2.2 L[p] h2 L[p] (by rw [List.drop_eq_getElem_cons hp];exact List.mem_cons_self) rfl
 rw [decide_eq_false this,Bool.and_false]
theorem zB {L M : List Int}(h : L.Perm M) : gT L=gT M:=by
 unfold gT
 rw [Bool.eq_iff_iff]
 simp only [Bool.and_eq_true,decide_eq_true_eq,List.all_eq_true]
 exact⟨fun ⟨a,b⟩ => ⟨fun x hx=>a x (h.mem_iff.2 hx),h.nodup_iff.1 b⟩,fun ⟨a,b⟩ => ⟨fun x hx=>a x (h.mem_iff.1 hx),h.nodup_iff.2 b⟩⟩
theorem BL {α : Type}(ll : List (List α))(i j : Nat)(hi : i<ll.length)(hj : j<ll[i].length) : ll.flatten[jE (ll.take i) +j]? =some ll[i][j]:=by
 have e : ll.flatten= (ll.take i).flatten++ (ll[i]++ (ll.drop (i+1)).flatten) :=by
  rw [←List.flatten_cons, ←List.flatten_append, ←List.drop_eq_getElem_cons hi,List.take_append_drop]
 rw [e,mY,List.getElem?_append_right (by omega),Nat.add_sub_cancel_left,List.getElem?_append_left hj,List.getElem?_eq_getElem hj]
def lZ (M : List Int) : List Bool:= (List.range 24).map fun (s : Nat) =>M.any fun z=>z == (s : Int)
theorem sD (M : List Int) : (lZ M).length=24:=by simp [lZ]
theorem zC : lZ []=List.replicate 24 false:=rfl
theorem o9 (M : List Int)(s : Nat)(hs : s<24) : (lZ M)[s]? =some (M.any fun z=>z == (s : Int)) :=by simp [lZ,hs]
theorem wL (L : List Int)(p s : Nat)(hp : p<L.length)(hm : L[p]= (s : Int)) : (lZ (L.take p)).set s true=lZ (L.take (p+1)) :=by
 apply List.ext_getElem?
 intro k
 by_cases hk : k<24
 ·rw [List.getElem?_set,o9 _ _ hk,o9 _ _ hk,List.take_succ_eq_append_getElem hp,List.any_append,sD]
  by_cases hks : s=k
  ·subst hks
   simp [hm,hk]
  ·have : ((s : Int) == (k : Int)) =false:=by simp;omega
   simp only [if_neg hks,List.any_cons,List.any_nil,hm,this,Bool.or_false]
 ·rw [List.getElem?_eq_none (by simp [sD];omega),List.getElem?_eq_none (by simp [sD];omega)]
def iW (l : List Int) : Bool:=decide (l.length≤2)
def dM (x : Lists) : Bool:= (x.G.length == 3) && (x.O.length == 9) &&x.O.all iW&&gT (fB x)
theorem yX (x : Lists) : gT (x.O++x.G).flatten=gT (fB x) :=by
 refine zB ?_
 unfold fB
 rw [List.flatten_append]
 exact List.perm_append_comm
theorem o_ {α : Type}{p : α→Bool}{l : List α}{i : Nat}(hi : i<l.length)(h : (l.take i).all p=true)(hp : p l[i]=true) : (l.take (i+1)).all p=true:=by
 rw [List.take_succ_eq_append_getElem hi,List.all_append,h]
 simp [hp]
theorem tL {α : Type}{p : α→Bool}{l : List α}{i : Nat}(hi : i<l.length)(hp : p l[i]=false) : l.all p=false:=
 List.all_eq_false.2 ⟨l[i],List.getElem_mem hi,by rw [hp];decide⟩
def fF (h : Heap)(c s : Int) : Bool:= (ak h s == c) &&decide (bK h s≤6)
def bX (m : Mem) : Bool:=fH m.E&&dM m.I&& ((List.range 3).all fun c=> (m.I.G.getD c []).all (fF m.E c)) && ((List.range 9).all fun k=> (m.I.O.getD k []).all (fF m.E ((k%3 : Nat) : Int)))
def gu (m : Mem)(s : Int) : Int:=if ak m.E s<0 then 0 else if iw m.I s=true then 1 else if 6<bK m.E s then 2 else 3
def dY (h : Int) : Bool:=decide (32≤h) &&decide (h≤223) &&decide (h%32<24)
def fI (m : Mem)(h : Int) : Bool:=dY h&& (gu m (h%32) == 3) && (bK m.E (h%32) == h / 32)
theorem mQ {h : Heap}(k : fH h=true) : d_ h=true:=by
 unfold fH at k
 simp only [Bool.and_eq_true] at k
 exact k.1
theorem l5 {m : Mem}(k : bX m=true) : fH m.E=true:=by
 unfold bX at k
 simp only [Bool.and_eq_true] at k
 exact k.1.1.1
theorem iX {m : Mem}(k : bX m=true) : dM m.I=true:=by
 unfold bX at k
 simp only [Bool.and_eq_true] at k
 exact k.1.1.2
end Go.Proofs.Ytkmggglljkmjoaa
