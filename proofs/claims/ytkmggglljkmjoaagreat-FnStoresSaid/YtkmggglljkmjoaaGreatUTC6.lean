/-
  Several texts in one: lemmas and contracts that the claim rests on.
-/
import Derived.Test.YtkmggglljkmjoaaGreatUTC1
import Derived.Deep.QuietTactic
import Derived.BigQuiet
import Derived.Deep.LoopGhost
import Derived.Deep.RegionHeld3
import Derived.Test.YtkmggglljkmjoaaGreatUTC2
import Derived.WalkSpells
import Derived.Laws.Cover3
import Derived.Test.YtkmggglljkmjoaaGreatUTC5
import Derived.Deep.WholeRow
import Derived.Lib.AppendZerosOnto
import Derived.Lib.SliceRun
import Derived.Lib.Walk
namespace Go.Proofs.YtkmggglljkmjoaaGreat
open Go.RowKit
theorem Tryz.stInt : ST Tryz.prog FI 24 3:= ⟨Tryz.underlying24, .int .i64 0,8,by kernel_rfl,rfl,by decide⟩
set_option maxHeartbeats 1000000 in
theorem wV (w : World)(v : Value)(l : List Int)(x : Int)(h : fE FI w w.heap.size v l) :
  Calls Tryz.prog 207 #[v, .int .i64 x] w fun e w'=>e= .returned (.int .i64 (idxOf (fun y=>y == x) l)) ∧w=w':=by
 obtain⟨A,c,hv,q1,q2,_⟩ :=id h
 have m_ : l.length≤9223372036854775807:=by unfold maxLen at q2;omega
 subst hv
 clear q1 q2
 go_enter Tryz.func207,Tryz.ntmps207
 go_wp2
 go_loop [5,8] (fun _ i=> ∃i' : Nat,i'≤l.length∧i= .int .i64 i'∧Hid ((l.take i').any (fun y=>y == x) =false)) (fun _ i=>l.length - (intOf i).toNat)
 case atStart=>exact⟨0,Nat.zero_le _,rfl,rfl⟩
 case round=>
  obtain⟨i,hi,rfl,HN⟩ :=hrel
  by_cases hlt : i<l.length
  ·obtain⟨g,off,cap',he,hg,_,_,hc⟩ :=h.at_ (List.getElem?_eq_getElem hlt)
   injection he with he1 he2 jW
   clear he2
   subst he1 jW
   have p0 : w.cell? ⟨g,off+i,none⟩ =some (.int .i64 l[i]) :=by simpa [FI] using hc 0 _ rfl
   clear hc h
   by_cases hp : x=l[i]
   ·have HP:=Hid.aT (idxOf_hit (fun y=>y == x) l i hlt HN.out (by simp [hp]))
    have hp' : (x == l[i]) =true:=by simpa using hp
    clear hp
    go_wp2
    go_ret
    exact⟨dN HP.out.symm,rfl⟩
   ·have HP:=Hid.aT (any_take_succ (fun y=>y == x) l i hlt HN.out (by simpa using fun e=>hp e.symm))
    have hp' : (x == l[i]) =false:=by simpa using hp
    clear hp
    go_wp2
    go_round
    case rel=>exact⟨i+1,by omega,by go_num,HP⟩
    case measure=>simp [intOf];omega
  ·go_wp2
   go_ret
   obtain rfl : i=l.length:=by omega
   exact⟨dN (rT _ l (by simpa using HN.out)).symm,rfl⟩
set_option maxHeartbeats 1000000 in
theorem Dz (w : World)(v : Value)(l : List Int)(x : Int)(h : fE FI w w.heap.size v l) :
  Calls Tryz.prog 199 #[v, .int .i64 x] w fun e w'=>e= .returned (.bool (l.any fun y=>y == x)) ∧w=w':=by
 go_enter Tryz.func199,Tryz.ntmps199
 go_wp2_with fail
 refine(wV w v l x h).mono ?_
 rintro e w1 ⟨rfl,rfl⟩
 have HP:=Hid.aT (vO (fun y=>y == x) l)
 go_wp2
 go_ret
 exact⟨bK HP.out,rfl⟩
set_option maxHeartbeats 1000000 in
theorem DC (w : World)(v : Value)(t : List SV)(ll : List (List Int))(h : jl FI w w.heap.size v t ll)(fid : FuncId)(cap : Array Value)(p : List Int→Bool)(hent : ∀ (A : Option Addr) (n c : Nat) (W : World), (callFunc fid (#[.agg #[.slice A n c]]++cap)).run Tryz.prog W= .ok (.enter fid (#[.agg #[.slice A n c]]++cap)) W)(hf : ∀ (A : Option Addr) (c : Nat) (l : List Int) (W : World),Below w.heap.size w W→fE FI W W.heap.size (.slice A l.length c) l→Calls Tryz.prog fid (#[.agg #[.slice A l.length c]]++cap) W fun e W'=>e= .returned (.bool (p l)) ∧Below W.heap.size W W') :
  Calls Tryz.prog 230 #[v, .func (.func fid) #[] cap] w fun e w'=>e= .returned (.int .i64 (idxOf p ll)) ∧Below w.heap.size w w':=by
 obtain⟨A,c,hv,_⟩ :=id h.outer
 subst hv
 obtain⟨en,hcap,hmx⟩ :=h.len'
 have m_ : ll.length≤9223372036854775807:=by unfold maxLen at hmx;omega
 rw [en] at h⊢
 clear en hcap hmx
 have HF:=Hid.aT hf
 clear hf
 go_enter Tryz.func230,Tryz.ntmps230
 go_wp2
 go_loopw [5,8] (fun _ i wr=> ∃i' : Nat,i'≤ll.length∧i= .int .i64 i'∧Below w.heap.size w wr∧ (ll.take i').any p=false) (fun _ i _=>ll.length - (intOf i).toNat)
 case atStart=>exact⟨0,Nat.zero_le _,rfl,Below.refl _ _,rfl⟩
 case round=>
  obtain⟨i,hi,rfl,hb,hno⟩ :=hrel
  have HN:=Hid.aT hno
  clear hno
  by_cases hlt : i<ll.length
  ·obtain⟨g,o,A',c',rfl,hg,p0,r1⟩ :=h.row hb hlt
   clear h
   go_wp2_with fail
   refine(HF.out A' c' ll[i] wr hb (eP r1 hb)).mono ?_
   rintro e w1 ⟨rfl,hb1⟩
   have hb2:=hb.trans (hb1.mono hb.size)
   by_cases hp : p ll[i]=true
   ·have HP:=Hid.aT (idxOf_hit p ll i hlt HN.out hp)
    rw [hp]
    clear hp
    go_wp2
    go_ret
    exact⟨dN HP.out.symm,hb2⟩
   ·have hp' : p ll[i]=false:=by simpa using hp
    have HP:=Hid.aT (any_take_succ p ll i hlt HN.out hp')
    rw [hp']
    clear hp hp'
    go_wp2
    go_roundw
    case rel=>exact⟨i+1,by omega,by go_num,hb2,HP.out⟩
    case measure=>simp [intOf];omega
  ·go_wp2
   go_ret
   obtain rfl : i=ll.length:=by omega
   exact⟨dN (rT p ll (by simpa using HN.out)).symm,hb⟩
set_option maxHeartbeats 1000000 in
theorem uZ (w : World)(v : Value)(t : List SV)(ll : List (List Int))(h : jl FI w w.heap.size v t ll)(fid : FuncId)(cap : Array Value)(p : List Int→Bool)(hent : ∀ (A : Option Addr) (n c : Nat) (W : World), (callFunc fid (#[.agg #[.slice A n c]]++cap)).run Tryz.prog W= .ok (.enter fid (#[.agg #[.slice A n c]]++cap)) W)(hf : ∀ (A : Option Addr) (c : Nat) (l : List Int) (W : World),Below w.heap.size w W→fE FI W W.heap.size (.slice A l.length c) l→Calls Tryz.prog fid (#[.agg #[.slice A l.length c]]++cap) W fun e W'=>e= .returned (.bool (p l)) ∧Below W.heap.size W W') :
  Calls Tryz.prog 200 #[v, .func (.func fid) #[] cap] w fun e w'=>e= .returned (.bool (ll.any p)) ∧Below w.heap.size w w':=by
 have HF:=Hid.aT hf
 clear hf
 go_enter Tryz.func200,Tryz.ntmps200
 go_wp2_with fail
 refine(DC w v t ll h fid cap p hent HF.out).mono ?_
 rintro e w1 ⟨rfl,hb1⟩
 have HP:=Hid.aT (vO p ll)
 go_wp2
 go_ret
 exact⟨bK HP.out,hb1⟩
set_option maxHeartbeats 1000000 in
theorem xW (w : World)(v : Value)(z : List Int)(x : Int)(h : fE FI w w.heap.size v z) :
  Calls Tryz.prog 122 #[v, .int .i64 x] w fun e w'=>e= .returned (.bool (z.any fun y=>y == x)) ∧Below w.heap.size w w':=by
 obtain⟨A,c,hv,q1,q2,_⟩ :=id h
 have m_ : z.length≤9223372036854775807:=by unfold maxLen at q2;omega
 subst hv
 clear q1 q2
 go_enter Tryz.func122,Tryz.ntmps122
 go_wp2
 go_loopw [5] (fun i wr=> ∃k : Nat,k≤z.length∧i= .int .i64 k∧Below w.heap.size w wr∧ (z.take k).any (fun y=>y == x) =false) (fun i _=>z.length - (intOf i).toNat)
 case atStart=>exact⟨0,Nat.zero_le _,rfl,Below.refl _ _,rfl⟩
 case round=>
  obtain⟨i,hi,rfl,hb,hno⟩ :=hrel
  have HN:=Hid.aT hno
  clear hno
  by_cases hlt : i<z.length
  ·obtain⟨g,off,cap',he,hg,_,_,hc⟩ := (h.below hb).at_ (List.getElem?_eq_getElem hlt)
   injection he with he1 he2 jW
   clear he2
   subst he1 jW
   have p0 : wr.cell? ⟨g,off+i,none⟩ =some (.int .i64 z[i]) :=by simpa [FI] using hc 0 _ rfl
   clear hc h
   by_cases hz : z[i]=x
   ·have hz1 : (z[i] == x) =true:=by simpa using hz
    have HP:=Hid.aT (show (z.any fun y=>y == x) =true from List.any_eq_true.2 ⟨z[i],List.getElem_mem hlt,hz1⟩)
    clear hz
    go_wp2
    go_ret
    exact⟨bK HP.out.symm,hb⟩
   ·have hz1 : (z[i] == x) =false:=by simpa using hz
    have HP:=Hid.aT (any_take_succ (fun y=>y == x) z i hlt HN.out hz1)
    clear hz
    go_wp2
    go_roundw
    case rel=>exact⟨i+1,by omega,by go_num,hb,HP.out⟩
    case measure=>simp [intOf];omega
  ·go_wp2
   go_ret
   obtain rfl : i=z.length:=by omega
   exact⟨bK (by simpa using HN.out.symm),hb⟩
def kZ (l : Lists)(s : Int) : Bool:= (l.G.any fun r=>r.any fun y=>y == s) || (l.O.any fun r=>r.any fun y=>y == s)
theorem vT {α : Type}(p : α→Bool)(ll : List (List α)) : ll.flatten.any p=ll.any fun l=>l.any p:=by
 induction ll with
 |nil=>rfl
 |cons a l ih=>simp [ih]
def iT (l : Lists) : List Int:=l.G.flatten++l.O.flatten
theorem wW (l : Lists)(s : Int) : kZ l s= (iT l).any fun y=>y == s:=by
 unfold kZ iT
 rw [List.any_append,vT,vT]
set_option maxHeartbeats 1000000 in
theorem zw (A : Option Addr)(c : Nat)(l : List Int)(slot : Int)(b : Nat)(w : World)(h : fE FI w w.heap.size (.slice A l.length c) l)(h0 : w.cell? ⟨b,0,none⟩ =some (.int .i64 slot))(hb : b<w.heap.size) :
  Calls Tryz.prog 198 #[.agg #[.slice A l.length c], .pointer (some ⟨b,0,none⟩)] w fun e w'=>e= .returned (.bool (l.any fun y=>y == slot)) ∧Below w.heap.size w w':=by
 go_enter Tryz.func198,Tryz.ntmps198
 go_wp2_with fail
 refine(Dz _ _ l slot (eP h dJ)).mono ?_
 rintro e w1 ⟨rfl,rfl⟩
 go_wp2
 go_ret
 exact⟨rfl,by repeat (first|exact Below.refl _ _|refine Below.alloc ?_ (by simp<;>omega) _|refine dA ?_ (by simp<;>omega) _ _|refine Below.drew ?_|refine below_drewN ?_ _)⟩
set_option maxRecDepth 100000 in
set_option maxHeartbeats 1000000 in
theorem AB (w : World)(H : aZ)(x : Lists)(s : Int)(h : iC w w.heap.size H x) :
  Calls Tryz.prog 143 #[.agg #[.slice H.G.a H.G.l H.G.c, .slice H.O.a H.O.l H.O.c], .int .i64 s] w fun e w'=>e= .returned (.bool (kZ x s)) ∧Below w.heap.size w w':=by
 obtain⟨⟨A1,n1,c1⟩,T1, ⟨A2,n2,c2⟩,T2⟩ :=H
 obtain⟨gl,ow⟩ :=x
 have hr1 : jl FI w w.heap.size (.slice A1 n1 c1) T1 gl:=h.G
 have hr2 : jl FI w w.heap.size (.slice A2 n2 c2) T2 ow:=h.O
 obtain⟨sW,_,hmx⟩ :=hr1.len'
 have hlt1 : gl.length≤9223372036854775807:=by unfold maxLen at hmx;omega
 clear hmx
 obtain⟨sZ,_,hmx⟩ :=hr2.len'
 have hlt2 : ow.length≤9223372036854775807:=by unfold maxLen at hmx;omega
 clear hmx h
 subst sW sZ
 have HE:=Hid.aT (show kZ ⟨gl,ow⟩ s= ((gl.any fun r=>r.any fun y=>y == s) || (ow.any fun r=>r.any fun y=>y == s)) from rfl)
 show Calls Tryz.prog 143 #[.agg #[.slice A1 gl.length c1, .slice A2 ow.length c2], .int .i64 s] _ _
 go_enter Tryz.func143,Tryz.ntmps143
 go_wp2_with fail
 refine(uZ _ _ T1 gl (mJ hr1 dJ) 198 #[.pointer (some ⟨w.heap.size+1,0,none⟩)] (fun l=>l.any fun y=>y == s) (fun _ _ _ _=>by kernel_rfl) (fun A c l W hW hr=>zw A c l s (w.heap.size+1) W hr ((hW.cell (p:= ⟨w.heap.size+1,0,none⟩) (by simp)).trans (by simp [go_sem])) (by have:=hW.size;simp at this;omega))).mono ?_
 rintro e w1 ⟨rfl,hb1⟩
 have q0 : w1.cell? ⟨w.heap.size,0,none⟩ =some (.slice A1 gl.length c1) :=jJ hb1 (by simp<;>omega) (by simp [go_sem])
 have q1 : w1.cell? ⟨w.heap.size,1,none⟩ =some (.slice A2 ow.length c2) :=jJ hb1 (by simp<;>omega) (by simp [go_sem])
 have q2 : w1.cell? ⟨w.heap.size+1,0,none⟩ =some (.int .i64 s) :=jJ hb1 (by simp<;>omega) (by simp [go_sem])
 have hB1 : Below w.heap.size w w1:=Below.trans dJ (hb1.mono (by simp<;>omega))
 have z1 : w.heap.size+1<w1.heap.size:=by have:=hb1.size;simp at this;omega
 clear hb1
 by_cases k1 : (gl.any fun r=>r.any fun y=>y == s) =true
 ·have K1:=Hid.aT k1
  rw [k1]
  clear k1
  go_wp2
  go_ret
  exact⟨bK (by rw [HE.out,K1.out];rfl),hB1⟩
 ·have k1' : (gl.any fun r=>r.any fun y=>y == s) =false:= (Bool.not_eq_true _).mp k1
  have K1:=Hid.aT k1'
  rw [k1']
  clear k1 k1'
  go_wp2_with fail
  refine(uZ _ _ T2 ow (mJ hr2 hB1) 198 #[.pointer (some ⟨w.heap.size+1,0,none⟩)] (fun l=>l.any fun y=>y == s) (fun _ _ _ _=>by kernel_rfl) (fun A c l W hW hr=>zw A c l s (w.heap.size+1) W hr ((hW.cell (p:= ⟨w.heap.size+1,0,none⟩) z1).trans q2) (Nat.lt_of_lt_of_le z1 hW.size))).mono ?_
  rintro e w2 ⟨rfl,hb2⟩
  go_wp2
  go_ret
  exact⟨bK (by rw [HE.out,K1.out];rfl),hB1.trans (hb2.mono hB1.size)⟩
theorem EP {w w' : World}{r : Option Nat}(h : w.grownBy w' r)(g i : Nat)(hg : g<w.heap.size)(hn : r≠some g) : w'.cell? ⟨g,i,none⟩ =w.cell? ⟨g,i,none⟩ :=by
 simp [World.cell?,h.block g hg (fun e=>hn e.symm)]
set_option maxRecDepth 100000 in
set_option maxHeartbeats 1000000 in
theorem Bu (w : World)(H : aZ)(x : Lists)(h : iC w w.heap.size H x)(hs1 : jh x.G≤536870912)(hs2 : jh x.O≤536870912) :
  Calls Tryz.prog 146 #[.agg #[.slice H.G.a H.G.l H.G.c, .slice H.O.a H.O.l H.O.c]] w fun e w'=> ∃v',e= .returned v'∧bA FI 3 w' v' (iT x) ∧ (∀g∈cu v',w.heap.size≤g) ∧Below w.heap.size w w':=by
 obtain⟨⟨A1,n1,c1⟩,T1, ⟨A2,n2,c2⟩,T2⟩ :=H
 obtain⟨gl,ow⟩ :=x
 have hr1 : jl FI w w.heap.size (.slice A1 n1 c1) T1 gl:=h.G
 have hr2 : jl FI w w.heap.size (.slice A2 n2 c2) T2 ow:=h.O
 obtain⟨sW,_,hmx⟩ :=hr1.len'
 have hlt1 : gl.length≤9223372036854775807:=by unfold maxLen at hmx;omega
 clear hmx
 obtain⟨sZ,_,hmx⟩ :=hr2.len'
 have hlt2 : ow.length≤9223372036854775807:=by unfold maxLen at hmx;omega
 clear hmx h
 subst sW sZ
 simp only at hs1 hs2
 have Od:=Hid.aT (show iT ⟨gl,ow⟩ =gl.flatten++ow.flatten from rfl)
 show Calls Tryz.prog 146 #[.agg #[.slice A1 gl.length c1, .slice A2 ow.length c2]] _ _
 go_enter Tryz.func146,Tryz.ntmps146
 go_wp2
 go_loopw [3,4] (fun o i wr=> ∃k : Nat,k≤gl.length∧i= .int .i64 k∧bA FI 3 wr o ((gl.take k).flatten) ∧ (∀g∈cu o,w.heap.size<g) ∧Below w.heap.size w wr∧wr.cell? ⟨w.heap.size,0,none⟩ =some (.slice A1 gl.length c1) ∧wr.cell? ⟨w.heap.size,1,none⟩ =some (.slice A2 ow.length c2) ∧w.heap.size<wr.heap.size) (fun _ i _=>gl.length - (intOf i).toNat)
 case atStart=>exact⟨0,Nat.zero_le _,rfl, (by have hq:=bA.lit FI [] #[] rfl (by decide) (w.alloc (.cells #[.slice A1 gl.length c1, .slice A2 ow.length c2] 29)) 3;simpa using hq),by simp [cu,Value.ownBlock],by repeat (first|exact Below.refl _ _|refine Below.alloc ?_ (by simp<;>omega) _|refine dA ?_ (by simp<;>omega) _ _|refine Below.drew ?_|refine below_drewN ?_ _),by simp [go_sem],by simp [go_sem],by simp;omega⟩
 case round=>
  obtain⟨i,hi,rfl,ho,hfo,hb,r0,r1,hz⟩ :=hrel
  by_cases hlt : i<gl.length
  ·obtain⟨g,o,A',c',qM,hg,p0,Kr⟩ :=hr1.row hb hlt
   subst qM
   have hfl : ((gl.take i).flatten).length+gl[i].length≤1073741824:=by
    have a:=rQ gl i hlt
    have b:=qX gl (i+1)
    have c : mZ gl≤jh gl:=Nat.le_add_left _ _
    rw [←tJ]
    omega
   have HF:=Hid.aT (show (gl.take (i+1)).flatten= ((gl.take i).flatten) ++gl[i] from by rw [List.take_succ_eq_append_getElem hlt,List.flatten_append,List.flatten_singleton])
   clear hr1 hr2
   go_wp2_with (at_builtin;refine gu Tryz.stInt rfl _ _ rfl (v:=u3) (y:= .slice A' gl[i].length c') (l:= (gl.take i).flatten) (m:=gl[i]) rfl rfl ho (eP Kr hb) hfl ?_;intro v' w3 ho' hg' hat')
   have hb3 : Below w.heap.size w w3:=hb.grown hg' hb.size (fun k hk=>Nat.le_of_lt (hfo k (bV.2 hk)))
   have s0:= (EP hg' w.heap.size 0 hz (fun hm=>by have:=hfo _ (bV.2 hm);omega)).trans r0
   have s1:= (EP hg' w.heap.size 1 hz (fun hm=>by have:=hfo _ (bV.2 hm);omega)).trans r1
   go_roundw
   case rel=>exact⟨i+1,by omega,by go_num,by rw [HF.out];exact ho',fun b hb'=>by rcases iy hat' b hb' with h|h; (exact hfo b h); (have:=hb.size;omega),hb3,s0,s1,Nat.lt_of_lt_of_le hz hg'.size⟩
   case measure=>simp [intOf];omega
  ·obtain rfl : i=gl.length:=by omega
   rw [List.take_length] at ho
   go_wp2
   go_loopw [3,5] (fun o i wr=> ∃k : Nat,k≤ow.length∧i= .int .i64 k∧bA FI 3 wr o (gl.flatten++ (ow.take k).flatten) ∧ (∀g∈cu o,w.heap.size<g) ∧Below w.heap.size w wr∧wr.cell? ⟨w.heap.size,0,none⟩ =some (.slice A1 gl.length c1) ∧wr.cell? ⟨w.heap.size,1,none⟩ =some (.slice A2 ow.length c2) ∧w.heap.size<wr.heap.size) (fun _ i _=>ow.length - (intOf i).toNat)
   case atStart=>exact⟨0,Nat.zero_le _,rfl,by simpa using ho,hfo,hb,r0,r1,hz⟩
   case round=>
    obtain⟨i,hi,rfl,ho,hfo,hb,r0,r1,hz⟩ :=hrel
    by_cases hlt : i<ow.length
    ·obtain⟨g,o,A',c',qM,hg,p0,Kr⟩ :=hr2.row hb hlt
     subst qM
     have hfl : (gl.flatten++ (ow.take i).flatten).length+ow[i].length≤1073741824:=by
      have a:=rQ ow i hlt
      have b:=qX ow (i+1)
      have c : mZ ow≤jh ow:=Nat.le_add_left _ _
      simp only [List.length_append];rw [←tJ, ←tJ];have d : mZ gl≤jh gl:=Nat.le_add_left _ _
      omega
     have HF:=Hid.aT (show gl.flatten++ (ow.take (i+1)).flatten= (gl.flatten++ (ow.take i).flatten) ++ow[i] from by rw [List.take_succ_eq_append_getElem hlt,List.flatten_append,List.flatten_singleton];rw [List.append_assoc])
     clear hr1 hr2
     go_wp2_with (at_builtin;refine gu Tryz.stInt rfl _ _ rfl (v:=u3) (y:= .slice A' ow[i].length c') (l:=gl.flatten++ (ow.take i).flatten) (m:=ow[i]) rfl rfl ho (eP Kr hb) hfl ?_;intro v' w3 ho' hg' hat')
     have hb3 : Below w.heap.size w w3:=hb.grown hg' hb.size (fun k hk=>Nat.le_of_lt (hfo k (bV.2 hk)))
     have s0:= (EP hg' w.heap.size 0 hz (fun hm=>by have:=hfo _ (bV.2 hm);omega)).trans r0
     have s1:= (EP hg' w.heap.size 1 hz (fun hm=>by have:=hfo _ (bV.2 hm);omega)).trans r1
     go_roundw
     case rel=>exact⟨i+1,by omega,by go_num,by rw [HF.out];exact ho',fun b hb'=>by rcases iy hat' b hb' with h|h; (exact hfo b h); (have:=hb.size;omega),hb3,s0,s1,Nat.lt_of_lt_of_le hz hg'.size⟩
     case measure=>simp [intOf];omega
    ·obtain rfl : i=ow.length:=by omega
     go_wp2
     go_ret
     refine⟨_,rfl, ?_,fun g hg=>Nat.le_of_lt (hfo g hg),hb⟩
     rw [Od.out]
     simpa using ho
set_option maxHeartbeats 1000000 in
theorem Gr (w : World)(H : aZ)(x : Lists)(s : Int)(h : iC w w.heap.size H x)(hs1 : jh x.G≤536870912)(hs2 : jh x.O≤536870912) :
  Calls Tryz.prog 151 #[.agg #[.slice H.G.a H.G.l H.G.c, .slice H.O.a H.O.l H.O.c], .int .i64 s] w fun e w'=>e= .returned (.bool (kZ x s)) ∧Below w.heap.size w w':=by
 obtain⟨⟨A1,n1,c1⟩,T1, ⟨A2,n2,c2⟩,T2⟩ :=H
 obtain⟨gl,ow⟩ :=x
 have hr1 : jl FI w w.heap.size (.slice A1 n1 c1) T1 gl:=h.G
 have hr2 : jl FI w w.heap.size (.slice A2 n2 c2) T2 ow:=h.O
 obtain⟨sW,_,hmx⟩ :=hr1.len'
 have hlt1 : gl.length≤9223372036854775807:=by unfold maxLen at hmx;omega
 clear hmx
 obtain⟨sZ,_,hmx⟩ :=hr2.len'
 have hlt2 : ow.length≤9223372036854775807:=by unfold maxLen at hmx;omega
 clear hmx h
 subst sW sZ
 simp only at hs1 hs2
 have HE:=Hid.aT (wW ⟨gl,ow⟩ s)
 show Calls Tryz.prog 151 #[.agg #[.slice A1 gl.length c1, .slice A2 ow.length c2], .int .i64 s] _ _
 go_enter Tryz.func151,Tryz.ntmps151
 go_wp2_with fail
 refine(Bu _ ⟨⟨A1,gl.length,c1⟩,T1, ⟨A2,ow.length,c2⟩,T2⟩ ⟨gl,ow⟩ ⟨mJ hr1 dJ,mJ hr2 dJ⟩ hs1 hs2).mono ?_
 rintro e w1 ⟨v',rfl,ho,hf,hb0⟩
 have hB1 : Below w.heap.size w w1:=Below.trans dJ (hb0.mono (by simp<;>omega))
 clear hf hb0
 generalize iT ⟨gl,ow⟩ =L at ho HE
 go_wp2_with fail
 refine(xW _ _ L s ho.rd').mono ?_
 rintro e w2 ⟨rfl,hb2⟩
 go_wp2
 go_ret
 exact⟨bK HE.out.symm,hB1.trans (hb2.mono hB1.size)⟩
end Go.Proofs.YtkmggglljkmjoaaGreat
namespace Go.Proofs.YtkmggglljkmjoaaGreat
open Go.RowKit
def kQ (L : List Int) : Bool:=L.all (bO 0 23) &&decide L.Nodup
theorem vw (L : List Int)(x : Int) : (L.any fun y=>y == x) =decide (x∈L) :=by
 rw [Bool.eq_iff_iff]
 simp
theorem Ct {L : List Int}{x : Int} : (L++ [x]).Nodup↔L.Nodup∧x∉L:=by
 rw [List.nodup_append]
 constructor
 ·rintro⟨a,_,b⟩
  exact⟨a,fun h=>b x h x (List.mem_singleton_self x) rfl⟩
 ·rintro⟨a,b⟩
  refine⟨a,by simp,fun u hu v hv e=> ?_⟩
  rw [List.mem_singleton.1 hv] at e
  exact b (e ▸ hu)
theorem zx {L : List Int}{p : Nat}(hp : p<L.length)(h : kQ (L.take p) =true)(h1 : bO 0 23 L[p]=true)(h2 : ((L.take p).any fun y=>y == L[p]) =false) : kQ (L.take (p+1)) =true:=by
 rw [vw,decide_eq_false_iff_not] at h2
 unfold kQ at *
 rw [List.take_succ_eq_append_getElem hp,List.all_append]
 simp only [Bool.and_eq_true,decide_eq_true_eq] at *
 exact⟨⟨h.1,by simp [h1]⟩,Ct.2 ⟨h.2,h2⟩⟩
theorem Bv {L : List Int}{p : Nat}(hp : p<L.length)(h1 : bO 0 23 L[p]=false) : kQ L=false:=by
 unfold kQ
 have : L.all (bO 0 23) =false:=List.all_eq_false.2 ⟨L[p],List.getElem_mem hp,by rw [h1];decide⟩
 rw [this]
 rfl
theorem Bw {L : List Int}{p : Nat}(hp : p<L.length)(h2 : ((L.take p).any fun y=>y == L[p]) =true) : kQ L=false:=by
 rw [vw,decide_eq_true_eq] at h2
 unfold kQ
 have : ¬ L.Nodup:=fun hn=>by
  have e : L=L.take p++L.drop p:= (List.take_append_drop p L).symm
  rw [e,List.nodup_append] at hn
  exact hn.2.2 L[p] h2 L[p] (by rw [List.drop_eq_getElem_cons hp];exact List.mem_cons_self) rfl
 rw [decide_eq_false this,Bool.and_false]
theorem IY {L M : List Int}(h : L.Perm M) : kQ L=kQ M:=by
 unfold kQ
 rw [Bool.eq_iff_iff]
 simp only [Bool.and_eq_true,decide_eq_true_eq,List.all_eq_true]
 exact⟨fun ⟨a,b⟩ => ⟨fun x hx=>a x (h.mem_iff.2 hx),h.nodup_iff.1 b⟩,fun ⟨a,b⟩ => ⟨fun x hx=>a x (h.mem_iff.1 hx),h.nodup_iff.2 b⟩⟩
theorem GQ {α : Type}(ll : List (List α))(i j : Nat)(hi : i<ll.length)(hj : j<ll[i].length) : ll.flatten[mZ (ll.take i) +j]? =some ll[i][j]:=by
 have e : ll.flatten= (ll.take i).flatten++ (ll[i]++ (ll.drop (i+1)).flatten) :=by
  rw [←List.flatten_cons, ←List.flatten_append, ←List.drop_eq_getElem_cons hi,List.take_append_drop]
 rw [e,tJ,List.getElem?_append_right (by omega),Nat.add_sub_cancel_left,List.getElem?_append_left hj,List.getElem?_eq_getElem hj]
def tL (M : List Int) : List Bool:= (List.range 24).map fun (s : Nat) =>M.any fun z=>z == (s : Int)
theorem Bz (M : List Int) : (tL M).length=24:=by simp [tL]
theorem IZ : tL []=List.replicate 24 false:=rfl
theorem xX (M : List Int)(s : Nat)(hs : s<24) : (tL M)[s]? =some (M.any fun z=>z == (s : Int)) :=by simp [tL,hs]
theorem E9 (L : List Int)(p s : Nat)(hp : p<L.length)(hm : L[p]= (s : Int)) : (tL (L.take p)).set s true=tL (L.take (p+1)) :=by
 apply List.ext_getElem?
 intro k
 by_cases hk : k<24
 ·rw [List.getElem?_set,xX _ _ hk,xX _ _ hk,List.take_succ_eq_append_getElem hp,List.any_append,Bz]
  by_cases hks : s=k
  ·subst hks
   simp [hm,hk]
  ·have : ((s : Int) == (k : Int)) =false:=by simp;omega
   simp only [if_neg hks,List.any_cons,List.any_nil,hm,this,Bool.or_false]
 ·rw [List.getElem?_eq_none (by simp [Bz];omega),List.getElem?_eq_none (by simp [Bz];omega)]
def mE (l : List Int) : Bool:=decide (l.length≤2)
def fU (x : Lists) : Bool:= (x.G.length == 3) && (x.O.length == 9) &&x.O.all mE&&kQ (iT x)
theorem Hu (x : Lists) : kQ (x.O++x.G).flatten=kQ (iT x) :=by
 refine IY ?_
 unfold iT
 rw [List.flatten_append]
 exact List.perm_append_comm
theorem xY {α : Type}{p : α→Bool}{l : List α}{i : Nat}(hi : i<l.length)(h : (l.take i).all p=true)(hp : p l[i]=true) : (l.take (i+1)).all p=true:=by
 rw [List.take_succ_eq_append_getElem hi,List.all_append,h]
 simp [hp]
theorem Cu {α : Type}{p : α→Bool}{l : List α}{i : Nat}(hi : i<l.length)(hp : p l[i]=false) : l.all p=false:=
 List.all_eq_false.2 ⟨l[i],List.getElem_mem hi,by rw [hp];decide⟩
def jv (h : Heap)(c s : Int) : Bool:= (aO h s == c) &&decide (dz h s≤6)
def dG (m : Mem) : Bool:=jg m.E&&fU m.I&& ((List.range 3).all fun c=> (m.I.G.getD c []).all (jv m.E c)) && ((List.range 9).all fun k=> (m.I.O.getD k []).all (jv m.E ((k%3 : Nat) : Int)))
def jw (m : Mem)(s : Int) : Int:=if aO m.E s<0 then 0 else if kZ m.I s=true then 1 else if 6<dz m.E s then 2 else 3
def eY (h : Int) : Bool:=decide (32≤h) &&decide (h≤223) &&decide (h%32<24)
def gM (m : Mem)(h : Int) : Bool:=eY h&& (jw m (h%32) == 3) && (dz m.E (h%32) == h / 32)
theorem rZ {h : Heap}(k : jg h=true) : gI h=true:=by
 unfold jg at k
 simp only [Bool.and_eq_true] at k
 exact k.1
theorem o_ {m : Mem}(k : dG m=true) : jg m.E=true:=by
 unfold dG at k
 simp only [Bool.and_eq_true] at k
 exact k.1.1.1
theorem jC {m : Mem}(k : dG m=true) : fU m.I=true:=by
 unfold dG at k
 simp only [Bool.and_eq_true] at k
 exact k.1.1.2
end Go.Proofs.YtkmggglljkmjoaaGreat
namespace Go.Proofs.YtkmggglljkmjoaaGreat
open Go.RowKit
variable {α : Type} {T : FT α}
structure aB (w : World)(g : Nat)(vs : List Value) : Prop where
 lt : g<w.heap.size
 cell : ∀j v,vs[j]? =some v→w.cell? ⟨g,j,none⟩ =some v
 dn : ∀j,w.frozen? ⟨g,j,none⟩ =false
theorem aB.of_block {w w' : World}{g : Nat}{vs : List Value}(h : aB w g vs)(hs : w.heap.size≤w'.heap.size)(hb : w'.heap[g]? =w.heap[g]?) : aB w' g vs:=
 ⟨Nat.lt_of_lt_of_le h.lt hs,fun j v hv=>by simpa [World.cell?,hb] using h.cell j v hv,fun j=>by simpa [World.frozen?,hb] using h.dn j⟩
theorem aB.below {w w' : World}{g : Nat}{vs : List Value}(h : aB w g vs)(hb : Below w.heap.size w w') : aB w' g vs:=h.of_block hb.size (hb.block g h.lt)
theorem aB.aM {w w' : World}{g : Nat}{vs : List Value}{F : List Nat}(h : aB w g vs)(hc : aY F w w')(hn : g∉F) : aB w' g vs:=h.of_block hc.size (hc.block g h.lt hn)
theorem jR (w : World){g g' i : Nat}(v : Value)(hn : g≠g') : (w.setCell ⟨g,i,none⟩ v).heap[g']? =w.heap[g']? :=Below.heap_setCell _ _ _ _ (fun e=>hn e.symm)
theorem aB.other {w : World}{g : Nat}{vs : List Value}(h : aB w g vs){g' i : Nat}(hn : g'≠g)(v : Value) : aB (w.setCell ⟨g',i,none⟩ v) g vs:=h.of_block (by simp) (jR w v hn)
theorem aB.set {w : World}{g : Nat}{vs : List Value}(h : aB w g vs)(i : Nat)(v : Value) : aB (w.setCell ⟨g,i,none⟩ v) g (vs.set i v) :=by
 refine⟨by simpa using h.lt,fun j u hu=> ?_,fun j=> ?_⟩
 ·by_cases hij : i=j
  ·subst hij
   rw [List.getElem?_set] at hu
   by_cases hl : i<vs.length
   ·simp [hl] at hu
    subst hu
    have:=h.cell i _ (List.getElem?_eq_getElem hl)
    simp [go_sem,this]
   ·simp [hl] at hu
  ·rw [List.getElem?_set,if_neg hij] at hu
   rw [World.cell?_setCell_other _ _ _ _ (by intro e;simp only [Addr.mk.injEq] at e;omega)]
   exact h.cell j u hu
 ·have:=h.dn j
  simp [go_sem,this]
theorem aB.alloc {w : World}{g : Nat}{vs : List Value}(h : aB w g vs)(o : Obj) : aB (w.alloc o) g vs:=h.of_block (by simp) (Below.heap_alloc w o g h.lt)
theorem aB.drew {w : World}{g : Nat}{vs : List Value}(h : aB w g vs) : aB w.drew g vs:=h.of_block (Nat.le_refl _) rfl
theorem aB.drewN {w : World}{g : Nat}{vs : List Value}(h : aB w g vs)(n : Nat) : aB (w.drewN n) g vs:=h.of_block (Nat.le_refl _) rfl
theorem aB.new (w : World)(vs : Array Value)(ty : TypeId) : aB (w.alloc (.cells vs ty)) w.heap.size vs.toList:=by
 refine⟨by simp,fun j v hv=> ?_,fun j=>by simp [go_sem]⟩
 have : vs[j]? =some v:=by simpa using hv
 simp only [World.cell?,heap_alloc_last]
 exact this
theorem aY.gD {F : List Nat}{w w' : World}(h : aY F w w'){g i : Nat}(hg : g∈F)(v : Value) : aY F w (w'.setCell ⟨g,i,none⟩ v) :=
 ⟨h.os,h.tape,h.output,by simpa using h.size,fun k hk hn=> (Below.heap_setCell _ _ _ _ (fun e=>by have e' : k=g:=e;exact hn (e' ▸ hg))).trans (h.block k hk hn)⟩
theorem aY.aH {F : List Nat}{w w' : World}(h : aY F w w')(o : Obj) : aY F w (w'.alloc o) :=
 ⟨h.os,h.tape,h.output,Nat.le_trans h.size (by simp),fun k hk hn=> (Below.heap_alloc w' o k (Nat.lt_of_lt_of_le hk h.size)).trans (h.block k hk hn)⟩
theorem fE.len_ {w : World}{B : Nat}{a : Option Addr}{n c : Nat}{l : List α}(h : fE T w B (.slice a n c) l) : n=l.length∧n≤9223372036854775807:=by
 obtain⟨A,c',hv,q1,q2,_⟩ :=id h
 injection hv with h1 h2 h3
 refine⟨h2, ?_⟩
 unfold maxLen at q2
 omega
theorem aY.bf {F : List Nat}{w w' : World}(h : aY F w w') : aY F w w'.drew:= ⟨h.os,h.tape,h.output,h.size,h.block⟩
theorem bW {F : List Nat}{a b : World}(h : aY F a b:=by repeat (first|with_reducible exact aY.refl _ _|with_reducible refine aY.gD ?_ (by simp) _|with_reducible refine aY.aH ?_ _|with_reducible refine aY.bf ?_)) : aY F a b:=h
theorem aB.nw {w : World}{vs : Array Value}{ty : TypeId}{n : Nat}(h : w.heap.size=n:=by first|with_reducible rfl|simp only [World.size_alloc]) : aB (w.alloc (.cells vs ty)) n vs.toList:=h ▸ aB.new w vs ty
theorem aB.f1 {w : World}{g : Nat}{a : Value}(h : aB w g [a]) : w.cell? ⟨g,0,none⟩ =some a∧ (∀j,w.frozen? ⟨g,j,none⟩ =false) ∧g<w.heap.size:= ⟨h.cell 0 a rfl,h.dn,h.lt⟩
theorem aB.f2 {w : World}{g : Nat}{a b : Value}(h : aB w g [a,b]) : w.cell? ⟨g,0,none⟩ =some a∧w.cell? ⟨g,1,none⟩ =some b∧ (∀j,w.frozen? ⟨g,j,none⟩ =false) ∧g<w.heap.size:= ⟨h.cell 0 a rfl,h.cell 1 b rfl,h.dn,h.lt⟩
theorem aB.f3 {w : World}{g : Nat}{a b c : Value}(h : aB w g [a,b,c]) : w.cell? ⟨g,0,none⟩ =some a∧w.cell? ⟨g,1,none⟩ =some b∧w.cell? ⟨g,2,none⟩ =some c∧ (∀j,w.frozen? ⟨g,j,none⟩ =false) ∧g<w.heap.size:= ⟨h.cell 0 a rfl,h.cell 1 b rfl,h.cell 2 c rfl,h.dn,h.lt⟩
theorem aB.f4 {w : World}{g : Nat}{a b c d : Value}(h : aB w g [a,b,c,d]) : w.cell? ⟨g,0,none⟩ =some a∧w.cell? ⟨g,1,none⟩ =some b∧w.cell? ⟨g,2,none⟩ =some c∧w.cell? ⟨g,3,none⟩ =some d∧ (∀j,w.frozen? ⟨g,j,none⟩ =false) ∧g<w.heap.size:= ⟨h.cell 0 a rfl,h.cell 1 b rfl,h.cell 2 c rfl,h.cell 3 d rfl,h.dn,h.lt⟩
end Go.Proofs.YtkmggglljkmjoaaGreat
namespace Go.Proofs.YtkmggglljkmjoaaGreat
open Go.RowKit
theorem Tryz.infoSL : (Tryz.prog.info? 94).map (fun i=> (i.zero,i.size,i.bytes)) =some (some (.agg #[.slice none 0 0]),FS.n,24) :=by kernel_rfl
theorem Tryz.stSL : ST Tryz.prog FS 27 94:= ⟨Tryz.underlying27, .agg #[.slice none 0 0],24,by kernel_rfl,rfl,by decide⟩
set_option maxRecDepth 100000 in
set_option maxHeartbeats 1000000 in
theorem I4 (w : World)(n : Nat)(hn : 0<n)(hn2 : n≤1000) :
  Calls Tryz.prog 229 #[.slice none 0 0, .int .i64 n] w fun e w'=> ∃v,e= .returned v∧bA FS 94 w' v []∧ (∀g∈cu v,w.heap.size≤g) ∧Below w.heap.size w w':=by
 obtain⟨i,hi,hzz⟩ :=Option.map_eq_some_iff.1 Tryz.infoSL
 simp only [Prod.mk.injEq] at hzz
 obtain⟨q1,q2,q3⟩ :=hzz
 have hrz : ∀ty, (Builtin.append_ #[27,3] ty #[.slice none 0 0, .int .i64 (n : Int)]).run Tryz.prog w=
   .ok (.slice (some ⟨w.heap.size,0,none⟩) n (grownCap w n 0 94)) (w.drew.alloc (.cells (Builtin.zeroCells #[.slice none 0 0] n++Builtin.zeroCells #[.slice none 0 0] (grownCap w n 0 94 - n)) 94)) :=fun ty=>by
  have h:=Lib.run_append_grow_zeros w 27 3 ty 94 i _ .i64 .i64 Tryz.underlying27 Tryz.underlying3 hi q1 none 0 0 [] (run_firstCells_none w.drew i.size 0 0 0) n hn (by rw [q2];decide) (by omega) (by omega) (by rw [q3];omega) (by rw [q3];exact growslice_fits (by omega) (by omega))
  simpa [Value.cells] using h
 have hG0:=grownCap_ge w n 0 94
 have Kt:=grownCap_le_maxLen w n 0 94 (by unfold maxLen;omega)
 generalize grownCap w n 0 94=G at hrz hG0 Kt
 have hG1 : G≤9223372036854775807:=by unfold maxLen at Kt;omega
 have how:=World.ownsRow_made (base:=0) (e:=94) (size:=1) w.drew (Builtin.zeroCells #[.slice none 0 0] n++Builtin.zeroCells #[.slice none 0 0] (G - n)) G (Nat.zero_le _) Kt (by simp [Builtin.zeroCells];omega)
 have hGn : ¬ (n : Int) ≤0:=by omega
 clear hi q1 q2 q3 Kt
 go_enter Tryz.func229,Tryz.ntmps229
 go_wp2_with (at_builtin;refine Lib.wpList_append_run _ rfl _ _ _ _ rfl _ _ rfl rfl _ _ (hrz _) ?_)
 go_ret
 refine⟨_,rfl, ?_, ?_, ?_⟩
 ·unfold bA
  exact how
 ·simp [cu,Value.ownBlock]
 ·exact Below.alloc (Below.drew (Below.refl _ _)) (by simp) _
theorem below_app {w w' : World}{B : Nat}(h : Below B w w')(hB : B≤w.heap.size)(v : Value)(w2 : World)(hg : w'.grownBy w2 v.ownBlock)(hf : ∀g∈cu v,B≤g) : Below B w w2:=h.grown hg (Nat.le_trans hB h.size) (fun k hk=>hf k (bV.2 hk))
set_option maxRecDepth 100000 in
set_option maxHeartbeats 1000000 in
theorem Gs (w : World)(gb : Nat)(A1 A2 : Option Addr)(c1 c2 : Nat)(T1 T2 : List SV)(bb : aB w gb [.slice A1 9 c1, .slice A2 3 c2])(h1 : fE FS w w.heap.size (.slice A1 9 c1) T1)(h2 : fE FS w w.heap.size (.slice A2 3 c2) T2) :
  Calls Tryz.prog 197 #[.slice (some ⟨gb,0,none⟩) 2 2] w fun e w'=> ∃v,e= .returned v∧bA FS 94 w' v (T1++T2) ∧ (∀g∈cu v,w.heap.size≤g) ∧Below w.heap.size w w':=by
 have l1:= (fE.len_ h1).1
 have l2:= (fE.len_ h2).1
 have p0:=bb.cell 0 _ rfl
 have p1:=bb.cell 1 _ rfl
 have Qx:=bb.lt
 have Ku:=Hid.aT l1
 have HL2:=Hid.aT l2
 clear l1 l2
 go_enter Tryz.func197,Tryz.ntmps197
 go_wp2
 go_loop [3,5,11] (fun s _ i=> ∃k : Nat,k≤2∧i= .int .i64 k∧s= .int .i64 (if k=0 then 0 else if k=1 then 9 else 12)) (fun _ _ i=>2 - (intOf i).toNat)
 case atStart=>exact⟨0,by omega,rfl,rfl⟩
 case round=>
  obtain⟨k,hk,rfl,rfl⟩ :=hrel
  rcases(show k=0∨k=1∨k=2 by omega) with rfl|rfl|rfl
  ·go_wp2
   go_round
   case rel=>exact⟨1,by omega,rfl,rfl⟩
   case measure=>simp [intOf]
  ·go_wp2
   go_round
   case rel=>exact⟨2,by omega,rfl,rfl⟩
   case measure=>simp [intOf]
  ·go_wp2_with fail
   refine(I4 _ 12 (by decide) (by decide)).mono ?_
   rintro e w1 ⟨v1,rfl,ho,hf,hb⟩
   clear p0 p1
   go_wp2
   go_loopw [6,8,27] (fun o _ i wr=> ∃k : Nat,k≤2∧i= .int .i64 k∧bA FS 94 wr o (if k=0 then [] else if k=1 then T1 else T1++T2) ∧ (∀g∈cu o,w.heap.size≤g) ∧Below w.heap.size w wr) (fun _ _ i _=>2 - (intOf i).toNat)
   case atStart=>exact⟨0,by omega,rfl,ho,hf,hb⟩
   case round=>
    obtain⟨k,hk,rfl,ho,hf,hb⟩ :=hrel
    have bw:=bb.below hb
    have p0:=bw.cell 0 _ rfl
    have p1:=bw.cell 1 _ rfl
    have zl:=bw.lt
    rcases(show k=0∨k=1∨k=2 by omega) with rfl|rfl|rfl
    ·go_wp2_with (at_builtin;refine gu Tryz.stSL rfl _ _ rfl (v:=u6) (y:= .slice A1 9 c1) (l:= []) (m:=T1) rfl rfl ho (eP h1 hb) (by simp;rw [←Ku.out];omega) ?_;intro v' w3 ho' hg' hat')
     go_roundw
     case rel=>exact⟨1,by omega,rfl,by simpa using ho',fun g hg=>by rcases iy hat' g hg with h|h; (exact hf g h); (have:=hb.size;omega),below_app hb (Nat.le_refl _) _ _ hg' hf⟩
     case measure=>simp [intOf]
    ·go_wp2_with (at_builtin;refine gu Tryz.stSL rfl _ _ rfl (v:=u6) (y:= .slice A2 3 c2) (l:=T1) (m:=T2) rfl rfl ho (eP h2 hb) (by rw [←Ku.out, ←HL2.out];omega) ?_;intro v' w3 ho' hg' hat')
     go_roundw
     case rel=>exact⟨2,by omega,rfl,ho',fun g hg=>by rcases iy hat' g hg with h|h; (exact hf g h); (have:=hb.size;omega),below_app hb (Nat.le_refl _) _ _ hg' hf⟩
     case measure=>simp [intOf]
    ·go_wp2
     go_ret
     exact⟨_,rfl,ho,hf,hb⟩
end Go.Proofs.YtkmggglljkmjoaaGreat
namespace Go.Proofs.YtkmggglljkmjoaaGreat
open Go.RowKit
theorem fE.pre {g off n c B : Nat}{w : World}{l : List Int}(h : fE FI w B (.slice (some ⟨g,off,none⟩) n c) l)(m : Nat)(h1 : m≤l.length) : fE FI w B (.slice (some ⟨g,off,none⟩) m c) (l.take m) :=by
 have a:=h.Bt 0 m (by omega)
 simpa using a
set_option maxHeartbeats 1000000 in
theorem I5 (w : World)(v : Value)(z : List Int)(x : Int)(B : Nat)(h : fE FI w B v z) :
  Calls Tryz.prog 122 #[v, .int .i64 x] w fun e w'=>e= .returned (.bool (z.any fun y=>y == x)) ∧w=w':=by
 obtain⟨A,c,hv,q1,q2,_⟩ :=id h
 have m_ : z.length≤9223372036854775807:=by unfold maxLen at q2;omega
 subst hv
 clear q1 q2
 go_enter Tryz.func122,Tryz.ntmps122
 go_wp2
 go_loop [5] (fun i=> ∃k : Nat,k≤z.length∧i= .int .i64 k∧Hid ((z.take k).any (fun y=>y == x) =false)) (fun i=>z.length - (intOf i).toNat)
 case atStart=>exact⟨0,Nat.zero_le _,rfl,rfl⟩
 case round=>
  obtain⟨i,hi,rfl,HN⟩ :=hrel
  by_cases hlt : i<z.length
  ·obtain⟨g,off,cap',he,hg,_,_,hc⟩ :=h.at_ (List.getElem?_eq_getElem hlt)
   injection he with he1 he2 jW
   clear he2
   subst he1 jW
   have p0 : w.cell? ⟨g,off+i,none⟩ =some (.int .i64 z[i]) :=by simpa [FI] using hc 0 _ rfl
   clear hc h
   by_cases hz : z[i]=x
   ·have hz1 : (z[i] == x) =true:=by simpa using hz
    have HP:=Hid.aT (show (z.any fun y=>y == x) =true from List.any_eq_true.2 ⟨z[i],List.getElem_mem hlt,hz1⟩)
    clear hz
    go_wp2
    go_ret
    exact⟨bK HP.out.symm,rfl⟩
   ·have hz1 : (z[i] == x) =false:=by simpa using hz
    have HP:=Hid.aT (any_take_succ (fun y=>y == x) z i hlt HN.out hz1)
    clear hz
    go_wp2
    go_round
    case rel=>exact⟨i+1,by omega,by go_num,HP⟩
    case measure=>simp [intOf];omega
  ·go_wp2
   go_ret
   obtain rfl : i=z.length:=by omega
   exact⟨bK (by simpa using HN.out.symm),rfl⟩
set_option maxRecDepth 100000 in
set_option maxHeartbeats 2000000 in
theorem ou (w : World)(H : aZ)(x : Lists)(h : iC w w.heap.size H x)(hs1 : jh x.G≤536870912)(hs2 : jh x.O≤536870912) :
  Calls Tryz.prog 73 #[.agg #[.slice H.G.a H.G.l H.G.c, .slice H.O.a H.O.l H.O.c]] w fun e w'=>e= .returned (.bool (fU x)) ∧Below w.heap.size w w':=by
 obtain⟨⟨A1,n1,c1⟩,T1, ⟨A2,n2,c2⟩,T2⟩ :=H
 obtain⟨gl,ow⟩ :=x
 have hr1 : jl FI w w.heap.size (.slice A1 n1 c1) T1 gl:=h.G
 have hr2 : jl FI w w.heap.size (.slice A2 n2 c2) T2 ow:=h.O
 obtain⟨sW,_,hmx⟩ :=hr1.len'
 have hlt1 : gl.length≤9223372036854775807:=by unfold maxLen at hmx;omega
 clear hmx
 obtain⟨sZ,_,hmx⟩ :=hr2.len'
 have hlt2 : ow.length≤9223372036854775807:=by unfold maxLen at hmx;omega
 clear hmx h
 subst sW sZ
 simp only at hs1 hs2
 have HE:=Hid.aT (show fU ⟨gl,ow⟩ = ((gl.length == 3) && (ow.length == 9) &&ow.all mE&&kQ (iT ⟨gl,ow⟩)) from rfl)
 have iW : aB (w.alloc (.cells #[.slice A1 gl.length c1, .slice A2 ow.length c2] 29)) w.heap.size [.slice A1 gl.length c1, .slice A2 ow.length c2]:=aB.new w #[.slice A1 gl.length c1, .slice A2 ow.length c2] _
 have hB0 : Below w.heap.size w (w.alloc (.cells #[.slice A1 gl.length c1, .slice A2 ow.length c2] 29)) :=dJ
 show Calls Tryz.prog 73 #[.agg #[.slice A1 gl.length c1, .slice A2 ow.length c2]] _ _
 by_cases k1 : gl.length=3
 case neg=>
  have k1' : ((gl.length : Int) != 3) =true:=by simp;omega
  have HF:=Hid.aT (show fU ⟨gl,ow⟩ =false by rw [HE.out];simp [k1])
  clear k1
  go_enter Tryz.func73,Tryz.ntmps73
  go_wp2
  go_ret
  exact⟨bK HF.out.symm,hB0⟩
 have k1' : ((gl.length : Int) != 3) =false:=by simp;omega
 have K1:=Hid.aT k1
 clear k1
 by_cases k2 : ow.length=9
 case neg=>
  have k2' : ((ow.length : Int) != 9) =true:=by simp;omega
  have HF:=Hid.aT (show fU ⟨gl,ow⟩ =false by rw [HE.out];simp [k2])
  clear k2
  go_enter Tryz.func73,Tryz.ntmps73
  go_wp2
  go_ret
  exact⟨bK HF.out.symm,hB0⟩
 have k2' : ((ow.length : Int) != 9) =false:=by simp;omega
 have HF:=Hid.aT (show fU ⟨gl,ow⟩ = (ow.all mE&&kQ (iT ⟨gl,ow⟩)) by rw [HE.out,K1.out,k2];simp)
 clear k2 HE
 go_enter Tryz.func73,Tryz.ntmps73
 go_wp2
 generalize (w.alloc (.cells #[.slice A1 gl.length c1, .slice A2 ow.length c2] 29)) =w0 at iW hB0
 have iH:=iW.cell 0 _ rfl
 have iq:=iW.cell 1 _ rfl
 go_loop [3] (fun i=> ∃k : Nat,k≤ow.length∧i= .int .i64 k∧Hid ((ow.take k).all mE=true)) (fun i=>ow.length - (intOf i).toNat)
 case atStart=>exact⟨0,Nat.zero_le _,rfl,rfl⟩
 case round=>
  obtain⟨i,hi,rfl,HT⟩ :=hrel
  by_cases hlt : i<ow.length
  ·obtain⟨g,o,A',c',qM,hg,p0,Kr⟩ :=hr2.row hB0 hlt
   subst qM
   by_cases hz : ow[i].length≤2
   ·have HN:=Hid.aT (xY (p:=mE) hlt HT.out (by simp [mE,hz]))
    go_wp2
    go_round
    case rel=>exact⟨i+1,by omega,by go_num,HN⟩
    case measure=>simp [intOf];omega
   ·have HN:=Hid.aT (show fU ⟨gl,ow⟩ =false by rw [HF.out,Cu (p:=mE) hlt (by simp [mE];omega)];rfl)
    go_wp2
    go_ret
    exact⟨bK HN.out.symm,hB0⟩
  ·obtain rfl : i=ow.length:=by omega
   have HG:=Hid.aT (show fU ⟨gl,ow⟩ =kQ (iT ⟨gl,ow⟩) by have a:=HT.out;rw [List.take_length] at a;rw [HF.out,a];rfl)
   clear HT HF
   go_wp2_with fail
   refine(Bu _ ⟨⟨A1,gl.length,c1⟩,T1, ⟨A2,ow.length,c2⟩,T2⟩ ⟨gl,ow⟩ ⟨mJ hr1 hB0,mJ hr2 hB0⟩ hs1 hs2).mono ?_
   rintro e w1 ⟨v',rfl,ho,hf,hb0⟩
   have hB1:=hB0.trans (hb0.mono hB0.size)
   clear hf hb0 iH iq iW hB0
   generalize iT ⟨gl,ow⟩ =L at ho HG
   obtain⟨A,c,hv,_,q2,_⟩ :=ho.rd'
   subst hv
   have hL0 : L.length≤9223372036854775807:=by unfold maxLen at q2;omega
   clear q2
   have hor:=ho.rd'
   clear ho
   go_wp2
   go_loopw [5] (fun i wr=> ∃k : Nat,k≤L.length∧i= .int .i64 k∧Below w1.heap.size w1 wr∧Hid (kQ (L.take k) =true)) (fun i _=>L.length - (intOf i).toNat)
   case atStart=>exact⟨0,Nat.zero_le _,rfl,Below.refl _ _,rfl⟩
   case round=>
    obtain⟨i,hi,rfl,hb,HR⟩ :=hrel
    by_cases hlt : i<L.length
    ·obtain⟨g,off,cap',he,hg,_,_,hc⟩ := (hor.below hb).at_ (List.getElem?_eq_getElem hlt)
     injection he with he1 he2 jW
     clear he2
     subst he1 jW
     have p0 : wr.cell? ⟨g,off+i,none⟩ =some (.int .i64 L[i]) :=by simpa [FI] using hc 0 _ rfl
     clear hc
     have hpre:= (hor.below hb).pre i (by omega)
     have hgw : g<wr.heap.size:=Nat.lt_of_lt_of_le hg hb.size
     have vU:=Hid.aT (Bv (L:=L) hlt)
     have vV:=Hid.aT (Bw (L:=L) hlt)
     have vW:=Hid.aT (zx (L:=L) hlt HR.out)
     generalize L[i]=x at p0 vU vV vW
     have hBW:=hB1.trans (hb.mono hB1.size)
     have Cv : ∀ (W : World) (b : Bool),bO 0 23 x=b→Calls Tryz.prog 102 #[.int .i64 x, .int .i64 0, .int .i64 23] W fun e w'=>e= .returned (.bool b) ∧W=w':=fun W b hb=> (fG _ _ _ _).mono fun e w' ⟨u,v⟩ => ⟨by rw [u,hb],v⟩
     have I6 : ∀ (n : Nat) (b : Bool), ((L.take i).any fun y=>y == x) =b→Calls Tryz.prog 122 #[.slice (some ⟨g,off,none⟩) i c, .int .i64 x] (wr.drewN n) fun e w'=>e= .returned (.bool b) ∧wr.drewN n=w':=fun n b hb=> (I5 _ _ (L.take i) x _ (hpre.keep (w':=wr.drewN n) (fun _ _=>rfl) (Nat.le_refl _))).mono fun e w' ⟨u,v⟩ => ⟨by rw [u,hb],v⟩
     by_cases d1 : bO 0 23 x=true
     case neg=>
      have d1' : bO 0 23 x=false:= (Bool.not_eq_true _).mp d1
      have HN:=Hid.aT (show fU ⟨gl,ow⟩ =false by rw [HG.out];exact vU.out d1')
      have hq1:=fun W=>Cv W _ d1'
      clear d1 d1' vU vV vW Cv I6
      go_wp2
      go_quiet ((go_at_call 102;exact fM (hq1 _)))
      go_wp2
      go_ret
      exact⟨bK HN.out.symm,by first|exact hBW|exact hBW.drew|exact below_drewN hBW _⟩
     by_cases d2 : ((L.take i).any fun y=>y == x) =true
     ·have HN:=Hid.aT (show fU ⟨gl,ow⟩ =false by rw [HG.out];exact vV.out d2)
      have hq1:=fun W=>Cv W _ d1
      have hq2:=fun n=>I6 n _ d2
      clear d1 d2 vU vV vW Cv I6
      go_wp2
      go_quiet (first| (go_at_call 102;exact fM (hq1 _)) | (go_at_call 122;exact fM (hq2 _)))
      go_wp2
      go_ret
      exact⟨bK HN.out.symm,by first|exact hBW|exact hBW.drew|exact below_drewN hBW _⟩
     ·have zy : ((L.take i).any fun y=>y == x) =false:= (Bool.not_eq_true _).mp d2
      have HN:=Hid.aT (vW.out d1 zy)
      have hq1:=fun W=>Cv W _ d1
      have hq2:=fun n=>I6 n _ zy
      clear d1 d2 zy vU vV vW Cv I6
      go_wp2
      go_quiet (first| (go_at_call 102;exact fM (hq1 _)) | (go_at_call 122;exact fM (hq2 _)))
      go_wp2
      go_roundw
      case rel=>exact⟨i+1,by omega,by go_num,below_drewN hb _,HN⟩
      case measure=>simp [intOf];omega
    ·obtain rfl : i=L.length:=by omega
     have HN:=Hid.aT (show fU ⟨gl,ow⟩ =true by have a:=HR.out;rw [List.take_length] at a;rw [HG.out,a])
     go_wp2
     go_ret
     exact⟨bK HN.out.symm,hB1.trans (hb.mono hB1.size)⟩
end Go.Proofs.YtkmggglljkmjoaaGreat
