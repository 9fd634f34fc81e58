/-
  Several texts in one: lemmas and contracts that the claim rests on.
-/
import Derived.Test.YtkmggglljkmjoaaGreatUTC1
import Derived.Deep.QuietTactic
import Derived.BigQuiet
import Derived.Deep.LoopGhost
import Derived.Deep.RegionHeld3
import Derived.Test.YtkmggglljkmjoaaGreatUTC2
import Derived.WalkSpells
import Derived.Laws.Cover3
namespace Go.Proofs.YtkmggglljkmjoaaGreat
open Go.RowKit
set_option maxHeartbeats 1000000 in
theorem Br (w : World)(v : Value)(l : List Int)(h : fE FI w w.heap.size v l)(fid : FuncId)(cap : Array Value)(p : Int→Bool)(hent : ∀ (x : Int) (W : World), (callFunc fid (#[.int .i64 x]++cap)).run Tryz.prog W= .ok (.enter fid (#[.int .i64 x]++cap)) W)(hf : ∀ (x : Int),x∈l→Calls Tryz.prog fid (#[.int .i64 x]++cap) w fun e W'=>e= .returned (.bool (p x)) ∧w=W') :
  Calls Tryz.prog 220 #[v, .func (.func fid) #[] cap] w fun e w'=>e= .returned (.int .i64 (idxOf p l)) ∧w=w':=by
 obtain⟨A,c,hv,q1,q2,_⟩ :=id h
 have m_ : l.length≤9223372036854775807:=by unfold maxLen at q2;omega
 subst hv
 have HF:=Hid.aT hf
 clear hf q1 q2
 go_enter Tryz.func220,Tryz.ntmps220
 go_wp2
 go_loop [5,8] (fun _ i=> ∃i' : Nat,i'≤l.length∧i= .int .i64 i'∧Hid ((l.take i').any p=false)) (fun _ i=>l.length - (intOf i).toNat)
 case atStart=>exact⟨0,Nat.zero_le _,rfl,rfl⟩
 case round=>
  obtain⟨i,hi,rfl,HN⟩ :=hrel
  by_cases hlt : i<l.length
  ·obtain⟨g,off,cap',he,hg,_,_,hc⟩ :=h.at_ (List.getElem?_eq_getElem hlt)
   injection he with he1 he2 jW
   clear he2
   subst he1 jW
   have p0 : w.cell? ⟨g,off+i,none⟩ =some (.int .i64 l[i]) :=by simpa [FI] using hc 0 _ rfl
   clear hc h
   go_wp2_with fail
   refine(HF.out l[i] (List.getElem_mem hlt)).mono ?_
   rintro e w1 ⟨rfl,rfl⟩
   by_cases hp : p l[i]=true
   ·have HP:=Hid.aT (idxOf_hit p l i hlt HN.out hp)
    rw [hp]
    clear hp
    go_wp2
    go_ret
    exact⟨dN HP.out.symm,rfl⟩
   ·have hp' : p l[i]=false:=by simpa using hp
    have HP:=Hid.aT (any_take_succ p l i hlt HN.out hp')
    rw [hp']
    clear hp hp'
    go_wp2
    go_round
    case rel=>exact⟨i+1,by omega,by go_num,HP⟩
    case measure=>simp [intOf];omega
  ·go_wp2
   go_ret
   obtain rfl : i=l.length:=by omega
   exact⟨dN (rT p l (by simpa using HN.out)).symm,rfl⟩
set_option maxHeartbeats 1000000 in
theorem pX (w : World)(v : Value)(l : List Int)(h : fE FI w w.heap.size v l)(fid : FuncId)(cap : Array Value)(p : Int→Bool)(hent : ∀ (x : Int) (W : World), (callFunc fid (#[.int .i64 x]++cap)).run Tryz.prog W= .ok (.enter fid (#[.int .i64 x]++cap)) W)(hf : ∀ (x : Int),x∈l→Calls Tryz.prog fid (#[.int .i64 x]++cap) w fun e W'=>e= .returned (.bool (p x)) ∧w=W') :
  Calls Tryz.prog 184 #[v, .func (.func fid) #[] cap] w fun e w'=>e= .returned (.bool (l.any p)) ∧w=w':=by
 have HF:=Hid.aT hf
 clear hf
 go_enter Tryz.func184,Tryz.ntmps184
 go_wp2_with fail
 refine(Br w v l h fid cap p hent HF.out).mono ?_
 rintro e w1 ⟨rfl,rfl⟩
 have HP:=Hid.aT (vO p l)
 go_wp2
 go_ret
 exact⟨bK HP.out,rfl⟩
theorem EW (x : Int)(w : World) : Calls Tryz.prog 242 #[.int .i64 x] w fun e w'=>e= .returned (.bool (x != 0)) ∧w=w':=by
 go_enter Tryz.func242,Tryz.ntmps242
 go_wp2
 go_ret
 exact⟨rfl,rfl⟩
def jN (b : List Int) : Bool:=b.all fun x=>x == 0
theorem ny (w : World)(v : Value)(b : List Int)(h : fE FI w w.heap.size v b) :
  Calls Tryz.prog 228 #[v] w fun e w'=>e= .returned (.bool (jN b)) ∧w=w':=by
 have HA:=Hid.aT (show jN b= !(b.any fun x=>x != 0) by unfold jN;rw [uo];rfl)
 go_enter Tryz.func228,Tryz.ntmps228
 go_wp2_with fail
 refine(pX w _ b h 242 #[] (fun x=>x != 0) (fun _ _=>by kernel_rfl) (fun x _=>EW x w)).mono ?_
 rintro e w1 ⟨rfl,rfl⟩
 go_wp2
 go_ret
 exact⟨bK HA.out.symm,rfl⟩
theorem Dv (x : Int)(w : World) : Calls Tryz.prog 240 #[.int .i64 x] w fun e w'=>e= .returned (.bool (!bO 0 255 x)) ∧w=w':=by
 go_enter Tryz.func240,Tryz.ntmps240
 go_wp2_with (go_at_call 241;refine(IK _ _).mono ?_;rintro e w1 ⟨rfl,rfl⟩)
 go_ret
 exact⟨rfl,rfl⟩
set_option maxHeartbeats 400000 in
theorem qY (w : World)(v : Value)(b : List Int)(h : fE FI w w.heap.size v b) :
  Calls Tryz.prog 226 #[v] w fun e w'=>e= .returned (.bool (kU b)) ∧w=w':=by
 obtain⟨A,c,hv,q1,q2,_⟩ :=id h
 have m_ : b.length≤9223372036854775807:=by unfold maxLen at q2;omega
 subst hv
 clear q1 q2
 have HA:=Hid.aT (uo (bO 0 255) b)
 by_cases hl : b.length≤1000
 ·have HE:=Hid.aT (show kU b=b.all (bO 0 255) by simp [kU,hl])
  go_enter Tryz.func226,Tryz.ntmps226
  go_wp2_with fail
  refine(pX w _ b h 240 #[] (fun x=> !bO 0 255 x) (fun _ _=>by kernel_rfl) (fun x _=>Dv x w)).mono ?_
  rintro e w1 ⟨rfl,rfl⟩
  go_wp2
  go_ret
  exact⟨bK (by rw [HE.out,HA.out]),rfl⟩
 ·have HE:=Hid.aT (show kU b=false by simp [kU,hl])
  go_enter Tryz.func226,Tryz.ntmps226
  go_wp2
  go_ret
  exact⟨bK HE.out.symm,rfl⟩
theorem EX (x : Int)(w : World) : Calls Tryz.prog 227 #[.int .i64 x] w fun e w'=>e= .returned (.bool (!bO (-1) 2 x)) ∧w=w':=by
 go_enter Tryz.func227,Tryz.ntmps227
 go_wp2_with (go_at_call 154;refine(kC _ _ _ _).mono ?_;rintro e w1 ⟨rfl,rfl⟩)
 go_ret
 exact⟨rfl,rfl⟩
def gI (h : Heap) : Bool:= (h.Y.length == 384) && (h.Z.length == 6) &&kU h.Y&&h.Z.all (bO (-1) 2)
structure Shape (h : Heap) : Prop where
 bl : h.Y.length=384
 cl : h.Z.length=6
 rG : h.Y.all (bO 0 255) =true
 cs : ∀i, -1≤h.Z.getD i (-1) ∧h.Z.getD i (-1) ≤2
theorem iA {h : Heap}(k : gI h=true) : Shape h:=by
 simp only [gI,kU,Bool.and_eq_true,beq_iff_eq] at k
 obtain⟨⟨⟨k1,k2⟩,k3,k4⟩,k5⟩ :=k
 refine⟨k1,k2,k4,fun i=> ?_⟩
 by_cases hi : i<h.Z.length
 ·rw [getD_at hi]
  exact bJ.1 (List.all_eq_true.1 k5 _ (List.getElem_mem hi))
 ·rw [Bq (by omega)]
  omega
def lU (h : Heap)(s : Int) : Int:=h.Z.getD (s / 4).toNat (-1)
def aO (h : Heap)(s : Int) : Int:=if ig s (lU h s) <0 then -1 else lU h s
def dz (h : Heap)(s : Int) : Int:=if aO h s<0 then 0 else iF h.Y (ig s (aO h s)) 4
set_option maxRecDepth 100000 in
set_option maxHeartbeats 1000000 in
theorem uq (w : World)(H : dU)(x : Heap)(h : gU w w.heap.size H x) :
  Calls Tryz.prog 195 #[.agg #[.slice H.Y.a H.Y.l H.Y.c, .slice H.Z.a H.Z.l H.Z.c]] w fun e w'=>e= .returned (.bool (gI x)) ∧Below w.heap.size w w':=by
 obtain⟨⟨A1,n1,c1⟩, ⟨A2,n2,c2⟩⟩ :=H
 obtain⟨bs,cs⟩ :=x
 have hr1 : fE FI w w.heap.size (.slice A1 n1 c1) bs:=h.Y
 have hr2 : fE FI w w.heap.size (.slice A2 n2 c2) cs:=h.Z
 obtain⟨_,_,hv,q1,q2,qx⟩ :=id hr1
 simp only [Value.slice.injEq] at hv
 obtain⟨rfl,rfl,rfl⟩ :=hv
 have hlt1 : bs.length≤9223372036854775807:=by unfold maxLen at q2;omega
 clear q1 q2 qx
 obtain⟨_,_,hv,q1,q2,qx⟩ :=id hr2
 simp only [Value.slice.injEq] at hv
 obtain⟨rfl,rfl,rfl⟩ :=hv
 have hlt2 : cs.length≤9223372036854775807:=by unfold maxLen at q2;omega
 clear q1 q2 qx h
 have HE:=Hid.aT (show gI ⟨bs,cs⟩ = ((bs.length == 384) && (cs.length == 6) &&kU bs&&cs.all (bO (-1) 2)) from rfl)
 show Calls Tryz.prog 195 #[.agg #[.slice A1 bs.length c1, .slice A2 cs.length c2]] _ _
 by_cases k1 : (bs.length == 384) =true
 case neg=>
  have k1' : (bs.length == 384) =false:= (Bool.not_eq_true _).mp k1
  clear k1
  have Lg : (((bs.length : Nat) : Int) == 384) =false:=by simp at k1'⊢;omega
  have HF:=Hid.aT k1'
  clear k1'
  go_enter Tryz.func195,Tryz.ntmps195
  go_wp2_with (go_at_call 226;refine(qY _ _ bs (eP hr1 dJ)).mono ?_;rintro e w1 ⟨rfl,rfl⟩)
  go_ret
  exact⟨bK (by rw [HE.out,HF.out];simp),by repeat (first|exact Below.refl _ _|refine Below.alloc ?_ (by simp<;>omega) _|refine dA ?_ (by simp<;>omega) _ _|refine Below.drew ?_)⟩
 have Lg : (((bs.length : Nat) : Int) == 384) =true:=by simp at k1⊢;omega
 have Lh:=Hid.aT k1
 clear k1
 by_cases k3 : kU bs=true
 case neg=>
  have rW : kU bs=false:= (Bool.not_eq_true _).mp k3
  clear k3
  go_enter Tryz.func195,Tryz.ntmps195
  go_wp2_with (go_at_call 226;refine(qY _ _ bs (eP hr1 dJ)).mono ?_;rintro e w1 ⟨rfl,rfl⟩)
  go_ret
  exact⟨bK (by rw [HE.out,rW];simp),by repeat (first|exact Below.refl _ _|refine Below.alloc ?_ (by simp<;>omega) _|refine dA ?_ (by simp<;>omega) _ _|refine Below.drew ?_)⟩
 by_cases k2 : (cs.length == 6) =true
 case neg=>
  have k2' : (cs.length == 6) =false:= (Bool.not_eq_true _).mp k2
  clear k2
  have Li : (((cs.length : Nat) : Int) == 6) =false:=by simp at k2'⊢;omega
  have HF:=Hid.aT k2'
  clear k2'
  go_enter Tryz.func195,Tryz.ntmps195
  go_wp2_with (go_at_call 226;refine(qY _ _ bs (eP hr1 dJ)).mono ?_;rintro e w1 ⟨rfl,rfl⟩)
  go_ret
  exact⟨bK (by rw [HE.out,HF.out];simp),by repeat (first|exact Below.refl _ _|refine Below.alloc ?_ (by simp<;>omega) _|refine dA ?_ (by simp<;>omega) _ _|refine Below.drew ?_)⟩
 have Li : (((cs.length : Nat) : Int) == 6) =true:=by simp at k2⊢;omega
 have Kq:=Hid.aT k2
 clear k2
 have HA:=Hid.aT (uo (bO (-1) 2) cs)
 go_enter Tryz.func195,Tryz.ntmps195
 go_wp2_with (go_at_call 226;refine(qY _ _ bs (eP hr1 dJ)).mono ?_;rintro e w1 ⟨rfl,rfl⟩)
 refine(pX _ _ cs (eP hr2 dJ) 227 #[] (fun x=> !bO (-1) 2 x) (fun _ _=>by kernel_rfl) (fun x _=>EX x _)).mono ?_
 rintro e w2 ⟨rfl,rfl⟩
 go_wp2
 go_ret
 exact⟨bK (by rw [HE.out,Lh.out,Kq.out,k3,HA.out];rfl),by repeat (first|exact Below.refl _ _|refine Below.alloc ?_ (by simp<;>omega) _|refine dA ?_ (by simp<;>omega) _ _|refine Below.drew ?_)⟩
set_option maxRecDepth 100000 in
set_option maxHeartbeats 1000000 in
theorem vP (w : World)(H : dU)(x : Heap)(h : gU w w.heap.size H x) :
  Calls Tryz.prog 76 #[.agg #[.slice H.Y.a H.Y.l H.Y.c, .slice H.Z.a H.Z.l H.Z.c]] w fun e w'=>e= .returned (.bool (gI x)) ∧Below w.heap.size w w':=by
 obtain⟨⟨A1,n1,c1⟩, ⟨A2,n2,c2⟩⟩ :=H
 obtain⟨bs,cs⟩ :=x
 have hr1 : fE FI w w.heap.size (.slice A1 n1 c1) bs:=h.Y
 have hr2 : fE FI w w.heap.size (.slice A2 n2 c2) cs:=h.Z
 obtain⟨_,_,hv,q1,q2,qx⟩ :=id hr1
 simp only [Value.slice.injEq] at hv
 obtain⟨rfl,rfl,rfl⟩ :=hv
 have hlt1 : bs.length≤9223372036854775807:=by unfold maxLen at q2;omega
 clear q1 q2 qx
 obtain⟨_,_,hv,q1,q2,qx⟩ :=id hr2
 simp only [Value.slice.injEq] at hv
 obtain⟨rfl,rfl,rfl⟩ :=hv
 have hlt2 : cs.length≤9223372036854775807:=by unfold maxLen at q2;omega
 clear q1 q2 qx h
 have HE:=Hid.aT (show gI ⟨bs,cs⟩ = ((bs.length == 384) && (cs.length == 6) &&kU bs&&cs.all (bO (-1) 2)) from rfl)
 show Calls Tryz.prog 76 #[.agg #[.slice A1 bs.length c1, .slice A2 cs.length c2]] _ _
 by_cases k1 : (bs.length == 384) =true
 case neg=>
  have k1' : (bs.length == 384) =false:= (Bool.not_eq_true _).mp k1
  clear k1
  have Lg : (((bs.length : Nat) : Int) != 384) =true:=by simp at k1'⊢;omega
  have HF:=Hid.aT k1'
  clear k1'
  go_enter Tryz.func76,Tryz.ntmps76
  go_wp2_with (go_at_call 147;refine(rU _ _ bs (eP hr1 dJ)).mono ?_;rintro e w1 ⟨rfl,rfl⟩)
  go_ret
  exact⟨bK (by rw [HE.out,HF.out];simp),by repeat (first|exact Below.refl _ _|refine Below.alloc ?_ (by simp<;>omega) _|refine dA ?_ (by simp<;>omega) _ _|refine Below.drew ?_)⟩
 have Lg : (((bs.length : Nat) : Int) != 384) =false:=by simp at k1⊢;omega
 have Lh:=Hid.aT k1
 clear k1
 by_cases k2 : (cs.length == 6) =true
 case neg=>
  have k2' : (cs.length == 6) =false:= (Bool.not_eq_true _).mp k2
  clear k2
  have Li : (((cs.length : Nat) : Int) != 6) =true:=by simp at k2'⊢;omega
  have HF:=Hid.aT k2'
  clear k2'
  go_enter Tryz.func76,Tryz.ntmps76
  go_wp2_with (go_at_call 147;refine(rU _ _ bs (eP hr1 dJ)).mono ?_;rintro e w1 ⟨rfl,rfl⟩)
  go_ret
  exact⟨bK (by rw [HE.out,HF.out];simp),by repeat (first|exact Below.refl _ _|refine Below.alloc ?_ (by simp<;>omega) _|refine dA ?_ (by simp<;>omega) _ _|refine Below.drew ?_)⟩
 have Li : (((cs.length : Nat) : Int) != 6) =false:=by simp at k2⊢;omega
 have Kq:=Hid.aT k2
 clear k2
 by_cases k3 : kU bs=true
 case neg=>
  have rW : kU bs=false:= (Bool.not_eq_true _).mp k3
  clear k3
  go_enter Tryz.func76,Tryz.ntmps76
  go_wp2_with (go_at_call 147;refine(rU _ _ bs (eP hr1 dJ)).mono ?_;rintro e w1 ⟨rfl,rfl⟩)
  go_ret
  exact⟨bK (by rw [HE.out,rW];simp),by repeat (first|exact Below.refl _ _|refine Below.alloc ?_ (by simp<;>omega) _|refine dA ?_ (by simp<;>omega) _ _|refine Below.drew ?_)⟩
 have wF : cs.length=6:=by simpa using Kq.out
 have HB0 : Below w.heap.size w (w.alloc (.cells #[.slice A1 bs.length c1, .slice A2 cs.length c2] 26)) :=dJ
 have L6:=Hid.aT wF
 clear wF
 go_enter Tryz.func76,Tryz.ntmps76
 go_wp2_with (go_at_call 147;refine(rU _ _ bs (eP hr1 dJ)).mono ?_;rintro e w1 ⟨rfl,rfl⟩)
 have q1 : (w.alloc (.cells #[.slice A1 bs.length c1, .slice A2 cs.length c2] 26)).cell? ⟨w.heap.size,1,none⟩ =some (.slice A2 cs.length c2) :=by simp [go_sem]
 generalize (w.alloc (.cells #[.slice A1 bs.length c1, .slice A2 cs.length c2] 26)) =w0 at HB0 q1
 go_loop [3] (fun i=> ∃k : Nat,k≤6∧i= .int .i64 k∧Hid ((cs.take k).all (bO (-1) 2) =true)) (fun i=>6 - (intOf i).toNat)
 case atStart=>exact⟨0,Nat.zero_le _,rfl,rfl⟩
 case round=>
  obtain⟨i,hi,rfl,HT⟩ :=hrel
  by_cases wF : i<6
  ·have hlt : i<cs.length:=by rw [L6.out];exact wF
   obtain⟨g,off,cap',he,hg,_,_,hc⟩ := (hr2.below HB0).at_ (List.getElem?_eq_getElem hlt)
   injection he with he1 he2 jW
   clear he2
   subst he1 jW
   have p0 : w0.cell? ⟨g,off+i,none⟩ =some (.int .i64 cs[i]) :=by simpa [FI] using hc 0 _ rfl
   clear hc hr1 hr2
   by_cases c1 : bO (-1) 2 cs[i]=true
   ·have HN:=Hid.aT (show (cs.take (i+1)).all (bO (-1) 2) =true by rw [List.take_succ_eq_append_getElem hlt,List.all_append,HT.out];simp [c1])
    go_wp2_with (go_at_call 102;refine(fG _ _ _ _).mono ?_;rintro e w1 ⟨rfl,rfl⟩)
    go_round
    case rel=>exact⟨i+1,by omega,by go_num,HN⟩
    case measure=>simp [intOf];omega
   ·have c1' : bO (-1) 2 cs[i]=false:= (Bool.not_eq_true _).mp c1
    have HN:=Hid.aT (show cs.all (bO (-1) 2) =false from List.all_eq_false.2 ⟨cs[i],List.getElem_mem hlt,by rw [c1'];decide⟩)
    clear c1
    go_wp2_with (go_at_call 102;refine(fG _ _ _ _).mono ?_;rintro e w1 ⟨rfl,rfl⟩)
    go_ret
    exact⟨bK (by rw [HE.out,HN.out];simp),HB0⟩
  ·obtain rfl : i=6:=by omega
   have HN:=Hid.aT (show cs.all (bO (-1) 2) =true by have a:=HT.out;rwa [←L6.out,List.take_length] at a)
   go_wp2
   go_ret
   exact⟨bK (by rw [HE.out,HN.out,Lh.out,Kq.out,k3];rfl),HB0⟩
end Go.Proofs.YtkmggglljkmjoaaGreat
namespace Go.Proofs.YtkmggglljkmjoaaGreat
open Go.RowKit
theorem EY {h : Heap}(sh : Shape h){s : Int}(h1 : bO 0 23 s=true) : h.Z[(s / 4).toNat]? =some (lU h s) :=by
 have a:=bJ.1 h1
 have b:=sh.cl
 have hlt : (s / 4).toNat<h.Z.length:=by omega
 unfold lU
 rw [getD_at hlt,List.getElem?_eq_getElem hlt]
theorem Dw {h : Heap}(sh : Shape h)(s : Int) : -1≤lU h s∧lU h s≤2:=sh.cs _
theorem nD (h : Heap)(s : Int) : (aO h s= -1∧ig s (lU h s) = -1) ∨ (aO h s=lU h s∧8≤ig s (lU h s) ∧ig s (lU h s) +4+gF (lU h s) ≤384∧bO 0 23 s=true∧bO 0 2 (lU h s) =true) :=by
 rcases Bp s (lU h s) with k| ⟨k1,k2⟩
 ·left
  exact⟨if_pos (by omega),k⟩
 ·right
  have:=zn.1 (show 0≤ig s (lU h s) by omega)
  exact⟨if_neg (by omega),k1,k2,this.1,this.2.1⟩
theorem zq {h : Heap}{s : Int}(h1 : bO 0 23 s=false) : aO h s= -1:=if_pos (by rw [zi h1];decide)
set_option maxRecDepth 100000 in
set_option maxHeartbeats 1000000 in
theorem ql (w : World)(H : dU)(x : Heap)(s : Int)(h : gU w w.heap.size H x)(hs : gI x=true) :
  Calls Tryz.prog 54 #[.agg #[.slice H.Y.a H.Y.l H.Y.c, .slice H.Z.a H.Z.l H.Z.c], .int .i64 s] w fun e w'=>e= .returned (.int .i64 (aO x s)) ∧Below w.heap.size w w':=by
 obtain⟨⟨A1,n1,c1⟩, ⟨A2,n2,c2⟩⟩ :=H
 obtain⟨bs,cs⟩ :=x
 have hr1 : fE FI w w.heap.size (.slice A1 n1 c1) bs:=h.Y
 have hr2 : fE FI w w.heap.size (.slice A2 n2 c2) cs:=h.Z
 obtain⟨_,_,hv,q1,q2,qx⟩ :=id hr1
 simp only [Value.slice.injEq] at hv
 obtain⟨rfl,rfl,rfl⟩ :=hv
 have hlt1 : bs.length≤9223372036854775807:=by unfold maxLen at q2;omega
 clear q1 q2 qx
 obtain⟨_,_,hv,q1,q2,qx⟩ :=id hr2
 simp only [Value.slice.injEq] at hv
 obtain⟨rfl,rfl,rfl⟩ :=hv
 have hlt2 : cs.length≤9223372036854775807:=by unfold maxLen at q2;omega
 clear q1 q2 qx h
 have sh:=iA hs
 have wF:=Hid.aT sh.cl
 have hcb:=Dw sh s
 clear hs
 show Calls Tryz.prog 54 #[.agg #[.slice A1 bs.length c1, .slice A2 cs.length c2], .int .i64 s] _ _
 by_cases k1 : bO 0 23 s=true
 case neg=>
  have k1' : bO 0 23 s=false:= (Bool.not_eq_true _).mp k1
  have HE:=Hid.aT (zq (h:= ⟨bs,cs⟩) k1')
  clear k1 sh hcb
  go_enter Tryz.func54,Tryz.ntmps54
  go_wp2_with (first| (go_at_call 120;refine(l8 _ _).mono ?_;rintro e w1 ⟨rfl,rfl⟩) | (go_at_call 121;refine(o9 _ _ _).mono ?_;rintro e w1 ⟨rfl,rfl⟩))
  go_ret
  exact⟨dN HE.out.symm,by repeat (first|exact Below.refl _ _|refine Below.alloc ?_ (by simp<;>omega) _|refine dA ?_ (by simp<;>omega) _ _|refine Below.drew ?_|refine below_drewN ?_ _)⟩
 obtain⟨b1,b2⟩ :=bJ.1 k1
 have d1 : 0≤s / 4:=by omega
 have d2 : s / 4< (cs.length : Int) :=by rw [wF.out];omega
 obtain⟨g2,off2,cap2,he,hg2,_,_,hc2⟩ :=hr2.at_ (EY sh k1)
 injection he with he1 he2 jW
 clear he2
 subst he1 jW
 have p0 : w.cell? ⟨g2,off2+ (s / 4).toNat,none⟩ =some (.int .i64 (lU ⟨bs,cs⟩ s)) :=by simpa [FI] using hc2 0 _ rfl
 clear hc2
 have KC:=Hid.aT (nD ⟨bs,cs⟩ s)
 generalize lU ⟨bs,cs⟩ s=c at p0 hcb KC
 clear sh k1 hr2
 by_cases k2 : ig s c<0
 ·have HE:=Hid.aT (show aO ⟨bs,cs⟩ s= -1 by rcases KC.out with a|a<;>omega)
  have k1 : bO 0 23 s=true:=bJ.2 ⟨b1,b2⟩
  go_enter Tryz.func54,Tryz.ntmps54
  go_wp2_with (first| (go_at_call 120;refine(l8 _ _).mono ?_;rintro e w1 ⟨rfl,rfl⟩) | (go_at_call 121;refine(o9 _ _ _).mono ?_;rintro e w1 ⟨rfl,rfl⟩))
  go_ret
  exact⟨dN HE.out.symm,by repeat (first|exact Below.refl _ _|refine Below.alloc ?_ (by simp<;>omega) _|refine dA ?_ (by simp<;>omega) _ _|refine Below.drew ?_|refine below_drewN ?_ _)⟩
 ·have HE:=Hid.aT (show aO ⟨bs,cs⟩ s=c by rcases KC.out with a|a<;>omega)
  have k1 : bO 0 23 s=true:=bJ.2 ⟨b1,b2⟩
  go_enter Tryz.func54,Tryz.ntmps54
  go_wp2_with (first| (go_at_call 120;refine(l8 _ _).mono ?_;rintro e w1 ⟨rfl,rfl⟩) | (go_at_call 121;refine(o9 _ _ _).mono ?_;rintro e w1 ⟨rfl,rfl⟩))
  go_ret
  exact⟨dN HE.out.symm,by repeat (first|exact Below.refl _ _|refine Below.alloc ?_ (by simp<;>omega) _|refine dA ?_ (by simp<;>omega) _ _|refine Below.drew ?_|refine below_drewN ?_ _)⟩
set_option maxRecDepth 100000 in
set_option maxHeartbeats 1000000 in
theorem mD (w : World)(H : dU)(x : Heap)(s : Int)(h : gU w w.heap.size H x)(hs : gI x=true) :
  Calls Tryz.prog 77 #[.agg #[.slice H.Y.a H.Y.l H.Y.c, .slice H.Z.a H.Z.l H.Z.c], .int .i64 s] w fun e w'=>e= .returned (.int .i64 (aO x s)) ∧Below w.heap.size w w':=by
 obtain⟨⟨A1,n1,c1⟩, ⟨A2,n2,c2⟩⟩ :=H
 obtain⟨bs,cs⟩ :=x
 have hr1 : fE FI w w.heap.size (.slice A1 n1 c1) bs:=h.Y
 have hr2 : fE FI w w.heap.size (.slice A2 n2 c2) cs:=h.Z
 obtain⟨_,_,hv,q1,q2,qx⟩ :=id hr1
 simp only [Value.slice.injEq] at hv
 obtain⟨rfl,rfl,rfl⟩ :=hv
 have hlt1 : bs.length≤9223372036854775807:=by unfold maxLen at q2;omega
 clear q1 q2 qx
 obtain⟨_,_,hv,q1,q2,qx⟩ :=id hr2
 simp only [Value.slice.injEq] at hv
 obtain⟨rfl,rfl,rfl⟩ :=hv
 have hlt2 : cs.length≤9223372036854775807:=by unfold maxLen at q2;omega
 clear q1 q2 qx h
 have sh:=iA hs
 have wF:=Hid.aT sh.cl
 have hcb:=Dw sh s
 clear hs
 show Calls Tryz.prog 77 #[.agg #[.slice A1 bs.length c1, .slice A2 cs.length c2], .int .i64 s] _ _
 by_cases k1 : bO 0 23 s=true
 case neg=>
  have k1' : bO 0 23 s=false:= (Bool.not_eq_true _).mp k1
  have HE:=Hid.aT (zq (h:= ⟨bs,cs⟩) k1')
  clear k1 sh hcb
  have kp : xA s= -1:=if_neg (by rw [k1'];decide)
  go_enter Tryz.func77,Tryz.ntmps77
  go_wp2_with (first| (go_at_call 148;refine(um _ _).mono ?_;rw [kp];rintro e w1 ⟨rfl,rfl⟩))
  go_quiet (fail)
  all_goals go_wp2
  all_goals go_ret
  all_goals exact⟨dN HE.out.symm,by repeat (first|exact Below.refl _ _|refine Below.alloc ?_ (by simp<;>omega) _|refine dA ?_ (by simp<;>omega) _ _|refine Below.drew ?_|refine below_drewN ?_ _)⟩
 obtain⟨b1,b2⟩ :=bJ.1 k1
 have d1 : 0≤s / 4:=by omega
 have d2 : s / 4< (cs.length : Int) :=by rw [wF.out];omega
 obtain⟨g2,off2,cap2,he,hg2,_,_,hc2⟩ :=hr2.at_ (EY sh k1)
 injection he with he1 he2 jW
 clear he2
 subst he1 jW
 have p0 : w.cell? ⟨g2,off2+ (s / 4).toNat,none⟩ =some (.int .i64 (lU ⟨bs,cs⟩ s)) :=by simpa [FI] using hc2 0 _ rfl
 clear hc2
 have KC:=Hid.aT (nD ⟨bs,cs⟩ s)
 have kp : xA s=s / 4:=if_pos k1
 have ki : xQ s=s%4:=if_pos k1
 have HG:=Hid.aT (fun c (h1 : bO 0 2 c=true) (h2 : s%4<cO c) => (show 0≤ig s c from zn.2 ⟨k1,h1,h2⟩))
 have HG2:=Hid.aT (fun c (h2 : ¬ s%4<cO c) =>zm (s:=s) (c:=c) h2)
 have MW:=Hid.aT (fun c (h2 : c<0) =>zk (s:=s) (c:=c) (zh (lo:=0) (hi:=2) (by omega)))
 generalize lU ⟨bs,cs⟩ s=c at p0 hcb KC
 clear sh k1 hr2
 obtain⟨p,hp⟩ :=Int.eq_ofNat_of_zero_le d1
 rw [hp] at kp p0 d2
 simp only [Int.toNat_natCast,Int.ofNat_lt] at p0 d2
 clear hp d1
 have hd0 : decide ((p : Int) <0) =false:=by simp
 by_cases k2 : c<0
 ·have HE:=Hid.aT (show aO ⟨bs,cs⟩ s= -1 by rcases KC.out with a|a;exact a.1;have:=MW.out c k2;omega)
  obtain rfl : c= -1:=by omega
  clear hcb k2 HG HG2 MW KC
  go_enter Tryz.func77,Tryz.ntmps77
  go_wp2_with (first| (go_at_call 148;refine(um _ _).mono ?_;rw [kp];rintro e w1 ⟨rfl,rfl⟩))
  go_quiet (fail)
  all_goals go_wp2
  all_goals go_ret
  all_goals exact⟨dN HE.out.symm,by repeat (first|exact Below.refl _ _|refine Below.alloc ?_ (by simp<;>omega) _|refine dA ?_ (by simp<;>omega) _ _|refine Below.drew ?_|refine below_drewN ?_ _)⟩
 have k2' : 0≤c:=by omega
 have hq1 : ∀W : World,Calls Tryz.prog 149 #[.int .i64 s] W fun e w'=>e= .returned (.int .i64 (s%4)) ∧w'=W:=fun W=> (EU s W).mono fun e w' ⟨a,b⟩ => ⟨by rw [a,ki],b.symm⟩
 have hq2 : ∀W : World,Calls Tryz.prog 150 #[.int .i64 c] W fun e w'=>e= .returned (.int .i64 (cO c)) ∧w'=W:=fun W=> (iI c W).mono fun e w' ⟨a,b⟩ => ⟨a,b.symm⟩
 clear ki
 by_cases k3 : cO c≤s%4
 ·have HE:=Hid.aT (show aO ⟨bs,cs⟩ s= -1 by rcases KC.out with a|a;exact a.1;have:=HG2.out c (by omega);omega)
  go_enter Tryz.func77,Tryz.ntmps77
  go_wp2_with (first| (go_at_call 148;refine(um _ _).mono ?_;rw [kp];rintro e w1 ⟨rfl,rfl⟩))
  go_quiet ((first| (go_at_call 149;exact Calls.quiet_of_same (hq1 _)) | (go_at_call 150;exact Calls.quiet_of_same (hq2 _))))
  all_goals go_wp2
  all_goals go_ret
  all_goals exact⟨dN HE.out.symm,by repeat (first|exact Below.refl _ _|refine Below.alloc ?_ (by simp<;>omega) _|refine dA ?_ (by simp<;>omega) _ _|refine Below.drew ?_|refine below_drewN ?_ _)⟩
 ·have HE:=Hid.aT (show aO ⟨bs,cs⟩ s=c by rcases KC.out with a|a;have:=HG.out c (bJ.2 ⟨k2',hcb.2⟩) (by omega);omega;exact a.1)
  go_enter Tryz.func77,Tryz.ntmps77
  go_wp2_with (first| (go_at_call 148;refine(um _ _).mono ?_;rw [kp];rintro e w1 ⟨rfl,rfl⟩))
  go_quiet ((first| (go_at_call 149;exact Calls.quiet_of_same (hq1 _)) | (go_at_call 150;exact Calls.quiet_of_same (hq2 _))))
  all_goals go_wp2
  all_goals go_ret
  all_goals exact⟨dN HE.out.symm,by repeat (first|exact Below.refl _ _|refine Below.alloc ?_ (by simp<;>omega) _|refine dA ?_ (by simp<;>omega) _ _|refine Below.drew ?_|refine below_drewN ?_ _)⟩
end Go.Proofs.YtkmggglljkmjoaaGreat
namespace Go.Proofs.YtkmggglljkmjoaaGreat
open Go.RowKit
theorem nE (w : World)(o : Obj)(g i : Nat)(hg : g<w.heap.size) : (w.alloc o).cell? ⟨g,i,none⟩ =w.cell? ⟨g,i,none⟩ :=by
 simp [World.cell?,Below.heap_alloc w o g hg]
theorem kP (w : World)(o : Obj)(g i : Nat)(hg : g<w.heap.size) : (w.alloc o).frozen? ⟨g,i,none⟩ =w.frozen? ⟨g,i,none⟩ :=by
 simp [World.frozen?,Below.heap_alloc w o g hg]
theorem jJ {w w' : World}{g i : Nat}{u : Value}(hb : Below w.heap.size w w')(hg : g<w.heap.size)(h : w.cell? ⟨g,i,none⟩ =some u) : w'.cell? ⟨g,i,none⟩ =some u:= (hb.cell (p:= ⟨g,i,none⟩) hg).trans h
def jQ (h : Heap)(s : Int) : Int:=if gI h=true then aO h s else -1
theorem IQ {P : Program}{f : FuncId}{args : Array Value}{W : World}{v : Ending}(h : Calls P f args W fun e w'=>e=v∧W=w') : Calls P f args W fun e w'=>e=v∧w'=W:=h.mono fun _ _ ⟨a,b⟩ => ⟨a,b.symm⟩
theorem vQ {h : Heap}(sh : Shape h){s : Int}(k : ¬ aO h s<0) : 0≤ig s (aO h s) ∧ig s (aO h s) +4≤h.Y.length:=by
 have a:=mh (lU h s)
 have b:=sh.bl
 rcases nD h s with ⟨c,_⟩ | ⟨c,d,e,_⟩
 ·omega
 ·rw [c];omega
set_option maxRecDepth 100000 in
set_option maxHeartbeats 1000000 in
theorem vR (w : World)(H : dU)(x : Heap)(s : Int)(h : gU w w.heap.size H x) :
  Calls Tryz.prog 201 #[.agg #[.slice H.Y.a H.Y.l H.Y.c, .slice H.Z.a H.Z.l H.Z.c], .int .i64 s] w fun e w'=>e= .returned (.int .i64 (jQ x s)) ∧Below w.heap.size w w':=by
 obtain⟨⟨A1,n1,c1⟩, ⟨A2,n2,c2⟩⟩ :=H
 obtain⟨bs,cs⟩ :=x
 have hr1 : fE FI w w.heap.size (.slice A1 n1 c1) bs:=h.Y
 have hr2 : fE FI w w.heap.size (.slice A2 n2 c2) cs:=h.Z
 obtain⟨_,_,hv,q1,q2,qx⟩ :=id hr1
 simp only [Value.slice.injEq] at hv
 obtain⟨rfl,rfl,rfl⟩ :=hv
 have hlt1 : bs.length≤9223372036854775807:=by unfold maxLen at q2;omega
 clear q1 q2 qx
 obtain⟨_,_,hv,q1,q2,qx⟩ :=id hr2
 simp only [Value.slice.injEq] at hv
 obtain⟨rfl,rfl,rfl⟩ :=hv
 have hlt2 : cs.length≤9223372036854775807:=by unfold maxLen at q2;omega
 clear q1 q2 qx h
 show Calls Tryz.prog 201 #[.agg #[.slice A1 bs.length c1, .slice A2 cs.length c2], .int .i64 s] _ _
 by_cases hs : gI ⟨bs,cs⟩ =true
 ·have HE:=Hid.aT (show jQ ⟨bs,cs⟩ s=aO ⟨bs,cs⟩ s from if_pos hs)
  have HT:=Hid.aT hs
  clear hs
  go_enter Tryz.func201,Tryz.ntmps201
  go_wp2_with (first| (go_at_call 195;refine(uq _ ⟨⟨A1,bs.length,c1⟩, ⟨A2,cs.length,c2⟩⟩ ⟨bs,cs⟩ ⟨eP hr1 dJ,eP hr2 dJ⟩).mono ?_;rw [HT.out];rintro e w1 ⟨rfl,hb1⟩;obtain⟨os1,d1,rfl⟩ :=lS hb1;clear hb1) | (go_at_call 54;refine(ql _ ⟨⟨A1,bs.length,c1⟩, ⟨A2,cs.length,c2⟩⟩ ⟨bs,cs⟩ s ⟨eP hr1 dJ,eP hr2 dJ⟩ HT.out).mono ?_;rintro e w2 ⟨rfl,hb2⟩;obtain⟨os2,d2,rfl⟩ :=lS hb2;clear hb2))
  go_ret
  exact⟨dN HE.out.symm,by repeat (first|exact Below.refl _ _|refine Below.alloc ?_ (by simp<;>omega) _|refine dA ?_ (by simp<;>omega) _ _|refine Below.drew ?_|refine below_drewN ?_ _)⟩
 ·have HE:=Hid.aT (show jQ ⟨bs,cs⟩ s= -1 from if_neg hs)
  have HT:=Hid.aT ((Bool.not_eq_true _).mp hs)
  clear hs
  go_enter Tryz.func201,Tryz.ntmps201
  go_wp2_with (go_at_call 195;refine(uq _ ⟨⟨A1,bs.length,c1⟩, ⟨A2,cs.length,c2⟩⟩ ⟨bs,cs⟩ ⟨eP hr1 dJ,eP hr2 dJ⟩).mono ?_;rw [HT.out];rintro e w1 ⟨rfl,hb1⟩;obtain⟨os1,d1,rfl⟩ :=lS hb1;clear hb1)
  go_ret
  exact⟨dN HE.out.symm,by repeat (first|exact Below.refl _ _|refine Below.alloc ?_ (by simp<;>omega) _|refine dA ?_ (by simp<;>omega) _ _|refine Below.drew ?_|refine below_drewN ?_ _)⟩
set_option maxRecDepth 100000 in
set_option maxHeartbeats 1000000 in
theorem vo (w : World)(H : dU)(x : Heap)(s : Int)(h : gU w w.heap.size H x)(hs : gI x=true) :
  Calls Tryz.prog 144 #[.agg #[.slice H.Y.a H.Y.l H.Y.c, .slice H.Z.a H.Z.l H.Z.c], .int .i64 s] w fun e w'=>e= .returned (.int .i64 (dz x s)) ∧Below w.heap.size w w':=by
 obtain⟨⟨A1,n1,c1⟩, ⟨A2,n2,c2⟩⟩ :=H
 obtain⟨bs,cs⟩ :=x
 have hr1 : fE FI w w.heap.size (.slice A1 n1 c1) bs:=h.Y
 have hr2 : fE FI w w.heap.size (.slice A2 n2 c2) cs:=h.Z
 obtain⟨_,_,hv,q1,q2,qx⟩ :=id hr1
 simp only [Value.slice.injEq] at hv
 obtain⟨rfl,rfl,rfl⟩ :=hv
 have hlt1 : bs.length≤9223372036854775807:=by unfold maxLen at q2;omega
 clear q1 q2 qx
 obtain⟨_,_,hv,q1,q2,qx⟩ :=id hr2
 simp only [Value.slice.injEq] at hv
 obtain⟨rfl,rfl,rfl⟩ :=hv
 have hlt2 : cs.length≤9223372036854775807:=by unfold maxLen at q2;omega
 clear q1 q2 qx h
 have sh:=iA hs
 have HC:=Hid.aT (show jQ ⟨bs,cs⟩ s=aO ⟨bs,cs⟩ s from if_pos hs)
 clear hs
 show Calls Tryz.prog 144 #[.agg #[.slice A1 bs.length c1, .slice A2 cs.length c2], .int .i64 s] _ _
 by_cases k1 : aO ⟨bs,cs⟩ s<0
 ·have HE:=Hid.aT (show dz ⟨bs,cs⟩ s=0 from if_pos k1)
  clear sh
  go_enter Tryz.func144,Tryz.ntmps144
  go_wp2_with (go_at_call 201;refine(vR _ ⟨⟨A1,bs.length,c1⟩, ⟨A2,cs.length,c2⟩⟩ ⟨bs,cs⟩ s ⟨eP hr1 dJ,eP hr2 dJ⟩).mono ?_;rw [HC.out];rintro e w1 ⟨rfl,hb1⟩;obtain⟨os1,d1,rfl⟩ :=lS hb1;clear hb1)
  go_ret
  exact⟨dN HE.out.symm,by repeat (first|exact Below.refl _ _|refine Below.alloc ?_ (by simp<;>omega) _|refine dA ?_ (by simp<;>omega) _ _|refine Below.drew ?_|refine below_drewN ?_ _)⟩
 ·have HE:=Hid.aT (show dz ⟨bs,cs⟩ s=iF bs (ig s (aO ⟨bs,cs⟩ s)) 4 from if_neg k1)
  obtain⟨g1,g2⟩ :=vQ sh k1
  simp only at g2
  have hby:=sh.rG
  simp only at hby
  generalize aO ⟨bs,cs⟩ s=c at k1 HE HC g1 g2
  clear sh
  have IU : ∀W : World,Calls Tryz.prog 121 #[.int .i64 s, .int .i64 c] W fun e w'=>e= .returned (.int .i64 (ig s c)) ∧w'=W:=fun W=>IQ (o9 s c W)
  generalize ig s c=a at g1 g2 HE IU
  go_enter Tryz.func144,Tryz.ntmps144
  go_wp2_with fail
  refine(vR _ ⟨⟨A1,bs.length,c1⟩, ⟨A2,cs.length,c2⟩⟩ ⟨bs,cs⟩ s ⟨eP hr1 dJ,eP hr2 dJ⟩).mono ?_
  rw [HC.out]
  rintro e w1 ⟨rfl,hb1⟩
  have q0 : w1.cell? ⟨w.heap.size,0,none⟩ =some (.slice A1 bs.length c1) :=jJ hb1 (by simp<;>omega) (by simp [go_sem])
  have q1 : w1.cell? ⟨w.heap.size,1,none⟩ =some (.slice A2 cs.length c2) :=jJ hb1 (by simp<;>omega) (by simp [go_sem])
  have hB1 : Below w.heap.size w w1:=Below.trans dJ (hb1.mono (by simp))
  clear hb1
  go_wp2
  go_quiet ((first| (go_at_call 121;exact Calls.quiet_of_same (IU _)) | (go_at_call 90;exact Calls.quiet_of_same (IQ (mq _ _ bs a 4 (eP hr1 (by first|exact hB1|exact hB1.drew|exact below_drewN hB1 _)) g1 (by decide) (by decide) g2 hby)))))
  go_wp2
  go_ret
  exact⟨dN HE.out.symm,by first|exact hB1|exact hB1.drew|exact below_drewN hB1 _⟩
set_option maxRecDepth 100000 in
set_option maxHeartbeats 1000000 in
theorem qH (w : World)(H : dU)(x : Heap)(s : Int)(h : gU w w.heap.size H x)(hs : gI x=true)(k1 : ¬ aO x s<0) :
  Calls Tryz.prog 108 #[.agg #[.slice H.Y.a H.Y.l H.Y.c, .slice H.Z.a H.Z.l H.Z.c], .int .i64 s] w fun e w'=>e= .returned (.int .i64 (dz x s)) ∧Below w.heap.size w w':=by
 obtain⟨⟨A1,n1,c1⟩, ⟨A2,n2,c2⟩⟩ :=H
 obtain⟨bs,cs⟩ :=x
 have hr1 : fE FI w w.heap.size (.slice A1 n1 c1) bs:=h.Y
 have hr2 : fE FI w w.heap.size (.slice A2 n2 c2) cs:=h.Z
 obtain⟨_,_,hv,q1,q2,qx⟩ :=id hr1
 simp only [Value.slice.injEq] at hv
 obtain⟨rfl,rfl,rfl⟩ :=hv
 have hlt1 : bs.length≤9223372036854775807:=by unfold maxLen at q2;omega
 clear q1 q2 qx
 obtain⟨_,_,hv,q1,q2,qx⟩ :=id hr2
 simp only [Value.slice.injEq] at hv
 obtain⟨rfl,rfl,rfl⟩ :=hv
 have hlt2 : cs.length≤9223372036854775807:=by unfold maxLen at q2;omega
 clear q1 q2 qx h
 have sh:=iA hs
 show Calls Tryz.prog 108 #[.agg #[.slice A1 bs.length c1, .slice A2 cs.length c2], .int .i64 s] _ _
 have HE:=Hid.aT (show dz ⟨bs,cs⟩ s=iF bs (ig s (aO ⟨bs,cs⟩ s)) 4 from if_neg k1)
 obtain⟨g1,g2⟩ :=vQ sh k1
 simp only at g2
 have hby:=sh.rG
 simp only at hby
 have IU : ∀W : World,Calls Tryz.prog 158 #[.int .i64 s, .int .i64 (aO ⟨bs,cs⟩ s)] W fun e w'=>e= .returned (.int .i64 (ig s (aO ⟨bs,cs⟩ s))) ∧W=w':=fun W=>nP s _ W
 generalize ig s (aO ⟨bs,cs⟩ s) =a at g1 g2 HE IU
 clear sh k1
 go_enter Tryz.func108,Tryz.ntmps108
 go_wp2
 have hB0 : Below w.heap.size w (w.alloc (.cells #[.slice A1 bs.length c1, .slice A2 cs.length c2] 26)) :=dJ
 have q0 : (w.alloc (.cells #[.slice A1 bs.length c1, .slice A2 cs.length c2] 26)).cell? ⟨w.heap.size,0,none⟩ =some (.slice A1 bs.length c1) :=by simp [go_sem]
 have q1 : (w.alloc (.cells #[.slice A1 bs.length c1, .slice A2 cs.length c2] 26)).cell? ⟨w.heap.size,1,none⟩ =some (.slice A2 cs.length c2) :=by simp [go_sem]
 have z0 : w.heap.size< (w.alloc (.cells #[.slice A1 bs.length c1, .slice A2 cs.length c2] 26)).heap.size:=by simp
 generalize (w.alloc (.cells #[.slice A1 bs.length c1, .slice A2 cs.length c2] 26)) =w0 at hB0 q0 q1 z0⊢
 go_region_held3 (fun w'=>w'.cell? ⟨w.heap.size,0,none⟩ =some (.slice A1 bs.length c1) ∧w'.cell? ⟨w.heap.size,1,none⟩ =some (.slice A2 cs.length c2) ∧w.heap.size<w'.heap.size∧Below w.heap.size w w') (first| (go_keep;done) | ((try go_split_ands);refine⟨?_, ?_, ?_, ?_⟩;all_goals first|assumption|exact Below.drew (by assumption) | (simp [go_sem, *];done) |exact dA (by assumption) (by omega) _ _| (rw [size_grow];omega) | (repeat (first|exact Below.refl _ _|refine Below.alloc ?_ (by simp<;>omega) _|refine dA ?_ (by simp<;>omega) _ _|refine Below.drew ?_|refine below_drewN ?_ _);done) | (simp<;>omega))) ((first| (go_at_call 77;refine(mD _ ⟨⟨A1,bs.length,c1⟩, ⟨A2,cs.length,c2⟩⟩ ⟨bs,cs⟩ s ⟨eP hr1 (by go_split_ands;assumption),eP hr2 (by go_split_ands;assumption)⟩ hs).mono ?_;rintro e w1 ⟨rfl,hb1⟩;obtain⟨os1,d1,rfl⟩ :=lS hb1;clear hb1) | (go_at_call 158;refine(IU _).mono ?_;rintro e w2 ⟨rfl,rfl⟩) | (go_at_call 109;refine(qL _ _ bs a 4 (eP hr1 (by go_split_ands;assumption)) g1 (by decide) (by decide) g2 hby).mono ?_;rintro e w3 ⟨rfl,rfl⟩)))
 go_wp2
 go_ret
 exact⟨dN HE.out.symm,by first|assumption| (go_split_ands;assumption)⟩
end Go.Proofs.YtkmggglljkmjoaaGreat
