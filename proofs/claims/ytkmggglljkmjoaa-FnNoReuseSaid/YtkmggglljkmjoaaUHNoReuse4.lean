/-
  Several texts in one: lemmas and contracts that the claim rests on.
-/
import Derived.Test.YtkmggglljkmjoaaUHNoReuse2
import Derived.Test.YtkmggglljkmjoaaUHNoReuse1
import Derived.Deep.QuietTactic
import Derived.BigQuiet
import Derived.Deep.LoopGhost
import Derived.Deep.RegionHeld3
import Derived.WalkSpells
import Derived.Laws.Cover3
import Derived.Test.YtkmggglljkmjoaaUHNoReuse3
namespace Go.Proofs.Ytkmggglljkmjoaa
open Go.RowKit
structure Heap where
 Y : List Int
 Z : List Int
structure dA where
 Y : SV
 Z : SV
@[reducible] def dA.val (H : dA) (_x : Heap) : Value:= .agg #[.slice H.Y.a H.Y.l H.Y.c, .slice H.Z.a H.Z.l H.Z.c]
def dA.foot (H : dA) : List Nat:=bL H.Y.val++bL H.Z.val
structure fZ (w : World)(B : Nat)(H : dA)(x : Heap) : Prop where
 Y : dz FI w B H.Y.val x.Y
 Z : dz FI w B H.Z.val x.Z
structure eT (w : World)(H : dA)(x : Heap) : Prop where
 Y : bF FI 3 w H.Y.val x.Y
 Z : bF FI 3 w H.Z.val x.Z
 iM : ∀g∈bL H.Y.val,g∉bL H.Z.val
theorem fZ.keep {w w' : World}{B B' : Nat}{H : dA}{x : Heap}(h : fZ w B H x)(hk : ∀k,k<B→w'.heap[k]? =w.heap[k]?)(hB : B≤B') : fZ w' B' H x:=
 ⟨h.Y.keep hk hB,h.Z.keep hk hB⟩
theorem dH {w w' : World}{H : dA}{x : Heap}(h : fZ w w.heap.size H x)(hb : Below w.heap.size w w') : fZ w' w'.heap.size H x:=h.keep hb.block hb.size
theorem dA.aZ {H : dA}{g : Nat} : g∈H.foot↔g∈bL H.Y.val∨g∈bL H.Z.val:=by
 unfold dA.foot
 simp only [List.mem_append]
theorem eT.lt {w : World}{H : dA}{x : Heap}(h : eT w H x) : ∀g∈H.foot,g<w.heap.size:=by
 intro g hg
 rcases dA.aZ.1 hg with hg|hg
 ·exact(dQ h.Y) g hg
 ·exact(dQ h.Z) g hg
theorem eT.keep {w w' : World}{H : dA}{x : Heap}(h : eT w H x)(hk : ∀g∈H.foot,w'.heap[g]? =w.heap[g]?) : eT w' H x:=
 ⟨h.Y.keep (fun g hg=>hk g (dA.aZ.2 (.inl (bH.2 hg)))),h.Z.keep (fun g hg=>hk g (dA.aZ.2 ((.inr (bH.2 hg))))),h.iM⟩
theorem eT.bn {w w' : World}{H : dA}{x : Heap}{F : List Nat}(h : eT w H x)(hc : bW F w w')(hd : ∀g∈H.foot,g∉F) : eT w' H x:=h.keep fun g hg=>hc.block g (h.lt g hg) (hd g hg)
theorem eT.rd {w : World}{B : Nat}{H : dA}{x : Heap}(h : eT w H x)(hB : ∀g∈H.foot,g<B) : fZ w B H x:=
 ⟨h.Y.rd (fun g hg=>hB g (dA.aZ.2 (.inl (bH.2 hg)))),h.Z.rd (fun g hg=>hB g (dA.aZ.2 ((.inr (bH.2 hg)))))⟩
theorem eT.rd' {w : World}{H : dA}{x : Heap}(h : eT w H x) : fZ w w.heap.size H x:=h.rd h.lt
def iK (x : Heap) : Nat:=x.Y.length+x.Z.length
structure Lists where
 G : List (List Int)
 O : List (List Int)
structure aY where
 G : SV
 jG : List SV
 O : SV
 mZ : List SV
@[reducible] def aY.val (H : aY) (_x : Lists) : Value:= .agg #[.slice H.G.a H.G.l H.G.c, .slice H.O.a H.O.l H.O.c]
def aY.foot (H : aY) : List Nat:=dL H.G.val H.jG++dL H.O.val H.mZ
structure gM (w : World)(B : Nat)(H : aY)(x : Lists) : Prop where
 G : fO FI w B H.G.val H.jG x.G
 O : fO FI w B H.O.val H.mZ x.O
structure dW (w : World)(H : aY)(x : Lists) : Prop where
 G : dJ FI 3 57 w H.G.val H.jG x.G
 O : dJ FI 3 57 w H.O.val H.mZ x.O
 iM : ∀g∈dL H.G.val H.jG,g∉dL H.O.val H.mZ
theorem gM.keep {w w' : World}{B B' : Nat}{H : aY}{x : Lists}(h : gM w B H x)(hk : ∀k,k<B→w'.heap[k]? =w.heap[k]?)(hB : B≤B') : gM w' B' H x:=
 ⟨h.G.keep hk hB,h.O.keep hk hB⟩
theorem dP {w w' : World}{H : aY}{x : Lists}(h : gM w w.heap.size H x)(hb : Below w.heap.size w w') : gM w' w'.heap.size H x:=h.keep hb.block hb.size
theorem aY.aZ {H : aY}{g : Nat} : g∈H.foot↔g∈dL H.G.val H.jG∨g∈dL H.O.val H.mZ:=by
 unfold aY.foot
 simp only [List.mem_append]
theorem dW.lt {w : World}{H : aY}{x : Lists}(h : dW w H x) : ∀g∈H.foot,g<w.heap.size:=by
 intro g hg
 rcases aY.aZ.1 hg with hg|hg
 ·exact h.G.lt g hg
 ·exact h.O.lt g hg
theorem dW.keep {w w' : World}{H : aY}{x : Lists}(h : dW w H x)(hk : ∀g∈H.foot,w'.heap[g]? =w.heap[g]?) : dW w' H x:=
 ⟨h.G.keep (fun g hg=>hk g (aY.aZ.2 (.inl hg))),h.O.keep (fun g hg=>hk g (aY.aZ.2 ((.inr hg)))),h.iM⟩
theorem dW.bn {w w' : World}{H : aY}{x : Lists}{F : List Nat}(h : dW w H x)(hc : bW F w w')(hd : ∀g∈H.foot,g∉F) : dW w' H x:=h.keep fun g hg=>hc.block g (h.lt g hg) (hd g hg)
theorem dW.rd {w : World}{B : Nat}{H : aY}{x : Lists}(h : dW w H x)(hB : ∀g∈H.foot,g<B) : gM w B H x:=
 ⟨h.G.rd (fun g hg=>hB g (aY.aZ.2 (.inl hg))),h.O.rd (fun g hg=>hB g (aY.aZ.2 ((.inr hg))))⟩
theorem dW.rd' {w : World}{H : aY}{x : Lists}(h : dW w H x) : gM w w.heap.size H x:=h.rd h.lt
def eU (x : Lists) : Nat:=iJ x.G+iJ x.O
structure Mem where
 E : Heap
 I : Lists
structure bY where
 E : dA
 I : aY
@[reducible] def bY.val (H : bY) (_x : Mem) : Value:= .agg #[.slice H.E.Y.a H.E.Y.l H.E.Y.c, .slice H.E.Z.a H.E.Z.l H.E.Z.c, .slice H.I.G.a H.I.G.l H.I.G.c, .slice H.I.O.a H.I.O.l H.I.O.c]
def bY.foot (H : bY) : List Nat:=H.E.foot++H.I.foot
structure gD (w : World)(B : Nat)(H : bY)(x : Mem) : Prop where
 E : fZ w B H.E x.E
 I : gM w B H.I x.I
structure eX (w : World)(H : bY)(x : Mem) : Prop where
 E : eT w H.E x.E
 I : dW w H.I x.I
 iM : ∀g∈H.E.foot,g∉H.I.foot
theorem gD.keep {w w' : World}{B B' : Nat}{H : bY}{x : Mem}(h : gD w B H x)(hk : ∀k,k<B→w'.heap[k]? =w.heap[k]?)(hB : B≤B') : gD w' B' H x:=
 ⟨h.E.keep hk hB,h.I.keep hk hB⟩
theorem eD {w w' : World}{H : bY}{x : Mem}(h : gD w w.heap.size H x)(hb : Below w.heap.size w w') : gD w' w'.heap.size H x:=h.keep hb.block hb.size
theorem bY.aZ {H : bY}{g : Nat} : g∈H.foot↔g∈H.E.foot∨g∈H.I.foot:=by
 unfold bY.foot
 simp only [List.mem_append]
theorem eX.lt {w : World}{H : bY}{x : Mem}(h : eX w H x) : ∀g∈H.foot,g<w.heap.size:=by
 intro g hg
 rcases bY.aZ.1 hg with hg|hg
 ·exact h.E.lt g hg
 ·exact h.I.lt g hg
theorem eX.keep {w w' : World}{H : bY}{x : Mem}(h : eX w H x)(hk : ∀g∈H.foot,w'.heap[g]? =w.heap[g]?) : eX w' H x:=
 ⟨h.E.keep (fun g hg=>hk g (bY.aZ.2 (.inl hg))),h.I.keep (fun g hg=>hk g (bY.aZ.2 ((.inr hg)))),h.iM⟩
theorem eX.bn {w w' : World}{H : bY}{x : Mem}{F : List Nat}(h : eX w H x)(hc : bW F w w')(hd : ∀g∈H.foot,g∉F) : eX w' H x:=h.keep fun g hg=>hc.block g (h.lt g hg) (hd g hg)
theorem eX.rd {w : World}{B : Nat}{H : bY}{x : Mem}(h : eX w H x)(hB : ∀g∈H.foot,g<B) : gD w B H x:=
 ⟨h.E.rd (fun g hg=>hB g (bY.aZ.2 (.inl hg))),h.I.rd (fun g hg=>hB g (bY.aZ.2 ((.inr hg))))⟩
theorem eX.rd' {w : World}{H : bY}{x : Mem}(h : eX w H x) : gD w w.heap.size H x:=h.rd h.lt
def dS (x : Mem) : Nat:=iK x.E+eU x.I
end Go.Proofs.Ytkmggglljkmjoaa
namespace Go.Proofs.Ytkmggglljkmjoaa
open Go.RowKit
set_option maxHeartbeats 1000000 in
theorem r_ (w : World)(v : Value)(l : List Int)(h : dz FI w w.heap.size v l)(fid : FuncId)(cap : Array Value)(p : Int→Bool)(hent : ∀ (x : Int) (W : World), (callFunc fid (#[.int .i64 x]++cap)).run Try.prog W= .ok (.enter fid (#[.int .i64 x]++cap)) W)(hf : ∀ (x : Int),x∈l→Calls Try.prog fid (#[.int .i64 x]++cap) w fun e W'=>e= .returned (.bool (p x)) ∧w=W') :
  Calls Try.prog 98 #[v, .func (.func fid) #[] cap] w fun e w'=>e= .returned (.int .i64 (idxOf p l)) ∧w=w':=by
 obtain⟨A,c,hv,q1,q2,_⟩ :=id h
 have kR : l.length≤9223372036854775807:=by unfold maxLen at q2;omega
 subst hv
 have HF:=Hid.aD hf
 clear hf q1 q2
 go_enter Try.func98,Try.ntmps98
 go_wp2
 go_loop [5,8] (fun _ i=> ∃i' : Nat,i'≤l.length∧i= .int .i64 i'∧Hid ((l.take i').any p=false)) (fun _ i=>l.length - (intOf i).toNat)
 case atStart=>exact⟨0,Nat.zero_le _,rfl,rfl⟩
 case round=>
  obtain⟨i,hi,rfl,HN⟩ :=hrel
  by_cases hlt : i<l.length
  ·obtain⟨g,off,cap',he,hg,_,_,hc⟩ :=h.at_ (List.getElem?_eq_getElem hlt)
   injection he with he1 he2 gq
   clear he2
   subst he1 gq
   have p0 : w.cell? ⟨g,off+i,none⟩ =some (.int .i64 l[i]) :=by simpa [FI] using hc 0 _ rfl
   clear hc h
   go_wp2_with fail
   refine(HF.out l[i] (List.getElem_mem hlt)).mono ?_
   rintro e w1 ⟨rfl,rfl⟩
   by_cases hp : p l[i]=true
   ·have HP:=Hid.aD (idxOf_hit p l i hlt HN.out hp)
    rw [hp]
    clear hp
    go_wp2
    go_ret
    exact⟨bU HP.out.symm,rfl⟩
   ·have hp' : p l[i]=false:=by simpa using hp
    have HP:=Hid.aD (any_take_succ p l i hlt HN.out hp')
    rw [hp']
    clear hp hp'
    go_wp2
    go_round
    case rel=>exact⟨i+1,by omega,by go_num,HP⟩
    case measure=>simp [intOf];omega
  ·go_wp2
   go_ret
   obtain rfl : i=l.length:=by omega
   exact⟨bU (oJ p l (by simpa using HN.out)).symm,rfl⟩
set_option maxHeartbeats 1000000 in
theorem jY (w : World)(v : Value)(l : List Int)(h : dz FI w w.heap.size v l)(fid : FuncId)(cap : Array Value)(p : Int→Bool)(hent : ∀ (x : Int) (W : World), (callFunc fid (#[.int .i64 x]++cap)).run Try.prog W= .ok (.enter fid (#[.int .i64 x]++cap)) W)(hf : ∀ (x : Int),x∈l→Calls Try.prog fid (#[.int .i64 x]++cap) w fun e W'=>e= .returned (.bool (p x)) ∧w=W') :
  Calls Try.prog 86 #[v, .func (.func fid) #[] cap] w fun e w'=>e= .returned (.bool (l.any p)) ∧w=w':=by
 have HF:=Hid.aD hf
 clear hf
 go_enter Try.func86,Try.ntmps86
 go_wp2_with fail
 refine(r_ w v l h fid cap p hent HF.out).mono ?_
 rintro e w1 ⟨rfl,rfl⟩
 have HP:=Hid.aD (rZ p l)
 go_wp2
 go_ret
 exact⟨aS HP.out,rfl⟩
theorem wD (x : Int)(w : World) : Calls Try.prog 99 #[.int .i64 x] w fun e w'=>e= .returned (.bool (x != 0)) ∧w=w':=by
 go_enter Try.func99,Try.ntmps99
 go_wp2
 go_ret
 exact⟨rfl,rfl⟩
def fT (b : List Int) : Bool:=b.all fun x=>x == 0
theorem jk (w : World)(v : Value)(b : List Int)(h : dz FI w w.heap.size v b) :
  Calls Try.prog 88 #[v] w fun e w'=>e= .returned (.bool (fT b)) ∧w=w':=by
 have HA:=Hid.aD (show fT b= !(b.any fun x=>x != 0) by unfold fT;rw [nU];rfl)
 go_enter Try.func88,Try.ntmps88
 go_wp2_with fail
 refine(jY w _ b h 99 #[] (fun x=>x != 0) (fun _ _=>by kernel_rfl) (fun x _=>wD x w)).mono ?_
 rintro e w1 ⟨rfl,rfl⟩
 go_wp2
 go_ret
 exact⟨aS HA.out.symm,rfl⟩
theorem uJ (x : Int)(w : World) : Calls Try.prog 96 #[.int .i64 x] w fun e w'=>e= .returned (.bool (!aW 0 255 x)) ∧w=w':=by
 go_enter Try.func96,Try.ntmps96
 go_wp2_with (go_at_call 97;refine(zn _ _).mono ?_;rintro e w1 ⟨rfl,rfl⟩)
 go_ret
 exact⟨rfl,rfl⟩
set_option maxHeartbeats 400000 in
theorem kQ (w : World)(v : Value)(b : List Int)(h : dz FI w w.heap.size v b) :
  Calls Try.prog 85 #[v] w fun e w'=>e= .returned (.bool (gY b)) ∧w=w':=by
 obtain⟨A,c,hv,q1,q2,_⟩ :=id h
 have kR : b.length≤9223372036854775807:=by unfold maxLen at q2;omega
 subst hv
 clear q1 q2
 have HA:=Hid.aD (nU (aW 0 255) b)
 by_cases hl : b.length≤1000
 ·have HE:=Hid.aD (show gY b=b.all (aW 0 255) by simp [gY,hl])
  go_enter Try.func85,Try.ntmps85
  go_wp2_with fail
  refine(jY w _ b h 96 #[] (fun x=> !aW 0 255 x) (fun _ _=>by kernel_rfl) (fun x _=>uJ x w)).mono ?_
  rintro e w1 ⟨rfl,rfl⟩
  go_wp2
  go_ret
  exact⟨aS (by rw [HE.out,HA.out]),rfl⟩
 ·have HE:=Hid.aD (show gY b=false by simp [gY,hl])
  go_enter Try.func85,Try.ntmps85
  go_wp2
  go_ret
  exact⟨aS HE.out.symm,rfl⟩
theorem wE (x : Int)(w : World) : Calls Try.prog 87 #[.int .i64 x] w fun e w'=>e= .returned (.bool (!aW (-1) 2 x)) ∧w=w':=by
 go_enter Try.func87,Try.ntmps87
 go_wp2_with (go_at_call 36;refine(gW _ _ _ _).mono ?_;rintro e w1 ⟨rfl,rfl⟩)
 go_ret
 exact⟨rfl,rfl⟩
def d_ (h : Heap) : Bool:= (h.Y.length == 384) && (h.Z.length == 6) &&gY h.Y&&h.Z.all (aW (-1) 2)
structure Shape (h : Heap) : Prop where
 bl : h.Y.length=384
 cl : h.Z.length=6
 Bc : h.Y.all (aW 0 255) =true
 cs : ∀i, -1≤h.Z.getD i (-1) ∧h.Z.getD i (-1) ≤2
theorem gQ {h : Heap}(k : d_ h=true) : Shape h:=by
 simp only [d_,gY,Bool.and_eq_true,beq_iff_eq] at k
 obtain⟨⟨⟨k1,k2⟩,k3,k4⟩,k5⟩ :=k
 refine⟨k1,k2,k4,fun i=> ?_⟩
 by_cases hi : i<h.Z.length
 ·rw [getD_at hi]
  exact bD.1 (List.all_eq_true.1 k5 _ (List.getElem_mem hi))
 ·rw [r9 (by omega)]
  omega
def iL (h : Heap)(s : Int) : Int:=h.Z.getD (s / 4).toNat (-1)
def ak (h : Heap)(s : Int) : Int:=if fq s (iL h s) <0 then -1 else iL h s
def bK (h : Heap)(s : Int) : Int:=if ak h s<0 then 0 else fu h.Y (fq s (ak h s)) 4
set_option maxRecDepth 100000 in
set_option maxHeartbeats 1000000 in
theorem mh (w : World)(H : dA)(x : Heap)(h : fZ w w.heap.size H x) :
  Calls Try.prog 61 #[.agg #[.slice H.Y.a H.Y.l H.Y.c, .slice H.Z.a H.Z.l H.Z.c]] w fun e w'=>e= .returned (.bool (d_ x)) ∧Below w.heap.size w w':=by
 obtain⟨⟨A1,n1,c1⟩, ⟨A2,n2,c2⟩⟩ :=H
 obtain⟨bs,cs⟩ :=x
 have hr1 : dz FI w w.heap.size (.slice A1 n1 c1) bs:=h.Y
 have hr2 : dz FI w w.heap.size (.slice A2 n2 c2) cs:=h.Z
 obtain⟨_,_,hv,q1,q2,qx⟩ :=id hr1
 simp only [Value.slice.injEq] at hv
 obtain⟨rfl,rfl,rfl⟩ :=hv
 have hlt1 : bs.length≤9223372036854775807:=by unfold maxLen at q2;omega
 clear q1 q2 qx
 obtain⟨_,_,hv,q1,q2,qx⟩ :=id hr2
 simp only [Value.slice.injEq] at hv
 obtain⟨rfl,rfl,rfl⟩ :=hv
 have hlt2 : cs.length≤9223372036854775807:=by unfold maxLen at q2;omega
 clear q1 q2 qx h
 have HE:=Hid.aD (show d_ ⟨bs,cs⟩ = ((bs.length == 384) && (cs.length == 6) &&gY bs&&cs.all (aW (-1) 2)) from rfl)
 show Calls Try.prog 61 #[.agg #[.slice A1 bs.length c1, .slice A2 cs.length c2]] _ _
 by_cases k1 : (bs.length == 384) =true
 case neg=>
  have k1' : (bs.length == 384) =false:= (Bool.not_eq_true _).mp k1
  clear k1
  have BQ : (((bs.length : Nat) : Int) == 384) =false:=by simp at k1'⊢;omega
  have HF:=Hid.aD k1'
  clear k1'
  go_enter Try.func61,Try.ntmps61
  go_wp2_with (go_at_call 85;refine(kQ _ _ bs (dh hr1 dn)).mono ?_;rintro e w1 ⟨rfl,rfl⟩)
  go_ret
  exact⟨aS (by rw [HE.out,HF.out];simp),by repeat (first|exact Below.refl _ _|refine Below.alloc ?_ (by simp<;>omega) _|refine bE ?_ (by simp<;>omega) _ _|refine Below.drew ?_)⟩
 have BQ : (((bs.length : Nat) : Int) == 384) =true:=by simp at k1⊢;omega
 have BR:=Hid.aD k1
 clear k1
 by_cases k3 : gY bs=true
 case neg=>
  have lJ : gY bs=false:= (Bool.not_eq_true _).mp k3
  clear k3
  go_enter Try.func61,Try.ntmps61
  go_wp2_with (go_at_call 85;refine(kQ _ _ bs (dh hr1 dn)).mono ?_;rintro e w1 ⟨rfl,rfl⟩)
  go_ret
  exact⟨aS (by rw [HE.out,lJ];simp),by repeat (first|exact Below.refl _ _|refine Below.alloc ?_ (by simp<;>omega) _|refine bE ?_ (by simp<;>omega) _ _|refine Below.drew ?_)⟩
 by_cases k2 : (cs.length == 6) =true
 case neg=>
  have k2' : (cs.length == 6) =false:= (Bool.not_eq_true _).mp k2
  clear k2
  have BS : (((cs.length : Nat) : Int) == 6) =false:=by simp at k2'⊢;omega
  have HF:=Hid.aD k2'
  clear k2'
  go_enter Try.func61,Try.ntmps61
  go_wp2_with (go_at_call 85;refine(kQ _ _ bs (dh hr1 dn)).mono ?_;rintro e w1 ⟨rfl,rfl⟩)
  go_ret
  exact⟨aS (by rw [HE.out,HF.out];simp),by repeat (first|exact Below.refl _ _|refine Below.alloc ?_ (by simp<;>omega) _|refine bE ?_ (by simp<;>omega) _ _|refine Below.drew ?_)⟩
 have BS : (((cs.length : Nat) : Int) == 6) =true:=by simp at k2⊢;omega
 have Bd:=Hid.aD k2
 clear k2
 have HA:=Hid.aD (nU (aW (-1) 2) cs)
 go_enter Try.func61,Try.ntmps61
 go_wp2_with (go_at_call 85;refine(kQ _ _ bs (dh hr1 dn)).mono ?_;rintro e w1 ⟨rfl,rfl⟩)
 refine(jY _ _ cs (dh hr2 dn) 87 #[] (fun x=> !aW (-1) 2 x) (fun _ _=>by kernel_rfl) (fun x _=>wE x _)).mono ?_
 rintro e w2 ⟨rfl,rfl⟩
 go_wp2
 go_ret
 exact⟨aS (by rw [HE.out,BR.out,Bd.out,k3,HA.out];rfl),by repeat (first|exact Below.refl _ _|refine Below.alloc ?_ (by simp<;>omega) _|refine bE ?_ (by simp<;>omega) _ _|refine Below.drew ?_)⟩
set_option maxRecDepth 100000 in
set_option maxHeartbeats 1000000 in
theorem qz (w : World)(H : dA)(x : Heap)(h : fZ w w.heap.size H x) :
  Calls Try.prog 55 #[.agg #[.slice H.Y.a H.Y.l H.Y.c, .slice H.Z.a H.Z.l H.Z.c]] w fun e w'=>e= .returned (.bool (d_ x)) ∧Below w.heap.size w w':=by
 obtain⟨⟨A1,n1,c1⟩, ⟨A2,n2,c2⟩⟩ :=H
 obtain⟨bs,cs⟩ :=x
 have hr1 : dz FI w w.heap.size (.slice A1 n1 c1) bs:=h.Y
 have hr2 : dz FI w w.heap.size (.slice A2 n2 c2) cs:=h.Z
 obtain⟨_,_,hv,q1,q2,qx⟩ :=id hr1
 simp only [Value.slice.injEq] at hv
 obtain⟨rfl,rfl,rfl⟩ :=hv
 have hlt1 : bs.length≤9223372036854775807:=by unfold maxLen at q2;omega
 clear q1 q2 qx
 obtain⟨_,_,hv,q1,q2,qx⟩ :=id hr2
 simp only [Value.slice.injEq] at hv
 obtain⟨rfl,rfl,rfl⟩ :=hv
 have hlt2 : cs.length≤9223372036854775807:=by unfold maxLen at q2;omega
 clear q1 q2 qx h
 have HE:=Hid.aD (show d_ ⟨bs,cs⟩ = ((bs.length == 384) && (cs.length == 6) &&gY bs&&cs.all (aW (-1) 2)) from rfl)
 show Calls Try.prog 55 #[.agg #[.slice A1 bs.length c1, .slice A2 cs.length c2]] _ _
 by_cases k1 : (bs.length == 384) =true
 case neg=>
  have k1' : (bs.length == 384) =false:= (Bool.not_eq_true _).mp k1
  clear k1
  have BQ : (((bs.length : Nat) : Int) != 384) =true:=by simp at k1'⊢;omega
  have HF:=Hid.aD k1'
  clear k1'
  go_enter Try.func55,Try.ntmps55
  go_wp2_with (go_at_call 78;refine(lH _ _ bs (dh hr1 dn)).mono ?_;rintro e w1 ⟨rfl,rfl⟩)
  go_ret
  exact⟨aS (by rw [HE.out,HF.out];simp),by repeat (first|exact Below.refl _ _|refine Below.alloc ?_ (by simp<;>omega) _|refine bE ?_ (by simp<;>omega) _ _|refine Below.drew ?_)⟩
 have BQ : (((bs.length : Nat) : Int) != 384) =false:=by simp at k1⊢;omega
 have BR:=Hid.aD k1
 clear k1
 by_cases k2 : (cs.length == 6) =true
 case neg=>
  have k2' : (cs.length == 6) =false:= (Bool.not_eq_true _).mp k2
  clear k2
  have BS : (((cs.length : Nat) : Int) != 6) =true:=by simp at k2'⊢;omega
  have HF:=Hid.aD k2'
  clear k2'
  go_enter Try.func55,Try.ntmps55
  go_wp2_with (go_at_call 78;refine(lH _ _ bs (dh hr1 dn)).mono ?_;rintro e w1 ⟨rfl,rfl⟩)
  go_ret
  exact⟨aS (by rw [HE.out,HF.out];simp),by repeat (first|exact Below.refl _ _|refine Below.alloc ?_ (by simp<;>omega) _|refine bE ?_ (by simp<;>omega) _ _|refine Below.drew ?_)⟩
 have BS : (((cs.length : Nat) : Int) != 6) =false:=by simp at k2⊢;omega
 have Bd:=Hid.aD k2
 clear k2
 by_cases k3 : gY bs=true
 case neg=>
  have lJ : gY bs=false:= (Bool.not_eq_true _).mp k3
  clear k3
  go_enter Try.func55,Try.ntmps55
  go_wp2_with (go_at_call 78;refine(lH _ _ bs (dh hr1 dn)).mono ?_;rintro e w1 ⟨rfl,rfl⟩)
  go_ret
  exact⟨aS (by rw [HE.out,lJ];simp),by repeat (first|exact Below.refl _ _|refine Below.alloc ?_ (by simp<;>omega) _|refine bE ?_ (by simp<;>omega) _ _|refine Below.drew ?_)⟩
 have nJ : cs.length=6:=by simpa using Bd.out
 have HB0 : Below w.heap.size w (w.alloc (.cells #[.slice A1 bs.length c1, .slice A2 cs.length c2] 26)) :=dn
 have L6:=Hid.aD nJ
 clear nJ
 go_enter Try.func55,Try.ntmps55
 go_wp2_with (go_at_call 78;refine(lH _ _ bs (dh hr1 dn)).mono ?_;rintro e w1 ⟨rfl,rfl⟩)
 have q1 : (w.alloc (.cells #[.slice A1 bs.length c1, .slice A2 cs.length c2] 26)).cell? ⟨w.heap.size,1,none⟩ =some (.slice A2 cs.length c2) :=by simp [go_sem]
 generalize (w.alloc (.cells #[.slice A1 bs.length c1, .slice A2 cs.length c2] 26)) =w0 at HB0 q1
 go_loop [3] (fun i=> ∃k : Nat,k≤6∧i= .int .i64 k∧Hid ((cs.take k).all (aW (-1) 2) =true)) (fun i=>6 - (intOf i).toNat)
 case atStart=>exact⟨0,Nat.zero_le _,rfl,rfl⟩
 case round=>
  obtain⟨i,hi,rfl,HT⟩ :=hrel
  by_cases nJ : i<6
  ·have hlt : i<cs.length:=by rw [L6.out];exact nJ
   obtain⟨g,off,cap',he,hg,_,_,hc⟩ := (hr2.below HB0).at_ (List.getElem?_eq_getElem hlt)
   injection he with he1 he2 gq
   clear he2
   subst he1 gq
   have p0 : w0.cell? ⟨g,off+i,none⟩ =some (.int .i64 cs[i]) :=by simpa [FI] using hc 0 _ rfl
   clear hc hr1 hr2
   by_cases c1 : aW (-1) 2 cs[i]=true
   ·have HN:=Hid.aD (show (cs.take (i+1)).all (aW (-1) 2) =true by rw [List.take_succ_eq_append_getElem hlt,List.all_append,HT.out];simp [c1])
    go_wp2_with (go_at_call 26;refine(g_ _ _ _ _).mono ?_;rintro e w1 ⟨rfl,rfl⟩)
    go_round
    case rel=>exact⟨i+1,by omega,by go_num,HN⟩
    case measure=>simp [intOf];omega
   ·have c1' : aW (-1) 2 cs[i]=false:= (Bool.not_eq_true _).mp c1
    have HN:=Hid.aD (show cs.all (aW (-1) 2) =false from List.all_eq_false.2 ⟨cs[i],List.getElem_mem hlt,by rw [c1'];decide⟩)
    clear c1
    go_wp2_with (go_at_call 26;refine(g_ _ _ _ _).mono ?_;rintro e w1 ⟨rfl,rfl⟩)
    go_ret
    exact⟨aS (by rw [HE.out,HN.out];simp),HB0⟩
  ·obtain rfl : i=6:=by omega
   have HN:=Hid.aD (show cs.all (aW (-1) 2) =true by have a:=HT.out;rwa [←L6.out,List.take_length] at a)
   go_wp2
   go_ret
   exact⟨aS (by rw [HE.out,HN.out,BR.out,Bd.out,k3];rfl),HB0⟩
end Go.Proofs.Ytkmggglljkmjoaa
namespace Go.Proofs.Ytkmggglljkmjoaa
open Go.RowKit
theorem wF {h : Heap}(sh : Shape h){s : Int}(h1 : aW 0 23 s=true) : h.Z[(s / 4).toNat]? =some (iL h s) :=by
 have a:=bD.1 h1
 have b:=sh.cl
 have hlt : (s / 4).toNat<h.Z.length:=by omega
 unfold iL
 rw [getD_at hlt,List.getElem?_eq_getElem hlt]
theorem uL {h : Heap}(sh : Shape h)(s : Int) : -1≤iL h s∧iL h s≤2:=sh.cs _
theorem jH (h : Heap)(s : Int) : (ak h s= -1∧fq s (iL h s) = -1) ∨ (ak h s=iL h s∧8≤fq s (iL h s) ∧fq s (iL h s) +4+iQ (iL h s) ≤384∧aW 0 23 s=true∧aW 0 2 (iL h s) =true) :=by
 rcases wu s (iL h s) with k| ⟨k1,k2⟩
 ·left
  exact⟨if_pos (by omega),k⟩
 ·right
  have:=qo.1 (show 0≤fq s (iL h s) by omega)
  exact⟨if_neg (by omega),k1,k2,this.1,this.2.1⟩
theorem qA {h : Heap}{s : Int}(h1 : aW 0 23 s=false) : ak h s= -1:=if_pos (by rw [qj h1];decide)
set_option maxRecDepth 100000 in
set_option maxHeartbeats 1000000 in
theorem lK (w : World)(H : dA)(x : Heap)(s : Int)(h : fZ w w.heap.size H x)(hs : d_ x=true) :
  Calls Try.prog 44 #[.agg #[.slice H.Y.a H.Y.l H.Y.c, .slice H.Z.a H.Z.l H.Z.c], .int .i64 s] w fun e w'=>e= .returned (.int .i64 (ak x s)) ∧Below w.heap.size w w':=by
 obtain⟨⟨A1,n1,c1⟩, ⟨A2,n2,c2⟩⟩ :=H
 obtain⟨bs,cs⟩ :=x
 have hr1 : dz FI w w.heap.size (.slice A1 n1 c1) bs:=h.Y
 have hr2 : dz FI w w.heap.size (.slice A2 n2 c2) cs:=h.Z
 obtain⟨_,_,hv,q1,q2,qx⟩ :=id hr1
 simp only [Value.slice.injEq] at hv
 obtain⟨rfl,rfl,rfl⟩ :=hv
 have hlt1 : bs.length≤9223372036854775807:=by unfold maxLen at q2;omega
 clear q1 q2 qx
 obtain⟨_,_,hv,q1,q2,qx⟩ :=id hr2
 simp only [Value.slice.injEq] at hv
 obtain⟨rfl,rfl,rfl⟩ :=hv
 have hlt2 : cs.length≤9223372036854775807:=by unfold maxLen at q2;omega
 clear q1 q2 qx h
 have sh:=gQ hs
 have nJ:=Hid.aD sh.cl
 have hcb:=uL sh s
 clear hs
 show Calls Try.prog 44 #[.agg #[.slice A1 bs.length c1, .slice A2 cs.length c2], .int .i64 s] _ _
 by_cases k1 : aW 0 23 s=true
 case neg=>
  have k1' : aW 0 23 s=false:= (Bool.not_eq_true _).mp k1
  have HE:=Hid.aD (qA (h:= ⟨bs,cs⟩) k1')
  clear k1 sh hcb
  go_enter Try.func44,Try.ntmps44
  go_wp2_with (first| (go_at_call 64;refine(iV _ _).mono ?_;rintro e w1 ⟨rfl,rfl⟩) | (go_at_call 69;refine(ku _ _ _).mono ?_;rintro e w1 ⟨rfl,rfl⟩))
  go_ret
  exact⟨bU HE.out.symm,by repeat (first|exact Below.refl _ _|refine Below.alloc ?_ (by simp<;>omega) _|refine bE ?_ (by simp<;>omega) _ _|refine Below.drew ?_|refine below_drewN ?_ _)⟩
 obtain⟨b1,b2⟩ :=bD.1 k1
 have d1 : 0≤s / 4:=by omega
 have d2 : s / 4< (cs.length : Int) :=by rw [nJ.out];omega
 obtain⟨g2,off2,cap2,he,hg2,_,_,hc2⟩ :=hr2.at_ (wF sh k1)
 injection he with he1 he2 gq
 clear he2
 subst he1 gq
 have p0 : w.cell? ⟨g2,off2+ (s / 4).toNat,none⟩ =some (.int .i64 (iL ⟨bs,cs⟩ s)) :=by simpa [FI] using hc2 0 _ rfl
 clear hc2
 have KC:=Hid.aD (jH ⟨bs,cs⟩ s)
 generalize iL ⟨bs,cs⟩ s=c at p0 hcb KC
 clear sh k1 hr2
 by_cases k2 : fq s c<0
 ·have HE:=Hid.aD (show ak ⟨bs,cs⟩ s= -1 by rcases KC.out with a|a<;>omega)
  have k1 : aW 0 23 s=true:=bD.2 ⟨b1,b2⟩
  go_enter Try.func44,Try.ntmps44
  go_wp2_with (first| (go_at_call 64;refine(iV _ _).mono ?_;rintro e w1 ⟨rfl,rfl⟩) | (go_at_call 69;refine(ku _ _ _).mono ?_;rintro e w1 ⟨rfl,rfl⟩))
  go_ret
  exact⟨bU HE.out.symm,by repeat (first|exact Below.refl _ _|refine Below.alloc ?_ (by simp<;>omega) _|refine bE ?_ (by simp<;>omega) _ _|refine Below.drew ?_|refine below_drewN ?_ _)⟩
 ·have HE:=Hid.aD (show ak ⟨bs,cs⟩ s=c by rcases KC.out with a|a<;>omega)
  have k1 : aW 0 23 s=true:=bD.2 ⟨b1,b2⟩
  go_enter Try.func44,Try.ntmps44
  go_wp2_with (first| (go_at_call 64;refine(iV _ _).mono ?_;rintro e w1 ⟨rfl,rfl⟩) | (go_at_call 69;refine(ku _ _ _).mono ?_;rintro e w1 ⟨rfl,rfl⟩))
  go_ret
  exact⟨bU HE.out.symm,by repeat (first|exact Below.refl _ _|refine Below.alloc ?_ (by simp<;>omega) _|refine bE ?_ (by simp<;>omega) _ _|refine Below.drew ?_|refine below_drewN ?_ _)⟩
set_option maxRecDepth 100000 in
set_option maxHeartbeats 1000000 in
theorem lM (w : World)(H : dA)(x : Heap)(s : Int)(h : fZ w w.heap.size H x)(hs : d_ x=true) :
  Calls Try.prog 59 #[.agg #[.slice H.Y.a H.Y.l H.Y.c, .slice H.Z.a H.Z.l H.Z.c], .int .i64 s] w fun e w'=>e= .returned (.int .i64 (ak x s)) ∧Below w.heap.size w w':=by
 obtain⟨⟨A1,n1,c1⟩, ⟨A2,n2,c2⟩⟩ :=H
 obtain⟨bs,cs⟩ :=x
 have hr1 : dz FI w w.heap.size (.slice A1 n1 c1) bs:=h.Y
 have hr2 : dz FI w w.heap.size (.slice A2 n2 c2) cs:=h.Z
 obtain⟨_,_,hv,q1,q2,qx⟩ :=id hr1
 simp only [Value.slice.injEq] at hv
 obtain⟨rfl,rfl,rfl⟩ :=hv
 have hlt1 : bs.length≤9223372036854775807:=by unfold maxLen at q2;omega
 clear q1 q2 qx
 obtain⟨_,_,hv,q1,q2,qx⟩ :=id hr2
 simp only [Value.slice.injEq] at hv
 obtain⟨rfl,rfl,rfl⟩ :=hv
 have hlt2 : cs.length≤9223372036854775807:=by unfold maxLen at q2;omega
 clear q1 q2 qx h
 have sh:=gQ hs
 have nJ:=Hid.aD sh.cl
 have hcb:=uL sh s
 clear hs
 show Calls Try.prog 59 #[.agg #[.slice A1 bs.length c1, .slice A2 cs.length c2], .int .i64 s] _ _
 by_cases k1 : aW 0 23 s=true
 case neg=>
  have k1' : aW 0 23 s=false:= (Bool.not_eq_true _).mp k1
  have HE:=Hid.aD (qA (h:= ⟨bs,cs⟩) k1')
  clear k1 sh hcb
  have kp : oh s= -1:=if_neg (by rw [k1'];decide)
  go_enter Try.func59,Try.ntmps59
  go_wp2_with (first| (go_at_call 81;refine(l9 _ _).mono ?_;rw [kp];rintro e w1 ⟨rfl,rfl⟩))
  go_quiet (fail)
  all_goals go_wp2
  all_goals go_ret
  all_goals exact⟨bU HE.out.symm,by repeat (first|exact Below.refl _ _|refine Below.alloc ?_ (by simp<;>omega) _|refine bE ?_ (by simp<;>omega) _ _|refine Below.drew ?_|refine below_drewN ?_ _)⟩
 obtain⟨b1,b2⟩ :=bD.1 k1
 have d1 : 0≤s / 4:=by omega
 have d2 : s / 4< (cs.length : Int) :=by rw [nJ.out];omega
 obtain⟨g2,off2,cap2,he,hg2,_,_,hc2⟩ :=hr2.at_ (wF sh k1)
 injection he with he1 he2 gq
 clear he2
 subst he1 gq
 have p0 : w.cell? ⟨g2,off2+ (s / 4).toNat,none⟩ =some (.int .i64 (iL ⟨bs,cs⟩ s)) :=by simpa [FI] using hc2 0 _ rfl
 clear hc2
 have KC:=Hid.aD (jH ⟨bs,cs⟩ s)
 have kp : oh s=s / 4:=if_pos k1
 have ki : oI s=s%4:=if_pos k1
 have HG:=Hid.aD (fun c (h1 : aW 0 2 c=true) (h2 : s%4<bq c) => (show 0≤fq s c from qo.2 ⟨k1,h1,h2⟩))
 have HG2:=Hid.aD (fun c (h2 : ¬ s%4<bq c) =>qm (s:=s) (c:=c) h2)
 have Dq:=Hid.aD (fun c (h2 : c<0) =>ql (s:=s) (c:=c) (wm (lo:=0) (hi:=2) (by omega)))
 generalize iL ⟨bs,cs⟩ s=c at p0 hcb KC
 clear sh k1 hr2
 obtain⟨p,hp⟩ :=Int.eq_ofNat_of_zero_le d1
 rw [hp] at kp p0 d2
 simp only [Int.toNat_natCast,Int.ofNat_lt] at p0 d2
 clear hp d1
 have hd0 : decide ((p : Int) <0) =false:=by simp
 by_cases k2 : c<0
 ·have HE:=Hid.aD (show ak ⟨bs,cs⟩ s= -1 by rcases KC.out with a|a;exact a.1;have:=Dq.out c k2;omega)
  obtain rfl : c= -1:=by omega
  clear hcb k2 HG HG2 Dq KC
  go_enter Try.func59,Try.ntmps59
  go_wp2_with (first| (go_at_call 81;refine(l9 _ _).mono ?_;rw [kp];rintro e w1 ⟨rfl,rfl⟩))
  go_quiet (fail)
  all_goals go_wp2
  all_goals go_ret
  all_goals exact⟨bU HE.out.symm,by repeat (first|exact Below.refl _ _|refine Below.alloc ?_ (by simp<;>omega) _|refine bE ?_ (by simp<;>omega) _ _|refine Below.drew ?_|refine below_drewN ?_ _)⟩
 have k2' : 0≤c:=by omega
 have hq1 : ∀W : World,Calls Try.prog 82 #[.int .i64 s] W fun e w'=>e= .returned (.int .i64 (s%4)) ∧w'=W:=fun W=> (wB s W).mono fun e w' ⟨a,b⟩ => ⟨by rw [a,ki],b.symm⟩
 have hq2 : ∀W : World,Calls Try.prog 79 #[.int .i64 c] W fun e w'=>e= .returned (.int .i64 (bq c)) ∧w'=W:=fun W=> (d9 c W).mono fun e w' ⟨a,b⟩ => ⟨a,b.symm⟩
 clear ki
 by_cases k3 : bq c≤s%4
 ·have HE:=Hid.aD (show ak ⟨bs,cs⟩ s= -1 by rcases KC.out with a|a;exact a.1;have:=HG2.out c (by omega);omega)
  go_enter Try.func59,Try.ntmps59
  go_wp2_with (first| (go_at_call 81;refine(l9 _ _).mono ?_;rw [kp];rintro e w1 ⟨rfl,rfl⟩))
  go_quiet ((first| (go_at_call 82;exact Calls.quiet_of_same (hq1 _)) | (go_at_call 79;exact Calls.quiet_of_same (hq2 _))))
  all_goals go_wp2
  all_goals go_ret
  all_goals exact⟨bU HE.out.symm,by repeat (first|exact Below.refl _ _|refine Below.alloc ?_ (by simp<;>omega) _|refine bE ?_ (by simp<;>omega) _ _|refine Below.drew ?_|refine below_drewN ?_ _)⟩
 ·have HE:=Hid.aD (show ak ⟨bs,cs⟩ s=c by rcases KC.out with a|a;have:=HG.out c (bD.2 ⟨k2',hcb.2⟩) (by omega);omega;exact a.1)
  go_enter Try.func59,Try.ntmps59
  go_wp2_with (first| (go_at_call 81;refine(l9 _ _).mono ?_;rw [kp];rintro e w1 ⟨rfl,rfl⟩))
  go_quiet ((first| (go_at_call 82;exact Calls.quiet_of_same (hq1 _)) | (go_at_call 79;exact Calls.quiet_of_same (hq2 _))))
  all_goals go_wp2
  all_goals go_ret
  all_goals exact⟨bU HE.out.symm,by repeat (first|exact Below.refl _ _|refine Below.alloc ?_ (by simp<;>omega) _|refine bE ?_ (by simp<;>omega) _ _|refine Below.drew ?_|refine below_drewN ?_ _)⟩
end Go.Proofs.Ytkmggglljkmjoaa
