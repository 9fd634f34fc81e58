/-
  Several texts in one: lemmas and contracts that the claim rests on.
-/
import Derived.Test.YtkmggglljkmjoaaGreatUTC1
import Derived.Deep.QuietTactic
import Derived.BigQuiet
import Derived.Deep.LoopGhost
import Derived.Deep.RegionHeld3
import Derived.Test.YtkmggglljkmjoaaGreatUTC2
import Derived.WalkSpells
import Derived.Laws.Cover3
import Derived.Test.YtkmggglljkmjoaaGreatUTC13
import Derived.IntWalk
import Derived.Deep.RegionLaw
import Derived.Deep.CutRange
import Derived.Test.YtkmggglljkmjoaaGreatUTC9
import Derived.Test.YtkmggglljkmjoaaGreatUTC11
namespace Go.Proofs.YtkmggglljkmjoaaGreat
open Go.RowKit
theorem bY {g n c b : Nat} : b∈cu (.slice (some ⟨g,0,none⟩) n c) ↔b=g:=by simp [cu,Value.ownBlock,eq_comm]
theorem CJ {l : List Int}{x : Int}{p : Nat}(h : idxOf (fun y=>y == x) l= (p : Int)) : p<l.length:=by
 unfold idxOf at h
 cases hx : l.findIdx? (fun y=>y == x) with
 |none=>rw [hx] at h;simp at h
 |some i=>
  rw [hx] at h
  simp at h
  obtain rfl : i=p:=by omega
  exact(List.findIdx?_eq_some_iff_getElem.1 hx).1
set_option maxHeartbeats 400000 in
theorem Gw (p i : Nat)(hp : p<6)(hi : i<4)(w : World) : Calls Tryz.prog 208 #[.int .i64 p, .int .i64 i] w fun e w'=>e= .returned (.int .i64 ((p * 4+i : Nat) : Int)) ∧w=w':=by
 have k1 : bO 0 5 (p : Int) =true:=bJ.2 ⟨by omega,by omega⟩
 have k2 : bO 0 3 (i : Int) =true:=bJ.2 ⟨by omega,by omega⟩
 go_enter Tryz.func208,Tryz.ntmps208
 go_wp2_with (go_at_call 154;refine(kC _ _ _ _).mono ?_; (first|rw [k1]|rw [k2]);rintro e w1 ⟨rfl,rfl⟩)
 go_ret
 exact⟨dN (by omega),rfl⟩
theorem uz {c : Nat}(_hc : c<3) : ∃n : Nat,cO (c : Int) = (n : Int) ∧n≤4∧ (cO (c : Int)).toNat=n:=by
 have:=qG (c : Int)
 exact⟨(cO (c : Int)).toNat,by omega,by omega,rfl⟩
set_option maxRecDepth 100000 in
set_option maxHeartbeats 8000000 in
theorem Jf (w : World)(H : dU)(x : Heap)(p c : Nat)(h : gU w w.heap.size H x)(hs : iE x≤536870912)(hok : jg x=true)(hc : c<3)(hp : idxOf (fun y=>y == -1) x.Z= (p : Int)) :
  Calls Tryz.prog 162 #[.agg #[.slice H.Y.a H.Y.l H.Y.c, .slice H.Z.a H.Z.l H.Z.c], .int .i64 c] w fun e w'=> ∃ (H' : dU) (v : SV),e= .returned (.tuple #[.agg #[.slice H'.Y.a H'.Y.l H'.Y.c, .slice H'.Z.a H'.Z.l H'.Z.c], .slice v.a v.l v.c]) ∧fA w' H' (fI x p c) ∧bA FI 3 w' v.val (d_ p (cO (c : Int)).toNat) ∧ (∀g∈H'.foot,w.heap.size≤g) ∧ (∀g∈cu v.val,w.heap.size≤g∧g∉H'.foot) ∧Below w.heap.size w w':=by
 have sh:=iA (rZ hok)
 have hpl:=CJ hp
 have zQ:=Hid.aT sh.bl
 have LK:=Hid.aT sh.cl
 have xG : p<6:=by rw [sh.cl] at hpl;exact hpl
 have hcl : bO 0 2 (c : Int) =true:=bJ.2 ⟨by omega,by omega⟩
 obtain⟨n,hn,LM,hnn⟩ :=uz hc
 have KI:=Hid.aT (fun i (hi : i≤n) =>oh (b:=x.Y) (p:=p) (c:= (c : Int)) sh.bl xG hcl i (by omega))
 have KJ:=Hid.aT (fun i (hi : i<n) =>nQ hcl (i:=i) (by omega))
 have hix:=fun W hW=>wV W _ x.Z (-1) (show fE FI W W.heap.size (.slice H.Z.a H.Z.l H.Z.c) x.Z from hW)
 rw [hp] at hix
 have hho:=fun (W : World) (hW : Below w.heap.size w W) =>wU W H x (dW h hW)
 rw [hok] at hho
 have hpp:=fun W=>kT (c : Int) W
 rw [hn] at hpp
 have hsa:=fun i (hi : i<n) W=>Gw p i xG (by omega) W
 have hga : ∀i,i<n→ ∀W : World,Calls Tryz.prog 121 #[.int .i64 ((p * 4+i : Nat) : Int), .int .i64 c] W fun e w'=>e= .returned (.int .i64 ((p * 64+8+i * (eu c).toNat : Nat) : Int)) ∧W=w':=fun i hi W=>by
  have:=o9 (kK p i) (c : Int) W
  rw [xV xG hcl (by omega)] at this
  rw [show kK (p : Int) (i : Int) = ((p * 4+i : Nat) : Int) by unfold kK;rw [if_pos ⟨bJ.2 ⟨by omega,by omega⟩,bJ.2 ⟨by omega,by omega⟩⟩];omega] at this
  exact this
 have hfx : ∀W : World,Calls Tryz.prog 80 #[.int .i64 1, .int .i64 4] W fun e w'=>e= .returned (.string (strOfNums (fQ 4 1))) ∧Below W.heap.size W w':=fun W=>wJ 1 4 W (by decide) (by decide) (by decide) (by decide)
 have Je:=Hid.aT (yu 4 1)
 have G5 : Hid ((strOfNums (fQ 4 1)).size=4) :=sG
 have LP : Hid (fI x p c= ⟨jH x.Y p c n,x.Z.set p c⟩) :=by
  show _=_
  unfold fI
  rw [hnn]
 have QH : Hid (cO (c : Int) = (n : Int)) :=hn
 have KM:=Hid.aT (fun i=>show jH x.Y p c (i+1) =putAt (jH x.Y p c i) (p * 64+8+i * (eu c).toNat) (fQ 4 1) from rfl)
 have FD : Hid (putAt x.Y (p * 64) [171, (c : Int), (n : Int)]=jH x.Y p c 0) :=by
  show _=_
  unfold jH
  rw [hn]
 rw [hnn]
 clear sh hok hp hn hnn
 generalize strOfNums (fQ 4 1) =t at *
 obtain⟨w0,hW0⟩ : ∃x,x= ((w.alloc (.cells #[.slice H.Y.a H.Y.l H.Y.c, .slice H.Z.a H.Z.l H.Z.c] 26)).alloc (.cells #[.slice none 0 0, .slice none 0 0] 26)) := ⟨_,rfl⟩
 have au : aB w0 (w.heap.size) [.slice H.Y.a H.Y.l H.Y.c, .slice H.Z.a H.Z.l H.Z.c]:=by
  rw [hW0]
  exact aB.alloc aB.nw _
 have ah : aB w0 (w.heap.size+1) [.slice none 0 0, .slice none 0 0]:=by
  rw [hW0]
  exact aB.nw
 have hB : Below w.heap.size w w0:=by
  rw [hW0]
  exact dJ
 go_enter Tryz.func162,Tryz.ntmps162
 go_wp2_with fail
 rw [←hW0]
 clear hW0
 have g_:=au.lt
 have iB:=ah.lt
 obtain⟨aD,aF,aL,aQ⟩ :=au.f2
 obtain⟨aj,ak,ay,aI⟩ :=ah.f2
 refine(pJ _ H x (dW h hB) (by omega)).mono ?_
 rintro e w1 ⟨aA,rfl,aP,l_c,hb⟩
 have u_c:=aP.lt
 replace au:=au.below hb
 replace ah:=ah.below hb
 replace hB:=hB.trans (hb.mono hB.size)
 have sz:=hb.size
 clear hb
 clear aD aF aL aQ
 obtain⟨aD,aF,aL,aQ⟩ :=au.f2
 clear aj ak ay aI
 obtain⟨aj,ak,ay,aI⟩ :=ah.f2
 obtain⟨⟨A1,n1,pB⟩, ⟨A2,n2,pC⟩⟩ :=aA
 obtain⟨gB,c1,hv1,hg1⟩ :=bA.kN (v:= .slice A1 n1 pB) aP.Y (by rw [zQ.out];decide)
 obtain⟨gC,c2,hv2,hg2⟩ :=bA.kN (v:= .slice A2 n2 pC) aP.Z (by rw [LK.out];decide)
 injection hv1 with i1 i2 i3
 injection hv2 with j1 j2 j3
 subst i1 i2 i3 j1 j2 j3
 have FE : gB≠gC:=fun e=>aP.iV gB (bY.2 rfl) (bY.2 e)
 have lB:=l_c gB (dU.aX.2 (.inl (bY.2 rfl)))
 have lC:=l_c gC (dU.aX.2 (.inr (bY.2 rfl)))
 have oB : bA FI 3 w1 (.slice (some ⟨gB,0,none⟩) x.Y.length pB) x.Y:=aP.Y
 have oC : bA FI 3 w1 (.slice (some ⟨gC,0,none⟩) x.Z.length pC) x.Z:=aP.Z
 clear aP l_c u_c
 have oS : bA FI 3 (w1.alloc (.cells #[] 3)) (.slice (some ⟨w1.heap.size,0,none⟩) 0 0) []:=bA.lit FI [] #[] rfl (by simp [maxLen]) w1 3
 have aN : aB ((w1.alloc (.cells #[] 3)).alloc (.cells #[.slice (some ⟨gB,0,none⟩) x.Y.length pB, .slice (some ⟨gC,0,none⟩) x.Z.length pC] 26)) (w1.heap.size+1) [.slice (some ⟨gB,0,none⟩) x.Y.length pB, .slice (some ⟨gC,0,none⟩) x.Z.length pC]:=by
  have hb:=aB.new (w1.alloc (.cells #[] 3)) #[.slice (some ⟨gB,0,none⟩) x.Y.length pB, .slice (some ⟨gC,0,none⟩) x.Z.length pC] 26
  rw [World.size_alloc] at hb
  exact hb
 replace oS:=oS.aH (.cells #[.slice (some ⟨gB,0,none⟩) x.Y.length pB, .slice (some ⟨gC,0,none⟩) x.Z.length pC] 26)
 replace oB:= (oB.aH (.cells #[] 3)).aH (.cells #[.slice (some ⟨gB,0,none⟩) x.Y.length pB, .slice (some ⟨gC,0,none⟩) x.Z.length pC] 26)
 replace oC:= (oC.aH (.cells #[] 3)).aH (.cells #[.slice (some ⟨gB,0,none⟩) x.Y.length pB, .slice (some ⟨gC,0,none⟩) x.Z.length pC] 26)
 replace au:= (au.alloc (.cells #[] 3)).alloc (.cells #[.slice (some ⟨gB,0,none⟩) x.Y.length pB, .slice (some ⟨gC,0,none⟩) x.Z.length pC] 26)
 replace ah:= (ah.alloc (.cells #[] 3)).alloc (.cells #[.slice (some ⟨gB,0,none⟩) x.Y.length pB, .slice (some ⟨gC,0,none⟩) x.Z.length pC] 26)
 replace hB:= (hB.alloc hB.size (.cells #[] 3)).alloc (by simp;exact Nat.le_succ_of_le hB.size) (.cells #[.slice (some ⟨gB,0,none⟩) x.Y.length pB, .slice (some ⟨gC,0,none⟩) x.Z.length pC] 26)
 go_wp2_with fail
 clear aD aF aj ak aL ay aQ aI
 generalize hW2 : (w1.alloc (.cells #[] 3)).alloc (.cells #[.slice (some ⟨gB,0,none⟩) x.Y.length pB, .slice (some ⟨gC,0,none⟩) x.Z.length pC] 26) =w2 at oS oB oC au ah aN hB⊢
 clear hW2
 have aD:=au.cell 0 _ rfl
 have aF:=au.cell 1 _ rfl
 have aj:=ah.cell 0 _ rfl
 have ak:=ah.cell 1 _ rfl
 have aV:=aN.cell 0 _ rfl
 have aW:=aN.cell 1 _ rfl
 have aL:=au.dn
 have aQ:=au.lt
 have ay:=ah.dn
 have aI:=ah.lt
 have bq:=aN.dn
 have bN:=aN.lt
 refine(hix _ (eP h.Z hB)).mono ?_
 clear hix
 rintro e wv ⟨rfl,rfl⟩
 go_wp2_with fail
 refine(hho _ hB).mono ?_
 clear hho
 rintro e w3 ⟨rfl,hb⟩
 have CK:=hb.size
 have QI:=bN
 replace au:=au.below hb
 replace ah:=ah.below hb
 replace aN:=aN.below hb
 replace oS:=oS.step0 hb
 replace oB:=oB.step0 hb
 replace oC:=oC.step0 hb
 replace hB:=hB.trans (hb.mono hB.size)
 clear hb
 replace aD:=au.cell 0 _ rfl
 replace aF:=au.cell 1 _ rfl
 replace aj:=ah.cell 0 _ rfl
 replace ak:=ah.cell 1 _ rfl
 replace aV:=aN.cell 0 _ rfl
 replace aW:=aN.cell 1 _ rfl
 replace aL:=au.dn
 replace aQ:=au.lt
 replace ay:=ah.dn
 replace aI:=ah.lt
 replace bq:=aN.dn
 replace bN:=aN.lt
 have fC:=oC.eD p
 have cC:=oC.cell_ (List.getElem?_eq_getElem hpl) FI.pos
 simp only [FI,Nat.mul_one,Nat.add_zero] at cC
 have M9:=Hid.aT (fun (y : Int) =>oC.gD (y:=y) (u:= .int .i64 y) (List.getElem?_eq_getElem hpl) FI.pos rfl)
 have hpl' : (p : Int) < (x.Z.length : Int) :=by omega
 have n1 : gC≠w1.heap.size+1:=by omega
 have n2 : w1.heap.size+1≠gC:=by omega
 go_wp2_with (go_at_call 161;refine(rR _ _).mono ?_;rw [hcl];rintro e wv ⟨rfl,rfl⟩)
 replace au:=au.other (g':=gC) (i:=p) (by omega) (.int .i64 c)
 replace ah:=ah.other (g':=gC) (i:=p) (by omega) (.int .i64 c)
 replace aN:=aN.other (g':=gC) (i:=p) (by omega) (.int .i64 c)
 replace oS:=oS.keep (w':=w3.setCell ⟨gC,p,none⟩ (.int .i64 c)) (fun b hb=>jR w3 _ (by simp [Value.ownBlock] at hb;omega))
 replace oB:=oB.keep (w':=w3.setCell ⟨gC,p,none⟩ (.int .i64 c)) (fun b hb=>jR w3 _ (by simp [Value.ownBlock] at hb;omega))
 replace oC : bA FI 3 (w3.setCell ⟨gC,p,none⟩ (.int .i64 c)) (.slice (some ⟨gC,0,none⟩) x.Z.length pC) (x.Z.set p c) :=by
  have:=M9.out (c : Int)
  rw [show p * FI.n+0=p by simp [FI]] at this
  exact this
 replace hB:=hB.setCell (p:= ⟨gC,p,none⟩) (by simp;omega) (.int .i64 c)
 have CO : w3.heap.size≤ (w3.setCell ⟨gC,p,none⟩ (.int .i64 c)).heap.size:=by simp
 clear M9 fC cC
 generalize OB : w3.setCell ⟨gC,p,none⟩ (.int .i64 c) =w4 at oS oB oC au ah aN hB CO⊢
 clear OB
 replace aD:=au.cell 0 _ rfl
 replace aF:=au.cell 1 _ rfl
 replace aj:=ah.cell 0 _ rfl
 replace ak:=ah.cell 1 _ rfl
 replace aV:=aN.cell 0 _ rfl
 replace aW:=aN.cell 1 _ rfl
 replace aL:=au.dn
 replace aQ:=au.lt
 replace ay:=ah.dn
 replace aI:=ah.lt
 replace bq:=aN.dn
 replace bN:=aN.lt
 have hbl:=zQ.out
 have hpb : x.Y.length≤pB:=by
  obtain⟨_,_,hv,q1,_⟩ :=oB.rd'
  injection hv with _ _ e3
  rw [e3]
  exact q1
 have s1 : p * 64≤x.Y.length:=by omega
 have s2 : p * 64<pB:=by omega
 have s3 : 3≤x.Y.length - p * 64:=by omega
 have s4 : p * 64+3≤x.Y.length:=by omega
 clear hbl
 have M_ : bA FI 3 ((w4.alloc (.cells #[.int .i64 171, .int .i64 c, .int .i64 n] 3)).drew) (.slice (some ⟨gB,0,none⟩) x.Y.length pB) x.Y:= (oB.aH (.cells #[.int .i64 171, .int .i64 c, .int .i64 n] 3)).keep (fun _ _=>rfl)
 have hsrc : ∀j v, (([171, (c : Int), (n : Int)] : List Int).map (Value.int .i64))[j]? =some v→ ((w4.alloc (.cells #[.int .i64 171, .int .i64 c, .int .i64 n] 3)).drew).cell? ((⟨w4.heap.size,0,none⟩ : Addr).add j) =some v:=by
  intro j v hj
  have e : (⟨w4.heap.size,0,none⟩ : Addr).add j= ⟨w4.heap.size,j,none⟩ :=by simp [Addr.add]<;>omega
  rw [e]
  rcases j with _|_|_|j<;>simp at hj<;>subst hj<;>simp [go_sem]
 have HS:=Hid.aT hsrc
 obtain⟨q,hq⟩ : ∃q : Nat,q=p * 64:= ⟨_,rfl⟩
 rw [←hq] at s1 s2 s3 s4 FD
 have HQ:=Hid.aT hq
 have hwr : IntKind.i64.wrap ((p : Int) * 64) = (q : Int) :=by rw [IntWalk.i64_in _ ⟨by omega,by omega⟩];omega
 have s5 : (0 : Int) ≤ (q : Int) :=by omega
 have s7 : ¬ pB=q:=by omega
 have s6 : (q : Int) ≤ (x.Y.length : Int) :=by omega
 clear hq
 clear hsrc
 go_upto_region 6 with (fail)
 go_cut [45] from 36 to 45 (fun r wx=>r= .int .i64 3∧bA FI 3 wx (.slice (some ⟨gB,0,none⟩) x.Y.length pB) (jH x.Y p c 0) ∧bA FI 3 wx (.slice (some ⟨gC,0,none⟩) x.Z.length pC) (x.Z.set p c) ∧bA FI 3 wx (.slice (some ⟨w1.heap.size,0,none⟩) 0 0) []∧aB wx w.heap.size [.slice H.Y.a H.Y.l H.Y.c, .slice H.Z.a H.Z.l H.Z.c]∧aB wx (w.heap.size+1) [.slice none 0 0, .slice none 0 0]∧aB wx (w1.heap.size+1) [.slice (some ⟨gB,0,none⟩) x.Y.length pB, .slice (some ⟨gC,0,none⟩) x.Z.length pC]∧Below w.heap.size w wx∧w4.heap.size≤wx.heap.size)
 case first=>
  go_region_law (first| (refine EJ rfl (.tmp 40) (.tmp 44) 24 24 rfl 3 Tryz.underlying24 (by kernel_rfl) (g:=gB) (off:=q) (ad:= ⟨w4.heap.size,0,none⟩) (m:= [171, (c : Int), (n : Int)]) (b:=x.Y) (by simp [Act.eval];rfl) (by simp [Act.eval];rfl) M_ HS.out s3 s4 ?_;intro w5 Na hx) | (go_simp;go_at_call 179;refine(hpp _).mono ?_;rintro e wv ⟨rfl,rfl⟩))
  all_goals
   rw [FD.out] at Na
   have ND:= (au.alloc (.cells #[.int .i64 171, .int .i64 c, .int .i64 n] 3)).drew.aM hx (by simp<;>omega)
   have NG:= (ah.alloc (.cells #[.int .i64 171, .int .i64 c, .int .i64 n] 3)).drew.aM hx (by simp<;>omega)
   have NH:= (aN.alloc (.cells #[.int .i64 171, .int .i64 c, .int .i64 n] 3)).drew.aM hx (by simp<;>omega)
   have OC:= ((oS.aH (.cells #[.int .i64 171, .int .i64 c, .int .i64 n] 3)).keep (w':= (w4.alloc (.cells #[.int .i64 171, .int .i64 c, .int .i64 n] 3)).drew) (fun _ _=>rfl)).aM hx (fun b hb hm=>by simp only [List.mem_cons,List.not_mem_nil,or_false] at hm;have:=bY.1 hb;omega)
   have OD:= ((oC.aH (.cells #[.int .i64 171, .int .i64 c, .int .i64 n] 3)).keep (w':= (w4.alloc (.cells #[.int .i64 171, .int .i64 c, .int .i64 n] 3)).drew) (fun _ _=>rfl)).aM hx (fun b hb hm=>by simp only [List.mem_cons,List.not_mem_nil,or_false] at hm;have:=bY.1 hb;omega)
   have AX:= (hB.alloc hB.size (.cells #[.int .i64 171, .int .i64 c, .int .i64 n] 3)).drew.trans (hx.below (by simp;exact Nat.le_succ_of_le hB.size) (by simp;omega))
   have Nb:=hx.size
   go_wp2_with fail
   go_meet
   exact⟨rfl,Na,OD,OC,ND,NG,NH,AX,by simp at Nb;omega⟩
 case rest=>
  clear M_ HS HQ hwr s1 s2 s3 s4 s5 s6 s7 oB oC oS au ah aN hB aD aF aj ak aV aW aL ay bq aQ aI bN FD
  obtain⟨rfl,oB,oC,oS,au,ah,aN,hB,OE⟩ :=hcut
  have QJ:=Hid.aT (show w1.heap.size+1<w4.heap.size by omega)
  go_wp2_with (go_at_call 179;refine(hpp _).mono ?_;rintro e wv ⟨rfl,rfl⟩)
  go_loopw [7,48] (fun s i wr=> ∃k : Nat,k≤n∧i= .int .i64 k∧bA FI 3 wr (.slice (some ⟨gB,0,none⟩) x.Y.length pB) (jH x.Y p c k) ∧bA FI 3 wr (.slice (some ⟨gC,0,none⟩) x.Z.length pC) (x.Z.set p c) ∧bA FI 3 wr s (d_ p k) ∧ (∀b∈cu s,b=w1.heap.size∨w4.heap.size≤b) ∧aB wr w.heap.size [.slice H.Y.a H.Y.l H.Y.c, .slice H.Z.a H.Z.l H.Z.c]∧aB wr (w.heap.size+1) [.slice none 0 0, .slice none 0 0]∧aB wr (w1.heap.size+1) [.slice (some ⟨gB,0,none⟩) x.Y.length pB, .slice (some ⟨gC,0,none⟩) x.Z.length pC]∧Below w.heap.size w wr∧w4.heap.size≤wr.heap.size) (fun _ i _=>n - (intOf i).toNat)
  case atStart=>exact⟨0,Nat.zero_le _,rfl,oB,oC,oS,fun b hb=> .inl (bY.1 hb),au,ah,aN,hB,OE⟩
  case round=>
   obtain⟨k,hk,rfl,qQ,tq,rJ,fS,au,ah,aN,hB,QK⟩ :=hrel
   have hsl : (d_ p k).length=k:=pV p k
   have HSL:=Hid.aT hsl
   clear hsl
   have aD:=au.cell 0 _ rfl
   have aF:=au.cell 1 _ rfl
   have aj:=ah.cell 0 _ rfl
   have ak:=ah.cell 1 _ rfl
   have aV:=aN.cell 0 _ rfl
   have aW:=aN.cell 1 _ rfl
   have aL:=au.dn
   have aQ:=au.lt
   have ay:=ah.dn
   have aI:=ah.lt
   have bq:=aN.dn
   have bN:=aN.lt
   by_cases hlt : k<n
   ·have hrm:=KJ.out k hlt
    have hgl:=KI.out k hk
    have Ku : Hid (t.size≤1000) :=by
     show _≤_
     rw [G5.out]
     decide
    have HL2 : Hid (p * 64+8+k * (eu (c : Int)).toNat+t.size≤ (jH x.Y p c k).length) :=by
     show _≤_
     rw [G5.out,hgl]
     omega
    have hsk:=fun W=>hsa k hlt W
    have AY:=fun W=>hga k hlt W
    have Jg:=Hid.aT (KM.out k)
    have HST:=Hid.aT (wu p k)
    have OG : bA FI 3 _ (.slice (some ⟨gB,0,none⟩) x.Y.length pB) (jH x.Y p c k) :=qQ
    clear hrm hgl oB oC oS hsa hga
    obtain⟨P,hP⟩ : ∃P,P=p * 64+8+k * (eu (c : Int)).toNat:= ⟨_,rfl⟩
    rw [←hP] at AY Jg HL2
    clear hP OG
    obtain⟨sl,hsl⟩ : ∃q,q=p * 4+k:= ⟨_,rfl⟩
    rw [←hsl] at hsk AY HST
    clear hsl
    go_wp2_with (go_at_call 208;refine(hsk _).mono ?_;rintro e wv ⟨rfl,rfl⟩)
    clear hsk
    go_region_with (first| (go_at_call 121; (first| ((with_reducible refine(AY _).mono ?_);rintro e wq ⟨rfl,rfl⟩) | ((with_reducible refine(AY _).mono ?_);rintro e wq ⟨rfl,rfl⟩))) | (go_at_call 80; (first| ((with_reducible refine(hfx _).mono ?_);rintro e wq ⟨rfl,hb⟩;replace au:=au.below hb;replace ah:=ah.below hb;replace aN:=aN.below hb;replace qQ:=qQ.step0 hb;replace tq:=tq.step0 hb;replace rJ:=rJ.step0 hb;replace hB:=hB.trans (hb.mono hB.size);have sz:=hb.size;clear hb;clear aD aF aL aQ;obtain⟨aD,aF,aL,aQ⟩ :=au.f2;clear aj ak ay aI;obtain⟨aj,ak,ay,aI⟩ :=ah.f2;clear aV aW bq bN;obtain⟨aV,aW,bq,bN⟩ :=aN.f2) | ((with_reducible refine(hfx _).mono ?_);rintro e wq ⟨rfl,hb⟩;replace hb:=gq hb;replace au:=au.below hb;replace ah:=ah.below hb;replace aN:=aN.below hb;replace qQ:=qQ.step0 hb;replace tq:=tq.step0 hb;replace rJ:=rJ.step0 hb;replace hB:=hB.trans (hb.mono hB.size);have sz:=hb.size;clear hb;clear aD aF aL aQ;obtain⟨aD,aF,aL,aQ⟩ :=au.f2;clear aj ak ay aI;obtain⟨aj,ak,ay,aI⟩ :=ah.f2;clear aV aW bq bN;obtain⟨aV,aW,bq,bN⟩ :=aN.f2))) | (go_at_call 81; ((with_reducible refine(wY _ _ _ P t (show bA FI 3 _ (.slice (some ⟨gB,0,none⟩) x.Y.length pB) (jH x.Y p c k) from qQ) Ku.out HL2.out).mono ?_);rintro e wq ⟨rfl,hbN,hx⟩;replace hB:=hB.trans (hx.below hB.size (fun b hb=>by have:=bY.1 hb;omega));have QL:=hx.size;replace au:=au.aM hx (fun hm=>by have:=bY.1 hm;omega);replace ah:=ah.aM hx (fun hm=>by have:=bY.1 hm;omega);replace aN:=aN.aM hx (fun hm=>by have:=bY.1 hm;omega);replace tq:=tq.aM hx (fun b hb hm=>by have e1:=bY.1 hb;have e2:=bY.1 hm;omega);replace rJ:=rJ.aM hx (fun b hb hm=>by have e2:=bY.1 hm;rcases fS b hb with hh|hh<;>omega);replace qQ:=hbN;clear hx hbN;replace aD:=au.cell 0 _ rfl;replace aF:=au.cell 1 _ rfl;replace aj:=ah.cell 0 _ rfl;replace ak:=ah.cell 1 _ rfl;replace aV:=aN.cell 0 _ rfl;replace aW:=aN.cell 1 _ rfl;replace aL:=au.dn;replace aQ:=au.lt;replace ay:=ah.dn;replace aI:=ah.lt;replace bq:=aN.dn;replace bN:=aN.lt)))
    all_goals
     clear AY
     rw [Je.out, ←Jg.out] at qQ
     go_wp2_with (at_builtin;refine gu Tryz.stInt rfl _ _ rfl (v:=u7) (y:= .slice (some ⟨wq.heap.size,0,none⟩) 1 1) (l:=d_ p k) (m:= [(sl : Int)]) rfl rfl (rJ.aH _) (bA.lit FI [(sl : Int)] #[.int .i64 (sl : Int)] rfl (by simp [maxLen]) wq 3).rd' (by rw [HSL.out];simp;omega) ?_;intro v' w7 ho' hg' hat')
     have hx7:=aY.jP hg'
     have OH:=hx7.size
     have Jh:= (hB.alloc hB.size (.cells #[.int .i64 (sl : Int)] 3)).trans (hx7.below (by simp;exact Nat.le_succ_of_le hB.size) (fun b hb=>by rcases fS b hb with hh|hh<;>omega))
     go_roundw
     case rel=>
      refine⟨k+1,by omega,by go_num, (qQ.aH (.cells #[.int .i64 (sl : Int)] 3)).aM hx7 (fun b hb hm=>by have e1:=bY.1 hb;rcases fS b hm with hh|hh<;>omega), (tq.aH (.cells #[.int .i64 (sl : Int)] 3)).aM hx7 (fun b hb hm=>by have e1:=bY.1 hb;rcases fS b hm with hh|hh<;>omega),by rw [HST.out];exact ho',fun b hb=> ?_, (au.alloc (.cells #[.int .i64 (sl : Int)] 3)).aM hx7 (fun hm=>by rcases fS _ hm with hh|hh<;>omega), (ah.alloc (.cells #[.int .i64 (sl : Int)] 3)).aM hx7 (fun hm=>by rcases fS _ hm with hh|hh<;>omega), (aN.alloc (.cells #[.int .i64 (sl : Int)] 3)).aM hx7 (fun hm=>by rcases fS _ hm with hh|hh<;>omega),Jh,by simp at OH;omega⟩
      rcases iy hat' b hb with hh|hh
      ·exact fS b hh
      ·simp at hh
       omega
     case measure=>simp [intOf];omega
   ·obtain rfl : k=n:=by omega
    obtain⟨A,c',hv,_⟩ :=rJ.rd'
    subst hv
    go_wp2_with fail
    refine bodyPost_ret (v:= .tuple #[.agg #[.slice (some ⟨gB,0,none⟩) x.Y.length pB, .slice (some ⟨gC,0,none⟩) x.Z.length pC], .slice A (d_ p k).length c']) (by simp [results,Tryz.results162,go_sem,aj,ak]) rfl ⟨⟨⟨some ⟨gB,0,none⟩,x.Y.length,pB⟩, ⟨some ⟨gC,0,none⟩,x.Z.length,pC⟩⟩, ⟨A, (d_ p k).length,c'⟩,rfl,by rw [LP.out];exact⟨qQ.aM (F:= [w.heap.size+1]) bW (fun b hb hm=>by simp only [List.mem_cons,List.not_mem_nil,or_false] at hm;have:=bY.1 hb;omega),tq.aM (F:= [w.heap.size+1]) bW (fun b hb hm=>by simp only [List.mem_cons,List.not_mem_nil,or_false] at hm;have:=bY.1 hb;omega),fun b hb hm=>by have e1:=bY.1 hb;have e2:=bY.1 hm;omega⟩,rJ.aM (F:= [w.heap.size+1]) bW (fun b hb hm=>by simp only [List.mem_cons,List.not_mem_nil,or_false] at hm;rcases fS b hb with hh|hh<;>omega),fun b hb=> ?_,fun b hb=> ⟨by rcases fS b hb with hh|hh<;>omega,fun hm=> ?_⟩,Below.trans hB dQ⟩
    ·rcases dU.aX.1 hb with hh|hh<;> (have:=bY.1 hh;omega)
    ·rcases dU.aX.1 hm with hm|hm<;> (have e:=bY.1 hm;rcases fS b hb with hh|hh<;>omega)
end Go.Proofs.YtkmggglljkmjoaaGreat
namespace Go.Proofs.YtkmggglljkmjoaaGreat
open Go.RowKit
set_option maxRecDepth 100000 in
set_option maxHeartbeats 4000000 in
theorem JY (w : World)(H : dU)(x : Heap)(c : Nat)(h : gU w w.heap.size H x)(hs : iE x≤536870912)(hok : jg x=true)(hc : c<3)(hp : idxOf (fun y=>y == -1) x.Z= -1) :
  Calls Tryz.prog 162 #[.agg #[.slice H.Y.a H.Y.l H.Y.c, .slice H.Z.a H.Z.l H.Z.c], .int .i64 c] w fun e w'=> ∃ (H' : dU) (A : Option Addr) (cp : Nat),e= .returned (.tuple #[.agg #[.slice H'.Y.a H'.Y.l H'.Y.c, .slice H'.Z.a H'.Z.l H'.Z.c], .slice A 0 cp]) ∧fA w' H' x∧ (∀g∈H'.foot,w.heap.size≤g) ∧Below w.heap.size w w':=by
 have hcl : bO 0 2 (c : Int) =true:=bJ.2 ⟨by omega,by omega⟩
 have hix:=fun W hW=>wV W _ x.Z (-1) (show fE FI W W.heap.size (.slice H.Z.a H.Z.l H.Z.c) x.Z from hW)
 rw [hp] at hix
 have hho:=fun (W : World) (hW : Below w.heap.size w W) =>wU W H x (dW h hW)
 rw [hok] at hho
 clear hok hp
 obtain⟨w0,hW0⟩ : ∃x,x= ((w.alloc (.cells #[.slice H.Y.a H.Y.l H.Y.c, .slice H.Z.a H.Z.l H.Z.c] 26)).alloc (.cells #[.slice none 0 0, .slice none 0 0] 26)) := ⟨_,rfl⟩
 have au : aB w0 (w.heap.size) [.slice H.Y.a H.Y.l H.Y.c, .slice H.Z.a H.Z.l H.Z.c]:=by
  rw [hW0]
  exact aB.alloc aB.nw _
 have ah : aB w0 (w.heap.size+1) [.slice none 0 0, .slice none 0 0]:=by
  rw [hW0]
  exact aB.nw
 have hB : Below w.heap.size w w0:=by
  rw [hW0]
  exact dJ
 go_enter Tryz.func162,Tryz.ntmps162
 go_wp2_with fail
 rw [←hW0]
 clear hW0
 have g_:=au.lt
 have iB:=ah.lt
 obtain⟨aD,aF,aL,aQ⟩ :=au.f2
 obtain⟨aj,ak,ay,aI⟩ :=ah.f2
 refine(pJ _ H x (dW h hB) (by omega)).mono ?_
 rintro e w1 ⟨aA,rfl,aP,l_c,hb⟩
 have u_c:=aP.lt
 replace au:=au.below hb
 replace ah:=ah.below hb
 replace hB:=hB.trans (hb.mono hB.size)
 have sz:=hb.size
 clear hb
 clear aD aF aL aQ
 obtain⟨aD,aF,aL,aQ⟩ :=au.f2
 clear aj ak ay aI
 obtain⟨aj,ak,ay,aI⟩ :=ah.f2
 have aN : aB ((w1.alloc (.cells #[] 3)).alloc (.cells #[.slice aA.Y.a aA.Y.l aA.Y.c, .slice aA.Z.a aA.Z.l aA.Z.c] 26)) (w1.heap.size+1) [.slice aA.Y.a aA.Y.l aA.Y.c, .slice aA.Z.a aA.Z.l aA.Z.c]:=by
  have hb:=aB.new (w1.alloc (.cells #[] 3)) #[.slice aA.Y.a aA.Y.l aA.Y.c, .slice aA.Z.a aA.Z.l aA.Z.c] 26
  rw [World.size_alloc] at hb
  exact hb
 replace aP:= (aP.aH (.cells #[] 3)).aH (.cells #[.slice aA.Y.a aA.Y.l aA.Y.c, .slice aA.Z.a aA.Z.l aA.Z.c] 26)
 replace au:= (au.alloc (.cells #[] 3)).alloc (.cells #[.slice aA.Y.a aA.Y.l aA.Y.c, .slice aA.Z.a aA.Z.l aA.Z.c] 26)
 replace ah:= (ah.alloc (.cells #[] 3)).alloc (.cells #[.slice aA.Y.a aA.Y.l aA.Y.c, .slice aA.Z.a aA.Z.l aA.Z.c] 26)
 replace hB:= (hB.alloc hB.size (.cells #[] 3)).alloc (by simp;exact Nat.le_succ_of_le hB.size) (.cells #[.slice aA.Y.a aA.Y.l aA.Y.c, .slice aA.Z.a aA.Z.l aA.Z.c] 26)
 go_wp2_with fail
 clear aD aF aj ak aL ay aQ aI
 generalize hW2 : ((w1.alloc (.cells #[] 3)).alloc (.cells #[.slice aA.Y.a aA.Y.l aA.Y.c, .slice aA.Z.a aA.Z.l aA.Z.c] 26)) =w2 at aP au ah aN hB⊢
 clear hW2
 have aD:=au.cell 0 _ rfl
 have aF:=au.cell 1 _ rfl
 refine(hix _ (eP h.Z hB)).mono ?_
 clear hix
 rintro e wv ⟨rfl,rfl⟩
 go_wp2_with fail
 refine(hho _ hB).mono ?_
 clear hho
 rintro e w3 ⟨rfl,hb⟩
 have CK:=hb.size
 replace ah:=ah.below hb
 replace aN:=aN.below hb
 replace aP:=aP.step0 hb
 replace hB:=hB.trans (hb.mono hB.size)
 clear hb aD aF
 have aj:=ah.cell 0 _ rfl
 have ak:=ah.cell 1 _ rfl
 have aV:=aN.cell 0 _ rfl
 have aW:=aN.cell 1 _ rfl
 have ay:=ah.dn
 have aI:=ah.lt
 have bN:=aN.lt
 go_wp2_with (go_at_call 161;refine(rR _ _).mono ?_;rw [hcl];rintro e wv ⟨rfl,rfl⟩)
 refine bodyPost_ret (v:= .tuple #[.agg #[.slice aA.Y.a aA.Y.l aA.Y.c, .slice aA.Z.a aA.Z.l aA.Z.c], .slice (some ⟨w1.heap.size,0,none⟩) 0 0]) (by simp [results,Tryz.results162,go_sem,aj,ak]) rfl ⟨aA,some ⟨w1.heap.size,0,none⟩,0,rfl,aP.aM (F:= [w.heap.size+1]) bW (fun g hg hm=>by simp only [List.mem_cons,List.not_mem_nil,or_false] at hm;have:=l_c g hg;have:=u_c g hg;omega),fun g hg=>by have:=l_c g hg;omega,Below.trans hB dQ⟩
set_option maxHeartbeats 400000 in
theorem EK (s g : Int)(w : World)(h1 : bO 0 23 s=true)(h2 : bO 1 6 g=true) : Calls Tryz.prog 163 #[.int .i64 s, .int .i64 g] w fun e w'=>e= .returned (.int .i64 (g * 32+s)) ∧w=w':=by
 obtain⟨a1,a2⟩ :=bJ.1 h1
 obtain⟨b1,b2⟩ :=bJ.1 h2
 go_enter Tryz.func163,Tryz.ntmps163
 go_wp2_with (first| (go_at_call 154;refine(kC _ _ _ _).mono ?_; (first|rw [h1]|rw [h2]);rintro e w1 ⟨rfl,rfl⟩) | (go_at_call 120;refine(l8 _ _).mono ?_;rw [h1];rintro e w1 ⟨rfl,rfl⟩))
 go_ret
 exact⟨rfl,rfl⟩
set_option maxHeartbeats 400000 in
theorem q8 (s g : Int)(w : World)(h1 : bO 0 23 s=true)(h2 : bO 1 6 g=true) : Calls Tryz.prog 41 #[.int .i64 s, .int .i64 g] w fun e w'=>e= .returned (.int .i64 (g * 32+s)) ∧w=w':=by
 obtain⟨a1,a2⟩ :=bJ.1 h1
 obtain⟨b1,b2⟩ :=bJ.1 h2
 go_enter Tryz.func41,Tryz.ntmps41
 go_wp2_with (first| (go_at_call 102;refine(fG _ _ _ _).mono ?_; (first|rw [h1]|rw [h2]);rintro e w1 ⟨rfl,rfl⟩) | (go_at_call 120;refine(l8 _ _).mono ?_;rw [h1];rintro e w1 ⟨rfl,rfl⟩))
 go_ret
 exact⟨rfl,rfl⟩
theorem xH (n : Int) : (eT n= -1∧ (n<1∨40<n)) ∨ (eT n=0∧1≤n∧n≤8) ∨ (eT n=1∧8<n∧n≤16) ∨ (eT n=2∧16<n∧n≤40) :=by
 unfold eT
 repeat' split
 all_goals omega
set_option maxHeartbeats 4000000 in
theorem mF (n : Int)(w : World) : Calls Tryz.prog 38 #[.int .i64 n] w fun e w'=>e= .returned (.int .i64 (eT n)) ∧w=w':=by
 have hz:=fun (c : Int) W=>Aw c W
 have h0 : ∀W,Calls Tryz.prog 107 #[.int .i64 0] W fun e w'=>e= .returned (.int .i64 8) ∧W=w':=fun W=>hz 0 W
 have h1 : ∀W,Calls Tryz.prog 107 #[.int .i64 1] W fun e w'=>e= .returned (.int .i64 16) ∧W=w':=fun W=>hz 1 W
 have h2 : ∀W,Calls Tryz.prog 107 #[.int .i64 2] W fun e w'=>e= .returned (.int .i64 40) ∧W=w':=fun W=>hz 2 W
 have HC:=Hid.aT (xH n)
 clear hz
 go_enter Tryz.func38,Tryz.ntmps38
 go_wp2_with fail
 go_loop [4] (fun i=> (i= .int .i64 0∧Hid (1≤n→0<n)) ∨ (i= .int .i64 1∧Hid (1≤n→8<n)) ∨ (i= .int .i64 2∧Hid (1≤n→16<n)) ∨ (i= .int .i64 3∧Hid (1≤n→40<n))) (fun i=>3 - (intOf i).toNat)
 case atStart=>exact Or.inl ⟨rfl,Hid.aT (fun h=>by omega)⟩
 case round=>
  rcases hrel with ⟨rfl,HN⟩ | ⟨rfl,HN⟩ | ⟨rfl,HN⟩ | ⟨rfl,HN⟩
  ·by_cases c1 : 1≤n
   ·by_cases c2 : n≤8
    ·go_wp2_with (go_at_call 107;refine(h0 _).mono ?_;rintro e w1 ⟨rfl,rfl⟩)
     have hE : eT n=0:=by rcases HC.out with h|h|h|h<;>omega
     go_ret
     exact⟨by rw [hE];rfl,rfl⟩
    ·go_wp2_with (go_at_call 107;refine(h0 _).mono ?_;rintro e w1 ⟨rfl,rfl⟩)
     go_round
     ·exact Or.inr (Or.inl ⟨rfl,Hid.aT (fun _=>by omega)⟩)
     ·simp [intOf]
   ·go_wp2_with fail
    go_round
    ·exact Or.inr (Or.inl ⟨rfl,Hid.aT (fun _=>by omega)⟩)
    ·simp [intOf]
  ·by_cases c1 : 1≤n
   ·by_cases c2 : n≤16
    ·go_wp2_with (go_at_call 107;refine(h1 _).mono ?_;rintro e w1 ⟨rfl,rfl⟩)
     have hE : eT n=1:=by have:=HN.out;rcases HC.out with h|h|h|h<;>omega
     go_ret
     exact⟨by rw [hE];rfl,rfl⟩
    ·go_wp2_with (go_at_call 107;refine(h1 _).mono ?_;rintro e w1 ⟨rfl,rfl⟩)
     go_round
     ·exact Or.inr (Or.inr (Or.inl ⟨rfl,Hid.aT (fun _=>by omega)⟩))
     ·simp [intOf]
   ·go_wp2_with fail
    go_round
    ·exact Or.inr (Or.inr (Or.inl ⟨rfl,Hid.aT (fun _=>by omega)⟩))
    ·simp [intOf]
  ·by_cases c1 : 1≤n
   ·by_cases c2 : n≤40
    ·go_wp2_with (go_at_call 107;refine(h2 _).mono ?_;rintro e w1 ⟨rfl,rfl⟩)
     have hE : eT n=2:=by have:=HN.out;rcases HC.out with h|h|h|h<;>omega
     go_ret
     exact⟨by rw [hE];rfl,rfl⟩
    ·go_wp2_with (go_at_call 107;refine(h2 _).mono ?_;rintro e w1 ⟨rfl,rfl⟩)
     go_round
     ·exact Or.inr (Or.inr (Or.inr ⟨rfl,Hid.aT (fun _=>by omega)⟩))
     ·simp [intOf]
   ·go_wp2_with fail
    go_round
    ·exact Or.inr (Or.inr (Or.inr ⟨rfl,Hid.aT (fun _=>by omega)⟩))
    ·simp [intOf]
  ·go_wp2_with fail
   have hE : eT n= -1:=by have:=HN.out;rcases HC.out with h|h|h|h<;>omega
   go_ret
   exact⟨by rw [hE];rfl,rfl⟩
set_option maxHeartbeats 4000000 in
theorem nG (n : Int)(w : World) : Calls Tryz.prog 101 #[.int .i64 n] w fun e w'=>e= .returned (.int .i64 (eT n)) ∧w=w':=by
 have hz:=fun (c : Int) W=>uj c W
 have h0 : ∀W,Calls Tryz.prog 28 #[.int .i64 0] W fun e w'=>e= .returned (.int .i64 8) ∧W=w':=fun W=>hz 0 W
 have h1 : ∀W,Calls Tryz.prog 28 #[.int .i64 1] W fun e w'=>e= .returned (.int .i64 16) ∧W=w':=fun W=>hz 1 W
 have h2 : ∀W,Calls Tryz.prog 28 #[.int .i64 2] W fun e w'=>e= .returned (.int .i64 40) ∧W=w':=fun W=>hz 2 W
 have HC:=Hid.aT (xH n)
 clear hz
 go_enter Tryz.func101,Tryz.ntmps101
 go_wp2_with fail
 go_loop [3] (fun i=> (i= .int .i64 0∧Hid (1≤n→0<n)) ∨ (i= .int .i64 1∧Hid (1≤n→8<n)) ∨ (i= .int .i64 2∧Hid (1≤n→16<n)) ∨ (i= .int .i64 3∧Hid (1≤n→40<n))) (fun i=>3 - (intOf i).toNat)
 case atStart=>exact Or.inl ⟨rfl,Hid.aT (fun h=>by omega)⟩
 case round=>
  rcases hrel with ⟨rfl,HN⟩ | ⟨rfl,HN⟩ | ⟨rfl,HN⟩ | ⟨rfl,HN⟩
  ·by_cases c1 : bO 1 8 n=true
   ·go_wp2_with (first| (go_at_call 28;refine(h0 _).mono ?_;rintro e w1 ⟨rfl,rfl⟩) | (go_at_call 102;refine(fG _ _ _ _).mono ?_;rw [c1];rintro e w1 ⟨rfl,rfl⟩))
    have hE : eT n=0:=by have:=HN.out;have:=bJ.1 c1;rcases HC.out with h|h|h|h<;>omega
    go_ret
    exact⟨by rw [hE];rfl,rfl⟩
   ·have hD : 1≤n→8<n:=by
     intro h
     by_cases c2 : n≤8
     ·exact absurd (bJ.2 ⟨h,c2⟩) c1
     ·omega
    replace c1:= (Bool.not_eq_true _).mp c1
    replace hD:=Hid.aT hD
    go_wp2_with (first| (go_at_call 28;refine(h0 _).mono ?_;rintro e w1 ⟨rfl,rfl⟩) | (go_at_call 102;refine(fG _ _ _ _).mono ?_;rw [c1];rintro e w1 ⟨rfl,rfl⟩))
    go_round
    ·exact Or.inr (Or.inl ⟨rfl,hD⟩)
    ·simp [intOf]
  ·by_cases c1 : bO 1 16 n=true
   ·go_wp2_with (first| (go_at_call 28;refine(h1 _).mono ?_;rintro e w1 ⟨rfl,rfl⟩) | (go_at_call 102;refine(fG _ _ _ _).mono ?_;rw [c1];rintro e w1 ⟨rfl,rfl⟩))
    have hE : eT n=1:=by have:=HN.out;have:=bJ.1 c1;rcases HC.out with h|h|h|h<;>omega
    go_ret
    exact⟨by rw [hE];rfl,rfl⟩
   ·have hD : 1≤n→16<n:=by
     intro h
     by_cases c2 : n≤16
     ·exact absurd (bJ.2 ⟨h,c2⟩) c1
     ·omega
    replace c1:= (Bool.not_eq_true _).mp c1
    replace hD:=Hid.aT hD
    go_wp2_with (first| (go_at_call 28;refine(h1 _).mono ?_;rintro e w1 ⟨rfl,rfl⟩) | (go_at_call 102;refine(fG _ _ _ _).mono ?_;rw [c1];rintro e w1 ⟨rfl,rfl⟩))
    go_round
    ·exact Or.inr (Or.inr (Or.inl ⟨rfl,hD⟩))
    ·simp [intOf]
  ·by_cases c1 : bO 1 40 n=true
   ·go_wp2_with (first| (go_at_call 28;refine(h2 _).mono ?_;rintro e w1 ⟨rfl,rfl⟩) | (go_at_call 102;refine(fG _ _ _ _).mono ?_;rw [c1];rintro e w1 ⟨rfl,rfl⟩))
    have hE : eT n=2:=by have:=HN.out;have:=bJ.1 c1;rcases HC.out with h|h|h|h<;>omega
    go_ret
    exact⟨by rw [hE];rfl,rfl⟩
   ·have hD : 1≤n→40<n:=by
     intro h
     by_cases c2 : n≤40
     ·exact absurd (bJ.2 ⟨h,c2⟩) c1
     ·omega
    replace c1:= (Bool.not_eq_true _).mp c1
    replace hD:=Hid.aT hD
    go_wp2_with (first| (go_at_call 28;refine(h2 _).mono ?_;rintro e w1 ⟨rfl,rfl⟩) | (go_at_call 102;refine(fG _ _ _ _).mono ?_;rw [c1];rintro e w1 ⟨rfl,rfl⟩))
    go_round
    ·exact Or.inr (Or.inr (Or.inr ⟨rfl,hD⟩))
    ·simp [intOf]
  ·go_wp2_with fail
   have hE : eT n= -1:=by have:=HN.out;rcases HC.out with h|h|h|h<;>omega
   go_ret
   exact⟨by rw [hE];rfl,rfl⟩
end Go.Proofs.YtkmggglljkmjoaaGreat
namespace Go.Proofs.YtkmggglljkmjoaaGreat
open Go.RowKit
def p8 {α : Type}(T : FT α)(e : TypeId)(w : World)(v : Value)(l : List α) : Prop:=
 ∃ (v0 : Value) (r : List α),bA T e w v0 (l++r) ∧ ((v=v0∧r= []) ∨ ∃g n c c0,v0= .slice (some ⟨g,0,none⟩) n c0∧v= .slice (some ⟨g,0,none⟩) l.length c∧l.length≤c∧c≤c0)
theorem bA.toW {α : Type}{T : FT α}{e : TypeId}{w : World}{v : Value}{l : List α}(h : bA T e w v l) : p8 T e w v l:= ⟨v, [],by simpa using h, .inl ⟨rfl,rfl⟩⟩
theorem yx {α : Type}{v v0 : Value}{l r : List α}(h : (v=v0∧r= []) ∨ ∃g n c c0,v0= .slice (some ⟨g,0,none⟩) n c0∧v= .slice (some ⟨g,0,none⟩) l.length c∧l.length≤c∧c≤c0) : v.ownBlock=v0.ownBlock:=by
 rcases h with ⟨rfl,_⟩ | ⟨g,n,c,c0,rfl,rfl,_,_⟩ <;>rfl
theorem p8.keep {α : Type}{T : FT α}{e : TypeId}{w w' : World}{v : Value}{l : List α}(h : p8 T e w v l)(hk : ∀g,v.ownBlock=some g→w'.heap[g]? =w.heap[g]?) : p8 T e w' v l:=by
 obtain⟨v0,r,ho,hd⟩ :=h
 exact⟨v0,r,ho.keep (fun g hg=>hk g (by rw [yx hd];exact hg)),hd⟩
theorem p8.lt {α : Type}{T : FT α}{e : TypeId}{w : World}{v : Value}{l : List α}(h : p8 T e w v l) : ∀g∈cu v,g<w.heap.size:=by
 obtain⟨v0,r,ho,hd⟩ :=h
 intro g hg
 exact iQ ho g (bV.2 (by rw [←yx hd];exact bV.1 hg))
theorem p8.aM {α : Type}{T : FT α}{e : TypeId}{w w' : World}{v : Value}{l : List α}{F : List Nat}(h : p8 T e w v l)(hc : aY F w w')(hd : ∀g∈cu v,g∉F) : p8 T e w' v l:=
 h.keep fun g hg=>hc.block g (h.lt g (bV.2 hg)) (hd g (bV.2 hg))
theorem p8.form {α : Type}{T : FT α}{e : TypeId}{w : World}{v : Value}{l : List α}(h : p8 T e w v l) : (v= .slice none 0 0∧l= []) ∨ ∃g cap,v= .slice (some ⟨g,0,none⟩) l.length cap∧g<w.heap.size∧l.length≤cap∧cap≤maxLen:=by
 obtain⟨v0,r,ho,hd⟩ :=h
 rcases hd with ⟨rfl,rfl⟩ | ⟨g,n,c,c0,rfl,rfl,h1,h2⟩
 ·rw [List.append_nil] at ho
  exact ho.form
 ·rcases ho.form with ⟨h,_⟩ | ⟨g',cap',hv,hg,hl,hm⟩
  ·cases h
  ·injection hv with e1 e2 e3
   injection e1 with e1
   injection e1 with e1
   subst e1
   exact .inr ⟨g,c,rfl,hg,h1,by omega⟩
theorem p8.cell_ {α : Type}{T : FT α}{e : TypeId}{w : World}{g n c : Nat}{l : List α}(h : p8 T e w (.slice (some ⟨g,0,none⟩) n c) l){k j : Nat}{x : α}(hx : l[k]? =some x)(hj : j<T.n) : w.cell? ⟨g,k * T.n+j,none⟩ = (T.enc x)[j]? :=by
 obtain⟨v0,r,ho,hd⟩ :=h
 have hx' : (l++r)[k]? =some x:=by rw [List.getElem?_append_left (List.getElem?_eq_some_iff.1 hx).1];exact hx
 rcases hd with ⟨rfl,rfl⟩ | ⟨g',n',c',c0,rfl,hv,h1,h2⟩
 ·exact ho.cell_ hx' hj
 ·injection hv with e1 e2 e3
  injection e1 with e1
  injection e1 with e1
  subst e1
  exact ho.cell_ hx' hj
theorem p8.eD {α : Type}{T : FT α}{e : TypeId}{w : World}{g n c : Nat}{l : List α}(h : p8 T e w (.slice (some ⟨g,0,none⟩) n c) l)(j : Nat) : w.frozen? ⟨g,j,none⟩ =false:=by
 obtain⟨v0,r,ho,hd⟩ :=h
 rcases hd with ⟨rfl,rfl⟩ | ⟨g',n',c',c0,rfl,hv,h1,h2⟩
 ·exact ho.eD j
 ·injection hv with e1 e2 e3
  injection e1 with e1
  injection e1 with e1
  subst e1
  exact ho.eD j
theorem p8.gD {α : Type}{T : FT α}{e : TypeId}{w : World}{g n c : Nat}{l : List α}(h : p8 T e w (.slice (some ⟨g,0,none⟩) n c) l){k j : Nat}{x y : α}{u : Value}(hx : l[k]? =some x)(hj : j<T.n)(hy : T.enc y= (T.enc x).set j u) :
  p8 T e (w.setCell ⟨g,k * T.n+j,none⟩ u) (.slice (some ⟨g,0,none⟩) n c) (l.set k y) :=by
 obtain⟨v0,r,ho,hd⟩ :=h
 have hk:= (List.getElem?_eq_some_iff.1 hx).1
 have hx' : (l++r)[k]? =some x:=by rw [List.getElem?_append_left hk];exact hx
 rcases hd with ⟨rfl,rfl⟩ | ⟨g',n',c',c0,rfl,hv,h1,h2⟩
 ·refine⟨_, [], ?_, .inl ⟨rfl,rfl⟩⟩
  have:=ho.gD hx' hj hy
  rwa [List.append_nil] at this⊢
 ·injection hv with e1 e2 e3
  injection e1 with e1
  injection e1 with e1
  subst e1 e2 e3
  refine⟨_,r, ?_, .inr ⟨g,n',c,c0,rfl,by rw [List.length_set],by rw [List.length_set];exact h1,h2⟩⟩
  have:=ho.gD hx' hj hy
  rwa [List.set_append_left _ _ hk] at this
theorem p8.rd {α : Type}{T : FT α}{e : TypeId}{w : World}{B : Nat}{v : Value}{l : List α}(h : p8 T e w v l)(hB : ∀g∈cu v,g<B) : fE T w B v l:=by
 obtain⟨v0,r,ho,hd⟩ :=h
 have hr:=ho.rd (B:=B) (fun g hg=>hB g (bV.2 (by rw [yx hd];exact hg)))
 rcases hd with ⟨rfl,rfl⟩ | ⟨g,n,c,c0,rfl,rfl,h1,h2⟩
 ·rwa [List.append_nil] at hr
 ·obtain⟨A,cap,hv,q1,q2,q3⟩ :=hr
  injection hv with e1 e2 e3
  subst e1 e2 e3
  refine⟨_,c,rfl,h1,by omega,fun hne=> ?_⟩
  obtain⟨g',off,hA,hg,hc⟩ :=q3 (by intro hh;exact hne (List.append_eq_nil_iff.1 hh).1)
  refine⟨g',off,hA,hg,fun j u hu=>hc j u ?_⟩
  rw [wS,List.getElem?_append_left (List.getElem?_eq_some_iff.1 hu).1]
  exact hu
theorem p8.rd' {α : Type}{T : FT α}{e : TypeId}{w : World}{v : Value}{l : List α}(h : p8 T e w v l) : fE T w w.heap.size v l:=h.rd h.lt
structure nJ {α : Type}(T : FT α)(e E : TypeId)(w : World)(v : Value)(fF : List SV)(ll : List (List α)) : Prop where
 len : fF.length=ll.length
 outer : bA FS E w v fF
 inner : ∀ (k : Nat) (s : SV) (l : List α),fF[k]? =some s→ll[k]? =some l→p8 T e w s.val l
 nodup : (dH v fF).Nodup
theorem dR.toW {α : Type}{T : FT α}{e E : TypeId}{w : World}{v : Value}{fF : List SV}{ll : List (List α)}(h : dR T e E w v fF ll) : nJ T e E w v fF ll:= ⟨h.len,h.outer,fun k s l a b=> (h.inner k s l a b).toW,h.nodup⟩
theorem nJ.lt {α : Type}{T : FT α}{e E : TypeId}{w : World}{v : Value}{fF : List SV}{ll : List (List α)}(h : nJ T e E w v fF ll) : ∀g∈dH v fF,g<w.heap.size:=by
 intro g hg
 rcases cZ.1 hg with hg| ⟨s,hs,hg⟩
 ·exact iQ h.outer g (bV.2 hg)
 ·obtain⟨k,hk,rfl⟩ :=List.mem_iff_getElem.1 hs
  exact(h.inner k _ _ (List.getElem?_eq_getElem hk) (List.getElem?_eq_getElem (by rw [←h.len];exact hk))).lt g (bV.2 hg)
theorem nJ.keep {α : Type}{T : FT α}{e E : TypeId}{w w' : World}{v : Value}{fF : List SV}{ll : List (List α)}(h : nJ T e E w v fF ll)(hk : ∀g∈dH v fF,w'.heap[g]? =w.heap[g]?) : nJ T e E w' v fF ll:=
 ⟨h.len,h.outer.keep (fun g hg=>hk g (cZ.2 (.inl hg))),fun k s l a b=> (h.inner k s l a b).keep (fun g hg=>hk g (cZ.2 (.inr ⟨s,List.mem_of_getElem? a,hg⟩))),h.nodup⟩
theorem nJ.aM {α : Type}{T : FT α}{e E : TypeId}{w w' : World}{v : Value}{fF : List SV}{ll : List (List α)}{F : List Nat}(h : nJ T e E w v fF ll)(hc : aY F w w')(hd : ∀g∈dH v fF,g∉F) : nJ T e E w' v fF ll:=
 h.keep fun g hg=>hc.block g (h.lt g hg) (hd g hg)
theorem nJ.rd {α : Type}{T : FT α}{e E : TypeId}{w : World}{B : Nat}{v : Value}{fF : List SV}{ll : List (List α)}(h : nJ T e E w v fF ll)(hB : ∀g∈dH v fF,g<B) : jl T w B v fF ll:=
 ⟨h.len,h.outer.rd (fun g hg=>hB g (cZ.2 (.inl hg))),fun k s l a b=> (h.inner k s l a b).rd (fun g hg=>hB g (cZ.2 (.inr ⟨s,List.mem_of_getElem? a,bV.1 hg⟩)))⟩
theorem nJ.rd' {α : Type}{T : FT α}{e E : TypeId}{w : World}{v : Value}{fF : List SV}{ll : List (List α)}(h : nJ T e E w v fF ll) : jl T w w.heap.size v fF ll:=h.rd h.lt
structure jr (w : World)(H : aZ)(x : Lists) : Prop where
 G : nJ FI 3 94 w H.G.val H.nC x.G
 O : nJ FI 3 94 w H.O.val H.tK x.O
 iV : ∀g∈dH H.G.val H.nC,g∉dH H.O.val H.tK
theorem dZ.toW {w : World}{H : aZ}{x : Lists}(h : dZ w H x) : jr w H x:= ⟨h.G.toW,h.O.toW,h.iV⟩
theorem jr.lt {w : World}{H : aZ}{x : Lists}(h : jr w H x) : ∀g∈H.foot,g<w.heap.size:=by
 intro g hg
 rcases aZ.aX.1 hg with hg|hg
 ·exact h.G.lt g hg
 ·exact h.O.lt g hg
theorem jr.keep {w w' : World}{H : aZ}{x : Lists}(h : jr w H x)(hk : ∀g∈H.foot,w'.heap[g]? =w.heap[g]?) : jr w' H x:=
 ⟨h.G.keep (fun g hg=>hk g (aZ.aX.2 (.inl hg))),h.O.keep (fun g hg=>hk g (aZ.aX.2 (.inr hg))),h.iV⟩
theorem jr.aM {w w' : World}{H : aZ}{x : Lists}{F : List Nat}(h : jr w H x)(hc : aY F w w')(hd : ∀g∈H.foot,g∉F) : jr w' H x:=h.keep fun g hg=>hc.block g (h.lt g hg) (hd g hg)
theorem jr.rd {w : World}{B : Nat}{H : aZ}{x : Lists}(h : jr w H x)(hB : ∀g∈H.foot,g<B) : iC w B H x:=
 ⟨h.G.rd (fun g hg=>hB g (aZ.aX.2 (.inl hg))),h.O.rd (fun g hg=>hB g (aZ.aX.2 (.inr hg)))⟩
theorem jr.rd' {w : World}{H : aZ}{x : Lists}(h : jr w H x) : iC w w.heap.size H x:=h.rd h.lt
structure jO (w : World)(H : bP)(x : Mem) : Prop where
 E : fA w H.E x.E
 I : jr w H.I x.I
 iV : ∀g∈H.E.foot,g∉H.I.foot
theorem d9.toW {w : World}{H : bP}{x : Mem}(h : d9 w H x) : jO w H x:= ⟨h.E,h.I.toW,h.iV⟩
theorem jO.lt {w : World}{H : bP}{x : Mem}(h : jO w H x) : ∀g∈H.foot,g<w.heap.size:=by
 intro g hg
 rcases bP.aX.1 hg with hg|hg
 ·exact h.E.lt g hg
 ·exact h.I.lt g hg
theorem jO.keep {w w' : World}{H : bP}{x : Mem}(h : jO w H x)(hk : ∀g∈H.foot,w'.heap[g]? =w.heap[g]?) : jO w' H x:=
 ⟨h.E.keep (fun g hg=>hk g (bP.aX.2 (.inl hg))),h.I.keep (fun g hg=>hk g (bP.aX.2 (.inr hg))),h.iV⟩
theorem jO.aM {w w' : World}{H : bP}{x : Mem}{F : List Nat}(h : jO w H x)(hc : aY F w w')(hd : ∀g∈H.foot,g∉F) : jO w' H x:=h.keep fun g hg=>hc.block g (h.lt g hg) (hd g hg)
theorem jO.rd {w : World}{B : Nat}{H : bP}{x : Mem}(h : jO w H x)(hB : ∀g∈H.foot,g<B) : gJ w B H x:=
 ⟨h.E.rd (fun g hg=>hB g (bP.aX.2 (.inl hg))),h.I.rd (fun g hg=>hB g (bP.aX.2 (.inr hg)))⟩
theorem jO.rd' {w : World}{H : bP}{x : Mem}(h : jO w H x) : gJ w w.heap.size H x:=h.rd h.lt
theorem jr.aH {w : World}{H : aZ}{x : Lists}(h : jr w H x)(o : Obj) : jr (w.alloc o) H x:=h.keep fun g hg=>Below.heap_alloc w o g (h.lt g hg)
theorem jr.step {w w' : World}{o : Obj}{H : aZ}{x : Lists}(h : jr w H x)(hb : Below (w.alloc o).heap.size (w.alloc o) w') : jr w' H x:= (h.aH o).keep (fun g hg=>hb.block g ((h.aH o).lt g hg))
theorem jr.step0 {w w' : World}{H : aZ}{x : Lists}(h : jr w H x)(hb : Below w.heap.size w w') : jr w' H x:=h.keep (fun g hg=>hb.block g (h.lt g hg))
theorem jO.aH {w : World}{H : bP}{x : Mem}(h : jO w H x)(o : Obj) : jO (w.alloc o) H x:=h.keep fun g hg=>Below.heap_alloc w o g (h.lt g hg)
theorem jO.step {w w' : World}{o : Obj}{H : bP}{x : Mem}(h : jO w H x)(hb : Below (w.alloc o).heap.size (w.alloc o) w') : jO w' H x:= (h.aH o).keep (fun g hg=>hb.block g ((h.aH o).lt g hg))
theorem jO.step0 {w w' : World}{H : bP}{x : Mem}(h : jO w H x)(hb : Below w.heap.size w w') : jO w' H x:=h.keep (fun g hg=>hb.block g (h.lt g hg))
end Go.Proofs.YtkmggglljkmjoaaGreat
