/-
  Several texts in one: lemmas and contracts that the claim rests on.
-/
import Derived.Test.YtkmggglljkmjoaaUHNoReuse2
import Derived.Test.YtkmggglljkmjoaaUHNoReuse1
import Derived.Deep.QuietTactic
import Derived.BigQuiet
import Derived.Deep.LoopGhost
import Derived.Deep.RegionHeld3
import Derived.WalkSpells
import Derived.Laws.Cover3
import Derived.Test.YtkmggglljkmjoaaUHNoReuse6
import Derived.Test.YtkmggglljkmjoaaUHNoReuse14
import Derived.IntWalk
import Derived.Deep.RegionLaw
import Derived.Deep.CutRange
namespace Go.Proofs.Ytkmggglljkmjoaa
open Go.RowKit
theorem dw {g n c b : Nat} : b∈bL (.slice (some ⟨g,0,none⟩) n c) ↔b=g:=by simp [bL,Value.ownBlock,eq_comm]
theorem zP {l : List Int}{x : Int}{p : Nat}(h : idxOf (fun y=>y == x) l= (p : Int)) : p<l.length:=by
 unfold idxOf at h
 cases hx : l.findIdx? (fun y=>y == x) with
 |none=>rw [hx] at h;simp at h
 |some i=>
  rw [hx] at h
  simp at h
  obtain rfl : i=p:=by omega
  exact(List.findIdx?_eq_some_iff_getElem.1 hx).1
set_option maxHeartbeats 400000 in
theorem xX (p i : Nat)(hp : p<6)(hi : i<4)(w : World) : Calls Try.prog 74 #[.int .i64 p, .int .i64 i] w fun e w'=>e= .returned (.int .i64 ((p * 4+i : Nat) : Int)) ∧w=w':=by
 have k1 : aW 0 5 (p : Int) =true:=bD.2 ⟨by omega,by omega⟩
 have k2 : aW 0 3 (i : Int) =true:=bD.2 ⟨by omega,by omega⟩
 go_enter Try.func74,Try.ntmps74
 go_wp2_with (go_at_call 36;refine(gW _ _ _ _).mono ?_; (first|rw [k1]|rw [k2]);rintro e w1 ⟨rfl,rfl⟩)
 go_ret
 exact⟨bU (by omega),rfl⟩
theorem rJ {c : Nat}(_hc : c<3) : ∃n : Nat,bq (c : Int) = (n : Int) ∧n≤4∧ (bq (c : Int)).toNat=n:=by
 have:=lF (c : Int)
 exact⟨(bq (c : Int)).toNat,by omega,by omega,rfl⟩
set_option maxRecDepth 100000 in
set_option maxHeartbeats 8000000 in
theorem zQ (w : World)(H : dA)(x : Heap)(p c : Nat)(h : fZ w w.heap.size H x)(hs : iK x≤536870912)(hok : fH x=true)(hc : c<3)(hp : idxOf (fun y=>y == -1) x.Z= (p : Int)) :
  Calls Try.prog 49 #[.agg #[.slice H.Y.a H.Y.l H.Y.c, .slice H.Z.a H.Z.l H.Z.c], .int .i64 c] w fun e w'=> ∃ (H' : dA) (v : SV),e= .returned (.tuple #[.agg #[.slice H'.Y.a H'.Y.l H'.Y.c, .slice H'.Z.a H'.Z.l H'.Z.c], .slice v.a v.l v.c]) ∧eT w' H' (dR x p c) ∧bF FI 3 w' v.val (dN p (bq (c : Int)).toNat) ∧ (∀g∈H'.foot,w.heap.size≤g) ∧ (∀g∈bL v.val,w.heap.size≤g∧g∉H'.foot) ∧Below w.heap.size w w':=by
 have sh:=gQ (mQ hok)
 have hpl:=zP hp
 have Bv:=Hid.aD sh.bl
 have EK:=Hid.aD sh.cl
 have wX : p<6:=by rw [sh.cl] at hpl;exact hpl
 have hcl : aW 0 2 (c : Int) =true:=bD.2 ⟨by omega,by omega⟩
 obtain⟨n,hn,EL,hnn⟩ :=rJ hc
 have EM:=Hid.aD (fun i (hi : i≤n) =>j_ (b:=x.Y) (p:=p) (c:= (c : Int)) sh.bl wX hcl i (by omega))
 have EN:=Hid.aD (fun i (hi : i<n) =>jM hcl (i:=i) (by omega))
 have hix:=fun W hW=>nX W _ x.Z (-1) (show dz FI W W.heap.size (.slice H.Z.a H.Z.l H.Z.c) x.Z from hW)
 rw [hp] at hix
 have hho:=fun (W : World) (hW : Below w.heap.size w W) =>nW W H x (dH h hW)
 rw [hok] at hho
 have hpp:=fun W=>gX (c : Int) W
 rw [hn] at hpp
 have hsa:=fun i (hi : i<n) W=>xX p i wX (by omega) W
 have hga : ∀i,i<n→ ∀W : World,Calls Try.prog 69 #[.int .i64 ((p * 4+i : Nat) : Int), .int .i64 c] W fun e w'=>e= .returned (.int .i64 ((p * 64+8+i * (bS c).toNat : Nat) : Int)) ∧W=w':=fun i hi W=>by
  have:=ku (iq p i) (c : Int) W
  rw [tJ wX hcl (by omega)] at this
  rw [show iq (p : Int) (i : Int) = ((p * 4+i : Nat) : Int) by unfold iq;rw [if_pos ⟨bD.2 ⟨by omega,by omega⟩,bD.2 ⟨by omega,by omega⟩⟩];omega] at this
  exact this
 have hfx : ∀W : World,Calls Try.prog 71 #[.int .i64 1, .int .i64 4] W fun e w'=>e= .returned (.string (strOfNums (eP 4 1))) ∧Below W.heap.size W w':=fun W=>vD 1 4 W (by decide) (by decide) (by decide) (by decide)
 have Cu:=Hid.aD (tZ 4 1)
 have Bu : Hid ((strOfNums (eP 4 1)).size=4) :=pF
 have EO : Hid (dR x p c= ⟨h_ x.Y p c n,x.Z.set p c⟩) :=by
  show _=_
  unfold dR
  rw [hnn]
 have GH : Hid (bq (c : Int) = (n : Int)) :=hn
 have EP:=Hid.aD (fun i=>show h_ x.Y p c (i+1) =putAt (h_ x.Y p c i) (p * 64+8+i * (bS c).toNat) (eP 4 1) from rfl)
 have Cv : Hid (putAt x.Y (p * 64) [171, (c : Int), (n : Int)]=h_ x.Y p c 0) :=by
  show _=_
  unfold h_
  rw [hn]
 rw [hnn]
 clear sh hok hp hn hnn
 generalize strOfNums (eP 4 1) =t at *
 obtain⟨w0,hW0⟩ : ∃x,x= ((w.alloc (.cells #[.slice H.Y.a H.Y.l H.Y.c, .slice H.Z.a H.Z.l H.Z.c] 26)).alloc (.cells #[.slice none 0 0, .slice none 0 0] 26)) := ⟨_,rfl⟩
 have aC : aJ w0 (w.heap.size) [.slice H.Y.a H.Y.l H.Y.c, .slice H.Z.a H.Z.l H.Z.c]:=by
  rw [hW0]
  exact aJ.alloc aJ.nw _
 have au : aJ w0 (w.heap.size+1) [.slice none 0 0, .slice none 0 0]:=by
  rw [hW0]
  exact aJ.nw
 have hB : Below w.heap.size w w0:=by
  rw [hW0]
  exact dn
 go_enter Try.func49,Try.ntmps49
 go_wp2_with fail
 rw [←hW0]
 clear hW0
 have jy:=aC.lt
 have ji:=au.lt
 obtain⟨aF,aG,aK,aV⟩ :=aC.f2
 obtain⟨aA,aB,aI,aU⟩ :=au.f2
 refine(jU _ H x (dH h hB) (by omega)).mono ?_
 rintro e w1 ⟨aH,rfl,aT,l_c,hb⟩
 have u_c:=aT.lt
 replace aC:=aC.below hb
 replace au:=au.below hb
 replace hB:=hB.trans (hb.mono hB.size)
 have sz:=hb.size
 clear hb
 clear aF aG aK aV
 obtain⟨aF,aG,aK,aV⟩ :=aC.f2
 clear aA aB aI aU
 obtain⟨aA,aB,aI,aU⟩ :=au.f2
 obtain⟨⟨A1,n1,pB⟩, ⟨A2,n2,pC⟩⟩ :=aH
 obtain⟨gB,c1,hv1,hg1⟩ :=bF.kS (v:= .slice A1 n1 pB) aT.Y (by rw [Bv.out];decide)
 obtain⟨gC,c2,hv2,hg2⟩ :=bF.kS (v:= .slice A2 n2 pC) aT.Z (by rw [EK.out];decide)
 injection hv1 with i1 i2 i3
 injection hv2 with j1 j2 j3
 subst i1 i2 i3 j1 j2 j3
 have GI : gB≠gC:=fun e=>aT.iM gB (dw.2 rfl) (dw.2 e)
 have lB:=l_c gB (dA.aZ.2 (.inl (dw.2 rfl)))
 have lC:=l_c gC (dA.aZ.2 (.inr (dw.2 rfl)))
 have oB : bF FI 3 w1 (.slice (some ⟨gB,0,none⟩) x.Y.length pB) x.Y:=aT.Y
 have oC : bF FI 3 w1 (.slice (some ⟨gC,0,none⟩) x.Z.length pC) x.Z:=aT.Z
 clear aT l_c u_c
 have oS : bF FI 3 (w1.alloc (.cells #[] 3)) (.slice (some ⟨w1.heap.size,0,none⟩) 0 0) []:=bF.lit FI [] #[] rfl (by simp [maxLen]) w1 3
 have ay : aJ ((w1.alloc (.cells #[] 3)).alloc (.cells #[.slice (some ⟨gB,0,none⟩) x.Y.length pB, .slice (some ⟨gC,0,none⟩) x.Z.length pC] 26)) (w1.heap.size+1) [.slice (some ⟨gB,0,none⟩) x.Y.length pB, .slice (some ⟨gC,0,none⟩) x.Z.length pC]:=by
  have hb:=aJ.new (w1.alloc (.cells #[] 3)) #[.slice (some ⟨gB,0,none⟩) x.Y.length pB, .slice (some ⟨gC,0,none⟩) x.Z.length pC] 26
  rw [World.size_alloc] at hb
  exact hb
 replace oS:=oS.aN (.cells #[.slice (some ⟨gB,0,none⟩) x.Y.length pB, .slice (some ⟨gC,0,none⟩) x.Z.length pC] 26)
 replace oB:= (oB.aN (.cells #[] 3)).aN (.cells #[.slice (some ⟨gB,0,none⟩) x.Y.length pB, .slice (some ⟨gC,0,none⟩) x.Z.length pC] 26)
 replace oC:= (oC.aN (.cells #[] 3)).aN (.cells #[.slice (some ⟨gB,0,none⟩) x.Y.length pB, .slice (some ⟨gC,0,none⟩) x.Z.length pC] 26)
 replace aC:= (aC.alloc (.cells #[] 3)).alloc (.cells #[.slice (some ⟨gB,0,none⟩) x.Y.length pB, .slice (some ⟨gC,0,none⟩) x.Z.length pC] 26)
 replace au:= (au.alloc (.cells #[] 3)).alloc (.cells #[.slice (some ⟨gB,0,none⟩) x.Y.length pB, .slice (some ⟨gC,0,none⟩) x.Z.length pC] 26)
 replace hB:= (hB.alloc hB.size (.cells #[] 3)).alloc (by simp;exact Nat.le_succ_of_le hB.size) (.cells #[.slice (some ⟨gB,0,none⟩) x.Y.length pB, .slice (some ⟨gC,0,none⟩) x.Z.length pC] 26)
 go_wp2_with fail
 clear aF aG aA aB aK aI aV aU
 generalize hW2 : (w1.alloc (.cells #[] 3)).alloc (.cells #[.slice (some ⟨gB,0,none⟩) x.Y.length pB, .slice (some ⟨gC,0,none⟩) x.Z.length pC] 26) =w2 at oS oB oC aC au ay hB⊢
 clear hW2
 have aF:=aC.cell 0 _ rfl
 have aG:=aC.cell 1 _ rfl
 have aA:=au.cell 0 _ rfl
 have aB:=au.cell 1 _ rfl
 have aO:=ay.cell 0 _ rfl
 have aP:=ay.cell 1 _ rfl
 have aK:=aC.fP
 have aV:=aC.lt
 have aI:=au.fP
 have aU:=au.lt
 have aX:=ay.fP
 have bJ:=ay.lt
 refine(hix _ (dh h.Z hB)).mono ?_
 clear hix
 rintro e wv ⟨rfl,rfl⟩
 go_wp2_with fail
 refine(hho _ hB).mono ?_
 clear hho
 rintro e w3 ⟨rfl,hb⟩
 have zR:=hb.size
 have GJ:=bJ
 replace aC:=aC.below hb
 replace au:=au.below hb
 replace ay:=ay.below hb
 replace oS:=oS.step0 hb
 replace oB:=oB.step0 hb
 replace oC:=oC.step0 hb
 replace hB:=hB.trans (hb.mono hB.size)
 clear hb
 replace aF:=aC.cell 0 _ rfl
 replace aG:=aC.cell 1 _ rfl
 replace aA:=au.cell 0 _ rfl
 replace aB:=au.cell 1 _ rfl
 replace aO:=ay.cell 0 _ rfl
 replace aP:=ay.cell 1 _ rfl
 replace aK:=aC.fP
 replace aV:=aC.lt
 replace aI:=au.fP
 replace aU:=au.lt
 replace aX:=ay.fP
 replace bJ:=ay.lt
 have fC:=oC.iP p
 have cC:=oC.cell_ (List.getElem?_eq_getElem hpl) FI.pos
 simp only [FI,Nat.mul_one,Nat.add_zero] at cC
 have DC:=Hid.aD (fun (y : Int) =>oC.gI (y:=y) (u:= .int .i64 y) (List.getElem?_eq_getElem hpl) FI.pos rfl)
 have hpl' : (p : Int) < (x.Z.length : Int) :=by omega
 have n1 : gC≠w1.heap.size+1:=by omega
 have n2 : w1.heap.size+1≠gC:=by omega
 go_wp2_with (go_at_call 48;refine(lG _ _).mono ?_;rw [hcl];rintro e wv ⟨rfl,rfl⟩)
 replace aC:=aC.other (g':=gC) (i:=p) (by omega) (.int .i64 c)
 replace au:=au.other (g':=gC) (i:=p) (by omega) (.int .i64 c)
 replace ay:=ay.other (g':=gC) (i:=p) (by omega) (.int .i64 c)
 replace oS:=oS.keep (w':=w3.setCell ⟨gC,p,none⟩ (.int .i64 c)) (fun b hb=>jo w3 _ (by simp [Value.ownBlock] at hb;omega))
 replace oB:=oB.keep (w':=w3.setCell ⟨gC,p,none⟩ (.int .i64 c)) (fun b hb=>jo w3 _ (by simp [Value.ownBlock] at hb;omega))
 replace oC : bF FI 3 (w3.setCell ⟨gC,p,none⟩ (.int .i64 c)) (.slice (some ⟨gC,0,none⟩) x.Z.length pC) (x.Z.set p c) :=by
  have:=DC.out (c : Int)
  rw [show p * FI.n+0=p by simp [FI]] at this
  exact this
 replace hB:=hB.setCell (p:= ⟨gC,p,none⟩) (by simp;omega) (.int .i64 c)
 have Cw : w3.heap.size≤ (w3.setCell ⟨gC,p,none⟩ (.int .i64 c)).heap.size:=by simp
 clear DC fC cC
 generalize ER : w3.setCell ⟨gC,p,none⟩ (.int .i64 c) =w4 at oS oB oC aC au ay hB Cw⊢
 clear ER
 replace aF:=aC.cell 0 _ rfl
 replace aG:=aC.cell 1 _ rfl
 replace aA:=au.cell 0 _ rfl
 replace aB:=au.cell 1 _ rfl
 replace aO:=ay.cell 0 _ rfl
 replace aP:=ay.cell 1 _ rfl
 replace aK:=aC.fP
 replace aV:=aC.lt
 replace aI:=au.fP
 replace aU:=au.lt
 replace aX:=ay.fP
 replace bJ:=ay.lt
 have hbl:=Bv.out
 have hpb : x.Y.length≤pB:=by
  obtain⟨_,_,hv,q1,_⟩ :=oB.rd'
  injection hv with _ _ e3
  rw [e3]
  exact q1
 have s1 : p * 64≤x.Y.length:=by omega
 have s2 : p * 64<pB:=by omega
 have s3 : 3≤x.Y.length - p * 64:=by omega
 have s4 : p * 64+3≤x.Y.length:=by omega
 clear hbl
 have DF : bF FI 3 ((w4.alloc (.cells #[.int .i64 171, .int .i64 c, .int .i64 n] 3)).drew) (.slice (some ⟨gB,0,none⟩) x.Y.length pB) x.Y:= (oB.aN (.cells #[.int .i64 171, .int .i64 c, .int .i64 n] 3)).keep (fun _ _=>rfl)
 have hsrc : ∀j v, (([171, (c : Int), (n : Int)] : List Int).map (Value.int .i64))[j]? =some v→ ((w4.alloc (.cells #[.int .i64 171, .int .i64 c, .int .i64 n] 3)).drew).cell? ((⟨w4.heap.size,0,none⟩ : Addr).add j) =some v:=by
  intro j v hj
  have e : (⟨w4.heap.size,0,none⟩ : Addr).add j= ⟨w4.heap.size,j,none⟩ :=by simp [Addr.add]<;>omega
  rw [e]
  rcases j with _|_|_|j<;>simp at hj<;>subst hj<;>simp [go_sem]
 have HS:=Hid.aD hsrc
 obtain⟨q,hq⟩ : ∃q : Nat,q=p * 64:= ⟨_,rfl⟩
 rw [←hq] at s1 s2 s3 s4 Cv
 have HQ:=Hid.aD hq
 have hwr : IntKind.i64.wrap ((p : Int) * 64) = (q : Int) :=by rw [IntWalk.i64_in _ ⟨by omega,by omega⟩];omega
 have s5 : (0 : Int) ≤ (q : Int) :=by omega
 have s7 : ¬ pB=q:=by omega
 have s6 : (q : Int) ≤ (x.Y.length : Int) :=by omega
 clear hq
 clear hsrc
 go_upto_region 6 with (fail)
 go_cut [45] from 36 to 45 (fun r wx=>r= .int .i64 3∧bF FI 3 wx (.slice (some ⟨gB,0,none⟩) x.Y.length pB) (h_ x.Y p c 0) ∧bF FI 3 wx (.slice (some ⟨gC,0,none⟩) x.Z.length pC) (x.Z.set p c) ∧bF FI 3 wx (.slice (some ⟨w1.heap.size,0,none⟩) 0 0) []∧aJ wx w.heap.size [.slice H.Y.a H.Y.l H.Y.c, .slice H.Z.a H.Z.l H.Z.c]∧aJ wx (w.heap.size+1) [.slice none 0 0, .slice none 0 0]∧aJ wx (w1.heap.size+1) [.slice (some ⟨gB,0,none⟩) x.Y.length pB, .slice (some ⟨gC,0,none⟩) x.Z.length pC]∧Below w.heap.size w wx∧w4.heap.size≤wx.heap.size)
 case first=>
  go_region_law (first| (refine vT rfl (.tmp 40) (.tmp 44) 24 24 rfl 3 Try.underlying24 (by kernel_rfl) (g:=gB) (off:=q) (ad:= ⟨w4.heap.size,0,none⟩) (m:= [171, (c : Int), (n : Int)]) (b:=x.Y) (by simp [Act.eval];rfl) (by simp [Act.eval];rfl) DF HS.out s3 s4 ?_;intro w5 DI hx) | (go_simp;go_at_call 73;refine(hpp _).mono ?_;rintro e wv ⟨rfl,rfl⟩))
  all_goals
   rw [Cv.out] at DI
   have Em:= (aC.alloc (.cells #[.int .i64 171, .int .i64 c, .int .i64 n] 3)).drew.bn hx (by simp<;>omega)
   have En:= (au.alloc (.cells #[.int .i64 171, .int .i64 c, .int .i64 n] 3)).drew.bn hx (by simp<;>omega)
   have Eo:= (ay.alloc (.cells #[.int .i64 171, .int .i64 c, .int .i64 n] 3)).drew.bn hx (by simp<;>omega)
   have ES:= ((oS.aN (.cells #[.int .i64 171, .int .i64 c, .int .i64 n] 3)).keep (w':= (w4.alloc (.cells #[.int .i64 171, .int .i64 c, .int .i64 n] 3)).drew) (fun _ _=>rfl)).bn hx (fun b hb hm=>by simp only [List.mem_cons,List.not_mem_nil,or_false] at hm;have:=dw.1 hb;omega)
   have ET:= ((oC.aN (.cells #[.int .i64 171, .int .i64 c, .int .i64 n] 3)).keep (w':= (w4.alloc (.cells #[.int .i64 171, .int .i64 c, .int .i64 n] 3)).drew) (fun _ _=>rfl)).bn hx (fun b hb hm=>by simp only [List.mem_cons,List.not_mem_nil,or_false] at hm;have:=dw.1 hb;omega)
   have rM:= (hB.alloc hB.size (.cells #[.int .i64 171, .int .i64 c, .int .i64 n] 3)).drew.trans (hx.below (by simp;exact Nat.le_succ_of_le hB.size) (by simp;omega))
   have EU:=hx.size
   go_wp2_with fail
   go_meet
   exact⟨rfl,DI,ET,ES,Em,En,Eo,rM,by simp at EU;omega⟩
 case rest=>
  clear DF HS HQ hwr s1 s2 s3 s4 s5 s6 s7 oB oC oS aC au ay hB aF aG aA aB aO aP aK aI aX aV aU bJ Cv
  obtain⟨rfl,oB,oC,oS,aC,au,ay,hB,EW⟩ :=hcut
  have GK:=Hid.aD (show w1.heap.size+1<w4.heap.size by omega)
  go_wp2_with (go_at_call 73;refine(hpp _).mono ?_;rintro e wv ⟨rfl,rfl⟩)
  go_loopw [7,48] (fun s i wr=> ∃k : Nat,k≤n∧i= .int .i64 k∧bF FI 3 wr (.slice (some ⟨gB,0,none⟩) x.Y.length pB) (h_ x.Y p c k) ∧bF FI 3 wr (.slice (some ⟨gC,0,none⟩) x.Z.length pC) (x.Z.set p c) ∧bF FI 3 wr s (dN p k) ∧ (∀b∈bL s,b=w1.heap.size∨w4.heap.size≤b) ∧aJ wr w.heap.size [.slice H.Y.a H.Y.l H.Y.c, .slice H.Z.a H.Z.l H.Z.c]∧aJ wr (w.heap.size+1) [.slice none 0 0, .slice none 0 0]∧aJ wr (w1.heap.size+1) [.slice (some ⟨gB,0,none⟩) x.Y.length pB, .slice (some ⟨gC,0,none⟩) x.Z.length pC]∧Below w.heap.size w wr∧w4.heap.size≤wr.heap.size) (fun _ i _=>n - (intOf i).toNat)
  case atStart=>exact⟨0,Nat.zero_le _,rfl,oB,oC,oS,fun b hb=> .inl (dw.1 hb),aC,au,ay,hB,EW⟩
  case round=>
   obtain⟨k,hk,rfl,rO,vE,t_,fS,aC,au,ay,hB,GL⟩ :=hrel
   have hsl : (dN p k).length=k:=rz p k
   have HSL:=Hid.aD hsl
   clear hsl
   have aF:=aC.cell 0 _ rfl
   have aG:=aC.cell 1 _ rfl
   have aA:=au.cell 0 _ rfl
   have aB:=au.cell 1 _ rfl
   have aO:=ay.cell 0 _ rfl
   have aP:=ay.cell 1 _ rfl
   have aK:=aC.fP
   have aV:=aC.lt
   have aI:=au.fP
   have aU:=au.lt
   have aX:=ay.fP
   have bJ:=ay.lt
   by_cases hlt : k<n
   ·have hrm:=EN.out k hlt
    have hgl:=EM.out k hk
    have Bj : Hid (t.size≤1000) :=by
     show _≤_
     rw [Bu.out]
     decide
    have HL2 : Hid (p * 64+8+k * (bS (c : Int)).toNat+t.size≤ (h_ x.Y p c k).length) :=by
     show _≤_
     rw [Bu.out,hgl]
     omega
    have hsk:=fun W=>hsa k hlt W
    have zT:=fun W=>hga k hlt W
    have DJ:=Hid.aD (EP.out k)
    have HST:=Hid.aD (wH p k)
    have EX : bF FI 3 _ (.slice (some ⟨gB,0,none⟩) x.Y.length pB) (h_ x.Y p c k) :=rO
    clear hrm hgl oB oC oS hsa hga
    obtain⟨P,hP⟩ : ∃P,P=p * 64+8+k * (bS (c : Int)).toNat:= ⟨_,rfl⟩
    rw [←hP] at zT DJ HL2
    clear hP EX
    obtain⟨sl,hsl⟩ : ∃q,q=p * 4+k:= ⟨_,rfl⟩
    rw [←hsl] at hsk zT HST
    clear hsl
    go_wp2_with (go_at_call 74;refine(hsk _).mono ?_;rintro e wv ⟨rfl,rfl⟩)
    clear hsk
    go_region_with (first| (go_at_call 69; (first| ((with_reducible refine(zT _).mono ?_);rintro e wq ⟨rfl,rfl⟩) | ((with_reducible refine(zT _).mono ?_);rintro e wq ⟨rfl,rfl⟩))) | (go_at_call 71; (first| ((with_reducible refine(hfx _).mono ?_);rintro e wq ⟨rfl,hb⟩;replace aC:=aC.below hb;replace au:=au.below hb;replace ay:=ay.below hb;replace rO:=rO.step0 hb;replace vE:=vE.step0 hb;replace t_:=t_.step0 hb;replace hB:=hB.trans (hb.mono hB.size);have sz:=hb.size;clear hb;clear aF aG aK aV;obtain⟨aF,aG,aK,aV⟩ :=aC.f2;clear aA aB aI aU;obtain⟨aA,aB,aI,aU⟩ :=au.f2;clear aO aP aX bJ;obtain⟨aO,aP,aX,bJ⟩ :=ay.f2) | ((with_reducible refine(hfx _).mono ?_);rintro e wq ⟨rfl,hb⟩;replace hb:=eY hb;replace aC:=aC.below hb;replace au:=au.below hb;replace ay:=ay.below hb;replace rO:=rO.step0 hb;replace vE:=vE.step0 hb;replace t_:=t_.step0 hb;replace hB:=hB.trans (hb.mono hB.size);have sz:=hb.size;clear hb;clear aF aG aK aV;obtain⟨aF,aG,aK,aV⟩ :=aC.f2;clear aA aB aI aU;obtain⟨aA,aB,aI,aU⟩ :=au.f2;clear aO aP aX bJ;obtain⟨aO,aP,aX,bJ⟩ :=ay.f2))) | (go_at_call 70; ((with_reducible refine(rH _ _ _ P t (show bF FI 3 _ (.slice (some ⟨gB,0,none⟩) x.Y.length pB) (h_ x.Y p c k) from rO) Bj.out HL2.out).mono ?_);rintro e wq ⟨rfl,hbN,hx⟩;replace hB:=hB.trans (hx.below hB.size (fun b hb=>by have:=dw.1 hb;omega));have GN:=hx.size;replace aC:=aC.bn hx (fun hm=>by have:=dw.1 hm;omega);replace au:=au.bn hx (fun hm=>by have:=dw.1 hm;omega);replace ay:=ay.bn hx (fun hm=>by have:=dw.1 hm;omega);replace vE:=vE.bn hx (fun b hb hm=>by have e1:=dw.1 hb;have e2:=dw.1 hm;omega);replace t_:=t_.bn hx (fun b hb hm=>by have e2:=dw.1 hm;rcases fS b hb with hh|hh<;>omega);replace rO:=hbN;clear hx hbN;replace aF:=aC.cell 0 _ rfl;replace aG:=aC.cell 1 _ rfl;replace aA:=au.cell 0 _ rfl;replace aB:=au.cell 1 _ rfl;replace aO:=ay.cell 0 _ rfl;replace aP:=ay.cell 1 _ rfl;replace aK:=aC.fP;replace aV:=aC.lt;replace aI:=au.fP;replace aU:=au.lt;replace aX:=ay.fP;replace bJ:=ay.lt)))
    all_goals
     clear zT
     rw [Cu.out, ←DJ.out] at rO
     go_wp2_with (at_builtin;refine dV Try.stInt rfl _ _ rfl (v:=u7) (y:= .slice (some ⟨wq.heap.size,0,none⟩) 1 1) (l:=dN p k) (m:= [(sl : Int)]) rfl rfl (t_.aN _) (bF.lit FI [(sl : Int)] #[.int .i64 (sl : Int)] rfl (by simp [maxLen]) wq 3).rd' (by rw [HSL.out];simp;omega) ?_;intro v' w7 ho' hg' hat')
     have hx7:=bW.gP hg'
     have EY:=hx7.size
     have EZ:= (hB.alloc hB.size (.cells #[.int .i64 (sl : Int)] 3)).trans (hx7.below (by simp;exact Nat.le_succ_of_le hB.size) (fun b hb=>by rcases fS b hb with hh|hh<;>omega))
     go_roundw
     case rel=>
      refine⟨k+1,by omega,by go_num, (rO.aN (.cells #[.int .i64 (sl : Int)] 3)).bn hx7 (fun b hb hm=>by have e1:=dw.1 hb;rcases fS b hm with hh|hh<;>omega), (vE.aN (.cells #[.int .i64 (sl : Int)] 3)).bn hx7 (fun b hb hm=>by have e1:=dw.1 hb;rcases fS b hm with hh|hh<;>omega),by rw [HST.out];exact ho',fun b hb=> ?_, (aC.alloc (.cells #[.int .i64 (sl : Int)] 3)).bn hx7 (fun hm=>by rcases fS _ hm with hh|hh<;>omega), (au.alloc (.cells #[.int .i64 (sl : Int)] 3)).bn hx7 (fun hm=>by rcases fS _ hm with hh|hh<;>omega), (ay.alloc (.cells #[.int .i64 (sl : Int)] 3)).bn hx7 (fun hm=>by rcases fS _ hm with hh|hh<;>omega),EZ,by simp at EY;omega⟩
      rcases iE hat' b hb with hh|hh
      ·exact fS b hh
      ·simp at hh
       omega
     case measure=>simp [intOf];omega
   ·obtain rfl : k=n:=by omega
    obtain⟨A,c',hv,_⟩ :=t_.rd'
    subst hv
    go_wp2_with fail
    refine bodyPost_ret (v:= .tuple #[.agg #[.slice (some ⟨gB,0,none⟩) x.Y.length pB, .slice (some ⟨gC,0,none⟩) x.Z.length pC], .slice A (dN p k).length c']) (by simp [results,Try.results49,go_sem,aA,aB]) rfl ⟨⟨⟨some ⟨gB,0,none⟩,x.Y.length,pB⟩, ⟨some ⟨gC,0,none⟩,x.Z.length,pC⟩⟩, ⟨A, (dN p k).length,c'⟩,rfl,by rw [EO.out];exact⟨rO.bn (F:= [w.heap.size+1]) bV (fun b hb hm=>by simp only [List.mem_cons,List.not_mem_nil,or_false] at hm;have:=dw.1 hb;omega),vE.bn (F:= [w.heap.size+1]) bV (fun b hb hm=>by simp only [List.mem_cons,List.not_mem_nil,or_false] at hm;have:=dw.1 hb;omega),fun b hb hm=>by have e1:=dw.1 hb;have e2:=dw.1 hm;omega⟩,t_.bn (F:= [w.heap.size+1]) bV (fun b hb hm=>by simp only [List.mem_cons,List.not_mem_nil,or_false] at hm;rcases fS b hb with hh|hh<;>omega),fun b hb=> ?_,fun b hb=> ⟨by rcases fS b hb with hh|hh<;>omega,fun hm=> ?_⟩,Below.trans hB fJ⟩
    ·rcases dA.aZ.1 hb with hh|hh<;> (have:=dw.1 hh;omega)
    ·rcases dA.aZ.1 hm with hm|hm<;> (have e:=dw.1 hm;rcases fS b hb with hh|hh<;>omega)
end Go.Proofs.Ytkmggglljkmjoaa
namespace Go.Proofs.Ytkmggglljkmjoaa
open Go.RowKit
set_option maxRecDepth 100000 in
set_option maxHeartbeats 4000000 in
theorem AB (w : World)(H : dA)(x : Heap)(c : Nat)(h : fZ w w.heap.size H x)(hs : iK x≤536870912)(hok : fH x=true)(hc : c<3)(hp : idxOf (fun y=>y == -1) x.Z= -1) :
  Calls Try.prog 49 #[.agg #[.slice H.Y.a H.Y.l H.Y.c, .slice H.Z.a H.Z.l H.Z.c], .int .i64 c] w fun e w'=> ∃ (H' : dA) (A : Option Addr) (cp : Nat),e= .returned (.tuple #[.agg #[.slice H'.Y.a H'.Y.l H'.Y.c, .slice H'.Z.a H'.Z.l H'.Z.c], .slice A 0 cp]) ∧eT w' H' x∧ (∀g∈H'.foot,w.heap.size≤g) ∧Below w.heap.size w w':=by
 have hcl : aW 0 2 (c : Int) =true:=bD.2 ⟨by omega,by omega⟩
 have hix:=fun W hW=>nX W _ x.Z (-1) (show dz FI W W.heap.size (.slice H.Z.a H.Z.l H.Z.c) x.Z from hW)
 rw [hp] at hix
 have hho:=fun (W : World) (hW : Below w.heap.size w W) =>nW W H x (dH h hW)
 rw [hok] at hho
 clear hok hp
 obtain⟨w0,hW0⟩ : ∃x,x= ((w.alloc (.cells #[.slice H.Y.a H.Y.l H.Y.c, .slice H.Z.a H.Z.l H.Z.c] 26)).alloc (.cells #[.slice none 0 0, .slice none 0 0] 26)) := ⟨_,rfl⟩
 have aC : aJ w0 (w.heap.size) [.slice H.Y.a H.Y.l H.Y.c, .slice H.Z.a H.Z.l H.Z.c]:=by
  rw [hW0]
  exact aJ.alloc aJ.nw _
 have au : aJ w0 (w.heap.size+1) [.slice none 0 0, .slice none 0 0]:=by
  rw [hW0]
  exact aJ.nw
 have hB : Below w.heap.size w w0:=by
  rw [hW0]
  exact dn
 go_enter Try.func49,Try.ntmps49
 go_wp2_with fail
 rw [←hW0]
 clear hW0
 have jy:=aC.lt
 have ji:=au.lt
 obtain⟨aF,aG,aK,aV⟩ :=aC.f2
 obtain⟨aA,aB,aI,aU⟩ :=au.f2
 refine(jU _ H x (dH h hB) (by omega)).mono ?_
 rintro e w1 ⟨aH,rfl,aT,l_c,hb⟩
 have u_c:=aT.lt
 replace aC:=aC.below hb
 replace au:=au.below hb
 replace hB:=hB.trans (hb.mono hB.size)
 have sz:=hb.size
 clear hb
 clear aF aG aK aV
 obtain⟨aF,aG,aK,aV⟩ :=aC.f2
 clear aA aB aI aU
 obtain⟨aA,aB,aI,aU⟩ :=au.f2
 have ay : aJ ((w1.alloc (.cells #[] 3)).alloc (.cells #[.slice aH.Y.a aH.Y.l aH.Y.c, .slice aH.Z.a aH.Z.l aH.Z.c] 26)) (w1.heap.size+1) [.slice aH.Y.a aH.Y.l aH.Y.c, .slice aH.Z.a aH.Z.l aH.Z.c]:=by
  have hb:=aJ.new (w1.alloc (.cells #[] 3)) #[.slice aH.Y.a aH.Y.l aH.Y.c, .slice aH.Z.a aH.Z.l aH.Z.c] 26
  rw [World.size_alloc] at hb
  exact hb
 replace aT:= (aT.aN (.cells #[] 3)).aN (.cells #[.slice aH.Y.a aH.Y.l aH.Y.c, .slice aH.Z.a aH.Z.l aH.Z.c] 26)
 replace aC:= (aC.alloc (.cells #[] 3)).alloc (.cells #[.slice aH.Y.a aH.Y.l aH.Y.c, .slice aH.Z.a aH.Z.l aH.Z.c] 26)
 replace au:= (au.alloc (.cells #[] 3)).alloc (.cells #[.slice aH.Y.a aH.Y.l aH.Y.c, .slice aH.Z.a aH.Z.l aH.Z.c] 26)
 replace hB:= (hB.alloc hB.size (.cells #[] 3)).alloc (by simp;exact Nat.le_succ_of_le hB.size) (.cells #[.slice aH.Y.a aH.Y.l aH.Y.c, .slice aH.Z.a aH.Z.l aH.Z.c] 26)
 go_wp2_with fail
 clear aF aG aA aB aK aI aV aU
 generalize hW2 : ((w1.alloc (.cells #[] 3)).alloc (.cells #[.slice aH.Y.a aH.Y.l aH.Y.c, .slice aH.Z.a aH.Z.l aH.Z.c] 26)) =w2 at aT aC au ay hB⊢
 clear hW2
 have aF:=aC.cell 0 _ rfl
 have aG:=aC.cell 1 _ rfl
 refine(hix _ (dh h.Z hB)).mono ?_
 clear hix
 rintro e wv ⟨rfl,rfl⟩
 go_wp2_with fail
 refine(hho _ hB).mono ?_
 clear hho
 rintro e w3 ⟨rfl,hb⟩
 have zR:=hb.size
 replace au:=au.below hb
 replace ay:=ay.below hb
 replace aT:=aT.step0 hb
 replace hB:=hB.trans (hb.mono hB.size)
 clear hb aF aG
 have aA:=au.cell 0 _ rfl
 have aB:=au.cell 1 _ rfl
 have aO:=ay.cell 0 _ rfl
 have aP:=ay.cell 1 _ rfl
 have aI:=au.fP
 have aU:=au.lt
 have bJ:=ay.lt
 go_wp2_with (go_at_call 48;refine(lG _ _).mono ?_;rw [hcl];rintro e wv ⟨rfl,rfl⟩)
 refine bodyPost_ret (v:= .tuple #[.agg #[.slice aH.Y.a aH.Y.l aH.Y.c, .slice aH.Z.a aH.Z.l aH.Z.c], .slice (some ⟨w1.heap.size,0,none⟩) 0 0]) (by simp [results,Try.results49,go_sem,aA,aB]) rfl ⟨aH,some ⟨w1.heap.size,0,none⟩,0,rfl,aT.bn (F:= [w.heap.size+1]) bV (fun g hg hm=>by simp only [List.mem_cons,List.not_mem_nil,or_false] at hm;have:=l_c g hg;have:=u_c g hg;omega),fun g hg=>by have:=l_c g hg;omega,Below.trans hB fJ⟩
set_option maxHeartbeats 400000 in
theorem vU (s g : Int)(w : World)(h1 : aW 0 23 s=true)(h2 : aW 1 6 g=true) : Calls Try.prog 50 #[.int .i64 s, .int .i64 g] w fun e w'=>e= .returned (.int .i64 (g * 32+s)) ∧w=w':=by
 obtain⟨a1,a2⟩ :=bD.1 h1
 obtain⟨b1,b2⟩ :=bD.1 h2
 go_enter Try.func50,Try.ntmps50
 go_wp2_with (first| (go_at_call 36;refine(gW _ _ _ _).mono ?_; (first|rw [h1]|rw [h2]);rintro e w1 ⟨rfl,rfl⟩) | (go_at_call 64;refine(iV _ _).mono ?_;rw [h1];rintro e w1 ⟨rfl,rfl⟩))
 go_ret
 exact⟨rfl,rfl⟩
theorem uX (n : Int) : (dK n= -1∧ (n<1∨40<n)) ∨ (dK n=0∧1≤n∧n≤8) ∨ (dK n=1∧8<n∧n≤16) ∨ (dK n=2∧16<n∧n≤40) :=by
 unfold dK
 repeat' split
 all_goals omega
set_option maxHeartbeats 4000000 in
theorem jr (n : Int)(w : World) : Calls Try.prog 21 #[.int .i64 n] w fun e w'=>e= .returned (.int .i64 (dK n)) ∧w=w':=by
 have hz:=fun (c : Int) W=>xP c W
 have h0 : ∀W,Calls Try.prog 45 #[.int .i64 0] W fun e w'=>e= .returned (.int .i64 8) ∧W=w':=fun W=>hz 0 W
 have h1 : ∀W,Calls Try.prog 45 #[.int .i64 1] W fun e w'=>e= .returned (.int .i64 16) ∧W=w':=fun W=>hz 1 W
 have h2 : ∀W,Calls Try.prog 45 #[.int .i64 2] W fun e w'=>e= .returned (.int .i64 40) ∧W=w':=fun W=>hz 2 W
 have HC:=Hid.aD (uX n)
 clear hz
 go_enter Try.func21,Try.ntmps21
 go_wp2_with fail
 go_loop [4] (fun i=> (i= .int .i64 0∧Hid (1≤n→0<n)) ∨ (i= .int .i64 1∧Hid (1≤n→8<n)) ∨ (i= .int .i64 2∧Hid (1≤n→16<n)) ∨ (i= .int .i64 3∧Hid (1≤n→40<n))) (fun i=>3 - (intOf i).toNat)
 case atStart=>exact Or.inl ⟨rfl,Hid.aD (fun h=>by omega)⟩
 case round=>
  rcases hrel with ⟨rfl,HN⟩ | ⟨rfl,HN⟩ | ⟨rfl,HN⟩ | ⟨rfl,HN⟩
  ·by_cases c1 : 1≤n
   ·by_cases c2 : n≤8
    ·go_wp2_with (go_at_call 45;refine(h0 _).mono ?_;rintro e w1 ⟨rfl,rfl⟩)
     have hE : dK n=0:=by rcases HC.out with h|h|h|h<;>omega
     go_ret
     exact⟨by rw [hE];rfl,rfl⟩
    ·go_wp2_with (go_at_call 45;refine(h0 _).mono ?_;rintro e w1 ⟨rfl,rfl⟩)
     go_round
     ·exact Or.inr (Or.inl ⟨rfl,Hid.aD (fun _=>by omega)⟩)
     ·simp [intOf]
   ·go_wp2_with fail
    go_round
    ·exact Or.inr (Or.inl ⟨rfl,Hid.aD (fun _=>by omega)⟩)
    ·simp [intOf]
  ·by_cases c1 : 1≤n
   ·by_cases c2 : n≤16
    ·go_wp2_with (go_at_call 45;refine(h1 _).mono ?_;rintro e w1 ⟨rfl,rfl⟩)
     have hE : dK n=1:=by have:=HN.out;rcases HC.out with h|h|h|h<;>omega
     go_ret
     exact⟨by rw [hE];rfl,rfl⟩
    ·go_wp2_with (go_at_call 45;refine(h1 _).mono ?_;rintro e w1 ⟨rfl,rfl⟩)
     go_round
     ·exact Or.inr (Or.inr (Or.inl ⟨rfl,Hid.aD (fun _=>by omega)⟩))
     ·simp [intOf]
   ·go_wp2_with fail
    go_round
    ·exact Or.inr (Or.inr (Or.inl ⟨rfl,Hid.aD (fun _=>by omega)⟩))
    ·simp [intOf]
  ·by_cases c1 : 1≤n
   ·by_cases c2 : n≤40
    ·go_wp2_with (go_at_call 45;refine(h2 _).mono ?_;rintro e w1 ⟨rfl,rfl⟩)
     have hE : dK n=2:=by have:=HN.out;rcases HC.out with h|h|h|h<;>omega
     go_ret
     exact⟨by rw [hE];rfl,rfl⟩
    ·go_wp2_with (go_at_call 45;refine(h2 _).mono ?_;rintro e w1 ⟨rfl,rfl⟩)
     go_round
     ·exact Or.inr (Or.inr (Or.inr ⟨rfl,Hid.aD (fun _=>by omega)⟩))
     ·simp [intOf]
   ·go_wp2_with fail
    go_round
    ·exact Or.inr (Or.inr (Or.inr ⟨rfl,Hid.aD (fun _=>by omega)⟩))
    ·simp [intOf]
  ·go_wp2_with fail
   have hE : dK n= -1:=by have:=HN.out;rcases HC.out with h|h|h|h<;>omega
   go_ret
   exact⟨by rw [hE];rfl,rfl⟩
end Go.Proofs.Ytkmggglljkmjoaa
