/-
  Several texts in one: lemmas and contracts that the claim rests on.
-/
import Derived.Test.YtkmggglljkmjoaaUHNoReuse2
import Derived.Test.YtkmggglljkmjoaaUHNoReuse1
import Derived.Deep.QuietTactic
import Derived.BigQuiet
import Derived.Deep.LoopGhost
import Derived.Deep.RegionHeld3
import Derived.WalkSpells
import Derived.Laws.Cover3
import Derived.Test.YtkmggglljkmjoaaUHNoReuse16
import Derived.Test.YtkmggglljkmjoaaUHNoReuse15
namespace Go.Proofs.Ytkmggglljkmjoaa
open Go.RowKit
set_option maxRecDepth 100000 in
set_option maxHeartbeats 4000000 in
theorem sN (w : World)(H : aY)(x : Lists)(wk c : Nat)(l : List Int)(s : Int)(h : gM w w.heap.size H x)(hs : eU x≤536870912)(hok : dM x=true)(hw : wk<3)(hc : c<3)(hrow : x.O[wk * 3+c]? =some (l++ [s])) :
  Calls Try.prog 22 #[.agg #[.slice H.G.a H.G.l H.G.c, .slice H.O.a H.O.l H.O.c], .int .i64 wk, .int .i64 c] w fun e w'=> ∃H' : aY,e= .returned (.tuple #[.agg #[.slice H'.G.a H'.G.l H'.G.c, .slice H'.O.a H'.O.l H'.O.c], .int .i64 s]) ∧fE w' H' {x with O:=x.O.set (wk * 3+c) l}∧ (∀g∈H'.foot,w.heap.size≤g) ∧Below w.heap.size w w':=by
 obtain⟨hl3,mD⟩ :=jC hok
 have H3:=Hid.aD hl3
 have H9:=Hid.aD mD
 have HR:=Hid.aD hrow
 have hsr : (l++ [s]).length≤536870912:=by
  have:=lY (List.mem_of_getElem? hrow)
  unfold eU at hs
  omega
 simp only [List.length_append,List.length_singleton] at hsr
 have hoa:=fun W=>pG wk c hw hc W
 have lW:=Hid.aD (show wk * 3+c<x.O.length by omega)
 clear hl3 mD hrow
 obtain⟨k,hk⟩ : ∃k,k=wk * 3+c:= ⟨_,rfl⟩
 rw [←hk] at hoa HR lW
 rw [←hk]
 clear hk
 obtain⟨w0,hW0⟩ : ∃x,x= ((w.alloc (.cells #[.slice H.G.a H.G.l H.G.c, .slice H.O.a H.O.l H.O.c] 29)).alloc (.cells #[.slice none 0 0, .slice none 0 0] 29)) := ⟨_,rfl⟩
 have aC : aJ w0 (w.heap.size) [.slice H.G.a H.G.l H.G.c, .slice H.O.a H.O.l H.O.c]:=by
  rw [hW0]
  exact aJ.alloc aJ.nw _
 have au : aJ w0 (w.heap.size+1) [.slice none 0 0, .slice none 0 0]:=by
  rw [hW0]
  exact aJ.nw
 have hB : Below w.heap.size w w0:=by
  rw [hW0]
  exact dn
 go_enter Try.func22,Try.ntmps22
 go_wp2_with fail
 rw [←hW0]
 clear hW0
 have jy:=aC.lt
 have ji:=au.lt
 obtain⟨aF,aG,aK,aV⟩ :=aC.f2
 obtain⟨aA,aB,aI,aU⟩ :=au.f2
 refine(gN _ H x (dP h hB) hs).mono ?_
 rintro e w1 ⟨aH,rfl,aT,l_c,hb⟩
 have u_c:=aT.lt
 replace aC:=aC.below hb
 replace au:=au.below hb
 replace hB:=hB.trans (hb.mono hB.size)
 have sz:=hb.size
 clear hb
 clear aF aG aK aV
 obtain⟨aF,aG,aK,aV⟩ :=aC.f2
 clear aA aB aI aU
 obtain⟨aA,aB,aI,aU⟩ :=au.f2
 obtain⟨⟨A1,n1,p1⟩,T1, ⟨A2,n2,p2⟩,T2⟩ :=aH
 obtain⟨g1,c1,hv1,hg1⟩ :=dJ.jK (v:= .slice A1 n1 p1) aT.G (by rw [H3.out];decide)
 obtain⟨g2,c2,hv2,hg2⟩ :=dJ.jK (v:= .slice A2 n2 p2) aT.O (by rw [H9.out];decide)
 injection hv1 with i1 i2 i3
 injection hv2 with j1 j2 j3
 subst i1 i2 i3 j1 j2 j3
 have nM : g1∈aY.foot ⟨⟨some ⟨g1,0,none⟩,x.G.length,p1⟩,T1, ⟨some ⟨g2,0,none⟩,x.O.length,p2⟩,T2⟩ :=aY.aZ.2 (.inl (cu.2 (.inl rfl)))
 have nN : g2∈aY.foot ⟨⟨some ⟨g1,0,none⟩,x.G.length,p1⟩,T1, ⟨some ⟨g2,0,none⟩,x.O.length,p2⟩,T2⟩ :=aY.aZ.2 (.inr (cu.2 (.inl rfl)))
 have zU:=l_c _ nM
 have Bw:=l_c _ nN
 clear nM nN
 go_wp2_with (go_at_call 46;refine(hoa _).mono ?_;rintro e wv ⟨rfl,rfl⟩)
 clear hoa
 generalize hO : Obj.cells #[.slice (some ⟨g1,0,none⟩) x.G.length p1, .slice (some ⟨g2,0,none⟩) x.O.length p2] 29=O_
 replace aC:=aC.alloc O_
 replace au:=au.alloc O_
 replace aT:=aT.aN O_
 replace hB:=hB.alloc hB.size O_
 have ay : aJ (w1.alloc O_) w1.heap.size [.slice (some ⟨g1,0,none⟩) x.G.length p1, .slice (some ⟨g2,0,none⟩) x.O.length p2]:=hO ▸ aJ.new _ _ _
 have iF:=ay.lt
 have sz : w1.heap.size≤ (w1.alloc O_).heap.size:=Nat.le_of_lt ay.lt
 generalize hG : (w1.alloc O_) =w2 at aC au aT hB ay iF sz⊢
 clear hG hO O_
 clear aF aG aK aV
 obtain⟨aF,aG,aK,aV⟩ :=aC.f2
 clear aA aB aI aU
 obtain⟨aA,aB,aI,aU⟩ :=au.f2
 obtain⟨aO,aP,aX,bJ⟩ :=ay.f2
 refine(jI _ H x (dP h hB)).mono ?_
 rw [hok]
 rintro e w3 ⟨rfl,hb⟩
 replace aC:=aC.below hb
 replace au:=au.below hb
 replace ay:=ay.below hb
 have aT:=aT.step0 hb
 replace hB:=hB.trans (hb.mono hB.size)
 have sz:=hb.size
 clear hb
 clear aF aG aK aV
 obtain⟨aF,aG,aK,aV⟩ :=aC.f2
 clear aA aB aI aU
 obtain⟨aA,aB,aI,aU⟩ :=au.f2
 clear aO aP aX bJ
 obtain⟨aO,aP,aX,bJ⟩ :=ay.f2
 clear hok
 obtain⟨so,jv⟩ : ∃q,T2[k]? =some q:= ⟨_,List.getElem?_eq_getElem (by rw [aT.O.len];exact lW.out)⟩
 have ino:=aT.O.inner k so _ jv HR.out
 have po:=aT.O.outer.cell_ (j:=0) jv (by decide)
 simp only [FS,Nat.mul_one,Nat.add_zero] at po
 have ff:=aT.O.outer.iP k
 have HV:=Hid.aD jv
 have hkk : k<x.O.length:=lW.out
 have zV : g2≠w.heap.size:=by omega
 have zW : w.heap.size≠g2:=by omega
 have yC : g2≠w.heap.size+1:=by omega
 have yE : w.heap.size+1≠g2:=by omega
 have yD : g2≠w1.heap.size:=by omega
 have yF : w1.heap.size≠g2:=by omega
 obtain⟨Ao,co,qK,hq1,_⟩ :=ino.rd'
 obtain⟨ao,no,bo⟩ :=so
 injection qK with k1 k2 k3
 subst k1 k2 k3
 simp only [List.length_append,List.length_singleton] at hq1
 obtain⟨gs,cs,hvs,_⟩ :=bF.kS (v:= .slice ao (l++ [s]).length bo) ino (by simp)
 injection hvs with k1 k2 k3
 subst k1 k3
 have hcl : l.length+1≤bo:=hq1
 have rP : w3.cell? ⟨g2,k,none⟩ =some (Value.slice (some ⟨gs,0,none⟩) (l.length+1) bo) :=by simpa [SV.val] using po
 clear po
 have ce:=bF.cell_ (show bF FI 3 _ (.slice (some ⟨gs,0,none⟩) (l++ [s]).length bo) (l++ [s]) from ino) (last_at (l:=l) (s:=s)) FI.pos
 simp only [FI,Nat.mul_one,Nat.add_zero] at ce
 replace ce : _=some (Value.int .i64 s) :=ce
 have hq:=yH w3 g2 k gs l.length bo s rP ff ce (by omega) hcl
 clear ce
 have hN:=dJ.Bz (s':= ⟨some ⟨gs,0,none⟩,l.length,l.length⟩) (l':=l) aT.O HV.out ⟨_, [s],ino, .inr ⟨gs,_,l.length,bo,rfl,rfl,Nat.le_refl _,by omega⟩⟩ rfl
 change jw _ _ _ (World.setCell _ _ (.slice (some ⟨gs,0,none⟩) l.length l.length)) _ _ _ at hN
 go_wp2_with (first| (go_at_call 47;refine hq.mono ?_;rintro e wv ⟨rfl,rfl⟩))
 have hO:= (aT.G.bn (F:= [g2]) ((bW.refl _ w3).gI (g:=g2) (i:=k) (by simp) (.slice (some ⟨gs,0,none⟩) l.length l.length)) (fun b hb hm=>by simp only [List.mem_cons,List.not_mem_nil,or_false] at hm;subst hm;exact aT.iM b hb (cu.2 (.inl rfl)))).toW
 have hfs : dL (.slice (some ⟨g2,0,none⟩) x.O.length p2) (T2.set k ⟨some ⟨gs,0,none⟩,l.length,l.length⟩) =dL (.slice (some ⟨g2,0,none⟩) x.O.length p2) T2:=by unfold dL;rw [jQ (s':= ⟨some ⟨gs,0,none⟩,l.length,l.length⟩) HV.out rfl]
 have hfm : ∀b,b∈dL (.slice (some ⟨g2,0,none⟩) x.O.length p2) (T2.set k ⟨some ⟨gs,0,none⟩,l.length,l.length⟩) →b∈dL (.slice (some ⟨g2,0,none⟩) x.O.length p2) T2:=fun b hb=>by rw [←hfs];exact hb
 refine bodyPost_ret (v:= .tuple #[.agg #[.slice (some ⟨g1,0,none⟩) x.G.length p1, .slice (some ⟨g2,0,none⟩) x.O.length p2], .int .i64 s]) (by simp [results,Try.results22,go_sem,aA,aB]) rfl ⟨⟨⟨some ⟨g1,0,none⟩,x.G.length,p1⟩,T1, ⟨some ⟨g2,0,none⟩,x.O.length,p2⟩,T2.set k ⟨some ⟨gs,0,none⟩,l.length,l.length⟩⟩,rfl, ⟨hO.bn (F:= [w.heap.size+1]) bV (fun b hb hm=>by simp only [List.mem_cons,List.not_mem_nil,or_false] at hm;have:=l_c b (aY.aZ.2 (.inl hb));omega),hN.bn (F:= [w.heap.size+1]) bV (fun b hb hm=>by simp only [List.mem_cons,List.not_mem_nil,or_false] at hm;have:=l_c b (aY.aZ.2 (.inr (hfm b hb)));omega),fun b hb hm=>aT.iM b hb (hfm b hm)⟩,fun b hb=> ?_,Below.trans hB fJ⟩
 rcases aY.aZ.1 hb with hb|hb
 ·have:=l_c b (aY.aZ.2 (.inl hb))
  omega
 ·have:=l_c b (aY.aZ.2 (.inr (hfm b hb)))
  omega
set_option maxRecDepth 100000 in
set_option maxHeartbeats 4000000 in
theorem kV (w : World)(H : aY)(x : Lists)(wk c : Nat)(h : gM w w.heap.size H x)(hs : eU x≤536870912)(hok : dM x=true)(hw : wk<3)(hc : c<3)(hrow : x.O[wk * 3+c]? =some ([])) :
  Calls Try.prog 22 #[.agg #[.slice H.G.a H.G.l H.G.c, .slice H.O.a H.O.l H.O.c], .int .i64 wk, .int .i64 c] w fun e w'=> ∃H' : aY,e= .returned (.tuple #[.agg #[.slice H'.G.a H'.G.l H'.G.c, .slice H'.O.a H'.O.l H'.O.c], .int .i64 (-1)]) ∧dW w' H' x∧ (∀g∈H'.foot,w.heap.size≤g) ∧Below w.heap.size w w':=by
 obtain⟨hl3,mD⟩ :=jC hok
 have H3:=Hid.aD hl3
 have H9:=Hid.aD mD
 have HR:=Hid.aD hrow
 have hoa:=fun W=>pG wk c hw hc W
 have lW:=Hid.aD (show wk * 3+c<x.O.length by omega)
 clear hl3 mD hrow
 obtain⟨k,hk⟩ : ∃k,k=wk * 3+c:= ⟨_,rfl⟩
 rw [←hk] at hoa HR lW
 clear hk
 obtain⟨w0,hW0⟩ : ∃x,x= ((w.alloc (.cells #[.slice H.G.a H.G.l H.G.c, .slice H.O.a H.O.l H.O.c] 29)).alloc (.cells #[.slice none 0 0, .slice none 0 0] 29)) := ⟨_,rfl⟩
 have aC : aJ w0 (w.heap.size) [.slice H.G.a H.G.l H.G.c, .slice H.O.a H.O.l H.O.c]:=by
  rw [hW0]
  exact aJ.alloc aJ.nw _
 have au : aJ w0 (w.heap.size+1) [.slice none 0 0, .slice none 0 0]:=by
  rw [hW0]
  exact aJ.nw
 have hB : Below w.heap.size w w0:=by
  rw [hW0]
  exact dn
 go_enter Try.func22,Try.ntmps22
 go_wp2_with fail
 rw [←hW0]
 clear hW0
 have jy:=aC.lt
 have ji:=au.lt
 obtain⟨aF,aG,aK,aV⟩ :=aC.f2
 obtain⟨aA,aB,aI,aU⟩ :=au.f2
 refine(gN _ H x (dP h hB) hs).mono ?_
 rintro e w1 ⟨aH,rfl,aT,l_c,hb⟩
 have u_c:=aT.lt
 replace aC:=aC.below hb
 replace au:=au.below hb
 replace hB:=hB.trans (hb.mono hB.size)
 have sz:=hb.size
 clear hb
 clear aF aG aK aV
 obtain⟨aF,aG,aK,aV⟩ :=aC.f2
 clear aA aB aI aU
 obtain⟨aA,aB,aI,aU⟩ :=au.f2
 obtain⟨⟨A1,n1,p1⟩,T1, ⟨A2,n2,p2⟩,T2⟩ :=aH
 obtain⟨g1,c1,hv1,hg1⟩ :=dJ.jK (v:= .slice A1 n1 p1) aT.G (by rw [H3.out];decide)
 obtain⟨g2,c2,hv2,hg2⟩ :=dJ.jK (v:= .slice A2 n2 p2) aT.O (by rw [H9.out];decide)
 injection hv1 with i1 i2 i3
 injection hv2 with j1 j2 j3
 subst i1 i2 i3 j1 j2 j3
 have nM : g1∈aY.foot ⟨⟨some ⟨g1,0,none⟩,x.G.length,p1⟩,T1, ⟨some ⟨g2,0,none⟩,x.O.length,p2⟩,T2⟩ :=aY.aZ.2 (.inl (cu.2 (.inl rfl)))
 have nN : g2∈aY.foot ⟨⟨some ⟨g1,0,none⟩,x.G.length,p1⟩,T1, ⟨some ⟨g2,0,none⟩,x.O.length,p2⟩,T2⟩ :=aY.aZ.2 (.inr (cu.2 (.inl rfl)))
 have zU:=l_c _ nM
 have Bw:=l_c _ nN
 clear nM nN
 go_wp2_with (go_at_call 46;refine(hoa _).mono ?_;rintro e wv ⟨rfl,rfl⟩)
 clear hoa
 generalize hO : Obj.cells #[.slice (some ⟨g1,0,none⟩) x.G.length p1, .slice (some ⟨g2,0,none⟩) x.O.length p2] 29=O_
 replace aC:=aC.alloc O_
 replace au:=au.alloc O_
 replace aT:=aT.aN O_
 replace hB:=hB.alloc hB.size O_
 have ay : aJ (w1.alloc O_) w1.heap.size [.slice (some ⟨g1,0,none⟩) x.G.length p1, .slice (some ⟨g2,0,none⟩) x.O.length p2]:=hO ▸ aJ.new _ _ _
 have iF:=ay.lt
 have sz : w1.heap.size≤ (w1.alloc O_).heap.size:=Nat.le_of_lt ay.lt
 generalize hG : (w1.alloc O_) =w2 at aC au aT hB ay iF sz⊢
 clear hG hO O_
 clear aF aG aK aV
 obtain⟨aF,aG,aK,aV⟩ :=aC.f2
 clear aA aB aI aU
 obtain⟨aA,aB,aI,aU⟩ :=au.f2
 obtain⟨aO,aP,aX,bJ⟩ :=ay.f2
 refine(jI _ H x (dP h hB)).mono ?_
 rw [hok]
 rintro e w3 ⟨rfl,hb⟩
 replace aC:=aC.below hb
 replace au:=au.below hb
 replace ay:=ay.below hb
 have aT:=aT.step0 hb
 replace hB:=hB.trans (hb.mono hB.size)
 have sz:=hb.size
 clear hb
 clear aF aG aK aV
 obtain⟨aF,aG,aK,aV⟩ :=aC.f2
 clear aA aB aI aU
 obtain⟨aA,aB,aI,aU⟩ :=au.f2
 clear aO aP aX bJ
 obtain⟨aO,aP,aX,bJ⟩ :=ay.f2
 clear hok
 obtain⟨so,jv⟩ : ∃q,T2[k]? =some q:= ⟨_,List.getElem?_eq_getElem (by rw [aT.O.len];exact lW.out)⟩
 have ino:=aT.O.inner k so _ jv HR.out
 have po:=aT.O.outer.cell_ (j:=0) jv (by decide)
 simp only [FS,Nat.mul_one,Nat.add_zero] at po
 have ff:=aT.O.outer.iP k
 have HV:=Hid.aD jv
 have hkk : k<x.O.length:=lW.out
 have zV : g2≠w.heap.size:=by omega
 have zW : w.heap.size≠g2:=by omega
 have yC : g2≠w.heap.size+1:=by omega
 have yE : w.heap.size+1≠g2:=by omega
 have yD : g2≠w1.heap.size:=by omega
 have yF : w1.heap.size≠g2:=by omega
 obtain⟨Ao,co,qK,_⟩ :=ino.rd'
 obtain⟨ao,no,bo⟩ :=so
 injection qK with k1 k2 k3
 subst k1 k2 k3
 have rP : _=some (Value.slice ao 0 bo) :=po
 clear po
 have hq:=yG w3 g2 k bo ao rP
 go_wp2_with (first| (go_at_call 47;refine hq.mono ?_;rintro e wv ⟨rfl,rfl⟩))
 refine bodyPost_ret (v:= .tuple #[.agg #[.slice (some ⟨g1,0,none⟩) x.G.length p1, .slice (some ⟨g2,0,none⟩) x.O.length p2], .int .i64 (-1)]) (by simp [results,Try.results22,go_sem,aA,aB]) rfl ⟨⟨⟨some ⟨g1,0,none⟩,x.G.length,p1⟩,T1, ⟨some ⟨g2,0,none⟩,x.O.length,p2⟩,T2⟩,rfl,aT.bn (F:= [w.heap.size+1]) bV (fun g hg hm=>by simp only [List.mem_cons,List.not_mem_nil,or_false] at hm;have:=l_c g hg;have:=u_c g hg;omega),fun g hg=>by have:=l_c g hg;omega,Below.trans hB fJ⟩
set_option maxRecDepth 100000 in
set_option maxHeartbeats 4000000 in
theorem qd (w : World)(H : aY)(x : Lists)(c : Nat)(l : List Int)(s : Int)(h : gM w w.heap.size H x)(hs : eU x≤536870912)(hok : dM x=true)(hc : c<3)(hrow : x.G[c]? =some (l++ [s])) :
  Calls Try.prog 23 #[.agg #[.slice H.G.a H.G.l H.G.c, .slice H.O.a H.O.l H.O.c], .int .i64 c] w fun e w'=> ∃H' : aY,e= .returned (.tuple #[.agg #[.slice H'.G.a H'.G.l H'.G.c, .slice H'.O.a H'.O.l H'.O.c], .int .i64 s]) ∧fE w' H' {x with G:=x.G.set c l}∧ (∀g∈H'.foot,w.heap.size≤g) ∧Below w.heap.size w w':=by
 obtain⟨hl3,mD⟩ :=jC hok
 have H3:=Hid.aD hl3
 have H9:=Hid.aD mD
 have HR:=Hid.aD hrow
 have hsr : (l++ [s]).length≤536870912:=by
  have:=lY (List.mem_of_getElem? hrow)
  unfold eU at hs
  omega
 simp only [List.length_append,List.length_singleton] at hsr
 have lW:=Hid.aD (show c<x.G.length by omega)
 have AO : aW 0 2 (c : Int) =true:=bD.2 ⟨by omega,by omega⟩
 clear hl3 mD hrow
 obtain⟨k,rfl⟩ : ∃k,k=c:= ⟨_,rfl⟩
 obtain⟨w0,hW0⟩ : ∃x,x= ((w.alloc (.cells #[.slice H.G.a H.G.l H.G.c, .slice H.O.a H.O.l H.O.c] 29)).alloc (.cells #[.slice none 0 0, .slice none 0 0] 29)) := ⟨_,rfl⟩
 have aC : aJ w0 (w.heap.size) [.slice H.G.a H.G.l H.G.c, .slice H.O.a H.O.l H.O.c]:=by
  rw [hW0]
  exact aJ.alloc aJ.nw _
 have au : aJ w0 (w.heap.size+1) [.slice none 0 0, .slice none 0 0]:=by
  rw [hW0]
  exact aJ.nw
 have hB : Below w.heap.size w w0:=by
  rw [hW0]
  exact dn
 go_enter Try.func23,Try.ntmps23
 go_wp2_with fail
 rw [←hW0]
 clear hW0
 have jy:=aC.lt
 have ji:=au.lt
 obtain⟨aF,aG,aK,aV⟩ :=aC.f2
 obtain⟨aA,aB,aI,aU⟩ :=au.f2
 refine(gN _ H x (dP h hB) hs).mono ?_
 rintro e w1 ⟨aH,rfl,aT,l_c,hb⟩
 have u_c:=aT.lt
 replace aC:=aC.below hb
 replace au:=au.below hb
 replace hB:=hB.trans (hb.mono hB.size)
 have sz:=hb.size
 clear hb
 clear aF aG aK aV
 obtain⟨aF,aG,aK,aV⟩ :=aC.f2
 clear aA aB aI aU
 obtain⟨aA,aB,aI,aU⟩ :=au.f2
 obtain⟨⟨A1,n1,p1⟩,T1, ⟨A2,n2,p2⟩,T2⟩ :=aH
 obtain⟨g1,c1,hv1,hg1⟩ :=dJ.jK (v:= .slice A1 n1 p1) aT.G (by rw [H3.out];decide)
 obtain⟨g2,c2,hv2,hg2⟩ :=dJ.jK (v:= .slice A2 n2 p2) aT.O (by rw [H9.out];decide)
 injection hv1 with i1 i2 i3
 injection hv2 with j1 j2 j3
 subst i1 i2 i3 j1 j2 j3
 have nM : g1∈aY.foot ⟨⟨some ⟨g1,0,none⟩,x.G.length,p1⟩,T1, ⟨some ⟨g2,0,none⟩,x.O.length,p2⟩,T2⟩ :=aY.aZ.2 (.inl (cu.2 (.inl rfl)))
 have nN : g2∈aY.foot ⟨⟨some ⟨g1,0,none⟩,x.G.length,p1⟩,T1, ⟨some ⟨g2,0,none⟩,x.O.length,p2⟩,T2⟩ :=aY.aZ.2 (.inr (cu.2 (.inl rfl)))
 have zU:=l_c _ nM
 have Bw:=l_c _ nN
 clear nM nN
 go_wp2_with fail
 generalize hO : Obj.cells #[.slice (some ⟨g1,0,none⟩) x.G.length p1, .slice (some ⟨g2,0,none⟩) x.O.length p2] 29=O_
 replace aC:=aC.alloc O_
 replace au:=au.alloc O_
 replace aT:=aT.aN O_
 replace hB:=hB.alloc hB.size O_
 have ay : aJ (w1.alloc O_) w1.heap.size [.slice (some ⟨g1,0,none⟩) x.G.length p1, .slice (some ⟨g2,0,none⟩) x.O.length p2]:=hO ▸ aJ.new _ _ _
 have iF:=ay.lt
 have sz : w1.heap.size≤ (w1.alloc O_).heap.size:=Nat.le_of_lt ay.lt
 generalize hG : (w1.alloc O_) =w2 at aC au aT hB ay iF sz⊢
 clear hG hO O_
 clear aF aG aK aV
 obtain⟨aF,aG,aK,aV⟩ :=aC.f2
 clear aA aB aI aU
 obtain⟨aA,aB,aI,aU⟩ :=au.f2
 obtain⟨aO,aP,aX,bJ⟩ :=ay.f2
 refine(jI _ H x (dP h hB)).mono ?_
 rw [hok]
 rintro e w3 ⟨rfl,hb⟩
 replace aC:=aC.below hb
 replace au:=au.below hb
 replace ay:=ay.below hb
 have aT:=aT.step0 hb
 replace hB:=hB.trans (hb.mono hB.size)
 have sz:=hb.size
 clear hb
 clear aF aG aK aV
 obtain⟨aF,aG,aK,aV⟩ :=aC.f2
 clear aA aB aI aU
 obtain⟨aA,aB,aI,aU⟩ :=au.f2
 clear aO aP aX bJ
 obtain⟨aO,aP,aX,bJ⟩ :=ay.f2
 clear hok
 obtain⟨so,jv⟩ : ∃q,T1[k]? =some q:= ⟨_,List.getElem?_eq_getElem (by rw [aT.G.len];exact lW.out)⟩
 have ino:=aT.G.inner k so _ jv HR.out
 have po:=aT.G.outer.cell_ (j:=0) jv (by decide)
 simp only [FS,Nat.mul_one,Nat.add_zero] at po
 have ff:=aT.G.outer.iP k
 have HV:=Hid.aD jv
 have hkk : k<x.G.length:=lW.out
 have zV : g1≠w.heap.size:=by omega
 have zW : w.heap.size≠g1:=by omega
 have yC : g1≠w.heap.size+1:=by omega
 have yE : w.heap.size+1≠g1:=by omega
 have yD : g1≠w1.heap.size:=by omega
 have yF : w1.heap.size≠g1:=by omega
 obtain⟨Ao,co,qK,hq1,_⟩ :=ino.rd'
 obtain⟨ao,no,bo⟩ :=so
 injection qK with k1 k2 k3
 subst k1 k2 k3
 simp only [List.length_append,List.length_singleton] at hq1
 obtain⟨gs,cs,hvs,_⟩ :=bF.kS (v:= .slice ao (l++ [s]).length bo) ino (by simp)
 injection hvs with k1 k2 k3
 subst k1 k3
 have hcl : l.length+1≤bo:=hq1
 have rP : w3.cell? ⟨g1,k,none⟩ =some (Value.slice (some ⟨gs,0,none⟩) (l.length+1) bo) :=by simpa [SV.val] using po
 clear po
 have ce:=bF.cell_ (show bF FI 3 _ (.slice (some ⟨gs,0,none⟩) (l++ [s]).length bo) (l++ [s]) from ino) (last_at (l:=l) (s:=s)) FI.pos
 simp only [FI,Nat.mul_one,Nat.add_zero] at ce
 replace ce : _=some (Value.int .i64 s) :=ce
 have hq:=yH w3 g1 k gs l.length bo s rP ff ce (by omega) hcl
 clear ce
 have hN:=dJ.Bz (s':= ⟨some ⟨gs,0,none⟩,l.length,l.length⟩) (l':=l) aT.G HV.out ⟨_, [s],ino, .inr ⟨gs,_,l.length,bo,rfl,rfl,Nat.le_refl _,by omega⟩⟩ rfl
 change jw _ _ _ (World.setCell _ _ (.slice (some ⟨gs,0,none⟩) l.length l.length)) _ _ _ at hN
 go_wp2_with (first| (go_at_call 48;refine(lG _ _).mono ?_;rw [AO];rintro e wv ⟨rfl,rfl⟩) | (go_at_call 47;refine hq.mono ?_;rintro e wv ⟨rfl,rfl⟩))
 have hO:= (aT.O.bn (F:= [g1]) ((bW.refl _ w3).gI (g:=g1) (i:=k) (by simp) (.slice (some ⟨gs,0,none⟩) l.length l.length)) (fun b hb hm=>by simp only [List.mem_cons,List.not_mem_nil,or_false] at hm;subst hm;exact aT.iM b (cu.2 (.inl rfl)) hb)).toW
 have hfs : dL (.slice (some ⟨g1,0,none⟩) x.G.length p1) (T1.set k ⟨some ⟨gs,0,none⟩,l.length,l.length⟩) =dL (.slice (some ⟨g1,0,none⟩) x.G.length p1) T1:=by unfold dL;rw [jQ (s':= ⟨some ⟨gs,0,none⟩,l.length,l.length⟩) HV.out rfl]
 have hfm : ∀b,b∈dL (.slice (some ⟨g1,0,none⟩) x.G.length p1) (T1.set k ⟨some ⟨gs,0,none⟩,l.length,l.length⟩) →b∈dL (.slice (some ⟨g1,0,none⟩) x.G.length p1) T1:=fun b hb=>by rw [←hfs];exact hb
 refine bodyPost_ret (v:= .tuple #[.agg #[.slice (some ⟨g1,0,none⟩) x.G.length p1, .slice (some ⟨g2,0,none⟩) x.O.length p2], .int .i64 s]) (by simp [results,Try.results23,go_sem,aA,aB]) rfl ⟨⟨⟨some ⟨g1,0,none⟩,x.G.length,p1⟩,T1.set k ⟨some ⟨gs,0,none⟩,l.length,l.length⟩, ⟨some ⟨g2,0,none⟩,x.O.length,p2⟩,T2⟩,rfl, ⟨hN.bn (F:= [w.heap.size+1]) bV (fun b hb hm=>by simp only [List.mem_cons,List.not_mem_nil,or_false] at hm;have:=l_c b (aY.aZ.2 (.inl (hfm b hb)));omega),hO.bn (F:= [w.heap.size+1]) bV (fun b hb hm=>by simp only [List.mem_cons,List.not_mem_nil,or_false] at hm;have:=l_c b (aY.aZ.2 (.inr hb));omega),fun b hb hm=>aT.iM b (hfm b hb) hm⟩,fun b hb=> ?_,Below.trans hB fJ⟩
 rcases aY.aZ.1 hb with hb|hb
 ·have:=l_c b (aY.aZ.2 (.inl (hfm b hb)))
  omega
 ·have:=l_c b (aY.aZ.2 (.inr hb))
  omega
set_option maxRecDepth 100000 in
set_option maxHeartbeats 4000000 in
theorem lX (w : World)(H : aY)(x : Lists)(c : Nat)(h : gM w w.heap.size H x)(hs : eU x≤536870912)(hok : dM x=true)(hc : c<3)(hrow : x.G[c]? =some ([])) :
  Calls Try.prog 23 #[.agg #[.slice H.G.a H.G.l H.G.c, .slice H.O.a H.O.l H.O.c], .int .i64 c] w fun e w'=> ∃H' : aY,e= .returned (.tuple #[.agg #[.slice H'.G.a H'.G.l H'.G.c, .slice H'.O.a H'.O.l H'.O.c], .int .i64 (-1)]) ∧dW w' H' x∧ (∀g∈H'.foot,w.heap.size≤g) ∧Below w.heap.size w w':=by
 obtain⟨hl3,mD⟩ :=jC hok
 have H3:=Hid.aD hl3
 have H9:=Hid.aD mD
 have HR:=Hid.aD hrow
 have lW:=Hid.aD (show c<x.G.length by omega)
 have AO : aW 0 2 (c : Int) =true:=bD.2 ⟨by omega,by omega⟩
 clear hl3 mD hrow
 obtain⟨k,rfl⟩ : ∃k,k=c:= ⟨_,rfl⟩
 obtain⟨w0,hW0⟩ : ∃x,x= ((w.alloc (.cells #[.slice H.G.a H.G.l H.G.c, .slice H.O.a H.O.l H.O.c] 29)).alloc (.cells #[.slice none 0 0, .slice none 0 0] 29)) := ⟨_,rfl⟩
 have aC : aJ w0 (w.heap.size) [.slice H.G.a H.G.l H.G.c, .slice H.O.a H.O.l H.O.c]:=by
  rw [hW0]
  exact aJ.alloc aJ.nw _
 have au : aJ w0 (w.heap.size+1) [.slice none 0 0, .slice none 0 0]:=by
  rw [hW0]
  exact aJ.nw
 have hB : Below w.heap.size w w0:=by
  rw [hW0]
  exact dn
 go_enter Try.func23,Try.ntmps23
 go_wp2_with fail
 rw [←hW0]
 clear hW0
 have jy:=aC.lt
 have ji:=au.lt
 obtain⟨aF,aG,aK,aV⟩ :=aC.f2
 obtain⟨aA,aB,aI,aU⟩ :=au.f2
 refine(gN _ H x (dP h hB) hs).mono ?_
 rintro e w1 ⟨aH,rfl,aT,l_c,hb⟩
 have u_c:=aT.lt
 replace aC:=aC.below hb
 replace au:=au.below hb
 replace hB:=hB.trans (hb.mono hB.size)
 have sz:=hb.size
 clear hb
 clear aF aG aK aV
 obtain⟨aF,aG,aK,aV⟩ :=aC.f2
 clear aA aB aI aU
 obtain⟨aA,aB,aI,aU⟩ :=au.f2
 obtain⟨⟨A1,n1,p1⟩,T1, ⟨A2,n2,p2⟩,T2⟩ :=aH
 obtain⟨g1,c1,hv1,hg1⟩ :=dJ.jK (v:= .slice A1 n1 p1) aT.G (by rw [H3.out];decide)
 obtain⟨g2,c2,hv2,hg2⟩ :=dJ.jK (v:= .slice A2 n2 p2) aT.O (by rw [H9.out];decide)
 injection hv1 with i1 i2 i3
 injection hv2 with j1 j2 j3
 subst i1 i2 i3 j1 j2 j3
 have nM : g1∈aY.foot ⟨⟨some ⟨g1,0,none⟩,x.G.length,p1⟩,T1, ⟨some ⟨g2,0,none⟩,x.O.length,p2⟩,T2⟩ :=aY.aZ.2 (.inl (cu.2 (.inl rfl)))
 have nN : g2∈aY.foot ⟨⟨some ⟨g1,0,none⟩,x.G.length,p1⟩,T1, ⟨some ⟨g2,0,none⟩,x.O.length,p2⟩,T2⟩ :=aY.aZ.2 (.inr (cu.2 (.inl rfl)))
 have zU:=l_c _ nM
 have Bw:=l_c _ nN
 clear nM nN
 go_wp2_with fail
 generalize hO : Obj.cells #[.slice (some ⟨g1,0,none⟩) x.G.length p1, .slice (some ⟨g2,0,none⟩) x.O.length p2] 29=O_
 replace aC:=aC.alloc O_
 replace au:=au.alloc O_
 replace aT:=aT.aN O_
 replace hB:=hB.alloc hB.size O_
 have ay : aJ (w1.alloc O_) w1.heap.size [.slice (some ⟨g1,0,none⟩) x.G.length p1, .slice (some ⟨g2,0,none⟩) x.O.length p2]:=hO ▸ aJ.new _ _ _
 have iF:=ay.lt
 have sz : w1.heap.size≤ (w1.alloc O_).heap.size:=Nat.le_of_lt ay.lt
 generalize hG : (w1.alloc O_) =w2 at aC au aT hB ay iF sz⊢
 clear hG hO O_
 clear aF aG aK aV
 obtain⟨aF,aG,aK,aV⟩ :=aC.f2
 clear aA aB aI aU
 obtain⟨aA,aB,aI,aU⟩ :=au.f2
 obtain⟨aO,aP,aX,bJ⟩ :=ay.f2
 refine(jI _ H x (dP h hB)).mono ?_
 rw [hok]
 rintro e w3 ⟨rfl,hb⟩
 replace aC:=aC.below hb
 replace au:=au.below hb
 replace ay:=ay.below hb
 have aT:=aT.step0 hb
 replace hB:=hB.trans (hb.mono hB.size)
 have sz:=hb.size
 clear hb
 clear aF aG aK aV
 obtain⟨aF,aG,aK,aV⟩ :=aC.f2
 clear aA aB aI aU
 obtain⟨aA,aB,aI,aU⟩ :=au.f2
 clear aO aP aX bJ
 obtain⟨aO,aP,aX,bJ⟩ :=ay.f2
 clear hok
 obtain⟨so,jv⟩ : ∃q,T1[k]? =some q:= ⟨_,List.getElem?_eq_getElem (by rw [aT.G.len];exact lW.out)⟩
 have ino:=aT.G.inner k so _ jv HR.out
 have po:=aT.G.outer.cell_ (j:=0) jv (by decide)
 simp only [FS,Nat.mul_one,Nat.add_zero] at po
 have ff:=aT.G.outer.iP k
 have HV:=Hid.aD jv
 have hkk : k<x.G.length:=lW.out
 have zV : g1≠w.heap.size:=by omega
 have zW : w.heap.size≠g1:=by omega
 have yC : g1≠w.heap.size+1:=by omega
 have yE : w.heap.size+1≠g1:=by omega
 have yD : g1≠w1.heap.size:=by omega
 have yF : w1.heap.size≠g1:=by omega
 obtain⟨Ao,co,qK,_⟩ :=ino.rd'
 obtain⟨ao,no,bo⟩ :=so
 injection qK with k1 k2 k3
 subst k1 k2 k3
 have rP : _=some (Value.slice ao 0 bo) :=po
 clear po
 have hq:=yG w3 g1 k bo ao rP
 go_wp2_with (first| (go_at_call 48;refine(lG _ _).mono ?_;rw [AO];rintro e wv ⟨rfl,rfl⟩) | (go_at_call 47;refine hq.mono ?_;rintro e wv ⟨rfl,rfl⟩))
 refine bodyPost_ret (v:= .tuple #[.agg #[.slice (some ⟨g1,0,none⟩) x.G.length p1, .slice (some ⟨g2,0,none⟩) x.O.length p2], .int .i64 (-1)]) (by simp [results,Try.results23,go_sem,aA,aB]) rfl ⟨⟨⟨some ⟨g1,0,none⟩,x.G.length,p1⟩,T1, ⟨some ⟨g2,0,none⟩,x.O.length,p2⟩,T2⟩,rfl,aT.bn (F:= [w.heap.size+1]) bV (fun g hg hm=>by simp only [List.mem_cons,List.not_mem_nil,or_false] at hm;have:=l_c g hg;have:=u_c g hg;omega),fun g hg=>by have:=l_c g hg;omega,Below.trans hB fJ⟩
end Go.Proofs.Ytkmggglljkmjoaa
namespace Go.Proofs.Ytkmggglljkmjoaa
open Go.RowKit
end Go.Proofs.Ytkmggglljkmjoaa
namespace Go.Proofs.Ytkmggglljkmjoaa
open Go.RowKit
end Go.Proofs.Ytkmggglljkmjoaa
namespace Go.Proofs.Ytkmggglljkmjoaa
open Go.RowKit
set_option maxRecDepth 100000 in
set_option maxHeartbeats 4000000 in
theorem mH (w : World)(H : bY)(_y : Mem)(x : Heap)(s : Int)(h : fZ w w.heap.size H.E x)(hs : d_ x=true)(h1 : aW 0 23 s=true)(h2 : aW 1 6 (bK x s) =true) :
  Calls Try.prog 25 #[.agg #[.slice H.E.Y.a H.E.Y.l H.E.Y.c, .slice H.E.Z.a H.E.Z.l H.E.Z.c, .slice H.I.G.a H.I.G.l H.I.G.c, .slice H.I.O.a H.I.O.l H.I.O.c], .int .i64 s] w fun e w'=>e= .returned (.int .i64 (bK x s * 32+s)) ∧Below w.heap.size w w':=by
 have hgi:=fun (W : World) (hW : Below w.heap.size w W) =>mO W H.E x s (dH h hW) hs
 have hho:=fun W=>vU s (bK x s) W h1 h2
 obtain⟨w0,hW0⟩ : ∃x,x= (w.alloc (.cells #[.slice H.E.Y.a H.E.Y.l H.E.Y.c, .slice H.E.Z.a H.E.Z.l H.E.Z.c, .slice H.I.G.a H.I.G.l H.I.G.c, .slice H.I.O.a H.I.O.l H.I.O.c] 31)) := ⟨_,rfl⟩
 have aC : aJ w0 (w.heap.size) [.slice H.E.Y.a H.E.Y.l H.E.Y.c, .slice H.E.Z.a H.E.Z.l H.E.Z.c, .slice H.I.G.a H.I.G.l H.I.G.c, .slice H.I.O.a H.I.O.l H.I.O.c]:=by
  rw [hW0]
  exact aJ.nw
 have hB : Below w.heap.size w w0:=by
  rw [hW0]
  exact dn
 go_enter Try.func25,Try.ntmps25
 go_wp2_with fail
 rw [←hW0]
 clear hW0
 have jy:=aC.lt
 obtain⟨aF,aG,aQ,aR,aK,aV⟩ :=aC.f4
 refine(hgi _ hB).mono ?_
 rintro e w1 ⟨rfl,hb⟩
 replace aC:=aC.below hb
 replace hB:=hB.trans (hb.mono hB.size)
 have sz:=hb.size
 clear hb
 clear aF aG aQ aR aK aV
 obtain⟨aF,aG,aQ,aR,aK,aV⟩ :=aC.f4
 clear hgi
 go_wp2_with (go_at_call 50;refine(hho _).mono ?_;rintro e wv ⟨rfl,rfl⟩)
 go_ret
 exact⟨rfl,Below.trans hB fJ⟩
end Go.Proofs.Ytkmggglljkmjoaa
