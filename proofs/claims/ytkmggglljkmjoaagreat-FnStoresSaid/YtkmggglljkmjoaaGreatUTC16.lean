/-
  Several texts in one: lemmas and contracts that the claim rests on.
-/
import Derived.Test.YtkmggglljkmjoaaGreatUTC1
import Derived.Deep.QuietTactic
import Derived.BigQuiet
import Derived.Deep.LoopGhost
import Derived.Deep.RegionHeld3
import Derived.Test.YtkmggglljkmjoaaGreatUTC2
import Derived.WalkSpells
import Derived.Laws.Cover3
import Derived.Test.YtkmggglljkmjoaaGreatUTC15
import Derived.Test.YtkmggglljkmjoaaGreatUTC14
namespace Go.Proofs.YtkmggglljkmjoaaGreat
open Go.RowKit
theorem FL {α : Type}{l : List α}{k : Nat}{v : α}(h : l[k]? =some v) : l.set k v=l:=by
 apply List.ext_getElem?
 intro j
 by_cases hj : k=j
 ·subst hj
  rw [List.getElem?_set_self (List.getElem?_eq_some_iff.1 h).1,h]
 ·rw [List.getElem?_set_ne hj]
theorem dR.ER {α : Type}{T : FT α}{e E : TypeId}{w : World}{g n c : Nat}{fF : List SV}{ll : List (List α)}(h : dR T e E w (.slice (some ⟨g,0,none⟩) n c) fF ll){i : Nat}{s s' : SV}{l' : List α}(hi : fF[i]? =some s)
  (hl : bA T e w s'.val l') (hat : s'.val.ownBlock=s.val.ownBlock) :
  dR T e E (w.setCell ⟨g,i,none⟩ s'.val) (.slice (some ⟨g,0,none⟩) n c) (fF.set i s') (ll.set i l') :=by
 have hn:=h.nodup
 have hne:=dR.head_ne h hi
 have hfs : cu s'.val=cu s.val:=by unfold cu;rw [hat]
 unfold dH at hn
 rw [List.nodup_append] at hn
 obtain⟨hn1,hn2,uY⟩ :=hn
 refine⟨by rw [List.length_set,List.length_set];exact h.len, ?_,fun k q l hk hl2=> ?_, ?_⟩
 ·have:=h.outer.gD (k:=i) (j:=0) (x:=s) (y:=s') (u:=s'.val) hi (by decide) rfl
  simpa [FS] using this
 ·by_cases hik : i=k
  ·subst hik
   have hil : i<fF.length:= (List.getElem?_eq_some_iff.1 hi).1
   rw [List.getElem?_set_self hil] at hk
   cases hk
   rw [List.getElem?_set_self (by rw [←h.len];exact hil)] at hl2
   cases hl2
   exact hl.keep (fun b hb=>jR w _ (fun e=>by subst e;exact hne (by rw [←hfs];exact bV.2 hb)))
  ·rw [List.getElem?_set_ne hik] at hk hl2
   exact(h.inner k q l hk hl2).keep (fun b hb=>jR w _ (fun e=>by subst e;exact uY _ (bV.2 rfl) _ (List.mem_flatMap.2 ⟨q,List.mem_of_getElem? hk,bV.2 hb⟩) rfl))
 ·unfold dH
  rw [kG hi hfs,List.nodup_append]
  exact⟨hn1,hn2,uY⟩
set_option maxHeartbeats 4000000 in
theorem Ei (w : World)(A : Option Addr)(c : Nat) : Calls Tryz.prog 164 #[.agg #[.slice A 0 c]] w fun e w'=>e= .returned (.tuple #[.agg #[.slice A 0 c], .int .i64 (-1)]) ∧Below w.heap.size w w':=by
 go_enter Tryz.func164,Tryz.ntmps164
 go_wp2_with fail
 refine bodyPost_ret (v:= .tuple #[.agg #[.slice A 0 c], .int .i64 (-1)]) (by simp [results,Tryz.results164,go_sem]) rfl ⟨rfl, ((Below.refl _ _).alloc (Nat.le_refl _) _).alloc (by simp) _⟩
set_option maxHeartbeats 4000000 in
theorem Ej (w : World)(gs n c : Nat)(s : Int)(h1 : w.cell? ⟨gs,n,none⟩ =some (.int .i64 s))(hg : gs<w.heap.size)(hn : n≤1073741824)(hc : n+1≤c) : Calls Tryz.prog 164 #[.agg #[.slice (some ⟨gs,0,none⟩) (n+1) c]] w fun e w'=>e= .returned (.tuple #[.agg #[.slice (some ⟨gs,0,none⟩) n c], .int .i64 s]) ∧Below w.heap.size w w':=by
 have hq0 : ∀W,Below w.heap.size w W→W.cell? ⟨gs,n,none⟩ =some (.int .i64 s) :=fun W hb=> (Below.cell hb hg).trans h1
 obtain⟨w0,hW0⟩ : ∃x,x= ((w.alloc (.cells #[.slice (some ⟨gs,0,none⟩) (n+1) c] 94)).alloc (.cells #[.slice none 0 0] 94)) := ⟨_,rfl⟩
 have au : aB w0 (w.heap.size) [.slice (some ⟨gs,0,none⟩) (n+1) c]:=by
  rw [hW0]
  exact aB.alloc aB.nw _
 have ah : aB w0 (w.heap.size+1) [.slice none 0 0]:=by
  rw [hW0]
  exact aB.nw
 have hB : Below w.heap.size w w0:=by
  rw [hW0]
  exact dJ
 go_enter Tryz.func164,Tryz.ntmps164
 go_wp2_with fail
 rw [←hW0]
 clear hW0
 have g_:=au.lt
 have iB:=ah.lt
 obtain⟨aD,aL,aQ⟩ :=au.f1
 obtain⟨aj,ay,aI⟩ :=ah.f1
 have QM:=hq0 _ hB
 have hwr : IntKind.i64.wrap (((n+1 : Nat) : Int) - 1) = (n : Int) :=by rw [show ((n+1 : Nat) : Int) - 1= (n : Int) by omega];rw [IntKind.wrap_i64];omega
 go_region
 all_goals go_wp2_with fail
 all_goals refine bodyPost_ret (v:= .tuple #[.agg #[.slice (some ⟨gs,0,none⟩) n c], .int .i64 s]) (by simp [results,Tryz.results164,go_sem,ah.cell 0 _ rfl]) rfl ⟨rfl,Below.trans hB dQ⟩
end Go.Proofs.YtkmggglljkmjoaaGreat
namespace Go.Proofs.YtkmggglljkmjoaaGreat
open Go.RowKit
set_option maxRecDepth 100000 in
set_option maxHeartbeats 4000000 in
theorem BL (w : World)(H : aZ)(x : Lists)(wk c : Nat)(l : List Int)(s : Int)(h : iC w w.heap.size H x)(hs : bX x≤536870912)(hok : fU x=true)(hw : wk<3)(hc : c<3)(hrow : x.O[wk * 3+c]? =some (l++ [s])) :
  Calls Tryz.prog 103 #[.agg #[.slice H.G.a H.G.l H.G.c, .slice H.O.a H.O.l H.O.c], .int .i64 wk, .int .i64 c] w fun e w'=> ∃H' : aZ,e= .returned (.tuple #[.agg #[.slice H'.G.a H'.G.l H'.G.c, .slice H'.O.a H'.O.l H'.O.c], .int .i64 s]) ∧dZ w' H' {x with O:=x.O.set (wk * 3+c) l}∧ (∀g∈H'.foot,w.heap.size≤g) ∧Below w.heap.size w w':=by
 obtain⟨hl3,mW⟩ :=kD hok
 have H3:=Hid.aT hl3
 have H9:=Hid.aT mW
 have HR:=Hid.aT hrow
 have hsr : (l++ [s]).length≤536870912:=by
  have:=mK (List.mem_of_getElem? hrow)
  unfold bX at hs
  omega
 simp only [List.length_append,List.length_singleton] at hsr
 have hoa:=fun W=>qI wk c hw hc W
 have mg:=Hid.aT (show wk * 3+c<x.O.length by omega)
 clear hl3 mW hrow
 obtain⟨k,hk⟩ : ∃k,k=wk * 3+c:= ⟨_,rfl⟩
 rw [←hk] at hoa HR mg
 rw [←hk]
 clear hk
 obtain⟨w0,hW0⟩ : ∃x,x= ((w.alloc (.cells #[.slice H.G.a H.G.l H.G.c, .slice H.O.a H.O.l H.O.c] 29)).alloc (.cells #[.slice none 0 0, .slice none 0 0] 29)) := ⟨_,rfl⟩
 have au : aB w0 (w.heap.size) [.slice H.G.a H.G.l H.G.c, .slice H.O.a H.O.l H.O.c]:=by
  rw [hW0]
  exact aB.alloc aB.nw _
 have ah : aB w0 (w.heap.size+1) [.slice none 0 0, .slice none 0 0]:=by
  rw [hW0]
  exact aB.nw
 have hB : Below w.heap.size w w0:=by
  rw [hW0]
  exact dJ
 go_enter Tryz.func103,Tryz.ntmps103
 go_wp2_with fail
 rw [←hW0]
 clear hW0
 have g_:=au.lt
 have iB:=ah.lt
 obtain⟨aD,aF,aL,aQ⟩ :=au.f2
 obtain⟨aj,ak,ay,aI⟩ :=ah.f2
 refine(n_ _ H x (eZ h hB) hs).mono ?_
 rintro e w1 ⟨aA,rfl,aP,l_c,hb⟩
 have u_c:=aP.lt
 replace au:=au.below hb
 replace ah:=ah.below hb
 replace hB:=hB.trans (hb.mono hB.size)
 have sz:=hb.size
 clear hb
 clear aD aF aL aQ
 obtain⟨aD,aF,aL,aQ⟩ :=au.f2
 clear aj ak ay aI
 obtain⟨aj,ak,ay,aI⟩ :=ah.f2
 obtain⟨⟨A1,n1,p1⟩,T1, ⟨A2,n2,p2⟩,T2⟩ :=aA
 obtain⟨g1,c1,hv1,hg1⟩ :=dR.jV (v:= .slice A1 n1 p1) aP.G (by rw [H3.out];decide)
 obtain⟨g2,c2,hv2,hg2⟩ :=dR.jV (v:= .slice A2 n2 p2) aP.O (by rw [H9.out];decide)
 injection hv1 with i1 i2 i3
 injection hv2 with j1 j2 j3
 subst i1 i2 i3 j1 j2 j3
 have oZ : g1∈aZ.foot ⟨⟨some ⟨g1,0,none⟩,x.G.length,p1⟩,T1, ⟨some ⟨g2,0,none⟩,x.O.length,p2⟩,T2⟩ :=aZ.aX.2 (.inl (cZ.2 (.inl rfl)))
 have o7 : g2∈aZ.foot ⟨⟨some ⟨g1,0,none⟩,x.G.length,p1⟩,T1, ⟨some ⟨g2,0,none⟩,x.O.length,p2⟩,T2⟩ :=aZ.aX.2 (.inr (cZ.2 (.inl rfl)))
 have CQ:=l_c _ oZ
 have Eh:=l_c _ o7
 clear oZ o7
 go_wp2_with (go_at_call 75;refine(hoa _).mono ?_;rintro e wv ⟨rfl,rfl⟩)
 clear hoa
 generalize hO : Obj.cells #[.slice (some ⟨g1,0,none⟩) x.G.length p1, .slice (some ⟨g2,0,none⟩) x.O.length p2] 29=O_
 replace au:=au.alloc O_
 replace ah:=ah.alloc O_
 replace aP:=aP.aH O_
 replace hB:=hB.alloc hB.size O_
 have aN : aB (w1.alloc O_) w1.heap.size [.slice (some ⟨g1,0,none⟩) x.G.length p1, .slice (some ⟨g2,0,none⟩) x.O.length p2]:=hO ▸ aB.new _ _ _
 have gy:=aN.lt
 have sz : w1.heap.size≤ (w1.alloc O_).heap.size:=Nat.le_of_lt aN.lt
 generalize hG : (w1.alloc O_) =w2 at au ah aP hB aN gy sz⊢
 clear hG hO O_
 clear aD aF aL aQ
 obtain⟨aD,aF,aL,aQ⟩ :=au.f2
 clear aj ak ay aI
 obtain⟨aj,ak,ay,aI⟩ :=ah.f2
 obtain⟨aV,aW,bq,bN⟩ :=aN.f2
 refine(ou _ H x (eZ h hB) (Nat.le_trans (Nat.le_add_right _ _) hs) (Nat.le_trans (Nat.le_add_left _ _) hs)).mono ?_
 rw [hok]
 rintro e w3 ⟨rfl,hb⟩
 replace au:=au.below hb
 replace ah:=ah.below hb
 replace aN:=aN.below hb
 have aP:=aP.step0 hb
 replace hB:=hB.trans (hb.mono hB.size)
 have sz:=hb.size
 clear hb
 clear aD aF aL aQ
 obtain⟨aD,aF,aL,aQ⟩ :=au.f2
 clear aj ak ay aI
 obtain⟨aj,ak,ay,aI⟩ :=ah.f2
 clear aV aW bq bN
 obtain⟨aV,aW,bq,bN⟩ :=aN.f2
 clear hok
 obtain⟨so,jU⟩ : ∃q,T2[k]? =some q:= ⟨_,List.getElem?_eq_getElem (by rw [aP.O.len];exact mg.out)⟩
 have HV:=Hid.aT jU
 clear jU
 have ino:=aP.O.inner k so _ HV.out HR.out
 have po:=aP.O.outer.cell_ (j:=0) HV.out (by decide)
 simp only [FS,Nat.mul_one,Nat.add_zero] at po
 have hkk : k<x.O.length:=mg.out
 obtain⟨Ao,co,qo,hq1,_⟩ :=ino.rd'
 obtain⟨ao,no,bo⟩ :=so
 injection qo with k1 k2 k3
 subst k1 k2 k3
 simp only [List.length_append,List.length_singleton] at hq1
 obtain⟨gs,cs,hvs,hgs⟩ :=bA.kN (v:= .slice ao (l++ [s]).length bo) ino (by simp)
 injection hvs with k1 k2 k3
 subst k1 k3
 have hcl : l.length+1≤bo:=hq1
 have qR : w3.cell? ⟨g2,k,none⟩ =some (Value.slice (some ⟨gs,0,none⟩) (l.length+1) bo) :=by simpa [SV.val] using po
 clear po
 have ce:=bA.cell_ (show bA FI 3 _ (.slice (some ⟨gs,0,none⟩) (l++ [s]).length bo) (l++ [s]) from ino) (last_at (l:=l) (s:=s)) FI.pos
 simp only [FI,Nat.mul_one,Nat.add_zero] at ce
 replace ce : _=some (Value.int .i64 s) :=ce
 have J3:=World.block_lt_of_cell? _ _ ce
 have hq:=Ej w3 gs l.length bo s ce J3 (by omega) hcl
 clear ce
 clear ino
 go_wp2_with fail
 refine(hq).mono ?_
 rintro e w4 ⟨rfl,hb⟩
 replace au:=au.below hb
 replace ah:=ah.below hb
 replace aN:=aN.below hb
 replace aP:=aP.step0 hb
 replace hB:=hB.trans (hb.mono hB.size)
 have sz:=hb.size
 clear hb
 clear aD aF aL aQ
 obtain⟨aD,aF,aL,aQ⟩ :=au.f2
 clear aj ak ay aI
 obtain⟨aj,ak,ay,aI⟩ :=ah.f2
 clear aV aW bq bN
 obtain⟨aV,aW,bq,bN⟩ :=aN.f2
 clear hq qR
 replace aP : dZ w4 ⟨⟨some ⟨g1,0,none⟩,x.G.length,p1⟩,T1, ⟨some ⟨g2,0,none⟩,x.O.length,p2⟩,T2⟩ x:=aP
 replace au:=au.alloc (.cells #[.slice (some ⟨gs,0,none⟩) l.length bo] 94)
 replace ah:=ah.alloc (.cells #[.slice (some ⟨gs,0,none⟩) l.length bo] 94)
 replace aN:=aN.alloc (.cells #[.slice (some ⟨gs,0,none⟩) l.length bo] 94)
 replace aP:=aP.aH (.cells #[.slice (some ⟨gs,0,none⟩) l.length bo] 94)
 replace hB:=hB.alloc hB.size (.cells #[.slice (some ⟨gs,0,none⟩) l.length bo] 94)
 have CO : w4.heap.size≤ (w4.alloc (.cells #[.slice (some ⟨gs,0,none⟩) l.length bo] 94)).heap.size:=by simp
 have ff : (w4.alloc (.cells #[.slice (some ⟨gs,0,none⟩) l.length bo] 94)).frozen? ⟨g2,k,none⟩ =false:=aP.O.outer.eD k
 have po : (w4.alloc (.cells #[.slice (some ⟨gs,0,none⟩) l.length bo] 94)).cell? ⟨g2,k,none⟩ =some (.slice (some ⟨gs,0,none⟩) (l++ [s]).length bo) :=by have po:=aP.O.outer.cell_ (j:=0) HV.out (by decide);simp only [FS,Nat.mul_one,Nat.add_zero] at po;exact po
 have ino:=aP.O.inner k _ _ HV.out HR.out
 have yP : g2≠w.heap.size:=by omega
 have yQ : w.heap.size≠g2:=by omega
 have xI : g2≠w.heap.size+1:=by omega
 have xJ : w.heap.size+1≠g2:=by omega
 have AZ : g2≠w1.heap.size:=by omega
 have A8 : w1.heap.size≠g2:=by omega
 have hin:=bA.prefix_ (g:=gs) (n:= (l++ [s]).length) (c:=bo) (l:=l) (r:= [s]) ino
 have hN:=dR.ER (s':= ⟨some ⟨gs,0,none⟩,l.length,bo⟩) (l':=l) aP.O HV.out hin rfl
 change dR _ _ _ (World.setCell _ _ (.slice (some ⟨gs,0,none⟩) l.length bo)) _ _ _ at hN
 clear aD aF aL aQ
 obtain⟨aD,aF,aL,aQ⟩ :=au.f2
 clear aj ak ay aI
 obtain⟨aj,ak,ay,aI⟩ :=ah.f2
 clear aV aW bq bN
 obtain⟨aV,aW,bq,bN⟩ :=aN.f2
 go_wp2_with fail
 have hO:=aP.G.aM (F:= [g2]) ((aY.refl _ (w4.alloc (.cells #[.slice (some ⟨gs,0,none⟩) l.length bo] 94))).gD (g:=g2) (i:=k) (by simp) (.slice (some ⟨gs,0,none⟩) l.length bo)) (fun b hb hm=>by simp only [List.mem_cons,List.not_mem_nil,or_false] at hm;subst hm;exact aP.iV b hb (cZ.2 (.inl rfl)))
 have hfs : dH (.slice (some ⟨g2,0,none⟩) x.O.length p2) (T2.set k ⟨some ⟨gs,0,none⟩,l.length,bo⟩) =dH (.slice (some ⟨g2,0,none⟩) x.O.length p2) T2:=by unfold dH;rw [kG (s':= ⟨some ⟨gs,0,none⟩,l.length,bo⟩) HV.out rfl]
 have hfm : ∀b,b∈dH (.slice (some ⟨g2,0,none⟩) x.O.length p2) (T2.set k ⟨some ⟨gs,0,none⟩,l.length,bo⟩) →b∈dH (.slice (some ⟨g2,0,none⟩) x.O.length p2) T2:=fun b hb=>by rw [←hfs];exact hb
 refine bodyPost_ret (v:= .tuple #[.agg #[.slice (some ⟨g1,0,none⟩) x.G.length p1, .slice (some ⟨g2,0,none⟩) x.O.length p2], .int .i64 s]) (by simp [results,Tryz.results103,go_sem,aj,ak]) rfl ⟨⟨⟨some ⟨g1,0,none⟩,x.G.length,p1⟩,T1, ⟨some ⟨g2,0,none⟩,x.O.length,p2⟩,T2.set k ⟨some ⟨gs,0,none⟩,l.length,bo⟩⟩,rfl, ⟨hO.aM (F:= [w.heap.size+1]) bW (fun b hb hm=>by simp only [List.mem_cons,List.not_mem_nil,or_false] at hm;have:=l_c b (aZ.aX.2 (.inl hb));omega),hN.aM (F:= [w.heap.size+1]) bW (fun b hb hm=>by simp only [List.mem_cons,List.not_mem_nil,or_false] at hm;have:=l_c b (aZ.aX.2 (.inr (hfm b hb)));omega),fun b hb hm=>aP.iV b hb (hfm b hm)⟩,fun b hb=> ?_,Below.trans hB dQ⟩
 rcases aZ.aX.1 hb with hb|hb
 ·have:=l_c b (aZ.aX.2 (.inl hb))
  omega
 ·have:=l_c b (aZ.aX.2 (.inr (hfm b hb)))
  omega
set_option maxRecDepth 100000 in
set_option maxHeartbeats 4000000 in
theorem rC (w : World)(H : aZ)(x : Lists)(wk c : Nat)(h : iC w w.heap.size H x)(hs : bX x≤536870912)(hok : fU x=true)(hw : wk<3)(hc : c<3)(hrow : x.O[wk * 3+c]? =some ([])) :
  Calls Tryz.prog 103 #[.agg #[.slice H.G.a H.G.l H.G.c, .slice H.O.a H.O.l H.O.c], .int .i64 wk, .int .i64 c] w fun e w'=> ∃H' : aZ,e= .returned (.tuple #[.agg #[.slice H'.G.a H'.G.l H'.G.c, .slice H'.O.a H'.O.l H'.O.c], .int .i64 (-1)]) ∧dZ w' H' x∧ (∀g∈H'.foot,w.heap.size≤g) ∧Below w.heap.size w w':=by
 obtain⟨hl3,mW⟩ :=kD hok
 have H3:=Hid.aT hl3
 have H9:=Hid.aT mW
 have HR:=Hid.aT hrow
 have hoa:=fun W=>qI wk c hw hc W
 have mg:=Hid.aT (show wk * 3+c<x.O.length by omega)
 clear hl3 mW hrow
 obtain⟨k,hk⟩ : ∃k,k=wk * 3+c:= ⟨_,rfl⟩
 rw [←hk] at hoa HR mg
 clear hk
 obtain⟨w0,hW0⟩ : ∃x,x= ((w.alloc (.cells #[.slice H.G.a H.G.l H.G.c, .slice H.O.a H.O.l H.O.c] 29)).alloc (.cells #[.slice none 0 0, .slice none 0 0] 29)) := ⟨_,rfl⟩
 have au : aB w0 (w.heap.size) [.slice H.G.a H.G.l H.G.c, .slice H.O.a H.O.l H.O.c]:=by
  rw [hW0]
  exact aB.alloc aB.nw _
 have ah : aB w0 (w.heap.size+1) [.slice none 0 0, .slice none 0 0]:=by
  rw [hW0]
  exact aB.nw
 have hB : Below w.heap.size w w0:=by
  rw [hW0]
  exact dJ
 go_enter Tryz.func103,Tryz.ntmps103
 go_wp2_with fail
 rw [←hW0]
 clear hW0
 have g_:=au.lt
 have iB:=ah.lt
 obtain⟨aD,aF,aL,aQ⟩ :=au.f2
 obtain⟨aj,ak,ay,aI⟩ :=ah.f2
 refine(n_ _ H x (eZ h hB) hs).mono ?_
 rintro e w1 ⟨aA,rfl,aP,l_c,hb⟩
 have u_c:=aP.lt
 replace au:=au.below hb
 replace ah:=ah.below hb
 replace hB:=hB.trans (hb.mono hB.size)
 have sz:=hb.size
 clear hb
 clear aD aF aL aQ
 obtain⟨aD,aF,aL,aQ⟩ :=au.f2
 clear aj ak ay aI
 obtain⟨aj,ak,ay,aI⟩ :=ah.f2
 obtain⟨⟨A1,n1,p1⟩,T1, ⟨A2,n2,p2⟩,T2⟩ :=aA
 obtain⟨g1,c1,hv1,hg1⟩ :=dR.jV (v:= .slice A1 n1 p1) aP.G (by rw [H3.out];decide)
 obtain⟨g2,c2,hv2,hg2⟩ :=dR.jV (v:= .slice A2 n2 p2) aP.O (by rw [H9.out];decide)
 injection hv1 with i1 i2 i3
 injection hv2 with j1 j2 j3
 subst i1 i2 i3 j1 j2 j3
 have oZ : g1∈aZ.foot ⟨⟨some ⟨g1,0,none⟩,x.G.length,p1⟩,T1, ⟨some ⟨g2,0,none⟩,x.O.length,p2⟩,T2⟩ :=aZ.aX.2 (.inl (cZ.2 (.inl rfl)))
 have o7 : g2∈aZ.foot ⟨⟨some ⟨g1,0,none⟩,x.G.length,p1⟩,T1, ⟨some ⟨g2,0,none⟩,x.O.length,p2⟩,T2⟩ :=aZ.aX.2 (.inr (cZ.2 (.inl rfl)))
 have CQ:=l_c _ oZ
 have Eh:=l_c _ o7
 clear oZ o7
 go_wp2_with (go_at_call 75;refine(hoa _).mono ?_;rintro e wv ⟨rfl,rfl⟩)
 clear hoa
 generalize hO : Obj.cells #[.slice (some ⟨g1,0,none⟩) x.G.length p1, .slice (some ⟨g2,0,none⟩) x.O.length p2] 29=O_
 replace au:=au.alloc O_
 replace ah:=ah.alloc O_
 replace aP:=aP.aH O_
 replace hB:=hB.alloc hB.size O_
 have aN : aB (w1.alloc O_) w1.heap.size [.slice (some ⟨g1,0,none⟩) x.G.length p1, .slice (some ⟨g2,0,none⟩) x.O.length p2]:=hO ▸ aB.new _ _ _
 have gy:=aN.lt
 have sz : w1.heap.size≤ (w1.alloc O_).heap.size:=Nat.le_of_lt aN.lt
 generalize hG : (w1.alloc O_) =w2 at au ah aP hB aN gy sz⊢
 clear hG hO O_
 clear aD aF aL aQ
 obtain⟨aD,aF,aL,aQ⟩ :=au.f2
 clear aj ak ay aI
 obtain⟨aj,ak,ay,aI⟩ :=ah.f2
 obtain⟨aV,aW,bq,bN⟩ :=aN.f2
 refine(ou _ H x (eZ h hB) (Nat.le_trans (Nat.le_add_right _ _) hs) (Nat.le_trans (Nat.le_add_left _ _) hs)).mono ?_
 rw [hok]
 rintro e w3 ⟨rfl,hb⟩
 replace au:=au.below hb
 replace ah:=ah.below hb
 replace aN:=aN.below hb
 have aP:=aP.step0 hb
 replace hB:=hB.trans (hb.mono hB.size)
 have sz:=hb.size
 clear hb
 clear aD aF aL aQ
 obtain⟨aD,aF,aL,aQ⟩ :=au.f2
 clear aj ak ay aI
 obtain⟨aj,ak,ay,aI⟩ :=ah.f2
 clear aV aW bq bN
 obtain⟨aV,aW,bq,bN⟩ :=aN.f2
 clear hok
 obtain⟨so,jU⟩ : ∃q,T2[k]? =some q:= ⟨_,List.getElem?_eq_getElem (by rw [aP.O.len];exact mg.out)⟩
 have HV:=Hid.aT jU
 clear jU
 have ino:=aP.O.inner k so _ HV.out HR.out
 have po:=aP.O.outer.cell_ (j:=0) HV.out (by decide)
 simp only [FS,Nat.mul_one,Nat.add_zero] at po
 have hkk : k<x.O.length:=mg.out
 obtain⟨Ao,co,qo,_⟩ :=ino.rd'
 obtain⟨ao,no,bo⟩ :=so
 injection qo with k1 k2 k3
 subst k1 k2 k3
 have qR : _=some (Value.slice ao 0 bo) :=po
 clear po
 have hq:=Ei w3 ao bo
 clear ino
 go_wp2_with fail
 refine(hq).mono ?_
 rintro e w4 ⟨rfl,hb⟩
 replace au:=au.below hb
 replace ah:=ah.below hb
 replace aN:=aN.below hb
 replace aP:=aP.step0 hb
 replace hB:=hB.trans (hb.mono hB.size)
 have sz:=hb.size
 clear hb
 clear aD aF aL aQ
 obtain⟨aD,aF,aL,aQ⟩ :=au.f2
 clear aj ak ay aI
 obtain⟨aj,ak,ay,aI⟩ :=ah.f2
 clear aV aW bq bN
 obtain⟨aV,aW,bq,bN⟩ :=aN.f2
 clear hq qR
 replace au:=au.alloc (.cells #[.slice ao 0 bo] 94)
 replace ah:=ah.alloc (.cells #[.slice ao 0 bo] 94)
 replace aN:=aN.alloc (.cells #[.slice ao 0 bo] 94)
 replace aP:=aP.aH (.cells #[.slice ao 0 bo] 94)
 replace hB:=hB.alloc hB.size (.cells #[.slice ao 0 bo] 94)
 have CO : w4.heap.size≤ (w4.alloc (.cells #[.slice ao 0 bo] 94)).heap.size:=by simp
 have ff : (w4.alloc (.cells #[.slice ao 0 bo] 94)).frozen? ⟨g2,k,none⟩ =false:=aP.O.outer.eD k
 have po : (w4.alloc (.cells #[.slice ao 0 bo] 94)).cell? ⟨g2,k,none⟩ =some (.slice ao 0 bo) :=by have po:=aP.O.outer.cell_ (j:=0) HV.out (by decide);simp only [FS,Nat.mul_one,Nat.add_zero] at po;exact po
 have ino:=aP.O.inner k _ _ HV.out HR.out
 have yP : g2≠w.heap.size:=by omega
 have yQ : w.heap.size≠g2:=by omega
 have xI : g2≠w.heap.size+1:=by omega
 have xJ : w.heap.size+1≠g2:=by omega
 have AZ : g2≠w1.heap.size:=by omega
 have A8 : w1.heap.size≠g2:=by omega
 have hin:=ino
 have hN:=dR.ER (s':= ⟨ao,0,bo⟩) (l':= []) aP.O HV.out hin rfl
 change dR _ _ _ (World.setCell _ _ (.slice ao 0 bo)) _ _ _ at hN
 clear aD aF aL aQ
 obtain⟨aD,aF,aL,aQ⟩ :=au.f2
 clear aj ak ay aI
 obtain⟨aj,ak,ay,aI⟩ :=ah.f2
 clear aV aW bq bN
 obtain⟨aV,aW,bq,bN⟩ :=aN.f2
 go_wp2_with fail
 have hO:=aP.G.aM (F:= [g2]) ((aY.refl _ (w4.alloc (.cells #[.slice ao 0 bo] 94))).gD (g:=g2) (i:=k) (by simp) (.slice ao 0 bo)) (fun b hb hm=>by simp only [List.mem_cons,List.not_mem_nil,or_false] at hm;subst hm;exact aP.iV b hb (cZ.2 (.inl rfl)))
 have hfs : dH (.slice (some ⟨g2,0,none⟩) x.O.length p2) (T2.set k ⟨ao,0,bo⟩) =dH (.slice (some ⟨g2,0,none⟩) x.O.length p2) T2:=by unfold dH;rw [kG (s':= ⟨ao,0,bo⟩) HV.out rfl]
 have hfm : ∀b,b∈dH (.slice (some ⟨g2,0,none⟩) x.O.length p2) (T2.set k ⟨ao,0,bo⟩) →b∈dH (.slice (some ⟨g2,0,none⟩) x.O.length p2) T2:=fun b hb=>by rw [←hfs];exact hb
 rw [FL HR.out] at hN
 refine bodyPost_ret (v:= .tuple #[.agg #[.slice (some ⟨g1,0,none⟩) x.G.length p1, .slice (some ⟨g2,0,none⟩) x.O.length p2], .int .i64 (-1)]) (by simp [results,Tryz.results103,go_sem,aj,ak]) rfl ⟨⟨⟨some ⟨g1,0,none⟩,x.G.length,p1⟩,T1, ⟨some ⟨g2,0,none⟩,x.O.length,p2⟩,T2.set k ⟨ao,0,bo⟩⟩,rfl, ⟨hO.aM (F:= [w.heap.size+1]) bW (fun b hb hm=>by simp only [List.mem_cons,List.not_mem_nil,or_false] at hm;have:=l_c b (aZ.aX.2 (.inl hb));omega),hN.aM (F:= [w.heap.size+1]) bW (fun b hb hm=>by simp only [List.mem_cons,List.not_mem_nil,or_false] at hm;have:=l_c b (aZ.aX.2 (.inr (hfm b hb)));omega),fun b hb hm=>aP.iV b hb (hfm b hm)⟩,fun b hb=> ?_,Below.trans hB dQ⟩
 rcases aZ.aX.1 hb with hb|hb
 ·have:=l_c b (aZ.aX.2 (.inl hb))
  omega
 ·have:=l_c b (aZ.aX.2 (.inr (hfm b hb)))
  omega
set_option maxRecDepth 100000 in
set_option maxHeartbeats 4000000 in
theorem y7 (w : World)(H : aZ)(x : Lists)(c : Nat)(l : List Int)(s : Int)(h : iC w w.heap.size H x)(hs : bX x≤536870912)(hok : fU x=true)(hc : c<3)(hrow : x.G[c]? =some (l++ [s])) :
  Calls Tryz.prog 104 #[.agg #[.slice H.G.a H.G.l H.G.c, .slice H.O.a H.O.l H.O.c], .int .i64 c] w fun e w'=> ∃H' : aZ,e= .returned (.tuple #[.agg #[.slice H'.G.a H'.G.l H'.G.c, .slice H'.O.a H'.O.l H'.O.c], .int .i64 s]) ∧dZ w' H' {x with G:=x.G.set c l}∧ (∀g∈H'.foot,w.heap.size≤g) ∧Below w.heap.size w w':=by
 obtain⟨hl3,mW⟩ :=kD hok
 have H3:=Hid.aT hl3
 have H9:=Hid.aT mW
 have HR:=Hid.aT hrow
 have hsr : (l++ [s]).length≤536870912:=by
  have:=mK (List.mem_of_getElem? hrow)
  unfold bX at hs
  omega
 simp only [List.length_append,List.length_singleton] at hsr
 have mg:=Hid.aT (show c<x.G.length by omega)
 have BK : bO 0 2 (c : Int) =true:=bJ.2 ⟨by omega,by omega⟩
 clear hl3 mW hrow
 obtain⟨k,rfl⟩ : ∃k,k=c:= ⟨_,rfl⟩
 obtain⟨w0,hW0⟩ : ∃x,x= ((w.alloc (.cells #[.slice H.G.a H.G.l H.G.c, .slice H.O.a H.O.l H.O.c] 29)).alloc (.cells #[.slice none 0 0, .slice none 0 0] 29)) := ⟨_,rfl⟩
 have au : aB w0 (w.heap.size) [.slice H.G.a H.G.l H.G.c, .slice H.O.a H.O.l H.O.c]:=by
  rw [hW0]
  exact aB.alloc aB.nw _
 have ah : aB w0 (w.heap.size+1) [.slice none 0 0, .slice none 0 0]:=by
  rw [hW0]
  exact aB.nw
 have hB : Below w.heap.size w w0:=by
  rw [hW0]
  exact dJ
 go_enter Tryz.func104,Tryz.ntmps104
 go_wp2_with fail
 rw [←hW0]
 clear hW0
 have g_:=au.lt
 have iB:=ah.lt
 obtain⟨aD,aF,aL,aQ⟩ :=au.f2
 obtain⟨aj,ak,ay,aI⟩ :=ah.f2
 refine(n_ _ H x (eZ h hB) hs).mono ?_
 rintro e w1 ⟨aA,rfl,aP,l_c,hb⟩
 have u_c:=aP.lt
 replace au:=au.below hb
 replace ah:=ah.below hb
 replace hB:=hB.trans (hb.mono hB.size)
 have sz:=hb.size
 clear hb
 clear aD aF aL aQ
 obtain⟨aD,aF,aL,aQ⟩ :=au.f2
 clear aj ak ay aI
 obtain⟨aj,ak,ay,aI⟩ :=ah.f2
 obtain⟨⟨A1,n1,p1⟩,T1, ⟨A2,n2,p2⟩,T2⟩ :=aA
 obtain⟨g1,c1,hv1,hg1⟩ :=dR.jV (v:= .slice A1 n1 p1) aP.G (by rw [H3.out];decide)
 obtain⟨g2,c2,hv2,hg2⟩ :=dR.jV (v:= .slice A2 n2 p2) aP.O (by rw [H9.out];decide)
 injection hv1 with i1 i2 i3
 injection hv2 with j1 j2 j3
 subst i1 i2 i3 j1 j2 j3
 have oZ : g1∈aZ.foot ⟨⟨some ⟨g1,0,none⟩,x.G.length,p1⟩,T1, ⟨some ⟨g2,0,none⟩,x.O.length,p2⟩,T2⟩ :=aZ.aX.2 (.inl (cZ.2 (.inl rfl)))
 have o7 : g2∈aZ.foot ⟨⟨some ⟨g1,0,none⟩,x.G.length,p1⟩,T1, ⟨some ⟨g2,0,none⟩,x.O.length,p2⟩,T2⟩ :=aZ.aX.2 (.inr (cZ.2 (.inl rfl)))
 have CQ:=l_c _ oZ
 have Eh:=l_c _ o7
 clear oZ o7
 go_wp2_with fail
 generalize hO : Obj.cells #[.slice (some ⟨g1,0,none⟩) x.G.length p1, .slice (some ⟨g2,0,none⟩) x.O.length p2] 29=O_
 replace au:=au.alloc O_
 replace ah:=ah.alloc O_
 replace aP:=aP.aH O_
 replace hB:=hB.alloc hB.size O_
 have aN : aB (w1.alloc O_) w1.heap.size [.slice (some ⟨g1,0,none⟩) x.G.length p1, .slice (some ⟨g2,0,none⟩) x.O.length p2]:=hO ▸ aB.new _ _ _
 have gy:=aN.lt
 have sz : w1.heap.size≤ (w1.alloc O_).heap.size:=Nat.le_of_lt aN.lt
 generalize hG : (w1.alloc O_) =w2 at au ah aP hB aN gy sz⊢
 clear hG hO O_
 clear aD aF aL aQ
 obtain⟨aD,aF,aL,aQ⟩ :=au.f2
 clear aj ak ay aI
 obtain⟨aj,ak,ay,aI⟩ :=ah.f2
 obtain⟨aV,aW,bq,bN⟩ :=aN.f2
 refine(ou _ H x (eZ h hB) (Nat.le_trans (Nat.le_add_right _ _) hs) (Nat.le_trans (Nat.le_add_left _ _) hs)).mono ?_
 rw [hok]
 rintro e w3 ⟨rfl,hb⟩
 replace au:=au.below hb
 replace ah:=ah.below hb
 replace aN:=aN.below hb
 have aP:=aP.step0 hb
 replace hB:=hB.trans (hb.mono hB.size)
 have sz:=hb.size
 clear hb
 clear aD aF aL aQ
 obtain⟨aD,aF,aL,aQ⟩ :=au.f2
 clear aj ak ay aI
 obtain⟨aj,ak,ay,aI⟩ :=ah.f2
 clear aV aW bq bN
 obtain⟨aV,aW,bq,bN⟩ :=aN.f2
 clear hok
 obtain⟨so,jU⟩ : ∃q,T1[k]? =some q:= ⟨_,List.getElem?_eq_getElem (by rw [aP.G.len];exact mg.out)⟩
 have HV:=Hid.aT jU
 clear jU
 have ino:=aP.G.inner k so _ HV.out HR.out
 have po:=aP.G.outer.cell_ (j:=0) HV.out (by decide)
 simp only [FS,Nat.mul_one,Nat.add_zero] at po
 have hkk : k<x.G.length:=mg.out
 obtain⟨Ao,co,qo,hq1,_⟩ :=ino.rd'
 obtain⟨ao,no,bo⟩ :=so
 injection qo with k1 k2 k3
 subst k1 k2 k3
 simp only [List.length_append,List.length_singleton] at hq1
 obtain⟨gs,cs,hvs,hgs⟩ :=bA.kN (v:= .slice ao (l++ [s]).length bo) ino (by simp)
 injection hvs with k1 k2 k3
 subst k1 k3
 have hcl : l.length+1≤bo:=hq1
 have qR : w3.cell? ⟨g1,k,none⟩ =some (Value.slice (some ⟨gs,0,none⟩) (l.length+1) bo) :=by simpa [SV.val] using po
 clear po
 have ce:=bA.cell_ (show bA FI 3 _ (.slice (some ⟨gs,0,none⟩) (l++ [s]).length bo) (l++ [s]) from ino) (last_at (l:=l) (s:=s)) FI.pos
 simp only [FI,Nat.mul_one,Nat.add_zero] at ce
 replace ce : _=some (Value.int .i64 s) :=ce
 have J3:=World.block_lt_of_cell? _ _ ce
 have hq:=Ej w3 gs l.length bo s ce J3 (by omega) hcl
 clear ce
 clear ino
 go_wp2_with (first| (go_at_call 102;refine(fG _ _ _ _).mono ?_;rw [BK];rintro e wv ⟨rfl,rfl⟩))
 refine(hq).mono ?_
 rintro e w4 ⟨rfl,hb⟩
 replace au:=au.below hb
 replace ah:=ah.below hb
 replace aN:=aN.below hb
 replace aP:=aP.step0 hb
 replace hB:=hB.trans (hb.mono hB.size)
 have sz:=hb.size
 clear hb
 clear aD aF aL aQ
 obtain⟨aD,aF,aL,aQ⟩ :=au.f2
 clear aj ak ay aI
 obtain⟨aj,ak,ay,aI⟩ :=ah.f2
 clear aV aW bq bN
 obtain⟨aV,aW,bq,bN⟩ :=aN.f2
 clear hq qR
 replace aP : dZ w4 ⟨⟨some ⟨g1,0,none⟩,x.G.length,p1⟩,T1, ⟨some ⟨g2,0,none⟩,x.O.length,p2⟩,T2⟩ x:=aP
 replace au:=au.alloc (.cells #[.slice (some ⟨gs,0,none⟩) l.length bo] 94)
 replace ah:=ah.alloc (.cells #[.slice (some ⟨gs,0,none⟩) l.length bo] 94)
 replace aN:=aN.alloc (.cells #[.slice (some ⟨gs,0,none⟩) l.length bo] 94)
 replace aP:=aP.aH (.cells #[.slice (some ⟨gs,0,none⟩) l.length bo] 94)
 replace hB:=hB.alloc hB.size (.cells #[.slice (some ⟨gs,0,none⟩) l.length bo] 94)
 have CO : w4.heap.size≤ (w4.alloc (.cells #[.slice (some ⟨gs,0,none⟩) l.length bo] 94)).heap.size:=by simp
 have ff : (w4.alloc (.cells #[.slice (some ⟨gs,0,none⟩) l.length bo] 94)).frozen? ⟨g1,k,none⟩ =false:=aP.G.outer.eD k
 have po : (w4.alloc (.cells #[.slice (some ⟨gs,0,none⟩) l.length bo] 94)).cell? ⟨g1,k,none⟩ =some (.slice (some ⟨gs,0,none⟩) (l++ [s]).length bo) :=by have po:=aP.G.outer.cell_ (j:=0) HV.out (by decide);simp only [FS,Nat.mul_one,Nat.add_zero] at po;exact po
 have ino:=aP.G.inner k _ _ HV.out HR.out
 have yP : g1≠w.heap.size:=by omega
 have yQ : w.heap.size≠g1:=by omega
 have xI : g1≠w.heap.size+1:=by omega
 have xJ : w.heap.size+1≠g1:=by omega
 have AZ : g1≠w1.heap.size:=by omega
 have A8 : w1.heap.size≠g1:=by omega
 have hin:=bA.prefix_ (g:=gs) (n:= (l++ [s]).length) (c:=bo) (l:=l) (r:= [s]) ino
 have hN:=dR.ER (s':= ⟨some ⟨gs,0,none⟩,l.length,bo⟩) (l':=l) aP.G HV.out hin rfl
 change dR _ _ _ (World.setCell _ _ (.slice (some ⟨gs,0,none⟩) l.length bo)) _ _ _ at hN
 clear aD aF aL aQ
 obtain⟨aD,aF,aL,aQ⟩ :=au.f2
 clear aj ak ay aI
 obtain⟨aj,ak,ay,aI⟩ :=ah.f2
 clear aV aW bq bN
 obtain⟨aV,aW,bq,bN⟩ :=aN.f2
 go_wp2_with fail
 have hO:=aP.O.aM (F:= [g1]) ((aY.refl _ (w4.alloc (.cells #[.slice (some ⟨gs,0,none⟩) l.length bo] 94))).gD (g:=g1) (i:=k) (by simp) (.slice (some ⟨gs,0,none⟩) l.length bo)) (fun b hb hm=>by simp only [List.mem_cons,List.not_mem_nil,or_false] at hm;subst hm;exact aP.iV b (cZ.2 (.inl rfl)) hb)
 have hfs : dH (.slice (some ⟨g1,0,none⟩) x.G.length p1) (T1.set k ⟨some ⟨gs,0,none⟩,l.length,bo⟩) =dH (.slice (some ⟨g1,0,none⟩) x.G.length p1) T1:=by unfold dH;rw [kG (s':= ⟨some ⟨gs,0,none⟩,l.length,bo⟩) HV.out rfl]
 have hfm : ∀b,b∈dH (.slice (some ⟨g1,0,none⟩) x.G.length p1) (T1.set k ⟨some ⟨gs,0,none⟩,l.length,bo⟩) →b∈dH (.slice (some ⟨g1,0,none⟩) x.G.length p1) T1:=fun b hb=>by rw [←hfs];exact hb
 refine bodyPost_ret (v:= .tuple #[.agg #[.slice (some ⟨g1,0,none⟩) x.G.length p1, .slice (some ⟨g2,0,none⟩) x.O.length p2], .int .i64 s]) (by simp [results,Tryz.results104,go_sem,aj,ak]) rfl ⟨⟨⟨some ⟨g1,0,none⟩,x.G.length,p1⟩,T1.set k ⟨some ⟨gs,0,none⟩,l.length,bo⟩, ⟨some ⟨g2,0,none⟩,x.O.length,p2⟩,T2⟩,rfl, ⟨hN.aM (F:= [w.heap.size+1]) bW (fun b hb hm=>by simp only [List.mem_cons,List.not_mem_nil,or_false] at hm;have:=l_c b (aZ.aX.2 (.inl (hfm b hb)));omega),hO.aM (F:= [w.heap.size+1]) bW (fun b hb hm=>by simp only [List.mem_cons,List.not_mem_nil,or_false] at hm;have:=l_c b (aZ.aX.2 (.inr hb));omega),fun b hb hm=>aP.iV b (hfm b hb) hm⟩,fun b hb=> ?_,Below.trans hB dQ⟩
 rcases aZ.aX.1 hb with hb|hb
 ·have:=l_c b (aZ.aX.2 (.inl (hfm b hb)))
  omega
 ·have:=l_c b (aZ.aX.2 (.inr hb))
  omega
set_option maxRecDepth 100000 in
set_option maxHeartbeats 4000000 in
theorem tC (w : World)(H : aZ)(x : Lists)(c : Nat)(h : iC w w.heap.size H x)(hs : bX x≤536870912)(hok : fU x=true)(hc : c<3)(hrow : x.G[c]? =some ([])) :
  Calls Tryz.prog 104 #[.agg #[.slice H.G.a H.G.l H.G.c, .slice H.O.a H.O.l H.O.c], .int .i64 c] w fun e w'=> ∃H' : aZ,e= .returned (.tuple #[.agg #[.slice H'.G.a H'.G.l H'.G.c, .slice H'.O.a H'.O.l H'.O.c], .int .i64 (-1)]) ∧dZ w' H' x∧ (∀g∈H'.foot,w.heap.size≤g) ∧Below w.heap.size w w':=by
 obtain⟨hl3,mW⟩ :=kD hok
 have H3:=Hid.aT hl3
 have H9:=Hid.aT mW
 have HR:=Hid.aT hrow
 have mg:=Hid.aT (show c<x.G.length by omega)
 have BK : bO 0 2 (c : Int) =true:=bJ.2 ⟨by omega,by omega⟩
 clear hl3 mW hrow
 obtain⟨k,rfl⟩ : ∃k,k=c:= ⟨_,rfl⟩
 obtain⟨w0,hW0⟩ : ∃x,x= ((w.alloc (.cells #[.slice H.G.a H.G.l H.G.c, .slice H.O.a H.O.l H.O.c] 29)).alloc (.cells #[.slice none 0 0, .slice none 0 0] 29)) := ⟨_,rfl⟩
 have au : aB w0 (w.heap.size) [.slice H.G.a H.G.l H.G.c, .slice H.O.a H.O.l H.O.c]:=by
  rw [hW0]
  exact aB.alloc aB.nw _
 have ah : aB w0 (w.heap.size+1) [.slice none 0 0, .slice none 0 0]:=by
  rw [hW0]
  exact aB.nw
 have hB : Below w.heap.size w w0:=by
  rw [hW0]
  exact dJ
 go_enter Tryz.func104,Tryz.ntmps104
 go_wp2_with fail
 rw [←hW0]
 clear hW0
 have g_:=au.lt
 have iB:=ah.lt
 obtain⟨aD,aF,aL,aQ⟩ :=au.f2
 obtain⟨aj,ak,ay,aI⟩ :=ah.f2
 refine(n_ _ H x (eZ h hB) hs).mono ?_
 rintro e w1 ⟨aA,rfl,aP,l_c,hb⟩
 have u_c:=aP.lt
 replace au:=au.below hb
 replace ah:=ah.below hb
 replace hB:=hB.trans (hb.mono hB.size)
 have sz:=hb.size
 clear hb
 clear aD aF aL aQ
 obtain⟨aD,aF,aL,aQ⟩ :=au.f2
 clear aj ak ay aI
 obtain⟨aj,ak,ay,aI⟩ :=ah.f2
 obtain⟨⟨A1,n1,p1⟩,T1, ⟨A2,n2,p2⟩,T2⟩ :=aA
 obtain⟨g1,c1,hv1,hg1⟩ :=dR.jV (v:= .slice A1 n1 p1) aP.G (by rw [H3.out];decide)
 obtain⟨g2,c2,hv2,hg2⟩ :=dR.jV (v:= .slice A2 n2 p2) aP.O (by rw [H9.out];decide)
 injection hv1 with i1 i2 i3
 injection hv2 with j1 j2 j3
 subst i1 i2 i3 j1 j2 j3
 have oZ : g1∈aZ.foot ⟨⟨some ⟨g1,0,none⟩,x.G.length,p1⟩,T1, ⟨some ⟨g2,0,none⟩,x.O.length,p2⟩,T2⟩ :=aZ.aX.2 (.inl (cZ.2 (.inl rfl)))
 have o7 : g2∈aZ.foot ⟨⟨some ⟨g1,0,none⟩,x.G.length,p1⟩,T1, ⟨some ⟨g2,0,none⟩,x.O.length,p2⟩,T2⟩ :=aZ.aX.2 (.inr (cZ.2 (.inl rfl)))
 have CQ:=l_c _ oZ
 have Eh:=l_c _ o7
 clear oZ o7
 go_wp2_with fail
 generalize hO : Obj.cells #[.slice (some ⟨g1,0,none⟩) x.G.length p1, .slice (some ⟨g2,0,none⟩) x.O.length p2] 29=O_
 replace au:=au.alloc O_
 replace ah:=ah.alloc O_
 replace aP:=aP.aH O_
 replace hB:=hB.alloc hB.size O_
 have aN : aB (w1.alloc O_) w1.heap.size [.slice (some ⟨g1,0,none⟩) x.G.length p1, .slice (some ⟨g2,0,none⟩) x.O.length p2]:=hO ▸ aB.new _ _ _
 have gy:=aN.lt
 have sz : w1.heap.size≤ (w1.alloc O_).heap.size:=Nat.le_of_lt aN.lt
 generalize hG : (w1.alloc O_) =w2 at au ah aP hB aN gy sz⊢
 clear hG hO O_
 clear aD aF aL aQ
 obtain⟨aD,aF,aL,aQ⟩ :=au.f2
 clear aj ak ay aI
 obtain⟨aj,ak,ay,aI⟩ :=ah.f2
 obtain⟨aV,aW,bq,bN⟩ :=aN.f2
 refine(ou _ H x (eZ h hB) (Nat.le_trans (Nat.le_add_right _ _) hs) (Nat.le_trans (Nat.le_add_left _ _) hs)).mono ?_
 rw [hok]
 rintro e w3 ⟨rfl,hb⟩
 replace au:=au.below hb
 replace ah:=ah.below hb
 replace aN:=aN.below hb
 have aP:=aP.step0 hb
 replace hB:=hB.trans (hb.mono hB.size)
 have sz:=hb.size
 clear hb
 clear aD aF aL aQ
 obtain⟨aD,aF,aL,aQ⟩ :=au.f2
 clear aj ak ay aI
 obtain⟨aj,ak,ay,aI⟩ :=ah.f2
 clear aV aW bq bN
 obtain⟨aV,aW,bq,bN⟩ :=aN.f2
 clear hok
 obtain⟨so,jU⟩ : ∃q,T1[k]? =some q:= ⟨_,List.getElem?_eq_getElem (by rw [aP.G.len];exact mg.out)⟩
 have HV:=Hid.aT jU
 clear jU
 have ino:=aP.G.inner k so _ HV.out HR.out
 have po:=aP.G.outer.cell_ (j:=0) HV.out (by decide)
 simp only [FS,Nat.mul_one,Nat.add_zero] at po
 have hkk : k<x.G.length:=mg.out
 obtain⟨Ao,co,qo,_⟩ :=ino.rd'
 obtain⟨ao,no,bo⟩ :=so
 injection qo with k1 k2 k3
 subst k1 k2 k3
 have qR : _=some (Value.slice ao 0 bo) :=po
 clear po
 have hq:=Ei w3 ao bo
 clear ino
 go_wp2_with (first| (go_at_call 102;refine(fG _ _ _ _).mono ?_;rw [BK];rintro e wv ⟨rfl,rfl⟩))
 refine(hq).mono ?_
 rintro e w4 ⟨rfl,hb⟩
 replace au:=au.below hb
 replace ah:=ah.below hb
 replace aN:=aN.below hb
 replace aP:=aP.step0 hb
 replace hB:=hB.trans (hb.mono hB.size)
 have sz:=hb.size
 clear hb
 clear aD aF aL aQ
 obtain⟨aD,aF,aL,aQ⟩ :=au.f2
 clear aj ak ay aI
 obtain⟨aj,ak,ay,aI⟩ :=ah.f2
 clear aV aW bq bN
 obtain⟨aV,aW,bq,bN⟩ :=aN.f2
 clear hq qR
 replace au:=au.alloc (.cells #[.slice ao 0 bo] 94)
 replace ah:=ah.alloc (.cells #[.slice ao 0 bo] 94)
 replace aN:=aN.alloc (.cells #[.slice ao 0 bo] 94)
 replace aP:=aP.aH (.cells #[.slice ao 0 bo] 94)
 replace hB:=hB.alloc hB.size (.cells #[.slice ao 0 bo] 94)
 have CO : w4.heap.size≤ (w4.alloc (.cells #[.slice ao 0 bo] 94)).heap.size:=by simp
 have ff : (w4.alloc (.cells #[.slice ao 0 bo] 94)).frozen? ⟨g1,k,none⟩ =false:=aP.G.outer.eD k
 have po : (w4.alloc (.cells #[.slice ao 0 bo] 94)).cell? ⟨g1,k,none⟩ =some (.slice ao 0 bo) :=by have po:=aP.G.outer.cell_ (j:=0) HV.out (by decide);simp only [FS,Nat.mul_one,Nat.add_zero] at po;exact po
 have ino:=aP.G.inner k _ _ HV.out HR.out
 have yP : g1≠w.heap.size:=by omega
 have yQ : w.heap.size≠g1:=by omega
 have xI : g1≠w.heap.size+1:=by omega
 have xJ : w.heap.size+1≠g1:=by omega
 have AZ : g1≠w1.heap.size:=by omega
 have A8 : w1.heap.size≠g1:=by omega
 have hin:=ino
 have hN:=dR.ER (s':= ⟨ao,0,bo⟩) (l':= []) aP.G HV.out hin rfl
 change dR _ _ _ (World.setCell _ _ (.slice ao 0 bo)) _ _ _ at hN
 clear aD aF aL aQ
 obtain⟨aD,aF,aL,aQ⟩ :=au.f2
 clear aj ak ay aI
 obtain⟨aj,ak,ay,aI⟩ :=ah.f2
 clear aV aW bq bN
 obtain⟨aV,aW,bq,bN⟩ :=aN.f2
 go_wp2_with fail
 have hO:=aP.O.aM (F:= [g1]) ((aY.refl _ (w4.alloc (.cells #[.slice ao 0 bo] 94))).gD (g:=g1) (i:=k) (by simp) (.slice ao 0 bo)) (fun b hb hm=>by simp only [List.mem_cons,List.not_mem_nil,or_false] at hm;subst hm;exact aP.iV b (cZ.2 (.inl rfl)) hb)
 have hfs : dH (.slice (some ⟨g1,0,none⟩) x.G.length p1) (T1.set k ⟨ao,0,bo⟩) =dH (.slice (some ⟨g1,0,none⟩) x.G.length p1) T1:=by unfold dH;rw [kG (s':= ⟨ao,0,bo⟩) HV.out rfl]
 have hfm : ∀b,b∈dH (.slice (some ⟨g1,0,none⟩) x.G.length p1) (T1.set k ⟨ao,0,bo⟩) →b∈dH (.slice (some ⟨g1,0,none⟩) x.G.length p1) T1:=fun b hb=>by rw [←hfs];exact hb
 rw [FL HR.out] at hN
 refine bodyPost_ret (v:= .tuple #[.agg #[.slice (some ⟨g1,0,none⟩) x.G.length p1, .slice (some ⟨g2,0,none⟩) x.O.length p2], .int .i64 (-1)]) (by simp [results,Tryz.results104,go_sem,aj,ak]) rfl ⟨⟨⟨some ⟨g1,0,none⟩,x.G.length,p1⟩,T1.set k ⟨ao,0,bo⟩, ⟨some ⟨g2,0,none⟩,x.O.length,p2⟩,T2⟩,rfl, ⟨hN.aM (F:= [w.heap.size+1]) bW (fun b hb hm=>by simp only [List.mem_cons,List.not_mem_nil,or_false] at hm;have:=l_c b (aZ.aX.2 (.inl (hfm b hb)));omega),hO.aM (F:= [w.heap.size+1]) bW (fun b hb hm=>by simp only [List.mem_cons,List.not_mem_nil,or_false] at hm;have:=l_c b (aZ.aX.2 (.inr hb));omega),fun b hb hm=>aP.iV b (hfm b hb) hm⟩,fun b hb=> ?_,Below.trans hB dQ⟩
 rcases aZ.aX.1 hb with hb|hb
 ·have:=l_c b (aZ.aX.2 (.inl (hfm b hb)))
  omega
 ·have:=l_c b (aZ.aX.2 (.inr hb))
  omega
end Go.Proofs.YtkmggglljkmjoaaGreat
namespace Go.Proofs.YtkmggglljkmjoaaGreat
open Go.RowKit
set_option maxRecDepth 100000 in
set_option maxHeartbeats 4000000 in
theorem uT (w : World)(H : bP)(_y : Mem)(x : Heap)(s : Int)(h : gU w w.heap.size H.E x)(hs : gI x=true)(h1 : bO 0 23 s=true)(h2 : bO 1 6 (dz x s) =true) :
  Calls Tryz.prog 100 #[.agg #[.slice H.E.Y.a H.E.Y.l H.E.Y.c, .slice H.E.Z.a H.E.Z.l H.E.Z.c, .slice H.I.G.a H.I.G.l H.I.G.c, .slice H.I.O.a H.I.O.l H.I.O.c], .int .i64 s] w fun e w'=>e= .returned (.int .i64 (dz x s * 32+s)) ∧Below w.heap.size w w':=by
 have hgi:=fun (W : World) (hW : Below w.heap.size w W) =>vo W H.E x s (dW h hW) hs
 have hho:=fun W=>EK s (dz x s) W h1 h2
 obtain⟨w0,hW0⟩ : ∃x,x= (w.alloc (.cells #[.slice H.E.Y.a H.E.Y.l H.E.Y.c, .slice H.E.Z.a H.E.Z.l H.E.Z.c, .slice H.I.G.a H.I.G.l H.I.G.c, .slice H.I.O.a H.I.O.l H.I.O.c] 31)) := ⟨_,rfl⟩
 have au : aB w0 (w.heap.size) [.slice H.E.Y.a H.E.Y.l H.E.Y.c, .slice H.E.Z.a H.E.Z.l H.E.Z.c, .slice H.I.G.a H.I.G.l H.I.G.c, .slice H.I.O.a H.I.O.l H.I.O.c]:=by
  rw [hW0]
  exact aB.nw
 have hB : Below w.heap.size w w0:=by
  rw [hW0]
  exact dJ
 go_enter Tryz.func100,Tryz.ntmps100
 go_wp2_with fail
 rw [←hW0]
 clear hW0
 have g_:=au.lt
 obtain⟨aD,aF,aR,aS,aL,aQ⟩ :=au.f4
 refine(hgi _ hB).mono ?_
 rintro e w1 ⟨rfl,hb⟩
 replace au:=au.below hb
 replace hB:=hB.trans (hb.mono hB.size)
 have sz:=hb.size
 clear hb
 clear aD aF aR aS aL aQ
 obtain⟨aD,aF,aR,aS,aL,aQ⟩ :=au.f4
 clear hgi
 go_wp2_with (go_at_call 163;refine(hho _).mono ?_;rintro e wv ⟨rfl,rfl⟩)
 go_ret
 exact⟨rfl,Below.trans hB dQ⟩
set_option maxRecDepth 100000 in
set_option maxHeartbeats 4000000 in
theorem uU (w : World)(H : bP)(_y : Mem)(x : Heap)(s : Int)(h : gU w w.heap.size H.E x)(hs : gI x=true)(h1 : bO 0 23 s=true)(h2 : bO 1 6 (dz x s) =true)(k1 : ¬ aO x s<0) :
  Calls Tryz.prog 106 #[.agg #[.slice H.E.Y.a H.E.Y.l H.E.Y.c, .slice H.E.Z.a H.E.Z.l H.E.Z.c, .slice H.I.G.a H.I.G.l H.I.G.c, .slice H.I.O.a H.I.O.l H.I.O.c], .int .i64 s] w fun e w'=>e= .returned (.int .i64 (dz x s * 32+s)) ∧Below w.heap.size w w':=by
 have hgi:=fun (W : World) (hW : Below w.heap.size w W) =>qH W H.E x s (dW h hW) hs k1
 have hho:=fun W=>q8 s (dz x s) W h1 h2
 obtain⟨w0,hW0⟩ : ∃x,x= (w.alloc (.cells #[.slice H.E.Y.a H.E.Y.l H.E.Y.c, .slice H.E.Z.a H.E.Z.l H.E.Z.c, .slice H.I.G.a H.I.G.l H.I.G.c, .slice H.I.O.a H.I.O.l H.I.O.c] 31)) := ⟨_,rfl⟩
 have au : aB w0 (w.heap.size) [.slice H.E.Y.a H.E.Y.l H.E.Y.c, .slice H.E.Z.a H.E.Z.l H.E.Z.c, .slice H.I.G.a H.I.G.l H.I.G.c, .slice H.I.O.a H.I.O.l H.I.O.c]:=by
  rw [hW0]
  exact aB.nw
 have hB : Below w.heap.size w w0:=by
  rw [hW0]
  exact dJ
 go_enter Tryz.func106,Tryz.ntmps106
 go_wp2_with fail
 rw [←hW0]
 clear hW0
 have g_:=au.lt
 obtain⟨aD,aF,aR,aS,aL,aQ⟩ :=au.f4
 refine(hgi _ hB).mono ?_
 rintro e w1 ⟨rfl,hb⟩
 replace au:=au.below hb
 replace hB:=hB.trans (hb.mono hB.size)
 have sz:=hb.size
 clear hb
 clear aD aF aR aS aL aQ
 obtain⟨aD,aF,aR,aS,aL,aQ⟩ :=au.f4
 clear hgi
 go_wp2_with (go_at_call 41;refine(hho _).mono ?_;rintro e wv ⟨rfl,rfl⟩)
 go_ret
 exact⟨rfl,Below.trans hB dQ⟩
end Go.Proofs.YtkmggglljkmjoaaGreat
