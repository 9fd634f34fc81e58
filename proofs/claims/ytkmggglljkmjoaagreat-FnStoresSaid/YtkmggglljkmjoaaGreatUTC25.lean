/-
  Several texts in one: lemmas and contracts that the claim rests on.
-/
import Derived.Test.YtkmggglljkmjoaaGreatUTC1
import Derived.Deep.QuietTactic
import Derived.BigQuiet
import Derived.Deep.LoopGhost
import Derived.Deep.RegionHeld3
import Derived.Test.YtkmggglljkmjoaaGreatUTC2
import Derived.WalkSpells
import Derived.Laws.Cover3
import Derived.Test.YtkmggglljkmjoaaGreatUTC24
import Derived.Test.YtkmggglljkmjoaaGreatUTC13
import Derived.Test.YtkmggglljkmjoaaGreatUTC6
import Derived.Deep.CutRange
import Derived.Deep.RegionLaw
namespace Go.Proofs.YtkmggglljkmjoaaGreat
open Go.RowKit
open Go.Proofs.YtkmggglljkmjoaaGreat.Lim
theorem bA.cellS {w : World}{g n c E : Nat}{l : List SV}(h : bA FS E w (.slice (some ⟨g,0,none⟩) n c) l){k : Nat}{s : SV}(hs : l[k]? =some s) : w.cell? ⟨g,k,none⟩ =some (.slice s.a s.l s.c) :=by
 simpa [FS] using bA.cell_ h (j:=0) hs (by decide)
def Lc (w : World)(g : Nat)(code : List Int)(e : Ending)(w' : World) : Prop:= ∃ (H : aZ) (x : Lists),e= .returned (H.val x) ∧dZ w' H x∧bX x≤60∧ (∀b∈H.foot,w.heap.size≤b) ∧f_ w' g code∧aY [g] w w'
theorem dR.ET {α : Type}{T : FT α}{e E : TypeId}{w : World}{g n c : Nat}{fF : List SV}{ll : List (List α)}(h : dR T e E w (.slice (some ⟨g,0,none⟩) n c) fF ll){i : Nat}(hi : i≤ll.length) : dR T e E w (.slice (some ⟨g,0,none⟩) i c) (fF.take i) (ll.take i) :=by
 have hs : i≤fF.length:=by rw [h.len];exact hi
 refine⟨by rw [List.length_take,List.length_take,h.len],bA.ET h.outer hs,fun k s l hk hl=> ?_, ?_⟩
 ·rw [List.getElem?_take] at hk hl
  split at hk
  ·rename_i hlt
   rw [if_pos hlt] at hl
   exact h.inner k s l hk hl
  ·cases hk
 ·have hn:=h.nodup
  unfold dH at hn⊢
  have e : fF.flatMap (fun s=>cu s.val) = (fF.take i).flatMap (fun s=>cu s.val) ++ (fF.drop i).flatMap (fun s=>cu s.val) :=by rw [←List.flatMap_append,List.take_append_drop]
  rw [e, ←List.append_assoc,List.nodup_append] at hn
  exact hn.1
theorem Eu {fF : List SV}{i : Nat}{b : Nat}{g n c m d : Nat}(h : b∈dH (.slice (some ⟨g,0,none⟩) n c) (fF.take i)) : b∈dH (.slice (some ⟨g,0,none⟩) m d) fF:=by
 rcases cZ.1 h with h1| ⟨s,hs,h1⟩
 ·exact cZ.2 (.inl h1)
 ·exact cZ.2 (.inr ⟨s,List.mem_of_mem_take hs,h1⟩)
theorem J_ (ll : List (List Int))(i : Nat) : jh (ll.take i) ≤jh ll:=by
 have a : (ll.take i).length≤ll.length:=by simp;omega
 have b:=qX ll i
 have c : jh ll=ll.length+mZ ll:=rfl
 have d : jh (ll.take i) = (ll.take i).length+mZ (ll.take i) :=rfl
 omega
theorem kE {gG n p b : Nat}{tG : List SV}{K : SV}{tO : List SV}(h : b∈dH (.slice (some ⟨gG,0,none⟩) n p) tG) : b∈aZ.foot ⟨⟨some ⟨gG,0,none⟩,n,p⟩,tG,K,tO⟩ :=aZ.aX.2 (.inl h)
theorem kW {gO n p b : Nat}{tO : List SV}{K : SV}{tG : List SV}(h : b∈dH (.slice (some ⟨gO,0,none⟩) n p) tO) : b∈aZ.foot ⟨K,tG, ⟨some ⟨gO,0,none⟩,n,p⟩,tO⟩ :=aZ.aX.2 (.inr h)
set_option maxRecDepth 100000 in
set_option maxHeartbeats 8000000 in
theorem Ga (w : World)(g : Nat)(code : List Int)(hc : f_ w g code) : Calls Tryz.prog 139 #[.pointer (some ⟨g,0,none⟩)] w (Lc w g code) :=by
 have hgl:=hc.lt
 obtain⟨w0,hW0⟩ : ∃x,x= (w.alloc (.cells #[.slice none 0 0, .slice none 0 0] 29)) := ⟨_,rfl⟩
 have ah : aB w0 (w.heap.size) [.slice none 0 0, .slice none 0 0]:=by
  rw [hW0]
  exact aB.nw
 have hC : aY [g] w w0:=hW0 ▸ (aY.refl [g] w).aH _
 replace hc : f_ w0 g code:=hW0 ▸ (hc).alloc _
 go_enter Tryz.func139,Tryz.ntmps139
 go_wp2_with fail
 rw [←hW0]
 clear hW0
 have iB:=ah.lt
 have F3 : w.heap.size≤w.heap.size:=by omega
 have sC:=hC.size
 obtain⟨aj,ak,ay,aI⟩ :=ah.f2
 refine(Ij _ g code hc).mono ?_
 rintro e w1 ⟨gX,x,rfl,bI,HS,gT,hcn,hx⟩
 replace hc:=hcn
 replace ah:=ah.aM hx (by simp only [List.mem_cons,List.not_mem_nil,or_false];omega)
 replace hC:=hC.trans hx
 have sz:=hx.size
 replace sC:=hC.size
 clear hx
 have fT:=bI.lt
 clear aj ak ay aI
 obtain⟨aj,ak,ay,aI⟩ :=ah.f2
 obtain⟨⟨A1,n1,pG⟩,tG, ⟨A2,n2,pO⟩,tO⟩ :=gX
 obtain⟨gG,q1,hv1,hg1⟩ :=dR.jV (v:= .slice A1 n1 pG) bI.G (by rw [HS.gl];decide)
 obtain⟨gO,q2,hv2,hg2⟩ :=dR.jV (v:= .slice A2 n2 pO) bI.O (by rw [HS.ow];decide)
 injection hv1 with i1 i2 i3
 injection hv2 with j1 j2 j3
 subst i1 i2 i3 j1 j2 j3
 have Q8 : x.G.length≤pG:= (bI.G.rd'.len').2.1
 have Q9 : x.O.length≤pO:= (bI.O.rd'.len').2.1
 have NM : 3≤x.G.length:=by rw [HS.gl];decide
 have NP : x.G.length≤3:=by rw [HS.gl];decide
 have Py : 9≤x.O.length:=by rw [HS.ow];decide
 have Pz : x.O.length≤9:=by rw [HS.ow];decide
 have hsz:=HS.sz
 clear HS
 have OZ:=Hid.aT bI.G.len
 have He:=Hid.aT bI.O.len
 have mG : gG∈dH (.slice (some ⟨gG,0,none⟩) x.G.length pG) tG:=cZ.2 (.inl rfl)
 have mO : gO∈dH (.slice (some ⟨gO,0,none⟩) x.O.length pO) tO:=cZ.2 (.inl rfl)
 have lG:=gT gG (kE mG)
 have lO:=gT gO (kW mO)
 have uG:=fT gG (kE mG)
 have uO:=fT gO (kW mO)
 have Q_ : gG≠gO:=fun e=>bI.iV gG mG (e ▸ mO)
 have Mh : ∀b∈dH (.slice (some ⟨gG,0,none⟩) x.G.length pG) tG,b≠gO:=fun b hb e=>bI.iV b hb (e ▸ mO)
 have vk:=bI.iV
 go_wp2_with fail
 generalize hO : Obj.cells #[.slice (some ⟨gG,0,none⟩) x.G.length pG, .slice (some ⟨gO,0,none⟩) x.O.length pO] 29=O_
 replace ah:=ah.alloc O_
 replace bI:=bI.aH O_
 replace hC:=hC.aH O_
 replace hc:=hc.alloc O_
 have bB : aB (w1.alloc O_) w1.heap.size [.slice (some ⟨gG,0,none⟩) x.G.length pG, .slice (some ⟨gO,0,none⟩) x.O.length pO]:=hO ▸ aB.new _ _ _
 have BU:=bB.lt
 have sz : w1.heap.size≤ (w1.alloc O_).heap.size:=Nat.le_of_lt bB.lt
 have J6 : w.heap.size≤w1.heap.size:=by omega
 generalize hG : (w1.alloc O_) =w2 at ah bI hC hc bB BU sz⊢
 clear hG hO O_
 replace sC:=hC.size
 clear aj ak ay aI
 obtain⟨aj,ak,ay,aI⟩ :=ah.f2
 obtain⟨bL,bM,dh,dV⟩ :=bB.f2
 have Qh : ¬ gG=w1.heap.size:=by omega
 have Qi : ¬ w1.heap.size=gG:=by omega
 have Qj : ¬ gG=w.heap.size:=by omega
 have Qk : ¬ w.heap.size=gG:=by omega
 have Ql : ¬ gO=w1.heap.size:=by omega
 have Qm : ¬ w1.heap.size=gO:=by omega
 have Qn : ¬ gO=w.heap.size:=by omega
 have Qo : ¬ w.heap.size=gO:=by omega
 refine(cK _ g code 20 (by unfold gZ;omega) hc).mono ?_
 rintro e w3 ⟨k,rfl,k0,k1,hcn,hx⟩
 replace hc:=hcn
 replace ah:=ah.aM hx (by simp only [List.mem_cons,List.not_mem_nil,or_false];omega)
 replace bB:=bB.aM hx (by simp only [List.mem_cons,List.not_mem_nil,or_false];omega)
 replace bI:=bI.aM hx (fun b hb hm=>by simp only [List.mem_cons,List.not_mem_nil,or_false] at hm;have:=gT b hb;have:=fT b hb;omega)
 replace hC:=hC.trans hx
 have sz:=hx.size
 replace sC:=hC.size
 clear hx
 skip
 clear aj ak ay aI
 obtain⟨aj,ak,ay,aI⟩ :=ah.f2
 clear bL bM dh dV
 obtain⟨bL,bM,dh,dV⟩ :=bB.f2
 by_cases e0 : k=0
 case pos=>
  subst e0
  have ft : ∀b∈aZ.foot ⟨⟨some ⟨gG,0,none⟩,2,pG⟩,tG.take 2, ⟨some ⟨gO,0,none⟩,x.O.length,pO⟩,tO⟩,b∈aZ.foot ⟨⟨some ⟨gG,0,none⟩,x.G.length,pG⟩,tG, ⟨some ⟨gO,0,none⟩,x.O.length,pO⟩,tO⟩ :=fun b hb=>by rcases aZ.aX.1 hb with h1|h1; (exact kE (Eu h1)); (exact kW h1)
  go_wp2_with fail
  refine bodyPost_ret (v:= .agg #[.slice (some ⟨gG,0,none⟩) 2 pG, .slice (some ⟨gO,0,none⟩) x.O.length pO]) (by simp [results,Tryz.results139,go_sem,aj,ak]) rfl ⟨⟨⟨some ⟨gG,0,none⟩,2,pG⟩,tG.take 2, ⟨some ⟨gO,0,none⟩,x.O.length,pO⟩,tO⟩, {x with G:=x.G.take 2},rfl,dZ.aM (F:= [w.heap.size,w1.heap.size]) (⟨dR.ET (i:=2) bI.G (show 2≤x.G.length by omega),bI.O,fun b hb=>vk b (Eu hb)⟩ : dZ _ ⟨⟨some ⟨gG,0,none⟩,2,pG⟩,tG.take 2, ⟨some ⟨gO,0,none⟩,x.O.length,pO⟩,tO⟩ {x with G:=x.G.take 2}) bW (fun b hb hm=>by simp only [List.mem_cons,List.not_mem_nil,or_false] at hm;have:=gT b (ft b hb);have:=fT b (ft b hb);omega),by have:=J_ x.G 2;unfold bX at hsz⊢;simp only;omega,fun b hb=>by have:=gT b (ft b hb);omega,hc.je (B:=w.heap.size) hgl dQ hC.size,hC.then_ dQ⟩
 have Mc : (k == 0) =false:=by simpa using e0
 by_cases e1 : k=1
 case pos=>
  subst e1
  go_wp2_with (at_builtin;refine gu Tryz.stSL rfl _ _ rfl (v:= .slice (some ⟨gO,0,none⟩) x.O.length pO) (y:= .slice (some ⟨w3.heap.size,0,none⟩) 1 1) (l:=tO) (m:= [⟨none,0,0⟩]) rfl rfl (bA.aH bI.O.outer _) (bA.lit FS [⟨none,0,0⟩] #[.slice none 0 0] rfl (by simp [maxLen]) w3 94).rd' (by simp only [List.length_singleton];have:=He.out;omega) ?_;intro v4 w4 CW hg4 BX;obtain⟨A4,c4,hv4,_⟩ :=id CW.rd';simp only [List.length_append,List.length_cons,List.length_nil] at hv4;subst hv4;have hx4:=aY.jP hg4;have hx5 : aY [gO] (w3.alloc (.cells #[.slice none 0 0] 94)) w4:=hx4.mono (fun b hb=>by have:=bY.1 hb;simp [this]);replace bB:= (bB.alloc (.cells #[.slice none 0 0] 94)).aM hx5 (by simp;omega);clear bL bM dh dV;obtain⟨bL,bM,dh,dV⟩ :=bB.f2;replace ah:= (ah.alloc (.cells #[.slice none 0 0] 94)).aM hx5 (by simp;omega);clear aj ak ay aI;obtain⟨aj,ak,ay,aI⟩ :=ah.f2;have xq : Below w.heap.size w3 w4:= ((Below.refl _ _).alloc hC.size _).grown hg4 (by simp;omega) (fun b hb=>by have:=bY.1 (bV.2 hb);omega))
  replace hc:=hc.je (B:=w.heap.size) hgl xq hC.size
  replace hC:=hC.then_ xq
  have O1:=dR.snoc (bI.O.aH (.cells #[.slice none 0 0] 94)) (s:= ⟨none,0,0⟩) (l:= []) (World.ownsRow_nil _ _ _ _) (fun b hb=>by simp [cu,SV.val,Value.ownBlock] at hb) CW hg4 BX
  have O4:= (bI.G.aH (.cells #[.slice none 0 0] 94)).aM hx5 (fun b hb hm=>by simp only [List.mem_cons,List.not_mem_nil,or_false] at hm;exact Mh b hb hm)
  have f4 : ∀b∈dH (.slice A4 (tO.length+ (0+1)) c4) (tO++ [⟨none,0,0⟩]),b∈dH (.slice (some ⟨gO,0,none⟩) x.O.length pO) tO∨b=w3.heap.size+1:=fun b hb=>by
   rcases cZ.1 hb with h1| ⟨s,hs,h1⟩
   ·rcases BX with h2|h2; (rw [h2] at h1;exact .inl (cZ.2 (.inl h1))); (rw [h2] at h1;injection h1 with h1;simp at h1;exact .inr h1.symm)
   ·rcases List.mem_append.1 hs with hs|hs; (exact .inl (cZ.2 (.inr ⟨s,hs,h1⟩))); (rw [List.mem_singleton.1 hs] at h1;simp [SV.val,Value.ownBlock] at h1)
  have o4 : dZ w4 ⟨⟨some ⟨gG,0,none⟩,x.G.length,pG⟩,tG, ⟨A4,tO.length+ (0+1),c4⟩,tO++ [⟨none,0,0⟩]⟩ {x with O:=x.O++ [[]]}:= ⟨O4,O1,fun b hb hm=>by rcases f4 b hm with e|e; (exact vk b hb e); (have:=fT b (kE hb);omega)⟩
  have g4 : ∀b∈aZ.foot ⟨⟨some ⟨gG,0,none⟩,x.G.length,pG⟩,tG, ⟨A4,tO.length+ (0+1),c4⟩,tO++ [⟨none,0,0⟩]⟩,w.heap.size<b∧b≠w1.heap.size:=fun b hb=>by rcases aZ.aX.1 hb with h1|h1; (have:=gT b (kE h1);have:=fT b (kE h1);omega); (rcases f4 b h1 with e|e; (have:=gT b (kW e);have:=fT b (kW e);omega);omega)
  go_wp2_with fail
  refine bodyPost_ret (v:= .agg #[.slice (some ⟨gG,0,none⟩) x.G.length pG, .slice A4 (tO.length+ (0+1)) c4]) (by simp [results,Tryz.results139,go_sem,aj,ak]) rfl ⟨⟨⟨some ⟨gG,0,none⟩,x.G.length,pG⟩,tG, ⟨A4,tO.length+ (0+1),c4⟩,tO++ [⟨none,0,0⟩]⟩, {x with O:=x.O++ [[]]},rfl,o4.aM (F:= [w.heap.size,w1.heap.size]) bW (fun b hb hm=>by simp only [List.mem_cons,List.not_mem_nil,or_false] at hm;have:=g4 b hb;omega),by unfold bX jh at hsz⊢;simp;omega,fun b hb=>by have:=g4 b hb;omega,hc.je (B:=w.heap.size) hgl dQ hC.size,hC.then_ dQ⟩
 have Md : (k == 1) =false:=by simpa using e1
 by_cases e2 : k=2
 case pos=>
  subst e2
  go_wp2_with fail
  go_region_held3 (fun w'=>w'.cell? ⟨w1.heap.size,0,none⟩ =some (.slice (some ⟨gG,0,none⟩) x.G.length pG) ∧w'.cell? ⟨w1.heap.size,1,none⟩ =some (.slice (some ⟨gO,0,none⟩) x.O.length pO)) (first| (with_reducible exact⟨bL,bM⟩) | (refine⟨?_, ?_⟩ <;> (repeat (first|with_reducible assumption|with_reducible refine fH ?_ (by omega) |with_reducible refine eF ?_ (by omega) |with_reducible refine fu ?_));done) | (go_keep;done)) (first| (go_at_call 63; (first| ((with_reducible refine(cK _ g code _ (by unfold gZ;omega) hc).mono ?_);rintro e wq ⟨c_,rfl,c0,c1,hcn,hx⟩;replace ah:=ah.aM hx (by simp only [List.mem_cons,List.not_mem_nil,or_false];omega);replace bB:=bB.aM hx (by simp only [List.mem_cons,List.not_mem_nil,or_false];omega);replace bI:=bI.aM hx (fun b hb hm=>by simp only [List.mem_cons,List.not_mem_nil,or_false] at hm;have:=gT b hb;have:=fT b hb;omega); (try replace jc:=jc.aM hx (fun b hb hm=>by simp only [List.mem_cons,List.not_mem_nil,or_false] at hm;have:=nX b hb;have:=qc b hb;omega)); (try replace dw:=dw.aM hx (by simp only [List.mem_cons,List.not_mem_nil,or_false];omega)); (try replace iM:=dw.cell 0 _ rfl); (try replace iN:=dw.cell 1 _ rfl); (try replace iO:=dw.cell 2 _ rfl); (try replace lQ:=dw.dn); (try replace kS:=dw.lt);replace hC:=aY.trans hC hx;replace hc:=hcn;have sz:=hx.size;replace sC:=hC.size;clear hx;clear aj ak ay aI;obtain⟨aj,ak,ay,aI⟩ :=ah.f2;clear bL bM dh dV;obtain⟨bL,bM,dh,dV⟩ :=bB.f2;obtain⟨c,rfl⟩ :=Int.eq_ofNat_of_zero_le c0;have hcl : c<x.O.length:= (by omega);have sM : (c : Int) < (x.O.length : Int) := (by omega);have hct : c<tO.length:= (by have:=He.out;omega);have p0:=bA.cellS bI.O.outer (List.getElem?_eq_getElem hct);have pf:=bA.eD bI.O.outer c;have zO : gO<wq.heap.size:= (by omega)) | ((with_reducible refine(cK _ g code _ (by unfold gZ;omega) (hc.alloc _)).mono ?_);rintro e wq ⟨c_,rfl,c0,c1,hcn,hx⟩;have jy:=ah.lt;have lK:=bB.lt;replace ah:= (ah.alloc _).aM hx (by simp only [List.mem_cons,List.not_mem_nil,or_false];omega);replace bB:= (bB.alloc _).aM hx (by simp only [List.mem_cons,List.not_mem_nil,or_false];omega);replace bI:= (bI.aH _).aM hx (fun b hb hm=>by simp only [List.mem_cons,List.not_mem_nil,or_false] at hm;have:=gT b hb;have:=fT b hb;omega);have dw:=aB.aM (aB.new _ #[.int .i64 1, .int .i64 2, .int .i64 3] 3) hx (by simp only [List.mem_cons,List.not_mem_nil,or_false];omega);have sN:=hC.size;have lQ:=dw.dn;have kS:=dw.lt;have iM:=dw.cell 0 _ rfl;have iN:=dw.cell 1 _ rfl;have iO:=dw.cell 2 _ rfl;have jc:=bA.aM (bA.lit FI [1,2,3] #[.int .i64 1, .int .i64 2, .int .i64 3] rfl (by simp [maxLen]) _ 3) hx (fun b hb hm=>by have e1:=bY.1 hb;simp only [List.mem_cons,List.not_mem_nil,or_false,fq] at hm e1;omega);replace hC:=aY.trans (hC.aH _) hx;replace hc:=hcn;have sz:=gV hx.size;replace sC:=hC.size;clear hx;clear aj ak ay aI;obtain⟨aj,ak,ay,aI⟩ :=ah.f2;clear bL bM dh dV;obtain⟨bL,bM,dh,dV⟩ :=bB.f2;obtain⟨c,rfl⟩ :=Int.eq_ofNat_of_zero_le c0;have hcl : c<x.O.length:= (by omega);have sM : (c : Int) < (x.O.length : Int) := (by omega);have hct : c<tO.length:= (by have:=He.out;omega);have p0:=bA.cellS bI.O.outer (List.getElem?_eq_getElem hct);have pf:=bA.eD bI.O.outer c;have zO : gO<wq.heap.size:= (by omega)) | ((with_reducible refine(cK _ g code _ (by unfold gZ;omega) (hc.bf)).mono ?_);rintro e wq ⟨c_,rfl,c0,c1,hcn,hx⟩;replace ah:=ah.drew.aM hx (by simp only [List.mem_cons,List.not_mem_nil,or_false];omega);replace bB:=bB.drew.aM hx (by simp only [List.mem_cons,List.not_mem_nil,or_false];omega);replace bI:= (bI.bf).aM hx (fun b hb hm=>by simp only [List.mem_cons,List.not_mem_nil,or_false] at hm;have:=gT b hb;have:=fT b hb;omega); (try replace jc:= (jc.bf).aM hx (fun b hb hm=>by simp only [List.mem_cons,List.not_mem_nil,or_false] at hm;have:=nX b hb;have:=qc b hb;omega)); (try replace dw:=dw.drew.aM hx (by simp only [List.mem_cons,List.not_mem_nil,or_false];omega)); (try replace iM:=dw.cell 0 _ rfl); (try replace iN:=dw.cell 1 _ rfl); (try replace iO:=dw.cell 2 _ rfl); (try replace lQ:=dw.dn); (try replace kS:=dw.lt);replace hC:=aY.trans hC.bf hx;replace hc:=hcn;have sz:=jE hx.size;replace sC:=hC.size;clear hx;clear aj ak ay aI;obtain⟨aj,ak,ay,aI⟩ :=ah.f2;clear bL bM dh dV;obtain⟨bL,bM,dh,dV⟩ :=bB.f2;obtain⟨c,rfl⟩ :=Int.eq_ofNat_of_zero_le c0;have hcl : c<x.O.length:= (by omega);have sM : (c : Int) < (x.O.length : Int) := (by omega);have hct : c<tO.length:= (by have:=He.out;omega);have p0:=bA.cellS bI.O.outer (List.getElem?_eq_getElem hct);have pf:=bA.eD bI.O.outer c;have zO : gO<wq.heap.size:= (by omega)) | ((with_reducible refine(cK _ g code _ (by unfold gZ;omega) ((hc.bf).alloc _)).mono ?_);rintro e wq ⟨c_,rfl,c0,c1,hcn,hx⟩;have jy:=ah.lt;have lK:=bB.lt;replace ah:= ((ah.drew).alloc _).aM hx (by simp only [List.mem_cons,List.not_mem_nil,or_false];omega);replace bB:= ((bB.drew).alloc _).aM hx (by simp only [List.mem_cons,List.not_mem_nil,or_false];omega);replace bI:= ((bI.bf).aH _).aM hx (fun b hb hm=>by simp only [List.mem_cons,List.not_mem_nil,or_false] at hm;have:=gT b hb;have:=fT b hb;omega);have dw:=aB.aM (aB.new _ #[.int .i64 1, .int .i64 2, .int .i64 3] 3) hx (by simp only [List.mem_cons,List.not_mem_nil,or_false];omega); (try simp only [fq] at dw);have sN:=hC.size;have lQ:=dw.dn;have kS:=dw.lt;have iM:=dw.cell 0 _ rfl;have iN:=dw.cell 1 _ rfl;have iO:=dw.cell 2 _ rfl;have jc:=bA.aM (bA.lit FI [1,2,3] #[.int .i64 1, .int .i64 2, .int .i64 3] rfl (by simp [maxLen]) _ 3) hx (fun b hb hm=>by have e1:=bY.1 hb;simp only [List.mem_cons,List.not_mem_nil,or_false,fq] at hm e1;omega); (try simp only [fq] at jc);replace hC:=aY.trans (hC.bf.aH _) hx;replace hc:=hcn;have sz:=iL hx.size;replace sC:=hC.size;clear hx;clear aj ak ay aI;obtain⟨aj,ak,ay,aI⟩ :=ah.f2;clear bL bM dh dV;obtain⟨bL,bM,dh,dV⟩ :=bB.f2;obtain⟨c,rfl⟩ :=Int.eq_ofNat_of_zero_le c0;have hcl : c<x.O.length:= (by omega);have sM : (c : Int) < (x.O.length : Int) := (by omega);have hct : c<tO.length:= (by have:=He.out;omega);have p0:=bA.cellS bI.O.outer (List.getElem?_eq_getElem hct);have pf:=bA.eD bI.O.outer c;have zO : gO<wq.heap.size:= (by omega)) | ((with_reducible refine(cK _ g code _ (by unfold gZ;omega) ((hc.alloc _).bf)).mono ?_);rintro e wq ⟨c_,rfl,c0,c1,hcn,hx⟩;have jy:=ah.lt;have lK:=bB.lt;replace ah:= (ah.alloc _).drew.aM hx (by simp only [List.mem_cons,List.not_mem_nil,or_false];omega);replace bB:= (bB.alloc _).drew.aM hx (by simp only [List.mem_cons,List.not_mem_nil,or_false];omega);replace bI:= ((bI.aH _).bf).aM hx (fun b hb hm=>by simp only [List.mem_cons,List.not_mem_nil,or_false] at hm;have:=gT b hb;have:=fT b hb;omega);have dw:=aB.aM (aB.new _ #[.int .i64 1, .int .i64 2, .int .i64 3] 3).drew hx (by simp only [List.mem_cons,List.not_mem_nil,or_false];omega);have sN:=hC.size;have lQ:=dw.dn;have kS:=dw.lt;have iM:=dw.cell 0 _ rfl;have iN:=dw.cell 1 _ rfl;have iO:=dw.cell 2 _ rfl;have jc:=bA.aM (bA.lit FI [1,2,3] #[.int .i64 1, .int .i64 2, .int .i64 3] rfl (by simp [maxLen]) _ 3).bf hx (fun b hb hm=>by have e1:=bY.1 hb;simp only [List.mem_cons,List.not_mem_nil,or_false] at hm e1;omega);replace hC:=aY.trans (hC.aH _).bf hx;replace hc:=hcn;have sz:=gV (jE hx.size);replace sC:=hC.size;clear hx;clear aj ak ay aI;obtain⟨aj,ak,ay,aI⟩ :=ah.f2;clear bL bM dh dV;obtain⟨bL,bM,dh,dV⟩ :=bB.f2;obtain⟨c,rfl⟩ :=Int.eq_ofNat_of_zero_le c0;have hcl : c<x.O.length:= (by omega);have sM : (c : Int) < (x.O.length : Int) := (by omega);have hct : c<tO.length:= (by have:=He.out;omega);have p0:=bA.cellS bI.O.outer (List.getElem?_eq_getElem hct);have pf:=bA.eD bI.O.outer c;have zO : gO<wq.heap.size:= (by omega)))))
  all_goals
   have hts : tO[c]? =some tO[c]:=List.getElem?_eq_getElem hct
   go_wp2_with fail
   first
   | ((have oz:=bA.lit FI [1,2,3] #[.int .i64 1, .int .i64 2, .int .i64 3] rfl (by simp [maxLen]) wq 3); (have s1:= (bI.O.aH (.cells #[.int .i64 1, .int .i64 2, .int .i64 3] 3)).IJ (s:= (⟨some ⟨wq.heap.size,0,none⟩,3,3⟩ : SV)) hts oz (fun b hb hm=>by have e1:=bY.1 hb;have:=fT b (kW hm);omega));simp only [SV.val] at s1; (have oW : dZ ((wq.alloc (.cells #[.int .i64 1, .int .i64 2, .int .i64 3] 3)).setCell ⟨gO,c,none⟩ (.slice (some ⟨wq.heap.size,0,none⟩) 3 3)) ⟨⟨some ⟨gG,0,none⟩,x.G.length,pG⟩,tG, ⟨some ⟨gO,0,none⟩,x.O.length,pO⟩,tO.set c ⟨some ⟨wq.heap.size,0,none⟩,3,3⟩⟩ {x with O:=x.O.set c [1,2,3]}:= ⟨bI.G.aM (F:= [gO]) bW (fun b hb hm=>by simp only [List.mem_cons,List.not_mem_nil,or_false] at hm;exact Mh b hb hm),s1,fun b hb hm=>by rcases iU hm with h1|h1; (exact vk b hb h1); (have e1:=bY.1 h1;have:=fT b (kE hb);omega)⟩); (have gW : ∀b∈aZ.foot ⟨⟨some ⟨gG,0,none⟩,x.G.length,pG⟩,tG, ⟨some ⟨gO,0,none⟩,x.O.length,pO⟩,tO.set c ⟨some ⟨wq.heap.size,0,none⟩,3,3⟩⟩,w.heap.size<b∧b≠w1.heap.size:=fun b hb=>by rcases aZ.aX.1 hb with h1|h1; (have:=gT b (kE h1);have:=fT b (kE h1);omega); (rcases iU h1 with e|e; (have:=gT b (kW e);have:=fT b (kW e);omega); (have e1:=bY.1 e;omega))); (have oF:=oW.aM (F:= [w.heap.size]) (w':= (((wq.alloc (.cells #[.int .i64 1, .int .i64 2, .int .i64 3] 3)).setCell ⟨gO,c,none⟩ (.slice (some ⟨wq.heap.size,0,none⟩) 3 3)).setCell ⟨w.heap.size,0,none⟩ (.slice (some ⟨gG,0,none⟩) x.G.length pG)).setCell ⟨w.heap.size,1,none⟩ (.slice (some ⟨gO,0,none⟩) x.O.length pO)) bW (fun b hb hm=>by simp only [List.mem_cons,List.not_mem_nil,or_false] at hm;have:=gW b hb;omega));rw [World.setCell_alloc_past _ _ _ _ zO,World.setCell_alloc_past _ _ _ _ (show w.heap.size< (wq.setCell _ _).heap.size by simpa using aI),World.setCell_alloc_past _ _ _ _ (show w.heap.size< ((wq.setCell _ _).setCell _ _).heap.size by simpa using aI)] at oF; (have hbx:= (((ah.other (g':=gO) (i:=c) (by omega) (.slice (some ⟨wq.heap.size,0,none⟩) 3 3)).set 0 (.slice (some ⟨gG,0,none⟩) x.G.length pG)).set 1 (.slice (some ⟨gO,0,none⟩) x.O.length pO)).alloc (.cells #[.int .i64 1, .int .i64 2, .int .i64 3] 3)); (have zU:=hbx.cell 0 _ rfl); (have zV:=hbx.cell 1 _ rfl); (refine bodyPost_ret (v:= .agg #[.slice (some ⟨gG,0,none⟩) x.G.length pG, .slice (some ⟨gO,0,none⟩) x.O.length pO]) (by simp [results,Tryz.results139,go_sem,zU,zV]) rfl ⟨⟨⟨some ⟨gG,0,none⟩,x.G.length,pG⟩,tG, ⟨some ⟨gO,0,none⟩,x.O.length,pO⟩,tO.set c ⟨some ⟨wq.heap.size,0,none⟩,3,3⟩⟩, {x with O:=x.O.set c [1,2,3]},rfl,oF, (by have:=pU x.O c [1,2,3];unfold bX at hsz⊢;simp only [List.length_cons,List.length_nil] at *;omega), (fun b hb=>by have:=gW b hb;omega),hc.je (B:=w.heap.size) hgl dQ hC.size,hC.then_ dQ⟩))
   | ((have s1:=bI.O.IJ (s:= (⟨some ⟨w3.heap.size,0,none⟩,3,3⟩ : SV)) hts jc (fun b hb hm=>by have e1:=bY.1 hb;have:=fT b (kW hm);omega));simp only [SV.val] at s1; (have oW : dZ (wq.setCell ⟨gO,c,none⟩ (.slice (some ⟨w3.heap.size,0,none⟩) 3 3)) ⟨⟨some ⟨gG,0,none⟩,x.G.length,pG⟩,tG, ⟨some ⟨gO,0,none⟩,x.O.length,pO⟩,tO.set c ⟨some ⟨w3.heap.size,0,none⟩,3,3⟩⟩ {x with O:=x.O.set c [1,2,3]}:= ⟨bI.G.aM (F:= [gO]) bW (fun b hb hm=>by simp only [List.mem_cons,List.not_mem_nil,or_false] at hm;exact Mh b hb hm),s1,fun b hb hm=>by rcases iU hm with h1|h1; (exact vk b hb h1); (have e1:=bY.1 h1;have:=fT b (kE hb);omega)⟩); (have gW : ∀b∈aZ.foot ⟨⟨some ⟨gG,0,none⟩,x.G.length,pG⟩,tG, ⟨some ⟨gO,0,none⟩,x.O.length,pO⟩,tO.set c ⟨some ⟨w3.heap.size,0,none⟩,3,3⟩⟩,w.heap.size<b∧b≠w1.heap.size:=fun b hb=>by rcases aZ.aX.1 hb with h1|h1; (have:=gT b (kE h1);have:=fT b (kE h1);omega); (rcases iU h1 with e|e; (have:=gT b (kW e);have:=fT b (kW e);omega); (have e1:=bY.1 e;omega))); (have oF:=oW.aM (F:= [w.heap.size]) (w':= ((wq.setCell ⟨gO,c,none⟩ (.slice (some ⟨w3.heap.size,0,none⟩) 3 3)).setCell ⟨w.heap.size,0,none⟩ (.slice (some ⟨gG,0,none⟩) x.G.length pG)).setCell ⟨w.heap.size,1,none⟩ (.slice (some ⟨gO,0,none⟩) x.O.length pO)) bW (fun b hb hm=>by simp only [List.mem_cons,List.not_mem_nil,or_false] at hm;have:=gW b hb;omega)); (refine bodyPost_ret (v:= .agg #[.slice (some ⟨gG,0,none⟩) x.G.length pG, .slice (some ⟨gO,0,none⟩) x.O.length pO]) (by simp [results,Tryz.results139,go_sem,aj,ak]) rfl ⟨⟨⟨some ⟨gG,0,none⟩,x.G.length,pG⟩,tG, ⟨some ⟨gO,0,none⟩,x.O.length,pO⟩,tO.set c ⟨some ⟨w3.heap.size,0,none⟩,3,3⟩⟩, {x with O:=x.O.set c [1,2,3]},rfl,oF, (by have:=pU x.O c [1,2,3];unfold bX at hsz⊢;simp only [List.length_cons,List.length_nil] at *;omega), (fun b hb=>by have:=gW b hb;omega),hc.je (B:=w.heap.size) hgl dQ hC.size,hC.then_ dQ⟩))
 have e2' : (k == 2) =false:=by simpa using e2
 by_cases e3 : k=3
 case pos=>
  subst e3
  go_wp2_with fail
  refine(cK _ g code 3 (by unfold gZ;omega) hc).mono ?_
  rintro e O5 ⟨Ra,rfl,O6,Rb,hcn,hx⟩
  replace hc:=hcn
  replace ah:=ah.aM hx (by simp only [List.mem_cons,List.not_mem_nil,or_false];omega)
  replace bB:=bB.aM hx (by simp only [List.mem_cons,List.not_mem_nil,or_false];omega)
  replace bI:=bI.aM hx (fun b hb hm=>by simp only [List.mem_cons,List.not_mem_nil,or_false] at hm;have:=gT b hb;have:=fT b hb;omega)
  replace hC:=hC.trans hx
  have sz:=hx.size
  replace sC:=hC.size
  clear hx
  skip
  clear aj ak ay aI
  obtain⟨aj,ak,ay,aI⟩ :=ah.f2
  clear bL bM dh dV
  obtain⟨bL,bM,dh,dV⟩ :=bB.f2
  obtain⟨kk,rfl⟩ :=Int.eq_ofNat_of_zero_le O6
  have hkl : kk<x.G.length:=by omega
  have Ic : (kk : Int) < (x.G.length : Int) :=by omega
  obtain⟨s,hsv⟩ : ∃s,tG[kk]? =some s:= ⟨_,List.getElem?_eq_getElem (by rw [OZ.out];exact hkl)⟩
  have HV:=Hid.aT hsv
  clear hsv
  obtain⟨l,hl⟩ : ∃l,x.G[kk]? =some l:= ⟨_,List.getElem?_eq_getElem hkl⟩
  have Bf:=Hid.aT hl
  have hll : l.length≤25:=by have:=mK (List.mem_of_getElem? hl);unfold bX at hsz;omega
  clear hl
  have hsf : ∀b∈cu s.val,b∈dH (.slice (some ⟨gG,0,none⟩) x.G.length pG) tG:=fun b hb=>cZ.2 (.inr ⟨s,List.mem_of_getElem? HV.out,bV.1 hb⟩)
  have hin:=bI.G.inner kk s l HV.out Bf.out
  have p0:=bA.cellS bI.G.outer HV.out
  have pf:=bA.eD bI.G.outer kk
  have zG : gG<O5.heap.size:=by omega
  have hne:=bI.G.head_ne HV.out
  have KT : w1.heap.size∉cu s.val:=fun hm=>by have:=fT _ (kE (hsf _ hm));omega
  have hnr : w.heap.size∉cu s.val:=fun hm=>by have:=gT _ (kE (hsf _ hm));omega
  go_wp2_with fail
  refine wp_region_held_drew (S:= (fun w'=>w'.cell? ⟨w1.heap.size,0,none⟩ =some (.slice (some ⟨gG,0,none⟩) x.G.length pG) ∧w'.cell? ⟨w1.heap.size,1,none⟩ =some (.slice (some ⟨gO,0,none⟩) x.O.length pO))) (by kernel_rfl) ?hd (fun hHeld=> ?hr)
  case hd=>
   (try dsimp only)
   (first| (with_reducible exact⟨bL,bM⟩) | (refine⟨?_, ?_⟩ <;> (repeat (first|with_reducible assumption|with_reducible refine fH ?_ (by omega) |with_reducible refine eF ?_ (by omega) |with_reducible refine fu ?_));done) | (go_keep;done))
  case hr=>
   refine wpAnyH_take (i:=0) (v:= ?_) rfl (by kernel_rfl) (by kernel_rfl) (by kernel_rfl) (fun _ _ _ h=>h) (Or.inl ⟨by kernel_rfl, ?_⟩) (by assumption) ?_
   rotate_left
   ·(intro wz hSw; (try dsimp only at hSw);go_simp; (try with_reducible rfl))
   try simp only [List.getElem_toArray,List.getElem_cons_zero,Act.put,List.setIfInBounds_toArray,List.set_cons_zero,List.set_cons_succ]
   refine wpAnyH_take (i:=1) (v:= ?_) rfl (by kernel_rfl) (by kernel_rfl) (by kernel_rfl) (fun _ _ _ h=>h) (Or.inl ⟨by kernel_rfl, ?_⟩) (by assumption) ?_
   rotate_left
   ·(intro wz hSw; (try dsimp only at hSw);go_simp; (try with_reducible rfl))
   try simp only [List.getElem_toArray,List.getElem_cons_succ,List.getElem_cons_zero,Act.put,List.setIfInBounds_toArray,List.set_cons_zero,List.set_cons_succ]
   refine wpAnyH_take (i:=2) (v:= ?_) rfl (by kernel_rfl) (by kernel_rfl) (by kernel_rfl) (fun _ _ _ h=>h) (Or.inl ⟨by kernel_rfl, ?_⟩) (by assumption) ?_
   rotate_left
   ·(intro wz hSw; (try dsimp only at hSw);go_simp; (try with_reducible rfl))
   try simp only [List.getElem_toArray,List.getElem_cons_succ,List.getElem_cons_zero,Act.put,List.setIfInBounds_toArray,List.set_cons_zero,List.set_cons_succ]
   refine wpAnyH_take (i:=3) (v:= ?_) rfl (by kernel_rfl) (by kernel_rfl) (by kernel_rfl) (fun _ _ _ h=>h) (Or.inl ⟨by kernel_rfl, ?_⟩) (by assumption) ?_
   rotate_left
   ·(intro wz hSw; (try dsimp only at hSw);go_simp; (try with_reducible rfl))
   try simp only [List.getElem_toArray,List.getElem_cons_succ,List.getElem_cons_zero,Act.put,List.setIfInBounds_toArray,List.set_cons_zero,List.set_cons_succ]
   refine wpAnyH_take (i:=4) (v:= ?_) rfl (by kernel_rfl) (by kernel_rfl) (by kernel_rfl) (fun _ _ _ h=>h) (Or.inl ⟨by kernel_rfl, ?_⟩) (by assumption) ?_
   rotate_left
   ·(intro wz hSw; (try dsimp only at hSw);go_simp; (try with_reducible rfl))
   try simp only [List.getElem_toArray,List.getElem_cons_succ,List.getElem_cons_zero,Act.put,List.setIfInBounds_toArray,List.set_cons_zero,List.set_cons_succ]
   refine wpAnyH_take (i:=5) (v:= ?_) rfl (by kernel_rfl) (by kernel_rfl) (by kernel_rfl) (fun _ _ _ h=>h) (Or.inl ⟨by kernel_rfl, ?_⟩) (by assumption) ?_
   rotate_left
   ·(intro wz hSw; (try dsimp only at hSw);go_simp; (try with_reducible rfl))
   try simp only [List.getElem_toArray,List.getElem_cons_succ,List.getElem_cons_zero,Act.put,List.setIfInBounds_toArray,List.set_cons_zero,List.set_cons_succ]
   refine wpAnyH_take (i:=6) (v:= ?_) rfl (by kernel_rfl) (by kernel_rfl) (by kernel_rfl) (fun _ _ _ h=>h) (Or.inl ⟨by kernel_rfl, ?_⟩) (by assumption) ?_
   rotate_left
   ·(intro wz hSw; (try dsimp only at hSw);go_simp; (try with_reducible rfl))
   try simp only [List.getElem_toArray,List.getElem_cons_succ,List.getElem_cons_zero,Act.put,List.setIfInBounds_toArray,List.set_cons_zero,List.set_cons_succ]
   refine wpAnyH_take (i:=7) (v:= ?_) rfl (by kernel_rfl) (by kernel_rfl) (by kernel_rfl) (fun _ _ _ h=>h) (Or.inl ⟨by kernel_rfl, ?_⟩) (by assumption) ?_
   rotate_left
   ·(intro wz hSw; (try dsimp only at hSw);go_simp; (try with_reducible rfl))
   try simp only [List.getElem_toArray,List.getElem_cons_succ,List.getElem_cons_zero,Act.put,List.setIfInBounds_toArray,List.set_cons_zero,List.set_cons_succ]
   refine wpAnyH_take (i:=9) (v:= ?_) rfl (by kernel_rfl) (by kernel_rfl) (by kernel_rfl) (fun _ _ _ h=>h) (Or.inl ⟨by kernel_rfl, ?_⟩) (by assumption) ?_
   rotate_left
   ·(intro wz hSw; (try dsimp only at hSw);go_simp; (try with_reducible rfl))
   try simp only [List.getElem_toArray,List.getElem_cons_succ,List.getElem_cons_zero,Act.put,List.setIfInBounds_toArray,List.set_cons_zero,List.set_cons_succ]
   refine wpAnyH_ready (rs:= [8,10]) (by kernel_rfl) (by simp) ?_
   refine(AllReadyH.cons rfl (fun K hK=> ?_) (AllReadyH.cons rfl (fun K hK=> ?_) AllReadyH.nil))
   ·go_simp
    refine hK.out _ _ ?hS (fun hHeld=> ?hr)
    case hS=>
     (try dsimp only)
     (first| (with_reducible exact⟨bL,bM⟩) | (refine⟨?_, ?_⟩ <;> (repeat (first|with_reducible assumption|with_reducible refine fH ?_ (by omega) |with_reducible refine eF ?_ (by omega) |with_reducible refine fu ?_));done) | (go_keep;done))
    case hr=>
     clear hK K
     try simp only [List.getElem_toArray,List.getElem_cons_succ,List.getElem_cons_zero,Act.put,List.setIfInBounds_toArray,List.set_cons_zero,List.set_cons_succ]
     refine wpAnyH_ready (rs:= [10]) (by kernel_rfl) (by simp) ?_
     refine(AllReadyH.cons rfl (fun K hK=> ?_) AllReadyH.nil)
     go_simp
     refine hK.out _ _ ?hS (fun hHeld=> ?hr)
     case hS=>
      (try dsimp only)
      (first| (with_reducible exact⟨bL,bM⟩) | (refine⟨?_, ?_⟩ <;> (repeat (first|with_reducible assumption|with_reducible refine fH ?_ (by omega) |with_reducible refine eF ?_ (by omega) |with_reducible refine fu ?_));done) | (go_keep;done))
     case hr=>
      clear hK K
      try simp only [List.getElem_toArray,List.getElem_cons_succ,List.getElem_cons_zero,Act.put,List.setIfInBounds_toArray,List.set_cons_zero,List.set_cons_succ]
      refine wpAnyH_ready (rs:= [11]) (by kernel_rfl) (by simp) ?_
      refine(AllReadyH.cons rfl (fun K hK=> ?_) AllReadyH.nil)
      go_simp
      (go_at_call 64; (first| ((with_reducible refine(iZ _ g _ code [-1,24,5,6] _ 4 (show aB _ _ [.int .i64 (-1), .int .i64 24, .int .i64 5, .int .i64 6] from (aB.new _ #[.int .i64 (-1), .int .i64 24, .int .i64 5, .int .i64 6] 3)) (by simp) (by simp) (by simp;omega) (by decide) (by decide) (hc.alloc _)).mono ?_);rintro e wq ⟨y,rfl,hy,hcn,hx⟩;replace bB:= (bB.alloc _).aM hx (by simp only [List.mem_cons,List.not_mem_nil,or_false];omega);replace ah:= (ah.alloc _).aM hx (by simp only [List.mem_cons,List.not_mem_nil,or_false];omega);replace bI:= (bI.aH _).aM hx (fun b hb hm=>by simp only [List.mem_cons,List.not_mem_nil,or_false] at hm;have:=gT b hb;have:=fT b hb;omega);replace hC:=aY.trans (hC.aH _) hx;replace hc:=hcn;have sz:=hx.size; (try simp only [World.size_alloc,fq] at sz);replace sC:=hC.size;clear hx;replace bL:=bB.cell 0 _ rfl;replace bM:=bB.cell 1 _ rfl;replace aj:=ah.cell 0 _ rfl;replace ak:=ah.cell 1 _ rfl;replace dh:=bB.dn;replace dV:=bB.lt;replace ay:=ah.dn;replace aI:=ah.lt;replace hin:=bI.G.inner kk s l HV.out Bf.out;replace p0:=bA.cellS bI.G.outer HV.out;replace pf:=bA.eD bI.G.outer kk;replace zG : gG<wq.heap.size:= (by omega);clear hy) | ((with_reducible refine(iZ _ g _ code [-1,24,5,6] _ 4 (show aB _ _ [.int .i64 (-1), .int .i64 24, .int .i64 5, .int .i64 6] from (aB.new _ #[.int .i64 (-1), .int .i64 24, .int .i64 5, .int .i64 6] 3)) (by simp) (by simp) (by simp;omega) (by decide) (by decide) ((hc.bf).alloc _)).mono ?_);rintro e wq ⟨y,rfl,hy,hcn,hx⟩;replace bB:= ((bB.drew).alloc _).aM hx (by simp only [List.mem_cons,List.not_mem_nil,or_false];omega);replace ah:= ((ah.drew).alloc _).aM hx (by simp only [List.mem_cons,List.not_mem_nil,or_false];omega);replace bI:= ((bI.bf).aH _).aM hx (fun b hb hm=>by simp only [List.mem_cons,List.not_mem_nil,or_false] at hm;have:=gT b hb;have:=fT b hb;omega);replace hC:=aY.trans (hC.bf.aH _) hx;replace hc:=hcn;have sz:=hx.size; (try simp only [World.size_alloc,fq] at sz);replace sC:=hC.size;clear hx;replace bL:=bB.cell 0 _ rfl;replace bM:=bB.cell 1 _ rfl;replace aj:=ah.cell 0 _ rfl;replace ak:=ah.cell 1 _ rfl;replace dh:=bB.dn;replace dV:=bB.lt;replace ay:=ah.dn;replace aI:=ah.lt;replace hin:=bI.G.inner kk s l HV.out Bf.out;replace p0:=bA.cellS bI.G.outer HV.out;replace pf:=bA.eD bI.G.outer kk;replace zG : gG<wq.heap.size:= (by omega);clear hy) | ((with_reducible refine(iZ _ g _ code [-1,24,5,6] _ 4 (show aB _ _ [.int .i64 (-1), .int .i64 24, .int .i64 5, .int .i64 6] from (aB.new _ #[.int .i64 (-1), .int .i64 24, .int .i64 5, .int .i64 6] 3).drew) (by simp) (by simp) (by simp;omega) (by decide) (by decide) ((hc.alloc _).bf)).mono ?_);rintro e wq ⟨y,rfl,hy,hcn,hx⟩;replace bB:= (bB.alloc _).drew.aM hx (by simp only [List.mem_cons,List.not_mem_nil,or_false];omega);replace ah:= (ah.alloc _).drew.aM hx (by simp only [List.mem_cons,List.not_mem_nil,or_false];omega);replace bI:= ((bI.aH _).bf).aM hx (fun b hb hm=>by simp only [List.mem_cons,List.not_mem_nil,or_false] at hm;have:=gT b hb;have:=fT b hb;omega);replace hC:=aY.trans (hC.aH _).bf hx;replace hc:=hcn;have sz:=hx.size; (try simp only [World.size_alloc,fq] at sz);replace sC:=hC.size;clear hx;replace bL:=bB.cell 0 _ rfl;replace bM:=bB.cell 1 _ rfl;replace aj:=ah.cell 0 _ rfl;replace ak:=ah.cell 1 _ rfl;replace dh:=bB.dn;replace dV:=bB.lt;replace ay:=ah.dn;replace aI:=ah.lt;replace hin:=bI.G.inner kk s l HV.out Bf.out;replace p0:=bA.cellS bI.G.outer HV.out;replace pf:=bA.eD bI.G.outer kk;replace zG : gG<wq.heap.size:= (by omega);clear hy)))
      (try go_wp2_with fail)
      refine hK.out _ _ ?hS (fun hHeld=> ?hr)
      case hS=>
       (try dsimp only)
       (first| (with_reducible exact⟨bL,bM⟩) | (refine⟨?_, ?_⟩ <;> (repeat (first|with_reducible assumption|with_reducible refine fH ?_ (by omega) |with_reducible refine eF ?_ (by omega) |with_reducible refine fu ?_));done) | (go_keep;done))
      case hr=>
       clear hK K
       try simp only [List.getElem_toArray,List.getElem_cons_succ,List.getElem_cons_zero,Act.put,List.setIfInBounds_toArray,List.set_cons_zero,List.set_cons_succ]
       refine wpAnyH_ready (rs:= [12]) (by kernel_rfl) (by simp) ?_
       refine(AllReadyH.cons rfl (fun K hK=> ?_) AllReadyH.nil)
       go_simp
       refine hK.out _ _ ?hS (fun hHeld=> ?hr)
       case hS=>
        (try dsimp only)
        (first| (with_reducible exact⟨bL,bM⟩) | (refine⟨?_, ?_⟩ <;> (repeat (first|with_reducible assumption|with_reducible refine fH ?_ (by omega) |with_reducible refine eF ?_ (by omega) |with_reducible refine fu ?_));done) | (go_keep;done))
       case hr=>
        clear hK K
        try simp only [List.getElem_toArray,List.getElem_cons_succ,List.getElem_cons_zero,Act.put,List.setIfInBounds_toArray,List.set_cons_zero,List.set_cons_succ]
        refine wpAnyH_ready (rs:= [13]) (by kernel_rfl) (by simp) ?_
        refine(AllReadyH.cons rfl (fun K hK=> ?_) AllReadyH.nil)
        (refine jo Tryz.stInt rfl (.tmp 47) (.tmp 51) rfl (v:=s.val) (y:= .slice (some ⟨wq.heap.size,0,none⟩) 1 1) (l:=l) (m:= [y]) (by simp [Act.eval,SV.val]) (by simp [Act.eval]) (bA.aH hin _) (bA.lit FI [y] #[.int .i64 y] rfl (by simp [maxLen]) wq 3).rd' (by simp;omega) ?_;intro v5 w5 wD hg5 rE;obtain⟨A5,c5,hv5,_⟩ :=id wD.rd';simp only [List.length_append,List.length_cons,List.length_nil] at hv5;subst hv5;have hx5:=aY.jP hg5;have Mi:= (hx5.frozen gG kk (by simp;omega) hne).trans ((kP wq _ gG kk zG).trans pf);have Mj:= (hx5.cell gG kk (by simp;omega) hne).trans ((nE wq _ gG kk zG).trans p0);replace bB:= (bB.alloc (.cells #[.int .i64 y] 3)).aM hx5 KT;replace ah:= (ah.alloc (.cells #[.int .i64 y] 3)).aM hx5 hnr;replace bL:=bB.cell 0 _ rfl;replace bM:=bB.cell 1 _ rfl;replace aj:=ah.cell 0 _ rfl;replace ak:=ah.cell 1 _ rfl;replace dh:=bB.dn;replace dV:=bB.lt;replace ay:=ah.dn;replace aI:=ah.lt;have Mk : gG<w5.heap.size:=Nat.lt_of_lt_of_le zG (Nat.le_trans (by simp) hx5.size))
        refine hK.out _ _ ?hS (fun hHeld=> ?hr)
        case hS=>
         (try dsimp only)
         (first| (with_reducible exact⟨bL,bM⟩) | (refine⟨?_, ?_⟩ <;> (repeat (first|with_reducible assumption|with_reducible refine fH ?_ (by omega) |with_reducible refine eF ?_ (by omega) |with_reducible refine fu ?_));done) | (go_keep;done))
        case hr=>
         clear hK K
         try simp only [List.getElem_toArray,List.getElem_cons_succ,List.getElem_cons_zero,Act.put,List.setIfInBounds_toArray,List.set_cons_zero,List.set_cons_succ]
         refine wpAnyH_take (i:=14) (v:= ?_) rfl (by kernel_rfl) (by kernel_rfl) (by kernel_rfl) (fun _ _ _ h=>h) (Or.inl ⟨by kernel_rfl, ?_⟩) (by assumption) ?_
         rotate_left
         ·(intro wz hSw; (try dsimp only at hSw);go_simp; (try with_reducible rfl))
         try simp only [List.getElem_toArray,List.getElem_cons_succ,List.getElem_cons_zero,Act.put,List.setIfInBounds_toArray,List.set_cons_zero,List.set_cons_succ]
         refine wpAnyH_take (i:=15) (v:= ?_) rfl (by kernel_rfl) (by kernel_rfl) (by kernel_rfl) (fun _ _ _ h=>h) (Or.inl ⟨by kernel_rfl, ?_⟩) (by assumption) ?_
         rotate_left
         ·(intro wz hSw; (try dsimp only at hSw);go_simp; (try with_reducible rfl))
         try simp only [List.getElem_toArray,List.getElem_cons_succ,List.getElem_cons_zero,Act.put,List.setIfInBounds_toArray,List.set_cons_zero,List.set_cons_succ]
         refine wpAnyH_ready (rs:= [16]) (by kernel_rfl) (by simp) ?_
         refine(AllReadyH.cons rfl (fun K hK=> ?_) AllReadyH.nil)
         go_simp
         refine hK.out _ _ ?hS (fun hHeld=> ?hr)
         case hS=>
          (try dsimp only)
          (first| (with_reducible exact⟨bL,bM⟩) | (refine⟨?_, ?_⟩ <;> (repeat (first|with_reducible assumption|with_reducible refine fH ?_ (by omega) |with_reducible refine eF ?_ (by omega) |with_reducible refine fu ?_));done) | (go_keep;done))
         case hr=>
          clear hK K
          try simp only [List.getElem_toArray,List.getElem_cons_succ,List.getElem_cons_zero,Act.put,List.setIfInBounds_toArray,List.set_cons_zero,List.set_cons_succ]
          refine wpAnyH_done (by kernel_rfl) ?_ _
          have hN:=dR.nM (s':= ⟨A5,l.length+ (0+1),c5⟩) (bI.G.aH (.cells #[.int .i64 y] 3)) HV.out wD hg5 rE
          simp only [SV.val] at hN
          have f5 : ∀b∈dH (.slice (some ⟨gG,0,none⟩) x.G.length pG) (tG.set kk ⟨A5,l.length+ (0+1),c5⟩),b∈dH (.slice (some ⟨gG,0,none⟩) x.G.length pG) tG∨b=wq.heap.size+1:=fun b hb=>by
           rcases iU hb with h1|h1
           ·exact .inl h1
           ·have h3 : (Value.slice A5 (l.length+ (0+1)) c5).ownBlock=some b:=bV.1 h1;rcases rE with h2|h2; (rw [h2] at h3;exact .inl (hsf b (bV.2 h3))); (rw [h2] at h3;injection h3 with h3;simp at h3;exact .inr h3.symm)
          have Aa : dR FI 3 94 (w5.setCell ⟨gG,kk,none⟩ (.slice A5 (l.length+ (0+1)) c5)) (.slice (some ⟨gO,0,none⟩) x.O.length pO) tO x.O:= ((bI.O.aH (.cells #[.int .i64 y] 3)).aM hx5 (fun b hb hm=>vk b (hsf b hm) hb)).aM (F:= [gG]) bW (fun b hb hm=>by simp only [List.mem_cons,List.not_mem_nil,or_false] at hm;subst hm;exact vk _ mG hb)
          have oW : dZ (w5.setCell ⟨gG,kk,none⟩ (.slice A5 (l.length+ (0+1)) c5)) ⟨⟨some ⟨gG,0,none⟩,x.G.length,pG⟩,tG.set kk ⟨A5,l.length+ (0+1),c5⟩, ⟨some ⟨gO,0,none⟩,x.O.length,pO⟩,tO⟩ {x with G:=x.G.set kk (l++ [y])}:= ⟨hN,Aa,fun b hb hm=>by rcases f5 b hb with e|e; (exact vk b e hm); (have:=fT b (kW hm);omega)⟩
          have gW : ∀b∈aZ.foot ⟨⟨some ⟨gG,0,none⟩,x.G.length,pG⟩,tG.set kk ⟨A5,l.length+ (0+1),c5⟩, ⟨some ⟨gO,0,none⟩,x.O.length,pO⟩,tO⟩,w.heap.size<b∧b≠w1.heap.size:=fun b hb=>by rcases aZ.aX.1 hb with h1|h1; (rcases f5 b h1 with e|e; (have:=gT b (kE e);have:=fT b (kE e);omega);omega); (have:=gT b (kW h1);have:=fT b (kW h1);omega)
          have wE : Below w.heap.size wq w5:= ((Below.refl _ _).alloc hC.size _).grown hg5 (by simp;omega) (fun b hb=>by have:=gT b (kE (hsf b (bV.2 hb)));omega)
          replace hc:=hc.je (B:=w.heap.size) hgl wE hC.size
          replace hC:=hC.then_ wE
          have BZ:=pU x.G kk (l++ [y])
          simp only [List.length_append,List.length_cons,List.length_nil] at BZ
          clear hN Aa wD hg5 rE hx5
          go_wp2_with fail
          refine bodyPost_ret (v:= .agg #[.slice (some ⟨gG,0,none⟩) x.G.length pG, .slice (some ⟨gO,0,none⟩) x.O.length pO]) (by simp [results,Tryz.results139,go_sem,aj,ak]) rfl ⟨⟨⟨some ⟨gG,0,none⟩,x.G.length,pG⟩,tG.set kk ⟨A5,l.length+ (0+1),c5⟩, ⟨some ⟨gO,0,none⟩,x.O.length,pO⟩,tO⟩, {x with G:=x.G.set kk (l++ [y])},rfl,oW.aM (F:= [w.heap.size]) bW (fun b hb hm=>by simp only [List.mem_cons,List.not_mem_nil,or_false] at hm;have:=gW b hb;omega),by unfold bX at hsz⊢;simp only;omega,fun b hb=>by have:=gW b hb;omega,hc.je (B:=w.heap.size) hgl dQ hC.size,hC.then_ dQ⟩
   ·go_simp
    refine hK.out _ _ ?hS (fun hHeld=> ?hr)
    case hS=>
     (try dsimp only)
     (first| (with_reducible exact⟨bL,bM⟩) | (refine⟨?_, ?_⟩ <;> (repeat (first|with_reducible assumption|with_reducible refine fH ?_ (by omega) |with_reducible refine eF ?_ (by omega) |with_reducible refine fu ?_));done) | (go_keep;done))
    case hr=>
     clear hK K
     try simp only [List.getElem_toArray,List.getElem_cons_succ,List.getElem_cons_zero,Act.put,List.setIfInBounds_toArray,List.set_cons_zero,List.set_cons_succ]
     refine wpAnyH_ready (rs:= [8,11]) (by kernel_rfl) (by simp) ?_
     refine(AllReadyH.cons rfl (fun K hK=> ?_) (AllReadyH.cons rfl (fun K hK=> ?_) AllReadyH.nil))
     ·go_simp
      refine hK.out _ _ ?hS (fun hHeld=> ?hr)
      case hS=>
       (try dsimp only)
       (first| (with_reducible exact⟨bL,bM⟩) | (refine⟨?_, ?_⟩ <;> (repeat (first|with_reducible assumption|with_reducible refine fH ?_ (by omega) |with_reducible refine eF ?_ (by omega) |with_reducible refine fu ?_));done) | (go_keep;done))
      case hr=>
       clear hK K
       try simp only [List.getElem_toArray,List.getElem_cons_succ,List.getElem_cons_zero,Act.put,List.setIfInBounds_toArray,List.set_cons_zero,List.set_cons_succ]
       refine wpAnyH_ready (rs:= [11]) (by kernel_rfl) (by simp) ?_
       refine(AllReadyH.cons rfl (fun K hK=> ?_) AllReadyH.nil)
       go_simp
       (go_at_call 64; (first| ((with_reducible refine(iZ _ g _ code [-1,24,5,6] _ 4 (show aB _ _ [.int .i64 (-1), .int .i64 24, .int .i64 5, .int .i64 6] from (aB.new _ #[.int .i64 (-1), .int .i64 24, .int .i64 5, .int .i64 6] 3)) (by simp) (by simp) (by simp;omega) (by decide) (by decide) (hc.alloc _)).mono ?_);rintro e wq ⟨y,rfl,hy,hcn,hx⟩;replace bB:= (bB.alloc _).aM hx (by simp only [List.mem_cons,List.not_mem_nil,or_false];omega);replace ah:= (ah.alloc _).aM hx (by simp only [List.mem_cons,List.not_mem_nil,or_false];omega);replace bI:= (bI.aH _).aM hx (fun b hb hm=>by simp only [List.mem_cons,List.not_mem_nil,or_false] at hm;have:=gT b hb;have:=fT b hb;omega);replace hC:=aY.trans (hC.aH _) hx;replace hc:=hcn;have sz:=hx.size; (try simp only [World.size_alloc,fq] at sz);replace sC:=hC.size;clear hx;replace bL:=bB.cell 0 _ rfl;replace bM:=bB.cell 1 _ rfl;replace aj:=ah.cell 0 _ rfl;replace ak:=ah.cell 1 _ rfl;replace dh:=bB.dn;replace dV:=bB.lt;replace ay:=ah.dn;replace aI:=ah.lt;replace hin:=bI.G.inner kk s l HV.out Bf.out;replace p0:=bA.cellS bI.G.outer HV.out;replace pf:=bA.eD bI.G.outer kk;replace zG : gG<wq.heap.size:= (by omega);clear hy) | ((with_reducible refine(iZ _ g _ code [-1,24,5,6] _ 4 (show aB _ _ [.int .i64 (-1), .int .i64 24, .int .i64 5, .int .i64 6] from (aB.new _ #[.int .i64 (-1), .int .i64 24, .int .i64 5, .int .i64 6] 3)) (by simp) (by simp) (by simp;omega) (by decide) (by decide) ((hc.bf).alloc _)).mono ?_);rintro e wq ⟨y,rfl,hy,hcn,hx⟩;replace bB:= ((bB.drew).alloc _).aM hx (by simp only [List.mem_cons,List.not_mem_nil,or_false];omega);replace ah:= ((ah.drew).alloc _).aM hx (by simp only [List.mem_cons,List.not_mem_nil,or_false];omega);replace bI:= ((bI.bf).aH _).aM hx (fun b hb hm=>by simp only [List.mem_cons,List.not_mem_nil,or_false] at hm;have:=gT b hb;have:=fT b hb;omega);replace hC:=aY.trans (hC.bf.aH _) hx;replace hc:=hcn;have sz:=hx.size; (try simp only [World.size_alloc,fq] at sz);replace sC:=hC.size;clear hx;replace bL:=bB.cell 0 _ rfl;replace bM:=bB.cell 1 _ rfl;replace aj:=ah.cell 0 _ rfl;replace ak:=ah.cell 1 _ rfl;replace dh:=bB.dn;replace dV:=bB.lt;replace ay:=ah.dn;replace aI:=ah.lt;replace hin:=bI.G.inner kk s l HV.out Bf.out;replace p0:=bA.cellS bI.G.outer HV.out;replace pf:=bA.eD bI.G.outer kk;replace zG : gG<wq.heap.size:= (by omega);clear hy) | ((with_reducible refine(iZ _ g _ code [-1,24,5,6] _ 4 (show aB _ _ [.int .i64 (-1), .int .i64 24, .int .i64 5, .int .i64 6] from (aB.new _ #[.int .i64 (-1), .int .i64 24, .int .i64 5, .int .i64 6] 3).drew) (by simp) (by simp) (by simp;omega) (by decide) (by decide) ((hc.alloc _).bf)).mono ?_);rintro e wq ⟨y,rfl,hy,hcn,hx⟩;replace bB:= (bB.alloc _).drew.aM hx (by simp only [List.mem_cons,List.not_mem_nil,or_false];omega);replace ah:= (ah.alloc _).drew.aM hx (by simp only [List.mem_cons,List.not_mem_nil,or_false];omega);replace bI:= ((bI.aH _).bf).aM hx (fun b hb hm=>by simp only [List.mem_cons,List.not_mem_nil,or_false] at hm;have:=gT b hb;have:=fT b hb;omega);replace hC:=aY.trans (hC.aH _).bf hx;replace hc:=hcn;have sz:=hx.size; (try simp only [World.size_alloc,fq] at sz);replace sC:=hC.size;clear hx;replace bL:=bB.cell 0 _ rfl;replace bM:=bB.cell 1 _ rfl;replace aj:=ah.cell 0 _ rfl;replace ak:=ah.cell 1 _ rfl;replace dh:=bB.dn;replace dV:=bB.lt;replace ay:=ah.dn;replace aI:=ah.lt;replace hin:=bI.G.inner kk s l HV.out Bf.out;replace p0:=bA.cellS bI.G.outer HV.out;replace pf:=bA.eD bI.G.outer kk;replace zG : gG<wq.heap.size:= (by omega);clear hy)))
       (try go_wp2_with fail)
       refine hK.out _ _ ?hS (fun hHeld=> ?hr)
       case hS=>
        (try dsimp only)
        (first| (with_reducible exact⟨bL,bM⟩) | (refine⟨?_, ?_⟩ <;> (repeat (first|with_reducible assumption|with_reducible refine fH ?_ (by omega) |with_reducible refine eF ?_ (by omega) |with_reducible refine fu ?_));done) | (go_keep;done))
       case hr=>
        clear hK K
        try simp only [List.getElem_toArray,List.getElem_cons_succ,List.getElem_cons_zero,Act.put,List.setIfInBounds_toArray,List.set_cons_zero,List.set_cons_succ]
        refine wpAnyH_ready (rs:= [12]) (by kernel_rfl) (by simp) ?_
        refine(AllReadyH.cons rfl (fun K hK=> ?_) AllReadyH.nil)
        go_simp
        refine hK.out _ _ ?hS (fun hHeld=> ?hr)
        case hS=>
         (try dsimp only)
         (first| (with_reducible exact⟨bL,bM⟩) | (refine⟨?_, ?_⟩ <;> (repeat (first|with_reducible assumption|with_reducible refine fH ?_ (by omega) |with_reducible refine eF ?_ (by omega) |with_reducible refine fu ?_));done) | (go_keep;done))
        case hr=>
         clear hK K
         try simp only [List.getElem_toArray,List.getElem_cons_succ,List.getElem_cons_zero,Act.put,List.setIfInBounds_toArray,List.set_cons_zero,List.set_cons_succ]
         refine wpAnyH_ready (rs:= [13]) (by kernel_rfl) (by simp) ?_
         refine(AllReadyH.cons rfl (fun K hK=> ?_) AllReadyH.nil)
         (refine jo Tryz.stInt rfl (.tmp 47) (.tmp 51) rfl (v:=s.val) (y:= .slice (some ⟨wq.heap.size,0,none⟩) 1 1) (l:=l) (m:= [y]) (by simp [Act.eval,SV.val]) (by simp [Act.eval]) (bA.aH hin _) (bA.lit FI [y] #[.int .i64 y] rfl (by simp [maxLen]) wq 3).rd' (by simp;omega) ?_;intro v5 w5 wD hg5 rE;obtain⟨A5,c5,hv5,_⟩ :=id wD.rd';simp only [List.length_append,List.length_cons,List.length_nil] at hv5;subst hv5;have hx5:=aY.jP hg5;have Mi:= (hx5.frozen gG kk (by simp;omega) hne).trans ((kP wq _ gG kk zG).trans pf);have Mj:= (hx5.cell gG kk (by simp;omega) hne).trans ((nE wq _ gG kk zG).trans p0);replace bB:= (bB.alloc (.cells #[.int .i64 y] 3)).aM hx5 KT;replace ah:= (ah.alloc (.cells #[.int .i64 y] 3)).aM hx5 hnr;replace bL:=bB.cell 0 _ rfl;replace bM:=bB.cell 1 _ rfl;replace aj:=ah.cell 0 _ rfl;replace ak:=ah.cell 1 _ rfl;replace dh:=bB.dn;replace dV:=bB.lt;replace ay:=ah.dn;replace aI:=ah.lt;have Mk : gG<w5.heap.size:=Nat.lt_of_lt_of_le zG (Nat.le_trans (by simp) hx5.size))
         refine hK.out _ _ ?hS (fun hHeld=> ?hr)
         case hS=>
          (try dsimp only)
          (first| (with_reducible exact⟨bL,bM⟩) | (refine⟨?_, ?_⟩ <;> (repeat (first|with_reducible assumption|with_reducible refine fH ?_ (by omega) |with_reducible refine eF ?_ (by omega) |with_reducible refine fu ?_));done) | (go_keep;done))
         case hr=>
          clear hK K
          try simp only [List.getElem_toArray,List.getElem_cons_succ,List.getElem_cons_zero,Act.put,List.setIfInBounds_toArray,List.set_cons_zero,List.set_cons_succ]
          refine wpAnyH_take (i:=14) (v:= ?_) rfl (by kernel_rfl) (by kernel_rfl) (by kernel_rfl) (fun _ _ _ h=>h) (Or.inl ⟨by kernel_rfl, ?_⟩) (by assumption) ?_
          rotate_left
          ·(intro wz hSw; (try dsimp only at hSw);go_simp; (try with_reducible rfl))
          try simp only [List.getElem_toArray,List.getElem_cons_succ,List.getElem_cons_zero,Act.put,List.setIfInBounds_toArray,List.set_cons_zero,List.set_cons_succ]
          refine wpAnyH_take (i:=15) (v:= ?_) rfl (by kernel_rfl) (by kernel_rfl) (by kernel_rfl) (fun _ _ _ h=>h) (Or.inl ⟨by kernel_rfl, ?_⟩) (by assumption) ?_
          rotate_left
          ·(intro wz hSw; (try dsimp only at hSw);go_simp; (try with_reducible rfl))
          try simp only [List.getElem_toArray,List.getElem_cons_succ,List.getElem_cons_zero,Act.put,List.setIfInBounds_toArray,List.set_cons_zero,List.set_cons_succ]
          refine wpAnyH_ready (rs:= [16]) (by kernel_rfl) (by simp) ?_
          refine(AllReadyH.cons rfl (fun K hK=> ?_) AllReadyH.nil)
          go_simp
          refine hK.out _ _ ?hS (fun hHeld=> ?hr)
          case hS=>
           (try dsimp only)
           (first| (with_reducible exact⟨bL,bM⟩) | (refine⟨?_, ?_⟩ <;> (repeat (first|with_reducible assumption|with_reducible refine fH ?_ (by omega) |with_reducible refine eF ?_ (by omega) |with_reducible refine fu ?_));done) | (go_keep;done))
          case hr=>
           clear hK K
           try simp only [List.getElem_toArray,List.getElem_cons_succ,List.getElem_cons_zero,Act.put,List.setIfInBounds_toArray,List.set_cons_zero,List.set_cons_succ]
           refine wpAnyH_done (by kernel_rfl) ?_ _
           have hN:=dR.nM (s':= ⟨A5,l.length+ (0+1),c5⟩) (bI.G.aH (.cells #[.int .i64 y] 3)) HV.out wD hg5 rE
           simp only [SV.val] at hN
           have f5 : ∀b∈dH (.slice (some ⟨gG,0,none⟩) x.G.length pG) (tG.set kk ⟨A5,l.length+ (0+1),c5⟩),b∈dH (.slice (some ⟨gG,0,none⟩) x.G.length pG) tG∨b=wq.heap.size+1:=fun b hb=>by
            rcases iU hb with h1|h1
            ·exact .inl h1
            ·have h3 : (Value.slice A5 (l.length+ (0+1)) c5).ownBlock=some b:=bV.1 h1;rcases rE with h2|h2; (rw [h2] at h3;exact .inl (hsf b (bV.2 h3))); (rw [h2] at h3;injection h3 with h3;simp at h3;exact .inr h3.symm)
           have Aa : dR FI 3 94 (w5.setCell ⟨gG,kk,none⟩ (.slice A5 (l.length+ (0+1)) c5)) (.slice (some ⟨gO,0,none⟩) x.O.length pO) tO x.O:= ((bI.O.aH (.cells #[.int .i64 y] 3)).aM hx5 (fun b hb hm=>vk b (hsf b hm) hb)).aM (F:= [gG]) bW (fun b hb hm=>by simp only [List.mem_cons,List.not_mem_nil,or_false] at hm;subst hm;exact vk _ mG hb)
           have oW : dZ (w5.setCell ⟨gG,kk,none⟩ (.slice A5 (l.length+ (0+1)) c5)) ⟨⟨some ⟨gG,0,none⟩,x.G.length,pG⟩,tG.set kk ⟨A5,l.length+ (0+1),c5⟩, ⟨some ⟨gO,0,none⟩,x.O.length,pO⟩,tO⟩ {x with G:=x.G.set kk (l++ [y])}:= ⟨hN,Aa,fun b hb hm=>by rcases f5 b hb with e|e; (exact vk b e hm); (have:=fT b (kW hm);omega)⟩
           have gW : ∀b∈aZ.foot ⟨⟨some ⟨gG,0,none⟩,x.G.length,pG⟩,tG.set kk ⟨A5,l.length+ (0+1),c5⟩, ⟨some ⟨gO,0,none⟩,x.O.length,pO⟩,tO⟩,w.heap.size<b∧b≠w1.heap.size:=fun b hb=>by rcases aZ.aX.1 hb with h1|h1; (rcases f5 b h1 with e|e; (have:=gT b (kE e);have:=fT b (kE e);omega);omega); (have:=gT b (kW h1);have:=fT b (kW h1);omega)
           have wE : Below w.heap.size wq w5:= ((Below.refl _ _).alloc hC.size _).grown hg5 (by simp;omega) (fun b hb=>by have:=gT b (kE (hsf b (bV.2 hb)));omega)
           replace hc:=hc.je (B:=w.heap.size) hgl wE hC.size
           replace hC:=hC.then_ wE
           have BZ:=pU x.G kk (l++ [y])
           simp only [List.length_append,List.length_cons,List.length_nil] at BZ
           clear hN Aa wD hg5 rE hx5
           go_wp2_with fail
           refine bodyPost_ret (v:= .agg #[.slice (some ⟨gG,0,none⟩) x.G.length pG, .slice (some ⟨gO,0,none⟩) x.O.length pO]) (by simp [results,Tryz.results139,go_sem,aj,ak]) rfl ⟨⟨⟨some ⟨gG,0,none⟩,x.G.length,pG⟩,tG.set kk ⟨A5,l.length+ (0+1),c5⟩, ⟨some ⟨gO,0,none⟩,x.O.length,pO⟩,tO⟩, {x with G:=x.G.set kk (l++ [y])},rfl,oW.aM (F:= [w.heap.size]) bW (fun b hb hm=>by simp only [List.mem_cons,List.not_mem_nil,or_false] at hm;have:=gW b hb;omega),by unfold bX at hsz⊢;simp only;omega,fun b hb=>by have:=gW b hb;omega,hc.je (B:=w.heap.size) hgl dQ hC.size,hC.then_ dQ⟩
     ·go_simp
      (go_at_call 64; (first| ((with_reducible refine(iZ _ g _ code [-1,24,5,6] _ 4 (show aB _ _ [.int .i64 (-1), .int .i64 24, .int .i64 5, .int .i64 6] from (aB.new _ #[.int .i64 (-1), .int .i64 24, .int .i64 5, .int .i64 6] 3)) (by simp) (by simp) (by simp;omega) (by decide) (by decide) (hc.alloc _)).mono ?_);rintro e wq ⟨y,rfl,hy,hcn,hx⟩;replace bB:= (bB.alloc _).aM hx (by simp only [List.mem_cons,List.not_mem_nil,or_false];omega);replace ah:= (ah.alloc _).aM hx (by simp only [List.mem_cons,List.not_mem_nil,or_false];omega);replace bI:= (bI.aH _).aM hx (fun b hb hm=>by simp only [List.mem_cons,List.not_mem_nil,or_false] at hm;have:=gT b hb;have:=fT b hb;omega);replace hC:=aY.trans (hC.aH _) hx;replace hc:=hcn;have sz:=hx.size; (try simp only [World.size_alloc,fq] at sz);replace sC:=hC.size;clear hx;replace bL:=bB.cell 0 _ rfl;replace bM:=bB.cell 1 _ rfl;replace aj:=ah.cell 0 _ rfl;replace ak:=ah.cell 1 _ rfl;replace dh:=bB.dn;replace dV:=bB.lt;replace ay:=ah.dn;replace aI:=ah.lt;replace hin:=bI.G.inner kk s l HV.out Bf.out;replace p0:=bA.cellS bI.G.outer HV.out;replace pf:=bA.eD bI.G.outer kk;replace zG : gG<wq.heap.size:= (by omega);clear hy) | ((with_reducible refine(iZ _ g _ code [-1,24,5,6] _ 4 (show aB _ _ [.int .i64 (-1), .int .i64 24, .int .i64 5, .int .i64 6] from (aB.new _ #[.int .i64 (-1), .int .i64 24, .int .i64 5, .int .i64 6] 3)) (by simp) (by simp) (by simp;omega) (by decide) (by decide) ((hc.bf).alloc _)).mono ?_);rintro e wq ⟨y,rfl,hy,hcn,hx⟩;replace bB:= ((bB.drew).alloc _).aM hx (by simp only [List.mem_cons,List.not_mem_nil,or_false];omega);replace ah:= ((ah.drew).alloc _).aM hx (by simp only [List.mem_cons,List.not_mem_nil,or_false];omega);replace bI:= ((bI.bf).aH _).aM hx (fun b hb hm=>by simp only [List.mem_cons,List.not_mem_nil,or_false] at hm;have:=gT b hb;have:=fT b hb;omega);replace hC:=aY.trans (hC.bf.aH _) hx;replace hc:=hcn;have sz:=hx.size; (try simp only [World.size_alloc,fq] at sz);replace sC:=hC.size;clear hx;replace bL:=bB.cell 0 _ rfl;replace bM:=bB.cell 1 _ rfl;replace aj:=ah.cell 0 _ rfl;replace ak:=ah.cell 1 _ rfl;replace dh:=bB.dn;replace dV:=bB.lt;replace ay:=ah.dn;replace aI:=ah.lt;replace hin:=bI.G.inner kk s l HV.out Bf.out;replace p0:=bA.cellS bI.G.outer HV.out;replace pf:=bA.eD bI.G.outer kk;replace zG : gG<wq.heap.size:= (by omega);clear hy) | ((with_reducible refine(iZ _ g _ code [-1,24,5,6] _ 4 (show aB _ _ [.int .i64 (-1), .int .i64 24, .int .i64 5, .int .i64 6] from (aB.new _ #[.int .i64 (-1), .int .i64 24, .int .i64 5, .int .i64 6] 3).drew) (by simp) (by simp) (by simp;omega) (by decide) (by decide) ((hc.alloc _).bf)).mono ?_);rintro e wq ⟨y,rfl,hy,hcn,hx⟩;replace bB:= (bB.alloc _).drew.aM hx (by simp only [List.mem_cons,List.not_mem_nil,or_false];omega);replace ah:= (ah.alloc _).drew.aM hx (by simp only [List.mem_cons,List.not_mem_nil,or_false];omega);replace bI:= ((bI.aH _).bf).aM hx (fun b hb hm=>by simp only [List.mem_cons,List.not_mem_nil,or_false] at hm;have:=gT b hb;have:=fT b hb;omega);replace hC:=aY.trans (hC.aH _).bf hx;replace hc:=hcn;have sz:=hx.size; (try simp only [World.size_alloc,fq] at sz);replace sC:=hC.size;clear hx;replace bL:=bB.cell 0 _ rfl;replace bM:=bB.cell 1 _ rfl;replace aj:=ah.cell 0 _ rfl;replace ak:=ah.cell 1 _ rfl;replace dh:=bB.dn;replace dV:=bB.lt;replace ay:=ah.dn;replace aI:=ah.lt;replace hin:=bI.G.inner kk s l HV.out Bf.out;replace p0:=bA.cellS bI.G.outer HV.out;replace pf:=bA.eD bI.G.outer kk;replace zG : gG<wq.heap.size:= (by omega);clear hy)))
      (try go_wp2_with fail)
      refine hK.out _ _ ?hS (fun hHeld=> ?hr)
      case hS=>
       (try dsimp only)
       (first| (with_reducible exact⟨bL,bM⟩) | (refine⟨?_, ?_⟩ <;> (repeat (first|with_reducible assumption|with_reducible refine fH ?_ (by omega) |with_reducible refine eF ?_ (by omega) |with_reducible refine fu ?_));done) | (go_keep;done))
      case hr=>
       clear hK K
       try simp only [List.getElem_toArray,List.getElem_cons_succ,List.getElem_cons_zero,Act.put,List.setIfInBounds_toArray,List.set_cons_zero,List.set_cons_succ]
       refine wpAnyH_ready (rs:= [8,12]) (by kernel_rfl) (by simp) ?_
       refine(AllReadyH.cons rfl (fun K hK=> ?_) (AllReadyH.cons rfl (fun K hK=> ?_) AllReadyH.nil))
       ·go_simp
        refine hK.out _ _ ?hS (fun hHeld=> ?hr)
        case hS=>
         (try dsimp only)
         (first| (with_reducible exact⟨bL,bM⟩) | (refine⟨?_, ?_⟩ <;> (repeat (first|with_reducible assumption|with_reducible refine fH ?_ (by omega) |with_reducible refine eF ?_ (by omega) |with_reducible refine fu ?_));done) | (go_keep;done))
        case hr=>
         clear hK K
         try simp only [List.getElem_toArray,List.getElem_cons_succ,List.getElem_cons_zero,Act.put,List.setIfInBounds_toArray,List.set_cons_zero,List.set_cons_succ]
         refine wpAnyH_ready (rs:= [12]) (by kernel_rfl) (by simp) ?_
         refine(AllReadyH.cons rfl (fun K hK=> ?_) AllReadyH.nil)
         go_simp
         refine hK.out _ _ ?hS (fun hHeld=> ?hr)
         case hS=>
          (try dsimp only)
          (first| (with_reducible exact⟨bL,bM⟩) | (refine⟨?_, ?_⟩ <;> (repeat (first|with_reducible assumption|with_reducible refine fH ?_ (by omega) |with_reducible refine eF ?_ (by omega) |with_reducible refine fu ?_));done) | (go_keep;done))
         case hr=>
          clear hK K
          try simp only [List.getElem_toArray,List.getElem_cons_succ,List.getElem_cons_zero,Act.put,List.setIfInBounds_toArray,List.set_cons_zero,List.set_cons_succ]
          refine wpAnyH_ready (rs:= [13]) (by kernel_rfl) (by simp) ?_
          refine(AllReadyH.cons rfl (fun K hK=> ?_) AllReadyH.nil)
          (refine jo Tryz.stInt rfl (.tmp 47) (.tmp 51) rfl (v:=s.val) (y:= .slice (some ⟨wq.heap.size,0,none⟩) 1 1) (l:=l) (m:= [y]) (by simp [Act.eval,SV.val]) (by simp [Act.eval]) (bA.aH hin _) (bA.lit FI [y] #[.int .i64 y] rfl (by simp [maxLen]) wq 3).rd' (by simp;omega) ?_;intro v5 w5 wD hg5 rE;obtain⟨A5,c5,hv5,_⟩ :=id wD.rd';simp only [List.length_append,List.length_cons,List.length_nil] at hv5;subst hv5;have hx5:=aY.jP hg5;have Mi:= (hx5.frozen gG kk (by simp;omega) hne).trans ((kP wq _ gG kk zG).trans pf);have Mj:= (hx5.cell gG kk (by simp;omega) hne).trans ((nE wq _ gG kk zG).trans p0);replace bB:= (bB.alloc (.cells #[.int .i64 y] 3)).aM hx5 KT;replace ah:= (ah.alloc (.cells #[.int .i64 y] 3)).aM hx5 hnr;replace bL:=bB.cell 0 _ rfl;replace bM:=bB.cell 1 _ rfl;replace aj:=ah.cell 0 _ rfl;replace ak:=ah.cell 1 _ rfl;replace dh:=bB.dn;replace dV:=bB.lt;replace ay:=ah.dn;replace aI:=ah.lt;have Mk : gG<w5.heap.size:=Nat.lt_of_lt_of_le zG (Nat.le_trans (by simp) hx5.size))
          refine hK.out _ _ ?hS (fun hHeld=> ?hr)
          case hS=>
           (try dsimp only)
           (first| (with_reducible exact⟨bL,bM⟩) | (refine⟨?_, ?_⟩ <;> (repeat (first|with_reducible assumption|with_reducible refine fH ?_ (by omega) |with_reducible refine eF ?_ (by omega) |with_reducible refine fu ?_));done) | (go_keep;done))
          case hr=>
           clear hK K
           try simp only [List.getElem_toArray,List.getElem_cons_succ,List.getElem_cons_zero,Act.put,List.setIfInBounds_toArray,List.set_cons_zero,List.set_cons_succ]
           refine wpAnyH_take (i:=14) (v:= ?_) rfl (by kernel_rfl) (by kernel_rfl) (by kernel_rfl) (fun _ _ _ h=>h) (Or.inl ⟨by kernel_rfl, ?_⟩) (by assumption) ?_
           rotate_left
           ·(intro wz hSw; (try dsimp only at hSw);go_simp; (try with_reducible rfl))
           try simp only [List.getElem_toArray,List.getElem_cons_succ,List.getElem_cons_zero,Act.put,List.setIfInBounds_toArray,List.set_cons_zero,List.set_cons_succ]
           refine wpAnyH_take (i:=15) (v:= ?_) rfl (by kernel_rfl) (by kernel_rfl) (by kernel_rfl) (fun _ _ _ h=>h) (Or.inl ⟨by kernel_rfl, ?_⟩) (by assumption) ?_
           rotate_left
           ·(intro wz hSw; (try dsimp only at hSw);go_simp; (try with_reducible rfl))
           try simp only [List.getElem_toArray,List.getElem_cons_succ,List.getElem_cons_zero,Act.put,List.setIfInBounds_toArray,List.set_cons_zero,List.set_cons_succ]
           refine wpAnyH_ready (rs:= [16]) (by kernel_rfl) (by simp) ?_
           refine(AllReadyH.cons rfl (fun K hK=> ?_) AllReadyH.nil)
           go_simp
           refine hK.out _ _ ?hS (fun hHeld=> ?hr)
           case hS=>
            (try dsimp only)
            (first| (with_reducible exact⟨bL,bM⟩) | (refine⟨?_, ?_⟩ <;> (repeat (first|with_reducible assumption|with_reducible refine fH ?_ (by omega) |with_reducible refine eF ?_ (by omega) |with_reducible refine fu ?_));done) | (go_keep;done))
           case hr=>
            clear hK K
            try simp only [List.getElem_toArray,List.getElem_cons_succ,List.getElem_cons_zero,Act.put,List.setIfInBounds_toArray,List.set_cons_zero,List.set_cons_succ]
            refine wpAnyH_done (by kernel_rfl) ?_ _
            have hN:=dR.nM (s':= ⟨A5,l.length+ (0+1),c5⟩) (bI.G.aH (.cells #[.int .i64 y] 3)) HV.out wD hg5 rE
            simp only [SV.val] at hN
            have f5 : ∀b∈dH (.slice (some ⟨gG,0,none⟩) x.G.length pG) (tG.set kk ⟨A5,l.length+ (0+1),c5⟩),b∈dH (.slice (some ⟨gG,0,none⟩) x.G.length pG) tG∨b=wq.heap.size+1:=fun b hb=>by
             rcases iU hb with h1|h1
             ·exact .inl h1
             ·have h3 : (Value.slice A5 (l.length+ (0+1)) c5).ownBlock=some b:=bV.1 h1;rcases rE with h2|h2; (rw [h2] at h3;exact .inl (hsf b (bV.2 h3))); (rw [h2] at h3;injection h3 with h3;simp at h3;exact .inr h3.symm)
            have Aa : dR FI 3 94 (w5.setCell ⟨gG,kk,none⟩ (.slice A5 (l.length+ (0+1)) c5)) (.slice (some ⟨gO,0,none⟩) x.O.length pO) tO x.O:= ((bI.O.aH (.cells #[.int .i64 y] 3)).aM hx5 (fun b hb hm=>vk b (hsf b hm) hb)).aM (F:= [gG]) bW (fun b hb hm=>by simp only [List.mem_cons,List.not_mem_nil,or_false] at hm;subst hm;exact vk _ mG hb)
            have oW : dZ (w5.setCell ⟨gG,kk,none⟩ (.slice A5 (l.length+ (0+1)) c5)) ⟨⟨some ⟨gG,0,none⟩,x.G.length,pG⟩,tG.set kk ⟨A5,l.length+ (0+1),c5⟩, ⟨some ⟨gO,0,none⟩,x.O.length,pO⟩,tO⟩ {x with G:=x.G.set kk (l++ [y])}:= ⟨hN,Aa,fun b hb hm=>by rcases f5 b hb with e|e; (exact vk b e hm); (have:=fT b (kW hm);omega)⟩
            have gW : ∀b∈aZ.foot ⟨⟨some ⟨gG,0,none⟩,x.G.length,pG⟩,tG.set kk ⟨A5,l.length+ (0+1),c5⟩, ⟨some ⟨gO,0,none⟩,x.O.length,pO⟩,tO⟩,w.heap.size<b∧b≠w1.heap.size:=fun b hb=>by rcases aZ.aX.1 hb with h1|h1; (rcases f5 b h1 with e|e; (have:=gT b (kE e);have:=fT b (kE e);omega);omega); (have:=gT b (kW h1);have:=fT b (kW h1);omega)
            have wE : Below w.heap.size wq w5:= ((Below.refl _ _).alloc hC.size _).grown hg5 (by simp;omega) (fun b hb=>by have:=gT b (kE (hsf b (bV.2 hb)));omega)
            replace hc:=hc.je (B:=w.heap.size) hgl wE hC.size
            replace hC:=hC.then_ wE
            have BZ:=pU x.G kk (l++ [y])
            simp only [List.length_append,List.length_cons,List.length_nil] at BZ
            clear hN Aa wD hg5 rE hx5
            go_wp2_with fail
            refine bodyPost_ret (v:= .agg #[.slice (some ⟨gG,0,none⟩) x.G.length pG, .slice (some ⟨gO,0,none⟩) x.O.length pO]) (by simp [results,Tryz.results139,go_sem,aj,ak]) rfl ⟨⟨⟨some ⟨gG,0,none⟩,x.G.length,pG⟩,tG.set kk ⟨A5,l.length+ (0+1),c5⟩, ⟨some ⟨gO,0,none⟩,x.O.length,pO⟩,tO⟩, {x with G:=x.G.set kk (l++ [y])},rfl,oW.aM (F:= [w.heap.size]) bW (fun b hb hm=>by simp only [List.mem_cons,List.not_mem_nil,or_false] at hm;have:=gW b hb;omega),by unfold bX at hsz⊢;simp only;omega,fun b hb=>by have:=gW b hb;omega,hc.je (B:=w.heap.size) hgl dQ hC.size,hC.then_ dQ⟩
       ·go_simp
        refine hK.out _ _ ?hS (fun hHeld=> ?hr)
        case hS=>
         (try dsimp only)
         (first| (with_reducible exact⟨bL,bM⟩) | (refine⟨?_, ?_⟩ <;> (repeat (first|with_reducible assumption|with_reducible refine fH ?_ (by omega) |with_reducible refine eF ?_ (by omega) |with_reducible refine fu ?_));done) | (go_keep;done))
        case hr=>
         clear hK K
         try simp only [List.getElem_toArray,List.getElem_cons_succ,List.getElem_cons_zero,Act.put,List.setIfInBounds_toArray,List.set_cons_zero,List.set_cons_succ]
         refine wpAnyH_ready (rs:= [8]) (by kernel_rfl) (by simp) ?_
         refine(AllReadyH.cons rfl (fun K hK=> ?_) AllReadyH.nil)
         go_simp
         refine hK.out _ _ ?hS (fun hHeld=> ?hr)
         case hS=>
          (try dsimp only)
          (first| (with_reducible exact⟨bL,bM⟩) | (refine⟨?_, ?_⟩ <;> (repeat (first|with_reducible assumption|with_reducible refine fH ?_ (by omega) |with_reducible refine eF ?_ (by omega) |with_reducible refine fu ?_));done) | (go_keep;done))
         case hr=>
          clear hK K
          try simp only [List.getElem_toArray,List.getElem_cons_succ,List.getElem_cons_zero,Act.put,List.setIfInBounds_toArray,List.set_cons_zero,List.set_cons_succ]
          refine wpAnyH_ready (rs:= [13]) (by kernel_rfl) (by simp) ?_
          refine(AllReadyH.cons rfl (fun K hK=> ?_) AllReadyH.nil)
          (refine jo Tryz.stInt rfl (.tmp 47) (.tmp 51) rfl (v:=s.val) (y:= .slice (some ⟨wq.heap.size,0,none⟩) 1 1) (l:=l) (m:= [y]) (by simp [Act.eval,SV.val]) (by simp [Act.eval]) (bA.aH hin _) (bA.lit FI [y] #[.int .i64 y] rfl (by simp [maxLen]) wq 3).rd' (by simp;omega) ?_;intro v5 w5 wD hg5 rE;obtain⟨A5,c5,hv5,_⟩ :=id wD.rd';simp only [List.length_append,List.length_cons,List.length_nil] at hv5;subst hv5;have hx5:=aY.jP hg5;have Mi:= (hx5.frozen gG kk (by simp;omega) hne).trans ((kP wq _ gG kk zG).trans pf);have Mj:= (hx5.cell gG kk (by simp;omega) hne).trans ((nE wq _ gG kk zG).trans p0);replace bB:= (bB.alloc (.cells #[.int .i64 y] 3)).aM hx5 KT;replace ah:= (ah.alloc (.cells #[.int .i64 y] 3)).aM hx5 hnr;replace bL:=bB.cell 0 _ rfl;replace bM:=bB.cell 1 _ rfl;replace aj:=ah.cell 0 _ rfl;replace ak:=ah.cell 1 _ rfl;replace dh:=bB.dn;replace dV:=bB.lt;replace ay:=ah.dn;replace aI:=ah.lt;have Mk : gG<w5.heap.size:=Nat.lt_of_lt_of_le zG (Nat.le_trans (by simp) hx5.size))
          refine hK.out _ _ ?hS (fun hHeld=> ?hr)
          case hS=>
           (try dsimp only)
           (first| (with_reducible exact⟨bL,bM⟩) | (refine⟨?_, ?_⟩ <;> (repeat (first|with_reducible assumption|with_reducible refine fH ?_ (by omega) |with_reducible refine eF ?_ (by omega) |with_reducible refine fu ?_));done) | (go_keep;done))
          case hr=>
           clear hK K
           try simp only [List.getElem_toArray,List.getElem_cons_succ,List.getElem_cons_zero,Act.put,List.setIfInBounds_toArray,List.set_cons_zero,List.set_cons_succ]
           refine wpAnyH_take (i:=14) (v:= ?_) rfl (by kernel_rfl) (by kernel_rfl) (by kernel_rfl) (fun _ _ _ h=>h) (Or.inl ⟨by kernel_rfl, ?_⟩) (by assumption) ?_
           rotate_left
           ·(intro wz hSw; (try dsimp only at hSw);go_simp; (try with_reducible rfl))
           try simp only [List.getElem_toArray,List.getElem_cons_succ,List.getElem_cons_zero,Act.put,List.setIfInBounds_toArray,List.set_cons_zero,List.set_cons_succ]
           refine wpAnyH_take (i:=15) (v:= ?_) rfl (by kernel_rfl) (by kernel_rfl) (by kernel_rfl) (fun _ _ _ h=>h) (Or.inl ⟨by kernel_rfl, ?_⟩) (by assumption) ?_
           rotate_left
           ·(intro wz hSw; (try dsimp only at hSw);go_simp; (try with_reducible rfl))
           try simp only [List.getElem_toArray,List.getElem_cons_succ,List.getElem_cons_zero,Act.put,List.setIfInBounds_toArray,List.set_cons_zero,List.set_cons_succ]
           refine wpAnyH_ready (rs:= [16]) (by kernel_rfl) (by simp) ?_
           refine(AllReadyH.cons rfl (fun K hK=> ?_) AllReadyH.nil)
           go_simp
           refine hK.out _ _ ?hS (fun hHeld=> ?hr)
           case hS=>
            (try dsimp only)
            (first| (with_reducible exact⟨bL,bM⟩) | (refine⟨?_, ?_⟩ <;> (repeat (first|with_reducible assumption|with_reducible refine fH ?_ (by omega) |with_reducible refine eF ?_ (by omega) |with_reducible refine fu ?_));done) | (go_keep;done))
           case hr=>
            clear hK K
            try simp only [List.getElem_toArray,List.getElem_cons_succ,List.getElem_cons_zero,Act.put,List.setIfInBounds_toArray,List.set_cons_zero,List.set_cons_succ]
            refine wpAnyH_done (by kernel_rfl) ?_ _
            have hN:=dR.nM (s':= ⟨A5,l.length+ (0+1),c5⟩) (bI.G.aH (.cells #[.int .i64 y] 3)) HV.out wD hg5 rE
            simp only [SV.val] at hN
            have f5 : ∀b∈dH (.slice (some ⟨gG,0,none⟩) x.G.length pG) (tG.set kk ⟨A5,l.length+ (0+1),c5⟩),b∈dH (.slice (some ⟨gG,0,none⟩) x.G.length pG) tG∨b=wq.heap.size+1:=fun b hb=>by
             rcases iU hb with h1|h1
             ·exact .inl h1
             ·have h3 : (Value.slice A5 (l.length+ (0+1)) c5).ownBlock=some b:=bV.1 h1;rcases rE with h2|h2; (rw [h2] at h3;exact .inl (hsf b (bV.2 h3))); (rw [h2] at h3;injection h3 with h3;simp at h3;exact .inr h3.symm)
            have Aa : dR FI 3 94 (w5.setCell ⟨gG,kk,none⟩ (.slice A5 (l.length+ (0+1)) c5)) (.slice (some ⟨gO,0,none⟩) x.O.length pO) tO x.O:= ((bI.O.aH (.cells #[.int .i64 y] 3)).aM hx5 (fun b hb hm=>vk b (hsf b hm) hb)).aM (F:= [gG]) bW (fun b hb hm=>by simp only [List.mem_cons,List.not_mem_nil,or_false] at hm;subst hm;exact vk _ mG hb)
            have oW : dZ (w5.setCell ⟨gG,kk,none⟩ (.slice A5 (l.length+ (0+1)) c5)) ⟨⟨some ⟨gG,0,none⟩,x.G.length,pG⟩,tG.set kk ⟨A5,l.length+ (0+1),c5⟩, ⟨some ⟨gO,0,none⟩,x.O.length,pO⟩,tO⟩ {x with G:=x.G.set kk (l++ [y])}:= ⟨hN,Aa,fun b hb hm=>by rcases f5 b hb with e|e; (exact vk b e hm); (have:=fT b (kW hm);omega)⟩
            have gW : ∀b∈aZ.foot ⟨⟨some ⟨gG,0,none⟩,x.G.length,pG⟩,tG.set kk ⟨A5,l.length+ (0+1),c5⟩, ⟨some ⟨gO,0,none⟩,x.O.length,pO⟩,tO⟩,w.heap.size<b∧b≠w1.heap.size:=fun b hb=>by rcases aZ.aX.1 hb with h1|h1; (rcases f5 b h1 with e|e; (have:=gT b (kE e);have:=fT b (kE e);omega);omega); (have:=gT b (kW h1);have:=fT b (kW h1);omega)
            have wE : Below w.heap.size wq w5:= ((Below.refl _ _).alloc hC.size _).grown hg5 (by simp;omega) (fun b hb=>by have:=gT b (kE (hsf b (bV.2 hb)));omega)
            replace hc:=hc.je (B:=w.heap.size) hgl wE hC.size
            replace hC:=hC.then_ wE
            have BZ:=pU x.G kk (l++ [y])
            simp only [List.length_append,List.length_cons,List.length_nil] at BZ
            clear hN Aa wD hg5 rE hx5
            go_wp2_with fail
            refine bodyPost_ret (v:= .agg #[.slice (some ⟨gG,0,none⟩) x.G.length pG, .slice (some ⟨gO,0,none⟩) x.O.length pO]) (by simp [results,Tryz.results139,go_sem,aj,ak]) rfl ⟨⟨⟨some ⟨gG,0,none⟩,x.G.length,pG⟩,tG.set kk ⟨A5,l.length+ (0+1),c5⟩, ⟨some ⟨gO,0,none⟩,x.O.length,pO⟩,tO⟩, {x with G:=x.G.set kk (l++ [y])},rfl,oW.aM (F:= [w.heap.size]) bW (fun b hb hm=>by simp only [List.mem_cons,List.not_mem_nil,or_false] at hm;have:=gW b hb;omega),by unfold bX at hsz⊢;simp only;omega,fun b hb=>by have:=gW b hb;omega,hc.je (B:=w.heap.size) hgl dQ hC.size,hC.then_ dQ⟩
 have e3' : (k == 3) =false:=by simpa using e3
 clear e0 e1 e2 e3
 go_wp2_with fail
 refine bodyPost_ret (v:= .agg #[.slice (some ⟨gG,0,none⟩) x.G.length pG, .slice (some ⟨gO,0,none⟩) x.O.length pO]) (by simp [results,Tryz.results139,go_sem,aj,ak]) rfl ⟨⟨⟨some ⟨gG,0,none⟩,x.G.length,pG⟩,tG, ⟨some ⟨gO,0,none⟩,x.O.length,pO⟩,tO⟩,x,rfl,bI.aM (F:= [w.heap.size]) bW (fun b hb hm=>by simp only [List.mem_cons,List.not_mem_nil,or_false] at hm;have:=gT b hb;have:=fT b hb;omega),by omega,fun b hb=>by have:=gT b hb;omega,hc.je (B:=w.heap.size) hgl dQ hC.size,hC.then_ dQ⟩
end Go.Proofs.YtkmggglljkmjoaaGreat
