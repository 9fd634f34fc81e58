/- m -/
import Derived.Test.YtkmggglljkmjoaaGreatUHRanges29
import Derived.Test.YtkmggglljkmjoaaGreatUHRanges28
set_option maxRecDepth 100000
set_option maxHeartbeats 8000000
namespace Go.Proofs.YtkmggglljkmjoaaGreat
open Go.RowKit
open Go.Proofs.YtkmggglljkmjoaaGreat.Lim
theorem aX.cellS {w : World}{g n c E : Nat}{l : List SV}(h : aX FS E w (.slice (some ⟨g,0,none⟩) n c) l){k : Nat}{s : SV}(hs : l[k]? =some s) : w.cell? ⟨g,k,none⟩ =some (.slice s.a s.l s.c) :=by
 simpa [FS] using aX.cell_ h (j:=0) hs (by decide)
def Ql (w : World)(g : Nat)(code : List Int)(e : Ending)(w' : World) : Prop:= ∃ (H : bF) (x : Lists),e= .returned (H.val x) ∧eZ w' H x∧bX x≤60∧ (∀b∈H.foot,w.heap.size≤b) ∧fQ w' g code∧bn [g] w w'
theorem dF.H6 {α : Type}{T : FT α}{e E : TypeId}{w : World}{g n c : Nat}{eU : List SV}{ll : List (List α)}(h : dF T e E w (.slice (some ⟨g,0,none⟩) n c) eU ll){i : Nat}(hi : i≤ll.length) : dF T e E w (.slice (some ⟨g,0,none⟩) i c) (eU.take i) (ll.take i) :=by
 have hs : i≤eU.length:=by rw [h.len];exact hi
 refine⟨by rw [List.length_take,List.length_take,h.len],aX.H6 h.outer hs,fun k s l hk hl=> ?_, ?_⟩
 ·rw [List.getElem?_take] at hk hl
  split at hk
  ·rename_i hlt
   rw [if_pos hlt] at hl;exact h.inner k s l hk hl
  ·cases hk
 ·have hn:=h.nodup
  unfold bT at hn⊢;have e : eU.flatMap (fun s=>bq s.val) = (eU.take i).flatMap (fun s=>bq s.val) ++ (eU.drop i).flatMap (fun s=>bq s.val) :=by rw [←List.flatMap_append,List.take_append_drop]
  rw [e, ←List.append_assoc,List.nodup_append] at hn;exact hn.1
theorem Gx {eU : List SV}{i : Nat}{b : Nat}{g n c m d : Nat}(h : b∈bT (.slice (some ⟨g,0,none⟩) n c) (eU.take i)) : b∈bT (.slice (some ⟨g,0,none⟩) m d) eU:=by
 rcases dw.1 h with h1| ⟨s,hs,h1⟩
 ·exact dw.2 (.inl h1)
 ·exact dw.2 (.inr ⟨s,List.mem_of_mem_take hs,h1⟩)
theorem O6 (ll : List (List Int))(i : Nat) : fO (ll.take i) ≤fO ll:=by
 have a : (ll.take i).length≤ll.length:=by simp;omega
 have b:=nE ll i;have c : fO ll=ll.length+ku ll:=rfl;have d : fO (ll.take i) = (ll.take i).length+ku (ll.take i) :=rfl;omega
theorem ko {gG n p b : Nat}{tG : List SV}{K : SV}{tO : List SV}(h : b∈bT (.slice (some ⟨gG,0,none⟩) n p) tG) : b∈bF.foot ⟨⟨some ⟨gG,0,none⟩,n,p⟩,tG,K,tO⟩ :=bF.aI.2 (.inl h)
theorem lJ {gO n p b : Nat}{tO : List SV}{K : SV}{tG : List SV}(h : b∈bT (.slice (some ⟨gO,0,none⟩) n p) tO) : b∈bF.foot ⟨K,tG, ⟨some ⟨gO,0,none⟩,n,p⟩,tO⟩ :=bF.aI.2 (.inr h)
theorem JX (w : World)(g : Nat)(code : List Int)(hc : fQ w g code) : Calls Tryz.prog 139 #[.pointer (some ⟨g,0,none⟩)] w (Ql w g code) :=by
 have hgl:=hc.lt;obtain⟨w0,hW0⟩ : ∃x,x= (w.alloc (.cells #[.slice none 0 0, .slice none 0 0] 29)) := ⟨_,rfl⟩;have aj : aJ w0 (w.heap.size) [.slice none 0 0, .slice none 0 0]:=by
  rw [hW0];exact aJ.nw
 have hC : bn [g] w w0:=hW0 ▸ (bn.refl [g] w).av _;replace hc : fQ w0 g code:=hW0 ▸ (hc).alloc _;go_enter Tryz.func139,Tryz.ntmps139;go_wp2_with fail;rw [←hW0];clear hW0;have kL:=aj.lt;have JI : w.heap.size≤w.heap.size:=by omega
 have sC:=hC.size;obtain⟨ak,au,aH,aR⟩ :=aj.f2;refine(MW _ g code hc).mono ?_;rintro e w1 ⟨iC,x,rfl,dA,HS,jo,hcn,hx⟩;replace hc:=hcn;replace aj:=aj.aM hx (by simp only [Pe,Pd,XK];omega);replace hC:=hC.trans hx;have sz:=hx.size;replace sC:=hC.size;clear hx;have iB:=dA.lt;clear ak au aH aR;obtain⟨ak,au,aH,aR⟩ :=aj.f2;obtain⟨⟨A1,n1,pG⟩,tG, ⟨A2,n2,pO⟩,tO⟩ :=iC;obtain⟨gG,q1,hv1,hg1⟩ :=dF.l9 (v:= .slice A1 n1 pG) dA.G (by rw [HS.gl];decide);obtain⟨gO,q2,hv2,hg2⟩ :=dF.l9 (v:= .slice A2 n2 pO) dA.O (by rw [HS.ow];decide);injection hv1 with i1 i2 i3;injection hv2 with j1 j2 j3;subst i1 i2 i3 j1 j2 j3;have Xv : x.G.length≤pG:= (dA.G.rd'.len').2.1;have Xw : x.O.length≤pO:= (dA.O.rd'.len').2.1;have Ua : 3≤x.G.length:=by rw [HS.gl];decide
 have Ub : x.G.length≤3:=by rw [HS.gl];decide
 have Vy : 9≤x.O.length:=by rw [HS.ow];decide
 have Vz : x.O.length≤9:=by rw [HS.ow];decide
 have hsz:=HS.sz;clear HS;have U_:=Hid.aD dA.G.len;have RA:=Hid.aD dA.O.len;have mG : gG∈bT (.slice (some ⟨gG,0,none⟩) x.G.length pG) tG:=dw.2 (.inl rfl);have mO : gO∈bT (.slice (some ⟨gO,0,none⟩) x.O.length pO) tO:=dw.2 (.inl rfl);have lG:=jo gG (ko mG);have lO:=jo gO (lJ mO);have uG:=iB gG (ko mG);have uO:=iB gO (lJ mO);have Xx : gG≠gO:=fun e=>dA.jy gG mG (e ▸ mO);have RB : ∀b∈bT (.slice (some ⟨gG,0,none⟩) x.G.length pG) tG,b≠gO:=fun b hb e=>dA.jy b hb (e ▸ mO);have vV:=dA.jy;go_wp2_with fail;generalize hO : Obj.cells #[.slice (some ⟨gG,0,none⟩) x.G.length pG, .slice (some ⟨gO,0,none⟩) x.O.length pO] 29=O_;replace aj:=aj.alloc O_;replace dA:=dA.av O_;replace hC:=hC.av O_;replace hc:=hc.alloc O_;have cK : aJ (w1.alloc O_) w1.heap.size [.slice (some ⟨gG,0,none⟩) x.G.length pG, .slice (some ⟨gO,0,none⟩) x.O.length pO]:=hO ▸ aJ.new _ _ _;have DI:=cK.lt;have sz : w1.heap.size≤ (w1.alloc O_).heap.size:=X7 cK.lt;have O1 : w.heap.size≤w1.heap.size:=by omega
 generalize hG : (w1.alloc O_) =w2 at aj dA hC hc cK DI sz⊢;clear hG hO O_;replace sC:=hC.size;clear ak au aH aR;obtain⟨ak,au,aH,aR⟩ :=aj.f2;obtain⟨cZ,dh,fu,f_⟩ :=cK.f2;have Wt : ¬ gG=w1.heap.size:=by omega
 have Wu : ¬ w1.heap.size=gG:=by omega
 have Wv : ¬ gG=w.heap.size:=by omega
 have Ww : ¬ w.heap.size=gG:=by omega
 have Wx : ¬ gO=w1.heap.size:=by omega
 have Wy : ¬ w1.heap.size=gO:=by omega
 have Wz : ¬ gO=w.heap.size:=by omega
 have WA : ¬ w.heap.size=gO:=by omega
 refine(bU _ g code 20 (by unfold dV;omega) hc).mono ?_;rintro e w3 ⟨k,rfl,k0,k1,hcn,hx⟩;replace hc:=hcn;replace aj:=aj.aM hx (by simp only [Pe,Pd,XK];omega);replace cK:=cK.aM hx (by simp only [Pe,Pd,XK];omega);replace dA:=dA.aM hx (fun b hb hm=>by simp only [Pe,Pd,XK] at hm;have:=jo b hb;have:=iB b hb;omega);replace hC:=hC.trans hx;have sz:=hx.size;replace sC:=hC.size;clear hx
 skip
 clear ak au aH aR;obtain⟨ak,au,aH,aR⟩ :=aj.f2;clear cZ dh fu f_;obtain⟨cZ,dh,fu,f_⟩ :=cK.f2;by_cases e0 : k=0
 case pos=>
  subst e0;have ft : ∀b∈bF.foot ⟨⟨some ⟨gG,0,none⟩,2,pG⟩,tG.take 2, ⟨some ⟨gO,0,none⟩,x.O.length,pO⟩,tO⟩,b∈bF.foot ⟨⟨some ⟨gG,0,none⟩,x.G.length,pG⟩,tG, ⟨some ⟨gO,0,none⟩,x.O.length,pO⟩,tO⟩ :=fun b hb=>by rcases bF.aI.1 hb with h1|h1; (exact ko (Gx h1)); (exact lJ h1)
  go_wp2_with fail;refine bodyPost_ret (v:= .agg #[.slice (some ⟨gG,0,none⟩) 2 pG, .slice (some ⟨gO,0,none⟩) x.O.length pO]) (by simp [results,Tryz.results139,go_sem,ak,au]) rfl ⟨⟨⟨some ⟨gG,0,none⟩,2,pG⟩,tG.take 2, ⟨some ⟨gO,0,none⟩,x.O.length,pO⟩,tO⟩, {x with G:=x.G.take 2},rfl,eZ.aM (F:= [w.heap.size,w1.heap.size]) (⟨dF.H6 (i:=2) dA.G (show 2≤x.G.length by omega),dA.O,fun b hb=>vV b (Gx hb)⟩ : eZ _ ⟨⟨some ⟨gG,0,none⟩,2,pG⟩,tG.take 2, ⟨some ⟨gO,0,none⟩,x.O.length,pO⟩,tO⟩ {x with G:=x.G.take 2}) dx (fun b hb hm=>by simp only [Pe,Pd,XK] at hm;have:=jo b (ft b hb);have:=iB b (ft b hb);omega),by have:=O6 x.G 2;unfold bX at hsz⊢;simp only;omega,fun b hb=>by have:=jo b (ft b hb);omega,hc.jg (B:=w.heap.size) hgl dU hC.size,hC.then_ dU⟩
 have Rw : (k == 0) =false:=by simpa using e0
 by_cases e1 : k=1
 case pos=>
  subst e1;go_wp2_with (at_builtin;refine eP Tryz.stSL rfl _ _ rfl (v:= .slice (some ⟨gO,0,none⟩) x.O.length pO) (y:= .slice (some ⟨w3.heap.size,0,none⟩) 1 1) (l:=tO) (m:= [⟨none,0,0⟩]) rfl rfl (aX.av dA.O.outer _) (aX.lit FS [⟨none,0,0⟩] #[.slice none 0 0] rfl (by simp [maxLen]) w3 94).rd' (by simp only [List.length_singleton];have:=RA.out;omega) ?_;intro v4 w4 rP hg4 qy;obtain⟨A4,c4,hv4,_⟩ :=id rP.rd';simp only [XU,List.length_cons,List.length_nil] at hv4;subst hv4;have hx4:=bn.iD hg4;have hx5 : bn [gO] (w3.alloc (.cells #[.slice none 0 0] 94)) w4:=hx4.mono (fun b hb=>by have:=dB.1 hb;simp [this]);replace cK:= (cK.alloc (.cells #[.slice none 0 0] 94)).aM hx5 (by simp;omega);clear cZ dh fu f_;obtain⟨cZ,dh,fu,f_⟩ :=cK.f2;replace aj:= (aj.alloc (.cells #[.slice none 0 0] 94)).aM hx5 (by simp;omega);clear ak au aH aR;obtain⟨ak,au,aH,aR⟩ :=aj.f2;have yw : Below w.heap.size w3 w4:= ((Below.refl _ _).alloc hC.size _).grown hg4 (by simp;omega) (fun b hb=>by have:=dB.1 (aS.2 hb);omega));replace hc:=hc.jg (B:=w.heap.size) hgl yw hC.size;replace hC:=hC.then_ yw;have Va:=dF.snoc (dA.O.av (.cells #[.slice none 0 0] 94)) (s:= ⟨none,0,0⟩) (l:= []) (World.ownsRow_nil _ _ _ _) (fun b hb=>by simp [bq,SV.val,Value.ownBlock] at hb) rP hg4 qy;have Vb:= (dA.G.av (.cells #[.slice none 0 0] 94)).aM hx5 (fun b hb hm=>by simp only [Pe,Pd,XK] at hm;exact RB b hb hm);have f4 : ∀b∈bT (.slice A4 (tO.length+ (0+1)) c4) (tO++ [⟨none,0,0⟩]),b∈bT (.slice (some ⟨gO,0,none⟩) x.O.length pO) tO∨b=w3.heap.size+1:=fun b hb=>by
   rcases dw.1 hb with h1| ⟨s,hs,h1⟩
   ·rcases qy with h2|h2; (rw [h2] at h1;exact .inl (dw.2 (.inl h1))); (rw [h2] at h1;injection h1 with h1;simp at h1;exact .inr h1.symm)
   ·rcases XT.1 hs with hs|hs; (exact .inl (dw.2 (.inr ⟨s,hs,h1⟩))); (rw [List.mem_singleton.1 hs] at h1;simp [SV.val,Value.ownBlock] at h1)
  have o4 : eZ w4 ⟨⟨some ⟨gG,0,none⟩,x.G.length,pG⟩,tG, ⟨A4,tO.length+ (0+1),c4⟩,tO++ [⟨none,0,0⟩]⟩ {x with O:=x.O++ [[]]}:= ⟨Vb,Va,fun b hb hm=>by rcases f4 b hm with e|e; (exact vV b hb e); (have:=iB b (ko hb);omega)⟩;have g4 : ∀b∈bF.foot ⟨⟨some ⟨gG,0,none⟩,x.G.length,pG⟩,tG, ⟨A4,tO.length+ (0+1),c4⟩,tO++ [⟨none,0,0⟩]⟩,w.heap.size<b∧b≠w1.heap.size:=fun b hb=>by rcases bF.aI.1 hb with h1|h1; (have:=jo b (ko h1);have:=iB b (ko h1);omega); (rcases f4 b h1 with e|e; (have:=jo b (lJ e);have:=iB b (lJ e);omega);omega)
  go_wp2_with fail;refine bodyPost_ret (v:= .agg #[.slice (some ⟨gG,0,none⟩) x.G.length pG, .slice A4 (tO.length+ (0+1)) c4]) (by simp [results,Tryz.results139,go_sem,ak,au]) rfl ⟨⟨⟨some ⟨gG,0,none⟩,x.G.length,pG⟩,tG, ⟨A4,tO.length+ (0+1),c4⟩,tO++ [⟨none,0,0⟩]⟩, {x with O:=x.O++ [[]]},rfl,o4.aM (F:= [w.heap.size,w1.heap.size]) dx (fun b hb hm=>by simp only [Pe,Pd,XK] at hm;have:=g4 b hb;omega),by unfold bX fO at hsz⊢;simp;omega,fun b hb=>by have:=g4 b hb;omega,hc.jg (B:=w.heap.size) hgl dU hC.size,hC.then_ dU⟩
 have Rx : (k == 1) =false:=by simpa using e1
 by_cases e2 : k=2
 case pos=>
  subst e2;go_wp2_with fail;go_region_held3 (fun w'=>w'.cell? ⟨w1.heap.size,0,none⟩ =some (.slice (some ⟨gG,0,none⟩) x.G.length pG) ∧w'.cell? ⟨w1.heap.size,1,none⟩ =some (.slice (some ⟨gO,0,none⟩) x.O.length pO)) (first| (with_reducible exact⟨cZ,dh⟩) | (refine⟨?_, ?_⟩ <;> (repeat (first|with_reducible assumption|with_reducible refine iq ?_ (by omega) |with_reducible refine gy ?_ (by omega) |with_reducible refine gV ?_));done) | (go_keep;done)) (first| (go_at_call 63; (first| ((with_reducible refine(bU _ g code _ (by unfold dV;omega) (hc.aY)).mono ?_);rintro e wq ⟨c_,rfl,c0,c1,hcn,hx⟩;replace aj:=aj.drew.aM hx (by simp only [Pe,Pd,XK];omega);replace cK:=cK.drew.aM hx (by simp only [Pe,Pd,XK];omega);replace dA:= (dA.aY).aM hx (fun b hb hm=>by simp only [Pe,Pd,XK] at hm;have:=jo b hb;have:=iB b hb;omega); (try replace uF:= (uF.aY).aM hx (fun b hb hm=>by simp only [Pe,Pd,XK] at hm;have:=Gu b hb;have:=zX b hb;omega)); (try replace je:=je.drew.aM hx (by simp only [Pe,Pd,XK];omega)); (try replace wG:=je.cell 0 _ rfl); (try replace wH:=je.cell 1 _ rfl); (try replace wI:=je.cell 2 _ rfl); (try replace wJ:=je.dN); (try replace EM:=je.lt);replace hC:=bn.trans hC.aY hx;replace hc:=hcn;have sz:=kN hx.size;replace sC:=hC.size;clear hx;clear ak au aH aR;obtain⟨ak,au,aH,aR⟩ :=aj.f2;clear cZ dh fu f_;obtain⟨cZ,dh,fu,f_⟩ :=cK.f2;obtain⟨c,rfl⟩ :=XP c0;have hcl : c<x.O.length:= (by omega);have JV : (c : Int) < (x.O.length : Int) := (by omega);have hct : c<tO.length:= (by have:=RA.out;omega);have p0:=aX.cellS dA.O.outer (XL hct);have pf:=aX.dM dA.O.outer c;have zO : gO<wq.heap.size:= (by omega)) | ((with_reducible refine(bU _ g code _ (by unfold dV;omega) ((hc.alloc _).aY)).mono ?_);rintro e wq ⟨c_,rfl,c0,c1,hcn,hx⟩;have qb:=aj.lt;have xD:=cK.lt;replace aj:= (aj.alloc _).drew.aM hx (by simp only [Pe,Pd,XK];omega);replace cK:= (cK.alloc _).drew.aM hx (by simp only [Pe,Pd,XK];omega);replace dA:= ((dA.av _).aY).aM hx (fun b hb hm=>by simp only [Pe,Pd,XK] at hm;have:=jo b hb;have:=iB b hb;omega);have je:=aJ.aM (aJ.new _ #[.int .i64 1, .int .i64 2, .int .i64 3] 3).drew hx (by simp only [Pe,Pd,XK];omega);have MV:=hC.size;have wJ:=je.dN;have EM:=je.lt;have wG:=je.cell 0 _ rfl;have wH:=je.cell 1 _ rfl;have wI:=je.cell 2 _ rfl;have uF:=aX.aM (aX.lit FI [1,2,3] #[.int .i64 1, .int .i64 2, .int .i64 3] rfl (by simp [maxLen]) _ 3).aY hx (fun b hb hm=>by have e1:=dB.1 hb;simp only [Pe,Pd,XK] at hm e1;omega);replace hC:=bn.trans (hC.av _).aY hx;replace hc:=hcn;have sz:=jQ (kN hx.size);replace sC:=hC.size;clear hx;clear ak au aH aR;obtain⟨ak,au,aH,aR⟩ :=aj.f2;clear cZ dh fu f_;obtain⟨cZ,dh,fu,f_⟩ :=cK.f2;obtain⟨c,rfl⟩ :=XP c0;have hcl : c<x.O.length:= (by omega);have JV : (c : Int) < (x.O.length : Int) := (by omega);have hct : c<tO.length:= (by have:=RA.out;omega);have p0:=aX.cellS dA.O.outer (XL hct);have pf:=aX.dM dA.O.outer c;have zO : gO<wq.heap.size:= (by omega)))))
  all_goals
   have hts : tO[c]? =some tO[c]:=XL hct;go_wp2_with fail;first
   | ((have oz:=aX.lit FI [1,2,3] #[.int .i64 1, .int .i64 2, .int .i64 3] rfl (by simp [maxLen]) wq 3); (have s1:= (dA.O.av (.cells #[.int .i64 1, .int .i64 2, .int .i64 3] 3)).M5 (s:= (⟨some ⟨wq.heap.size,0,none⟩,3,3⟩ : SV)) hts oz (fun b hb hm=>by have e1:=dB.1 hb;have:=iB b (lJ hm);omega));simp only [SV.val] at s1; (have oW : eZ ((wq.alloc (.cells #[.int .i64 1, .int .i64 2, .int .i64 3] 3)).setCell ⟨gO,c,none⟩ (.slice (some ⟨wq.heap.size,0,none⟩) 3 3)) ⟨⟨some ⟨gG,0,none⟩,x.G.length,pG⟩,tG, ⟨some ⟨gO,0,none⟩,x.O.length,pO⟩,tO.set c ⟨some ⟨wq.heap.size,0,none⟩,3,3⟩⟩ {x with O:=x.O.set c [1,2,3]}:= ⟨dA.G.aM (F:= [gO]) dx (fun b hb hm=>by simp only [Pe,Pd,XK] at hm;exact RB b hb hm),s1,fun b hb hm=>by rcases jF hm with h1|h1; (exact vV b hb h1); (have e1:=dB.1 h1;have:=iB b (ko hb);omega)⟩); (have gW : ∀b∈bF.foot ⟨⟨some ⟨gG,0,none⟩,x.G.length,pG⟩,tG, ⟨some ⟨gO,0,none⟩,x.O.length,pO⟩,tO.set c ⟨some ⟨wq.heap.size,0,none⟩,3,3⟩⟩,w.heap.size<b∧b≠w1.heap.size:=fun b hb=>by rcases bF.aI.1 hb with h1|h1; (have:=jo b (ko h1);have:=iB b (ko h1);omega); (rcases jF h1 with e|e; (have:=jo b (lJ e);have:=iB b (lJ e);omega); (have e1:=dB.1 e;omega))); (have oF:=oW.aM (F:= [w.heap.size]) (w':= (((wq.alloc (.cells #[.int .i64 1, .int .i64 2, .int .i64 3] 3)).setCell ⟨gO,c,none⟩ (.slice (some ⟨wq.heap.size,0,none⟩) 3 3)).setCell ⟨w.heap.size,0,none⟩ (.slice (some ⟨gG,0,none⟩) x.G.length pG)).setCell ⟨w.heap.size,1,none⟩ (.slice (some ⟨gO,0,none⟩) x.O.length pO)) dx (fun b hb hm=>by simp only [Pe,Pd,XK] at hm;have:=gW b hb;omega));rw [World.setCell_alloc_past _ _ _ _ zO,World.setCell_alloc_past _ _ _ _ (show w.heap.size< (wq.setCell _ _).heap.size by simpa using aR),World.setCell_alloc_past _ _ _ _ (show w.heap.size< ((wq.setCell _ _).setCell _ _).heap.size by simpa using aR)] at oF; (have hbx:= (((aj.other (g':=gO) (i:=c) (by omega) (.slice (some ⟨wq.heap.size,0,none⟩) 3 3)).set 0 (.slice (some ⟨gG,0,none⟩) x.G.length pG)).set 1 (.slice (some ⟨gO,0,none⟩) x.O.length pO)).alloc (.cells #[.int .i64 1, .int .i64 2, .int .i64 3] 3)); (have su:=hbx.cell 0 _ rfl); (have sw:=hbx.cell 1 _ rfl); (refine bodyPost_ret (v:= .agg #[.slice (some ⟨gG,0,none⟩) x.G.length pG, .slice (some ⟨gO,0,none⟩) x.O.length pO]) (by simp [results,Tryz.results139,go_sem,su,sw]) rfl ⟨⟨⟨some ⟨gG,0,none⟩,x.G.length,pG⟩,tG, ⟨some ⟨gO,0,none⟩,x.O.length,pO⟩,tO.set c ⟨some ⟨wq.heap.size,0,none⟩,3,3⟩⟩, {x with O:=x.O.set c [1,2,3]},rfl,oF, (by have:=mq x.O c [1,2,3];unfold bX at hsz⊢;simp only [List.length_cons,List.length_nil] at *;omega), (fun b hb=>by have:=gW b hb;omega),hc.jg (B:=w.heap.size) hgl dU hC.size,hC.then_ dU⟩))
   | ((have s1:=dA.O.M5 (s:= (⟨some ⟨w3.heap.size,0,none⟩,3,3⟩ : SV)) hts uF (fun b hb hm=>by have e1:=dB.1 hb;have:=iB b (lJ hm);omega));simp only [SV.val] at s1; (have oW : eZ (wq.setCell ⟨gO,c,none⟩ (.slice (some ⟨w3.heap.size,0,none⟩) 3 3)) ⟨⟨some ⟨gG,0,none⟩,x.G.length,pG⟩,tG, ⟨some ⟨gO,0,none⟩,x.O.length,pO⟩,tO.set c ⟨some ⟨w3.heap.size,0,none⟩,3,3⟩⟩ {x with O:=x.O.set c [1,2,3]}:= ⟨dA.G.aM (F:= [gO]) dx (fun b hb hm=>by simp only [Pe,Pd,XK] at hm;exact RB b hb hm),s1,fun b hb hm=>by rcases jF hm with h1|h1; (exact vV b hb h1); (have e1:=dB.1 h1;have:=iB b (ko hb);omega)⟩); (have gW : ∀b∈bF.foot ⟨⟨some ⟨gG,0,none⟩,x.G.length,pG⟩,tG, ⟨some ⟨gO,0,none⟩,x.O.length,pO⟩,tO.set c ⟨some ⟨w3.heap.size,0,none⟩,3,3⟩⟩,w.heap.size<b∧b≠w1.heap.size:=fun b hb=>by rcases bF.aI.1 hb with h1|h1; (have:=jo b (ko h1);have:=iB b (ko h1);omega); (rcases jF h1 with e|e; (have:=jo b (lJ e);have:=iB b (lJ e);omega); (have e1:=dB.1 e;omega))); (have oF:=oW.aM (F:= [w.heap.size]) (w':= ((wq.setCell ⟨gO,c,none⟩ (.slice (some ⟨w3.heap.size,0,none⟩) 3 3)).setCell ⟨w.heap.size,0,none⟩ (.slice (some ⟨gG,0,none⟩) x.G.length pG)).setCell ⟨w.heap.size,1,none⟩ (.slice (some ⟨gO,0,none⟩) x.O.length pO)) dx (fun b hb hm=>by simp only [Pe,Pd,XK] at hm;have:=gW b hb;omega)); (refine bodyPost_ret (v:= .agg #[.slice (some ⟨gG,0,none⟩) x.G.length pG, .slice (some ⟨gO,0,none⟩) x.O.length pO]) (by simp [results,Tryz.results139,go_sem,ak,au]) rfl ⟨⟨⟨some ⟨gG,0,none⟩,x.G.length,pG⟩,tG, ⟨some ⟨gO,0,none⟩,x.O.length,pO⟩,tO.set c ⟨some ⟨w3.heap.size,0,none⟩,3,3⟩⟩, {x with O:=x.O.set c [1,2,3]},rfl,oF, (by have:=mq x.O c [1,2,3];unfold bX at hsz⊢;simp only [List.length_cons,List.length_nil] at *;omega), (fun b hb=>by have:=gW b hb;omega),hc.jg (B:=w.heap.size) hgl dU hC.size,hC.then_ dU⟩))
 have e2' : (k == 2) =false:=by simpa using e2
 by_cases e3 : k=3
 case pos=>
  subst e3;go_wp2_with fail;refine(bU _ g code 3 (by unfold dV;omega) hc).mono ?_;rintro e Vd ⟨Xy,rfl,Ve,Xz,hcn,hx⟩;replace hc:=hcn;replace aj:=aj.aM hx (by simp only [Pe,Pd,XK];omega);replace cK:=cK.aM hx (by simp only [Pe,Pd,XK];omega);replace dA:=dA.aM hx (fun b hb hm=>by simp only [Pe,Pd,XK] at hm;have:=jo b hb;have:=iB b hb;omega);replace hC:=hC.trans hx;have sz:=hx.size;replace sC:=hC.size;clear hx
  skip
  clear ak au aH aR;obtain⟨ak,au,aH,aR⟩ :=aj.f2;clear cZ dh fu f_;obtain⟨cZ,dh,fu,f_⟩ :=cK.f2;obtain⟨kk,rfl⟩ :=XP Ve;have hkl : kk<x.G.length:=by omega
  have MC : (kk : Int) < (x.G.length : Int) :=by omega
  obtain⟨s,hsv⟩ : ∃s,tG[kk]? =some s:= ⟨_,XL (by rw [U_.out];exact hkl)⟩;have HV:=Hid.aD hsv;clear hsv;obtain⟨l,hl⟩ : ∃l,x.G[kk]? =some l:= ⟨_,XL hkl⟩;have PY:=Hid.aD hl;have hll : l.length≤25:=by have:=nX (XV hl);unfold bX at hsz;omega
  clear hl;have hsf : ∀b∈bq s.val,b∈bT (.slice (some ⟨gG,0,none⟩) x.G.length pG) tG:=fun b hb=>dw.2 (.inr ⟨s,XV HV.out,aS.1 hb⟩);have hin:=dA.G.inner kk s l HV.out PY.out;have p0:=aX.cellS dA.G.outer HV.out;have pf:=aX.dM dA.G.outer kk;have zG : gG<Vd.heap.size:=by omega
  have hne:=dA.G.head_ne HV.out;have PZ : w1.heap.size∉bq s.val:=fun hm=>by have:=iB _ (ko (hsf _ hm));omega
  have hnr : w.heap.size∉bq s.val:=fun hm=>by have:=jo _ (ko (hsf _ hm));omega
  go_wp2_with fail;refine wp_region_held_drew (S:= (fun w'=>w'.cell? ⟨w1.heap.size,0,none⟩ =some (.slice (some ⟨gG,0,none⟩) x.G.length pG) ∧w'.cell? ⟨w1.heap.size,1,none⟩ =some (.slice (some ⟨gO,0,none⟩) x.O.length pO))) (by kernel_rfl) ?hd (fun hHeld=> ?hr)
  case hd=>
   (try dsimp only)
   (first| (with_reducible exact⟨cZ,dh⟩) | (refine⟨?_, ?_⟩ <;> (repeat (first|with_reducible assumption|with_reducible refine iq ?_ (by omega) |with_reducible refine gy ?_ (by omega) |with_reducible refine gV ?_));done))
  case hr=>
   refine wpAnyH_take (i:=0) (v:= ?_) rfl (by kernel_rfl) (by kernel_rfl) (by kernel_rfl) (fun _ _ _ h=>h) (Or.inl ⟨by kernel_rfl, ?_⟩) (by assumption) ?_
   rotate_left
   ·(intro wz hSw; (try dsimp only at hSw);go_simp; (try with_reducible rfl))
   try simp only [List.getElem_toArray,List.getElem_cons_zero,Act.put,List.setIfInBounds_toArray,List.set_cons_zero,List.set_cons_succ]
   refine wpAnyH_take (i:=1) (v:= ?_) rfl (by kernel_rfl) (by kernel_rfl) (by kernel_rfl) (fun _ _ _ h=>h) (Or.inl ⟨by kernel_rfl, ?_⟩) (by assumption) ?_
   rotate_left
   ·(intro wz hSw; (try dsimp only at hSw);go_simp; (try with_reducible rfl))
   try simp only [List.getElem_toArray,List.getElem_cons_succ,List.getElem_cons_zero,Act.put,List.setIfInBounds_toArray,List.set_cons_zero,List.set_cons_succ]
   refine wpAnyH_take (i:=2) (v:= ?_) rfl (by kernel_rfl) (by kernel_rfl) (by kernel_rfl) (fun _ _ _ h=>h) (Or.inl ⟨by kernel_rfl, ?_⟩) (by assumption) ?_
   rotate_left
   ·(intro wz hSw; (try dsimp only at hSw);go_simp; (try with_reducible rfl))
   try simp only [List.getElem_toArray,List.getElem_cons_succ,List.getElem_cons_zero,Act.put,List.setIfInBounds_toArray,List.set_cons_zero,List.set_cons_succ]
   refine wpAnyH_take (i:=3) (v:= ?_) rfl (by kernel_rfl) (by kernel_rfl) (by kernel_rfl) (fun _ _ _ h=>h) (Or.inl ⟨by kernel_rfl, ?_⟩) (by assumption) ?_
   rotate_left
   ·(intro wz hSw; (try dsimp only at hSw);go_simp; (try with_reducible rfl))
   try simp only [List.getElem_toArray,List.getElem_cons_succ,List.getElem_cons_zero,Act.put,List.setIfInBounds_toArray,List.set_cons_zero,List.set_cons_succ]
   refine wpAnyH_take (i:=4) (v:= ?_) rfl (by kernel_rfl) (by kernel_rfl) (by kernel_rfl) (fun _ _ _ h=>h) (Or.inl ⟨by kernel_rfl, ?_⟩) (by assumption) ?_
   rotate_left
   ·(intro wz hSw; (try dsimp only at hSw);go_simp; (try with_reducible rfl))
   try simp only [List.getElem_toArray,List.getElem_cons_succ,List.getElem_cons_zero,Act.put,List.setIfInBounds_toArray,List.set_cons_zero,List.set_cons_succ]
   refine wpAnyH_take (i:=5) (v:= ?_) rfl (by kernel_rfl) (by kernel_rfl) (by kernel_rfl) (fun _ _ _ h=>h) (Or.inl ⟨by kernel_rfl, ?_⟩) (by assumption) ?_
   rotate_left
   ·(intro wz hSw; (try dsimp only at hSw);go_simp; (try with_reducible rfl))
   try simp only [List.getElem_toArray,List.getElem_cons_succ,List.getElem_cons_zero,Act.put,List.setIfInBounds_toArray,List.set_cons_zero,List.set_cons_succ]
   refine wpAnyH_take (i:=6) (v:= ?_) rfl (by kernel_rfl) (by kernel_rfl) (by kernel_rfl) (fun _ _ _ h=>h) (Or.inl ⟨by kernel_rfl, ?_⟩) (by assumption) ?_
   rotate_left
   ·(intro wz hSw; (try dsimp only at hSw);go_simp; (try with_reducible rfl))
   try simp only [List.getElem_toArray,List.getElem_cons_succ,List.getElem_cons_zero,Act.put,List.setIfInBounds_toArray,List.set_cons_zero,List.set_cons_succ]
   refine wpAnyH_take (i:=7) (v:= ?_) rfl (by kernel_rfl) (by kernel_rfl) (by kernel_rfl) (fun _ _ _ h=>h) (Or.inl ⟨by kernel_rfl, ?_⟩) (by assumption) ?_
   rotate_left
   ·(intro wz hSw; (try dsimp only at hSw);go_simp; (try with_reducible rfl))
   try simp only [List.getElem_toArray,List.getElem_cons_succ,List.getElem_cons_zero,Act.put,List.setIfInBounds_toArray,List.set_cons_zero,List.set_cons_succ]
   refine wpAnyH_take (i:=9) (v:= ?_) rfl (by kernel_rfl) (by kernel_rfl) (by kernel_rfl) (fun _ _ _ h=>h) (Or.inl ⟨by kernel_rfl, ?_⟩) (by assumption) ?_
   rotate_left
   ·(intro wz hSw; (try dsimp only at hSw);go_simp; (try with_reducible rfl))
   try simp only [List.getElem_toArray,List.getElem_cons_succ,List.getElem_cons_zero,Act.put,List.setIfInBounds_toArray,List.set_cons_zero,List.set_cons_succ]
   refine wpAnyH_ready (rs:= [8,10]) (by kernel_rfl) (by simp) ?_;refine(AllReadyH.cons rfl (fun K hK=> ?_) (AllReadyH.cons rfl (fun K hK=> ?_) AllReadyH.nil))
   ·go_simp
    refine hK.out _ _ ?hS (fun hHeld=> ?hr)
    case hS=>
     (try dsimp only)
     (first| (with_reducible exact⟨cZ,dh⟩) | (refine⟨?_, ?_⟩ <;> (repeat (first|with_reducible assumption|with_reducible refine iq ?_ (by omega) |with_reducible refine gy ?_ (by omega) |with_reducible refine gV ?_));done))
    case hr=>
     clear hK K;try simp only [List.getElem_toArray,List.getElem_cons_succ,List.getElem_cons_zero,Act.put,List.setIfInBounds_toArray,List.set_cons_zero,List.set_cons_succ]
     refine wpAnyH_ready (rs:= [10]) (by kernel_rfl) (by simp) ?_;refine(AllReadyH.cons rfl (fun K hK=> ?_) AllReadyH.nil)
     go_simp
     refine hK.out _ _ ?hS (fun hHeld=> ?hr)
     case hS=>
      (try dsimp only)
      (first| (with_reducible exact⟨cZ,dh⟩) | (refine⟨?_, ?_⟩ <;> (repeat (first|with_reducible assumption|with_reducible refine iq ?_ (by omega) |with_reducible refine gy ?_ (by omega) |with_reducible refine gV ?_));done))
     case hr=>
      clear hK K;try simp only [List.getElem_toArray,List.getElem_cons_succ,List.getElem_cons_zero,Act.put,List.setIfInBounds_toArray,List.set_cons_zero,List.set_cons_succ]
      refine wpAnyH_ready (rs:= [11]) (by kernel_rfl) (by simp) ?_;refine(AllReadyH.cons rfl (fun K hK=> ?_) AllReadyH.nil)
      go_simp
      (go_at_call 64; (first| ((with_reducible refine(qA _ g _ code [-1,24,5,6] _ 4 (show aJ _ _ [.int .i64 (-1), .int .i64 24, .int .i64 5, .int .i64 6] from (aJ.new _ #[.int .i64 (-1), .int .i64 24, .int .i64 5, .int .i64 6] 3).drew) (by simp) (by simp) (by simp;omega) (by decide) (by decide) ((hc.alloc _).aY)).mono ?_);rintro e wq ⟨y,rfl,hy,hcn,hx⟩;replace cK:= (cK.alloc _).drew.aM hx (by simp only [Pe,Pd,XK];omega);replace aj:= (aj.alloc _).drew.aM hx (by simp only [Pe,Pd,XK];omega);replace dA:= ((dA.av _).aY).aM hx (fun b hb hm=>by simp only [Pe,Pd,XK] at hm;have:=jo b hb;have:=iB b hb;omega);replace hC:=bn.trans (hC.av _).aY hx;replace hc:=hcn;have sz:=hx.size; (try simp only [World.size_alloc,wF] at sz);replace sC:=hC.size;clear hx;replace cZ:=cK.cell 0 _ rfl;replace dh:=cK.cell 1 _ rfl;replace ak:=aj.cell 0 _ rfl;replace au:=aj.cell 1 _ rfl;replace fu:=cK.dN;replace f_:=cK.lt;replace aH:=aj.dN;replace aR:=aj.lt;replace hin:=dA.G.inner kk s l HV.out PY.out;replace p0:=aX.cellS dA.G.outer HV.out;replace pf:=aX.dM dA.G.outer kk;replace zG : gG<wq.heap.size:= (by omega);clear hy)))
      (try go_wp2_with fail)
      refine hK.out _ _ ?hS (fun hHeld=> ?hr)
      case hS=>
       (try dsimp only)
       (first| (with_reducible exact⟨cZ,dh⟩))
      case hr=>
       clear hK K;try simp only [List.getElem_toArray,List.getElem_cons_succ,List.getElem_cons_zero,Act.put,List.setIfInBounds_toArray,List.set_cons_zero,List.set_cons_succ]
       refine wpAnyH_ready (rs:= [12]) (by kernel_rfl) (by simp) ?_;refine(AllReadyH.cons rfl (fun K hK=> ?_) AllReadyH.nil)
       go_simp
       refine hK.out _ _ ?hS (fun hHeld=> ?hr)
       case hS=>
        (try dsimp only)
        (first| (with_reducible exact⟨cZ,dh⟩) | (refine⟨?_, ?_⟩ <;> (repeat (first|with_reducible assumption|with_reducible refine iq ?_ (by omega) |with_reducible refine gy ?_ (by omega) |with_reducible refine gV ?_));done))
       case hr=>
        clear hK K;try simp only [List.getElem_toArray,List.getElem_cons_succ,List.getElem_cons_zero,Act.put,List.setIfInBounds_toArray,List.set_cons_zero,List.set_cons_succ]
        refine wpAnyH_ready (rs:= [13]) (by kernel_rfl) (by simp) ?_;refine(AllReadyH.cons rfl (fun K hK=> ?_) AllReadyH.nil)
        (refine jq Tryz.stInt rfl (.tmp 47) (.tmp 51) rfl (v:=s.val) (y:= .slice (some ⟨wq.heap.size,0,none⟩) 1 1) (l:=l) (m:= [y]) (by simp [Act.eval,SV.val]) (by simp [Act.eval]) (aX.av hin _) (aX.lit FI [y] #[.int .i64 y] rfl (by simp [maxLen]) wq 3).rd' (by simp;omega) ?_;intro v5 w5 qg hg5 pz;obtain⟨A5,c5,hv5,_⟩ :=id qg.rd';simp only [XU,List.length_cons,List.length_nil] at hv5;subst hv5;have hx5:=bn.iD hg5;have Jh:= (hx5.frozen gG kk (by simp;omega) hne).trans ((jm wq _ gG kk zG).trans pf);have Ji:= (hx5.cell gG kk (by simp;omega) hne).trans ((lu wq _ gG kk zG).trans p0);replace cK:= (cK.alloc (.cells #[.int .i64 y] 3)).aM hx5 PZ;replace aj:= (aj.alloc (.cells #[.int .i64 y] 3)).aM hx5 hnr;replace cZ:=cK.cell 0 _ rfl;replace dh:=cK.cell 1 _ rfl;replace ak:=aj.cell 0 _ rfl;replace au:=aj.cell 1 _ rfl;replace fu:=cK.dN;replace f_:=cK.lt;replace aH:=aj.dN;replace aR:=aj.lt;have RD : gG<w5.heap.size:=XO zG (XR (by simp) hx5.size))
        refine hK.out _ _ ?hS (fun hHeld=> ?hr)
        case hS=>
         (try dsimp only)
         (first| (with_reducible exact⟨cZ,dh⟩))
        case hr=>
         clear hK K;try simp only [List.getElem_toArray,List.getElem_cons_succ,List.getElem_cons_zero,Act.put,List.setIfInBounds_toArray,List.set_cons_zero,List.set_cons_succ]
         refine wpAnyH_take (i:=14) (v:= ?_) rfl (by kernel_rfl) (by kernel_rfl) (by kernel_rfl) (fun _ _ _ h=>h) (Or.inl ⟨by kernel_rfl, ?_⟩) (by assumption) ?_
         rotate_left
         ·(intro wz hSw; (try dsimp only at hSw);go_simp; (try with_reducible rfl))
         try simp only [List.getElem_toArray,List.getElem_cons_succ,List.getElem_cons_zero,Act.put,List.setIfInBounds_toArray,List.set_cons_zero,List.set_cons_succ]
         refine wpAnyH_take (i:=15) (v:= ?_) rfl (by kernel_rfl) (by kernel_rfl) (by kernel_rfl) (fun _ _ _ h=>h) (Or.inl ⟨by kernel_rfl, ?_⟩) (by assumption) ?_
         rotate_left
         ·(intro wz hSw; (try dsimp only at hSw);go_simp; (try with_reducible rfl))
         try simp only [List.getElem_toArray,List.getElem_cons_succ,List.getElem_cons_zero,Act.put,List.setIfInBounds_toArray,List.set_cons_zero,List.set_cons_succ]
         refine wpAnyH_ready (rs:= [16]) (by kernel_rfl) (by simp) ?_;refine(AllReadyH.cons rfl (fun K hK=> ?_) AllReadyH.nil)
         go_simp
         refine hK.out _ _ ?hS (fun hHeld=> ?hr)
         case hS=>
          (try dsimp only)
          (first| (with_reducible exact⟨cZ,dh⟩) | (refine⟨?_, ?_⟩ <;> (repeat (first|with_reducible assumption|with_reducible refine iq ?_ (by omega) |with_reducible refine gy ?_ (by omega) |with_reducible refine gV ?_));done))
         case hr=>
          clear hK K;try simp only [List.getElem_toArray,List.getElem_cons_succ,List.getElem_cons_zero,Act.put,List.setIfInBounds_toArray,List.set_cons_zero,List.set_cons_succ]
          refine wpAnyH_done (by kernel_rfl) ?_ _;have hN:=dF.oU (s':= ⟨A5,l.length+ (0+1),c5⟩) (dA.G.av (.cells #[.int .i64 y] 3)) HV.out qg hg5 pz;simp only [SV.val] at hN;have f5 : ∀b∈bT (.slice (some ⟨gG,0,none⟩) x.G.length pG) (tG.set kk ⟨A5,l.length+ (0+1),c5⟩),b∈bT (.slice (some ⟨gG,0,none⟩) x.G.length pG) tG∨b=wq.heap.size+1:=fun b hb=>by
           rcases jF hb with h1|h1
           ·exact .inl h1
           ·have h3 : (Value.slice A5 (l.length+ (0+1)) c5).ownBlock=some b:=aS.1 h1;rcases pz with h2|h2; (rw [h2] at h3;exact .inl (hsf b (aS.2 h3))); (rw [h2] at h3;injection h3 with h3;simp at h3;exact .inr h3.symm)
          have BJ : dF FI 3 94 (w5.setCell ⟨gG,kk,none⟩ (.slice A5 (l.length+ (0+1)) c5)) (.slice (some ⟨gO,0,none⟩) x.O.length pO) tO x.O:= ((dA.O.av (.cells #[.int .i64 y] 3)).aM hx5 (fun b hb hm=>vV b (hsf b hm) hb)).aM (F:= [gG]) dx (fun b hb hm=>by simp only [Pe,Pd,XK] at hm;subst hm;exact vV _ mG hb);have oW : eZ (w5.setCell ⟨gG,kk,none⟩ (.slice A5 (l.length+ (0+1)) c5)) ⟨⟨some ⟨gG,0,none⟩,x.G.length,pG⟩,tG.set kk ⟨A5,l.length+ (0+1),c5⟩, ⟨some ⟨gO,0,none⟩,x.O.length,pO⟩,tO⟩ {x with G:=x.G.set kk (l++ [y])}:= ⟨hN,BJ,fun b hb hm=>by rcases f5 b hb with e|e; (exact vV b e hm); (have:=iB b (lJ hm);omega)⟩;have gW : ∀b∈bF.foot ⟨⟨some ⟨gG,0,none⟩,x.G.length,pG⟩,tG.set kk ⟨A5,l.length+ (0+1),c5⟩, ⟨some ⟨gO,0,none⟩,x.O.length,pO⟩,tO⟩,w.heap.size<b∧b≠w1.heap.size:=fun b hb=>by rcases bF.aI.1 hb with h1|h1; (rcases f5 b h1 with e|e; (have:=jo b (ko e);have:=iB b (ko e);omega);omega); (have:=jo b (lJ h1);have:=iB b (lJ h1);omega)
          have xE : Below w.heap.size wq w5:= ((Below.refl _ _).alloc hC.size _).grown hg5 (by simp;omega) (fun b hb=>by have:=jo b (ko (hsf b (aS.2 hb)));omega);replace hc:=hc.jg (B:=w.heap.size) hgl xE hC.size;replace hC:=hC.then_ xE;have DJ:=mq x.G kk (l++ [y]);simp only [XU,List.length_cons,List.length_nil] at DJ;clear hN BJ qg hg5 pz hx5;go_wp2_with fail;refine bodyPost_ret (v:= .agg #[.slice (some ⟨gG,0,none⟩) x.G.length pG, .slice (some ⟨gO,0,none⟩) x.O.length pO]) (by simp [results,Tryz.results139,go_sem,ak,au]) rfl ⟨⟨⟨some ⟨gG,0,none⟩,x.G.length,pG⟩,tG.set kk ⟨A5,l.length+ (0+1),c5⟩, ⟨some ⟨gO,0,none⟩,x.O.length,pO⟩,tO⟩, {x with G:=x.G.set kk (l++ [y])},rfl,oW.aM (F:= [w.heap.size]) dx (fun b hb hm=>by simp only [Pe,Pd,XK] at hm;have:=gW b hb;omega),by unfold bX at hsz⊢;simp only;omega,fun b hb=>by have:=gW b hb;omega,hc.jg (B:=w.heap.size) hgl dU hC.size,hC.then_ dU⟩
   ·go_simp
    refine hK.out _ _ ?hS (fun hHeld=> ?hr)
    case hS=>
     (try dsimp only)
     (first| (with_reducible exact⟨cZ,dh⟩) | (refine⟨?_, ?_⟩ <;> (repeat (first|with_reducible assumption|with_reducible refine iq ?_ (by omega) |with_reducible refine gy ?_ (by omega) |with_reducible refine gV ?_));done))
    case hr=>
     clear hK K;try simp only [List.getElem_toArray,List.getElem_cons_succ,List.getElem_cons_zero,Act.put,List.setIfInBounds_toArray,List.set_cons_zero,List.set_cons_succ]
     refine wpAnyH_ready (rs:= [8,11]) (by kernel_rfl) (by simp) ?_;refine(AllReadyH.cons rfl (fun K hK=> ?_) (AllReadyH.cons rfl (fun K hK=> ?_) AllReadyH.nil))
     ·go_simp
      refine hK.out _ _ ?hS (fun hHeld=> ?hr)
      case hS=>
       (try dsimp only)
       (first| (with_reducible exact⟨cZ,dh⟩) | (refine⟨?_, ?_⟩ <;> (repeat (first|with_reducible assumption|with_reducible refine iq ?_ (by omega) |with_reducible refine gy ?_ (by omega) |with_reducible refine gV ?_));done))
      case hr=>
       clear hK K;try simp only [List.getElem_toArray,List.getElem_cons_succ,List.getElem_cons_zero,Act.put,List.setIfInBounds_toArray,List.set_cons_zero,List.set_cons_succ]
       refine wpAnyH_ready (rs:= [11]) (by kernel_rfl) (by simp) ?_;refine(AllReadyH.cons rfl (fun K hK=> ?_) AllReadyH.nil)
       go_simp
       (go_at_call 64; (first| ((with_reducible refine(qA _ g _ code [-1,24,5,6] _ 4 (show aJ _ _ [.int .i64 (-1), .int .i64 24, .int .i64 5, .int .i64 6] from (aJ.new _ #[.int .i64 (-1), .int .i64 24, .int .i64 5, .int .i64 6] 3).drew) (by simp) (by simp) (by simp;omega) (by decide) (by decide) ((hc.alloc _).aY)).mono ?_);rintro e wq ⟨y,rfl,hy,hcn,hx⟩;replace cK:= (cK.alloc _).drew.aM hx (by simp only [Pe,Pd,XK];omega);replace aj:= (aj.alloc _).drew.aM hx (by simp only [Pe,Pd,XK];omega);replace dA:= ((dA.av _).aY).aM hx (fun b hb hm=>by simp only [Pe,Pd,XK] at hm;have:=jo b hb;have:=iB b hb;omega);replace hC:=bn.trans (hC.av _).aY hx;replace hc:=hcn;have sz:=hx.size; (try simp only [World.size_alloc,wF] at sz);replace sC:=hC.size;clear hx;replace cZ:=cK.cell 0 _ rfl;replace dh:=cK.cell 1 _ rfl;replace ak:=aj.cell 0 _ rfl;replace au:=aj.cell 1 _ rfl;replace fu:=cK.dN;replace f_:=cK.lt;replace aH:=aj.dN;replace aR:=aj.lt;replace hin:=dA.G.inner kk s l HV.out PY.out;replace p0:=aX.cellS dA.G.outer HV.out;replace pf:=aX.dM dA.G.outer kk;replace zG : gG<wq.heap.size:= (by omega);clear hy)))
       (try go_wp2_with fail)
       refine hK.out _ _ ?hS (fun hHeld=> ?hr)
       case hS=>
        (try dsimp only)
        (first| (with_reducible exact⟨cZ,dh⟩))
       case hr=>
        clear hK K;try simp only [List.getElem_toArray,List.getElem_cons_succ,List.getElem_cons_zero,Act.put,List.setIfInBounds_toArray,List.set_cons_zero,List.set_cons_succ]
        refine wpAnyH_ready (rs:= [12]) (by kernel_rfl) (by simp) ?_;refine(AllReadyH.cons rfl (fun K hK=> ?_) AllReadyH.nil)
        go_simp
        refine hK.out _ _ ?hS (fun hHeld=> ?hr)
        case hS=>
         (try dsimp only)
         (first| (with_reducible exact⟨cZ,dh⟩) | (refine⟨?_, ?_⟩ <;> (repeat (first|with_reducible assumption|with_reducible refine iq ?_ (by omega) |with_reducible refine gy ?_ (by omega) |with_reducible refine gV ?_));done))
        case hr=>
         clear hK K;try simp only [List.getElem_toArray,List.getElem_cons_succ,List.getElem_cons_zero,Act.put,List.setIfInBounds_toArray,List.set_cons_zero,List.set_cons_succ]
         refine wpAnyH_ready (rs:= [13]) (by kernel_rfl) (by simp) ?_;refine(AllReadyH.cons rfl (fun K hK=> ?_) AllReadyH.nil)
         (refine jq Tryz.stInt rfl (.tmp 47) (.tmp 51) rfl (v:=s.val) (y:= .slice (some ⟨wq.heap.size,0,none⟩) 1 1) (l:=l) (m:= [y]) (by simp [Act.eval,SV.val]) (by simp [Act.eval]) (aX.av hin _) (aX.lit FI [y] #[.int .i64 y] rfl (by simp [maxLen]) wq 3).rd' (by simp;omega) ?_;intro v5 w5 qg hg5 pz;obtain⟨A5,c5,hv5,_⟩ :=id qg.rd';simp only [XU,List.length_cons,List.length_nil] at hv5;subst hv5;have hx5:=bn.iD hg5;have Jh:= (hx5.frozen gG kk (by simp;omega) hne).trans ((jm wq _ gG kk zG).trans pf);have Ji:= (hx5.cell gG kk (by simp;omega) hne).trans ((lu wq _ gG kk zG).trans p0);replace cK:= (cK.alloc (.cells #[.int .i64 y] 3)).aM hx5 PZ;replace aj:= (aj.alloc (.cells #[.int .i64 y] 3)).aM hx5 hnr;replace cZ:=cK.cell 0 _ rfl;replace dh:=cK.cell 1 _ rfl;replace ak:=aj.cell 0 _ rfl;replace au:=aj.cell 1 _ rfl;replace fu:=cK.dN;replace f_:=cK.lt;replace aH:=aj.dN;replace aR:=aj.lt;have RD : gG<w5.heap.size:=XO zG (XR (by simp) hx5.size))
         refine hK.out _ _ ?hS (fun hHeld=> ?hr)
         case hS=>
          (try dsimp only)
          (first| (with_reducible exact⟨cZ,dh⟩))
         case hr=>
          clear hK K;try simp only [List.getElem_toArray,List.getElem_cons_succ,List.getElem_cons_zero,Act.put,List.setIfInBounds_toArray,List.set_cons_zero,List.set_cons_succ]
          refine wpAnyH_take (i:=14) (v:= ?_) rfl (by kernel_rfl) (by kernel_rfl) (by kernel_rfl) (fun _ _ _ h=>h) (Or.inl ⟨by kernel_rfl, ?_⟩) (by assumption) ?_
          rotate_left
          ·(intro wz hSw; (try dsimp only at hSw);go_simp; (try with_reducible rfl))
          try simp only [List.getElem_toArray,List.getElem_cons_succ,List.getElem_cons_zero,Act.put,List.setIfInBounds_toArray,List.set_cons_zero,List.set_cons_succ]
          refine wpAnyH_take (i:=15) (v:= ?_) rfl (by kernel_rfl) (by kernel_rfl) (by kernel_rfl) (fun _ _ _ h=>h) (Or.inl ⟨by kernel_rfl, ?_⟩) (by assumption) ?_
          rotate_left
          ·(intro wz hSw; (try dsimp only at hSw);go_simp; (try with_reducible rfl))
          try simp only [List.getElem_toArray,List.getElem_cons_succ,List.getElem_cons_zero,Act.put,List.setIfInBounds_toArray,List.set_cons_zero,List.set_cons_succ]
          refine wpAnyH_ready (rs:= [16]) (by kernel_rfl) (by simp) ?_;refine(AllReadyH.cons rfl (fun K hK=> ?_) AllReadyH.nil)
          go_simp
          refine hK.out _ _ ?hS (fun hHeld=> ?hr)
          case hS=>
           (try dsimp only)
           (first| (with_reducible exact⟨cZ,dh⟩) | (refine⟨?_, ?_⟩ <;> (repeat (first|with_reducible assumption|with_reducible refine iq ?_ (by omega) |with_reducible refine gy ?_ (by omega) |with_reducible refine gV ?_));done))
          case hr=>
           clear hK K;try simp only [List.getElem_toArray,List.getElem_cons_succ,List.getElem_cons_zero,Act.put,List.setIfInBounds_toArray,List.set_cons_zero,List.set_cons_succ]
           refine wpAnyH_done (by kernel_rfl) ?_ _;have hN:=dF.oU (s':= ⟨A5,l.length+ (0+1),c5⟩) (dA.G.av (.cells #[.int .i64 y] 3)) HV.out qg hg5 pz;simp only [SV.val] at hN;have f5 : ∀b∈bT (.slice (some ⟨gG,0,none⟩) x.G.length pG) (tG.set kk ⟨A5,l.length+ (0+1),c5⟩),b∈bT (.slice (some ⟨gG,0,none⟩) x.G.length pG) tG∨b=wq.heap.size+1:=fun b hb=>by
            rcases jF hb with h1|h1
            ·exact .inl h1
            ·have h3 : (Value.slice A5 (l.length+ (0+1)) c5).ownBlock=some b:=aS.1 h1;rcases pz with h2|h2; (rw [h2] at h3;exact .inl (hsf b (aS.2 h3))); (rw [h2] at h3;injection h3 with h3;simp at h3;exact .inr h3.symm)
           have BJ : dF FI 3 94 (w5.setCell ⟨gG,kk,none⟩ (.slice A5 (l.length+ (0+1)) c5)) (.slice (some ⟨gO,0,none⟩) x.O.length pO) tO x.O:= ((dA.O.av (.cells #[.int .i64 y] 3)).aM hx5 (fun b hb hm=>vV b (hsf b hm) hb)).aM (F:= [gG]) dx (fun b hb hm=>by simp only [Pe,Pd,XK] at hm;subst hm;exact vV _ mG hb);have oW : eZ (w5.setCell ⟨gG,kk,none⟩ (.slice A5 (l.length+ (0+1)) c5)) ⟨⟨some ⟨gG,0,none⟩,x.G.length,pG⟩,tG.set kk ⟨A5,l.length+ (0+1),c5⟩, ⟨some ⟨gO,0,none⟩,x.O.length,pO⟩,tO⟩ {x with G:=x.G.set kk (l++ [y])}:= ⟨hN,BJ,fun b hb hm=>by rcases f5 b hb with e|e; (exact vV b e hm); (have:=iB b (lJ hm);omega)⟩;have gW : ∀b∈bF.foot ⟨⟨some ⟨gG,0,none⟩,x.G.length,pG⟩,tG.set kk ⟨A5,l.length+ (0+1),c5⟩, ⟨some ⟨gO,0,none⟩,x.O.length,pO⟩,tO⟩,w.heap.size<b∧b≠w1.heap.size:=fun b hb=>by rcases bF.aI.1 hb with h1|h1; (rcases f5 b h1 with e|e; (have:=jo b (ko e);have:=iB b (ko e);omega);omega); (have:=jo b (lJ h1);have:=iB b (lJ h1);omega)
           have xE : Below w.heap.size wq w5:= ((Below.refl _ _).alloc hC.size _).grown hg5 (by simp;omega) (fun b hb=>by have:=jo b (ko (hsf b (aS.2 hb)));omega);replace hc:=hc.jg (B:=w.heap.size) hgl xE hC.size;replace hC:=hC.then_ xE;have DJ:=mq x.G kk (l++ [y]);simp only [XU,List.length_cons,List.length_nil] at DJ;clear hN BJ qg hg5 pz hx5;go_wp2_with fail;refine bodyPost_ret (v:= .agg #[.slice (some ⟨gG,0,none⟩) x.G.length pG, .slice (some ⟨gO,0,none⟩) x.O.length pO]) (by simp [results,Tryz.results139,go_sem,ak,au]) rfl ⟨⟨⟨some ⟨gG,0,none⟩,x.G.length,pG⟩,tG.set kk ⟨A5,l.length+ (0+1),c5⟩, ⟨some ⟨gO,0,none⟩,x.O.length,pO⟩,tO⟩, {x with G:=x.G.set kk (l++ [y])},rfl,oW.aM (F:= [w.heap.size]) dx (fun b hb hm=>by simp only [Pe,Pd,XK] at hm;have:=gW b hb;omega),by unfold bX at hsz⊢;simp only;omega,fun b hb=>by have:=gW b hb;omega,hc.jg (B:=w.heap.size) hgl dU hC.size,hC.then_ dU⟩
     ·go_simp
      (go_at_call 64; (first| ((with_reducible refine(qA _ g _ code [-1,24,5,6] _ 4 (show aJ _ _ [.int .i64 (-1), .int .i64 24, .int .i64 5, .int .i64 6] from (aJ.new _ #[.int .i64 (-1), .int .i64 24, .int .i64 5, .int .i64 6] 3).drew) (by simp) (by simp) (by simp;omega) (by decide) (by decide) ((hc.alloc _).aY)).mono ?_);rintro e wq ⟨y,rfl,hy,hcn,hx⟩;replace cK:= (cK.alloc _).drew.aM hx (by simp only [Pe,Pd,XK];omega);replace aj:= (aj.alloc _).drew.aM hx (by simp only [Pe,Pd,XK];omega);replace dA:= ((dA.av _).aY).aM hx (fun b hb hm=>by simp only [Pe,Pd,XK] at hm;have:=jo b hb;have:=iB b hb;omega);replace hC:=bn.trans (hC.av _).aY hx;replace hc:=hcn;have sz:=hx.size; (try simp only [World.size_alloc,wF] at sz);replace sC:=hC.size;clear hx;replace cZ:=cK.cell 0 _ rfl;replace dh:=cK.cell 1 _ rfl;replace ak:=aj.cell 0 _ rfl;replace au:=aj.cell 1 _ rfl;replace fu:=cK.dN;replace f_:=cK.lt;replace aH:=aj.dN;replace aR:=aj.lt;replace hin:=dA.G.inner kk s l HV.out PY.out;replace p0:=aX.cellS dA.G.outer HV.out;replace pf:=aX.dM dA.G.outer kk;replace zG : gG<wq.heap.size:= (by omega);clear hy)))
      (try go_wp2_with fail)
      refine hK.out _ _ ?hS (fun hHeld=> ?hr)
      case hS=>
       (try dsimp only)
       (first| (with_reducible exact⟨cZ,dh⟩))
      case hr=>
       clear hK K;try simp only [List.getElem_toArray,List.getElem_cons_succ,List.getElem_cons_zero,Act.put,List.setIfInBounds_toArray,List.set_cons_zero,List.set_cons_succ]
       refine wpAnyH_ready (rs:= [8,12]) (by kernel_rfl) (by simp) ?_;refine(AllReadyH.cons rfl (fun K hK=> ?_) (AllReadyH.cons rfl (fun K hK=> ?_) AllReadyH.nil))
       ·go_simp
        refine hK.out _ _ ?hS (fun hHeld=> ?hr)
        case hS=>
         (try dsimp only)
         (first| (with_reducible exact⟨cZ,dh⟩))
        case hr=>
         clear hK K;try simp only [List.getElem_toArray,List.getElem_cons_succ,List.getElem_cons_zero,Act.put,List.setIfInBounds_toArray,List.set_cons_zero,List.set_cons_succ]
         refine wpAnyH_ready (rs:= [12]) (by kernel_rfl) (by simp) ?_;refine(AllReadyH.cons rfl (fun K hK=> ?_) AllReadyH.nil)
         go_simp
         refine hK.out _ _ ?hS (fun hHeld=> ?hr)
         case hS=>
          (try dsimp only)
          (first| (with_reducible exact⟨cZ,dh⟩) | (refine⟨?_, ?_⟩ <;> (repeat (first|with_reducible assumption|with_reducible refine iq ?_ (by omega) |with_reducible refine gy ?_ (by omega) |with_reducible refine gV ?_));done))
         case hr=>
          clear hK K;try simp only [List.getElem_toArray,List.getElem_cons_succ,List.getElem_cons_zero,Act.put,List.setIfInBounds_toArray,List.set_cons_zero,List.set_cons_succ]
          refine wpAnyH_ready (rs:= [13]) (by kernel_rfl) (by simp) ?_;refine(AllReadyH.cons rfl (fun K hK=> ?_) AllReadyH.nil)
          (refine jq Tryz.stInt rfl (.tmp 47) (.tmp 51) rfl (v:=s.val) (y:= .slice (some ⟨wq.heap.size,0,none⟩) 1 1) (l:=l) (m:= [y]) (by simp [Act.eval,SV.val]) (by simp [Act.eval]) (aX.av hin _) (aX.lit FI [y] #[.int .i64 y] rfl (by simp [maxLen]) wq 3).rd' (by simp;omega) ?_;intro v5 w5 qg hg5 pz;obtain⟨A5,c5,hv5,_⟩ :=id qg.rd';simp only [XU,List.length_cons,List.length_nil] at hv5;subst hv5;have hx5:=bn.iD hg5;have Jh:= (hx5.frozen gG kk (by simp;omega) hne).trans ((jm wq _ gG kk zG).trans pf);have Ji:= (hx5.cell gG kk (by simp;omega) hne).trans ((lu wq _ gG kk zG).trans p0);replace cK:= (cK.alloc (.cells #[.int .i64 y] 3)).aM hx5 PZ;replace aj:= (aj.alloc (.cells #[.int .i64 y] 3)).aM hx5 hnr;replace cZ:=cK.cell 0 _ rfl;replace dh:=cK.cell 1 _ rfl;replace ak:=aj.cell 0 _ rfl;replace au:=aj.cell 1 _ rfl;replace fu:=cK.dN;replace f_:=cK.lt;replace aH:=aj.dN;replace aR:=aj.lt;have RD : gG<w5.heap.size:=XO zG (XR (by simp) hx5.size))
          refine hK.out _ _ ?hS (fun hHeld=> ?hr)
          case hS=>
           (try dsimp only)
           (first| (with_reducible exact⟨cZ,dh⟩))
          case hr=>
           clear hK K;try simp only [List.getElem_toArray,List.getElem_cons_succ,List.getElem_cons_zero,Act.put,List.setIfInBounds_toArray,List.set_cons_zero,List.set_cons_succ]
           refine wpAnyH_take (i:=14) (v:= ?_) rfl (by kernel_rfl) (by kernel_rfl) (by kernel_rfl) (fun _ _ _ h=>h) (Or.inl ⟨by kernel_rfl, ?_⟩) (by assumption) ?_
           rotate_left
           ·(intro wz hSw; (try dsimp only at hSw);go_simp; (try with_reducible rfl))
           try simp only [List.getElem_toArray,List.getElem_cons_succ,List.getElem_cons_zero,Act.put,List.setIfInBounds_toArray,List.set_cons_zero,List.set_cons_succ]
           refine wpAnyH_take (i:=15) (v:= ?_) rfl (by kernel_rfl) (by kernel_rfl) (by kernel_rfl) (fun _ _ _ h=>h) (Or.inl ⟨by kernel_rfl, ?_⟩) (by assumption) ?_
           rotate_left
           ·(intro wz hSw; (try dsimp only at hSw);go_simp; (try with_reducible rfl))
           try simp only [List.getElem_toArray,List.getElem_cons_succ,List.getElem_cons_zero,Act.put,List.setIfInBounds_toArray,List.set_cons_zero,List.set_cons_succ]
           refine wpAnyH_ready (rs:= [16]) (by kernel_rfl) (by simp) ?_;refine(AllReadyH.cons rfl (fun K hK=> ?_) AllReadyH.nil)
           go_simp
           refine hK.out _ _ ?hS (fun hHeld=> ?hr)
           case hS=>
            (try dsimp only)
            (first| (with_reducible exact⟨cZ,dh⟩) | (refine⟨?_, ?_⟩ <;> (repeat (first|with_reducible assumption|with_reducible refine iq ?_ (by omega) |with_reducible refine gy ?_ (by omega) |with_reducible refine gV ?_));done))
           case hr=>
            clear hK K;try simp only [List.getElem_toArray,List.getElem_cons_succ,List.getElem_cons_zero,Act.put,List.setIfInBounds_toArray,List.set_cons_zero,List.set_cons_succ]
            refine wpAnyH_done (by kernel_rfl) ?_ _;have hN:=dF.oU (s':= ⟨A5,l.length+ (0+1),c5⟩) (dA.G.av (.cells #[.int .i64 y] 3)) HV.out qg hg5 pz;simp only [SV.val] at hN;have f5 : ∀b∈bT (.slice (some ⟨gG,0,none⟩) x.G.length pG) (tG.set kk ⟨A5,l.length+ (0+1),c5⟩),b∈bT (.slice (some ⟨gG,0,none⟩) x.G.length pG) tG∨b=wq.heap.size+1:=fun b hb=>by
             rcases jF hb with h1|h1
             ·exact .inl h1
             ·have h3 : (Value.slice A5 (l.length+ (0+1)) c5).ownBlock=some b:=aS.1 h1;rcases pz with h2|h2; (rw [h2] at h3;exact .inl (hsf b (aS.2 h3))); (rw [h2] at h3;injection h3 with h3;simp at h3;exact .inr h3.symm)
            have BJ : dF FI 3 94 (w5.setCell ⟨gG,kk,none⟩ (.slice A5 (l.length+ (0+1)) c5)) (.slice (some ⟨gO,0,none⟩) x.O.length pO) tO x.O:= ((dA.O.av (.cells #[.int .i64 y] 3)).aM hx5 (fun b hb hm=>vV b (hsf b hm) hb)).aM (F:= [gG]) dx (fun b hb hm=>by simp only [Pe,Pd,XK] at hm;subst hm;exact vV _ mG hb);have oW : eZ (w5.setCell ⟨gG,kk,none⟩ (.slice A5 (l.length+ (0+1)) c5)) ⟨⟨some ⟨gG,0,none⟩,x.G.length,pG⟩,tG.set kk ⟨A5,l.length+ (0+1),c5⟩, ⟨some ⟨gO,0,none⟩,x.O.length,pO⟩,tO⟩ {x with G:=x.G.set kk (l++ [y])}:= ⟨hN,BJ,fun b hb hm=>by rcases f5 b hb with e|e; (exact vV b e hm); (have:=iB b (lJ hm);omega)⟩;have gW : ∀b∈bF.foot ⟨⟨some ⟨gG,0,none⟩,x.G.length,pG⟩,tG.set kk ⟨A5,l.length+ (0+1),c5⟩, ⟨some ⟨gO,0,none⟩,x.O.length,pO⟩,tO⟩,w.heap.size<b∧b≠w1.heap.size:=fun b hb=>by rcases bF.aI.1 hb with h1|h1; (rcases f5 b h1 with e|e; (have:=jo b (ko e);have:=iB b (ko e);omega);omega); (have:=jo b (lJ h1);have:=iB b (lJ h1);omega)
            have xE : Below w.heap.size wq w5:= ((Below.refl _ _).alloc hC.size _).grown hg5 (by simp;omega) (fun b hb=>by have:=jo b (ko (hsf b (aS.2 hb)));omega);replace hc:=hc.jg (B:=w.heap.size) hgl xE hC.size;replace hC:=hC.then_ xE;have DJ:=mq x.G kk (l++ [y]);simp only [XU,List.length_cons,List.length_nil] at DJ;clear hN BJ qg hg5 pz hx5;go_wp2_with fail;refine bodyPost_ret (v:= .agg #[.slice (some ⟨gG,0,none⟩) x.G.length pG, .slice (some ⟨gO,0,none⟩) x.O.length pO]) (by simp [results,Tryz.results139,go_sem,ak,au]) rfl ⟨⟨⟨some ⟨gG,0,none⟩,x.G.length,pG⟩,tG.set kk ⟨A5,l.length+ (0+1),c5⟩, ⟨some ⟨gO,0,none⟩,x.O.length,pO⟩,tO⟩, {x with G:=x.G.set kk (l++ [y])},rfl,oW.aM (F:= [w.heap.size]) dx (fun b hb hm=>by simp only [Pe,Pd,XK] at hm;have:=gW b hb;omega),by unfold bX at hsz⊢;simp only;omega,fun b hb=>by have:=gW b hb;omega,hc.jg (B:=w.heap.size) hgl dU hC.size,hC.then_ dU⟩
       ·go_simp
        refine hK.out _ _ ?hS (fun hHeld=> ?hr)
        case hS=>
         (try dsimp only)
         (first| (with_reducible exact⟨cZ,dh⟩) | (refine⟨?_, ?_⟩ <;> (repeat (first|with_reducible assumption|with_reducible refine iq ?_ (by omega) |with_reducible refine gy ?_ (by omega) |with_reducible refine gV ?_));done))
        case hr=>
         clear hK K;try simp only [List.getElem_toArray,List.getElem_cons_succ,List.getElem_cons_zero,Act.put,List.setIfInBounds_toArray,List.set_cons_zero,List.set_cons_succ]
         refine wpAnyH_ready (rs:= [8]) (by kernel_rfl) (by simp) ?_;refine(AllReadyH.cons rfl (fun K hK=> ?_) AllReadyH.nil)
         go_simp
         refine hK.out _ _ ?hS (fun hHeld=> ?hr)
         case hS=>
          (try dsimp only)
          (first| (with_reducible exact⟨cZ,dh⟩) | (refine⟨?_, ?_⟩ <;> (repeat (first|with_reducible assumption|with_reducible refine iq ?_ (by omega) |with_reducible refine gy ?_ (by omega) |with_reducible refine gV ?_));done))
         case hr=>
          clear hK K;try simp only [List.getElem_toArray,List.getElem_cons_succ,List.getElem_cons_zero,Act.put,List.setIfInBounds_toArray,List.set_cons_zero,List.set_cons_succ]
          refine wpAnyH_ready (rs:= [13]) (by kernel_rfl) (by simp) ?_;refine(AllReadyH.cons rfl (fun K hK=> ?_) AllReadyH.nil)
          (refine jq Tryz.stInt rfl (.tmp 47) (.tmp 51) rfl (v:=s.val) (y:= .slice (some ⟨wq.heap.size,0,none⟩) 1 1) (l:=l) (m:= [y]) (by simp [Act.eval,SV.val]) (by simp [Act.eval]) (aX.av hin _) (aX.lit FI [y] #[.int .i64 y] rfl (by simp [maxLen]) wq 3).rd' (by simp;omega) ?_;intro v5 w5 qg hg5 pz;obtain⟨A5,c5,hv5,_⟩ :=id qg.rd';simp only [XU,List.length_cons,List.length_nil] at hv5;subst hv5;have hx5:=bn.iD hg5;have Jh:= (hx5.frozen gG kk (by simp;omega) hne).trans ((jm wq _ gG kk zG).trans pf);have Ji:= (hx5.cell gG kk (by simp;omega) hne).trans ((lu wq _ gG kk zG).trans p0);replace cK:= (cK.alloc (.cells #[.int .i64 y] 3)).aM hx5 PZ;replace aj:= (aj.alloc (.cells #[.int .i64 y] 3)).aM hx5 hnr;replace cZ:=cK.cell 0 _ rfl;replace dh:=cK.cell 1 _ rfl;replace ak:=aj.cell 0 _ rfl;replace au:=aj.cell 1 _ rfl;replace fu:=cK.dN;replace f_:=cK.lt;replace aH:=aj.dN;replace aR:=aj.lt;have RD : gG<w5.heap.size:=XO zG (XR (by simp) hx5.size))
          refine hK.out _ _ ?hS (fun hHeld=> ?hr)
          case hS=>
           (try dsimp only)
           (first| (with_reducible exact⟨cZ,dh⟩))
          case hr=>
           clear hK K;try simp only [List.getElem_toArray,List.getElem_cons_succ,List.getElem_cons_zero,Act.put,List.setIfInBounds_toArray,List.set_cons_zero,List.set_cons_succ]
           refine wpAnyH_take (i:=14) (v:= ?_) rfl (by kernel_rfl) (by kernel_rfl) (by kernel_rfl) (fun _ _ _ h=>h) (Or.inl ⟨by kernel_rfl, ?_⟩) (by assumption) ?_
           rotate_left
           ·(intro wz hSw; (try dsimp only at hSw);go_simp; (try with_reducible rfl))
           try simp only [List.getElem_toArray,List.getElem_cons_succ,List.getElem_cons_zero,Act.put,List.setIfInBounds_toArray,List.set_cons_zero,List.set_cons_succ]
           refine wpAnyH_take (i:=15) (v:= ?_) rfl (by kernel_rfl) (by kernel_rfl) (by kernel_rfl) (fun _ _ _ h=>h) (Or.inl ⟨by kernel_rfl, ?_⟩) (by assumption) ?_
           rotate_left
           ·(intro wz hSw; (try dsimp only at hSw);go_simp; (try with_reducible rfl))
           try simp only [List.getElem_toArray,List.getElem_cons_succ,List.getElem_cons_zero,Act.put,List.setIfInBounds_toArray,List.set_cons_zero,List.set_cons_succ]
           refine wpAnyH_ready (rs:= [16]) (by kernel_rfl) (by simp) ?_;refine(AllReadyH.cons rfl (fun K hK=> ?_) AllReadyH.nil)
           go_simp
           refine hK.out _ _ ?hS (fun hHeld=> ?hr)
           case hS=>
            (try dsimp only)
            (first| (with_reducible exact⟨cZ,dh⟩) | (refine⟨?_, ?_⟩ <;> (repeat (first|with_reducible assumption|with_reducible refine iq ?_ (by omega) |with_reducible refine gy ?_ (by omega) |with_reducible refine gV ?_));done))
           case hr=>
            clear hK K;try simp only [List.getElem_toArray,List.getElem_cons_succ,List.getElem_cons_zero,Act.put,List.setIfInBounds_toArray,List.set_cons_zero,List.set_cons_succ]
            refine wpAnyH_done (by kernel_rfl) ?_ _;have hN:=dF.oU (s':= ⟨A5,l.length+ (0+1),c5⟩) (dA.G.av (.cells #[.int .i64 y] 3)) HV.out qg hg5 pz;simp only [SV.val] at hN;have f5 : ∀b∈bT (.slice (some ⟨gG,0,none⟩) x.G.length pG) (tG.set kk ⟨A5,l.length+ (0+1),c5⟩),b∈bT (.slice (some ⟨gG,0,none⟩) x.G.length pG) tG∨b=wq.heap.size+1:=fun b hb=>by
             rcases jF hb with h1|h1
             ·exact .inl h1
             ·have h3 : (Value.slice A5 (l.length+ (0+1)) c5).ownBlock=some b:=aS.1 h1;rcases pz with h2|h2; (rw [h2] at h3;exact .inl (hsf b (aS.2 h3))); (rw [h2] at h3;injection h3 with h3;simp at h3;exact .inr h3.symm)
            have BJ : dF FI 3 94 (w5.setCell ⟨gG,kk,none⟩ (.slice A5 (l.length+ (0+1)) c5)) (.slice (some ⟨gO,0,none⟩) x.O.length pO) tO x.O:= ((dA.O.av (.cells #[.int .i64 y] 3)).aM hx5 (fun b hb hm=>vV b (hsf b hm) hb)).aM (F:= [gG]) dx (fun b hb hm=>by simp only [Pe,Pd,XK] at hm;subst hm;exact vV _ mG hb);have oW : eZ (w5.setCell ⟨gG,kk,none⟩ (.slice A5 (l.length+ (0+1)) c5)) ⟨⟨some ⟨gG,0,none⟩,x.G.length,pG⟩,tG.set kk ⟨A5,l.length+ (0+1),c5⟩, ⟨some ⟨gO,0,none⟩,x.O.length,pO⟩,tO⟩ {x with G:=x.G.set kk (l++ [y])}:= ⟨hN,BJ,fun b hb hm=>by rcases f5 b hb with e|e; (exact vV b e hm); (have:=iB b (lJ hm);omega)⟩;have gW : ∀b∈bF.foot ⟨⟨some ⟨gG,0,none⟩,x.G.length,pG⟩,tG.set kk ⟨A5,l.length+ (0+1),c5⟩, ⟨some ⟨gO,0,none⟩,x.O.length,pO⟩,tO⟩,w.heap.size<b∧b≠w1.heap.size:=fun b hb=>by rcases bF.aI.1 hb with h1|h1; (rcases f5 b h1 with e|e; (have:=jo b (ko e);have:=iB b (ko e);omega);omega); (have:=jo b (lJ h1);have:=iB b (lJ h1);omega)
            have xE : Below w.heap.size wq w5:= ((Below.refl _ _).alloc hC.size _).grown hg5 (by simp;omega) (fun b hb=>by have:=jo b (ko (hsf b (aS.2 hb)));omega);replace hc:=hc.jg (B:=w.heap.size) hgl xE hC.size;replace hC:=hC.then_ xE;have DJ:=mq x.G kk (l++ [y]);simp only [XU,List.length_cons,List.length_nil] at DJ;clear hN BJ qg hg5 pz hx5;go_wp2_with fail;refine bodyPost_ret (v:= .agg #[.slice (some ⟨gG,0,none⟩) x.G.length pG, .slice (some ⟨gO,0,none⟩) x.O.length pO]) (by simp [results,Tryz.results139,go_sem,ak,au]) rfl ⟨⟨⟨some ⟨gG,0,none⟩,x.G.length,pG⟩,tG.set kk ⟨A5,l.length+ (0+1),c5⟩, ⟨some ⟨gO,0,none⟩,x.O.length,pO⟩,tO⟩, {x with G:=x.G.set kk (l++ [y])},rfl,oW.aM (F:= [w.heap.size]) dx (fun b hb hm=>by simp only [Pe,Pd,XK] at hm;have:=gW b hb;omega),by unfold bX at hsz⊢;simp only;omega,fun b hb=>by have:=gW b hb;omega,hc.jg (B:=w.heap.size) hgl dU hC.size,hC.then_ dU⟩
 have e3' : (k == 3) =false:=by simpa using e3
 clear e0 e1 e2 e3;go_wp2_with fail;refine bodyPost_ret (v:= .agg #[.slice (some ⟨gG,0,none⟩) x.G.length pG, .slice (some ⟨gO,0,none⟩) x.O.length pO]) (by simp [results,Tryz.results139,go_sem,ak,au]) rfl ⟨⟨⟨some ⟨gG,0,none⟩,x.G.length,pG⟩,tG, ⟨some ⟨gO,0,none⟩,x.O.length,pO⟩,tO⟩,x,rfl,dA.aM (F:= [w.heap.size]) dx (fun b hb hm=>by simp only [Pe,Pd,XK] at hm;have:=jo b hb;have:=iB b hb;omega),by omega,fun b hb=>by have:=jo b hb;omega,hc.jg (B:=w.heap.size) hgl dU hC.size,hC.then_ dU⟩
end Go.Proofs.YtkmggglljkmjoaaGreat
namespace Go.Proofs.YtkmggglljkmjoaaGreat
open Go.RowKit
end Go.Proofs.YtkmggglljkmjoaaGreat
