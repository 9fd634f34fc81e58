/-
  Several texts in one: lemmas and contracts that the claim rests on.
-/
import Derived.Test.YtkmggglljkmjoaaGreatUTC1
import Derived.Deep.QuietTactic
import Derived.BigQuiet
import Derived.Deep.LoopGhost
import Derived.Deep.RegionHeld3
import Derived.Test.YtkmggglljkmjoaaGreatUTC2
import Derived.WalkSpells
import Derived.Laws.Cover3
import Derived.Test.YtkmggglljkmjoaaGreatUTC13
import Derived.Test.YtkmggglljkmjoaaGreatUTC20
import Derived.Test.YtkmggglljkmjoaaGreatUTC21
import Derived.Deep.CutRange
namespace Go.Proofs.YtkmggglljkmjoaaGreat
open Go.RowKit
open Go.Proofs.YtkmggglljkmjoaaGreat.Lim
structure qK (x : Heap) : Prop where
 bl : x.Y.length=384
 cl : x.Z.length=6
theorem qK.sz {x : Heap}(h : qK x) : iE x≤536870912:=by
 have:=h.bl
 have:=h.cl
 unfold iE
 omega
theorem qK.new : qK xL:= ⟨List.length_replicate,List.length_replicate⟩
theorem qK.of {x y : Heap}(h : qK x)(e : y.Y.length=x.Y.length∧y.Z.length=x.Z.length) : qK y:= ⟨e.1.trans h.bl,e.2.trans h.cl⟩
def MS (w : World)(g : Nat)(code : List Int)(e : Ending)(w' : World) : Prop:= ∃ (H : dU) (x : Heap),e= .returned (H.val x) ∧fA w' H x∧qK x∧ (∀b∈H.foot,w.heap.size≤b) ∧f_ w' g code∧aY [g] w w'
set_option maxRecDepth 100000 in
set_option maxHeartbeats 8000000 in
theorem Jr (w : World)(g : Nat)(code : List Int)(hc : f_ w g code) : Calls Tryz.prog 193 #[.pointer (some ⟨g,0,none⟩)] w (MS w g code) :=by
 have hgl:=hc.lt
 obtain⟨w0,hW0⟩ : ∃x,x= (w.alloc (.cells #[.slice none 0 0, .slice none 0 0] 26)) := ⟨_,rfl⟩
 have ah : aB w0 (w.heap.size) [.slice none 0 0, .slice none 0 0]:=by
  rw [hW0]
  exact aB.nw
 have hC : aY [g] w w0:=hW0 ▸ (aY.refl [g] w).aH _
 replace hc : f_ w0 g code:=hW0 ▸ (hc).alloc _
 go_enter Tryz.func193,Tryz.ntmps193
 go_wp2_with fail
 rw [←hW0]
 clear hW0
 have iB:=ah.lt
 have F3 : w.heap.size≤w.heap.size:=by omega
 have sC:=hC.size
 obtain⟨aj,ak,ay,aI⟩ :=ah.f2
 refine(zZ _).mono ?_
 rintro e w1 ⟨gX,rfl,bI,gT,hb⟩
 have fT:=bI.lt
 replace ah:=ah.below hb
 replace hC:=hC.trans (aY.of_below hb)
 replace hc:=hc.up hb
 have sz:=hb.size
 replace sC:=hC.size
 clear hb
 clear aj ak ay aI
 obtain⟨aj,ak,ay,aI⟩ :=ah.f2
 have HS:=qK.new
 generalize xL=x0 at *
 go_wp2_with fail
 generalize hO : Obj.cells #[.slice gX.Y.a gX.Y.l gX.Y.c, .slice gX.Z.a gX.Z.l gX.Z.c] 26=O_
 replace ah:=ah.alloc O_
 replace bI:=bI.aH O_
 replace hC:=hC.aH O_
 replace hc:=hc.alloc O_
 have bB : aB (w1.alloc O_) w1.heap.size [.slice gX.Y.a gX.Y.l gX.Y.c, .slice gX.Z.a gX.Z.l gX.Z.c]:=hO ▸ aB.new _ _ _
 have BU:=bB.lt
 have sz : w1.heap.size≤ (w1.alloc O_).heap.size:=Nat.le_of_lt bB.lt
 have J6 : w.heap.size≤w1.heap.size:=by omega
 generalize hG : (w1.alloc O_) =w2 at ah bI hC hc bB BU sz⊢
 clear hG hO O_
 replace sC:=hC.size
 clear aj ak ay aI
 obtain⟨aj,ak,ay,aI⟩ :=ah.f2
 obtain⟨bL,bM,dh,dV⟩ :=bB.f2
 refine(cK _ g code 7 (by unfold gZ;omega) hc).mono ?_
 rintro e w3 ⟨n0,rfl,Js,Nk,hcn,hx⟩
 replace hc:=hcn
 replace ah:=ah.aM hx (by simp only [List.mem_cons,List.not_mem_nil,or_false];omega)
 replace bB:=bB.aM hx (by simp only [List.mem_cons,List.not_mem_nil,or_false];omega)
 replace bI:=bI.aM hx (fun b hb hm=>by simp only [List.mem_cons,List.not_mem_nil,or_false] at hm;have:=gT b hb;have:=fT b hb;omega)
 replace hC:=hC.trans hx
 have sz:=hx.size
 replace sC:=hC.size
 clear hx
 skip
 clear aj ak ay aI
 obtain⟨aj,ak,ay,aI⟩ :=ah.f2
 clear bL bM dh dV
 obtain⟨bL,bM,dh,dV⟩ :=bB.f2
 obtain⟨m0,rfl⟩ :=Int.eq_ofNat_of_zero_le Js
 have hah : w.heap.size<w1.heap.size:=by omega
 go_wp2_with fail
 go_loopw [4] (fun i wr=> ∃ (k : Nat) (H : dU) (x : Heap),i= .int .i64 k∧k≤6∧aB wr (w1.heap.size) [.slice H.Y.a H.Y.l H.Y.c, .slice H.Z.a H.Z.l H.Z.c]∧aB wr w.heap.size [.slice none 0 0, .slice none 0 0]∧fA wr H x∧qK x∧ (∀b∈H.foot,w.heap.size<b∧b≠w1.heap.size) ∧f_ wr g code∧aY [g] w wr) (fun i _=> (intOf i).toNat)
 case atStart=>exact⟨m0,gX,x0,rfl,by omega,bB,ah,bI,HS,fun b hb=>by have:=gT b hb;have:=fT b hb;omega,hc,hC⟩
 case round=>
  clear bB dh dV bL bM
  clear ah ay aI aj ak
  clear bI gT fT HS hc hC sC
  obtain⟨wo,rfl⟩ : ∃W : World,W=wr:= ⟨_,rfl⟩
  obtain⟨k,gX,x,rfl,OV,bB,ah,bI,HS,nV,hc,hC⟩ :=hrel
  have fT:=bI.lt
  have sC:=hC.size
  obtain⟨bL,bM,dh,dV⟩ :=bB.f2
  obtain⟨aj,ak,ay,aI⟩ :=ah.f2
  by_cases hk : 0<k
  case neg=>
   go_wp2_with fail
   refine bodyPost_ret (v:=gX.val x) (by simp [results,Tryz.results193,go_sem,aj,ak]) rfl ⟨gX,x,rfl,bI.aM (F:= [w.heap.size]) bW (fun b hb hm=>by simp only [List.mem_cons,List.not_mem_nil,or_false] at hm;have:=nV b hb;have:=fT b hb;omega),HS,fun b hb=>by have:=nV b hb;omega,hc.je (B:=w.heap.size) hgl dQ hC.size,hC.then_ dQ⟩
  have hsz:=HS.sz
  have L9:=dV
  have F4:=aI
  go_upto_region 5 with (fail)
  go_cut [5,6] from 13 to 23 (fun v5 v6 wx=> ∃ (go : Nat) (aG : dU) (y : Heap) (qb : SV) (l : List Int),v5= .pointer (some ⟨go,0,none⟩) ∧v6= .slice qb.a qb.l qb.c∧ (qK y∧l.length≤4) ∧aB wx (w1.heap.size) [.slice gX.Y.a gX.Y.l gX.Y.c, .slice gX.Z.a gX.Z.l gX.Z.c]∧aB wx (w.heap.size) [.slice none 0 0, .slice none 0 0]∧aB wx go [.slice aG.Y.a aG.Y.l aG.Y.c, .slice aG.Z.a aG.Z.l aG.Z.c]∧fA wx gX x∧fA wx aG y∧ (∀b∈aG.foot,wo.heap.size≤b∧b≠go) ∧bA FI 3 wx qb.val l∧ (∀b∈cu qb.val,wo.heap.size≤b∧b≠go) ∧wo.heap.size≤go∧f_ wx g code∧aY [g] w wx∧wo.heap.size≤wx.heap.size)
  case first=>
   go_region_held3 (fun w'=>w'.cell? ⟨w1.heap.size,0,none⟩ =some (.slice gX.Y.a gX.Y.l gX.Y.c) ∧w'.cell? ⟨w1.heap.size,1,none⟩ =some (.slice gX.Z.a gX.Z.l gX.Z.c)) (first| (with_reducible exact⟨bL,bM⟩) | (refine⟨?_, ?_⟩ <;> (repeat (first|with_reducible assumption|with_reducible refine fH ?_ (by omega) |with_reducible refine eF ?_ (by omega) |with_reducible refine fu ?_));done) | (go_keep;done)) (first| (go_at_call 63; (first| ((with_reducible refine(cK _ g code 3 (by unfold gZ;omega) hc).mono ?_);rintro e wq ⟨c_,rfl,c0,c1,hcn,hx⟩;replace bB:=bB.aM hx (by simp only [List.mem_cons,List.not_mem_nil,or_false];omega);replace ah:=ah.aM hx (by simp only [List.mem_cons,List.not_mem_nil,or_false];omega);replace bI:=bI.aM hx (fun b hb hm=>by simp only [List.mem_cons,List.not_mem_nil,or_false] at hm;have:=nV b hb;have:=fT b hb;omega); (try replace bZ:=bZ.aM hx (fun b hb hm=>by simp only [List.mem_cons,List.not_mem_nil,or_false] at hm;have:=dY b hb;have:=u_n b hb;omega)); (try replace bQ:=bQ.aM hx (fun b hb hm=>by simp only [List.mem_cons,List.not_mem_nil,or_false] at hm;have:=fJ b hb;have:=iD b hb;omega)); (try replace aU:=aU.aM hx (by simp only [List.mem_cons,List.not_mem_nil,or_false];omega)); (try replace bT:=aU.cell 0 _ rfl); (try replace bU:=aU.cell 1 _ rfl); (try replace gN:=aU.dn); (try replace dX:=aU.lt);replace hC:=aY.trans hC hx;replace hc:=hcn;have sz:=hx.size;replace sC:=hC.size;clear hx;clear bL bM dh dV;obtain⟨bL,bM,dh,dV⟩ :=bB.f2;clear aj ak ay aI;obtain⟨aj,ak,ay,aI⟩ :=ah.f2;obtain⟨c,rfl⟩ :=Int.eq_ofNat_of_zero_le c0;have hc3 : c<3:= (by omega)) | ((with_reducible refine(cK _ g code 3 (by unfold gZ;omega) (hc.alloc _)).mono ?_);rintro e wq ⟨c_,rfl,c0,c1,hcn,hx⟩;have lK:=bB.lt;have jy:=ah.lt;replace bB:= (bB.alloc _).aM hx (by simp only [List.mem_cons,List.not_mem_nil,or_false];omega);replace ah:= (ah.alloc _).aM hx (by simp only [List.mem_cons,List.not_mem_nil,or_false];omega);replace bI:= (bI.aH _).aM hx (fun b hb hm=>by simp only [List.mem_cons,List.not_mem_nil,or_false] at hm;have:=nV b hb;have:=fT b hb;omega); (try replace bZ:= (bZ.aH _).aM hx (fun b hb hm=>by simp only [List.mem_cons,List.not_mem_nil,or_false] at hm;have:=dY b hb;have:=u_n b hb;omega)); (try replace bQ:= (bQ.aH _).aM hx (fun b hb hm=>by simp only [List.mem_cons,List.not_mem_nil,or_false] at hm;have:=fJ b hb;have:=iD b hb;omega));have aU:=aB.aM (aB.new _ #[.slice none 0 0, .slice none 0 0] 26) hx (by simp only [List.mem_cons,List.not_mem_nil,or_false];omega);have jI:=hC.size;have gN:=aU.dn;have dX:=aU.lt;have bT:=aU.cell 0 _ rfl;have bU:=aU.cell 1 _ rfl;replace hC:=aY.trans (hC.aH _) hx;replace hc:=hcn;have sz:=gV hx.size;replace sC:=hC.size;clear hx;clear bL bM dh dV;obtain⟨bL,bM,dh,dV⟩ :=bB.f2;clear aj ak ay aI;obtain⟨aj,ak,ay,aI⟩ :=ah.f2;obtain⟨c,rfl⟩ :=Int.eq_ofNat_of_zero_le c0;have hc3 : c<3:= (by omega)) | ((with_reducible refine(cK _ g code 3 (by unfold gZ;omega) (hc.bf)).mono ?_);rintro e wq ⟨c_,rfl,c0,c1,hcn,hx⟩;replace bB:=bB.drew.aM hx (by simp only [List.mem_cons,List.not_mem_nil,or_false];omega);replace ah:=ah.drew.aM hx (by simp only [List.mem_cons,List.not_mem_nil,or_false];omega);replace bI:= (bI.bf).aM hx (fun b hb hm=>by simp only [List.mem_cons,List.not_mem_nil,or_false] at hm;have:=nV b hb;have:=fT b hb;omega); (try replace bZ:= (bZ.bf).aM hx (fun b hb hm=>by simp only [List.mem_cons,List.not_mem_nil,or_false] at hm;have:=dY b hb;have:=u_n b hb;omega)); (try replace bQ:= (bQ.bf).aM hx (fun b hb hm=>by simp only [List.mem_cons,List.not_mem_nil,or_false] at hm;have:=fJ b hb;have:=iD b hb;omega)); (try replace aU:=aU.drew.aM hx (by simp only [List.mem_cons,List.not_mem_nil,or_false];omega)); (try replace bT:=aU.cell 0 _ rfl); (try replace bU:=aU.cell 1 _ rfl); (try replace gN:=aU.dn); (try replace dX:=aU.lt);replace hC:=aY.trans hC.bf hx;replace hc:=hcn;have sz:=jE hx.size;replace sC:=hC.size;clear hx;clear bL bM dh dV;obtain⟨bL,bM,dh,dV⟩ :=bB.f2;clear aj ak ay aI;obtain⟨aj,ak,ay,aI⟩ :=ah.f2;obtain⟨c,rfl⟩ :=Int.eq_ofNat_of_zero_le c0;have hc3 : c<3:= (by omega)) | ((with_reducible refine(cK _ g code 3 (by unfold gZ;omega) ((hc.bf).alloc _)).mono ?_);rintro e wq ⟨c_,rfl,c0,c1,hcn,hx⟩;have lK:=bB.lt;have jy:=ah.lt;replace bB:= ((bB.drew).alloc _).aM hx (by simp only [List.mem_cons,List.not_mem_nil,or_false];omega);replace ah:= ((ah.drew).alloc _).aM hx (by simp only [List.mem_cons,List.not_mem_nil,or_false];omega);replace bI:= ((bI.bf).aH _).aM hx (fun b hb hm=>by simp only [List.mem_cons,List.not_mem_nil,or_false] at hm;have:=nV b hb;have:=fT b hb;omega); (try replace bZ:= ((bZ.bf).aH _).aM hx (fun b hb hm=>by simp only [List.mem_cons,List.not_mem_nil,or_false] at hm;have:=dY b hb;have:=u_n b hb;omega)); (try replace bQ:= ((bQ.bf).aH _).aM hx (fun b hb hm=>by simp only [List.mem_cons,List.not_mem_nil,or_false] at hm;have:=fJ b hb;have:=iD b hb;omega));have aU:=aB.aM (aB.new _ #[.slice none 0 0, .slice none 0 0] 26) hx (by simp only [List.mem_cons,List.not_mem_nil,or_false];omega); (try simp only [fq] at aU);have jI:=hC.size;have gN:=aU.dn;have dX:=aU.lt;have bT:=aU.cell 0 _ rfl;have bU:=aU.cell 1 _ rfl;replace hC:=aY.trans (hC.bf.aH _) hx;replace hc:=hcn;have sz:=iL hx.size;replace sC:=hC.size;clear hx;clear bL bM dh dV;obtain⟨bL,bM,dh,dV⟩ :=bB.f2;clear aj ak ay aI;obtain⟨aj,ak,ay,aI⟩ :=ah.f2;obtain⟨c,rfl⟩ :=Int.eq_ofNat_of_zero_le c0;have hc3 : c<3:= (by omega)) | ((with_reducible refine(cK _ g code 3 (by unfold gZ;omega) ((hc.alloc _).bf)).mono ?_);rintro e wq ⟨c_,rfl,c0,c1,hcn,hx⟩;have lK:=bB.lt;have jy:=ah.lt;replace bB:= (bB.alloc _).drew.aM hx (by simp only [List.mem_cons,List.not_mem_nil,or_false];omega);replace ah:= (ah.alloc _).drew.aM hx (by simp only [List.mem_cons,List.not_mem_nil,or_false];omega);replace bI:= ((bI.aH _).bf).aM hx (fun b hb hm=>by simp only [List.mem_cons,List.not_mem_nil,or_false] at hm;have:=nV b hb;have:=fT b hb;omega); (try replace bZ:= ((bZ.aH _).bf).aM hx (fun b hb hm=>by simp only [List.mem_cons,List.not_mem_nil,or_false] at hm;have:=dY b hb;have:=u_n b hb;omega)); (try replace bQ:= ((bQ.aH _).bf).aM hx (fun b hb hm=>by simp only [List.mem_cons,List.not_mem_nil,or_false] at hm;have:=fJ b hb;have:=iD b hb;omega));have aU:=aB.aM (aB.new _ #[.slice none 0 0, .slice none 0 0] 26).drew hx (by simp only [List.mem_cons,List.not_mem_nil,or_false];omega);have jI:=hC.size;have gN:=aU.dn;have dX:=aU.lt;have bT:=aU.cell 0 _ rfl;have bU:=aU.cell 1 _ rfl;replace hC:=aY.trans (hC.aH _).bf hx;replace hc:=hcn;have sz:=gV (jE hx.size);replace sC:=hC.size;clear hx;clear bL bM dh dV;obtain⟨bL,bM,dh,dV⟩ :=bB.f2;clear aj ak ay aI;obtain⟨aj,ak,ay,aI⟩ :=ah.f2;obtain⟨c,rfl⟩ :=Int.eq_ofNat_of_zero_le c0;have hc3 : c<3:= (by omega)))) | (go_at_call 223; (first| ((with_reducible refine(sK _ gX x c (bI).rd' hsz hc3).mono ?_);rintro e wq ⟨aG,y,qb,l,rfl,bZ,nW,bQ,hl4,dY,fJ,hb⟩;have u_n:=bZ.lt;have iD:=iQ bQ;replace bB:=bB.below hb;replace ah:=ah.below hb;replace bI:=bI.step0 hb; (try replace aU:=aU.below hb); (try replace bT:=aU.cell 0 _ rfl); (try replace bU:=aU.cell 1 _ rfl); (try replace gN:=aU.dn); (try replace dX:=aU.lt);replace hc:=f_.up hc hb;replace hC:=aY.trans hC (aY.of_below hb);have sz:=hb.size;replace sC:=hC.size;clear hb;clear bL bM dh dV;obtain⟨bL,bM,dh,dV⟩ :=bB.f2;clear aj ak ay aI;obtain⟨aj,ak,ay,aI⟩ :=ah.f2;have HY:=HS.of nW) | ((with_reducible refine(sK _ gX x c ((bI.aH _)).rd' hsz hc3).mono ?_);rintro e wq ⟨aG,y,qb,l,rfl,bZ,nW,bQ,hl4,dY,fJ,hb⟩;replace dY:=lW dY;have u_n:=bZ.lt;replace fJ:=lW fJ;have iD:=iQ bQ;have lK:=bB.lt;have jy:=ah.lt;replace bB:= (bB.alloc _).below hb;replace ah:= (ah.alloc _).below hb;replace bI:= (bI.aH _).step0 hb;have aU:=aB.below (aB.new _ #[.slice none 0 0, .slice none 0 0] 26) hb;have jI:=hC.size;have gN:=aU.dn;have dX:=aU.lt;have bT:=aU.cell 0 _ rfl;have bU:=aU.cell 1 _ rfl;replace hc:=f_.up (hc.alloc _) hb;replace hC:=aY.trans (hC.aH _) (aY.of_below hb);have sz:=gV hb.size;replace sC:=hC.size;clear hb;clear bL bM dh dV;obtain⟨bL,bM,dh,dV⟩ :=bB.f2;clear aj ak ay aI;obtain⟨aj,ak,ay,aI⟩ :=ah.f2;have HY:=HS.of nW) | ((with_reducible refine(sK _ gX x c ((bI.bf)).rd' hsz hc3).mono ?_);rintro e wq ⟨aG,y,qb,l,rfl,bZ,nW,bQ,hl4,dY,fJ,hb⟩;replace hb:=gq hb;replace dY:=ji dY;have u_n:=bZ.lt;replace fJ:=ji fJ;have iD:=iQ bQ;replace bB:=bB.below hb;replace ah:=ah.below hb;replace bI:=bI.step0 hb; (try replace aU:=aU.below hb); (try replace bT:=aU.cell 0 _ rfl); (try replace bU:=aU.cell 1 _ rfl); (try replace gN:=aU.dn); (try replace dX:=aU.lt);replace hc:=f_.up hc hb;replace hC:=aY.trans hC (aY.of_below hb);have sz:=hb.size;replace sC:=hC.size;clear hb;clear bL bM dh dV;obtain⟨bL,bM,dh,dV⟩ :=bB.f2;clear aj ak ay aI;obtain⟨aj,ak,ay,aI⟩ :=ah.f2;have HY:=HS.of nW) | ((with_reducible refine(sK _ gX x c (((bI.bf).aH _)).rd' hsz hc3).mono ?_);rintro e wq ⟨aG,y,qb,l,rfl,bZ,nW,bQ,hl4,dY,fJ,hb⟩;replace dY:=mV dY;have u_n:=bZ.lt;replace fJ:=mV fJ;have iD:=iQ bQ;have lK:=bB.lt;have jy:=ah.lt;replace bB:= ((bB.drew).alloc _).below hb;replace ah:= ((ah.drew).alloc _).below hb;replace bI:= ((bI.bf).aH _).step0 hb;have aU:=aB.below (aB.new _ #[.slice none 0 0, .slice none 0 0] 26) hb; (try simp only [fq] at aU);have jI:=hC.size;have gN:=aU.dn;have dX:=aU.lt;have bT:=aU.cell 0 _ rfl;have bU:=aU.cell 1 _ rfl;replace hc:=f_.up ((hc.bf).alloc _) hb;replace hC:=aY.trans (hC.bf.aH _) (aY.of_below hb);have sz:=iL hb.size;replace sC:=hC.size;clear hb;clear bL bM dh dV;obtain⟨bL,bM,dh,dV⟩ :=bB.f2;clear aj ak ay aI;obtain⟨aj,ak,ay,aI⟩ :=ah.f2;have HY:=HS.of nW) | ((with_reducible refine(sK _ gX x c (((bI.aH _).bf)).rd' hsz hc3).mono ?_);rintro e wq ⟨aG,y,qb,l,rfl,bZ,nW,bQ,hl4,dY,fJ,hb⟩;replace hb:=gq hb;replace dY:=ji dY;replace dY:=lW dY;have u_n:=bZ.lt;replace fJ:=ji fJ;replace fJ:=lW fJ;have iD:=iQ bQ;have lK:=bB.lt;have jy:=ah.lt;replace bB:= (bB.alloc _).below hb;replace ah:= (ah.alloc _).below hb;replace bI:= (bI.aH _).step0 hb;have aU:=aB.below (aB.new _ #[.slice none 0 0, .slice none 0 0] 26) hb;have jI:=hC.size;have gN:=aU.dn;have dX:=aU.lt;have bT:=aU.cell 0 _ rfl;have bU:=aU.cell 1 _ rfl;replace hc:=f_.up (hc.alloc _) hb;replace hC:=aY.trans (hC.aH _) (aY.of_below hb);have sz:=gV hb.size;replace sC:=hC.size;clear hb;clear bL bM dh dV;obtain⟨bL,bM,dh,dV⟩ :=bB.f2;clear aj ak ay aI;obtain⟨aj,ak,ay,aI⟩ :=ah.f2;have HY:=HS.of nW))))
   all_goals
    go_wp2_with fail
    go_meet
    first|exact⟨_,aG,y,qb,l,rfl,rfl, ⟨HY,hl4⟩,bB.alloc _,ah.alloc _,aB.new _ _ _,bI.aH _,bZ.aH _,fun b hb=> ⟨by have:=dY b hb;omega,by have:=u_n b hb;omega⟩,bQ.aH _,fun b hb=> ⟨by have:=fJ b hb;omega,by have:=iD b hb;omega⟩,by omega,hc.alloc _,hC.aH _,by simp<;>omega⟩ | (obtain⟨go,hgo,og⟩ :=aU.ad;rw [←hgo];rw [←hgo] at jI;exact⟨go,aG,y,qb,l,rfl,rfl, ⟨HY,hl4⟩, ((bB.other (by omega) _).other (by omega) _), ((ah.other (by omega) _).other (by omega) _), ((og.set 0 _).set 1 _),bI.aM (F:= [go]) bW (fun b hb hm=>by simp only [List.mem_cons,List.not_mem_nil,or_false] at hm;have:=nV b hb;have:=fT b hb;omega),bZ.aM (F:= [go]) bW (fun b hb hm=>by simp only [List.mem_cons,List.not_mem_nil,or_false] at hm;have:=dY b hb;have:=u_n b hb;omega),fun b hb=> ⟨by have:=dY b hb;omega,by have:=dY b hb;have:=u_n b hb;omega⟩,bQ.aM (F:= [go]) bW (fun b hb hm=>by simp only [List.mem_cons,List.not_mem_nil,or_false] at hm;have:=fJ b hb;have:=iD b hb;omega),fun b hb=> ⟨by have:=fJ b hb;omega,by have:=fJ b hb;have:=iD b hb;omega⟩,by omega,hc.je (B:=w.heap.size) hgl dQ hC.size, ((hC.gY (by omega) _).gY (by omega) _),by simp<;>omega⟩)
  case rest=>
   clear bB dh dV bL bM
   clear ah ay aI aj ak
   clear bI
   clear hC hc
   obtain⟨go,aG,y,qb,l,rfl,rfl, ⟨HY,hl4⟩,bB,ah,aU,bI,bZ,dY,bQ,fJ,F5,hc,hC,sz⟩ :=hcut
   have rD:=aU.lt
   have jI : w.heap.size≤go:=by omega
   have u_n:=bZ.lt
   have iD:=iQ bQ
   have sC:=hC.size
   obtain⟨bL,bM,dh,dV⟩ :=bB.f2
   obtain⟨aj,ak,ay,aI⟩ :=ah.f2
   obtain⟨bT,bU,eU,dX⟩ :=aU.f2
   clear bI
   obtain⟨Nl,pK,J7⟩ :=qb
   obtain⟨rfl,_⟩ : pK=l.length∧True:= ⟨(fE.len_ (show fE FI wc wc.heap.size (.slice Nl pK J7) l from bQ.rd')).1,trivial⟩
   go_upto_region 7 with (fail)
   replace bB : aB ((wc.setCell ⟨w1.heap.size,0,none⟩ (.slice aG.Y.a aG.Y.l aG.Y.c)).setCell ⟨w1.heap.size,1,none⟩ (.slice aG.Z.a aG.Z.l aG.Z.c)) (w1.heap.size) [.slice aG.Y.a aG.Y.l aG.Y.c, .slice aG.Z.a aG.Z.l aG.Z.c]:= ((bB.set 0 (.slice aG.Y.a aG.Y.l aG.Y.c)).set 1 (.slice aG.Z.a aG.Z.l aG.Z.c))
   replace ah : aB ((wc.setCell ⟨w1.heap.size,0,none⟩ (.slice aG.Y.a aG.Y.l aG.Y.c)).setCell ⟨w1.heap.size,1,none⟩ (.slice aG.Z.a aG.Z.l aG.Z.c)) (w.heap.size) [.slice none 0 0, .slice none 0 0]:= ((ah.other (by omega) _).other (by omega) _)
   replace aU : aB ((wc.setCell ⟨w1.heap.size,0,none⟩ (.slice aG.Y.a aG.Y.l aG.Y.c)).setCell ⟨w1.heap.size,1,none⟩ (.slice aG.Z.a aG.Z.l aG.Z.c)) (go) [.slice aG.Y.a aG.Y.l aG.Y.c, .slice aG.Z.a aG.Z.l aG.Z.c]:= ((aU.other (by omega) _).other (by omega) _)
   replace bZ:=bZ.aM (F:= [w1.heap.size]) (w':= ((wc.setCell ⟨w1.heap.size,0,none⟩ (.slice aG.Y.a aG.Y.l aG.Y.c)).setCell ⟨w1.heap.size,1,none⟩ (.slice aG.Z.a aG.Z.l aG.Z.c))) bW (fun b hb hm=>by simp only [List.mem_cons,List.not_mem_nil,or_false] at hm;have:=dY b hb;have:=u_n b hb;omega)
   replace bQ:=bQ.aM (F:= [w1.heap.size]) (w':= ((wc.setCell ⟨w1.heap.size,0,none⟩ (.slice aG.Y.a aG.Y.l aG.Y.c)).setCell ⟨w1.heap.size,1,none⟩ (.slice aG.Z.a aG.Z.l aG.Z.c))) bW (fun b hb hm=>by simp only [List.mem_cons,List.not_mem_nil,or_false] at hm;have:=fJ b hb;have:=iD b hb;omega)
   replace hc : f_ ((wc.setCell ⟨w1.heap.size,0,none⟩ (.slice aG.Y.a aG.Y.l aG.Y.c)).setCell ⟨w1.heap.size,1,none⟩ (.slice aG.Z.a aG.Z.l aG.Z.c)) g code:=hc.je (B:=w.heap.size) hgl dQ hC.size
   replace hC : aY [g] w ((wc.setCell ⟨w1.heap.size,0,none⟩ (.slice aG.Y.a aG.Y.l aG.Y.c)).setCell ⟨w1.heap.size,1,none⟩ (.slice aG.Z.a aG.Z.l aG.Z.c)) := ((hC.gY (by omega) _).gY (by omega) _)
   have sz : wc.heap.size≤ ((wc.setCell ⟨w1.heap.size,0,none⟩ (.slice aG.Y.a aG.Y.l aG.Y.c)).setCell ⟨w1.heap.size,1,none⟩ (.slice aG.Z.a aG.Z.l aG.Z.c)).heap.size:=by simp
   generalize hG : ((wc.setCell ⟨w1.heap.size,0,none⟩ (.slice aG.Y.a aG.Y.l aG.Y.c)).setCell ⟨w1.heap.size,1,none⟩ (.slice aG.Z.a aG.Z.l aG.Z.c)) =Et at bB ah aU bZ bQ hC hc sz⊢
   clear hG
   replace sC:=hC.size
   clear bL bM dh dV
   obtain⟨bL,bM,dh,dV⟩ :=bB.f2
   clear aj ak ay aI
   obtain⟨aj,ak,ay,aI⟩ :=ah.f2
   clear bT bU eU dX
   obtain⟨bT,bU,eU,dX⟩ :=aU.f2
   clear aU eU dX bT bU
   have G_ : ∀b∈aG.foot,w.heap.size<b∧b≠w1.heap.size:=fun b hb=>by have:=dY b hb;omega
   go_wp2_with fail
   go_loopw [7] (fun i wr=> ∃ (j : Nat) (H : dU) (x : Heap),i= .int .i64 j∧j≤l.length∧aB wr (w1.heap.size) [.slice H.Y.a H.Y.l H.Y.c, .slice H.Z.a H.Z.l H.Z.c]∧aB wr w.heap.size [.slice none 0 0, .slice none 0 0]∧fA wr H x∧qK x∧ (∀b∈H.foot,w.heap.size<b∧b≠w1.heap.size) ∧bA FI 3 wr (.slice Nl l.length J7) l∧f_ wr g code∧aY [g] w wr) (fun i _=>l.length - (intOf i).toNat)
   case atStart=>exact⟨0,aG,y,rfl,Nat.zero_le _,bB,ah,bZ,HY,G_,bQ,hc,hC⟩
   case round=>
    clear bB dh dV bL bM
    clear ah ay aI aj ak
    clear bZ bQ hc hC sC G_ dY u_n nV fT HS HY hsz
    obtain⟨wi,rfl⟩ : ∃W : World,W=wr:= ⟨_,rfl⟩
    clear x
    skip
    obtain⟨j,gX,x,rfl,hj,bB,ah,bI,HS,nV,bQ,hc,hC⟩ :=hrel
    clear iD
    have iD:=iQ bQ
    have fT:=bI.lt
    have sC:=hC.size
    obtain⟨bL,bM,dh,dV⟩ :=bB.f2
    obtain⟨aj,ak,ay,aI⟩ :=ah.f2
    by_cases hlt : j<l.length
    case neg=>
     go_wp2_with fail
     go_roundw
     case rel=>first|exact⟨k - 1,gX,x,by go_num,by omega,bB,ah,bI,HS,nV,hc,hC⟩ | ((repeat apply Exists.intro);exact⟨⟨k - 1,gX,x,by go_num,by omega,bB,ah,bI,HS,nV,hc,hC⟩,rfl⟩)
     case measure=>simp [intOf];omega
    obtain⟨gl,cq,hv,NI⟩ :=bA.kN bQ (by omega)
    injection hv with e1 e2 e3
    clear e2
    subst e1 e3
    obtain⟨yv,hyv⟩ : ∃y,l[j]? =some y:= ⟨_,List.getElem?_eq_getElem hlt⟩
    have xM:=Hid.aT hyv
    clear hyv
    clear bL bM dh dV
    obtain⟨bL,bM,dh,dV⟩ :=bB.f2
    clear aj ak ay aI
    obtain⟨aj,ak,ay,aI⟩ :=ah.f2
    have p0:=bA.jB bQ xM.out
    have hsz:=HS.sz
    go_wp2_with fail
    refine(uM _ g code 3 (by unfold gZ;omega) hc).mono ?_
    rintro e tF ⟨b,rfl,hcn,hx⟩
    replace hc:=hcn
    replace bB:=bB.aM hx (by simp only [List.mem_cons,List.not_mem_nil,or_false];omega)
    replace ah:=ah.aM hx (by simp only [List.mem_cons,List.not_mem_nil,or_false];omega)
    replace bI:=bI.aM hx (fun b hb hm=>by simp only [List.mem_cons,List.not_mem_nil,or_false] at hm;have:=nV b hb;have:=fT b hb;omega)
    replace bQ:=bQ.aM hx (fun b hb hm=>by simp only [List.mem_cons,List.not_mem_nil,or_false] at hm;have:=fJ b hb;have:=iD b hb;omega)
    replace hC:=hC.trans hx
    have sz:=hx.size
    replace sC:=hC.size
    clear hx
    skip
    clear bL bM dh dV
    obtain⟨bL,bM,dh,dV⟩ :=bB.f2
    clear aj ak ay aI
    obtain⟨aj,ak,ay,aI⟩ :=ah.f2
    replace p0:=bA.jB bQ xM.out
    cases b with
    |false=>
     go_wp2_with fail
     go_roundw
     case rel=>exact⟨j+1,gX,x,by go_num,by omega,bB,ah,bI,HS,nV,bQ,hc,hC⟩
     case measure=>simp [intOf];omega
    |true=>
     have L9:=dV
     have F4:=aI
     go_upto_region 11 with (fail)
     go_cut [8,9] from 29 to 44 (fun v8 v9 wx=> ∃ (go : Nat) (aG : dU) (y : Heap) (b_ : Bool),v8= .pointer (some ⟨go,0,none⟩) ∧v9= .bool b_∧ (qK y) ∧aB wx (w1.heap.size) [.slice gX.Y.a gX.Y.l gX.Y.c, .slice gX.Z.a gX.Z.l gX.Z.c]∧aB wx (w.heap.size) [.slice none 0 0, .slice none 0 0]∧aB wx go [.slice aG.Y.a aG.Y.l aG.Y.c, .slice aG.Z.a aG.Z.l aG.Z.c]∧fA wx gX x∧bA FI 3 wx (.slice (some ⟨gl,0,none⟩) l.length J7) l∧fA wx aG y∧ (∀b∈aG.foot,tF.heap.size≤b∧b≠go) ∧tF.heap.size≤go∧f_ wx g code∧aY [g] w wx∧tF.heap.size≤wx.heap.size)
     case first=>
      go_region_held3 (fun w'=>w'.cell? ⟨w1.heap.size,0,none⟩ =some (.slice gX.Y.a gX.Y.l gX.Y.c) ∧w'.cell? ⟨w1.heap.size,1,none⟩ =some (.slice gX.Z.a gX.Z.l gX.Z.c) ∧w'.cell? ⟨gl,j,none⟩ =some (.int .i64 yv)) (first| (with_reducible exact⟨bL,bM,p0⟩) | (refine⟨?_, ?_, ?_⟩ <;> (repeat (first|with_reducible assumption|with_reducible refine fH ?_ (by omega) |with_reducible refine eF ?_ (by omega) |with_reducible refine fu ?_));done) | (go_keep;done)) (first| (go_at_call 63; (first| ((with_reducible refine(cK _ g code 7 (by unfold gZ;omega) hc).mono ?_);rintro e wq ⟨t_,rfl,t0,t1,hcn,hx⟩;replace bB:=bB.aM hx (by simp only [List.mem_cons,List.not_mem_nil,or_false];omega);replace ah:=ah.aM hx (by simp only [List.mem_cons,List.not_mem_nil,or_false];omega);replace bI:=bI.aM hx (fun b hb hm=>by simp only [List.mem_cons,List.not_mem_nil,or_false] at hm;have:=nV b hb;have:=fT b hb;omega);replace bQ:=bQ.aM hx (fun b hb hm=>by simp only [List.mem_cons,List.not_mem_nil,or_false] at hm;have:=fJ b hb;have:=iD b hb;omega); (try replace bZ:=bZ.aM hx (fun b hb hm=>by simp only [List.mem_cons,List.not_mem_nil,or_false] at hm;have:=dY b hb;have:=u_n b hb;omega)); (try replace aU:=aU.aM hx (by simp only [List.mem_cons,List.not_mem_nil,or_false];omega)); (try replace bT:=aU.cell 0 _ rfl); (try replace bU:=aU.cell 1 _ rfl); (try replace gN:=aU.dn); (try replace dX:=aU.lt);replace hC:=aY.trans hC hx;replace hc:=hcn;have sz:=hx.size;replace sC:=hC.size;clear hx;clear bL bM dh dV;obtain⟨bL,bM,dh,dV⟩ :=bB.f2;clear aj ak ay aI;obtain⟨aj,ak,ay,aI⟩ :=ah.f2;replace p0:=bA.jB bQ xM.out;have HW:=Hid.aT (CV (x:=t_) t0 (by omega))) | ((with_reducible refine(cK _ g code 7 (by unfold gZ;omega) (hc.alloc _)).mono ?_);rintro e wq ⟨t_,rfl,t0,t1,hcn,hx⟩;have lK:=bB.lt;have jy:=ah.lt;replace bB:= (bB.alloc _).aM hx (by simp only [List.mem_cons,List.not_mem_nil,or_false];omega);replace ah:= (ah.alloc _).aM hx (by simp only [List.mem_cons,List.not_mem_nil,or_false];omega);replace bI:= (bI.aH _).aM hx (fun b hb hm=>by simp only [List.mem_cons,List.not_mem_nil,or_false] at hm;have:=nV b hb;have:=fT b hb;omega);replace bQ:= (bQ.aH _).aM hx (fun b hb hm=>by simp only [List.mem_cons,List.not_mem_nil,or_false] at hm;have:=fJ b hb;have:=iD b hb;omega); (try replace bZ:= (bZ.aH _).aM hx (fun b hb hm=>by simp only [List.mem_cons,List.not_mem_nil,or_false] at hm;have:=dY b hb;have:=u_n b hb;omega));have aU:=aB.aM (aB.new _ #[.slice none 0 0, .slice none 0 0] 26) hx (by simp only [List.mem_cons,List.not_mem_nil,or_false];omega);have jI:=hC.size;have gN:=aU.dn;have dX:=aU.lt;have bT:=aU.cell 0 _ rfl;have bU:=aU.cell 1 _ rfl;replace hC:=aY.trans (hC.aH _) hx;replace hc:=hcn;have sz:=gV hx.size;replace sC:=hC.size;clear hx;clear bL bM dh dV;obtain⟨bL,bM,dh,dV⟩ :=bB.f2;clear aj ak ay aI;obtain⟨aj,ak,ay,aI⟩ :=ah.f2;replace p0:=bA.jB bQ xM.out;have HW:=Hid.aT (CV (x:=t_) t0 (by omega))) | ((with_reducible refine(cK _ g code 7 (by unfold gZ;omega) (hc.bf)).mono ?_);rintro e wq ⟨t_,rfl,t0,t1,hcn,hx⟩;replace bB:=bB.drew.aM hx (by simp only [List.mem_cons,List.not_mem_nil,or_false];omega);replace ah:=ah.drew.aM hx (by simp only [List.mem_cons,List.not_mem_nil,or_false];omega);replace bI:= (bI.bf).aM hx (fun b hb hm=>by simp only [List.mem_cons,List.not_mem_nil,or_false] at hm;have:=nV b hb;have:=fT b hb;omega);replace bQ:= (bQ.bf).aM hx (fun b hb hm=>by simp only [List.mem_cons,List.not_mem_nil,or_false] at hm;have:=fJ b hb;have:=iD b hb;omega); (try replace bZ:= (bZ.bf).aM hx (fun b hb hm=>by simp only [List.mem_cons,List.not_mem_nil,or_false] at hm;have:=dY b hb;have:=u_n b hb;omega)); (try replace aU:=aU.drew.aM hx (by simp only [List.mem_cons,List.not_mem_nil,or_false];omega)); (try replace bT:=aU.cell 0 _ rfl); (try replace bU:=aU.cell 1 _ rfl); (try replace gN:=aU.dn); (try replace dX:=aU.lt);replace hC:=aY.trans hC.bf hx;replace hc:=hcn;have sz:=jE hx.size;replace sC:=hC.size;clear hx;clear bL bM dh dV;obtain⟨bL,bM,dh,dV⟩ :=bB.f2;clear aj ak ay aI;obtain⟨aj,ak,ay,aI⟩ :=ah.f2;replace p0:=bA.jB bQ xM.out;have HW:=Hid.aT (CV (x:=t_) t0 (by omega))) | ((with_reducible refine(cK _ g code 7 (by unfold gZ;omega) ((hc.bf).alloc _)).mono ?_);rintro e wq ⟨t_,rfl,t0,t1,hcn,hx⟩;have lK:=bB.lt;have jy:=ah.lt;replace bB:= ((bB.drew).alloc _).aM hx (by simp only [List.mem_cons,List.not_mem_nil,or_false];omega);replace ah:= ((ah.drew).alloc _).aM hx (by simp only [List.mem_cons,List.not_mem_nil,or_false];omega);replace bI:= ((bI.bf).aH _).aM hx (fun b hb hm=>by simp only [List.mem_cons,List.not_mem_nil,or_false] at hm;have:=nV b hb;have:=fT b hb;omega);replace bQ:= ((bQ.bf).aH _).aM hx (fun b hb hm=>by simp only [List.mem_cons,List.not_mem_nil,or_false] at hm;have:=fJ b hb;have:=iD b hb;omega); (try replace bZ:= ((bZ.bf).aH _).aM hx (fun b hb hm=>by simp only [List.mem_cons,List.not_mem_nil,or_false] at hm;have:=dY b hb;have:=u_n b hb;omega));have aU:=aB.aM (aB.new _ #[.slice none 0 0, .slice none 0 0] 26) hx (by simp only [List.mem_cons,List.not_mem_nil,or_false];omega); (try simp only [fq] at aU);have jI:=hC.size;have gN:=aU.dn;have dX:=aU.lt;have bT:=aU.cell 0 _ rfl;have bU:=aU.cell 1 _ rfl;replace hC:=aY.trans (hC.bf.aH _) hx;replace hc:=hcn;have sz:=iL hx.size;replace sC:=hC.size;clear hx;clear bL bM dh dV;obtain⟨bL,bM,dh,dV⟩ :=bB.f2;clear aj ak ay aI;obtain⟨aj,ak,ay,aI⟩ :=ah.f2;replace p0:=bA.jB bQ xM.out;have HW:=Hid.aT (CV (x:=t_) t0 (by omega))) | ((with_reducible refine(cK _ g code 7 (by unfold gZ;omega) ((hc.alloc _).bf)).mono ?_);rintro e wq ⟨t_,rfl,t0,t1,hcn,hx⟩;have lK:=bB.lt;have jy:=ah.lt;replace bB:= (bB.alloc _).drew.aM hx (by simp only [List.mem_cons,List.not_mem_nil,or_false];omega);replace ah:= (ah.alloc _).drew.aM hx (by simp only [List.mem_cons,List.not_mem_nil,or_false];omega);replace bI:= ((bI.aH _).bf).aM hx (fun b hb hm=>by simp only [List.mem_cons,List.not_mem_nil,or_false] at hm;have:=nV b hb;have:=fT b hb;omega);replace bQ:= ((bQ.aH _).bf).aM hx (fun b hb hm=>by simp only [List.mem_cons,List.not_mem_nil,or_false] at hm;have:=fJ b hb;have:=iD b hb;omega); (try replace bZ:= ((bZ.aH _).bf).aM hx (fun b hb hm=>by simp only [List.mem_cons,List.not_mem_nil,or_false] at hm;have:=dY b hb;have:=u_n b hb;omega));have aU:=aB.aM (aB.new _ #[.slice none 0 0, .slice none 0 0] 26).drew hx (by simp only [List.mem_cons,List.not_mem_nil,or_false];omega);have jI:=hC.size;have gN:=aU.dn;have dX:=aU.lt;have bT:=aU.cell 0 _ rfl;have bU:=aU.cell 1 _ rfl;replace hC:=aY.trans (hC.aH _).bf hx;replace hc:=hcn;have sz:=gV (jE hx.size);replace sC:=hC.size;clear hx;clear bL bM dh dV;obtain⟨bL,bM,dh,dV⟩ :=bB.f2;clear aj ak ay aI;obtain⟨aj,ak,ay,aI⟩ :=ah.f2;replace p0:=bA.jB bQ xM.out;have HW:=Hid.aT (CV (x:=t_) t0 (by omega))))) | (go_at_call 224; (first| ((with_reducible refine(qP _ gX x yv _ (bI).rd' hsz (by first|omega| (rw [HW.out];omega)) (by first|omega| (rw [HW.out];omega))).mono ?_);rintro e wq ⟨aG,y,b_,rfl,bZ,nW,dY,hb⟩;have u_n:=bZ.lt;replace bB:=bB.below hb;replace ah:=ah.below hb;replace bI:=bI.step0 hb;replace bQ:=bQ.step0 hb; (try replace aU:=aU.below hb); (try replace bT:=aU.cell 0 _ rfl); (try replace bU:=aU.cell 1 _ rfl); (try replace gN:=aU.dn); (try replace dX:=aU.lt);replace hc:=f_.up hc hb;replace hC:=aY.trans hC (aY.of_below hb);have sz:=hb.size;replace sC:=hC.size;clear hb;clear bL bM dh dV;obtain⟨bL,bM,dh,dV⟩ :=bB.f2;clear aj ak ay aI;obtain⟨aj,ak,ay,aI⟩ :=ah.f2;replace p0:=bA.jB bQ xM.out;have HY:=HS.of nW) | ((with_reducible refine(qP _ gX x yv _ ((bI.aH _)).rd' hsz (by first|omega| (rw [HW.out];omega)) (by first|omega| (rw [HW.out];omega))).mono ?_);rintro e wq ⟨aG,y,b_,rfl,bZ,nW,dY,hb⟩;replace dY:=lW dY;have u_n:=bZ.lt;have lK:=bB.lt;have jy:=ah.lt;replace bB:= (bB.alloc _).below hb;replace ah:= (ah.alloc _).below hb;replace bI:= (bI.aH _).step0 hb;replace bQ:= (bQ.aH _).step0 hb;have aU:=aB.below (aB.new _ #[.slice none 0 0, .slice none 0 0] 26) hb;have jI:=hC.size;have gN:=aU.dn;have dX:=aU.lt;have bT:=aU.cell 0 _ rfl;have bU:=aU.cell 1 _ rfl;replace hc:=f_.up (hc.alloc _) hb;replace hC:=aY.trans (hC.aH _) (aY.of_below hb);have sz:=gV hb.size;replace sC:=hC.size;clear hb;clear bL bM dh dV;obtain⟨bL,bM,dh,dV⟩ :=bB.f2;clear aj ak ay aI;obtain⟨aj,ak,ay,aI⟩ :=ah.f2;replace p0:=bA.jB bQ xM.out;have HY:=HS.of nW) | ((with_reducible refine(qP _ gX x yv _ ((bI.bf)).rd' hsz (by first|omega| (rw [HW.out];omega)) (by first|omega| (rw [HW.out];omega))).mono ?_);rintro e wq ⟨aG,y,b_,rfl,bZ,nW,dY,hb⟩;replace hb:=gq hb;replace dY:=ji dY;have u_n:=bZ.lt;replace bB:=bB.below hb;replace ah:=ah.below hb;replace bI:=bI.step0 hb;replace bQ:=bQ.step0 hb; (try replace aU:=aU.below hb); (try replace bT:=aU.cell 0 _ rfl); (try replace bU:=aU.cell 1 _ rfl); (try replace gN:=aU.dn); (try replace dX:=aU.lt);replace hc:=f_.up hc hb;replace hC:=aY.trans hC (aY.of_below hb);have sz:=hb.size;replace sC:=hC.size;clear hb;clear bL bM dh dV;obtain⟨bL,bM,dh,dV⟩ :=bB.f2;clear aj ak ay aI;obtain⟨aj,ak,ay,aI⟩ :=ah.f2;replace p0:=bA.jB bQ xM.out;have HY:=HS.of nW) | ((with_reducible refine(qP _ gX x yv _ (((bI.bf).aH _)).rd' hsz (by first|omega| (rw [HW.out];omega)) (by first|omega| (rw [HW.out];omega))).mono ?_);rintro e wq ⟨aG,y,b_,rfl,bZ,nW,dY,hb⟩;replace dY:=mV dY;have u_n:=bZ.lt;have lK:=bB.lt;have jy:=ah.lt;replace bB:= ((bB.drew).alloc _).below hb;replace ah:= ((ah.drew).alloc _).below hb;replace bI:= ((bI.bf).aH _).step0 hb;replace bQ:= ((bQ.bf).aH _).step0 hb;have aU:=aB.below (aB.new _ #[.slice none 0 0, .slice none 0 0] 26) hb; (try simp only [fq] at aU);have jI:=hC.size;have gN:=aU.dn;have dX:=aU.lt;have bT:=aU.cell 0 _ rfl;have bU:=aU.cell 1 _ rfl;replace hc:=f_.up ((hc.bf).alloc _) hb;replace hC:=aY.trans (hC.bf.aH _) (aY.of_below hb);have sz:=iL hb.size;replace sC:=hC.size;clear hb;clear bL bM dh dV;obtain⟨bL,bM,dh,dV⟩ :=bB.f2;clear aj ak ay aI;obtain⟨aj,ak,ay,aI⟩ :=ah.f2;replace p0:=bA.jB bQ xM.out;have HY:=HS.of nW) | ((with_reducible refine(qP _ gX x yv _ (((bI.aH _).bf)).rd' hsz (by first|omega| (rw [HW.out];omega)) (by first|omega| (rw [HW.out];omega))).mono ?_);rintro e wq ⟨aG,y,b_,rfl,bZ,nW,dY,hb⟩;replace hb:=gq hb;replace dY:=ji dY;replace dY:=lW dY;have u_n:=bZ.lt;have lK:=bB.lt;have jy:=ah.lt;replace bB:= (bB.alloc _).below hb;replace ah:= (ah.alloc _).below hb;replace bI:= (bI.aH _).step0 hb;replace bQ:= (bQ.aH _).step0 hb;have aU:=aB.below (aB.new _ #[.slice none 0 0, .slice none 0 0] 26) hb;have jI:=hC.size;have gN:=aU.dn;have dX:=aU.lt;have bT:=aU.cell 0 _ rfl;have bU:=aU.cell 1 _ rfl;replace hc:=f_.up (hc.alloc _) hb;replace hC:=aY.trans (hC.aH _) (aY.of_below hb);have sz:=gV hb.size;replace sC:=hC.size;clear hb;clear bL bM dh dV;obtain⟨bL,bM,dh,dV⟩ :=bB.f2;clear aj ak ay aI;obtain⟨aj,ak,ay,aI⟩ :=ah.f2;replace p0:=bA.jB bQ xM.out;have HY:=HS.of nW))))
      all_goals
       go_wp2_with fail
       go_meet
       first|exact⟨_,aG,y,b_,rfl,rfl,HY,bB.alloc _,ah.alloc _,aB.new _ _ _,bI.aH _,bQ.aH _,bZ.aH _,fun b hb=> ⟨by have:=dY b hb;omega,by have:=u_n b hb;omega⟩,by omega,hc.alloc _,hC.aH _,by simp<;>omega⟩ | (obtain⟨go,hgo,og⟩ :=aU.ad;rw [←hgo];rw [←hgo] at jI;exact⟨go,aG,y,b_,rfl,rfl,HY, ((bB.other (by omega) _).other (by omega) _), ((ah.other (by omega) _).other (by omega) _), ((og.set 0 _).set 1 _),bI.aM (F:= [go]) bW (fun b hb hm=>by simp only [List.mem_cons,List.not_mem_nil,or_false] at hm;have:=nV b hb;have:=fT b hb;omega),bQ.aM (F:= [go]) bW (fun b hb hm=>by simp only [List.mem_cons,List.not_mem_nil,or_false] at hm;have:=fJ b hb;have:=iD b hb;omega),bZ.aM (F:= [go]) bW (fun b hb hm=>by simp only [List.mem_cons,List.not_mem_nil,or_false] at hm;have:=dY b hb;have:=u_n b hb;omega),fun b hb=> ⟨by have:=dY b hb;omega,by have:=dY b hb;have:=u_n b hb;omega⟩,by omega,hc.je (B:=w.heap.size) hgl dQ hC.size, ((hC.gY (by omega) _).gY (by omega) _),by simp<;>omega⟩)
     case rest=>
      clear bB dh dV bL bM
      clear ah ay aI aj ak
      clear bI
      clear bQ
      clear p0
      clear hC hc
      obtain⟨go,aG,y,b_,rfl,rfl,HY,bB,ah,aU,bI,bQ,bZ,dY,F5,hc,hC,sz⟩ :=hcut
      have rD:=aU.lt
      have jI : w.heap.size≤go:=by omega
      have u_n:=bZ.lt
      have sC:=hC.size
      obtain⟨bL,bM,dh,dV⟩ :=bB.f2
      obtain⟨aj,ak,ay,aI⟩ :=ah.f2
      obtain⟨bT,bU,eU,dX⟩ :=aU.f2
      have p0:=bA.jB bQ xM.out
      go_upto_region 9 with (fail)
      clear bI
      replace bB : aB ((wc.setCell ⟨w1.heap.size,0,none⟩ (.slice aG.Y.a aG.Y.l aG.Y.c)).setCell ⟨w1.heap.size,1,none⟩ (.slice aG.Z.a aG.Z.l aG.Z.c)) (w1.heap.size) [.slice aG.Y.a aG.Y.l aG.Y.c, .slice aG.Z.a aG.Z.l aG.Z.c]:= ((bB.set 0 (.slice aG.Y.a aG.Y.l aG.Y.c)).set 1 (.slice aG.Z.a aG.Z.l aG.Z.c))
      replace ah : aB ((wc.setCell ⟨w1.heap.size,0,none⟩ (.slice aG.Y.a aG.Y.l aG.Y.c)).setCell ⟨w1.heap.size,1,none⟩ (.slice aG.Z.a aG.Z.l aG.Z.c)) (w.heap.size) [.slice none 0 0, .slice none 0 0]:= ((ah.other (by omega) _).other (by omega) _)
      replace aU : aB ((wc.setCell ⟨w1.heap.size,0,none⟩ (.slice aG.Y.a aG.Y.l aG.Y.c)).setCell ⟨w1.heap.size,1,none⟩ (.slice aG.Z.a aG.Z.l aG.Z.c)) (go) [.slice aG.Y.a aG.Y.l aG.Y.c, .slice aG.Z.a aG.Z.l aG.Z.c]:= ((aU.other (by omega) _).other (by omega) _)
      replace bQ:=bQ.aM (F:= [w1.heap.size]) (w':= ((wc.setCell ⟨w1.heap.size,0,none⟩ (.slice aG.Y.a aG.Y.l aG.Y.c)).setCell ⟨w1.heap.size,1,none⟩ (.slice aG.Z.a aG.Z.l aG.Z.c))) bW (fun b hb hm=>by simp only [List.mem_cons,List.not_mem_nil,or_false] at hm;have:=fJ b hb;have:=iD b hb;omega)
      replace bZ:=bZ.aM (F:= [w1.heap.size]) (w':= ((wc.setCell ⟨w1.heap.size,0,none⟩ (.slice aG.Y.a aG.Y.l aG.Y.c)).setCell ⟨w1.heap.size,1,none⟩ (.slice aG.Z.a aG.Z.l aG.Z.c))) bW (fun b hb hm=>by simp only [List.mem_cons,List.not_mem_nil,or_false] at hm;have:=dY b hb;have:=u_n b hb;omega)
      replace hc : f_ ((wc.setCell ⟨w1.heap.size,0,none⟩ (.slice aG.Y.a aG.Y.l aG.Y.c)).setCell ⟨w1.heap.size,1,none⟩ (.slice aG.Z.a aG.Z.l aG.Z.c)) g code:=hc.je (B:=w.heap.size) hgl dQ hC.size
      replace hC : aY [g] w ((wc.setCell ⟨w1.heap.size,0,none⟩ (.slice aG.Y.a aG.Y.l aG.Y.c)).setCell ⟨w1.heap.size,1,none⟩ (.slice aG.Z.a aG.Z.l aG.Z.c)) := ((hC.gY (by omega) _).gY (by omega) _)
      have sz : wc.heap.size≤ ((wc.setCell ⟨w1.heap.size,0,none⟩ (.slice aG.Y.a aG.Y.l aG.Y.c)).setCell ⟨w1.heap.size,1,none⟩ (.slice aG.Z.a aG.Z.l aG.Z.c)).heap.size:=by simp
      generalize hG : ((wc.setCell ⟨w1.heap.size,0,none⟩ (.slice aG.Y.a aG.Y.l aG.Y.c)).setCell ⟨w1.heap.size,1,none⟩ (.slice aG.Z.a aG.Z.l aG.Z.c)) =F6 at bB ah aU bQ bZ hC hc sz⊢
      clear hG
      replace sC:=hC.size
      clear bL bM dh dV
      obtain⟨bL,bM,dh,dV⟩ :=bB.f2
      clear aj ak ay aI
      obtain⟨aj,ak,ay,aI⟩ :=ah.f2
      clear bT bU eU dX
      obtain⟨bT,bU,eU,dX⟩ :=aU.f2
      go_wp2_with fail
      go_roundw
      case rel=>exact⟨j+1,aG,y,by go_num,by omega,bB,ah,bZ,HY,fun b hb=>by have:=dY b hb;omega,bQ,hc,hC⟩
      case measure=>simp [intOf];omega
end Go.Proofs.YtkmggglljkmjoaaGreat
