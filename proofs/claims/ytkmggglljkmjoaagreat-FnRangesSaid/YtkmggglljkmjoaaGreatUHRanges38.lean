/- m -/
import Derived.Test.YtkmggglljkmjoaaGreatUHRanges30
import Derived.Test.YtkmggglljkmjoaaGreatUHRanges29
set_option maxRecDepth 100000
set_option maxHeartbeats 4000000
namespace Go.Proofs.YtkmggglljkmjoaaGreat
open Go.RowKit
theorem Jw (w : World)(H : aA)(x : Base)(wk : Nat)(k a p e r bb hh o c : Int)(d : Bool)(h : dz w H x)(b : BInv x)(he : dV e)(hw : wk<3)(c0 : (p == 0) =false)(c1 : (p == 1) =false)(c2 : (p == 2) =false)(c3 : (p == 3) =false) :
  Calls Tryz.prog 237 #[H.val x, .int .i64 wk, (⟨k,a,p,e,r,bb,hh,o,c,d⟩ : aO).val] w (gQ w H) :=by
 obtain⟨w0,hW,F0,F4⟩ :=four w H x (⟨k,a,p,e,r,bb,hh,o,c,d⟩ : aO) h;simp only [w4] at hW;have bL:=F4.b.f8;have bM:=F4.s.f10;have dR:=F4.r.f8;have dY:=F4.t.f10;simp only at bM;have hsz:=F0.sz;simp only [aA.val,aO.val];obtain⟨gz,cap,A,c5,l,he2,hgw,hl,hll,hT,hg0,p1,p2,ino,hne,hsub⟩ :=l7 h F0 b hw;have HL:=Hid.aD hl;have HT:=Hid.aD hT;have HN:=Hid.aD hne;clear hl hT hne;rw [he2] at bL;simp only at bL;have HE:=Hid.aD he2;clear he2;have uL : (wk : Int) <3:=by omega
 have n0 : gz≠w.heap.size:=by omega
 have n1 : gz≠w.heap.size+1:=by omega
 have n2 : gz≠w.heap.size+2:=by omega
 have n3 : gz≠w.heap.size+3:=by omega
 have m0:=n0.symm;have m1:=n1.symm;have m2:=n2.symm;have m3:=n3.symm;go_enter Tryz.func237,Tryz.ntmps237;go_upto_region 1 with (fail);rw [←hW];clear hW;go_wp2_with fail;go_region_with (first| (go_at_call 239;refine(iQ _ (⟨k,a,p,e,r,bb,hh,o,c,d⟩ : aO) _).mono ?_;rintro e1 wq ⟨rfl,hb⟩;obtain⟨os,d',rfl⟩ :=bN hb;clear hb))
 all_goals
  go_wp2_with fail;refine bodyPost_ret (v:= .tuple #[aA.val H x, (⟨k,a,p,e,r,bb,hh,o,1,true⟩ : aO).val]) (by simp [results,Tryz.results237,go_sem,aA.val,aO.val,dR,dY,HE.out]) rfl (aQ.fin (by repeat (first|with_reducible exact F0|with_reducible refine aQ.dG ?_ (by omega) _|with_reducible refine aQ.bZ ?_ _ _|with_reducible refine aQ.av ?_ _|with_reducible refine aQ.aY ?_)) b (⟨k,a,p,e,r,bb,hh,o,1,true⟩ : aO) he)
theorem Jy (w : World)(H : aA)(x : Base)(wk : Nat)(k a e r bb hh o c : Int)(d : Bool)(h : dz w H x)(b : BInv x)(_he : dV e)(hw : wk<3) :
  Calls Tryz.prog 237 #[H.val x, .int .i64 wk, (⟨k,a,0,e,r,bb,hh,o,c,d⟩ : aO).val] w (gQ w H) :=by
 obtain⟨w0,hW,F0,F4⟩ :=four w H x (⟨k,a,0,e,r,bb,hh,o,c,d⟩ : aO) h;simp only [w4] at hW;have bL:=F4.b.f8;have bM:=F4.s.f10;have dR:=F4.r.f8;have dY:=F4.t.f10;simp only at bM;have hsz:=F0.sz;simp only [aA.val,aO.val];obtain⟨gz,cap,A,c5,l,he2,hgw,hl,hll,hT,hg0,p1,p2,ino,hne,hsub⟩ :=l7 h F0 b hw;have HL:=Hid.aD hl;have HT:=Hid.aD hT;have HN:=Hid.aD hne;clear hl hT hne;rw [he2] at bL;simp only at bL;have HE:=Hid.aD he2;clear he2;have uL : (wk : Int) <3:=by omega
 have n0 : gz≠w.heap.size:=by omega
 have n1 : gz≠w.heap.size+1:=by omega
 have n2 : gz≠w.heap.size+2:=by omega
 have n3 : gz≠w.heap.size+3:=by omega
 have m0:=n0.symm;have m1:=n1.symm;have m2:=n2.symm;have m3:=n3.symm;go_enter Tryz.func237,Tryz.ntmps237;go_upto_region 1 with (fail);rw [←hW];clear hW;go_wp2_with fail;go_region
 all_goals
  go_wp2_with fail;refine bodyPost_ret (v:= .tuple #[aA.val H x, (⟨k,a,1,x.Clock.Epoch,0,bb,hh,o,c,d⟩ : aO).val]) (by simp [results,Tryz.results237,go_sem,aA.val,aO.val,dR,dY,HE.out]) rfl (aQ.fin (by repeat (first|with_reducible exact F0|with_reducible refine aQ.dG ?_ (by omega) _|with_reducible refine aQ.bZ ?_ _ _|with_reducible refine aQ.av ?_ _|with_reducible refine aQ.aY ?_)) b (⟨k,a,1,x.Clock.Epoch,0,bb,hh,o,c,d⟩ : aO) b.ep)
theorem Jz (w : World)(H : aA)(x : Base)(wk : Nat)(k a e r bb hh o c : Int)(d : Bool)(h : dz w H x)(b : BInv x)(he : dV e)(hw : wk<3) :
  Calls Tryz.prog 237 #[H.val x, .int .i64 wk, (⟨k,a,1,e,r,bb,hh,o,c,d⟩ : aO).val] w (gQ w H) :=by
 obtain⟨w0,hW,F0,F4⟩ :=four w H x (⟨k,a,1,e,r,bb,hh,o,c,d⟩ : aO) h;simp only [w4] at hW;have bL:=F4.b.f8;have bM:=F4.s.f10;have dR:=F4.r.f8;have dY:=F4.t.f10;simp only at bM;have hsz:=F0.sz;simp only [aA.val,aO.val];obtain⟨gz,cap,A,c5,l,he2,hgw,hl,hll,hT,hg0,p1,p2,ino,hne,hsub⟩ :=l7 h F0 b hw;have HL:=Hid.aD hl;have HT:=Hid.aD hT;have HN:=Hid.aD hne;clear hl hT hne;rw [he2] at bL;simp only at bL;have HE:=Hid.aD he2;clear he2;have uL : (wk : Int) <3:=by omega
 have n0 : gz≠w.heap.size:=by omega
 have n1 : gz≠w.heap.size+1:=by omega
 have n2 : gz≠w.heap.size+2:=by omega
 have n3 : gz≠w.heap.size+3:=by omega
 have m0:=n0.symm;have m1:=n1.symm;have m2:=n2.symm;have m3:=n3.symm;go_enter Tryz.func237,Tryz.ntmps237;go_upto_region 1 with (fail);rw [←hW];clear hW;go_wp2_with fail;refine(MH _ _ l r e ino.rd' (by omega) he).mono ?_;rintro e1 w1 ⟨k1,rfl,hk,hb⟩;have F1:=F0.below hb;replace F4:=F4.below hb;have sz:=hb.size;rcases hk with rfl| ⟨i,rfl,hil⟩
 ·obtain⟨os0,d0,rfl⟩ :=bN hb
  clear hb F1 F4;go_wp2_with fail;go_region_with (first| (go_at_call 239;refine(iQ _ (⟨k,a,1,e,r,bb,hh,o,c,d⟩ : aO) _).mono ?_;rintro e1 wq ⟨rfl,hb⟩;obtain⟨os,d',rfl⟩ :=bN hb;clear hb; (try rw [grow_grow])))
  all_goals
   go_wp2_with fail;refine bodyPost_ret (v:= .tuple #[aA.val H x, (⟨k,a,1,e,r,bb,hh,o,0,true⟩ : aO).val]) (by simp [results,Tryz.results237,go_sem,aA.val,aO.val,dR,dY,HE.out]) rfl (aQ.fin (by repeat (first|with_reducible exact F0|with_reducible refine aQ.dG ?_ (by omega) _|with_reducible refine aQ.bZ ?_ _ _|with_reducible refine aQ.av ?_ _|with_reducible refine aQ.aY ?_)) b (⟨k,a,1,e,r,bb,hh,o,0,true⟩ : aO) he)
 ·obtain⟨os0,d0,rfl⟩ :=bN hb
  clear hb F1 F4;obtain⟨gr,gq,hgr,hgf,p3,p4⟩ :=vI ino hil;subst gq;have DC:=h.lt gr (aA.aI.2 (.inr (.inr (.inl (hsub gr hgf)))));clear hgf;have n40 : gr≠w.heap.size:=by omega
  have n41 : gr≠w.heap.size+1:=by omega
  have n42 : gr≠w.heap.size+2:=by omega
  have n43 : gr≠w.heap.size+3:=by omega
  have JA:=n40.symm;have JB:=n41.symm;have JC:=n42.symm;have JD:=n43.symm;have hi0 : ¬ (i : Int) <0:=by omega
  have hi1 : (i : Int) < (l.length : Int) :=by omega
  generalize l[i]=rw at p3 p4;go_wp2_with fail;go_region
  all_goals
   go_wp2_with fail;refine bodyPost_ret (v:= .tuple #[aA.val H x, (⟨k,a,2,e, (i : Int),0,rw.Handle,o,c,d⟩ : aO).val]) (by simp [results,Tryz.results237,go_sem,aA.val,aO.val,dR,dY,HE.out]) rfl (aQ.fin (by repeat (first|with_reducible exact F0|with_reducible refine aQ.dG ?_ (by omega) _|with_reducible refine aQ.bZ ?_ _ _|with_reducible refine aQ.av ?_ _|with_reducible refine aQ.aY ?_)) b (⟨k,a,2,e, (i : Int),0,rw.Handle,o,c,d⟩ : aO) he)
end Go.Proofs.YtkmggglljkmjoaaGreat
