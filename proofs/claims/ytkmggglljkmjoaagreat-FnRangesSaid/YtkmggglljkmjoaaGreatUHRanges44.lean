/- m -/
import Derived.Test.YtkmggglljkmjoaaGreatUHRanges38
set_option maxRecDepth 100000
set_option maxHeartbeats 4000000
namespace Go.Proofs.YtkmggglljkmjoaaGreat
open Go.RowKit
theorem G7 (w : World)(H : aA)(x : Base)(wk : Nat)(k a e r bb hh o c : Int)(d : Bool)(h : dz w H x)(b : BInv x)(he : dV e)(hw : wk<3)(c1 : bG 0 2 bb=false) :
  Calls Tryz.prog 237 #[H.val x, .int .i64 wk, (⟨k,a,2,e,r,bb,hh,o,c,d⟩ : aO).val] w (gQ w H) :=by
 obtain⟨w0,hW,F0,F4⟩ :=four w H x (⟨k,a,2,e,r,bb,hh,o,c,d⟩ : aO) h;simp only [w4] at hW;have bL:=F4.b.f8;have bM:=F4.s.f10;have dR:=F4.r.f8;have dY:=F4.t.f10;simp only at bM;have hsz:=F0.sz;simp only [aA.val,aO.val];obtain⟨gz,cap,A,c5,l,he2,hgw,hl,hll,hT,hg0,p1,p2,ino,hne,hsub⟩ :=l7 h F0 b hw;have HL:=Hid.aD hl;have HT:=Hid.aD hT;have HN:=Hid.aD hne;clear hl hT hne;rw [he2] at bL;simp only at bL;have HE:=Hid.aD he2;clear he2;have uL : (wk : Int) <3:=by omega
 have n0 : gz≠w.heap.size:=by omega
 have n1 : gz≠w.heap.size+1:=by omega
 have n2 : gz≠w.heap.size+2:=by omega
 have n3 : gz≠w.heap.size+3:=by omega
 have m0:=n0.symm;have m1:=n1.symm;have m2:=n2.symm;have m3:=n3.symm;have hq1:=fun W=>o9 c1 W;clear c1;go_enter Tryz.func237,Tryz.ntmps237;go_upto_region 1 with (fail);rw [←hW];clear hW;go_upto_region 18 with (fail);go_quiet (first| (go_at_call 102;with_reducible exact Calls.quiet_of_same (hq1 _)));go_wp2_with fail;go_region_with (first| (go_at_call 239;refine(iQ _ (⟨k,a,2,e,r,bb,hh,o,c,d⟩ : aO) _).mono ?_;rintro e1 wq ⟨rfl,hb⟩;obtain⟨os,d',rfl⟩ :=bN hb;clear hb; (try rw [grow_grow])))
 all_goals
  go_wp2_with fail;refine bodyPost_ret (v:= .tuple #[aA.val H x, (⟨k,a,2,e,r,bb,hh,o,1,true⟩ : aO).val]) (by simp [results,Tryz.results237,go_sem,aA.val,aO.val,dR,dY,HE.out]) rfl (aQ.fin (by repeat (first|with_reducible exact F0|with_reducible refine aQ.dG ?_ (by omega) _|with_reducible refine aQ.bZ ?_ _ _|with_reducible refine aQ.av ?_ _|with_reducible refine aQ.aY ?_|with_reducible refine aQ.qZ ?_ _)) b (⟨k,a,2,e,r,bb,hh,o,1,true⟩ : aO) he)
theorem G8 (w : World)(H : aA)(x : Base)(wk : Nat)(k a e r bb hh o c : Int)(d : Bool)(h : dz w H x)(b : BInv x)(he : dV e)(hw : wk<3)(ll : List fP)(hrow : x.aB[wk]? =some ll)(c1 : bG 0 2 bb=true)(c2 : bG 0 ((ll.length : Int) - 1) r=false) :
  Calls Tryz.prog 237 #[H.val x, .int .i64 wk, (⟨k,a,2,e,r,bb,hh,o,c,d⟩ : aO).val] w (gQ w H) :=by
 obtain⟨w0,hW,F0,F4⟩ :=four w H x (⟨k,a,2,e,r,bb,hh,o,c,d⟩ : aO) h;simp only [w4] at hW;have bL:=F4.b.f8;have bM:=F4.s.f10;have dR:=F4.r.f8;have dY:=F4.t.f10;simp only at bM;have hsz:=F0.sz;simp only [aA.val,aO.val];obtain⟨gz,cap,A,c5,l,he2,hgw,hl,hll,hT,hg0,p1,p2,ino,hne,hsub⟩ :=l7 h F0 b hw;obtain rfl : l=ll:=Option.some.inj (hl.symm.trans hrow);clear hrow;have HL:=Hid.aD hl;have HT:=Hid.aD hT;have HN:=Hid.aD hne;clear hl hT hne;rw [he2] at bL;simp only at bL;have HE:=Hid.aD he2;clear he2;have uL : (wk : Int) <3:=by omega
 have n0 : gz≠w.heap.size:=by omega
 have n1 : gz≠w.heap.size+1:=by omega
 have n2 : gz≠w.heap.size+2:=by omega
 have n3 : gz≠w.heap.size+3:=by omega
 have m0:=n0.symm;have m1:=n1.symm;have m2:=n2.symm;have m3:=n3.symm;have hq1:=fun W=>o9 c1 W;have Gq : IntKind.i64.wrap ((l.length : Int) - 1) = (l.length : Int) - 1:=by rw [IntKind.wrap_i64];omega
 have hq2:=fun W=>o9 c2 W;clear c1 c2;go_enter Tryz.func237,Tryz.ntmps237;go_upto_region 1 with (fail);rw [←hW];clear hW;go_upto_region 18 with (fail);go_quiet (first| (go_at_call 102;with_reducible exact Calls.quiet_of_same (hq1 _)) | (go_at_call 102;with_reducible exact Calls.quiet_of_same (hq2 _)));go_wp2_with fail;go_region_with (first| (go_at_call 239;refine(iQ _ (⟨k,a,2,e,r,bb,hh,o,c,d⟩ : aO) _).mono ?_;rintro e1 wq ⟨rfl,hb⟩;obtain⟨os,d',rfl⟩ :=bN hb;clear hb; (try rw [grow_grow])))
 all_goals
  go_wp2_with fail;refine bodyPost_ret (v:= .tuple #[aA.val H x, (⟨k,a,2,e,r,bb,hh,o,1,true⟩ : aO).val]) (by simp [results,Tryz.results237,go_sem,aA.val,aO.val,dR,dY,HE.out]) rfl (aQ.fin (by repeat (first|with_reducible exact F0|with_reducible refine aQ.dG ?_ (by omega) _|with_reducible refine aQ.bZ ?_ _ _|with_reducible refine aQ.av ?_ _|with_reducible refine aQ.aY ?_|with_reducible refine aQ.qZ ?_ _)) b (⟨k,a,2,e,r,bb,hh,o,1,true⟩ : aO) he)
theorem G9 (w : World)(H : aA)(x : Base)(wk : Nat)(i : Nat)(k a e bb hh o c : Int)(d : Bool)(h : dz w H x)(b : BInv x)(he : dV e)(hw : wk<3)(ll : List fP)(hrow : x.aB[wk]? =some ll)(hil : i<ll.length)(c1 : bG 0 2 bb=true)(c3 : (ll[i].Handle != hh) =true) :
  Calls Tryz.prog 237 #[H.val x, .int .i64 wk, (⟨k,a,2,e, (i : Int),bb,hh,o,c,d⟩ : aO).val] w (gQ w H) :=by
 obtain⟨w0,hW,F0,F4⟩ :=four w H x (⟨k,a,2,e, (i : Int),bb,hh,o,c,d⟩ : aO) h;simp only [w4] at hW;have bL:=F4.b.f8;have bM:=F4.s.f10;have dR:=F4.r.f8;have dY:=F4.t.f10;simp only at bM;have hsz:=F0.sz;simp only [aA.val,aO.val];obtain⟨gz,cap,A,c5,l,he2,hgw,hl,hll,hT,hg0,p1,p2,ino,hne,hsub⟩ :=l7 h F0 b hw;obtain rfl : l=ll:=Option.some.inj (hl.symm.trans hrow);clear hrow;have HL:=Hid.aD hl;have HT:=Hid.aD hT;have HN:=Hid.aD hne;clear hl hT hne;rw [he2] at bL;simp only at bL;have HE:=Hid.aD he2;clear he2;have uL : (wk : Int) <3:=by omega
 have n0 : gz≠w.heap.size:=by omega
 have n1 : gz≠w.heap.size+1:=by omega
 have n2 : gz≠w.heap.size+2:=by omega
 have n3 : gz≠w.heap.size+3:=by omega
 have m0:=n0.symm;have m1:=n1.symm;have m2:=n2.symm;have m3:=n3.symm;have hq1:=fun W=>o9 c1 W;obtain⟨gr,gq,hgr,hgf,p3,p4⟩ :=vI ino hil;subst gq;have DC:=h.lt gr (aA.aI.2 (.inr (.inr (.inl (hsub gr hgf)))));clear hgf;have n40 : gr≠w.heap.size:=by omega
 have n41 : gr≠w.heap.size+1:=by omega
 have n42 : gr≠w.heap.size+2:=by omega
 have n43 : gr≠w.heap.size+3:=by omega
 have JA:=n40.symm;have JB:=n41.symm;have JC:=n42.symm;have JD:=n43.symm;have hi1 : (i : Int) < (l.length : Int) :=by omega
 have Gq : IntKind.i64.wrap ((l.length : Int) - 1) = (l.length : Int) - 1:=by rw [IntKind.wrap_i64];omega
 have c2 : bG 0 ((l.length : Int) - 1) (i : Int) =true:=bH.2 ⟨by omega,by omega⟩;have hq2:=fun W=>o9 c2 W;clear c2;clear c1;generalize l[i]=rw at p3 p4 c3;go_enter Tryz.func237,Tryz.ntmps237;go_upto_region 1 with (fail);rw [←hW];clear hW;go_upto_region 18 with (fail);go_quiet (first| (go_at_call 102;with_reducible exact Calls.quiet_of_same (hq1 _)) | (go_at_call 102;with_reducible exact Calls.quiet_of_same (hq2 _)));go_wp2_with fail;go_region_with (first| (go_at_call 239;refine(iQ _ (⟨k,a,2,e, (i : Int),bb,hh,o,c,d⟩ : aO) _).mono ?_;rintro e1 wq ⟨rfl,hb⟩;obtain⟨os,d',rfl⟩ :=bN hb;clear hb; (try rw [grow_grow])))
 all_goals
  go_wp2_with fail;refine bodyPost_ret (v:= .tuple #[aA.val H x, (⟨k,a,2,e, (i : Int),bb,hh,o,1,true⟩ : aO).val]) (by simp [results,Tryz.results237,go_sem,aA.val,aO.val,dR,dY,HE.out]) rfl (aQ.fin (by repeat (first|with_reducible exact F0|with_reducible refine aQ.dG ?_ (by omega) _|with_reducible refine aQ.bZ ?_ _ _|with_reducible refine aQ.av ?_ _|with_reducible refine aQ.aY ?_|with_reducible refine aQ.qZ ?_ _)) b (⟨k,a,2,e, (i : Int),bb,hh,o,1,true⟩ : aO) he)
theorem G_ (w : World)(H : aA)(x : Base)(wk : Nat)(i j : Nat)(hh k a e o c : Int)(d : Bool)(h : dz w H x)(b : BInv x)(he : dV e)(hw : wk<3)(ll : List fP)(hrow : x.aB[wk]? =some ll)(hil : i<ll.length)(hj : j<3)(vT : ll[i].Handle=hh)(hz : ∀z,x.bf[j]? =some z→ (z == hh) =true) :
  Calls Tryz.prog 237 #[H.val x, .int .i64 wk, (⟨k,a,2,e, (i : Int), (j : Int),hh,o,c,d⟩ : aO).val] w (gQ w H) :=by
 obtain⟨w0,hW,F0,F4⟩ :=four w H x (⟨k,a,2,e, (i : Int), (j : Int),hh,o,c,d⟩ : aO) h;simp only [w4] at hW;have bL:=F4.b.f8;have bM:=F4.s.f10;have dR:=F4.r.f8;have dY:=F4.t.f10;simp only at bM;have hsz:=F0.sz;simp only [aA.val,aO.val];obtain⟨gz,cap,A,c5,l,he2,hgw,hl,hll,hT,hg0,p1,p2,ino,hne,hsub⟩ :=l7 h F0 b hw;obtain rfl : l=ll:=Option.some.inj (hl.symm.trans hrow);clear hrow;have HL:=Hid.aD hl;have HT:=Hid.aD hT;have HN:=Hid.aD hne;clear hl hT hne;rw [he2] at bL;simp only at bL;have HE:=Hid.aD he2;clear he2;have uL : (wk : Int) <3:=by omega
 have n0 : gz≠w.heap.size:=by omega
 have n1 : gz≠w.heap.size+1:=by omega
 have n2 : gz≠w.heap.size+2:=by omega
 have n3 : gz≠w.heap.size+3:=by omega
 have m0:=n0.symm;have m1:=n1.symm;have m2:=n2.symm;have m3:=n3.symm;have c1 : bG 0 2 (j : Int) =true:=bH.2 ⟨by omega,by omega⟩;have hq1:=fun W=>o9 c1 W;obtain⟨gr,gq,hgr,hgf,p3,p4⟩ :=vI ino hil;subst gq;have DC:=h.lt gr (aA.aI.2 (.inr (.inr (.inl (hsub gr hgf)))));clear hgf;have n40 : gr≠w.heap.size:=by omega
 have n41 : gr≠w.heap.size+1:=by omega
 have n42 : gr≠w.heap.size+2:=by omega
 have n43 : gr≠w.heap.size+3:=by omega
 have JA:=n40.symm;have JB:=n41.symm;have JC:=n42.symm;have JD:=n43.symm;have hi1 : (i : Int) < (l.length : Int) :=by omega
 have Gq : IntKind.i64.wrap ((l.length : Int) - 1) = (l.length : Int) - 1:=by rw [IntKind.wrap_i64];omega
 have c2 : bG 0 ((l.length : Int) - 1) (i : Int) =true:=bH.2 ⟨by omega,by omega⟩;have hq2:=fun W=>o9 c2 W;clear c2;clear c1;rw [vT] at p3;obtain⟨gh,ch,z,Bv,Ri,hgh,p5,Gr⟩ :=Jv h F0 b hj;have hz:=hz z Gr;clear Gr;rw [Bv] at bL;simp only at bL;have HZ:=Hid.aD Bv;clear Bv vT;have n50 : gh≠w.heap.size:=by omega
 have n51 : gh≠w.heap.size+1:=by omega
 have n52 : gh≠w.heap.size+2:=by omega
 have n53 : gh≠w.heap.size+3:=by omega
 have SQ:=n50.symm;have SS:=n51.symm;have SX:=n52.symm;have SY:=n53.symm;have hwi : IntKind.i64.wrap ((i : Int) +1) = (i : Int) +1:=by rw [IntKind.wrap_i64];omega
 have S_ : IntKind.i64.wrap ((j : Int) +1) = (j : Int) +1:=by rw [IntKind.wrap_i64];omega
 go_enter Tryz.func237,Tryz.ntmps237;go_upto_region 1 with (fail);rw [←hW];clear hW;go_upto_region 18 with (fail);go_quiet (first| (go_at_call 102;with_reducible exact Calls.quiet_of_same (hq1 _)) | (go_at_call 102;with_reducible exact Calls.quiet_of_same (hq2 _)));go_upto_region 20 with (fail);go_quiet (fail);go_wp2_with fail;go_region
 all_goals
  go_wp2_with fail;refine bodyPost_ret (v:= .tuple #[aA.val H x, (⟨k,a,1,e, ((i : Int) +1), (j : Int),hh,o,c,d⟩ : aO).val]) (by simp [results,Tryz.results237,go_sem,aA.val,aO.val,dR,dY,HE.out,HZ.out]) rfl (aQ.fin (by repeat (first|with_reducible exact F0|with_reducible refine aQ.dG ?_ (by omega) _|with_reducible refine aQ.bZ ?_ _ _|with_reducible refine aQ.av ?_ _|with_reducible refine aQ.aY ?_|with_reducible refine aQ.qZ ?_ _)) b (⟨k,a,1,e, ((i : Int) +1), (j : Int),hh,o,c,d⟩ : aO) he)
theorem He (w : World)(H : aA)(x : Base)(wk : Nat)(i j : Nat)(hh k a e o c : Int)(d : Bool)(h : dz w H x)(b : BInv x)(he : dV e)(hw : wk<3)(ll : List fP)(hrow : x.aB[wk]? =some ll)(hil : i<ll.length)(hj : j<3)(vT : ll[i].Handle=hh)(hz : ∀z,x.bf[j]? =some z→ (z == hh) =false)(h3 : ((j : Int) +1 == 3) =true) :
  Calls Tryz.prog 237 #[H.val x, .int .i64 wk, (⟨k,a,2,e, (i : Int), (j : Int),hh,o,c,d⟩ : aO).val] w (gQ w H) :=by
 obtain⟨w0,hW,F0,F4⟩ :=four w H x (⟨k,a,2,e, (i : Int), (j : Int),hh,o,c,d⟩ : aO) h;simp only [w4] at hW;have bL:=F4.b.f8;have bM:=F4.s.f10;have dR:=F4.r.f8;have dY:=F4.t.f10;simp only at bM;have hsz:=F0.sz;simp only [aA.val,aO.val];obtain⟨gz,cap,A,c5,l,he2,hgw,hl,hll,hT,hg0,p1,p2,ino,hne,hsub⟩ :=l7 h F0 b hw;obtain rfl : l=ll:=Option.some.inj (hl.symm.trans hrow);clear hrow;have HL:=Hid.aD hl;have HT:=Hid.aD hT;have HN:=Hid.aD hne;clear hl hT hne;rw [he2] at bL;simp only at bL;have HE:=Hid.aD he2;clear he2;have uL : (wk : Int) <3:=by omega
 have n0 : gz≠w.heap.size:=by omega
 have n1 : gz≠w.heap.size+1:=by omega
 have n2 : gz≠w.heap.size+2:=by omega
 have n3 : gz≠w.heap.size+3:=by omega
 have m0:=n0.symm;have m1:=n1.symm;have m2:=n2.symm;have m3:=n3.symm;have c1 : bG 0 2 (j : Int) =true:=bH.2 ⟨by omega,by omega⟩;have hq1:=fun W=>o9 c1 W;obtain⟨gr,gq,hgr,hgf,p3,p4⟩ :=vI ino hil;subst gq;have DC:=h.lt gr (aA.aI.2 (.inr (.inr (.inl (hsub gr hgf)))));clear hgf;have n40 : gr≠w.heap.size:=by omega
 have n41 : gr≠w.heap.size+1:=by omega
 have n42 : gr≠w.heap.size+2:=by omega
 have n43 : gr≠w.heap.size+3:=by omega
 have JA:=n40.symm;have JB:=n41.symm;have JC:=n42.symm;have JD:=n43.symm;have hi1 : (i : Int) < (l.length : Int) :=by omega
 have Gq : IntKind.i64.wrap ((l.length : Int) - 1) = (l.length : Int) - 1:=by rw [IntKind.wrap_i64];omega
 have c2 : bG 0 ((l.length : Int) - 1) (i : Int) =true:=bH.2 ⟨by omega,by omega⟩;have hq2:=fun W=>o9 c2 W;clear c2;clear c1;rw [vT] at p3;obtain⟨gh,ch,z,Bv,Ri,hgh,p5,Gr⟩ :=Jv h F0 b hj;have hz:=hz z Gr;clear Gr;rw [Bv] at bL;simp only at bL;have HZ:=Hid.aD Bv;clear Bv vT;have n50 : gh≠w.heap.size:=by omega
 have n51 : gh≠w.heap.size+1:=by omega
 have n52 : gh≠w.heap.size+2:=by omega
 have n53 : gh≠w.heap.size+3:=by omega
 have SQ:=n50.symm;have SS:=n51.symm;have SX:=n52.symm;have SY:=n53.symm;have hwi : IntKind.i64.wrap ((i : Int) +1) = (i : Int) +1:=by rw [IntKind.wrap_i64];omega
 have S_ : IntKind.i64.wrap ((j : Int) +1) = (j : Int) +1:=by rw [IntKind.wrap_i64];omega
 go_enter Tryz.func237,Tryz.ntmps237;go_upto_region 1 with (fail);rw [←hW];clear hW;go_upto_region 18 with (fail);go_quiet (first| (go_at_call 102;with_reducible exact Calls.quiet_of_same (hq1 _)) | (go_at_call 102;with_reducible exact Calls.quiet_of_same (hq2 _)));go_upto_region 20 with (fail);go_quiet (fail);go_wp2_with fail;go_region
 all_goals
  go_wp2_with fail;refine bodyPost_ret (v:= .tuple #[aA.val H x, (⟨k,a,3,e, (i : Int), ((j : Int) +1),hh,o,c,d⟩ : aO).val]) (by simp [results,Tryz.results237,go_sem,aA.val,aO.val,dR,dY,HE.out,HZ.out]) rfl (aQ.fin (by repeat (first|with_reducible exact F0|with_reducible refine aQ.dG ?_ (by omega) _|with_reducible refine aQ.bZ ?_ _ _|with_reducible refine aQ.av ?_ _|with_reducible refine aQ.aY ?_|with_reducible refine aQ.qZ ?_ _)) b (⟨k,a,3,e, (i : Int), ((j : Int) +1),hh,o,c,d⟩ : aO) he)
theorem Hf (w : World)(H : aA)(x : Base)(wk : Nat)(i j : Nat)(hh k a e o c : Int)(d : Bool)(h : dz w H x)(b : BInv x)(he : dV e)(hw : wk<3)(ll : List fP)(hrow : x.aB[wk]? =some ll)(hil : i<ll.length)(hj : j<3)(vT : ll[i].Handle=hh)(hz : ∀z,x.bf[j]? =some z→ (z == hh) =false)(h3 : ((j : Int) +1 == 3) =false) :
  Calls Tryz.prog 237 #[H.val x, .int .i64 wk, (⟨k,a,2,e, (i : Int), (j : Int),hh,o,c,d⟩ : aO).val] w (gQ w H) :=by
 obtain⟨w0,hW,F0,F4⟩ :=four w H x (⟨k,a,2,e, (i : Int), (j : Int),hh,o,c,d⟩ : aO) h;simp only [w4] at hW;have bL:=F4.b.f8;have bM:=F4.s.f10;have dR:=F4.r.f8;have dY:=F4.t.f10;simp only at bM;have hsz:=F0.sz;simp only [aA.val,aO.val];obtain⟨gz,cap,A,c5,l,he2,hgw,hl,hll,hT,hg0,p1,p2,ino,hne,hsub⟩ :=l7 h F0 b hw;obtain rfl : l=ll:=Option.some.inj (hl.symm.trans hrow);clear hrow;have HL:=Hid.aD hl;have HT:=Hid.aD hT;have HN:=Hid.aD hne;clear hl hT hne;rw [he2] at bL;simp only at bL;have HE:=Hid.aD he2;clear he2;have uL : (wk : Int) <3:=by omega
 have n0 : gz≠w.heap.size:=by omega
 have n1 : gz≠w.heap.size+1:=by omega
 have n2 : gz≠w.heap.size+2:=by omega
 have n3 : gz≠w.heap.size+3:=by omega
 have m0:=n0.symm;have m1:=n1.symm;have m2:=n2.symm;have m3:=n3.symm;have c1 : bG 0 2 (j : Int) =true:=bH.2 ⟨by omega,by omega⟩;have hq1:=fun W=>o9 c1 W;obtain⟨gr,gq,hgr,hgf,p3,p4⟩ :=vI ino hil;subst gq;have DC:=h.lt gr (aA.aI.2 (.inr (.inr (.inl (hsub gr hgf)))));clear hgf;have n40 : gr≠w.heap.size:=by omega
 have n41 : gr≠w.heap.size+1:=by omega
 have n42 : gr≠w.heap.size+2:=by omega
 have n43 : gr≠w.heap.size+3:=by omega
 have JA:=n40.symm;have JB:=n41.symm;have JC:=n42.symm;have JD:=n43.symm;have hi1 : (i : Int) < (l.length : Int) :=by omega
 have Gq : IntKind.i64.wrap ((l.length : Int) - 1) = (l.length : Int) - 1:=by rw [IntKind.wrap_i64];omega
 have c2 : bG 0 ((l.length : Int) - 1) (i : Int) =true:=bH.2 ⟨by omega,by omega⟩;have hq2:=fun W=>o9 c2 W;clear c2;clear c1;rw [vT] at p3;obtain⟨gh,ch,z,Bv,Ri,hgh,p5,Gr⟩ :=Jv h F0 b hj;have hz:=hz z Gr;clear Gr;rw [Bv] at bL;simp only at bL;have HZ:=Hid.aD Bv;clear Bv vT;have n50 : gh≠w.heap.size:=by omega
 have n51 : gh≠w.heap.size+1:=by omega
 have n52 : gh≠w.heap.size+2:=by omega
 have n53 : gh≠w.heap.size+3:=by omega
 have SQ:=n50.symm;have SS:=n51.symm;have SX:=n52.symm;have SY:=n53.symm;have hwi : IntKind.i64.wrap ((i : Int) +1) = (i : Int) +1:=by rw [IntKind.wrap_i64];omega
 have S_ : IntKind.i64.wrap ((j : Int) +1) = (j : Int) +1:=by rw [IntKind.wrap_i64];omega
 go_enter Tryz.func237,Tryz.ntmps237;go_upto_region 1 with (fail);rw [←hW];clear hW;go_upto_region 18 with (fail);go_quiet (first| (go_at_call 102;with_reducible exact Calls.quiet_of_same (hq1 _)) | (go_at_call 102;with_reducible exact Calls.quiet_of_same (hq2 _)));go_upto_region 20 with (fail);go_quiet (fail);go_wp2_with fail;go_region
 all_goals
  go_wp2_with fail;refine bodyPost_ret (v:= .tuple #[aA.val H x, (⟨k,a,2,e, (i : Int), ((j : Int) +1),hh,o,c,d⟩ : aO).val]) (by simp [results,Tryz.results237,go_sem,aA.val,aO.val,dR,dY,HE.out,HZ.out]) rfl (aQ.fin (by repeat (first|with_reducible exact F0|with_reducible refine aQ.dG ?_ (by omega) _|with_reducible refine aQ.bZ ?_ _ _|with_reducible refine aQ.av ?_ _|with_reducible refine aQ.aY ?_|with_reducible refine aQ.qZ ?_ _)) b (⟨k,a,2,e, (i : Int), ((j : Int) +1),hh,o,c,d⟩ : aO) he)
end Go.Proofs.YtkmggglljkmjoaaGreat
