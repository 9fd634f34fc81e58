/- m -/
import Derived.Test.YtkmggglljkmjoaaGreatUHRanges38
set_option maxRecDepth 100000
set_option maxHeartbeats 4000000
namespace Go.Proofs.YtkmggglljkmjoaaGreat
open Go.RowKit
@[reducible] def qD (w : World) (g i : Nat) (r : fP) : Prop:=w.cell? ⟨g,i * 2,none⟩ =some (.int .i64 r.Handle) ∧w.cell? ⟨g,i * 2+1,none⟩ =some (.int .i64 r.Epoch)
theorem qD.bZ {w : World}{g i : Nat}{r : fP}(h : qD w g i r)(hg : g<w.heap.size)(os : List Obj)(d : Nat) : qD (grow w os d) g i r:= ⟨(cell?_grow _ _ _ _ _ hg).trans h.1, (cell?_grow _ _ _ _ _ hg).trans h.2⟩
theorem qD.aY {w : World}{g i : Nat}{r : fP}(h : qD w g i r) : qD w.drew g i r:=h
theorem OQ {w V : World}{H : aA}{x : Base}(F : aQ w V H H x){k gz cap c : Nat}{A : Option Addr}{l : List fP}(e : H.aB= ⟨some ⟨gz,0,none⟩,3,cap⟩)(hT : H.jk[k]? =some ⟨A,l.length,c⟩)(hl : x.aB[k]? =some l) :
  gz<V.heap.size∧V.cell? ⟨gz,k,none⟩ =some (.slice A l.length c) ∧V.frozen? ⟨gz,k,none⟩ =false∧aX gZ 83 V (.slice A l.length c) l:=by
 have o:=F.o.aB;have ino:=o.inner k _ _ hT hl;rw [e] at o;have po:=aX.cell_ (show aX FS _ V (.slice (some ⟨gz,0,none⟩) 3 cap) _ from o.outer) (j:=0) hT (by decide);simp only [FS,Nat.mul_one,Nat.add_zero] at po;exact⟨o.lt gz (dw.2 (.inl rfl)),po,aX.dM (show aX FS _ V (.slice (some ⟨gz,0,none⟩) 3 cap) _ from o.outer) k,ino⟩
theorem MI {x : Base}(b : BInv x){k : Nat}{l : List fP}(hl : x.aB[k]? =some l){i : Nat}(hi : i<l.length) :
  dO l[i].Handle=true∧ ∃c : Nat,aG x.Mem.E (l[i].Handle%32) = (c : Int) ∧c<3∧dK x.Mem.E (l[i].Handle%32) =l[i].Handle / 32∧1≤l[i].Handle / 32∧l[i].Handle / 32≤6:=by
 have hm : l[i]∈x.aB.flatten:=List.mem_flatten.2 ⟨l,XV hl,X0 hi⟩;obtain⟨h1,h2,_,h4⟩ :=lY.1 (b.live _ hm);have hb:=oM h1;refine⟨h1, (aG x.Mem.E (l[i].Handle%32)).toNat,by omega, ?_,h4,by omega,by omega⟩;rcases lT x.Mem.E (l[i].Handle%32) with ⟨c,_⟩ | ⟨c,_,_,_,d⟩
 ·omega
 ·have:=bH.1 d
  omega
theorem Hg (w : World)(H : aA)(x : Base)(wk : Nat)(k a e r bb hh o c : Int)(d : Bool)(h : dz w H x)(b : BInv x)(he : dV e)(hw : wk<3)(ll : List fP)(hrow : x.aB[wk]? =some ll)(c2 : bG 0 ((ll.length : Int) - 1) r=false) :
  Calls Tryz.prog 237 #[H.val x, .int .i64 wk, (⟨k,a,3,e,r,bb,hh,o,c,d⟩ : aO).val] w (gQ w H) :=by
 obtain⟨w0,hW,F0,F4⟩ :=four w H x (⟨k,a,3,e,r,bb,hh,o,c,d⟩ : aO) h;simp only [w4] at hW;have bL:=F4.b.f8;have bM:=F4.s.f10;have dR:=F4.r.f8;have dY:=F4.t.f10;simp only at bM;have hsz:=F0.sz;simp only [aA.val,aO.val];obtain⟨gz,cap,A,c5,l,he2,hgw,hl,hll,hT,hg0,p1,p2,ino,hne,hsub⟩ :=l7 h F0 b hw;obtain rfl : l=ll:=Option.some.inj (hl.symm.trans hrow);clear hrow;have HL:=Hid.aD hl;have HT:=Hid.aD hT;have HN:=Hid.aD hne;clear hl hT hne;rw [he2] at bL;simp only at bL;have HE:=Hid.aD he2;clear he2;have uL : (wk : Int) <3:=by omega
 have n0 : gz≠w.heap.size:=by omega
 have n1 : gz≠w.heap.size+1:=by omega
 have n2 : gz≠w.heap.size+2:=by omega
 have n3 : gz≠w.heap.size+3:=by omega
 have m0:=n0.symm;have m1:=n1.symm;have m2:=n2.symm;have m3:=n3.symm;have Gq : IntKind.i64.wrap ((l.length : Int) - 1) = (l.length : Int) - 1:=by rw [IntKind.wrap_i64];omega
 have hq2:=fun W=>o9 c2 W;clear c2;go_enter Tryz.func237,Tryz.ntmps237;go_upto_region 1 with (fail);rw [←hW];clear hW;go_upto_region 29 with (fail);go_quiet (first| (go_at_call 102;with_reducible exact Calls.quiet_of_same (hq2 _)));go_wp2_with fail;go_region_with (first| (go_at_call 239;refine(iQ _ (⟨k,a,3,e,r,bb,hh,o,c,d⟩ : aO) _).mono ?_;rintro e1 wq ⟨rfl,hb⟩;obtain⟨os,d',rfl⟩ :=bN hb;clear hb; (try rw [grow_grow])))
 all_goals
  go_wp2_with fail;refine bodyPost_ret (v:= .tuple #[aA.val H x, (⟨k,a,3,e,r,bb,hh,o,1,true⟩ : aO).val]) (by simp [results,Tryz.results237,go_sem,aA.val,aO.val,dR,dY,HE.out]) rfl (aQ.fin (by repeat (first|with_reducible exact F0|with_reducible refine aQ.dG ?_ (by omega) _|with_reducible refine aQ.bZ ?_ _ _|with_reducible refine aQ.av ?_ _|with_reducible refine aQ.aY ?_|with_reducible refine aQ.qZ ?_ _)) b (⟨k,a,3,e,r,bb,hh,o,1,true⟩ : aO) he)
theorem Ho (w : World)(H : aA)(x : Base)(wk : Nat)(i : Nat)(k a e bb hh o c : Int)(d : Bool)(h : dz w H x)(b : BInv x)(he : dV e)(hw : wk<3)(ll : List fP)(hrow : x.aB[wk]? =some ll)(hil : i<ll.length)(c3 : (ll[i].Handle != hh) =true) :
  Calls Tryz.prog 237 #[H.val x, .int .i64 wk, (⟨k,a,3,e, (i : Int),bb,hh,o,c,d⟩ : aO).val] w (gQ w H) :=by
 obtain⟨w0,hW,F0,F4⟩ :=four w H x (⟨k,a,3,e, (i : Int),bb,hh,o,c,d⟩ : aO) h;simp only [w4] at hW;have bL:=F4.b.f8;have bM:=F4.s.f10;have dR:=F4.r.f8;have dY:=F4.t.f10;simp only at bM;have hsz:=F0.sz;simp only [aA.val,aO.val];obtain⟨gz,cap,A,c5,l,he2,hgw,hl,hll,hT,hg0,p1,p2,ino,hne,hsub⟩ :=l7 h F0 b hw;obtain rfl : l=ll:=Option.some.inj (hl.symm.trans hrow);clear hrow;have HL:=Hid.aD hl;have HT:=Hid.aD hT;have HN:=Hid.aD hne;clear hl hT hne;rw [he2] at bL;simp only at bL;have HE:=Hid.aD he2;clear he2;have uL : (wk : Int) <3:=by omega
 have n0 : gz≠w.heap.size:=by omega
 have n1 : gz≠w.heap.size+1:=by omega
 have n2 : gz≠w.heap.size+2:=by omega
 have n3 : gz≠w.heap.size+3:=by omega
 have m0:=n0.symm;have m1:=n1.symm;have m2:=n2.symm;have m3:=n3.symm;obtain⟨gr,gq,hgr,hgf,p3,p4⟩ :=vI ino hil;subst gq;have DC:=h.lt gr (aA.aI.2 (.inr (.inr (.inl (hsub gr hgf)))));clear hgf;have n40 : gr≠w.heap.size:=by omega
 have n41 : gr≠w.heap.size+1:=by omega
 have n42 : gr≠w.heap.size+2:=by omega
 have n43 : gr≠w.heap.size+3:=by omega
 have JA:=n40.symm;have JB:=n41.symm;have JC:=n42.symm;have JD:=n43.symm;have hi1 : (i : Int) < (l.length : Int) :=by omega
 have Gq : IntKind.i64.wrap ((l.length : Int) - 1) = (l.length : Int) - 1:=by rw [IntKind.wrap_i64];omega
 have c2 : bG 0 ((l.length : Int) - 1) (i : Int) =true:=bH.2 ⟨by omega,by omega⟩;have hq2:=fun W=>o9 c2 W;clear c2;generalize l[i]=rw at p3 p4 c3;go_enter Tryz.func237,Tryz.ntmps237;go_upto_region 1 with (fail);rw [←hW];clear hW;go_upto_region 29 with (fail);go_quiet (first| (go_at_call 102;with_reducible exact Calls.quiet_of_same (hq2 _)));go_wp2_with fail;go_region_with (first| (go_at_call 239;refine(iQ _ (⟨k,a,3,e, (i : Int),bb,hh,o,c,d⟩ : aO) _).mono ?_;rintro e1 wq ⟨rfl,hb⟩;obtain⟨os,d',rfl⟩ :=bN hb;clear hb; (try rw [grow_grow])))
 all_goals
  go_wp2_with fail;refine bodyPost_ret (v:= .tuple #[aA.val H x, (⟨k,a,3,e, (i : Int),bb,hh,o,1,true⟩ : aO).val]) (by simp [results,Tryz.results237,go_sem,aA.val,aO.val,dR,dY,HE.out]) rfl (aQ.fin (by repeat (first|with_reducible exact F0|with_reducible refine aQ.dG ?_ (by omega) _|with_reducible refine aQ.bZ ?_ _ _|with_reducible refine aQ.av ?_ _|with_reducible refine aQ.aY ?_|with_reducible refine aQ.qZ ?_ _)) b (⟨k,a,3,e, (i : Int),bb,hh,o,1,true⟩ : aO) he)
theorem Hq (w : World)(H : aA)(x : Base)(wk : Nat)(i : Nat)(hh k a e bb o c : Int)(d : Bool)(h : dz w H x)(b : BInv x)(he : dV e)(hw : wk<3)(ll : List fP)(hrow : x.aB[wk]? =some ll)(hil : i<ll.length)(vT : ll[i].Handle=hh)(hr : wC ll[i] e=false) :
  Calls Tryz.prog 237 #[H.val x, .int .i64 wk, (⟨k,a,3,e, (i : Int),bb,hh,o,c,d⟩ : aO).val] w (gQ w H) :=by
 obtain⟨w0,hW,F0,F4⟩ :=four w H x (⟨k,a,3,e, (i : Int),bb,hh,o,c,d⟩ : aO) h;simp only [w4] at hW;have bL:=F4.b.f8;have bM:=F4.s.f10;have dR:=F4.r.f8;have dY:=F4.t.f10;simp only at bM;have hsz:=F0.sz;simp only [aA.val,aO.val];obtain⟨gz,cap,A,c5,l,he2,hgw,hl,hll,hT,hg0,p1,p2,ino,hne,hsub⟩ :=l7 h F0 b hw;obtain rfl : l=ll:=Option.some.inj (hl.symm.trans hrow);clear hrow;have HL:=Hid.aD hl;have HT:=Hid.aD hT;have HN:=Hid.aD hne;clear hl hT hne;rw [he2] at bL;simp only at bL;have HE:=Hid.aD he2;clear he2;have uL : (wk : Int) <3:=by omega
 have n0 : gz≠w.heap.size:=by omega
 have n1 : gz≠w.heap.size+1:=by omega
 have n2 : gz≠w.heap.size+2:=by omega
 have n3 : gz≠w.heap.size+3:=by omega
 have m0:=n0.symm;have m1:=n1.symm;have m2:=n2.symm;have m3:=n3.symm;obtain⟨gr,gq,hgr,hgf,p3,p4⟩ :=vI ino hil;subst gq;have DC:=h.lt gr (aA.aI.2 (.inr (.inr (.inl (hsub gr hgf)))));clear hgf;have n40 : gr≠w.heap.size:=by omega
 have n41 : gr≠w.heap.size+1:=by omega
 have n42 : gr≠w.heap.size+2:=by omega
 have n43 : gr≠w.heap.size+3:=by omega
 have JA:=n40.symm;have JB:=n41.symm;have JC:=n42.symm;have JD:=n43.symm;have hi1 : (i : Int) < (l.length : Int) :=by omega
 have Gq : IntKind.i64.wrap ((l.length : Int) - 1) = (l.length : Int) - 1:=by rw [IntKind.wrap_i64];omega
 have c2 : bG 0 ((l.length : Int) - 1) (i : Int) =true:=bH.2 ⟨by omega,by omega⟩;have hq2:=fun W=>o9 c2 W;clear c2;have kR:=fun W=>Ju W l[i] e he;rw [hr] at kR;generalize l[i]=rw at p3 p4 kR vT;subst vT;go_enter Tryz.func237,Tryz.ntmps237;go_upto_region 1 with (fail);rw [←hW];clear hW;go_upto_region 29 with (fail);go_region_held3 (fun wx=>bR wx w.heap.size (aA.xw H ⟨some ⟨gz,0,none⟩,3,cap⟩) x∧bW wx (w.heap.size+1) (⟨k,a,3,e, (i : Int),bb,rw.Handle,o,c,d⟩ : aO) ∧qD wx gr i rw) (first| ((try dsimp only);refine⟨?_, ?_, ?_⟩ <;> (repeat (first|with_reducible exact bL.1|with_reducible exact⟨p3,p4⟩ |with_reducible refine qD.bZ ?_ (by first|exact hgr|exact Nat.lt_of_lt_of_le hgr (by simp)) _ _|with_reducible refine qD.aY ?_|with_reducible exact bM.1|with_reducible refine bR.kH ?_ (by omega) _|with_reducible refine bW.kH ?_ (by omega) _|with_reducible refine bR.bZ ?_ (by first|exact bL.2.2|exact Nat.lt_of_lt_of_le bL.2.2 (by simp)) _ _|with_reducible refine bW.bZ ?_ (by first|exact bM.2.2|exact Nat.lt_of_lt_of_le bM.2.2 (by simp)) _ _|with_reducible refine bR.aY ?_|with_reducible refine bW.aY ?_)))) (first| (go_at_call 245;refine(kR _).mono ?_;rintro e1 wq ⟨rfl,hb⟩;obtain⟨os2,d2,rfl⟩ :=bN hb;clear hb) | (go_at_call 102;with_reducible refine(hq2 _).mono ?_;rintro e1 wq ⟨rfl,rfl⟩));go_wp2_with fail;go_region_with (first| (go_at_call 239;refine(iQ _ (⟨k,a,3,e, (i : Int),bb,rw.Handle,o,c,d⟩ : aO) _).mono ?_;rintro e1 wq ⟨rfl,hb⟩;obtain⟨os,d',rfl⟩ :=bN hb;clear hb; (try rw [grow_grow])))
 all_goals
  go_wp2_with fail;refine bodyPost_ret (v:= .tuple #[aA.val H x, (⟨k,a,3,e, (i : Int),bb,rw.Handle,o,1,true⟩ : aO).val]) (by simp [results,Tryz.results237,go_sem,aA.val,aO.val,dR,dY,HE.out]) rfl (aQ.fin (by repeat (first|with_reducible exact F0|with_reducible refine aQ.dG ?_ (by omega) _|with_reducible refine aQ.bZ ?_ _ _|with_reducible refine aQ.av ?_ _|with_reducible refine aQ.aY ?_|with_reducible refine aQ.qZ ?_ _)) b (⟨k,a,3,e, (i : Int),bb,rw.Handle,o,1,true⟩ : aO) he)
theorem Hr (w : World)(H : aA)(x : Base)(wk : Nat)(i : Nat)(hh k a e bb o c : Int)(d : Bool)(h : dz w H x)(b : BInv x)(he : dV e)(hw : wk<3)(ll : List fP)(hrow : x.aB[wk]? =some ll)(hil : i<ll.length)(vT : ll[i].Handle=hh)(hr : wC ll[i] e=true) :
  Calls Tryz.prog 237 #[H.val x, .int .i64 wk, (⟨k,a,3,e, (i : Int),bb,hh,o,c,d⟩ : aO).val] w (gQ w H) :=by
 obtain⟨w0,hW,F0,F4⟩ :=four w H x (⟨k,a,3,e, (i : Int),bb,hh,o,c,d⟩ : aO) h;simp only [w4] at hW;have bL:=F4.b.f8;have bM:=F4.s.f10;have dR:=F4.r.f8;have dY:=F4.t.f10;simp only at bM;have hsz:=F0.sz;simp only [aA.val,aO.val];have bP:=b.drop (wk:=wk) hrow hil hw;have LF:=MI b hrow hil;rw [vT] at bP LF;obtain⟨hok,cl,hcl,TP,hgn,hg1,Ta⟩ :=LF;have hz:=nH b.mem;have hsh:= (jd.1 b.mem.heap).1;have kF:=fun (W : World) (o : fq W H.Mem x.Mem) =>CO W H.Mem x.Mem wk cl (hh%32) (hh / 32) o (by unfold eF at hz;omega) hsh ⟨b.mem.gl,b.mem.ow⟩ hw hcl TP hgn hg1 Ta;have HB:=Hid.aD bP;clear hcl hgn hz bP hg1 Ta;obtain⟨gz,cap,A,c5,l,he2,hgw,hl,hll,hT,hg0,p1,p2,ino,hne,hsub⟩ :=l7 h F0 b hw;obtain rfl : l=ll:=Option.some.inj (hl.symm.trans hrow);clear hrow;have HL:=Hid.aD hl;have HT:=Hid.aD hT;have HN:=Hid.aD hne;clear hl hT hne;rw [he2] at bL;simp only at bL;have HE:=Hid.aD he2;clear he2;have uL : (wk : Int) <3:=by omega
 have n0 : gz≠w.heap.size:=by omega
 have n1 : gz≠w.heap.size+1:=by omega
 have n2 : gz≠w.heap.size+2:=by omega
 have n3 : gz≠w.heap.size+3:=by omega
 have m0:=n0.symm;have m1:=n1.symm;have m2:=n2.symm;have m3:=n3.symm;obtain⟨gr,gq,hgr,hgf,p3,p4⟩ :=vI ino hil;subst gq;have DC:=h.lt gr (aA.aI.2 (.inr (.inr (.inl (hsub gr hgf)))));clear hgf;have n40 : gr≠w.heap.size:=by omega
 have n41 : gr≠w.heap.size+1:=by omega
 have n42 : gr≠w.heap.size+2:=by omega
 have n43 : gr≠w.heap.size+3:=by omega
 have JA:=n40.symm;have JB:=n41.symm;have JC:=n42.symm;have JD:=n43.symm;have hi1 : (i : Int) < (l.length : Int) :=by omega
 have Gq : IntKind.i64.wrap ((l.length : Int) - 1) = (l.length : Int) - 1:=by rw [IntKind.wrap_i64];omega
 have c2 : bG 0 ((l.length : Int) - 1) (i : Int) =true:=bH.2 ⟨by omega,by omega⟩;have hq2:=fun W=>o9 c2 W;clear c2;have kR:=fun W=>Ju W l[i] e he;rw [hr] at kR;generalize l[i]=rw at p3 p4 kR vT;rw [vT] at p3 kR;clear hr vT;go_enter Tryz.func237,Tryz.ntmps237;go_upto_region 1 with (fail);rw [←hW];clear hW;go_upto_region 29 with (fail);go_cut [138] from 110 (fun v138 wx=>v138= .bool false∧aQ w wx H H x∧Four w wx H x (⟨k,a,3,e, (i : Int),bb,hh,o,c,d⟩ : aO))
 case first=>
  go_region_held3 (fun wx=>bR wx w.heap.size (aA.xw H ⟨some ⟨gz,0,none⟩,3,cap⟩) x∧bW wx (w.heap.size+1) (⟨k,a,3,e, (i : Int),bb,hh,o,c,d⟩ : aO) ∧qD wx gr i ⟨hh,rw.Epoch⟩) (first| ((try dsimp only);refine⟨?_, ?_, ?_⟩ <;> (repeat (first|with_reducible exact bL.1|with_reducible exact⟨p3,p4⟩ |with_reducible refine qD.bZ ?_ (by first|exact hgr|exact Nat.lt_of_lt_of_le hgr (by simp)) _ _|with_reducible refine qD.aY ?_|with_reducible exact bM.1|with_reducible refine bR.kH ?_ (by omega) _|with_reducible refine bW.kH ?_ (by omega) _|with_reducible refine bR.bZ ?_ (by first|exact bL.2.2|exact Nat.lt_of_lt_of_le bL.2.2 (by simp)) _ _|with_reducible refine bW.bZ ?_ (by first|exact bM.2.2|exact Nat.lt_of_lt_of_le bM.2.2 (by simp)) _ _|with_reducible refine bR.aY ?_|with_reducible refine bW.aY ?_)))) (first| (go_at_call 245;refine(kR _).mono ?_;rintro e1 wq ⟨rfl,hb⟩;obtain⟨os2,d2,rfl⟩ :=bN hb;clear hb) | (go_at_call 102;with_reducible refine(hq2 _).mono ?_;rintro e1 wq ⟨rfl,rfl⟩));go_wp2_with fail;go_meet;exact⟨rfl, (by repeat (first|with_reducible exact F0|with_reducible refine aQ.dG ?_ (by omega) _|with_reducible refine aQ.bZ ?_ _ _|with_reducible refine aQ.av ?_ _|with_reducible refine aQ.aY ?_|with_reducible refine aQ.qZ ?_ _)), (by repeat (first|with_reducible exact F4|with_reducible refine Four.xu ?_ hgw _|with_reducible refine Four.bZ ?_ _ _|with_reducible refine Four.aY ?_))⟩
 case rest=>
  clear bL bM dR dY hsz F0 F4 kR hq2 p1 p2 p3 p4 ino hg0 hgr;obtain⟨rfl,F0,F4⟩ :=hcut;obtain⟨hg0,p1,p2,ino⟩ :=OQ F0 HE.out HT.out HL.out;have bL:=F4.b.f8;have bM:=F4.s.f10;have dR:=F4.r.f8;have dY:=F4.t.f10;simp only at bM;have hsz:=F0.sz;rw [HE.out] at bL;simp only at bL;have hsf : ∀g∈bq (.slice (some ⟨gr,0,none⟩) l.length c5),g<w.heap.size:=fun g hg=>h.lt g (aA.aI.2 (.inr (.inr (.inl (hsub g hg)))));obtain⟨_,cs2,TQ,hs3,hs4,hsx⟩ :=ino.rd';injection TQ with hv1 hv2 hv3;subst hv3;clear hsx hv1 hv2;obtain⟨n,hn⟩ : ∃n,l.length=n+1:= ⟨l.length - 1,by omega⟩;have Rj:=Hid.aD hn;clear hn;have hd0 : aX gZ 83 wc.drew (.slice (some ⟨gr,0,none⟩) l.length c5) l:=ino;have hpre:=Hid.aD (hd0.Cc (i:=i) (by omega));have hrd:=Hid.aD (hd0.rd'.R4 (i+1) (by omega));obtain⟨A9,hA,hA2⟩ : ∃A9, (if c5=i+1 then some (⟨gr,0,none⟩ : Addr) else some ⟨gr, (i+1) * 2,none⟩) =A9∧Es gr 0 c5 (i+1) gZ.n=A9:= ⟨_,rfl,by simp [Es,gZ]⟩;rw [hA2] at hrd;have hnl:=Hid.aD (show i+ (l.drop (i+1)).length=n by have:=Rj.out;rw [List.length_drop];omega);have hwr : IntKind.i64.wrap ((i : Int) +1) = (i : Int) +1:=by rw [IntKind.wrap_i64];omega
  have hq0 : (0 : Int) ≤ (i : Int) +1:=by omega
  have hq1 : (i : Int) +1≤ (l.length : Int) :=by omega
  have hq2 : ((i : Int) +1).toNat=i+1:=by omega
  have hic : i≤c5:=by omega
  clear hA2 hd0;go_upto_region 31 with (fail);go_cut [] from 142 (fun wx=> ∃T5,aQ w wx H (H.vH T5) (x.wu (x.aB.set wk (l.take i++l.drop (i+1)))) ∧Four w wx H x (⟨k,a,3,e, (i : Int),bb,hh,o,c,d⟩ : aO))
  case first=>
   go_region_held3 (fun wx=>bR wx w.heap.size (aA.xw H ⟨some ⟨gz,0,none⟩,3,cap⟩) x∧bW wx (w.heap.size+1) (⟨k,a,3,e, (i : Int),bb,hh,o,c,d⟩ : aO)) (first| ((try dsimp only);refine⟨?_, ?_⟩ <;> (repeat (first|with_reducible exact bL.1|with_reducible exact zU|with_reducible exact zV|with_reducible exact bM.1|with_reducible refine bR.kH ?_ (by omega) _|with_reducible refine bW.kH ?_ (by omega) _|with_reducible refine bR.bZ ?_ (by first|exact bL.2.2|exact Nat.lt_of_lt_of_le bL.2.2 (by simp)) _ _|with_reducible refine bW.bZ ?_ (by first|exact bM.2.2|exact Nat.lt_of_lt_of_le bM.2.2 (by simp)) _ _|with_reducible refine bR.av ?_ (by first|exact bL.2.2|exact Nat.lt_of_lt_of_le bL.2.2 (by simp)) _|with_reducible refine bW.av ?_ (by first|exact bM.2.2|exact Nat.lt_of_lt_of_le bM.2.2 (by simp)) _|with_reducible refine bR.aY ?_|with_reducible refine bW.aY ?_)))) (first| (refine yJ Lim.Tryz.stLRow rfl (.tmp 148) (.tmp 153) rfl (by simp [Act.eval]) (by simp [Act.eval]) hpre.out hrd.out n hnl.out (by have:=Rj.out;omega) ?_;intro w5 qg hg5;have mI : bn (bq (.slice (some ⟨gr,0,none⟩) l.length c5)) wc.drew w5:=bn.iD hg5;have e5 : ∀g,g<wc.heap.size→g∉bq (.slice (some ⟨gr,0,none⟩) l.length c5) →w5.heap[g]? =wc.heap[g]? :=fun g hg hn=>mI.block g hg hn;have eB:=e5 w.heap.size bL.2.2 (fun hm=>by have:=hsf _ hm;omega);have eS:=e5 (w.heap.size+1) bM.2.2 (fun hm=>by have:=hsf _ hm;omega);have zU:=bR.up (H:= (aA.xw H ⟨some ⟨gz,0,none⟩,3,cap⟩)) (x:=x) bL.1 eB;have zV:=bW.up (s:= (⟨k,a,3,e, (i : Int),bb,hh,o,c,d⟩ : aO)) bM.1 eS;have Jh : w5.frozen? ⟨gz,wk,none⟩ =false:= (by rw [←p2];simp only [World.frozen?,e5 gz hg0 HN.out]);have Ji : w5.cell? ⟨gz,wk,none⟩ =some (.slice (some ⟨gr,0,none⟩) l.length c5) := (by rw [←p1];simp only [World.cell?,e5 gz hg0 HN.out])))
   all_goals
    go_wp2_with fail;go_meet;exact⟨_,aQ.app (s':= ⟨some ⟨gr,0,none⟩,n,c5⟩) F0.aY HE.out HT.out qg hg5 (.inl rfl), (Four.aM F4.aY mI (fun g hg=> .inl (hsf g hg))).xu hgw _⟩
  case rest=>
   clear bL bM dR dY hsz F0 F4 p1 p2 ino hsub hsf HN HT HL hpre hrd hnl hA Rj hwr hq0 hq1 hq2 hic hg0;obtain⟨T5,F0,F4⟩ :=hcut;have bL:=F4.b.f8;have bM:=F4.s.f10;have dR:=F4.r.f8;have dY:=F4.t.f10;simp only at bM;have hsz:=F0.sz;go_upto_region 32 with (fail);go_cut [] from 157 (fun wx=> ∃K,aQ w wx H ((H.vH T5).mem K) ((x.wu (x.aB.set wk (l.take i++l.drop (i+1)))).mem (pW x.Mem wk (hh%32))) ∧Four w wx ((H.vH T5).mem K) ((x.wu (x.aB.set wk (l.take i++l.drop (i+1)))).mem (pW x.Mem wk (hh%32))) (⟨k,a,3,e, (i : Int),bb,hh,o,c,d⟩ : aO))
   case first=>
    go_region_with (first| (go_at_call 30;refine(iT hh _ hok).mono ?_;rintro e1 wq ⟨rfl,rfl⟩) | (go_at_call 111;refine(kF _ ?ho).mono ?_; (case ho=>first|exact F0.o.Mem|exact F0.aY.o.Mem);rintro e1 w6 ⟨K,rfl,jh,jM,hx⟩;have F6:=aQ.mem (K:=H.vH T5) (by first|exact F0.aY|exact F0) hx jh jM;have G6:=Four.aM (by first|exact F4.aY|exact F4) hx (fun g hg=> .inl (h.lt g (aA.aI.2 (.inl hg))));have W_:=G6.b.f8))
    all_goals
     have F5:=G6.QS K (pW x.Mem wk (hh%32));go_wp2_with fail;go_meet;exact⟨K, (by repeat (first|with_reducible exact F6|with_reducible refine aQ.dG ?_ (by omega) _|with_reducible refine aQ.bZ ?_ _ _|with_reducible refine aQ.av ?_ _|with_reducible refine aQ.aY ?_|with_reducible refine aQ.qZ ?_ _)), ⟨F5.b,F5.s,F5.r,F5.t⟩⟩
   case rest=>
    clear bL bM dR dY hsz F0 F4 kF;obtain⟨K,F0,F4⟩ :=hcut;have bL:=F4.b.f8;have bM:=F4.s.f10;have dR:=F4.r.f8;have dY:=F4.t.f10;simp only at bM;have hsz:=F0.sz;clear F4;go_wp2_with fail;go_region
    all_goals
     go_wp2_with fail;refine bodyPost_ret (v:= .tuple #[aA.val ((H.vH T5).mem K) ((x.wu (x.aB.set wk (l.take i++l.drop (i+1)))).mem (pW x.Mem wk (hh%32))), (⟨k,a,1,e, (i : Int),bb,hh, (wrap64 (o+1)),c,d⟩ : aO).val]) (by simp [results,Tryz.results237,go_sem,aA.val,aO.val,dR,dY]) rfl (aQ.fin (by repeat (first|with_reducible exact F0|with_reducible refine aQ.dG ?_ (by omega) _|with_reducible refine aQ.bZ ?_ _ _|with_reducible refine aQ.av ?_ _|with_reducible refine aQ.aY ?_)) HB.out (⟨k,a,1,e, (i : Int),bb,hh, (wrap64 (o+1)),c,d⟩ : aO) he)
end Go.Proofs.YtkmggglljkmjoaaGreat
