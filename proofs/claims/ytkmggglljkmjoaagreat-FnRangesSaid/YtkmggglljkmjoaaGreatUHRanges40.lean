/- m -/
import Derived.Test.YtkmggglljkmjoaaGreatUHRanges30
import Derived.Test.YtkmggglljkmjoaaGreatUHRanges29
set_option maxRecDepth 100000
set_option maxHeartbeats 4000000
namespace Go.Proofs.YtkmggglljkmjoaaGreat
open Go.RowKit
theorem Kz (w : World)(H : aA)(x : Base)(wk : Nat)(k a p e r bb hh o c : Int)(d : Bool)(h : dz w H x)(b : BInv x)(he : dV e)(c0 : (p == 0) =false)(c1 : (p == 1) =false) :
  Calls Tryz.prog 235 #[H.val x, .int .i64 wk, (⟨k,a,p,e,r,bb,hh,o,c,d⟩ : aO).val] w (gQ w H) :=by
 obtain⟨w0,hW,F0,F4⟩ :=four w H x (⟨k,a,p,e,r,bb,hh,o,c,d⟩ : aO) h;simp only [w4] at hW;have bL:=F4.b.f8;have bM:=F4.s.f10;have dR:=F4.r.f8;have dY:=F4.t.f10;simp only at bM;have hsz:=F0.sz;simp only [aA.val,aO.val];go_enter Tryz.func235,Tryz.ntmps235;go_upto_region 1 with (fail);rw [←hW];clear hW;go_wp2_with fail;go_region_with (first| (go_at_call 239;refine(iQ _ (⟨k,a,p,e,r,bb,hh,o,c,d⟩ : aO) _).mono ?_;rintro e1 wq ⟨rfl,hb⟩;obtain⟨os,d',rfl⟩ :=bN hb;clear hb))
 all_goals
  go_wp2_with fail;refine bodyPost_ret (v:= .tuple #[aA.val H x, (⟨k,a,p,e,r,bb,hh,o,1,true⟩ : aO).val]) (by simp [results,Tryz.results235,go_sem,aA.val,aO.val,dR,dY]) rfl (aQ.fin (by repeat (first|with_reducible exact F0|with_reducible refine aQ.dG ?_ (by omega) _|with_reducible refine aQ.bZ ?_ _ _|with_reducible refine aQ.av ?_ _|with_reducible refine aQ.aY ?_)) b (⟨k,a,p,e,r,bb,hh,o,1,true⟩ : aO) he)
theorem KA (w : World)(H : aA)(x : Base)(wk : Nat)(k a e r bb hh o c : Int)(d : Bool)(h : dz w H x)(b : BInv x)(_he : dV e) :
  Calls Tryz.prog 235 #[H.val x, .int .i64 wk, (⟨k,a,0,e,r,bb,hh,o,c,d⟩ : aO).val] w (gQ w H) :=by
 obtain⟨w0,hW,F0,F4⟩ :=four w H x (⟨k,a,0,e,r,bb,hh,o,c,d⟩ : aO) h;simp only [w4] at hW;have bL:=F4.b.f8;have bM:=F4.s.f10;have dR:=F4.r.f8;have dY:=F4.t.f10;simp only at bM;have hsz:=F0.sz;simp only [aA.val,aO.val];go_enter Tryz.func235,Tryz.ntmps235;go_upto_region 1 with (fail);rw [←hW];clear hW;go_wp2_with fail;go_region
 all_goals
  go_wp2_with fail;refine bodyPost_ret (v:= .tuple #[aA.val H x, (⟨k,a,1,x.Clock.Epoch,r,bb,hh,o,c,d⟩ : aO).val]) (by simp [results,Tryz.results235,go_sem,aA.val,aO.val,dR,dY]) rfl (aQ.fin (by repeat (first|with_reducible exact F0|with_reducible refine aQ.dG ?_ (by omega) _|with_reducible refine aQ.bZ ?_ _ _|with_reducible refine aQ.av ?_ _|with_reducible refine aQ.aY ?_)) b (⟨k,a,1,x.Clock.Epoch,r,bb,hh,o,c,d⟩ : aO) b.ep)
theorem Jj (w : World)(H : aA)(x : Base)(wk : Nat)(k a e r bb hh o c : Int)(d : Bool)(h : dz w H x)(b : BInv x)(he : dV e)(ci : bG 0 x.Clock.Epoch e=false) :
  Calls Tryz.prog 235 #[H.val x, .int .i64 wk, (⟨k,a,1,e,r,bb,hh,o,c,d⟩ : aO).val] w (gQ w H) :=by
 obtain⟨w0,hW,F0,F4⟩ :=four w H x (⟨k,a,1,e,r,bb,hh,o,c,d⟩ : aO) h;simp only [w4] at hW;have bL:=F4.b.f8;have bM:=F4.s.f10;have dR:=F4.r.f8;have dY:=F4.t.f10;simp only at bM;have hsz:=F0.sz;simp only [aA.val,aO.val];go_enter Tryz.func235,Tryz.ntmps235;go_upto_region 1 with (fail);rw [←hW];clear hW;go_wp2_with (go_at_call 102;refine(dH _ _ _ _).mono ?_;rw [ci];rintro e1 wq ⟨rfl,rfl⟩);go_region_with (first| (go_at_call 239;refine(iQ _ (⟨k,a,1,e,r,bb,hh,o,c,d⟩ : aO) _).mono ?_;rintro e1 wq ⟨rfl,hb⟩;obtain⟨os,d',rfl⟩ :=bN hb;clear hb))
 all_goals
  go_wp2_with fail;refine bodyPost_ret (v:= .tuple #[aA.val H x, (⟨k,a,1,e,r,bb,hh,o,1,true⟩ : aO).val]) (by simp [results,Tryz.results235,go_sem,aA.val,aO.val,dR,dY]) rfl (aQ.fin (by repeat (first|with_reducible exact F0|with_reducible refine aQ.dG ?_ (by omega) _|with_reducible refine aQ.bZ ?_ _ _|with_reducible refine aQ.av ?_ _|with_reducible refine aQ.aY ?_)) b (⟨k,a,1,e,r,bb,hh,o,1,true⟩ : aO) he)
theorem KD (w : World)(H : aA)(x : Base)(wk : Nat)(k a e r bb hh o c : Int)(d : Bool)(h : dz w H x)(b : BInv x)(he : dV e)(ci : bG 0 x.Clock.Epoch e=true)(hv : gM x.Mem a=false) :
  Calls Tryz.prog 235 #[H.val x, .int .i64 wk, (⟨k,a,1,e,r,bb,hh,o,c,d⟩ : aO).val] w (gQ w H) :=by
 have hz:=nH b.mem;have hs1 : fO x.Mem.I.G≤536870912:=by unfold eF bX at hz;omega
 have hs2 : fO x.Mem.I.O≤536870912:=by unfold eF bX at hz;omega
 have hsh:= (jd.1 b.mem.heap).1;have kV:=fun (W : World) (o : jN W W.heap.size H.Mem x.Mem) =>oZ W H.Mem x.Mem a o hsh hs1 hs2;rw [hv] at kV;clear hz hs1 hs2;obtain⟨w0,hW,F0,F4⟩ :=four w H x (⟨k,a,1,e,r,bb,hh,o,c,d⟩ : aO) h;simp only [w4] at hW;have bL:=F4.b.f8;have bM:=F4.s.f10;have dR:=F4.r.f8;have dY:=F4.t.f10;simp only at bM;have hsz:=F0.sz;simp only [aA.val,aO.val];go_enter Tryz.func235,Tryz.ntmps235;go_upto_region 1 with (fail);rw [←hW];clear hW;go_upto_region 9 with (go_at_call 102;refine(dH _ _ _ _).mono ?_;rw [ci];rintro e1 wq ⟨rfl,rfl⟩);refine wp_region_held_drew (S:= (fun wx=>bR wx w.heap.size H x∧bW wx (w.heap.size+1) (⟨k,a,1,e,r,bb,hh,o,c,d⟩ : aO))) (by kernel_rfl) ?_ (fun hHeld=> ?_)
 ·(first| ((try dsimp only);refine⟨?_, ?_⟩ <;> (repeat (first|with_reducible exact bL.1|with_reducible exact bM.1|with_reducible refine bR.kH ?_ (by omega) _|with_reducible refine bW.kH ?_ (by omega) _|with_reducible refine bR.bZ ?_ (by first|exact bL.2.2|exact Nat.lt_of_lt_of_le bL.2.2 (by simp)) _ _|with_reducible refine bW.bZ ?_ (by first|exact bM.2.2|exact Nat.lt_of_lt_of_le bM.2.2 (by simp)) _ _|with_reducible refine bR.aY ?_|with_reducible refine bW.aY ?_))))
 refine wpAnyH_take (i:=0) (v:= ?_) rfl (by kernel_rfl) (by kernel_rfl) (by kernel_rfl) (fun _ _ _ h=>h) (Or.inl ⟨by kernel_rfl, ?_⟩) (by assumption) ?_
 rotate_left
 ·(intro wz hSw; (try dsimp only at hSw);go_simp; (try with_reducible rfl))
 try simp only [List.getElem_toArray,List.getElem_cons_zero,Act.put,List.setIfInBounds_toArray,List.set_cons_zero,List.set_cons_succ]
 refine wpAnyH_take (i:=1) (v:= ?_) rfl (by kernel_rfl) (by kernel_rfl) (by kernel_rfl) (fun _ _ _ h=>h) (Or.inl ⟨by kernel_rfl, ?_⟩) (by assumption) ?_
 rotate_left
 ·(intro wz hSw; (try dsimp only at hSw);go_simp; (try with_reducible rfl))
 try simp only [List.getElem_toArray,List.getElem_cons_succ,List.getElem_cons_zero,Act.put,List.setIfInBounds_toArray,List.set_cons_zero,List.set_cons_succ]
 refine wpAnyH_take (i:=2) (v:= ?_) rfl (by kernel_rfl) (by kernel_rfl) (by kernel_rfl) (fun _ _ _ h=>h) (Or.inl ⟨by kernel_rfl, ?_⟩) (by assumption) ?_
 rotate_left
 ·(intro wz hSw; (try dsimp only at hSw);go_simp; (try with_reducible rfl))
 try simp only [List.getElem_toArray,List.getElem_cons_succ,List.getElem_cons_zero,Act.put,List.setIfInBounds_toArray,List.set_cons_zero,List.set_cons_succ]
 refine wpAnyH_take (i:=3) (v:= ?_) rfl (by kernel_rfl) (by kernel_rfl) (by kernel_rfl) (fun _ _ _ h=>h) (Or.inl ⟨by kernel_rfl, ?_⟩) (by assumption) ?_
 rotate_left
 ·(intro wz hSw; (try dsimp only at hSw);go_simp; (try with_reducible rfl))
 try simp only [List.getElem_toArray,List.getElem_cons_succ,List.getElem_cons_zero,Act.put,List.setIfInBounds_toArray,List.set_cons_zero,List.set_cons_succ]
 refine wpAnyH_ready (rs:= [4]) (by kernel_rfl) (by simp) ?_;refine AllReadyH.cons rfl (fun K hK=> ?_) AllReadyH.nil
 go_simp
 (go_at_call 59;refine(kV _ ?hr).mono ?_; (case hr=>first|exact F0.o.Mem.rd'|exact F0.aY.o.Mem.rd');rintro e1 wq ⟨rfl,hb⟩;obtain⟨os2,d2,rfl⟩ :=bN hb;clear hb)
 (try go_wp2_with fail)
 refine hK.out _ _ ?_ (fun hHeld=> ?_)
 ·(first| ((try dsimp only);refine⟨?_, ?_⟩ <;> (repeat (first|with_reducible exact bL.1|with_reducible exact bM.1|with_reducible refine bR.kH ?_ (by omega) _|with_reducible refine bW.kH ?_ (by omega) _|with_reducible refine bR.bZ ?_ (by first|exact bL.2.2|exact Nat.lt_of_lt_of_le bL.2.2 (by simp)) _ _|with_reducible refine bW.bZ ?_ (by first|exact bM.2.2|exact Nat.lt_of_lt_of_le bM.2.2 (by simp)) _ _|with_reducible refine bR.aY ?_|with_reducible refine bW.aY ?_))))
 clear hK K;try simp only [List.getElem_toArray,List.getElem_cons_succ,List.getElem_cons_zero,Act.put,List.setIfInBounds_toArray,List.set_cons_zero,List.set_cons_succ]
 refine wpAnyH_take (i:=5) (v:= ?_) rfl (by kernel_rfl) (by kernel_rfl) (by kernel_rfl) (fun _ _ _ h=>h) (Or.inl ⟨by kernel_rfl, ?_⟩) (by assumption) ?_
 rotate_left
 ·(intro wz hSw; (try dsimp only at hSw);go_simp; (try with_reducible rfl))
 try simp only [List.getElem_toArray,List.getElem_cons_succ,List.getElem_cons_zero,Act.put,List.setIfInBounds_toArray,List.set_cons_zero,List.set_cons_succ]
 refine wpAnyH_take (i:=6) (v:= ?_) rfl (by kernel_rfl) (by kernel_rfl) (by kernel_rfl) (fun _ _ _ h=>h) (Or.inl ⟨by kernel_rfl, ?_⟩) (by assumption) ?_
 rotate_left
 ·(intro wz hSw; (try dsimp only at hSw);go_simp; (try with_reducible rfl))
 try simp only [List.getElem_toArray,List.getElem_cons_succ,List.getElem_cons_zero,Act.put,List.setIfInBounds_toArray,List.set_cons_zero,List.set_cons_succ]
 refine wpAnyH_take (i:=7) (v:=undef) rfl (by kernel_rfl) (by kernel_rfl) (by kernel_rfl) (fun _ _ _ h=>h) (Or.inr ⟨by kernel_rfl,rfl⟩) (by assumption) ?_;try simp only [List.getElem_toArray,List.getElem_cons_succ,List.getElem_cons_zero,Act.put,List.setIfInBounds_toArray,List.set_cons_zero,List.set_cons_succ]
 refine wpAnyH_take (i:=8) (v:=undef) rfl (by kernel_rfl) (by kernel_rfl) (by kernel_rfl) (fun _ _ _ h=>h) (Or.inr ⟨by kernel_rfl,rfl⟩) (by assumption) ?_;try simp only [List.getElem_toArray,List.getElem_cons_succ,List.getElem_cons_zero,Act.put,List.setIfInBounds_toArray,List.set_cons_zero,List.set_cons_succ]
 refine wpAnyH_take (i:=9) (v:=undef) rfl (by kernel_rfl) (by kernel_rfl) (by kernel_rfl) (fun _ _ _ h=>h) (Or.inr ⟨by kernel_rfl,rfl⟩) (by assumption) ?_;try simp only [List.getElem_toArray,List.getElem_cons_succ,List.getElem_cons_zero,Act.put,List.setIfInBounds_toArray,List.set_cons_zero,List.set_cons_succ]
 refine wpAnyH_take (i:=10) (v:=undef) rfl (by kernel_rfl) (by kernel_rfl) (by kernel_rfl) (fun _ _ _ h=>h) (Or.inr ⟨by kernel_rfl,rfl⟩) (by assumption) ?_;try simp only [List.getElem_toArray,List.getElem_cons_succ,List.getElem_cons_zero,Act.put,List.setIfInBounds_toArray,List.set_cons_zero,List.set_cons_succ]
 refine wpAnyH_take (i:=11) (v:=undef) rfl (by kernel_rfl) (by kernel_rfl) (by kernel_rfl) (fun _ _ _ h=>h) (Or.inr ⟨by kernel_rfl,rfl⟩) (by assumption) ?_;try simp only [List.getElem_toArray,List.getElem_cons_succ,List.getElem_cons_zero,Act.put,List.setIfInBounds_toArray,List.set_cons_zero,List.set_cons_succ]
 refine wpAnyH_take (i:=12) (v:=undef) rfl (by kernel_rfl) (by kernel_rfl) (by kernel_rfl) (fun _ _ _ h=>h) (Or.inr ⟨by kernel_rfl,rfl⟩) (by assumption) ?_;try simp only [List.getElem_toArray,List.getElem_cons_succ,List.getElem_cons_zero,Act.put,List.setIfInBounds_toArray,List.set_cons_zero,List.set_cons_succ]
 refine wpAnyH_take (i:=13) (v:= ?_) rfl (by kernel_rfl) (by kernel_rfl) (by kernel_rfl) (fun _ _ _ h=>h) (Or.inl ⟨by kernel_rfl, ?_⟩) (by assumption) ?_
 rotate_left
 ·(intro wz hSw; (try dsimp only at hSw);go_simp; (try with_reducible rfl))
 try simp only [List.getElem_toArray,List.getElem_cons_succ,List.getElem_cons_zero,Act.put,List.setIfInBounds_toArray,List.set_cons_zero,List.set_cons_succ]
 refine wpAnyH_done (by kernel_rfl) ?_ _;go_wp2_with fail;go_region_with (first| (go_at_call 239;refine(iQ _ (⟨k,a,1,e,r,bb,hh,o,c,d⟩ : aO) _).mono ?_;rintro e1 wq ⟨rfl,hb⟩;obtain⟨os,d',rfl⟩ :=bN hb;clear hb))
 all_goals
  go_wp2_with fail;refine bodyPost_ret (v:= .tuple #[aA.val H x, (⟨k,a,1,e,r,bb,hh,o,4,true⟩ : aO).val]) (by simp [results,Tryz.results235,go_sem,aA.val,aO.val,dR,dY]) rfl (aQ.fin (by repeat (first|with_reducible exact F0|with_reducible refine aQ.dG ?_ (by omega) _|with_reducible refine aQ.bZ ?_ _ _|with_reducible refine aQ.av ?_ _|with_reducible refine aQ.aY ?_)) b (⟨k,a,1,e,r,bb,hh,o,4,true⟩ : aO) he)
theorem KE (w : World)(H : aA)(x : Base)(wk : Nat)(k a e r bb hh o c : Int)(d : Bool)(h : dz w H x)(b : BInv x)(he : dV e)(ci : bG 0 x.Clock.Epoch e=true)(hv : gM x.Mem a=true)(hi : Lim.nC x.aB (a%32) =true) :
  Calls Tryz.prog 235 #[H.val x, .int .i64 wk, (⟨k,a,1,e,r,bb,hh,o,c,d⟩ : aO).val] w (gQ w H) :=by
 have hz:=nH b.mem;have hs1 : fO x.Mem.I.G≤536870912:=by unfold eF bX at hz;omega
 have hs2 : fO x.Mem.I.O≤536870912:=by unfold eF bX at hz;omega
 have hsh:= (jd.1 b.mem.heap).1;have kV:=fun (W : World) (o : jN W W.heap.size H.Mem x.Mem) =>oZ W H.Mem x.Mem a o hsh hs1 hs2;rw [hv] at kV;clear hz hs1 hs2;have hzl : fO x.aB≤536870912:=by have h1:=b.rows;have h2:=b.lim;rw [Lim.zA];omega
 have hok:= (lY.1 hv).1;have kI:=fun (W : World) (o : ig gZ W W.heap.size H.aB.val H.jk x.aB) =>Lim.xg W H.aB.val H.jk x.aB (a%32) o hzl;rw [hi] at kI;clear hzl;obtain⟨w0,hW,F0,F4⟩ :=four w H x (⟨k,a,1,e,r,bb,hh,o,c,d⟩ : aO) h;simp only [w4] at hW;have bL:=F4.b.f8;have bM:=F4.s.f10;have dR:=F4.r.f8;have dY:=F4.t.f10;simp only at bM;have hsz:=F0.sz;simp only [aA.val,aO.val];go_enter Tryz.func235,Tryz.ntmps235;go_upto_region 1 with (fail);rw [←hW];clear hW;go_upto_region 9 with (go_at_call 102;refine(dH _ _ _ _).mono ?_;rw [ci];rintro e1 wq ⟨rfl,rfl⟩);go_region_held3 (fun wx=>bR wx w.heap.size H x∧bW wx (w.heap.size+1) (⟨k,a,1,e,r,bb,hh,o,c,d⟩ : aO)) (first| ((try dsimp only);refine⟨?_, ?_⟩ <;> (repeat (first|with_reducible exact bL.1|with_reducible exact bM.1|with_reducible refine bR.kH ?_ (by omega) _|with_reducible refine bW.kH ?_ (by omega) _|with_reducible refine bR.bZ ?_ (by first|exact bL.2.2|exact Nat.lt_of_lt_of_le bL.2.2 (by simp)) _ _|with_reducible refine bW.bZ ?_ (by first|exact bM.2.2|exact Nat.lt_of_lt_of_le bM.2.2 (by simp)) _ _|with_reducible refine bR.aY ?_|with_reducible refine bW.aY ?_)))) (first| (go_at_call 59;refine(kV _ ?hr).mono ?_; (case hr=>first|exact F0.o.Mem.rd'|exact F0.aY.o.Mem.rd');rintro e1 wq ⟨rfl,hb⟩;obtain⟨os2,d2,rfl⟩ :=bN hb;clear hb) | (go_at_call 30;refine(iT a _ hok).mono ?_;rintro e1 wq ⟨rfl,rfl⟩) | (go_at_call 191;refine(kI _ ?hr).mono ?_; (case hr=>exact aQ.Sy (w:=w) (H:=H) (y:=x) (by repeat (first|with_reducible exact F0|with_reducible refine aQ.dG ?_ (by omega) _|with_reducible refine aQ.bZ ?_ _ _|with_reducible refine aQ.av ?_ _|with_reducible refine aQ.aY ?_)));rintro e1 wq ⟨rfl,hb⟩;obtain⟨os3,d3,rfl⟩ :=bN hb;clear hb; (try rw [grow_grow])));go_wp2_with fail;go_region_with (first| (go_at_call 239;refine(iQ _ (⟨k,a,1,e,r,bb,hh,o,c,d⟩ : aO) _).mono ?_;rintro e1 wq ⟨rfl,hb⟩;obtain⟨os,d',rfl⟩ :=bN hb;clear hb; (try rw [grow_grow])))
 all_goals
  go_wp2_with fail;refine bodyPost_ret (v:= .tuple #[aA.val H x, (⟨k,a,1,e,r,bb,hh,o,4,true⟩ : aO).val]) (by simp [results,Tryz.results235,go_sem,aA.val,aO.val,dR,dY]) rfl (aQ.fin (by repeat (first|with_reducible exact F0|with_reducible refine aQ.dG ?_ (by omega) _|with_reducible refine aQ.bZ ?_ _ _|with_reducible refine aQ.av ?_ _|with_reducible refine aQ.aY ?_)) b (⟨k,a,1,e,r,bb,hh,o,4,true⟩ : aO) he)
theorem KF (w : World)(H : aA)(x : Base)(wk : Nat)(k a e r bb hh o c : Int)(d : Bool)(h : dz w H x)(b : BInv x)(he : dV e)(ci : bG 0 x.Clock.Epoch e=true)(hv : gM x.Mem a=true)(hi : Lim.nC x.aB (a%32) =false)(hw : wk<3) :
  Calls Tryz.prog 235 #[H.val x, .int .i64 wk, (⟨k,a,1,e,r,bb,hh,o,c,d⟩ : aO).val] w (gQ w H) :=by
 have hz:=nH b.mem;have hs1 : fO x.Mem.I.G≤536870912:=by unfold eF bX at hz;omega
 have hs2 : fO x.Mem.I.O≤536870912:=by unfold eF bX at hz;omega
 have hsh:= (jd.1 b.mem.heap).1;have kV:=fun (W : World) (o : jN W W.heap.size H.Mem x.Mem) =>oZ W H.Mem x.Mem a o hsh hs1 hs2;rw [hv] at kV;clear hz hs1 hs2;have hzl : fO x.aB≤536870912:=by have h1:=b.rows;have h2:=b.lim;rw [Lim.zA];omega
 have hok:= (lY.1 hv).1;have kI:=fun (W : World) (o : ig gZ W W.heap.size H.aB.val H.jk x.aB) =>Lim.xg W H.aB.val H.jk x.aB (a%32) o hzl;rw [hi] at kI;clear hzl;obtain⟨w0,hW,F0,F4⟩ :=four w H x (⟨k,a,1,e,r,bb,hh,o,c,d⟩ : aO) h;simp only [w4] at hW;have bL:=F4.b.f8;have bM:=F4.s.f10;have dR:=F4.r.f8;have dY:=F4.t.f10;simp only at bM;have hsz:=F0.sz;simp only [aA.val,aO.val];go_enter Tryz.func235,Tryz.ntmps235;go_upto_region 1 with (fail);rw [←hW];clear hW;go_upto_region 9 with (go_at_call 102;refine(dH _ _ _ _).mono ?_;rw [ci];rintro e1 wq ⟨rfl,rfl⟩);go_cut [44] from 31 (fun v44 wx=>v44= .bool false∧aQ w wx H H x∧Four w wx H x (⟨k,a,1,e,r,bb,hh,o,c,d⟩ : aO))
 case first=>
  go_region_held3 (fun wx=>bR wx w.heap.size H x∧bW wx (w.heap.size+1) (⟨k,a,1,e,r,bb,hh,o,c,d⟩ : aO)) (first| ((try dsimp only);refine⟨?_, ?_⟩ <;> (repeat (first|with_reducible exact bL.1|with_reducible exact bM.1|with_reducible refine bR.kH ?_ (by omega) _|with_reducible refine bW.kH ?_ (by omega) _|with_reducible refine bR.bZ ?_ (by first|exact bL.2.2|exact Nat.lt_of_lt_of_le bL.2.2 (by simp)) _ _|with_reducible refine bW.bZ ?_ (by first|exact bM.2.2|exact Nat.lt_of_lt_of_le bM.2.2 (by simp)) _ _|with_reducible refine bR.aY ?_|with_reducible refine bW.aY ?_)))) (first| (go_at_call 59;refine(kV _ ?hr).mono ?_; (case hr=>first|exact F0.o.Mem.rd'|exact F0.aY.o.Mem.rd');rintro e1 wq ⟨rfl,hb⟩;obtain⟨os2,d2,rfl⟩ :=bN hb;clear hb) | (go_at_call 30;refine(iT a _ hok).mono ?_;rintro e1 wq ⟨rfl,rfl⟩) | (go_at_call 191;refine(kI _ ?hr).mono ?_; (case hr=>exact aQ.Sy (w:=w) (H:=H) (y:=x) (by repeat (first|with_reducible exact F0|with_reducible refine aQ.dG ?_ (by omega) _|with_reducible refine aQ.bZ ?_ _ _|with_reducible refine aQ.av ?_ _|with_reducible refine aQ.aY ?_)));rintro e1 wq ⟨rfl,hb⟩;obtain⟨os3,d3,rfl⟩ :=bN hb;clear hb; (try rw [grow_grow])));go_wp2_with fail;go_meet;exact⟨rfl, (by repeat (first|with_reducible exact F0|with_reducible refine aQ.dG ?_ (by omega) _|with_reducible refine aQ.bZ ?_ _ _|with_reducible refine aQ.av ?_ _|with_reducible refine aQ.aY ?_)), (by repeat (first|with_reducible exact F4|with_reducible refine Four.xu ?_ hgw _|with_reducible refine Four.bZ ?_ _ _|with_reducible refine Four.aY ?_))⟩
 case rest=>
  clear bL bM dR dY hsz F0 F4 kV kI ci;obtain⟨rfl,F0,F4⟩ :=hcut;obtain⟨gz,cap,A,c5,l,he2,hgw,hl,hll,hT,hg0,p1,p2,ino,hne,hsub⟩ :=l7 h F0 b hw;have bP:=b.retire (e:=e) hl hv hi;have HL:=Hid.aD hl;have HT:=Hid.aD hT;have HN:=Hid.aD hne;clear hl hT hne hi hv;have bL:=F4.b.f8;have bM:=F4.s.f10;have dR:=F4.r.f8;have dY:=F4.t.f10;simp only at bM;have hsz:=F0.sz;rw [he2] at bL;simp only at bL;have HE:=Hid.aD he2;clear he2;have n0 : gz≠w.heap.size:=by omega
  have n1 : gz≠w.heap.size+1:=by omega
  have n2 : gz≠w.heap.size+2:=by omega
  have n3 : gz≠w.heap.size+3:=by omega
  have m0:=n0.symm;have m1:=n1.symm;have m2:=n2.symm;have m3:=n3.symm;have hsf : ∀g∈bq (.slice A l.length c5),g<w.heap.size:=fun g hg=>h.lt g (aA.aI.2 (.inr (.inr (.inl (hsub g hg)))));have uL : (wk : Int) <3:=by omega
  go_upto_region 11 with (fail);go_cut [] from 48 (fun wx=> ∃T5,aQ w wx H (H.vH T5) (x.wu (x.aB.set wk (l++ [⟨a,e⟩]))) ∧Four w wx H x (⟨k,a,1,e,r,bb,hh,o,c,d⟩ : aO))
  case first=>
   refine wp_region_held_drew (S:= (fun wx=>bR wx w.heap.size (aA.xw H ⟨some ⟨gz,0,none⟩,3,cap⟩) x∧bW wx (w.heap.size+1) (⟨k,a,1,e,r,bb,hh,o,c,d⟩ : aO))) (by kernel_rfl) ?_ (fun hHeld=> ?_)
   ·(first| ((try dsimp only);refine⟨?_, ?_⟩ <;> (repeat (first|with_reducible exact bL.1|with_reducible exact zU|with_reducible exact zV|with_reducible exact bM.1|with_reducible refine bR.kH ?_ (by omega) _|with_reducible refine bW.kH ?_ (by omega) _|with_reducible refine bR.bZ ?_ (by first|exact bL.2.2|exact Nat.lt_of_lt_of_le bL.2.2 (by simp)) _ _|with_reducible refine bW.bZ ?_ (by first|exact bM.2.2|exact Nat.lt_of_lt_of_le bM.2.2 (by simp)) _ _|with_reducible refine bR.av ?_ (by first|exact bL.2.2|exact Nat.lt_of_lt_of_le bL.2.2 (by simp)) _|with_reducible refine bW.av ?_ (by first|exact bM.2.2|exact Nat.lt_of_lt_of_le bM.2.2 (by simp)) _|with_reducible refine bR.aY ?_|with_reducible refine bW.aY ?_))))
   refine wpAnyH_take (i:=0) (v:= ?_) rfl (by kernel_rfl) (by kernel_rfl) (by kernel_rfl) (fun _ _ _ h=>h) (Or.inl ⟨by kernel_rfl, ?_⟩) (by assumption) ?_
   rotate_left
   ·(intro wz hSw; (try dsimp only at hSw);go_simp; (try with_reducible rfl))
   try simp only [List.getElem_toArray,List.getElem_cons_zero,Act.put,List.setIfInBounds_toArray,List.set_cons_zero,List.set_cons_succ]
   refine wpAnyH_take (i:=1) (v:= ?_) rfl (by kernel_rfl) (by kernel_rfl) (by kernel_rfl) (fun _ _ _ h=>h) (Or.inl ⟨by kernel_rfl, ?_⟩) (by assumption) ?_
   rotate_left
   ·(intro wz hSw; (try dsimp only at hSw);go_simp; (try with_reducible rfl))
   try simp only [List.getElem_toArray,List.getElem_cons_succ,List.getElem_cons_zero,Act.put,List.setIfInBounds_toArray,List.set_cons_zero,List.set_cons_succ]
   refine wpAnyH_take (i:=2) (v:= ?_) rfl (by kernel_rfl) (by kernel_rfl) (by kernel_rfl) (fun _ _ _ h=>h) (Or.inl ⟨by kernel_rfl, ?_⟩) (by assumption) ?_
   rotate_left
   ·(intro wz hSw; (try dsimp only at hSw);go_simp; (try with_reducible rfl))
   try simp only [List.getElem_toArray,List.getElem_cons_succ,List.getElem_cons_zero,Act.put,List.setIfInBounds_toArray,List.set_cons_zero,List.set_cons_succ]
   refine wpAnyH_take (i:=3) (v:= ?_) rfl (by kernel_rfl) (by kernel_rfl) (by kernel_rfl) (fun _ _ _ h=>h) (Or.inl ⟨by kernel_rfl, ?_⟩) (by assumption) ?_
   rotate_left
   ·(intro wz hSw; (try dsimp only at hSw);go_simp; (try with_reducible rfl))
   try simp only [List.getElem_toArray,List.getElem_cons_succ,List.getElem_cons_zero,Act.put,List.setIfInBounds_toArray,List.set_cons_zero,List.set_cons_succ]
   refine wpAnyH_take (i:=4) (v:= ?_) rfl (by kernel_rfl) (by kernel_rfl) (by kernel_rfl) (fun _ _ _ h=>h) (Or.inl ⟨by kernel_rfl, ?_⟩) (by assumption) ?_
   rotate_left
   ·(intro wz hSw; (try dsimp only at hSw);go_simp; (try with_reducible rfl))
   try simp only [List.getElem_toArray,List.getElem_cons_succ,List.getElem_cons_zero,Act.put,List.setIfInBounds_toArray,List.set_cons_zero,List.set_cons_succ]
   refine wpAnyH_take (i:=5) (v:= ?_) rfl (by kernel_rfl) (by kernel_rfl) (by kernel_rfl) (fun _ _ _ h=>h) (Or.inl ⟨by kernel_rfl, ?_⟩) (by assumption) ?_
   rotate_left
   ·(intro wz hSw; (try dsimp only at hSw);go_simp; (try with_reducible rfl))
   try simp only [List.getElem_toArray,List.getElem_cons_succ,List.getElem_cons_zero,Act.put,List.setIfInBounds_toArray,List.set_cons_zero,List.set_cons_succ]
   refine wpAnyH_take (i:=6) (v:= ?_) rfl (by kernel_rfl) (by kernel_rfl) (by kernel_rfl) (fun _ _ _ h=>h) (Or.inl ⟨by kernel_rfl, ?_⟩) (by assumption) ?_
   rotate_left
   ·(intro wz hSw; (try dsimp only at hSw);go_simp; (try with_reducible rfl))
   try simp only [List.getElem_toArray,List.getElem_cons_succ,List.getElem_cons_zero,Act.put,List.setIfInBounds_toArray,List.set_cons_zero,List.set_cons_succ]
   refine wpAnyH_take (i:=7) (v:= ?_) rfl (by kernel_rfl) (by kernel_rfl) (by kernel_rfl) (fun _ _ _ h=>h) (Or.inl ⟨by kernel_rfl, ?_⟩) (by assumption) ?_
   rotate_left
   ·(intro wz hSw; (try dsimp only at hSw);go_simp; (try with_reducible rfl))
   try simp only [List.getElem_toArray,List.getElem_cons_succ,List.getElem_cons_zero,Act.put,List.setIfInBounds_toArray,List.set_cons_zero,List.set_cons_succ]
   refine wpAnyH_take (i:=9) (v:= ?_) rfl (by kernel_rfl) (by kernel_rfl) (by kernel_rfl) (fun _ _ _ h=>h) (Or.inl ⟨by kernel_rfl, ?_⟩) (by assumption) ?_
   rotate_left
   ·(intro wz hSw; (try dsimp only at hSw);go_simp; (try with_reducible rfl))
   try simp only [List.getElem_toArray,List.getElem_cons_succ,List.getElem_cons_zero,Act.put,List.setIfInBounds_toArray,List.set_cons_zero,List.set_cons_succ]
   refine wpAnyH_take (i:=10) (v:= ?_) rfl (by kernel_rfl) (by kernel_rfl) (by kernel_rfl) (fun _ _ _ h=>h) (Or.inl ⟨by kernel_rfl, ?_⟩) (by assumption) ?_
   rotate_left
   ·(intro wz hSw; (try dsimp only at hSw);go_simp; (try with_reducible rfl))
   try simp only [List.getElem_toArray,List.getElem_cons_succ,List.getElem_cons_zero,Act.put,List.setIfInBounds_toArray,List.set_cons_zero,List.set_cons_succ]
   refine wpAnyH_take (i:=11) (v:= ?_) rfl (by kernel_rfl) (by kernel_rfl) (by kernel_rfl) (fun _ _ _ h=>h) (Or.inl ⟨by kernel_rfl, ?_⟩) (by assumption) ?_
   rotate_left
   ·(intro wz hSw; (try dsimp only at hSw);go_simp; (try with_reducible rfl))
   try simp only [List.getElem_toArray,List.getElem_cons_succ,List.getElem_cons_zero,Act.put,List.setIfInBounds_toArray,List.set_cons_zero,List.set_cons_succ]
   refine wpAnyH_take (i:=12) (v:= ?_) rfl (by kernel_rfl) (by kernel_rfl) (by kernel_rfl) (fun _ _ _ h=>h) (Or.inl ⟨by kernel_rfl, ?_⟩) (by assumption) ?_
   rotate_left
   ·(intro wz hSw; (try dsimp only at hSw);go_simp; (try with_reducible rfl))
   try simp only [List.getElem_toArray,List.getElem_cons_succ,List.getElem_cons_zero,Act.put,List.setIfInBounds_toArray,List.set_cons_zero,List.set_cons_succ]
   refine wpAnyH_take (i:=13) (v:= ?_) rfl (by kernel_rfl) (by kernel_rfl) (by kernel_rfl) (fun _ _ _ h=>h) (Or.inl ⟨by kernel_rfl, ?_⟩) (by assumption) ?_
   rotate_left
   ·(intro wz hSw; (try dsimp only at hSw);go_simp; (try with_reducible rfl))
   try simp only [List.getElem_toArray,List.getElem_cons_succ,List.getElem_cons_zero,Act.put,List.setIfInBounds_toArray,List.set_cons_zero,List.set_cons_succ]
   refine wpAnyH_ready (rs:= [8,14]) (by kernel_rfl) (by simp) ?_;refine AllReadyH.cons rfl (fun K hK=> ?_) (AllReadyH.cons rfl (fun K hK=> ?_) AllReadyH.nil)
   ·go_simp
    (try go_wp2_with fail)
    refine hK.out _ _ ?_ (fun hHeld=> ?_)
    ·(first| ((try dsimp only);refine⟨?_, ?_⟩ <;> (repeat (first|with_reducible exact bL.1|with_reducible exact zU|with_reducible exact zV|with_reducible exact bM.1|with_reducible refine bR.kH ?_ (by omega) _|with_reducible refine bW.kH ?_ (by omega) _|with_reducible refine bR.bZ ?_ (by first|exact bL.2.2|exact Nat.lt_of_lt_of_le bL.2.2 (by simp)) _ _|with_reducible refine bW.bZ ?_ (by first|exact bM.2.2|exact Nat.lt_of_lt_of_le bM.2.2 (by simp)) _ _|with_reducible refine bR.av ?_ (by first|exact bL.2.2|exact Nat.lt_of_lt_of_le bL.2.2 (by simp)) _|with_reducible refine bW.av ?_ (by first|exact bM.2.2|exact Nat.lt_of_lt_of_le bM.2.2 (by simp)) _|with_reducible refine bR.aY ?_|with_reducible refine bW.aY ?_))))
    clear hK K;try simp only [List.getElem_toArray,List.getElem_cons_succ,List.getElem_cons_zero,Act.put,List.setIfInBounds_toArray,List.set_cons_zero,List.set_cons_succ]
    refine wpAnyH_ready (rs:= [14]) (by kernel_rfl) (by simp) ?_;refine AllReadyH.cons rfl (fun K hK=> ?_) AllReadyH.nil
    go_simp
    refine hK.out _ _ ?_ (fun hHeld=> ?_)
    ·(first| ((try dsimp only);refine⟨?_, ?_⟩ <;> (repeat (first|with_reducible exact bL.1|with_reducible exact zU|with_reducible exact zV|with_reducible exact bM.1|with_reducible refine bR.kH ?_ (by omega) _|with_reducible refine bW.kH ?_ (by omega) _|with_reducible refine bR.bZ ?_ (by first|exact bL.2.2|exact Nat.lt_of_lt_of_le bL.2.2 (by simp)) _ _|with_reducible refine bW.bZ ?_ (by first|exact bM.2.2|exact Nat.lt_of_lt_of_le bM.2.2 (by simp)) _ _|with_reducible refine bR.av ?_ (by first|exact bL.2.2|exact Nat.lt_of_lt_of_le bL.2.2 (by simp)) _|with_reducible refine bW.av ?_ (by first|exact bM.2.2|exact Nat.lt_of_lt_of_le bM.2.2 (by simp)) _|with_reducible refine bR.aY ?_|with_reducible refine bW.aY ?_))))
    clear hK K;try simp only [List.getElem_toArray,List.getElem_cons_succ,List.getElem_cons_zero,Act.put,List.setIfInBounds_toArray,List.set_cons_zero,List.set_cons_succ]
    refine wpAnyH_ready (rs:= [15]) (by kernel_rfl) (by simp) ?_;refine AllReadyH.cons rfl (fun K hK=> ?_) AllReadyH.nil;refine jq Lim.Tryz.stLRow rfl (.tmp 56) (.tmp 62) rfl (v:= .slice A l.length c5) (y:= .slice (some ⟨wc.heap.size,0,none⟩) 1 1) (l:=l) (m:= [⟨a,e⟩]) (by simp [Act.eval]) (by simp [Act.eval]) (ino.av _) (aX.lit gZ [⟨a,e⟩] #[.int .i64 a, .int .i64 e] rfl (by simp [maxLen]) wc 83).rd' (by simp;omega) ?_;intro v5 w5 qg hg5 pz;obtain⟨A5,c6,hv5,_⟩ :=qg.rd';simp only [XU,List.length_cons,List.length_nil] at hv5;subst hv5;have mI:=bn.iD hg5;have e5 : ∀g,g<wc.heap.size→g∉bq (.slice A l.length c5) →w5.heap[g]? =wc.heap[g]? :=fun g hg hn=> (mI.block g (by simp;omega) hn).trans (Below.heap_alloc wc _ g hg);have eB:=e5 w.heap.size bL.2.2 (fun hm=>by have:=hsf _ hm;omega);have eS:=e5 (w.heap.size+1) bM.2.2 (fun hm=>by have:=hsf _ hm;omega);have zU:=bR.up (H:= (aA.xw H ⟨some ⟨gz,0,none⟩,3,cap⟩)) (x:=x) bL.1 eB;have zV:=bW.up (s:= (⟨k,a,1,e,r,bb,hh,o,c,d⟩ : aO)) bM.1 eS;have Jh : w5.frozen? ⟨gz,wk,none⟩ =false:= (by rw [←p2];simp only [World.frozen?,e5 gz hg0 HN.out]);have Ji : w5.cell? ⟨gz,wk,none⟩ =some (.slice A l.length c5) := (by rw [←p1];simp only [World.cell?,e5 gz hg0 HN.out]);refine hK.out _ _ ?_ (fun hHeld=> ?_)
    ·(first| ((try dsimp only);refine⟨?_, ?_⟩ <;> (repeat (first|with_reducible exact bL.1|with_reducible exact zU|with_reducible exact zV|with_reducible exact bM.1|with_reducible refine bR.kH ?_ (by omega) _|with_reducible refine bW.kH ?_ (by omega) _|with_reducible refine bR.bZ ?_ (by first|exact bL.2.2|exact Nat.lt_of_lt_of_le bL.2.2 (by simp)) _ _|with_reducible refine bW.bZ ?_ (by first|exact bM.2.2|exact Nat.lt_of_lt_of_le bM.2.2 (by simp)) _ _|with_reducible refine bR.av ?_ (by first|exact bL.2.2|exact Nat.lt_of_lt_of_le bL.2.2 (by simp)) _|with_reducible refine bW.av ?_ (by first|exact bM.2.2|exact Nat.lt_of_lt_of_le bM.2.2 (by simp)) _|with_reducible refine bR.aY ?_|with_reducible refine bW.aY ?_))))
    clear hK K;try simp only [List.getElem_toArray,List.getElem_cons_succ,List.getElem_cons_zero,Act.put,List.setIfInBounds_toArray,List.set_cons_zero,List.set_cons_succ]
    refine wpAnyH_take (i:=16) (v:= ?_) rfl (by kernel_rfl) (by kernel_rfl) (by kernel_rfl) (fun _ _ _ h=>h) (Or.inl ⟨by kernel_rfl, ?_⟩) (by assumption) ?_
    rotate_left
    ·(intro wz hSw; (try dsimp only at hSw);go_simp; (try with_reducible rfl))
    try simp only [List.getElem_toArray,List.getElem_cons_succ,List.getElem_cons_zero,Act.put,List.setIfInBounds_toArray,List.set_cons_zero,List.set_cons_succ]
    refine wpAnyH_take (i:=17) (v:= ?_) rfl (by kernel_rfl) (by kernel_rfl) (by kernel_rfl) (fun _ _ _ h=>h) (Or.inl ⟨by kernel_rfl, ?_⟩) (by assumption) ?_
    rotate_left
    ·(intro wz hSw; (try dsimp only at hSw);go_simp; (try with_reducible rfl))
    try simp only [List.getElem_toArray,List.getElem_cons_succ,List.getElem_cons_zero,Act.put,List.setIfInBounds_toArray,List.set_cons_zero,List.set_cons_succ]
    refine wpAnyH_ready (rs:= [18]) (by kernel_rfl) (by simp) ?_;refine AllReadyH.cons rfl (fun K hK=> ?_) AllReadyH.nil
    go_simp
    refine hK.out _ _ ?_ (fun hHeld=> ?_)
    ·(first| ((try dsimp only);refine⟨?_, ?_⟩ <;> (repeat (first|with_reducible exact bL.1|with_reducible exact zU|with_reducible exact zV|with_reducible exact bM.1|with_reducible refine bR.kH ?_ (by omega) _|with_reducible refine bW.kH ?_ (by omega) _|with_reducible refine bR.bZ ?_ (by first|exact bL.2.2|exact Nat.lt_of_lt_of_le bL.2.2 (by simp)) _ _|with_reducible refine bW.bZ ?_ (by first|exact bM.2.2|exact Nat.lt_of_lt_of_le bM.2.2 (by simp)) _ _|with_reducible refine bR.av ?_ (by first|exact bL.2.2|exact Nat.lt_of_lt_of_le bL.2.2 (by simp)) _|with_reducible refine bW.av ?_ (by first|exact bM.2.2|exact Nat.lt_of_lt_of_le bM.2.2 (by simp)) _|with_reducible refine bR.aY ?_|with_reducible refine bW.aY ?_))))
    clear hK K;try simp only [List.getElem_toArray,List.getElem_cons_succ,List.getElem_cons_zero,Act.put,List.setIfInBounds_toArray,List.set_cons_zero,List.set_cons_succ]
    refine wpAnyH_done (by kernel_rfl) ?_ _;go_wp2_with fail;go_meet;refine⟨_,aQ.app (s':= ⟨A5,l.length+1,c6⟩) ?_ HE.out HT.out qg hg5 pz, (Four.aM ?_ mI (fun g hg=> .inl (hsf g hg))).xu hgw _⟩
    ·repeat (first|with_reducible exact F0|with_reducible refine aQ.av ?_ _|with_reducible refine aQ.aY ?_)
    ·repeat (first|with_reducible exact F4|with_reducible refine Four.av ?_ _|with_reducible refine Four.aY ?_)
   ·go_simp
    (try go_wp2_with fail)
    refine hK.out _ _ ?_ (fun hHeld=> ?_)
    ·(first| ((try dsimp only);refine⟨?_, ?_⟩ <;> (repeat (first|with_reducible exact bL.1|with_reducible exact zU|with_reducible exact zV|with_reducible exact bM.1|with_reducible refine bR.kH ?_ (by omega) _|with_reducible refine bW.kH ?_ (by omega) _|with_reducible refine bR.bZ ?_ (by first|exact bL.2.2|exact Nat.lt_of_lt_of_le bL.2.2 (by simp)) _ _|with_reducible refine bW.bZ ?_ (by first|exact bM.2.2|exact Nat.lt_of_lt_of_le bM.2.2 (by simp)) _ _|with_reducible refine bR.av ?_ (by first|exact bL.2.2|exact Nat.lt_of_lt_of_le bL.2.2 (by simp)) _|with_reducible refine bW.av ?_ (by first|exact bM.2.2|exact Nat.lt_of_lt_of_le bM.2.2 (by simp)) _|with_reducible refine bR.aY ?_|with_reducible refine bW.aY ?_))))
    clear hK K;try simp only [List.getElem_toArray,List.getElem_cons_succ,List.getElem_cons_zero,Act.put,List.setIfInBounds_toArray,List.set_cons_zero,List.set_cons_succ]
    refine wpAnyH_ready (rs:= [8]) (by kernel_rfl) (by simp) ?_;refine AllReadyH.cons rfl (fun K hK=> ?_) AllReadyH.nil
    go_simp
    refine hK.out _ _ ?_ (fun hHeld=> ?_)
    ·(first| ((try dsimp only);refine⟨?_, ?_⟩ <;> (repeat (first|with_reducible exact bL.1|with_reducible exact zU|with_reducible exact zV|with_reducible exact bM.1|with_reducible refine bR.kH ?_ (by omega) _|with_reducible refine bW.kH ?_ (by omega) _|with_reducible refine bR.bZ ?_ (by first|exact bL.2.2|exact Nat.lt_of_lt_of_le bL.2.2 (by simp)) _ _|with_reducible refine bW.bZ ?_ (by first|exact bM.2.2|exact Nat.lt_of_lt_of_le bM.2.2 (by simp)) _ _|with_reducible refine bR.av ?_ (by first|exact bL.2.2|exact Nat.lt_of_lt_of_le bL.2.2 (by simp)) _|with_reducible refine bW.av ?_ (by first|exact bM.2.2|exact Nat.lt_of_lt_of_le bM.2.2 (by simp)) _|with_reducible refine bR.aY ?_|with_reducible refine bW.aY ?_))))
    clear hK K;try simp only [List.getElem_toArray,List.getElem_cons_succ,List.getElem_cons_zero,Act.put,List.setIfInBounds_toArray,List.set_cons_zero,List.set_cons_succ]
    refine wpAnyH_ready (rs:= [15]) (by kernel_rfl) (by simp) ?_;refine AllReadyH.cons rfl (fun K hK=> ?_) AllReadyH.nil;refine jq Lim.Tryz.stLRow rfl (.tmp 56) (.tmp 62) rfl (v:= .slice A l.length c5) (y:= .slice (some ⟨wc.heap.size,0,none⟩) 1 1) (l:=l) (m:= [⟨a,e⟩]) (by simp [Act.eval]) (by simp [Act.eval]) (ino.av _) (aX.lit gZ [⟨a,e⟩] #[.int .i64 a, .int .i64 e] rfl (by simp [maxLen]) wc 83).rd' (by simp;omega) ?_;intro v5 w5 qg hg5 pz;obtain⟨A5,c6,hv5,_⟩ :=qg.rd';simp only [XU,List.length_cons,List.length_nil] at hv5;subst hv5;have mI:=bn.iD hg5;have e5 : ∀g,g<wc.heap.size→g∉bq (.slice A l.length c5) →w5.heap[g]? =wc.heap[g]? :=fun g hg hn=> (mI.block g (by simp;omega) hn).trans (Below.heap_alloc wc _ g hg);have eB:=e5 w.heap.size bL.2.2 (fun hm=>by have:=hsf _ hm;omega);have eS:=e5 (w.heap.size+1) bM.2.2 (fun hm=>by have:=hsf _ hm;omega);have zU:=bR.up (H:= (aA.xw H ⟨some ⟨gz,0,none⟩,3,cap⟩)) (x:=x) bL.1 eB;have zV:=bW.up (s:= (⟨k,a,1,e,r,bb,hh,o,c,d⟩ : aO)) bM.1 eS;have Jh : w5.frozen? ⟨gz,wk,none⟩ =false:= (by rw [←p2];simp only [World.frozen?,e5 gz hg0 HN.out]);have Ji : w5.cell? ⟨gz,wk,none⟩ =some (.slice A l.length c5) := (by rw [←p1];simp only [World.cell?,e5 gz hg0 HN.out]);refine hK.out _ _ ?_ (fun hHeld=> ?_)
    ·(first| ((try dsimp only);refine⟨?_, ?_⟩ <;> (repeat (first|with_reducible exact bL.1|with_reducible exact zU|with_reducible exact zV|with_reducible exact bM.1|with_reducible refine bR.kH ?_ (by omega) _|with_reducible refine bW.kH ?_ (by omega) _|with_reducible refine bR.bZ ?_ (by first|exact bL.2.2|exact Nat.lt_of_lt_of_le bL.2.2 (by simp)) _ _|with_reducible refine bW.bZ ?_ (by first|exact bM.2.2|exact Nat.lt_of_lt_of_le bM.2.2 (by simp)) _ _|with_reducible refine bR.av ?_ (by first|exact bL.2.2|exact Nat.lt_of_lt_of_le bL.2.2 (by simp)) _|with_reducible refine bW.av ?_ (by first|exact bM.2.2|exact Nat.lt_of_lt_of_le bM.2.2 (by simp)) _|with_reducible refine bR.aY ?_|with_reducible refine bW.aY ?_))))
    clear hK K;try simp only [List.getElem_toArray,List.getElem_cons_succ,List.getElem_cons_zero,Act.put,List.setIfInBounds_toArray,List.set_cons_zero,List.set_cons_succ]
    refine wpAnyH_take (i:=16) (v:= ?_) rfl (by kernel_rfl) (by kernel_rfl) (by kernel_rfl) (fun _ _ _ h=>h) (Or.inl ⟨by kernel_rfl, ?_⟩) (by assumption) ?_
    rotate_left
    ·(intro wz hSw; (try dsimp only at hSw);go_simp; (try with_reducible rfl))
    try simp only [List.getElem_toArray,List.getElem_cons_succ,List.getElem_cons_zero,Act.put,List.setIfInBounds_toArray,List.set_cons_zero,List.set_cons_succ]
    refine wpAnyH_take (i:=17) (v:= ?_) rfl (by kernel_rfl) (by kernel_rfl) (by kernel_rfl) (fun _ _ _ h=>h) (Or.inl ⟨by kernel_rfl, ?_⟩) (by assumption) ?_
    rotate_left
    ·(intro wz hSw; (try dsimp only at hSw);go_simp; (try with_reducible rfl))
    try simp only [List.getElem_toArray,List.getElem_cons_succ,List.getElem_cons_zero,Act.put,List.setIfInBounds_toArray,List.set_cons_zero,List.set_cons_succ]
    refine wpAnyH_ready (rs:= [18]) (by kernel_rfl) (by simp) ?_;refine AllReadyH.cons rfl (fun K hK=> ?_) AllReadyH.nil
    go_simp
    refine hK.out _ _ ?_ (fun hHeld=> ?_)
    ·(first| ((try dsimp only);refine⟨?_, ?_⟩ <;> (repeat (first|with_reducible exact bL.1|with_reducible exact zU|with_reducible exact zV|with_reducible exact bM.1|with_reducible refine bR.kH ?_ (by omega) _|with_reducible refine bW.kH ?_ (by omega) _|with_reducible refine bR.bZ ?_ (by first|exact bL.2.2|exact Nat.lt_of_lt_of_le bL.2.2 (by simp)) _ _|with_reducible refine bW.bZ ?_ (by first|exact bM.2.2|exact Nat.lt_of_lt_of_le bM.2.2 (by simp)) _ _|with_reducible refine bR.av ?_ (by first|exact bL.2.2|exact Nat.lt_of_lt_of_le bL.2.2 (by simp)) _|with_reducible refine bW.av ?_ (by first|exact bM.2.2|exact Nat.lt_of_lt_of_le bM.2.2 (by simp)) _|with_reducible refine bR.aY ?_|with_reducible refine bW.aY ?_))))
    clear hK K;try simp only [List.getElem_toArray,List.getElem_cons_succ,List.getElem_cons_zero,Act.put,List.setIfInBounds_toArray,List.set_cons_zero,List.set_cons_succ]
    refine wpAnyH_done (by kernel_rfl) ?_ _;go_wp2_with fail;go_meet;refine⟨_,aQ.app (s':= ⟨A5,l.length+1,c6⟩) ?_ HE.out HT.out qg hg5 pz, (Four.aM ?_ mI (fun g hg=> .inl (hsf g hg))).xu hgw _⟩
    ·repeat (first|with_reducible exact F0|with_reducible refine aQ.av ?_ _|with_reducible refine aQ.aY ?_)
    ·repeat (first|with_reducible exact F4|with_reducible refine Four.av ?_ _|with_reducible refine Four.aY ?_)
  case rest=>
   clear bL bM dR dY hsz F0 F4 p1 p2 ino hsub hsf HN HT HL;obtain⟨T5,F0,F4⟩ :=hcut;have bL:=F4.b.f8;have bM:=F4.s.f10;have dR:=F4.r.f8;have dY:=F4.t.f10;simp only at bM;have hsz:=F0.sz;clear F4;go_wp2_with fail;go_region_with (first| (go_at_call 239;refine(iQ _ (⟨k,a,1,e,r,bb,hh,o,c,d⟩ : aO) _).mono ?_;rintro e1 wq ⟨rfl,hb⟩;obtain⟨os,d',rfl⟩ :=bN hb;clear hb))
   all_goals
    go_wp2_with fail;refine bodyPost_ret (v:= .tuple #[aA.val (H.vH T5) (x.wu (x.aB.set wk (l++ [⟨a,e⟩]))), (⟨k,a,1,e,r,bb,hh,o,0,true⟩ : aO).val]) (by simp [results,Tryz.results235,go_sem,aA.val,aO.val,dR,dY]) rfl (aQ.fin (by repeat (first|with_reducible exact F0|with_reducible refine aQ.dG ?_ (by omega) _|with_reducible refine aQ.bZ ?_ _ _|with_reducible refine aQ.av ?_ _|with_reducible refine aQ.aY ?_)) bP (⟨k,a,1,e,r,bb,hh,o,0,true⟩ : aO) he)
theorem Jk (w : World)(H : aA)(x : Base)(wk : Nat)(hw : wk<3)(s : aO)(h : dz w H x)(b : BInv x)(he : dV s.e) : Calls Tryz.prog 235 #[H.val x, .int .i64 wk,s.val] w (gQ w H) :=by
 obtain⟨k,a,p,e,r,bb,hh,o,c,d⟩ :=s;by_cases c0 : p=0
 ·subst c0;exact KA w H x wk k a e r bb hh o c d h b he
 by_cases c1 : p=1
 ·subst c1
  by_cases ci : bG 0 x.Clock.Epoch e=true
  ·by_cases hv : gM x.Mem a=true
   ·by_cases hi : Lim.nC x.aB (a%32) =true
    ·exact KE w H x wk k a e r bb hh o c d h b he ci hv hi
    ·exact KF w H x wk k a e r bb hh o c d h b he ci hv ((XM _).mp hi) hw
   ·exact KD w H x wk k a e r bb hh o c d h b he ci ((XM _).mp hv)
  ·exact Jj w H x wk k a e r bb hh o c d h b he ((XM _).mp ci)
 exact Kz w H x wk k a p e r bb hh o c d h b he (by simpa using c0) (by simpa using c1)
end Go.Proofs.YtkmggglljkmjoaaGreat
