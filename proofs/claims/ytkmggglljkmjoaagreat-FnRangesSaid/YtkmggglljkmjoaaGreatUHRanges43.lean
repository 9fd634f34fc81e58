/- m -/
import Derived.Test.YtkmggglljkmjoaaGreatUHRanges37
set_option maxRecDepth 100000
set_option maxHeartbeats 4000000
namespace Go.Proofs.YtkmggglljkmjoaaGreat
open Go.RowKit
theorem Jp (w : World)(H : aA)(x : Base)(wk : Nat)(k a e r bb hh o c : Int)(d : Bool)(h : dz w H x)(b : BInv x)(he : dV e)(cl : Nat)(_hw : wk<3)(hcl : cl<3)(hc : fG a= (cl : Int))(l : List Int)(t : Int)(hrow : x.Mem.I.G[cl]? =some (l++ [t])) :
  Calls Tryz.prog 234 #[H.val x, .int .i64 wk, (⟨k,a,1,e,r,bb,hh,o,c,d⟩ : aO).val] w (gQ w H) :=by
 have hn0 : ¬ (cl : Int) <0:=by omega
 have Ej:= ((qK b.mem hrow).2.1 t).2 (.inl rfl);have HS:=Hid.aD (zo b Ej);clear Ej;have hsh:= (jd.1 b.mem.heap).1;have ht0:= (bH.1 HS.out.1).1;have ht0' : ¬ t<0:=by omega
 obtain⟨w0,hW,F0,F4⟩ :=four w H x (⟨k,a,1,e,r,bb,hh,o,c,d⟩ : aO) h;simp only [w4] at hW;have bL:=F4.b.f8;have bM:=F4.s.f10;have dR:=F4.r.f8;have dY:=F4.t.f10;simp only at bM;have hsz:=F0.sz;simp only [aA.val,aO.val];obtain⟨g,gs,bo,cc,T,he2,AJ,hgw, ⟨hb1,hb2⟩,hg0,hgs,p1,p2,p3,FP⟩ :=uh h F0 b hrow;have bP:=b.uh hrow;clear hrow;rw [he2] at bL;simp only at bL;have HE:=Hid.aD he2;clear he2;have n0 : g≠w.heap.size:=by omega
 have n1 : g≠w.heap.size+1:=by omega
 have n2 : g≠w.heap.size+2:=by omega
 have n3 : g≠w.heap.size+3:=by omega
 have m0:=n0.symm;have m1:=n1.symm;have m2:=n2.symm;have m3:=n3.symm;go_enter Tryz.func234,Tryz.ntmps234;go_upto_region 1 with (fail);rw [←hW];clear hW;go_upto_block 0 with (first| (go_at_call 101;refine(jl a _).mono ?_;rw [hc];rintro e1 wq ⟨rfl,rfl⟩));go_cut [9,10] from 24 (fun v9 _ wx=>v9= .int .i64 t∧aQ w wx H (H.yI T) (x.global (x.Mem.I.G.set cl l)) ∧Four w wx H x (⟨k,a,1,e,r,bb,hh,o,c,d⟩ : aO))
 case first=>
  go_wp2_with fail;go_region_with (first| (go_at_call 164;refine(vo _ gs l.length bo t ?h1 ?h2 hb2 hb1).mono ?_; (case h1=>exact p3); (case h2=>exact hgs);rintro e1 wq ⟨rfl,hb⟩;obtain⟨os,d',rfl⟩ :=bN hb;clear hb))
  all_goals
   go_wp2_with fail;go_meet;exact⟨rfl, (by repeat (first|with_reducible exact F0|with_reducible refine FP _ ?_|with_reducible refine aQ.dG ?_ (by omega) _|with_reducible refine aQ.bZ ?_ _ _|with_reducible refine aQ.av ?_ _|with_reducible refine aQ.aY ?_)), (by repeat (first|with_reducible exact F4|with_reducible refine Four.xu ?_ hgw _|with_reducible refine Four.bZ ?_ _ _|with_reducible refine Four.aY ?_))⟩
 case rest=>
  clear bL bM dR dY hsz F0 F4 FP p1 p2 p3 hgs hg0;obtain⟨rfl,F0,F4⟩ :=hcut;have bL:=F4.b.f8;have bM:=F4.s.f10;have dR:=F4.r.f8;have dY:=F4.t.f10;simp only at bM;have hsz:=F0.sz;rw [HE.out] at bL;simp only at bL;clear F4;go_wp2_with fail;go_region_held3 (fun wx=>bR wx w.heap.size (aA.wO H ⟨some ⟨g,0,none⟩,3,cc⟩) x∧bW wx (w.heap.size+1) (⟨k,a,1,e,r,bb,hh,o,c,d⟩ : aO)) (first| ((try dsimp only);refine⟨?_, ?_⟩ <;> (repeat (first|with_reducible exact bL.1|with_reducible exact bM.1|with_reducible refine bR.kH ?_ (by omega) _|with_reducible refine bW.kH ?_ (by omega) _|with_reducible refine bR.bZ ?_ (by first|exact bL.2.2|exact Nat.lt_of_lt_of_le bL.2.2 (by simp)) _ _|with_reducible refine bW.bZ ?_ (by first|exact bM.2.2|exact Nat.lt_of_lt_of_le bM.2.2 (by simp)) _ _|with_reducible refine bR.aY ?_|with_reducible refine bW.aY ?_)))) (first| (go_at_call 243;refine(uY _ (aA.wO H ⟨some ⟨g,0,none⟩,3,cc⟩) x _ (⟨k,a,1,e,r,bb,hh,o,c,d⟩ : aO) t _ ?hr hsh HS.out.1 HS.out.2.1 HS.out.2.2).mono ?_; (case hr=>first|exact F0.Ep|exact F0.aY.Ep);rintro e1 wq ⟨o',rfl,hb⟩;obtain⟨os2,d2,rfl⟩ :=bN hb;clear hb))
  all_goals
   go_wp2_with fail;refine bodyPost_ret (v:= .tuple #[aA.val (H.yI T) (x.global (x.Mem.I.G.set cl l)), (⟨k,a,1,e,r,bb,hh,o',0,true⟩ : aO).val]) (by simp [results,Tryz.results234,go_sem,aA.val,aO.val,dR,dY,HE.out]) rfl (aQ.fin (by repeat (first|with_reducible exact F0|with_reducible refine aQ.dG ?_ (by omega) _|with_reducible refine aQ.bZ ?_ _ _|with_reducible refine aQ.av ?_ _|with_reducible refine aQ.aY ?_)) bP (⟨k,a,1,e,r,bb,hh,o',0,true⟩ : aO) he)
theorem Jq (w : World)(H : aA)(x : Base)(wk : Nat)(k a e r bb hh o c : Int)(d : Bool)(h : dz w H x)(b : BInv x)(he : dV e)(cl : Nat)(_hw : wk<3)(hcl : cl<3)(hc : fG a= (cl : Int))(hrow : x.Mem.I.G[cl]? =some []) :
  Calls Tryz.prog 234 #[H.val x, .int .i64 wk, (⟨k,a,1,e,r,bb,hh,o,c,d⟩ : aO).val] w (gQ w H) :=by
 have hn0 : ¬ (cl : Int) <0:=by omega
 obtain⟨w0,hW,F0,F4⟩ :=four w H x (⟨k,a,1,e,r,bb,hh,o,c,d⟩ : aO) h;simp only [w4] at hW;have bL:=F4.b.f8;have bM:=F4.s.f10;have dR:=F4.r.f8;have dY:=F4.t.f10;simp only at bM;have hsz:=F0.sz;simp only [aA.val,aO.val];obtain⟨g,cc,bo,A,he2,AJ,hgw,hg0,p1,p2,FP⟩ :=Er h F0 b hrow;clear hrow;rw [he2] at bL;simp only at bL;have HE:=Hid.aD he2;clear he2;have n0 : g≠w.heap.size:=by omega
 have n1 : g≠w.heap.size+1:=by omega
 have n2 : g≠w.heap.size+2:=by omega
 have n3 : g≠w.heap.size+3:=by omega
 have m0:=n0.symm;have m1:=n1.symm;have m2:=n2.symm;have m3:=n3.symm;go_enter Tryz.func234,Tryz.ntmps234;go_upto_region 1 with (fail);rw [←hW];clear hW;go_upto_block 0 with (first| (go_at_call 101;refine(jl a _).mono ?_;rw [hc];rintro e1 wq ⟨rfl,rfl⟩));go_cut [9,10] from 24 (fun v9 _ wx=>v9= .int .i64 (-1) ∧aQ w wx H H x∧Four w wx H x (⟨k,a,1,e,r,bb,hh,o,c,d⟩ : aO))
 case first=>
  go_wp2_with fail;go_region_with (first| (go_at_call 164;refine(vk _ A bo).mono ?_;rintro e1 wq ⟨rfl,hb⟩;obtain⟨os,d',rfl⟩ :=bN hb;clear hb))
  all_goals
   go_wp2_with fail;go_meet;exact⟨rfl, (by repeat (first|with_reducible exact F0|with_reducible refine FP _ ?_|with_reducible refine aQ.dG ?_ (by omega) _|with_reducible refine aQ.bZ ?_ _ _|with_reducible refine aQ.av ?_ _|with_reducible refine aQ.aY ?_)), (by repeat (first|with_reducible exact F4|with_reducible refine Four.xu ?_ hgw _|with_reducible refine Four.bZ ?_ _ _|with_reducible refine Four.aY ?_))⟩
 case rest=>
  clear bL bM dR dY hsz F0 F4 FP p1 p2 hg0;obtain⟨rfl,F0,F4⟩ :=hcut;have bL:=F4.b.f8;have bM:=F4.s.f10;have dR:=F4.r.f8;have dY:=F4.t.f10;simp only at bM;have hsz:=F0.sz;rw [HE.out] at bL;simp only at bL;clear F4;go_wp2_with fail;go_region_held3 (fun wx=>bR wx w.heap.size (aA.wO H ⟨some ⟨g,0,none⟩,3,cc⟩) x∧bW wx (w.heap.size+1) (⟨k,a,1,e,r,bb,hh,o,c,d⟩ : aO)) (first| ((try dsimp only);refine⟨?_, ?_⟩ <;> (repeat (first|with_reducible exact bL.1|with_reducible exact bM.1|with_reducible refine bR.kH ?_ (by omega) _|with_reducible refine bW.kH ?_ (by omega) _|with_reducible refine bR.bZ ?_ (by first|exact bL.2.2|exact Nat.lt_of_lt_of_le bL.2.2 (by simp)) _ _|with_reducible refine bW.bZ ?_ (by first|exact bM.2.2|exact Nat.lt_of_lt_of_le bM.2.2 (by simp)) _ _|with_reducible refine bR.aY ?_|with_reducible refine bW.aY ?_)))) (first| (go_at_call 243;refine(zB _ (aA.wO H ⟨some ⟨g,0,none⟩,3,cc⟩) x (⟨k,a,1,e,r,bb,hh,o,c,d⟩ : aO) _).mono ?_;rintro e1 wq ⟨rfl,hb⟩;obtain⟨os2,d2,rfl⟩ :=bN hb;clear hb))
  all_goals
   go_wp2_with fail;refine bodyPost_ret (v:= .tuple #[aA.val H x, (⟨k,a, (IntKind.i64.wrap 2),e,r,bb,hh,o,c,d⟩ : aO).val]) (by simp [results,Tryz.results234,go_sem,aA.val,aO.val,dR,dY,HE.out]) rfl (aQ.fin (by repeat (first|with_reducible exact F0|with_reducible refine aQ.dG ?_ (by omega) _|with_reducible refine aQ.bZ ?_ _ _|with_reducible refine aQ.av ?_ _|with_reducible refine aQ.aY ?_)) b (⟨k,a, (IntKind.i64.wrap 2),e,r,bb,hh,o,c,d⟩ : aO) he)
theorem Jr (w : World)(H : aA)(x : Base)(wk : Nat)(k a e r bb hh o c : Int)(d : Bool)(h : dz w H x)(b : BInv x)(he : dV e)(cl : Nat)(_hw : wk<3)(hcl : cl<3)(hc : fG a= (cl : Int))(l : List Int)(t : Int)(hrow : x.Mem.I.G[cl]? =some (l++ [t])) :
  Calls Tryz.prog 234 #[H.val x, .int .i64 wk, (⟨k,a,3,e,r,bb,hh,o,c,d⟩ : aO).val] w (gQ w H) :=by
 have hn0 : ¬ (cl : Int) <0:=by omega
 have Ej:= ((qK b.mem hrow).2.1 t).2 (.inl rfl);have HS:=Hid.aD (zo b Ej);clear Ej;have hsh:= (jd.1 b.mem.heap).1;have ht0:= (bH.1 HS.out.1).1;have ht0' : ¬ t<0:=by omega
 obtain⟨w0,hW,F0,F4⟩ :=four w H x (⟨k,a,3,e,r,bb,hh,o,c,d⟩ : aO) h;simp only [w4] at hW;have bL:=F4.b.f8;have bM:=F4.s.f10;have dR:=F4.r.f8;have dY:=F4.t.f10;simp only at bM;have hsz:=F0.sz;simp only [aA.val,aO.val];obtain⟨g,gs,bo,cc,T,he2,AJ,hgw, ⟨hb1,hb2⟩,hg0,hgs,p1,p2,p3,FP⟩ :=uh h F0 b hrow;have bP:=b.uh hrow;clear hrow;rw [he2] at bL;simp only at bL;have HE:=Hid.aD he2;clear he2;have n0 : g≠w.heap.size:=by omega
 have n1 : g≠w.heap.size+1:=by omega
 have n2 : g≠w.heap.size+2:=by omega
 have n3 : g≠w.heap.size+3:=by omega
 have m0:=n0.symm;have m1:=n1.symm;have m2:=n2.symm;have m3:=n3.symm;go_enter Tryz.func234,Tryz.ntmps234;go_upto_region 1 with (fail);rw [←hW];clear hW;go_upto_block 0 with (first| (go_at_call 101;refine(jl a _).mono ?_;rw [hc];rintro e1 wq ⟨rfl,rfl⟩));go_cut [9,10] from 24 (fun v9 _ wx=>v9= .int .i64 t∧aQ w wx H (H.yI T) (x.global (x.Mem.I.G.set cl l)) ∧Four w wx H x (⟨k,a,3,e,r,bb,hh,o,c,d⟩ : aO))
 case first=>
  go_wp2_with fail;go_region_with (first| (go_at_call 164;refine(vo _ gs l.length bo t ?h1 ?h2 hb2 hb1).mono ?_; (case h1=>exact p3); (case h2=>exact hgs);rintro e1 wq ⟨rfl,hb⟩;obtain⟨os,d',rfl⟩ :=bN hb;clear hb))
  all_goals
   go_wp2_with fail;go_meet;exact⟨rfl, (by repeat (first|with_reducible exact F0|with_reducible refine FP _ ?_|with_reducible refine aQ.dG ?_ (by omega) _|with_reducible refine aQ.bZ ?_ _ _|with_reducible refine aQ.av ?_ _|with_reducible refine aQ.aY ?_)), (by repeat (first|with_reducible exact F4|with_reducible refine Four.xu ?_ hgw _|with_reducible refine Four.bZ ?_ _ _|with_reducible refine Four.aY ?_))⟩
 case rest=>
  clear bL bM dR dY hsz F0 F4 FP p1 p2 p3 hgs hg0;obtain⟨rfl,F0,F4⟩ :=hcut;have bL:=F4.b.f8;have bM:=F4.s.f10;have dR:=F4.r.f8;have dY:=F4.t.f10;simp only at bM;have hsz:=F0.sz;rw [HE.out] at bL;simp only at bL;clear F4;go_wp2_with fail;go_region_held3 (fun wx=>bR wx w.heap.size (aA.wO H ⟨some ⟨g,0,none⟩,3,cc⟩) x∧bW wx (w.heap.size+1) (⟨k,a,3,e,r,bb,hh,o,c,d⟩ : aO)) (first| ((try dsimp only);refine⟨?_, ?_⟩ <;> (repeat (first|with_reducible exact bL.1|with_reducible exact bM.1|with_reducible refine bR.kH ?_ (by omega) _|with_reducible refine bW.kH ?_ (by omega) _|with_reducible refine bR.bZ ?_ (by first|exact bL.2.2|exact Nat.lt_of_lt_of_le bL.2.2 (by simp)) _ _|with_reducible refine bW.bZ ?_ (by first|exact bM.2.2|exact Nat.lt_of_lt_of_le bM.2.2 (by simp)) _ _|with_reducible refine bR.aY ?_|with_reducible refine bW.aY ?_)))) (first| (go_at_call 243;refine(uY _ (aA.wO H ⟨some ⟨g,0,none⟩,3,cc⟩) x _ (⟨k,a,3,e,r,bb,hh,o,c,d⟩ : aO) t _ ?hr hsh HS.out.1 HS.out.2.1 HS.out.2.2).mono ?_; (case hr=>first|exact F0.Ep|exact F0.aY.Ep);rintro e1 wq ⟨o',rfl,hb⟩;obtain⟨os2,d2,rfl⟩ :=bN hb;clear hb))
  all_goals
   go_wp2_with fail;refine bodyPost_ret (v:= .tuple #[aA.val (H.yI T) (x.global (x.Mem.I.G.set cl l)), (⟨k,a,3,e,r,bb,hh,o',0,true⟩ : aO).val]) (by simp [results,Tryz.results234,go_sem,aA.val,aO.val,dR,dY,HE.out]) rfl (aQ.fin (by repeat (first|with_reducible exact F0|with_reducible refine aQ.dG ?_ (by omega) _|with_reducible refine aQ.bZ ?_ _ _|with_reducible refine aQ.av ?_ _|with_reducible refine aQ.aY ?_)) bP (⟨k,a,3,e,r,bb,hh,o',0,true⟩ : aO) he)
theorem Js (w : World)(H : aA)(x : Base)(wk : Nat)(k a e r bb hh o c : Int)(d : Bool)(h : dz w H x)(b : BInv x)(he : dV e)(cl : Nat)(_hw : wk<3)(hcl : cl<3)(hc : fG a= (cl : Int))(hrow : x.Mem.I.G[cl]? =some []) :
  Calls Tryz.prog 234 #[H.val x, .int .i64 wk, (⟨k,a,3,e,r,bb,hh,o,c,d⟩ : aO).val] w (gQ w H) :=by
 have hn0 : ¬ (cl : Int) <0:=by omega
 obtain⟨w0,hW,F0,F4⟩ :=four w H x (⟨k,a,3,e,r,bb,hh,o,c,d⟩ : aO) h;simp only [w4] at hW;have bL:=F4.b.f8;have bM:=F4.s.f10;have dR:=F4.r.f8;have dY:=F4.t.f10;simp only at bM;have hsz:=F0.sz;simp only [aA.val,aO.val];obtain⟨g,cc,bo,A,he2,AJ,hgw,hg0,p1,p2,FP⟩ :=Er h F0 b hrow;clear hrow;rw [he2] at bL;simp only at bL;have HE:=Hid.aD he2;clear he2;have n0 : g≠w.heap.size:=by omega
 have n1 : g≠w.heap.size+1:=by omega
 have n2 : g≠w.heap.size+2:=by omega
 have n3 : g≠w.heap.size+3:=by omega
 have m0:=n0.symm;have m1:=n1.symm;have m2:=n2.symm;have m3:=n3.symm;go_enter Tryz.func234,Tryz.ntmps234;go_upto_region 1 with (fail);rw [←hW];clear hW;go_upto_block 0 with (first| (go_at_call 101;refine(jl a _).mono ?_;rw [hc];rintro e1 wq ⟨rfl,rfl⟩));go_cut [9,10] from 24 (fun v9 _ wx=>v9= .int .i64 (-1) ∧aQ w wx H H x∧Four w wx H x (⟨k,a,3,e,r,bb,hh,o,c,d⟩ : aO))
 case first=>
  go_wp2_with fail;go_region_with (first| (go_at_call 164;refine(vk _ A bo).mono ?_;rintro e1 wq ⟨rfl,hb⟩;obtain⟨os,d',rfl⟩ :=bN hb;clear hb))
  all_goals
   go_wp2_with fail;go_meet;exact⟨rfl, (by repeat (first|with_reducible exact F0|with_reducible refine FP _ ?_|with_reducible refine aQ.dG ?_ (by omega) _|with_reducible refine aQ.bZ ?_ _ _|with_reducible refine aQ.av ?_ _|with_reducible refine aQ.aY ?_)), (by repeat (first|with_reducible exact F4|with_reducible refine Four.xu ?_ hgw _|with_reducible refine Four.bZ ?_ _ _|with_reducible refine Four.aY ?_))⟩
 case rest=>
  clear bL bM dR dY hsz F0 F4 FP p1 p2 hg0;obtain⟨rfl,F0,F4⟩ :=hcut;have bL:=F4.b.f8;have bM:=F4.s.f10;have dR:=F4.r.f8;have dY:=F4.t.f10;simp only at bM;have hsz:=F0.sz;rw [HE.out] at bL;simp only at bL;clear F4;go_wp2_with fail;go_region_with (first| (go_at_call 239;refine(iQ _ (⟨k,a,3,e,r,bb,hh,o,c,d⟩ : aO) _).mono ?_;rintro e1 wq ⟨rfl,hb⟩;obtain⟨os,d',rfl⟩ :=bN hb;clear hb))
  all_goals
   go_wp2_with fail;refine bodyPost_ret (v:= .tuple #[aA.val H x, (⟨k,a,3,e,r,bb,hh,o,3,true⟩ : aO).val]) (by simp [results,Tryz.results234,go_sem,aA.val,aO.val,dR,dY,HE.out]) rfl (aQ.fin (by repeat (first|with_reducible exact F0|with_reducible refine aQ.dG ?_ (by omega) _|with_reducible refine aQ.bZ ?_ _ _|with_reducible refine aQ.av ?_ _|with_reducible refine aQ.aY ?_)) b (⟨k,a,3,e,r,bb,hh,o,3,true⟩ : aO) he)
end Go.Proofs.YtkmggglljkmjoaaGreat
