/- m -/
import Derived.Test.YtkmggglljkmjoaaGreatUHRanges27
set_option maxRecDepth 100000
set_option maxHeartbeats 4000000
namespace Go.Proofs.YtkmggglljkmjoaaGreat
open Go.RowKit
theorem iQ (w : World)(s : aO)(c : Int) : Calls Tryz.prog 239 #[s.val, .int .i64 c] w fun e w'=>e= .returned (aO.val {s with c:=c,d:=true}) ∧Below w.heap.size w w':=by
 simp only [aO.val];go_enter Tryz.func239,Tryz.ntmps239;go_wp2_with fail;refine bodyPost_ret (v:=aO.val {s with c:=c,d:=true}) (by simp [results,Tryz.results239,go_sem]) rfl ⟨rfl,dU⟩
theorem Jd (w : World)(H : aA)(x : Base)(k a p e r bb hh o c : Int)(d : Bool)(h : dz w H x)(b : BInv x)(he : dV e)(c0 : (p == 0) =false)(c1 : (p == 1) =false)(c2 : (p == 2) =false) :
  Calls Tryz.prog 236 #[H.val x, (⟨k,a,p,e,r,bb,hh,o,c,d⟩ : aO).val] w (gQ w H) :=by
 obtain⟨w0,hW,F0,F4⟩ :=four w H x (⟨k,a,p,e,r,bb,hh,o,c,d⟩ : aO) h;simp only [w4] at hW;have bL:=F4.b.f8;have bM:=F4.s.f10;have dR:=F4.r.f8;have dY:=F4.t.f10;simp only at bM;have hsz:=F0.sz;simp only [aA.val,aO.val];go_enter Tryz.func236,Tryz.ntmps236;go_upto_region 1 with (fail);rw [←hW];clear hW;go_wp2_with fail;go_region_with (first| (go_at_call 239;refine(iQ _ (⟨k,a,p,e,r,bb,hh,o,c,d⟩ : aO) _).mono ?_;rintro e1 wq ⟨rfl,hb⟩;obtain⟨os,d',rfl⟩ :=bN hb;clear hb))
 all_goals
  go_wp2_with fail;refine bodyPost_ret (v:= .tuple #[aA.val H x, (⟨k,a,p,e,r,bb,hh,o,1,true⟩ : aO).val]) (by simp [results,Tryz.results236,go_sem,aA.val,aO.val,dR,dY]) rfl (aQ.fin (by repeat (first|with_reducible exact F0|with_reducible refine aQ.dG ?_ (by omega) _|with_reducible refine aQ.bZ ?_ _ _|with_reducible refine aQ.av ?_ _|with_reducible refine aQ.aY ?_)) b (⟨k,a,p,e,r,bb,hh,o,1,true⟩ : aO) he)
theorem Je (w : World)(H : aA)(x : Base)(k a e r bb hh o c : Int)(d : Bool)(h : dz w H x)(b : BInv x)(_he : dV e) :
  Calls Tryz.prog 236 #[H.val x, (⟨k,a,0,e,r,bb,hh,o,c,d⟩ : aO).val] w (gQ w H) :=by
 obtain⟨w0,hW,F0,F4⟩ :=four w H x (⟨k,a,0,e,r,bb,hh,o,c,d⟩ : aO) h;simp only [w4] at hW;have bL:=F4.b.f8;have bM:=F4.s.f10;have dR:=F4.r.f8;have dY:=F4.t.f10;simp only at bM;have hsz:=F0.sz;simp only [aA.val,aO.val];go_enter Tryz.func236,Tryz.ntmps236;go_upto_region 1 with (fail);rw [←hW];clear hW;go_wp2_with fail;go_region
 all_goals
  go_wp2_with fail;refine bodyPost_ret (v:= .tuple #[aA.val H x, (⟨k,a,1,x.Clock.Epoch,r,0,hh,o,c,d⟩ : aO).val]) (by simp [results,Tryz.results236,go_sem,aA.val,aO.val,dR,dY]) rfl (aQ.fin (by repeat (first|with_reducible exact F0|with_reducible refine aQ.dG ?_ (by omega) _|with_reducible refine aQ.bZ ?_ _ _|with_reducible refine aQ.av ?_ _|with_reducible refine aQ.aY ?_)) b (⟨k,a,1,x.Clock.Epoch,r,0,hh,o,c,d⟩ : aO) b.ep)
theorem GQ (w : World)(H : aA)(x : Base)(k a e r bb hh o c : Int)(d : Bool)(h : dz w H x)(b : BInv x)(he : dV e)(c1 : bG 0 2 bb=false) :
  Calls Tryz.prog 236 #[H.val x, (⟨k,a,1,e,r,bb,hh,o,c,d⟩ : aO).val] w (gQ w H) :=by
 obtain⟨w0,hW,F0,F4⟩ :=four w H x (⟨k,a,1,e,r,bb,hh,o,c,d⟩ : aO) h;simp only [w4] at hW;have bL:=F4.b.f8;have bM:=F4.s.f10;have dR:=F4.r.f8;have dY:=F4.t.f10;simp only at bM;have hsz:=F0.sz;simp only [aA.val,aO.val];go_enter Tryz.func236,Tryz.ntmps236;go_upto_region 1 with (fail);rw [←hW];clear hW;go_wp2_with (go_at_call 102;refine(dH _ _ _ _).mono ?_;rw [c1];rintro e1 wq ⟨rfl,rfl⟩);go_region_with (first| (go_at_call 239;refine(iQ _ (⟨k,a,1,e,r,bb,hh,o,c,d⟩ : aO) _).mono ?_;rintro e1 wq ⟨rfl,hb⟩;obtain⟨os,d',rfl⟩ :=bN hb;clear hb))
 all_goals
  go_wp2_with fail;refine bodyPost_ret (v:= .tuple #[aA.val H x, (⟨k,a,1,e,r,bb,hh,o,1,true⟩ : aO).val]) (by simp [results,Tryz.results236,go_sem,aA.val,aO.val,dR,dY]) rfl (aQ.fin (by repeat (first|with_reducible exact F0|with_reducible refine aQ.dG ?_ (by omega) _|with_reducible refine aQ.bZ ?_ _ _|with_reducible refine aQ.av ?_ _|with_reducible refine aQ.aY ?_)) b (⟨k,a,1,e,r,bb,hh,o,1,true⟩ : aO) he)
theorem GR (w : World)(H : aA)(x : Base)(k a e r bb hh o c : Int)(d : Bool)(h : dz w H x)(b : BInv x)(he : dV e)(c1 : bG 0 2 bb=true)(hl : (Clk.kZ x.Clock bb e).2=false) :
  Calls Tryz.prog 236 #[H.val x, (⟨k,a,1,e,r,bb,hh,o,c,d⟩ : aO).val] w (gQ w H) :=by
 have lk:=zn x.Clock bb e;have sW : dV (Clk.kZ x.Clock bb e).1.Epoch:=by rw [lk.2];exact b.ep
 have hp3 : x.Clock.aK.length≤1073741824:=by rw [b.pins];decide
 obtain⟨w0,hW,F0,F4⟩ :=four w H x (⟨k,a,1,e,r,bb,hh,o,c,d⟩ : aO) h;simp only [w4] at hW;have bL:=F4.b.f8;have bM:=F4.s.f10;have dR:=F4.r.f8;have dY:=F4.t.f10;simp only at bM;have hsz:=F0.sz;simp only [aA.val,aO.val];go_enter Tryz.func236,Tryz.ntmps236;go_upto_region 1 with (fail);rw [←hW];clear hW;go_wp2_with (go_at_call 102;refine(dH _ _ _ _).mono ?_;rw [c1];rintro e1 wq ⟨rfl,rfl⟩);refine(Clk.sj _ H.Clock x.Clock bb e F0.o.Clock.rd' hp3).mono ?_;rw [hl];generalize (Clk.kZ x.Clock bb e).1=cl at lk sW⊢;have yH:=Hid.aD lk;clear lk;rintro e1 w1 ⟨K,rfl,jh,jM,hb⟩;replace F4:=F4.below hb;replace F0:=F0.clock hb jh jM;clear hb jh jM bL bM dR dY hsz;have bL:=F4.b.f8;have bM:=F4.s.f10;have dR:=F4.r.f8;have dY:=F4.t.f10;simp only at bM;have hsz:=F0.sz;go_wp2_with fail;go_region_with (first| (go_at_call 239;refine(iQ _ (⟨k,a,1,e,r,bb,hh,o,c,d⟩ : aO) _).mono ?_;rintro e1 wq ⟨rfl,hb⟩;obtain⟨os,d',rfl⟩ :=bN hb;clear hb))
 all_goals
  go_wp2_with fail;refine bodyPost_ret (v:= .tuple #[aA.val ({H with Clock:=K}) ({x with Clock:=cl}), (⟨k,a,1,e,r,bb,hh,o,8,true⟩ : aO).val]) (by simp [results,Tryz.results236,go_sem,aA.val,aO.val,dR,dY]) rfl (aQ.fin (by repeat (first|with_reducible exact F0|with_reducible refine aQ.dG ?_ (by omega) _|with_reducible refine aQ.bZ ?_ _ _|with_reducible refine aQ.av ?_ _|with_reducible refine aQ.aY ?_)) (qw b (yH.out.1.trans b.pins) sW) (⟨k,a,1,e,r,bb,hh,o,8,true⟩ : aO) he)
theorem GU (w : World)(H : aA)(x : Base)(k a e r bb hh o c : Int)(d : Bool)(h : dz w H x)(b : BInv x)(he : dV e)(c1 : bG 0 2 bb=true)(hl : (Clk.kZ x.Clock bb e).2=true)(c3 : (bb+1 == 3) =true) :
  Calls Tryz.prog 236 #[H.val x, (⟨k,a,1,e,r,bb,hh,o,c,d⟩ : aO).val] w (gQ w H) :=by
 have lk:=zn x.Clock bb e;have sW : dV (Clk.kZ x.Clock bb e).1.Epoch:=by rw [lk.2];exact b.ep
 have hp3 : x.Clock.aK.length≤1073741824:=by rw [b.pins];decide
 have hw1 : IntKind.i64.wrap (bb+1) =bb+1:=by have:=bH.1 c1;rw [IntKind.wrap_i64];omega
 obtain⟨w0,hW,F0,F4⟩ :=four w H x (⟨k,a,1,e,r,bb,hh,o,c,d⟩ : aO) h;simp only [w4] at hW;have bL:=F4.b.f8;have bM:=F4.s.f10;have dR:=F4.r.f8;have dY:=F4.t.f10;simp only at bM;have hsz:=F0.sz;simp only [aA.val,aO.val];go_enter Tryz.func236,Tryz.ntmps236;go_upto_region 1 with (fail);rw [←hW];clear hW;go_wp2_with (go_at_call 102;refine(dH _ _ _ _).mono ?_;rw [c1];rintro e1 wq ⟨rfl,rfl⟩);refine(Clk.sj _ H.Clock x.Clock bb e F0.o.Clock.rd' hp3).mono ?_;rw [hl];generalize (Clk.kZ x.Clock bb e).1=cl at lk sW⊢;have yH:=Hid.aD lk;clear lk;rintro e1 w1 ⟨K,rfl,jh,jM,hb⟩;replace F4:=F4.below hb;replace F0:=F0.clock hb jh jM;clear hb jh jM bL bM dR dY hsz;have bL:=F4.b.f8;have bM:=F4.s.f10;have dR:=F4.r.f8;have dY:=F4.t.f10;simp only at bM;have hsz:=F0.sz;go_wp2_with fail;go_region
 all_goals
  go_wp2_with fail;refine bodyPost_ret (v:= .tuple #[aA.val ({H with Clock:=K}) ({x with Clock:=cl}), (⟨k,a,2,e,r,bb+1,hh,o,c,d⟩ : aO).val]) (by simp [results,Tryz.results236,go_sem,aA.val,aO.val,dR,dY]) rfl (aQ.fin (by repeat (first|with_reducible exact F0|with_reducible refine aQ.dG ?_ (by omega) _|with_reducible refine aQ.bZ ?_ _ _|with_reducible refine aQ.av ?_ _|with_reducible refine aQ.aY ?_)) (qw b (yH.out.1.trans b.pins) sW) (⟨k,a,2,e,r,bb+1,hh,o,c,d⟩ : aO) he)
theorem GV (w : World)(H : aA)(x : Base)(k a e r bb hh o c : Int)(d : Bool)(h : dz w H x)(b : BInv x)(he : dV e)(c1 : bG 0 2 bb=true)(hl : (Clk.kZ x.Clock bb e).2=true)(c3 : (bb+1 == 3) =false) :
  Calls Tryz.prog 236 #[H.val x, (⟨k,a,1,e,r,bb,hh,o,c,d⟩ : aO).val] w (gQ w H) :=by
 have lk:=zn x.Clock bb e;have sW : dV (Clk.kZ x.Clock bb e).1.Epoch:=by rw [lk.2];exact b.ep
 have hp3 : x.Clock.aK.length≤1073741824:=by rw [b.pins];decide
 have hw1 : IntKind.i64.wrap (bb+1) =bb+1:=by have:=bH.1 c1;rw [IntKind.wrap_i64];omega
 obtain⟨w0,hW,F0,F4⟩ :=four w H x (⟨k,a,1,e,r,bb,hh,o,c,d⟩ : aO) h;simp only [w4] at hW;have bL:=F4.b.f8;have bM:=F4.s.f10;have dR:=F4.r.f8;have dY:=F4.t.f10;simp only at bM;have hsz:=F0.sz;simp only [aA.val,aO.val];go_enter Tryz.func236,Tryz.ntmps236;go_upto_region 1 with (fail);rw [←hW];clear hW;go_wp2_with (go_at_call 102;refine(dH _ _ _ _).mono ?_;rw [c1];rintro e1 wq ⟨rfl,rfl⟩);refine(Clk.sj _ H.Clock x.Clock bb e F0.o.Clock.rd' hp3).mono ?_;rw [hl];generalize (Clk.kZ x.Clock bb e).1=cl at lk sW⊢;have yH:=Hid.aD lk;clear lk;rintro e1 w1 ⟨K,rfl,jh,jM,hb⟩;replace F4:=F4.below hb;replace F0:=F0.clock hb jh jM;clear hb jh jM bL bM dR dY hsz;have bL:=F4.b.f8;have bM:=F4.s.f10;have dR:=F4.r.f8;have dY:=F4.t.f10;simp only at bM;have hsz:=F0.sz;go_wp2_with fail;go_region
 all_goals
  go_wp2_with fail;refine bodyPost_ret (v:= .tuple #[aA.val ({H with Clock:=K}) ({x with Clock:=cl}), (⟨k,a,1,e,r,bb+1,hh,o,c,d⟩ : aO).val]) (by simp [results,Tryz.results236,go_sem,aA.val,aO.val,dR,dY]) rfl (aQ.fin (by repeat (first|with_reducible exact F0|with_reducible refine aQ.dG ?_ (by omega) _|with_reducible refine aQ.bZ ?_ _ _|with_reducible refine aQ.av ?_ _|with_reducible refine aQ.aY ?_)) (qw b (yH.out.1.trans b.pins) sW) (⟨k,a,1,e,r,bb+1,hh,o,c,d⟩ : aO) he)
theorem GX (w : World)(H : aA)(x : Base)(k a e r bb hh o c : Int)(d : Bool)(h : dz w H x)(b : BInv x)(he : dV e)(hl : (Clk.pq x.Clock e).2=true) :
  Calls Tryz.prog 236 #[H.val x, (⟨k,a,2,e,r,bb,hh,o,c,d⟩ : aO).val] w (gQ w H) :=by
 have lk:=En b.ep e;have sW:=lk.2;have hp3 : x.Clock.aK.length≤1073741824:=by rw [b.pins];decide
 obtain⟨w0,hW,F0,F4⟩ :=four w H x (⟨k,a,2,e,r,bb,hh,o,c,d⟩ : aO) h;simp only [w4] at hW;have bL:=F4.b.f8;have bM:=F4.s.f10;have dR:=F4.r.f8;have dY:=F4.t.f10;simp only at bM;have hsz:=F0.sz;simp only [aA.val,aO.val];go_enter Tryz.func236,Tryz.ntmps236;go_upto_region 1 with (fail);rw [←hW];clear hW;go_wp2_with fail;refine(Clk.Bg _ H.Clock x.Clock e he F0.o.Clock.rd' hp3).mono ?_;rw [hl];generalize (Clk.pq x.Clock e).1=cl at lk sW⊢;have yH:=Hid.aD lk;clear lk;rintro e1 w1 ⟨K,rfl,jh,jM,hb⟩;replace F4:=F4.below hb;replace F0:=F0.clock hb jh jM;clear hb jh jM bL bM dR dY hsz;have bL:=F4.b.f8;have bM:=F4.s.f10;have dR:=F4.r.f8;have dY:=F4.t.f10;simp only at bM;have hsz:=F0.sz;go_wp2_with fail;go_region_with (first| (go_at_call 239;refine(iQ _ (⟨k,a,2,e,r,bb,hh,1,c,d⟩ : aO) _).mono ?_;rintro e1 wq ⟨rfl,hb⟩;obtain⟨os,d',rfl⟩ :=bN hb;clear hb))
 all_goals
  go_wp2_with fail;refine bodyPost_ret (v:= .tuple #[aA.val ({H with Clock:=K}) ({x with Clock:=cl}), (⟨k,a,2,e,r,bb,hh,1,0,true⟩ : aO).val]) (by simp [results,Tryz.results236,go_sem,aA.val,aO.val,dR,dY]) rfl (aQ.fin (by repeat (first|with_reducible exact F0|with_reducible refine aQ.dG ?_ (by omega) _|with_reducible refine aQ.bZ ?_ _ _|with_reducible refine aQ.av ?_ _|with_reducible refine aQ.aY ?_)) (qw b (yH.out.1.trans b.pins) sW) (⟨k,a,2,e,r,bb,hh,1,0,true⟩ : aO) he)
theorem GY (w : World)(H : aA)(x : Base)(k a e r bb hh o c : Int)(d : Bool)(h : dz w H x)(b : BInv x)(he : dV e)(hl : (Clk.pq x.Clock e).2=false) :
  Calls Tryz.prog 236 #[H.val x, (⟨k,a,2,e,r,bb,hh,o,c,d⟩ : aO).val] w (gQ w H) :=by
 have lk:=En b.ep e;have sW:=lk.2;have hp3 : x.Clock.aK.length≤1073741824:=by rw [b.pins];decide
 obtain⟨w0,hW,F0,F4⟩ :=four w H x (⟨k,a,2,e,r,bb,hh,o,c,d⟩ : aO) h;simp only [w4] at hW;have bL:=F4.b.f8;have bM:=F4.s.f10;have dR:=F4.r.f8;have dY:=F4.t.f10;simp only at bM;have hsz:=F0.sz;simp only [aA.val,aO.val];go_enter Tryz.func236,Tryz.ntmps236;go_upto_region 1 with (fail);rw [←hW];clear hW;go_wp2_with fail;refine(Clk.Bg _ H.Clock x.Clock e he F0.o.Clock.rd' hp3).mono ?_;rw [hl];generalize (Clk.pq x.Clock e).1=cl at lk sW⊢;have yH:=Hid.aD lk;clear lk;rintro e1 w1 ⟨K,rfl,jh,jM,hb⟩;replace F4:=F4.below hb;replace F0:=F0.clock hb jh jM;clear hb jh jM bL bM dR dY hsz;have bL:=F4.b.f8;have bM:=F4.s.f10;have dR:=F4.r.f8;have dY:=F4.t.f10;simp only at bM;have hsz:=F0.sz;go_wp2_with fail;go_region_with (first| (go_at_call 239;refine(iQ _ (⟨k,a,2,e,r,bb,hh,o,c,d⟩ : aO) _).mono ?_;rintro e1 wq ⟨rfl,hb⟩;obtain⟨os,d',rfl⟩ :=bN hb;clear hb))
 all_goals
  go_wp2_with fail;refine bodyPost_ret (v:= .tuple #[aA.val ({H with Clock:=K}) ({x with Clock:=cl}), (⟨k,a,2,e,r,bb,hh,o,0,true⟩ : aO).val]) (by simp [results,Tryz.results236,go_sem,aA.val,aO.val,dR,dY]) rfl (aQ.fin (by repeat (first|with_reducible exact F0|with_reducible refine aQ.dG ?_ (by omega) _|with_reducible refine aQ.bZ ?_ _ _|with_reducible refine aQ.av ?_ _|with_reducible refine aQ.aY ?_)) (qw b (yH.out.1.trans b.pins) sW) (⟨k,a,2,e,r,bb,hh,o,0,true⟩ : aO) he)
theorem GZ (w : World)(H : aA)(x : Base)(s : aO)(h : dz w H x)(b : BInv x)(he : dV s.e) : Calls Tryz.prog 236 #[H.val x,s.val] w (gQ w H) :=by
 obtain⟨k,a,p,e,r,bb,hh,o,c,d⟩ :=s;by_cases c0 : p=0
 ·subst c0;exact Je w H x k a e r bb hh o c d h b he
 by_cases c1 : p=1
 ·subst c1
  by_cases h1 : bG 0 2 bb=true
  ·by_cases h2 : (Clk.kZ x.Clock bb e).2=true
   ·by_cases h3 : (bb+1 == 3) =true
    ·exact GU w H x k a e r bb hh o c d h b he h1 h2 h3
    ·exact GV w H x k a e r bb hh o c d h b he h1 h2 ((XM _).mp h3)
   ·exact GR w H x k a e r bb hh o c d h b he h1 ((XM _).mp h2)
  ·exact GQ w H x k a e r bb hh o c d h b he ((XM _).mp h1)
 by_cases c2 : p=2
 ·subst c2
  by_cases h2 : (Clk.pq x.Clock e).2=true
  ·exact GX w H x k a e r bb hh o c d h b he h2
  ·exact GY w H x k a e r bb hh o c d h b he ((XM _).mp h2)
 exact Jd w H x k a p e r bb hh o c d h b he (by simpa using c0) (by simpa using c1) (by simpa using c2)
end Go.Proofs.YtkmggglljkmjoaaGreat
