/- m -/
import Derived.Test.YtkmggglljkmjoaaGreatUHRanges30
set_option maxRecDepth 100000
set_option maxHeartbeats 4000000
namespace Go.Proofs.YtkmggglljkmjoaaGreat
open Go.RowKit
theorem OJ (w : World)(H : aA)(x : Base)(wk : Int)(k a p e r bb hh o c : Int)(d : Bool)(h : dz w H x)(b : BInv x)(he : dV e)(c0 : (p == 0) =false)(c1 : (p == 1) =false)(c2 : (p == 2) =false) :
  Calls Tryz.prog 238 #[H.val x, .int .i64 wk, (⟨k,a,p,e,r,bb,hh,o,c,d⟩ : aO).val] w (gQ w H) :=by
 obtain⟨w0,hW,F0,F4⟩ :=four w H x (⟨k,a,p,e,r,bb,hh,o,c,d⟩ : aO) h;simp only [w4] at hW;have bL:=F4.b.f8;have bM:=F4.s.f10;have dR:=F4.r.f8;have dY:=F4.t.f10;simp only at bM;have hsz:=F0.sz;simp only [aA.val,aO.val];go_enter Tryz.func238,Tryz.ntmps238;go_upto_region 1 with (fail);rw [←hW];clear hW;go_wp2_with fail;go_region_with (first| (go_at_call 239;refine(iQ _ (⟨k,a,p,e,r,bb,hh,o,c,d⟩ : aO) _).mono ?_;rintro e1 wq ⟨rfl,hb⟩;obtain⟨os,d',rfl⟩ :=bN hb;clear hb))
 all_goals
  go_wp2_with fail;refine bodyPost_ret (v:= .tuple #[aA.val H x, (⟨k,a,p,e,r,bb,hh,o,1,true⟩ : aO).val]) (by simp [results,Tryz.results238,go_sem,aA.val,aO.val,dR,dY]) rfl (aQ.fin (by repeat (first|with_reducible exact F0|with_reducible refine aQ.dG ?_ (by omega) _|with_reducible refine aQ.bZ ?_ _ _|with_reducible refine aQ.av ?_ _|with_reducible refine aQ.aY ?_)) b (⟨k,a,p,e,r,bb,hh,o,1,true⟩ : aO) he)
theorem OL (w : World)(H : aA)(x : Base)(wk : Int)(k a e r bb hh o c : Int)(d : Bool)(h : dz w H x)(b : BInv x)(_he : dV e) :
  Calls Tryz.prog 238 #[H.val x, .int .i64 wk, (⟨k,a,0,e,r,bb,hh,o,c,d⟩ : aO).val] w (gQ w H) :=by
 obtain⟨w0,hW,F0,F4⟩ :=four w H x (⟨k,a,0,e,r,bb,hh,o,c,d⟩ : aO) h;simp only [w4] at hW;have bL:=F4.b.f8;have bM:=F4.s.f10;have dR:=F4.r.f8;have dY:=F4.t.f10;simp only at bM;have hsz:=F0.sz;simp only [aA.val,aO.val];go_enter Tryz.func238,Tryz.ntmps238;go_upto_region 1 with (fail);rw [←hW];clear hW;go_wp2_with fail;go_region
 all_goals
  go_wp2_with fail;refine bodyPost_ret (v:= .tuple #[aA.val H x, (⟨k,a,1,x.Clock.Epoch,r,bb,hh,o,c,d⟩ : aO).val]) (by simp [results,Tryz.results238,go_sem,aA.val,aO.val,dR,dY]) rfl (aQ.fin (by repeat (first|with_reducible exact F0|with_reducible refine aQ.dG ?_ (by omega) _|with_reducible refine aQ.bZ ?_ _ _|with_reducible refine aQ.av ?_ _|with_reducible refine aQ.aY ?_)) b (⟨k,a,1,x.Clock.Epoch,r,bb,hh,o,c,d⟩ : aO) b.ep)
theorem NG (w : World)(H : aA)(x : Base)(wk : Int)(k a e r bb hh o c : Int)(d : Bool)(h : dz w H x)(b : BInv x)(he : dV e)(hl : (Clk.mU x.Clock wk e).2=true) :
  Calls Tryz.prog 238 #[H.val x, .int .i64 wk, (⟨k,a,1,e,r,bb,hh,o,c,d⟩ : aO).val] w (gQ w H) :=by
 have lk:=CF x.Clock wk e;have sW : dV (Clk.mU x.Clock wk e).1.Epoch:=by rw [lk.2];exact b.ep
 have hp3 : x.Clock.aK.length≤1073741824:=by rw [b.pins];decide
 obtain⟨w0,hW,F0,F4⟩ :=four w H x (⟨k,a,1,e,r,bb,hh,o,c,d⟩ : aO) h;simp only [w4] at hW;have bL:=F4.b.f8;have bM:=F4.s.f10;have dR:=F4.r.f8;have dY:=F4.t.f10;simp only at bM;have hsz:=F0.sz;simp only [aA.val,aO.val];go_enter Tryz.func238,Tryz.ntmps238;go_upto_region 1 with (fail);rw [←hW];clear hW;go_wp2_with fail;refine(Clk.zm _ H.Clock x.Clock wk e F0.o.Clock.rd' hp3).mono ?_;rw [hl];generalize (Clk.mU x.Clock wk e).1=cl at lk sW⊢;have yH:=Hid.aD lk;clear lk;rintro e1 w1 ⟨K,rfl,jh,jM,hb⟩;replace F4:=F4.below hb;replace F0:=F0.clock hb jh jM;clear hb jh jM bL bM dR dY hsz;have bL:=F4.b.f8;have bM:=F4.s.f10;have dR:=F4.r.f8;have dY:=F4.t.f10;simp only at bM;have hsz:=F0.sz;go_wp2_with fail;go_region
 all_goals
  go_wp2_with fail;refine bodyPost_ret (v:= .tuple #[aA.val ({H with Clock:=K}) ({x with Clock:=cl}), (⟨k,a,2,e,r,bb,hh,o,c,d⟩ : aO).val]) (by simp [results,Tryz.results238,go_sem,aA.val,aO.val,dR,dY]) rfl (aQ.fin (by repeat (first|with_reducible exact F0|with_reducible refine aQ.dG ?_ (by omega) _|with_reducible refine aQ.bZ ?_ _ _|with_reducible refine aQ.av ?_ _|with_reducible refine aQ.aY ?_)) (qw b (yH.out.1.trans b.pins) sW) (⟨k,a,2,e,r,bb,hh,o,c,d⟩ : aO) he)
theorem NH (w : World)(H : aA)(x : Base)(wk : Int)(k a e r bb hh o c : Int)(d : Bool)(h : dz w H x)(b : BInv x)(he : dV e)(hl : (Clk.mU x.Clock wk e).2=false) :
  Calls Tryz.prog 238 #[H.val x, .int .i64 wk, (⟨k,a,1,e,r,bb,hh,o,c,d⟩ : aO).val] w (gQ w H) :=by
 have lk:=CF x.Clock wk e;have sW : dV (Clk.mU x.Clock wk e).1.Epoch:=by rw [lk.2];exact b.ep
 have hp3 : x.Clock.aK.length≤1073741824:=by rw [b.pins];decide
 obtain⟨w0,hW,F0,F4⟩ :=four w H x (⟨k,a,1,e,r,bb,hh,o,c,d⟩ : aO) h;simp only [w4] at hW;have bL:=F4.b.f8;have bM:=F4.s.f10;have dR:=F4.r.f8;have dY:=F4.t.f10;simp only at bM;have hsz:=F0.sz;simp only [aA.val,aO.val];go_enter Tryz.func238,Tryz.ntmps238;go_upto_region 1 with (fail);rw [←hW];clear hW;go_wp2_with fail;refine(Clk.zm _ H.Clock x.Clock wk e F0.o.Clock.rd' hp3).mono ?_;rw [hl];generalize (Clk.mU x.Clock wk e).1=cl at lk sW⊢;have yH:=Hid.aD lk;clear lk;rintro e1 w1 ⟨K,rfl,jh,jM,hb⟩;replace F4:=F4.below hb;replace F0:=F0.clock hb jh jM;clear hb jh jM bL bM dR dY hsz;have bL:=F4.b.f8;have bM:=F4.s.f10;have dR:=F4.r.f8;have dY:=F4.t.f10;simp only at bM;have hsz:=F0.sz;go_wp2_with fail;go_region_with (first| (go_at_call 239;refine(iQ _ (⟨k,a,1,e,r,bb,hh,o,c,d⟩ : aO) _).mono ?_;rintro e1 wq ⟨rfl,hb⟩;obtain⟨os,d',rfl⟩ :=bN hb;clear hb))
 all_goals
  go_wp2_with fail;refine bodyPost_ret (v:= .tuple #[aA.val ({H with Clock:=K}) ({x with Clock:=cl}), (⟨k,a,1,e,r,bb,hh,o,1,true⟩ : aO).val]) (by simp [results,Tryz.results238,go_sem,aA.val,aO.val,dR,dY]) rfl (aQ.fin (by repeat (first|with_reducible exact F0|with_reducible refine aQ.dG ?_ (by omega) _|with_reducible refine aQ.bZ ?_ _ _|with_reducible refine aQ.av ?_ _|with_reducible refine aQ.aY ?_)) (qw b (yH.out.1.trans b.pins) sW) (⟨k,a,1,e,r,bb,hh,o,1,true⟩ : aO) he)
theorem NI (w : World)(H : aA)(x : Base)(wk : Int)(k a e r bb hh o c : Int)(d : Bool)(h : dz w H x)(b : BInv x)(he : dV e)(c2 : (x.Clock.Epoch == e) =true) :
  Calls Tryz.prog 238 #[H.val x, .int .i64 wk, (⟨k,a,2,e,r,bb,hh,o,c,d⟩ : aO).val] w (gQ w H) :=by
 obtain⟨w0,hW,F0,F4⟩ :=four w H x (⟨k,a,2,e,r,bb,hh,o,c,d⟩ : aO) h;simp only [w4] at hW;have bL:=F4.b.f8;have bM:=F4.s.f10;have dR:=F4.r.f8;have dY:=F4.t.f10;simp only at bM;have hsz:=F0.sz;simp only [aA.val,aO.val];go_enter Tryz.func238,Tryz.ntmps238;go_upto_region 1 with (fail);rw [←hW];clear hW;go_wp2_with fail;go_region_with (first| (go_at_call 239;refine(iQ _ (⟨k,a,2,e,r,bb,hh,o,c,d⟩ : aO) _).mono ?_;rintro e1 wq ⟨rfl,hb⟩;obtain⟨os,d',rfl⟩ :=bN hb;clear hb))
 all_goals
  go_wp2_with fail;refine bodyPost_ret (v:= .tuple #[aA.val H x, (⟨k,a,2,e,r,bb,hh,o,0,true⟩ : aO).val]) (by simp [results,Tryz.results238,go_sem,aA.val,aO.val,dR,dY]) rfl (aQ.fin (by repeat (first|with_reducible exact F0|with_reducible refine aQ.dG ?_ (by omega) _|with_reducible refine aQ.bZ ?_ _ _|with_reducible refine aQ.av ?_ _|with_reducible refine aQ.aY ?_)) b (⟨k,a,2,e,r,bb,hh,o,0,true⟩ : aO) he)
theorem NJ (w : World)(H : aA)(x : Base)(wk : Int)(k a e r bb hh o c : Int)(d : Bool)(h : dz w H x)(b : BInv x)(he : dV e)(c2 : (x.Clock.Epoch == e) =false) :
  Calls Tryz.prog 238 #[H.val x, .int .i64 wk, (⟨k,a,2,e,r,bb,hh,o,c,d⟩ : aO).val] w (gQ w H) :=by
 obtain⟨w0,hW,F0,F4⟩ :=four w H x (⟨k,a,2,e,r,bb,hh,o,c,d⟩ : aO) h;simp only [w4] at hW;have bL:=F4.b.f8;have bM:=F4.s.f10;have dR:=F4.r.f8;have dY:=F4.t.f10;simp only at bM;have hsz:=F0.sz;simp only [aA.val,aO.val];go_enter Tryz.func238,Tryz.ntmps238;go_upto_region 1 with (fail);rw [←hW];clear hW;go_wp2_with fail;go_region
 all_goals
  go_wp2_with fail;refine bodyPost_ret (v:= .tuple #[aA.val H x, (⟨k,a,0,e,r,bb,hh,o,c,d⟩ : aO).val]) (by simp [results,Tryz.results238,go_sem,aA.val,aO.val,dR,dY]) rfl (aQ.fin (by repeat (first|with_reducible exact F0|with_reducible refine aQ.dG ?_ (by omega) _|with_reducible refine aQ.bZ ?_ _ _|with_reducible refine aQ.av ?_ _|with_reducible refine aQ.aY ?_)) b (⟨k,a,0,e,r,bb,hh,o,c,d⟩ : aO) he)
theorem NK (w : World)(H : aA)(x : Base)(wk : Int)(s : aO)(h : dz w H x)(b : BInv x)(he : dV s.e) : Calls Tryz.prog 238 #[H.val x, .int .i64 wk,s.val] w (gQ w H) :=by
 obtain⟨k,a,p,e,r,bb,hh,o,c,d⟩ :=s;by_cases c0 : p=0
 ·subst c0;exact OL w H x wk k a e r bb hh o c d h b he
 by_cases c1 : p=1
 ·subst c1
  by_cases h2 : (Clk.mU x.Clock wk e).2=true
  ·exact NG w H x wk k a e r bb hh o c d h b he h2
  ·exact NH w H x wk k a e r bb hh o c d h b he ((XM _).mp h2)
 by_cases c2 : p=2
 ·subst c2
  by_cases h2 : (x.Clock.Epoch == e) =true
  ·exact NI w H x wk k a e r bb hh o c d h b he h2
  ·exact NJ w H x wk k a e r bb hh o c d h b he ((XM _).mp h2)
 exact OJ w H x wk k a p e r bb hh o c d h b he (by simpa using c0) (by simpa using c1) (by simpa using c2)
end Go.Proofs.YtkmggglljkmjoaaGreat
