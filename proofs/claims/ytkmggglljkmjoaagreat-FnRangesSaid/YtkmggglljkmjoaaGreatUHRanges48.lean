/- m -/
import Derived.Test.YtkmggglljkmjoaaGreatUHRanges43
import Derived.Test.YtkmggglljkmjoaaGreatUHRanges45
import Derived.Test.YtkmggglljkmjoaaGreatUHRanges40
import Derived.Test.YtkmggglljkmjoaaGreatUHRanges47
set_option maxRecDepth 100000
set_option maxHeartbeats 4000000
namespace Go.Proofs.YtkmggglljkmjoaaGreat
open Go.RowKit
theorem Jt (n : Int) : fG n= -1∨ ∃cl : Nat,cl<3∧fG n= (cl : Int) :=by
 rcases yE n with ⟨h,_⟩ | ⟨h,_⟩ | ⟨h,_⟩ | ⟨h,_⟩
 ·exact .inl h
 ·exact .inr ⟨0,by omega,h⟩
 ·exact .inr ⟨1,by omega,h⟩
 ·exact .inr ⟨2,by omega,h⟩
theorem Bu (l : List Int) : l= []∨ ∃m t,l=m++ [t]:=by
 rcases List.eq_nil_or_concat l with h| ⟨m,t,h⟩
 ·exact .inl h
 ·exact .inr ⟨m,t,by rw [h,List.concat_eq_append]⟩
theorem KN (w : World)(H : aA)(x : Base)(wk : Nat)(hw : wk<3)(s : aO)(h : dz w H x)(b : BInv x)(he : dV s.e) : Calls Tryz.prog 234 #[H.val x, .int .i64 wk,s.val] w (gQ w H) :=by
 obtain⟨k,a,p,e,r,bb,hh,o,c,d⟩ :=s;rcases Jt a with hc| ⟨cl,hcl,hc⟩
 ·exact MF w H x wk k a p e r bb hh o c d h b he hc
 have hO : ∃l,x.Mem.I.O[wk * 3+cl]? =some l:= ⟨_,XL (by rw [b.mem.ow];omega)⟩;have hG : ∃l,x.Mem.I.G[cl]? =some l:= ⟨_,XL (by rw [b.mem.gl];exact hcl)⟩;obtain⟨lo,hO⟩ :=hO;obtain⟨lg,hG⟩ :=hG;by_cases c0 : p=0
 ·subst c0
  rcases Bu lo with rfl| ⟨l,t,rfl⟩
  ·exact KI w H x wk k a e r bb hh o c d h b he cl hw hcl hc hO
  ·exact KH w H x wk k a e r bb hh o c d h b he cl hw hcl hc l t hO
 by_cases c1 : p=1
 ·subst c1
  rcases Bu lg with rfl| ⟨l,t,rfl⟩
  ·exact Jq w H x wk k a e r bb hh o c d h b he cl hw hcl hc hG
  ·exact Jp w H x wk k a e r bb hh o c d h b he cl hw hcl hc l t hG
 by_cases c2 : p=2
 ·subst c2
  rcases Dr x.Mem.E.Z (-1) with hp| ⟨q,hp⟩
  ·exact KM w H x wk k a e r bb hh o c d h b he cl hw hcl hc hp
  ·exact KJ w H x wk k a e r bb hh o c d h b he cl hw hcl hc q hp
 by_cases c3 : p=3
 ·subst c3
  rcases Bu lg with rfl| ⟨l,t,rfl⟩
  ·exact Js w H x wk k a e r bb hh o c d h b he cl hw hcl hc hG
  ·exact Jr w H x wk k a e r bb hh o c d h b he cl hw hcl hc l t hG
 exact MG w H x wk k a p e r bb hh o c d h b he cl hw hcl hc (by simpa using c0) (by simpa using c1) (by simpa using c2) (by simpa using c3)
theorem aQ.step {w W V : World}{H K : aA}{x y : Base}(F : aQ w W H H x)(o : dz V K y)(fo : ∀g∈K.foot,g∈H.foot∨W.heap.size≤g)(C : bn H.foot W V)(hl : ∀g∈H.foot,g<w.heap.size) : aQ w V H K y:=
 ⟨o,fun g hg=> (fo g hg).elim (fun e=> .inl ⟨hl g e,e⟩) (fun e=> .inr (XR F.sz e)),F.C.trans C,XR F.sz C.size⟩
theorem Qc (w : World)(H : aA)(x : Base)(wk : Nat)(_hw : wk<3)(k a p e r bb hh o c : Int)(h : dz w H x)(b : BInv x)(he : dV e) :
  Calls Tryz.prog 213 #[H.val x, .int .i64 wk, (⟨k,a,p,e,r,bb,hh,o,c,true⟩ : aO).val] w (gQ w H) :=by
 obtain⟨w0,hW,F0,F4⟩ :=four w H x (⟨k,a,p,e,r,bb,hh,o,c,true⟩ : aO) h;simp only [w4] at hW;have bL:=F4.b.f8;have bM:=F4.s.f10;have dR:=F4.r.f8;have dY:=F4.t.f10;simp only at bM;have hsz:=F0.sz;simp only [aA.val,aO.val];go_enter Tryz.func213,Tryz.ntmps213;go_upto_region 1 with (fail);rw [←hW];clear hW;go_wp2_with fail;go_region
 all_goals
  go_wp2_with fail;refine bodyPost_ret (v:= .tuple #[aA.val H x, (⟨k,a,p,e,r,bb,hh,o,c,true⟩ : aO).val]) (by simp [results,Tryz.results213,go_sem,aA.val,aO.val,dR,dY]) rfl (aQ.fin (by repeat (first|with_reducible exact F0|with_reducible refine aQ.dG ?_ (by omega) _|with_reducible refine aQ.bZ ?_ _ _|with_reducible refine aQ.av ?_ _|with_reducible refine aQ.aY ?_)) b (⟨k,a,p,e,r,bb,hh,o,c,true⟩ : aO) he)
theorem Qd (w : World)(H : aA)(x : Base)(wk : Nat)(_hw : wk<3)(k a p e r bb hh o c : Int)(h : dz w H x)(b : BInv x)(he : dV e)(c1 : (k == 1) =false)(c2 : (k == 2) =false)(c3 : (k == 3) =false)(c4 : (k == 4) =false)(c5 : (k == 5) =false) :
  Calls Tryz.prog 213 #[H.val x, .int .i64 wk, (⟨k,a,p,e,r,bb,hh,o,c,false⟩ : aO).val] w (gQ w H) :=by
 obtain⟨w0,hW,F0,F4⟩ :=four w H x (⟨k,a,p,e,r,bb,hh,o,c,false⟩ : aO) h;simp only [w4] at hW;have bL:=F4.b.f8;have bM:=F4.s.f10;have dR:=F4.r.f8;have dY:=F4.t.f10;simp only at bM;have hsz:=F0.sz;simp only [aA.val,aO.val];go_enter Tryz.func213,Tryz.ntmps213;go_upto_region 1 with (fail);rw [←hW];clear hW;go_wp2_with fail;go_region_with (first| (go_at_call 239;refine(iQ _ (⟨k,a,p,e,r,bb,hh,o,c,false⟩ : aO) _).mono ?_;rintro e1 wq ⟨rfl,hb⟩;obtain⟨os,d',rfl⟩ :=bN hb;clear hb))
 all_goals
  go_wp2_with fail;refine bodyPost_ret (v:= .tuple #[aA.val H x, (⟨k,a,p,e,r,bb,hh,o,1,true⟩ : aO).val]) (by simp [results,Tryz.results213,go_sem,aA.val,aO.val,dR,dY]) rfl (aQ.fin (by repeat (first|with_reducible exact F0|with_reducible refine aQ.dG ?_ (by omega) _|with_reducible refine aQ.bZ ?_ _ _|with_reducible refine aQ.av ?_ _|with_reducible refine aQ.aY ?_)) b (⟨k,a,p,e,r,bb,hh,o,1,true⟩ : aO) he)
theorem Qe (w : World)(H : aA)(x : Base)(wk : Nat)(hw : wk<3)(a p e r bb hh o c : Int)(h : dz w H x)(b : BInv x)(he : dV e) :
  Calls Tryz.prog 213 #[H.val x, .int .i64 wk, (⟨1,a,p,e,r,bb,hh,o,c,false⟩ : aO).val] w (gQ w H) :=by
 obtain⟨w0,hW,F0,F4⟩ :=four w H x (⟨1,a,p,e,r,bb,hh,o,c,false⟩ : aO) h;simp only [w4] at hW;have bL:=F4.b.f8;have bM:=F4.s.f10;have dR:=F4.r.f8;have dY:=F4.t.f10;simp only at bM;have hsz:=F0.sz;simp only [aA.val,aO.val];go_enter Tryz.func213,Tryz.ntmps213;go_upto_region 1 with (fail);rw [←hW];clear hW;go_wp2_with fail;refine(KN _ H x wk hw (⟨1,a,p,e,r,bb,hh,o,c,false⟩ : aO) F0.o b he).mono ?_;rintro e1 w1 ⟨K,y,t,rfl,ht,jh,bP,jM,hx⟩;replace F4:=F4.aM hx (fun g hg=> .inl (h.lt g hg));replace F0:=F0.step jh jM hx h.lt;clear jh jM hx bL bM dR dY hsz;have dR:=F4.r.f8;have dY:=F4.t.f10;have hsz:=F0.sz;clear F4;simp only [aA.val,aO.val];go_wp2_with fail;refine bodyPost_ret (v:= .tuple #[aA.val K y,t.val]) (by simp [results,Tryz.results213,go_sem,aA.val,aO.val,dR,dY]) rfl (aQ.fin (by repeat (first|with_reducible exact F0|with_reducible refine aQ.dG ?_ (by omega) _|with_reducible refine aQ.bZ ?_ _ _|with_reducible refine aQ.av ?_ _|with_reducible refine aQ.aY ?_)) bP t ht)
theorem Qf (w : World)(H : aA)(x : Base)(wk : Nat)(hw : wk<3)(a p e r bb hh o c : Int)(h : dz w H x)(b : BInv x)(he : dV e) :
  Calls Tryz.prog 213 #[H.val x, .int .i64 wk, (⟨2,a,p,e,r,bb,hh,o,c,false⟩ : aO).val] w (gQ w H) :=by
 obtain⟨w0,hW,F0,F4⟩ :=four w H x (⟨2,a,p,e,r,bb,hh,o,c,false⟩ : aO) h;simp only [w4] at hW;have bL:=F4.b.f8;have bM:=F4.s.f10;have dR:=F4.r.f8;have dY:=F4.t.f10;simp only at bM;have hsz:=F0.sz;simp only [aA.val,aO.val];go_enter Tryz.func213,Tryz.ntmps213;go_upto_region 1 with (fail);rw [←hW];clear hW;go_wp2_with fail;refine(Jk _ H x wk hw (⟨2,a,p,e,r,bb,hh,o,c,false⟩ : aO) F0.o b he).mono ?_;rintro e1 w1 ⟨K,y,t,rfl,ht,jh,bP,jM,hx⟩;replace F4:=F4.aM hx (fun g hg=> .inl (h.lt g hg));replace F0:=F0.step jh jM hx h.lt;clear jh jM hx bL bM dR dY hsz;have dR:=F4.r.f8;have dY:=F4.t.f10;have hsz:=F0.sz;clear F4;simp only [aA.val,aO.val];go_wp2_with fail;refine bodyPost_ret (v:= .tuple #[aA.val K y,t.val]) (by simp [results,Tryz.results213,go_sem,aA.val,aO.val,dR,dY]) rfl (aQ.fin (by repeat (first|with_reducible exact F0|with_reducible refine aQ.dG ?_ (by omega) _|with_reducible refine aQ.bZ ?_ _ _|with_reducible refine aQ.av ?_ _|with_reducible refine aQ.aY ?_)) bP t ht)
theorem Qg (w : World)(H : aA)(x : Base)(wk : Nat)(_hw : wk<3)(a p e r bb hh o c : Int)(h : dz w H x)(b : BInv x)(he : dV e) :
  Calls Tryz.prog 213 #[H.val x, .int .i64 wk, (⟨3,a,p,e,r,bb,hh,o,c,false⟩ : aO).val] w (gQ w H) :=by
 obtain⟨w0,hW,F0,F4⟩ :=four w H x (⟨3,a,p,e,r,bb,hh,o,c,false⟩ : aO) h;simp only [w4] at hW;have bL:=F4.b.f8;have bM:=F4.s.f10;have dR:=F4.r.f8;have dY:=F4.t.f10;simp only at bM;have hsz:=F0.sz;simp only [aA.val,aO.val];go_enter Tryz.func213,Tryz.ntmps213;go_upto_region 1 with (fail);rw [←hW];clear hW;go_wp2_with fail;refine(GZ _ H x (⟨3,a,p,e,r,bb,hh,o,c,false⟩ : aO) F0.o b he).mono ?_;rintro e1 w1 ⟨K,y,t,rfl,ht,jh,bP,jM,hx⟩;replace F4:=F4.aM hx (fun g hg=> .inl (h.lt g hg));replace F0:=F0.step jh jM hx h.lt;clear jh jM hx bL bM dR dY hsz;have dR:=F4.r.f8;have dY:=F4.t.f10;have hsz:=F0.sz;clear F4;simp only [aA.val,aO.val];go_wp2_with fail;refine bodyPost_ret (v:= .tuple #[aA.val K y,t.val]) (by simp [results,Tryz.results213,go_sem,aA.val,aO.val,dR,dY]) rfl (aQ.fin (by repeat (first|with_reducible exact F0|with_reducible refine aQ.dG ?_ (by omega) _|with_reducible refine aQ.bZ ?_ _ _|with_reducible refine aQ.av ?_ _|with_reducible refine aQ.aY ?_)) bP t ht)
theorem Qh (w : World)(H : aA)(x : Base)(wk : Nat)(hw : wk<3)(a p e r bb hh o c : Int)(h : dz w H x)(b : BInv x)(he : dV e) :
  Calls Tryz.prog 213 #[H.val x, .int .i64 wk, (⟨4,a,p,e,r,bb,hh,o,c,false⟩ : aO).val] w (gQ w H) :=by
 obtain⟨w0,hW,F0,F4⟩ :=four w H x (⟨4,a,p,e,r,bb,hh,o,c,false⟩ : aO) h;simp only [w4] at hW;have bL:=F4.b.f8;have bM:=F4.s.f10;have dR:=F4.r.f8;have dY:=F4.t.f10;simp only at bM;have hsz:=F0.sz;simp only [aA.val,aO.val];go_enter Tryz.func213,Tryz.ntmps213;go_upto_region 1 with (fail);rw [←hW];clear hW;go_wp2_with fail;refine(Ht _ H x wk hw (⟨4,a,p,e,r,bb,hh,o,c,false⟩ : aO) F0.o b he).mono ?_;rintro e1 w1 ⟨K,y,t,rfl,ht,jh,bP,jM,hx⟩;replace F4:=F4.aM hx (fun g hg=> .inl (h.lt g hg));replace F0:=F0.step jh jM hx h.lt;clear jh jM hx bL bM dR dY hsz;have dR:=F4.r.f8;have dY:=F4.t.f10;have hsz:=F0.sz;clear F4;simp only [aA.val,aO.val];go_wp2_with fail;refine bodyPost_ret (v:= .tuple #[aA.val K y,t.val]) (by simp [results,Tryz.results213,go_sem,aA.val,aO.val,dR,dY]) rfl (aQ.fin (by repeat (first|with_reducible exact F0|with_reducible refine aQ.dG ?_ (by omega) _|with_reducible refine aQ.bZ ?_ _ _|with_reducible refine aQ.av ?_ _|with_reducible refine aQ.aY ?_)) bP t ht)
theorem Qi (w : World)(H : aA)(x : Base)(wk : Nat)(_hw : wk<3)(a p e r bb hh o c : Int)(h : dz w H x)(b : BInv x)(he : dV e) :
  Calls Tryz.prog 213 #[H.val x, .int .i64 wk, (⟨5,a,p,e,r,bb,hh,o,c,false⟩ : aO).val] w (gQ w H) :=by
 obtain⟨w0,hW,F0,F4⟩ :=four w H x (⟨5,a,p,e,r,bb,hh,o,c,false⟩ : aO) h;simp only [w4] at hW;have bL:=F4.b.f8;have bM:=F4.s.f10;have dR:=F4.r.f8;have dY:=F4.t.f10;simp only at bM;have hsz:=F0.sz;simp only [aA.val,aO.val];go_enter Tryz.func213,Tryz.ntmps213;go_upto_region 1 with (fail);rw [←hW];clear hW;go_wp2_with fail;refine(NK _ H x (wk : Int) (⟨5,a,p,e,r,bb,hh,o,c,false⟩ : aO) F0.o b he).mono ?_;rintro e1 w1 ⟨K,y,t,rfl,ht,jh,bP,jM,hx⟩;replace F4:=F4.aM hx (fun g hg=> .inl (h.lt g hg));replace F0:=F0.step jh jM hx h.lt;clear jh jM hx bL bM dR dY hsz;have dR:=F4.r.f8;have dY:=F4.t.f10;have hsz:=F0.sz;clear F4;simp only [aA.val,aO.val];go_wp2_with fail;refine bodyPost_ret (v:= .tuple #[aA.val K y,t.val]) (by simp [results,Tryz.results213,go_sem,aA.val,aO.val,dR,dY]) rfl (aQ.fin (by repeat (first|with_reducible exact F0|with_reducible refine aQ.dG ?_ (by omega) _|with_reducible refine aQ.bZ ?_ _ _|with_reducible refine aQ.av ?_ _|with_reducible refine aQ.aY ?_)) bP t ht)
theorem OT (w : World)(H : aA)(x : Base)(wk : Nat)(hw : wk<3)(s : aO)(h : dz w H x)(b : BInv x)(he : dV s.e) : Calls Tryz.prog 213 #[H.val x, .int .i64 wk,s.val] w (gQ w H) :=by
 obtain⟨k,a,p,e,r,bb,hh,o,c,d⟩ :=s;cases d with
 |true=>exact Qc w H x wk hw k a p e r bb hh o c h b he
 |false=>
  by_cases c1 : k=1
  ·subst c1;exact Qe w H x wk hw a p e r bb hh o c h b he
  by_cases c2 : k=2
  ·subst c2;exact Qf w H x wk hw a p e r bb hh o c h b he
  by_cases c3 : k=3
  ·subst c3;exact Qg w H x wk hw a p e r bb hh o c h b he
  by_cases c4 : k=4
  ·subst c4;exact Qh w H x wk hw a p e r bb hh o c h b he
  by_cases c5 : k=5
  ·subst c5;exact Qi w H x wk hw a p e r bb hh o c h b he
  exact Qd w H x wk hw k a p e r bb hh o c h b he (by simpa using c1) (by simpa using c2) (by simpa using c3) (by simpa using c4) (by simpa using c5)
structure vU (x : Base) : Prop where
 m : eF x.Mem≤536870912
 p : x.Clock.aK.length≤1073741824
 l : fO x.aB≤536870912
 z : x.bf.length≤1048576
theorem BInv.sz {x : Base}(b : BInv x) : vU x:= ⟨XR (nH b.mem) (by decide),by rw [b.pins];decide,by have h1:=b.rows;have h2:=b.lim;rw [Lim.zA];omega,by rw [b.haz];decide⟩
theorem PO (w : World)(H : aA)(x : Base)(s : aO) : ∃W,W=w4 w H x s∧Four w W H x s∧Below w.heap.size w W∧w.heap.size+4≤W.heap.size:=
 ⟨w4 w H x s,rfl, ⟨(((aJ.new w _ _).alloc _).alloc _).alloc _,aJ.alloc (aJ.alloc (aJ.new2 _ _ _ (by simp)) _) _,aJ.alloc (aJ.new2 _ _ _ (by simp)) _,aJ.new2 _ _ _ (by simp)⟩,by unfold w4;exact((((Below.refl _ _).alloc (XQ _) _).alloc (by simp) _).alloc (by simp<;>omega) _).alloc (by simp<;>omega) _,by simp [w4]⟩
theorem aJ.zD {w : World}{g : Nat}{u0 u1 u2 u3 u4 u5 u6 u7 v0 v1 v2 v3 v4 v5 v6 v7 : Value}(h : aJ w g [u0,u1,u2,u3,u4,u5,u6,u7]) : aJ ((((((((w.setCell ⟨g,0,none⟩ v0).setCell ⟨g,1,none⟩ v1).setCell ⟨g,2,none⟩ v2).setCell ⟨g,3,none⟩ v3).setCell ⟨g,4,none⟩ v4).setCell ⟨g,5,none⟩ v5).setCell ⟨g,6,none⟩ v6).setCell ⟨g,7,none⟩ v7) g [v0,v1,v2,v3,v4,v5,v6,v7]:= ((((((((h.set 0 v0).set 1 v1).set 2 v2).set 3 v3).set 4 v4).set 5 v5).set 6 v6).set 7 v7)
theorem aJ.PS {w : World}{g : Nat}{u0 u1 u2 u3 u4 u5 u6 u7 u8 u9 v0 v1 v2 v3 v4 v5 v6 v7 v8 v9 : Value}(h : aJ w g [u0,u1,u2,u3,u4,u5,u6,u7,u8,u9]) : aJ ((((((((((w.setCell ⟨g,0,none⟩ v0).setCell ⟨g,1,none⟩ v1).setCell ⟨g,2,none⟩ v2).setCell ⟨g,3,none⟩ v3).setCell ⟨g,4,none⟩ v4).setCell ⟨g,5,none⟩ v5).setCell ⟨g,6,none⟩ v6).setCell ⟨g,7,none⟩ v7).setCell ⟨g,8,none⟩ v8).setCell ⟨g,9,none⟩ v9) g [v0,v1,v2,v3,v4,v5,v6,v7,v8,v9]:= ((((((((((h.set 0 v0).set 1 v1).set 2 v2).set 3 v3).set 4 v4).set 5 v5).set 6 v6).set 7 v7).set 8 v8).set 9 v9)
def JE (w : World)(x : Base)(e : Ending)(w' : World) : Prop:= ∃ (K : aA) (y : Base) (t : aO),e= .returned (.tuple #[K.val y,t.val]) ∧dz w' K y∧ (y=x∨BInv y) ∧ (∀g∈K.foot,w.heap.size≤g) ∧Below w.heap.size w w'
theorem OU (w : World)(H : aA)(x : Base)(wk : Int)(s : aO)(h : nu w w.heap.size H x)(hz : vU x)(c1 : gT x=false) :
  Calls Tryz.prog 171 #[H.val x, .int .i64 wk,s.val] w (JE w x) :=by
 have hz1:=hz.m;unfold eF bX at hz1;have kB:=fun (W : World) (hW : Below w.heap.size w W) =>uW W H x (nU h hW) hz.l (by omega) (by omega);obtain⟨w0,hW,F4,hB,hsz⟩ :=PO w H x s;simp only [w4] at hW;have bL:=F4.b.f8;simp only [aA.val,aO.val];go_enter Tryz.func171,Tryz.ntmps171;go_upto_region 1 with (fail);rw [←hW];clear hW;go_wp2_with fail;refine(Ew _ H x (nU h hB) hz.m hz.p hz.l (XR hz.z (by decide))).mono ?_;rintro e1 w1 ⟨K,rfl,jh,jM,hb⟩;have LA:=jh.lt;replace hB:=hB.trans (hb.mono hB.size);replace F4:=F4.below hb;have SN:=hb.size;clear hb bL;have bL:=F4.b.f8;simp only [aA.val];go_upto_region 2 with (fail);obtain⟨w2,hW⟩ : ∃W,W=w1.alloc (.cells #[.slice K.Mem.E.Y.a K.Mem.E.Y.l K.Mem.E.Y.c, .slice K.Mem.E.Z.a K.Mem.E.Z.l K.Mem.E.Z.c, .slice K.Mem.I.G.a K.Mem.I.G.l K.Mem.I.G.c, .slice K.Mem.I.O.a K.Mem.I.O.l K.Mem.I.O.c, .int .i64 x.Clock.Epoch, .slice K.Clock.aK.a K.Clock.aK.l K.Clock.aK.c, .slice K.aB.a K.aB.l K.aB.c, .slice K.bf.a K.bf.l K.bf.c] 37) := ⟨_,rfl⟩;have bK : aJ w2 w1.heap.size (K.row x) :=by rw [hW];exact aJ.new w1 _ _
 replace jh:=jh.av (.cells #[.slice K.Mem.E.Y.a K.Mem.E.Y.l K.Mem.E.Y.c, .slice K.Mem.E.Z.a K.Mem.E.Z.l K.Mem.E.Z.c, .slice K.Mem.I.G.a K.Mem.I.G.l K.Mem.I.G.c, .slice K.Mem.I.O.a K.Mem.I.O.l K.Mem.I.O.c, .int .i64 x.Clock.Epoch, .slice K.Clock.aK.a K.Clock.aK.l K.Clock.aK.c, .slice K.aB.a K.aB.l K.aB.c, .slice K.bf.a K.bf.l K.bf.c] 37);replace hB:=hB.alloc hB.size (.cells #[.slice K.Mem.E.Y.a K.Mem.E.Y.l K.Mem.E.Y.c, .slice K.Mem.E.Z.a K.Mem.E.Z.l K.Mem.E.Z.c, .slice K.Mem.I.G.a K.Mem.I.G.l K.Mem.I.G.c, .slice K.Mem.I.O.a K.Mem.I.O.l K.Mem.I.O.c, .int .i64 x.Clock.Epoch, .slice K.Clock.aK.a K.Clock.aK.l K.Clock.aK.c, .slice K.aB.a K.aB.l K.aB.c, .slice K.bf.a K.bf.l K.bf.c] 37);replace F4:=F4.av (.cells #[.slice K.Mem.E.Y.a K.Mem.E.Y.l K.Mem.E.Y.c, .slice K.Mem.E.Z.a K.Mem.E.Z.l K.Mem.E.Z.c, .slice K.Mem.I.G.a K.Mem.I.G.l K.Mem.I.G.c, .slice K.Mem.I.O.a K.Mem.I.O.l K.Mem.I.O.c, .int .i64 x.Clock.Epoch, .slice K.Clock.aK.a K.Clock.aK.l K.Clock.aK.c, .slice K.aB.a K.aB.l K.aB.c, .slice K.bf.a K.bf.l K.bf.c] 37);have zx:=bK.lt;rw [←hW] at jh hB F4⊢;clear hW bL;have bL:=F4.b.f8;have bM:=F4.s.f10;have CU:=bK.f8;go_wp2_with fail;refine(kB _ hB).mono ?_;rw [c1];rintro e1 w3 ⟨rfl,hb⟩;replace hB:=hB.trans (hb.mono hB.size);replace F4:=F4.below hb;replace bK:=bK.below hb;replace jh:=jh.keep (fun g hg=>hb.block g (jh.lt g hg));have N9:=hb.size;clear hb bL bM CU;have bM:=F4.s.f10;have CU:=bK.f8;have dR:=F4.r.f8;have dY:=F4.t.f10;go_wp2_with fail;go_region
 all_goals
  go_wp2_with fail;refine bodyPost_ret (v:= .tuple #[aA.val K x,s.val]) (by simp [results,Tryz.results171,go_sem,aA.val,aO.val,dR,dY]) rfl ⟨K,x,s,rfl,jh.aM (F:= [w.heap.size+2,w.heap.size+3]) dx (fun g hg hm=>by simp only [Pe,Pd,XK] at hm;have:=jM g hg;omega), .inl rfl,fun g hg=>by have:=jM g hg;omega,Below.trans hB (by repeat (first|with_reducible exact Below.refl _ _|with_reducible refine Below.setCell ?_ (by simp<;>omega) _|with_reducible refine Below.alloc ?_ (by simp<;>omega) _|with_reducible refine bA ?_ (by simp<;>omega) _ _|with_reducible refine Below.drew ?_|with_reducible refine below_drewN ?_ _))⟩
theorem OV (w : World)(H : aA)(x : Base)(wk : Nat)(s : aO)(h : nu w w.heap.size H x)(hz : vU x)(c1 : gT x=true)(hw : wk<3)(he : dV s.e) :
  Calls Tryz.prog 171 #[H.val x, .int .i64 wk,s.val] w (JE w x) :=by
 have c2 : bG 0 2 (wk : Int) =true:=bH.2 ⟨by omega,by omega⟩;have hz1:=hz.m;unfold eF bX at hz1;have kB:=fun (W : World) (hW : Below w.heap.size w W) =>uW W H x (nU h hW) hz.l (by omega) (by omega);obtain⟨w0,hW,F4,hB,hsz⟩ :=PO w H x s;simp only [w4] at hW;have bL:=F4.b.f8;simp only [aA.val,aO.val];go_enter Tryz.func171,Tryz.ntmps171;go_upto_region 1 with (fail);rw [←hW];clear hW;go_wp2_with fail;refine(Ew _ H x (nU h hB) hz.m hz.p hz.l (XR hz.z (by decide))).mono ?_;rintro e1 w1 ⟨K,rfl,jh,jM,hb⟩;have LA:=jh.lt;replace hB:=hB.trans (hb.mono hB.size);replace F4:=F4.below hb;have SN:=hb.size;clear hb bL;have bL:=F4.b.f8;simp only [aA.val];go_upto_region 2 with (fail);obtain⟨w2,hW⟩ : ∃W,W=w1.alloc (.cells #[.slice K.Mem.E.Y.a K.Mem.E.Y.l K.Mem.E.Y.c, .slice K.Mem.E.Z.a K.Mem.E.Z.l K.Mem.E.Z.c, .slice K.Mem.I.G.a K.Mem.I.G.l K.Mem.I.G.c, .slice K.Mem.I.O.a K.Mem.I.O.l K.Mem.I.O.c, .int .i64 x.Clock.Epoch, .slice K.Clock.aK.a K.Clock.aK.l K.Clock.aK.c, .slice K.aB.a K.aB.l K.aB.c, .slice K.bf.a K.bf.l K.bf.c] 37) := ⟨_,rfl⟩;have bK : aJ w2 w1.heap.size (K.row x) :=by rw [hW];exact aJ.new w1 _ _
 replace jh:=jh.av (.cells #[.slice K.Mem.E.Y.a K.Mem.E.Y.l K.Mem.E.Y.c, .slice K.Mem.E.Z.a K.Mem.E.Z.l K.Mem.E.Z.c, .slice K.Mem.I.G.a K.Mem.I.G.l K.Mem.I.G.c, .slice K.Mem.I.O.a K.Mem.I.O.l K.Mem.I.O.c, .int .i64 x.Clock.Epoch, .slice K.Clock.aK.a K.Clock.aK.l K.Clock.aK.c, .slice K.aB.a K.aB.l K.aB.c, .slice K.bf.a K.bf.l K.bf.c] 37);replace hB:=hB.alloc hB.size (.cells #[.slice K.Mem.E.Y.a K.Mem.E.Y.l K.Mem.E.Y.c, .slice K.Mem.E.Z.a K.Mem.E.Z.l K.Mem.E.Z.c, .slice K.Mem.I.G.a K.Mem.I.G.l K.Mem.I.G.c, .slice K.Mem.I.O.a K.Mem.I.O.l K.Mem.I.O.c, .int .i64 x.Clock.Epoch, .slice K.Clock.aK.a K.Clock.aK.l K.Clock.aK.c, .slice K.aB.a K.aB.l K.aB.c, .slice K.bf.a K.bf.l K.bf.c] 37);replace F4:=F4.av (.cells #[.slice K.Mem.E.Y.a K.Mem.E.Y.l K.Mem.E.Y.c, .slice K.Mem.E.Z.a K.Mem.E.Z.l K.Mem.E.Z.c, .slice K.Mem.I.G.a K.Mem.I.G.l K.Mem.I.G.c, .slice K.Mem.I.O.a K.Mem.I.O.l K.Mem.I.O.c, .int .i64 x.Clock.Epoch, .slice K.Clock.aK.a K.Clock.aK.l K.Clock.aK.c, .slice K.aB.a K.aB.l K.aB.c, .slice K.bf.a K.bf.l K.bf.c] 37);have zx:=bK.lt;rw [←hW] at jh hB F4⊢;clear hW bL;have bL:=F4.b.f8;have bM:=F4.s.f10;have CU:=bK.f8;go_wp2_with fail;refine(kB _ hB).mono ?_;rw [c1];rintro e1 w3 ⟨rfl,hb⟩;replace hB:=hB.trans (hb.mono hB.size);replace F4:=F4.below hb;replace bK:=bK.below hb;replace jh:=jh.keep (fun g hg=>hb.block g (jh.lt g hg));have N9:=hb.size;have mZ:=F4.s;have aj:=F4.r;have JF:=F4.t;have bI:=BInv.of c1;clear hb bL bM CU kB hz1 hz F4 c1 h;go_wp2_with (go_at_call 102;refine(dH _ _ _ _).mono ?_;rw [c2];rintro e1 wq ⟨rfl,rfl⟩);go_loopw [9] (fun v9 wr=> ∃ (n : Nat) (K : aA) (y : Base) (t : aO),v9= .int .i64 (n : Int) ∧n≤200∧aJ wr w1.heap.size (K.row y) ∧aJ wr (w.heap.size+1) t.row∧aJ wr (w.heap.size+2) wm∧aJ wr (w.heap.size+3) Mj∧dz wr K y∧BInv y∧dV t.e∧ (∀g∈K.foot,w.heap.size+4≤g∧g≠w1.heap.size) ∧Below w.heap.size w wr∧w1.heap.size<wr.heap.size) (fun v9 _=>200 - (intOf v9).toNat)
 case atStart=>exact⟨0,K,x,s,rfl,by omega,bK,mZ,aj,JF,jh,bI,he,fun g hg=> ⟨by have:=jM g hg;omega,by have:=LA g hg;omega⟩,hB,by omega⟩
 case round=>
  clear bK mZ aj JF jh jM LA hB bI zx he;obtain⟨n,K,y,t,rfl,hn,bK,mZ,aj,JF,jh,bI,he,jM,hB,zx⟩ :=hrel;have CU:=bK.f8;have bM:=mZ.f10;have dR:=aj.f8;have dY:=JF.f10;have nx : ∀i,i<4→w1.heap.size≠w.heap.size+i:=fun i hi=>by omega
  by_cases hlt : n<200
  ·cases htd : t.d with
   |true=>
    rw [htd] at bM;go_wp2_with fail;go_region
    all_goals
     go_wp2_with fail;refine bodyPost_ret (v:= .tuple #[aA.val K y, (⟨t.k,t.a,t.p,t.e,t.r,t.b,t.h,t.o,t.c,true⟩ : aO).val]) (by simp [results,Tryz.results171,go_sem,aA.val,aO.val,dR,dY]) rfl ⟨K,y,t,by rw [aO.val,aO.val,htd],jh.aM (F:= [w.heap.size+2,w.heap.size+3]) dx (fun g hg hm=>by simp only [Pe,Pd,XK] at hm;have:= (jM g hg).1;omega), .inr bI,fun g hg=>by have:= (jM g hg).1;omega,Below.trans hB (by repeat (first|with_reducible exact Below.refl _ _|with_reducible refine Below.setCell ?_ (by simp<;>omega) _|with_reducible refine Below.alloc ?_ (by simp<;>omega) _|with_reducible refine bA ?_ (by simp<;>omega) _ _|with_reducible refine Below.drew ?_|with_reducible refine below_drewN ?_ _))⟩
   |false=>
    rw [htd] at bM;have UZ : t.val=aO.val ⟨t.k,t.a,t.p,t.e,t.r,t.b,t.h,t.o,t.c,false⟩ :=by rw [←htd]
    have kD:=fun (W : World) (o : dz W K y) =>OT W K y wk hw ⟨t.k,t.a,t.p,t.e,t.r,t.b,t.h,t.o,t.c,false⟩ o bI he;clear UZ htd;go_wp2_with fail;refine(kD _ jh).mono ?_;rintro e1 wd ⟨K2,y2,t2,rfl,ht2,o2,b2,Tc,C2⟩;replace bK:=bK.aM C2 (fun hm=> (jM _ hm).2 rfl);replace mZ:=mZ.aM C2 (fun hm=>by have:= (jM _ hm).1;omega);replace aj:=aj.aM C2 (fun hm=>by have:= (jM _ hm).1;omega);replace JF:=JF.aM C2 (fun hm=>by have:= (jM _ hm).1;omega);have l2 : ∀g∈K2.foot,w.heap.size+4≤g∧g≠w1.heap.size:=fun g hg=> (Tc g hg).elim (fun e=>jM g e) (fun e=> ⟨by omega,by omega⟩);replace hB:=hB.trans (C2.below hB.size (fun g hg=>by have:= (jM g hg).1;omega));have sC:=C2.size;clear C2 Tc jM kD jh CU bM dR dY;have CU:=bK.f8;have bM:=mZ.f10;simp only [aA.val,aO.val];go_wp2_with fail;go_roundw
    case rel=>
     refine⟨n+1,K2,y2,t2,by go_num,by omega, ?_, ?_, ?_, ?_,o2.aM (F:= [w1.heap.size,w.heap.size+1]) dx (fun g hg hm=>by simp only [Pe,Pd,XK] at hm;have:=l2 g hg;omega),b2,ht2,l2,Below.trans hB (by repeat (first|with_reducible exact Below.refl _ _|with_reducible refine Below.setCell ?_ (by simp<;>omega) _|with_reducible refine Below.alloc ?_ (by simp<;>omega) _|with_reducible refine bA ?_ (by simp<;>omega) _ _|with_reducible refine Below.drew ?_|with_reducible refine below_drewN ?_ _)),by simp;omega⟩
     ·iterate 10 refine aJ.other ?_ (by omega) _
      exact aJ.zD bK
     ·refine aJ.PS (u0:= .int .i64 t.k) (u1:= .int .i64 t.a) (u2:= .int .i64 t.p) (u3:= .int .i64 t.e) (u4:= .int .i64 t.r) (u5:= .int .i64 t.b) (u6:= .int .i64 t.h) (u7:= .int .i64 t.o) (u8:= .int .i64 t.c) (u9:= .bool t.d) ?_
      iterate 8 refine aJ.other ?_ (by omega) _
      exact mZ
     ·iterate 18 refine aJ.other ?_ (by omega) _
      exact aj
     ·iterate 18 refine aJ.other ?_ (by omega) _
      exact JF
    case measure=>simp [intOf];omega
  ·go_wp2_with fail
   go_region
   all_goals
    go_wp2_with fail;refine bodyPost_ret (v:= .tuple #[aA.val K y,t.val]) (by simp [results,Tryz.results171,go_sem,aA.val,aO.val,dR,dY]) rfl ⟨K,y,t,rfl,jh.aM (F:= [w.heap.size+2,w.heap.size+3]) dx (fun g hg hm=>by simp only [Pe,Pd,XK] at hm;have:= (jM g hg).1;omega), .inr bI,fun g hg=>by have:= (jM g hg).1;omega,Below.trans hB (by repeat (first|with_reducible exact Below.refl _ _|with_reducible refine Below.setCell ?_ (by simp<;>omega) _|with_reducible refine Below.alloc ?_ (by simp<;>omega) _|with_reducible refine bA ?_ (by simp<;>omega) _ _|with_reducible refine Below.drew ?_|with_reducible refine below_drewN ?_ _))⟩
theorem EJ {w : World}{H : aA}{x : Base}(h : dz w H x){K : SV}{z : List Int}(o : aX FI 3 w K.val z)(hf : ∀g∈bq K.val,g∉H.Mem.foot∧g∉H.Clock.foot∧g∉bT H.aB.val H.jk) : dz w {H with bf:=K} {x with bf:=z}:=
 ⟨h.Mem,h.Clock,h.aB,o,h.jy,h.IB,fun g hg hk=> (hf g hk).1 hg,h.K_,fun g hg hk=> (hf g hk).2.1 hg,fun g hg hk=> (hf g hk).2.2 hg⟩
theorem OX {m : Mem}{h a k n : Int}(hm : eF m≤536870912) : eF (jE m h a k n).1≤536870912:=by
 by_cases c : (jE m h a k n).2=0
 ·exact XR (nH (Gh c).2.2.1) (by decide)
 ·have e : (jE m h a k n).1=m:=by
   unfold jE at c⊢;split
   ·rfl
   ·rename_i c1
    rw [if_neg c1] at c;split
    ·rfl
    ·rename_i c2
     rw [if_neg c2] at c;exact absurd rfl c
  rw [e];exact hm
theorem MO (z : List Int)(a : Int) : (Lim.vD z a).1.length=z.length:=by
 unfold Lim.vD;split<;>simp
structure LB (w W : World)(g a : Nat)(code : List Int)(K : aA)(y : Base)(A : Option Addr)(c : Nat)(l : List Int) : Prop where
 r : aJ W w.heap.size wm
 o : dz W K y
 i : aX FI 3 W (.slice A l.length c) l
 fo : ∀b∈K.foot,w.heap.size<b∧b≠a
 fl : ∀b∈bq (.slice A l.length c),w.heap.size<b∧b≠a∧b∉K.foot
 cu : Lim.fQ W g code
 C : bn [g] w W
 gl : g<w.heap.size
 ha : w.heap.size<a∧a<W.heap.size
 ne : 0<l.length
 sz : vU y
section
variable {w W V X : World} {g a : Nat} {code : List Int} {K : aA} {y : Base} {A : Option Addr} {c : Nat} {l : List Int}
theorem bn.BH {F : List Nat}(h : bn F w W){G : List Nat}(h2 : bn G W V)(hn : ∀b∈G,w.heap.size≤b) : bn F w V:=
 ⟨h2.os.trans h.os,h2.tape.trans h.tape,h2.output.trans h.output,XR h.size h2.size,fun k hk hm=> (h2.block k (XO hk h.size) (fun e=>by have:=hn k e;omega)).trans (h.block k hk hm)⟩
theorem LB.draw (L : LB w W g a code K y A c l)(hx : bn [g] W V)(cu : Lim.fQ V g code) : LB w V g a code K y A c l:=
 ⟨L.r.aM hx (by have:=L.gl;simp;omega),L.o.aM hx (fun b hb hm=>by have:= (L.fo b hb).1;have:=L.gl;simp at hm;omega),L.i.aM hx (fun b hb hm=>by have:= (L.fl b hb).1;have:=L.gl;simp at hm;omega),L.fo,L.fl,cu,L.C.trans hx,L.gl, ⟨L.ha.1,XO L.ha.2 hx.size⟩,L.ne,L.sz⟩
theorem LB.below (L : LB w W g a code K y A c l)(hb : Below W.heap.size W V) : LB w V g a code K y A c l:=
 ⟨L.r.below hb,L.o.keep (fun b hm=>hb.block b (L.o.lt b hm)),L.i.keep (fun b hm=>hb.block b (dQ L.i b (aS.2 hm))),L.fo,L.fl,L.cu.up hb,L.C.trans (bn.of_below hb),L.gl, ⟨L.ha.1,XO L.ha.2 hb.size⟩,L.ne,L.sz⟩
theorem LB.av (L : LB w W g a code K y A c l)(o : Obj) : LB w (W.alloc o) g a code K y A c l:=L.below ((Below.refl _ _).alloc (XQ _) _)
theorem LB.aY (L : LB w W g a code K y A c l) : LB w W.drew g a code K y A c l:=L.below (Below.refl _ _).drew
theorem LB.bZ (L : LB w W g a code K y A c l)(os : List Obj)(d : Nat) : LB w (grow W os d) g a code K y A c l:=L.below (below_grow _ _ _)
theorem LB.Rp (L : LB w W g a code K y A c l){n i : Nat}(hn : w.heap.size<n)(hf : n∉K.foot)(hi : n∉bq (.slice A l.length c))(v : Value) : LB w (W.setCell ⟨n,i,none⟩ v) g a code K y A c l:=
 ⟨L.r.other (by omega) v,L.o.aM (F:= [n]) ((bn.refl _ _).dG (by simp) v) (fun b hb hm=>by simp at hm;exact hf (hm ▸ hb)),L.i.aM (F:= [n]) ((bn.refl _ _).dG (by simp) v) (fun b hb hm=>by simp at hm;exact hi (hm ▸ hb)),L.fo,L.fl,L.cu.nJ L.gl (Below.setCell (Below.refl w.heap.size _) (by simp;omega) v) L.C.size,L.C.BH (G:= [n]) ((bn.refl _ _).dG (by simp) v) (fun b hb=>by simp at hb;omega),L.gl, ⟨L.ha.1,by simpa using L.ha.2⟩,L.ne,L.sz⟩
theorem LB.qH (L : LB w W g a code K y A c l){i : Nat}(v : Value) : LB w (W.setCell ⟨a,i,none⟩ v) g a code K y A c l:=L.Rp L.ha.1 (fun e=> (L.fo a e).2 rfl) (fun e=> (L.fl a e).2.1 rfl) v
theorem LB.put (L : LB w W g a code K y A c l)(hb : Below W.heap.size W V){J : aA}{z : Base}(o : dz V J z)(f : ∀b∈J.foot,b∈K.foot∨W.heap.size≤b)(s : vU z) : LB w V g a code J z A c l:=by
 have L':=L.below hb;have ha:=L.ha;have hc:=L.C.size;have U2:=dQ L.i;exact⟨L'.r,o,L'.i,fun b hm=> (f b hm).elim (fun e=>L.fo b e) (fun e=> ⟨by omega,by omega⟩),fun b hm=> ⟨(L.fl b hm).1, (L.fl b hm).2.1,fun e=> (f b e).elim (fun q=> (L.fl b hm).2.2 q) (fun q=>by have:=U2 b hm;omega)⟩,L'.cu,L'.C,L.gl,L'.ha,L.ne,s⟩
theorem LB.told (L : LB w W g a code K y A c l){D : Option Addr}{d : Nat}{x : Int}(o : aX FI 3 V (.slice D (l++ [x]).length d) (l++ [x]))(hg : W.grownBy V (Value.slice A l.length c).ownBlock)(hat : (Value.slice D (l++ [x]).length d).ownBlock= (Value.slice A l.length c).ownBlock∨ (Value.slice D (l++ [x]).length d).ownBlock=some W.heap.size) : LB w V g a code K y D d (l++ [x]) :=by
 have hv:=bn.iD hg;have ha:=L.ha;have hc:=L.C.size;have hlo:=L.o.lt;refine⟨L.r.aM hv (fun e=>by have:= (L.fl _ e).1;omega),L.o.aM hv (fun b hb e=> (L.fl b e).2.2 hb),o,L.fo,fun b hb=> ?_, ?_,L.C.BH hv (fun b hb=>by have:= (L.fl b hb).1;omega),L.gl, ⟨L.ha.1,XO L.ha.2 hv.size⟩,by simp,L.sz⟩
 ·rcases hat with e|e
  ·exact L.fl b (aS.2 (by rw [←e];exact aS.1 hb))
  ·rw [aS,e] at hb
   injection hb with hb;exact⟨by omega,by omega,fun hm=>by have:=hlo b hm;omega⟩
 ·exact L.cu.nJ L.gl (hv.below L.C.size (fun b hb=>by have:= (L.fl b hb).1;omega)) L.C.size
theorem bn.o8 {F : List Nat}(h : bn F W.drew V) : bn F W V:= ⟨h.os,h.tape,h.output,h.size,h.block⟩
theorem Ce {F : List Nat}(hx : bn F (W.alloc (.cells #[.slice none 0 0, .slice none 0 0, .slice none 0 0, .slice none 0 0, .int .i64 0, .slice none 0 0, .slice none 0 0, .slice none 0 0] 37)) V)(hn : W.heap.size∉F) : aJ V W.heap.size wm∧bn F W V∧W.heap.size<V.heap.size:=
 ⟨(aJ.new2 _ _ _ rfl).aM hx hn,hx.xW,by have:=hx.size;simp at this;omega⟩
theorem MP {F : List Nat}(hx : bn F (W.alloc (.cells #[.int .i64 0, .int .i64 0, .int .i64 0, .int .i64 0, .int .i64 0, .int .i64 0, .int .i64 0, .int .i64 0, .int .i64 0, .bool false] 155)) V)(hn : W.heap.size∉F) : aJ V W.heap.size Mj∧bn F W V∧W.heap.size<V.heap.size:=
 ⟨(aJ.new2 _ _ _ rfl).aM hx hn,hx.xW,by have:=hx.size;simp at this;omega⟩
theorem PX {F : List Nat}(hx : bn F (W.alloc (.cells #[.slice none 0 0, .slice none 0 0, .slice none 0 0, .slice none 0 0] 31)) V)(hn : W.heap.size∉F) : aJ V W.heap.size [.slice none 0 0, .slice none 0 0, .slice none 0 0, .slice none 0 0]∧bn F W V∧W.heap.size<V.heap.size:=
 ⟨(aJ.new2 _ _ _ rfl).aM hx hn,hx.xW,by have:=hx.size;simp at this;omega⟩
end
theorem rz (w : World)(k a : Int) : Calls Tryz.prog 172 #[.int .i64 k, .int .i64 a] w fun e w'=>e= .returned (aO.val ⟨k,a,0,0,0,0,0,0,0,false⟩) ∧Below w.heap.size w w':=by
 go_enter Tryz.func172,Tryz.ntmps172;go_wp2_with fail;refine bodyPost_ret (v:=aO.val ⟨k,a,0,0,0,0,0,0,0,false⟩) (by simp [results,Tryz.results172,go_sem]) rfl ⟨rfl,dU⟩
theorem Og (w : World)(H : aA)(x : Base)(wk : Nat)(hw : wk<3)(s : aO)(h : nu w w.heap.size H x)(hz : vU x)(he : dV s.e) : Calls Tryz.prog 171 #[H.val x, .int .i64 wk,s.val] w (JE w x) :=by
 by_cases c1 : gT x=true
 ·exact OV w H x wk s h hz c1 hw he
 ·exact OU w H x wk s h hz ((XM _).mp c1)
theorem JE.U3 {x y : Base}(h : y=x∨BInv y)(hz : vU x) : vU y:=h.elim (fun e=>e ▸ hz) (fun b=>b.sz)
theorem rA {w W : World}{g a : Nat}{code : List Int}{K : aA}{y : Base}{A : Option Addr}{c : Nat}{l : List Int}(L : LB w W g a code K y A c l)(wk : Nat)(hw : wk<3)(s : aO)(he : dV s.e) :
  Calls Tryz.prog 171 #[K.val y, .int .i64 wk,s.val] W fun e w'=> ∃ (K2 : aA) (y2 : Base) (t2 : aO),e= .returned (.tuple #[K2.val y2,t2.val]) ∧LB w w' g a code K2 y2 A c l∧ (∀b∈K2.foot,W.heap.size≤b) ∧Below W.heap.size W w':=
 (Og W K y wk hw s L.o.rd' L.sz he).mono fun _ _ ⟨K2,y2,t2,h1,o2,hy,f2,hb⟩ => ⟨K2,y2,t2,h1,L.put hb o2 (fun b hm=> .inr (f2 b hm)) (JE.U3 hy L.sz),f2,hb⟩
theorem OY {w W : World}{g a : Nat}{code : List Int}{K : aA}{y : Base}{A : Option Addr}{c : Nat}{l : List Int}(L : LB w W g a code K y A c l)(wk : Int) :
  Calls Tryz.prog 173 #[.agg #[.int .i64 y.Clock.Epoch, .slice K.Clock.aK.a K.Clock.aK.l K.Clock.aK.c], .int .i64 wk] W fun e w'=> ∃ (K2 : fV) (q : Clock) (b : Value),e= .returned (.tuple #[K2.val q,b]) ∧LB w w' g a code {K with Clock:=K2} {y with Clock:=q} A c l∧Below W.heap.size W w':=
 (Clk.Em W K.Clock y.Clock wk L.o.Clock.rd' L.sz.p).mono fun _ _ ⟨K2,h1,o2,f2,hb⟩ => ⟨K2,_,_,h1,L.put hb (xq (L.o.keep (fun b hm=>hb.block b (L.o.lt b hm))) o2 (fun b hm=>by have:=L.o.Cb f2 b hm;exact⟨this.1,this.2.2⟩)) (fun b hm=>by
  rcases aA.aI.1 hm with e|e|e|e
  ·exact .inl (aA.aI.2 (.inl e))
  ·exact .inr (f2 b e)
  ·exact .inl (aA.aI.2 (.inr (.inr (.inl e))))
  ·exact .inl (aA.aI.2 (.inr (.inr (.inr e))))) ⟨L.sz.m,by rw [(Kw y.Clock wk).1];exact L.sz.p,L.sz.l,L.sz.z⟩,hb⟩
theorem LJ {w W V : World}{g a : Nat}{code : List Int}{K : aA}{y : Base}{A : Option Addr}{c : Nat}{l : List Int}(L : LB w W g a code K y A c l)(hb : Below W.heap.size W V){J : SV}{z : List Int}(o : aX FI 3 V J.val z)(f : ∀b∈bq J.val,W.heap.size≤b)(hz : z.length=y.bf.length) : LB w V g a code {K with bf:=J} {y with bf:=z} A c l:=
 L.put hb (EJ (L.o.keep (fun b hm=>hb.block b (L.o.lt b hm))) o (fun b hm=>by have:=L.o.Cb f b hm;exact⟨this.1,this.2.1,this.2.2.1⟩)) (fun b hm=>by
  rcases aA.aI.1 hm with e|e|e|e
  ·exact .inl (aA.aI.2 (.inl e))
  ·exact .inl (aA.aI.2 (.inr (.inl e)))
  ·exact .inl (aA.aI.2 (.inr (.inr (.inl e))))
  ·exact .inr (f b e)) ⟨L.sz.m,L.sz.p,L.sz.l,by show z.length≤_;rw [hz];exact L.sz.z⟩
theorem MQ {w W : World}{g a : Nat}{code : List Int}{K : aA}{y : Base}{A : Option Addr}{c : Nat}{l : List Int}(L : LB w W g a code K y A c l)(wk h0 : Int) :
  Calls Tryz.prog 174 #[.slice K.bf.a K.bf.l K.bf.c, .int .i64 wk, .int .i64 h0] W fun e w'=> ∃ (s : SV) (z : List Int) (b : Value),e= .returned (.tuple #[.slice s.a s.l s.c,b]) ∧LB w w' g a code {K with bf:=s} {y with bf:=z} A c l∧Below W.heap.size W w':=
 (Lim.Ba W K.bf.val y.bf wk h0 L.o.bf.rd' L.sz.z).mono fun _ _ ⟨v,h1,o2,f2,hb⟩ =>by
  obtain⟨A2,c2,hv,_⟩ :=o2.rd';subst hv;exact⟨⟨A2,_,c2⟩,_,_,h1,LJ L hb o2 f2 (Lim.Bj _ _ _),hb⟩
theorem OZ {w W : World}{g a : Nat}{code : List Int}{K : aA}{y : Base}{A : Option Addr}{c : Nat}{l : List Int}(L : LB w W g a code K y A c l)(wk : Int) :
  Calls Tryz.prog 175 #[.slice K.bf.a K.bf.l K.bf.c, .int .i64 wk] W fun e w'=> ∃ (s : SV) (z : List Int) (b : Value),e= .returned (.tuple #[.slice s.a s.l s.c,b]) ∧LB w w' g a code {K with bf:=s} {y with bf:=z} A c l∧Below W.heap.size W w':=
 (Lim.Mh W K.bf.val y.bf wk L.o.bf.rd' L.sz.z).mono fun _ _ ⟨v,h1,o2,f2,hb⟩ =>by
  obtain⟨A2,c2,hv,_⟩ :=o2.rd';subst hv;exact⟨⟨A2,_,c2⟩,_,_,h1,LJ L hb o2 f2 (MO _ _),hb⟩
theorem MR {w W : World}{g a : Nat}{code : List Int}{K : aA}{y : Base}{A : Option Addr}{c : Nat}{l : List Int}(L : LB w W g a code K y A c l)(s p k n : Int)(hn : dV n) :
  Calls Tryz.prog 25 #[.agg #[.slice K.Mem.E.Y.a K.Mem.E.Y.l K.Mem.E.Y.c, .slice K.Mem.E.Z.a K.Mem.E.Z.l K.Mem.E.Z.c, .slice K.Mem.I.G.a K.Mem.I.G.l K.Mem.I.G.c, .slice K.Mem.I.O.a K.Mem.I.O.l K.Mem.I.O.c], .int .i64 s, .int .i64 p, .int .i64 k, .int .i64 n] W fun e w'=> ∃ (K2 : bV) (m : Mem) (b : Value),e= .returned (.tuple #[.agg #[.slice K2.E.Y.a K2.E.Y.l K2.E.Y.c, .slice K2.E.Z.a K2.E.Z.l K2.E.Z.c, .slice K2.I.G.a K2.I.G.l K2.I.G.c, .slice K2.I.O.a K2.I.O.l K2.I.O.c],b]) ∧LB w w' g a code (K.mem K2) (y.mem m) A c l∧ (∀b∈K2.foot,W.heap.size≤b) ∧Below W.heap.size W w':=
 (Bz W K.Mem y.Mem s p k n L.o.Mem.rd' L.sz.m hn).mono fun _ _ ⟨K2,h1,o2,f2,hb⟩ => ⟨K2,_,_,h1,L.put hb (Eo (L.o.keep (fun b hm=>hb.block b (L.o.lt b hm))) o2 (fun b hm=>by have:=L.o.Cb f2 b hm;exact⟨this.2.1,this.2.2.1,this.2.2.2⟩)) (fun b hm=>by
  rcases aA.aI.1 hm with e|e|e|e
  ·exact .inr (f2 b e)
  ·exact .inl (aA.aI.2 (.inr (.inl e)))
  ·exact .inl (aA.aI.2 (.inr (.inr (.inl e))))
  ·exact .inl (aA.aI.2 (.inr (.inr (.inr e))))) ⟨OX L.sz.m,L.sz.p,L.sz.l,L.sz.z⟩,f2,hb⟩
theorem EK {w : World}{A : Option Addr}{n c : Nat}{l : List Int}(o : aX FI 3 w (.slice A n c) l){j : Nat}(hj : j<l.length) : ∃b,A=some ⟨b,0,none⟩ ∧b<w.heap.size∧w.cell? ⟨b,j,none⟩ =some (.int .i64 l[j]) :=by
 obtain⟨b,c',hv,hg⟩ :=aX.jf (v:= .slice A n c) o (by omega);injection hv with e1 e2 e3;subst e1 e2 e3;have po:=aX.cell_ o (j:=0) (XL hj) (by decide);simp only [FI,Nat.mul_one,Nat.add_zero] at po;exact⟨b,rfl,hg,po⟩
end Go.Proofs.YtkmggglljkmjoaaGreat
