/- m -/
import Derived.Test.YtkmggglljkmjoaaGreatUHRanges10
set_option maxRecDepth 100000
set_option maxHeartbeats 4000000
namespace Go.Proofs.YtkmggglljkmjoaaGreat.Lim
open Go.RowKit
theorem yj {ll : List (List fP)}(h : gX ll=true) : ll.length=3:=by
 simp [gX] at h;exact h.1.1
theorem Ku {ll : List (List fP)}(h : gX ll=true) : ll.flatten.length≤24:=by
 simp only [gX,X4,decide_eq_true_eq] at h;exact h.1.2
theorem lH {eU : List SV}{i : Nat}{s s' : SV}(hi : eU[i]? =some s)(hf : bq s'.val=bq s.val) : ((eU.set i s').flatMap fun s=>bq s.val) =eU.flatMap fun s=>bq s.val:=by
 induction eU generalizing i with
 |nil=>simp at hi
 |cons x xs ih=>
  cases i with
  |zero=>
   simp only [List.getElem?_cons_zero,Option.some.injEq] at hi;subst hi;simp [hf]
  |succ i=>
   simp only [List.getElem?_cons_succ] at hi;simp only [List.set_cons_succ,List.flatMap_cons,ih hi]
theorem _root_.Go.Proofs.YtkmggglljkmjoaaGreat.dF.oU {α : Type}{T : FT α}{e E : TypeId}{w w' : World}{g n c : Nat}{eU : List SV}{ll : List (List α)}(h : dF T e E w (.slice (some ⟨g,0,none⟩) n c) eU ll){i : Nat}{s s' : SV}{l' : List α}(hi : eU[i]? =some s)
  (hl : aX T e w' s'.val l') (hg : w.grownBy w' s.val.ownBlock) (hat : s'.val.ownBlock=s.val.ownBlock∨s'.val.ownBlock=some w.heap.size) :
  dF T e E (w'.setCell ⟨g,i,none⟩ s'.val) (.slice (some ⟨g,0,none⟩) n c) (eU.set i s') (ll.set i l') :=by
 have hs : s∈eU:=XV hi;have hc:=bn.iD hg;have hn:=h.nodup;have hlt:=h.lt;have hgz : g<w.heap.size:=hlt g (dw.2 (.inl rfl));unfold bT at hn;rw [List.nodup_append] at hn;obtain⟨hn1,hn2,yA⟩ :=hn;have hgs : ∀s'∈eU,s'.val.ownBlock≠some g:=fun s' hs' he=>yA g (aS.2 rfl) g (List.mem_flatMap.2 ⟨s',hs',aS.2 he⟩) rfl;have hg' : s'.val.ownBlock≠some g:=by
  rcases hat with h1|h1
  ·rw [h1];exact hgs s hs
  ·rw [h1];intro he;injection he with he;omega
 have hkeep : ∀b,b≠g→ (w'.setCell ⟨g,i,none⟩ s'.val).heap[b]? =w'.heap[b]? :=fun b hb=>Below.heap_setCell _ _ _ _ hb;have hik:= (XW.1 hi).1;refine⟨by rw [X8,X8];exact h.len, ?_,fun k s1 l1 hk hl1=> ?_, ?_⟩
 ·have ho:=h.outer.aM hc (fun b hb hm=>yA b hb b (List.mem_flatMap.2 ⟨s,hs,hm⟩) rfl)
  have:=ho.dG (j:=0) (y:=s') (u:= .slice s'.a s'.l s'.c) hi (by decide) rfl;rw [show i * FS.n+0=i by simp [FS]] at this;exact this
 ·by_cases hki : i=k
  ·subst hki
   rw [X9 hik] at hk;rw [X9 (by rw [←h.len];exact hik)] at hl1;cases hk;cases hl1;exact hl.keep fun b hb=>hkeep b fun e=>hg' (by rw [hb,e])
  ·rw [List.getElem?_set_ne hki] at hk hl1
   have ho:=h.inner k s1 l1 hk hl1;refine(ho.aM hc (fun b hb hm=>DN hn2 hi hk hki (aS.1 hm) (aS.1 hb))).keep fun b hb=>hkeep b fun e=>hgs s1 (XV hk) (by rw [hb,e])
 ·have hfr : s'.val.ownBlock=some w.heap.size→ ∀b∈bq s'.val,b∉bT (.slice (some ⟨g,0,none⟩) n c) eU:=by
   intro h1 b hb hm;rw [aS,h1] at hb;injection hb with hb;have:=hlt b hm;omega
  unfold bT;rw [List.nodup_append];rcases hat with h1|h1
  ·have Uu : bq s'.val=bq s.val:=by unfold bq;rw [h1]
   rw [lH hi Uu];exact⟨hn1,hn2,yA⟩
  ·refine⟨hn1,Af hn2 (fun b hb hm=>hfr h1 b hb (XT.2 (.inr hm))),fun a ha b hb e=> ?_⟩
   subst e;obtain⟨y,hy,hm⟩ :=List.mem_flatMap.1 hb;rcases List.mem_or_eq_of_mem_set hy with hy|rfl
   ·exact yA a ha a (List.mem_flatMap.2 ⟨y,hy,hm⟩) rfl
   ·exact hfr h1 a hm (XT.2 (.inl ha))
theorem wX {eU : List SV}{v : Value}{i : Nat}{s s' : SV}{w : World}{B : Nat}(hi : eU[i]? =some s)(hat : s'.val.ownBlock=s.val.ownBlock∨s'.val.ownBlock=some w.heap.size)(hB : B≤w.heap.size)(h : ∀b∈bT v eU,B≤b) : ∀b∈bT v (eU.set i s'),B≤b:=by
 intro b hb;rcases jF hb with hb|hb
 ·exact h b hb
 ·rw [aS] at hb
  rcases hat with h1|h1
  ·exact h b (dw.2 (.inr ⟨s,XV hi,by rw [←h1];exact hb⟩))
  ·rw [h1] at hb
   injection hb with hb;omega
theorem mq {α : Type}(ll : List (List α))(i : Nat)(l : List α) : fO (ll.set i l) ≤fO ll+l.length:=by
 have : ∀ (ll : List (List α)) i, ((ll.set i l).map List.length).sum≤ (ll.map List.length).sum+l.length:=by
  intro ll;induction ll with
  |nil=>intro i;simp
  |cons x xs ih=>
   intro i;cases i with
   |zero=>simp;omega
   |succ i=>have:=ih i;simp at this⊢;omega
 have:=this ll i;unfold fO;simp only [X8];omega
def retired (ll : List (List fP))(k : Nat)(h e : Int) : List (List fP) :=ll.set k (ll.getD k []++ [⟨h,e⟩])
def qF (ll : List (List fP))(wk h e : Int) : List (List fP) ×Bool:=
 if gX ll=true∧bG 0 2 wk=true∧gX (retired ll wk.toNat h e) =true then (retired ll wk.toNat h e,true) else (ll,false)
theorem Mr {ll : List (List fP)}{wk h e : Int}(c : gX ll=false) : qF ll wk h e= (ll,false) :=if_neg (fun hh=>by rw [c] at hh;exact absurd hh.1 (by decide))
theorem Ms {ll : List (List fP)}{wk h e : Int}(c : bG 0 2 wk=false) : qF ll wk h e= (ll,false) :=if_neg (fun hh=>by rw [c] at hh;exact absurd hh.2.1 (by decide))
theorem Mt {ll : List (List fP)}{wk h e : Int}(c : gX (retired ll wk.toNat h e) =false) : qF ll wk h e= (ll,false) :=if_neg (fun hh=>by rw [c] at hh;exact absurd hh.2.2 (by decide))
theorem _root_.Go.Proofs.YtkmggglljkmjoaaGreat.dF.l9 {α : Type}{T : FT α}{e E : TypeId}{w : World}{v : Value}{eU : List SV}{ll : List (List α)}(h : dF T e E w v eU ll)(hl : 0<ll.length) : ∃g cap,v= .slice (some ⟨g,0,none⟩) ll.length cap∧g<w.heap.size:=by
 have:=h.outer.jf (by rw [h.len];exact hl)
 rwa [h.len] at this
theorem lu (w : World)(o : Obj)(g i : Nat)(hg : g<w.heap.size) : (w.alloc o).cell? ⟨g,i,none⟩ =w.cell? ⟨g,i,none⟩ :=by
 simp [World.cell?,Below.heap_alloc w o g hg]
theorem jm (w : World)(o : Obj)(g i : Nat)(hg : g<w.heap.size) : (w.alloc o).frozen? ⟨g,i,none⟩ =w.frozen? ⟨g,i,none⟩ :=by
 simp [World.frozen?,Below.heap_alloc w o g hg]
theorem _root_.Go.Proofs.YtkmggglljkmjoaaGreat.dF.head_ne {α : Type}{T : FT α}{e E : TypeId}{w : World}{g n c : Nat}{eU : List SV}{ll : List (List α)}(h : dF T e E w (.slice (some ⟨g,0,none⟩) n c) eU ll){i : Nat}{s : SV}(hi : eU[i]? =some s) : g∉bq s.val:=by
 have hn:=h.nodup;unfold bT at hn;rw [List.nodup_append] at hn;exact fun hm=>hn.2.2 g (aS.2 rfl) g (List.mem_flatMap.2 ⟨s,XV hi,hm⟩) rfl
theorem Mv {ll : List (List fP)}{k : Nat}{h e : Int}(c1 : gX ll=true)(c2 : bG 0 2 (k : Int) =true)(c3 : gX (retired ll k h e) =true) : qF ll (k : Int) h e= (retired ll k h e,true) :=by
 unfold qF;rw [X6];exact if_pos ⟨c1,c2,c3⟩
theorem G5 (w : World)(v : Value)(t : List SV)(ll : List (List fP))(wk h0 e0 : Int)(h : ig gZ w w.heap.size v t ll)(hs : fO ll≤1048576) :
  Calls Tryz.prog 218 #[v, .int .i64 wk, .int .i64 h0, .int .i64 e0] w fun e w'=> ∃v' t',e= .returned (.tuple #[v', .bool (qF ll wk h0 e0).2]) ∧dF gZ 83 123 w' v' t' (qF ll wk h0 e0).1∧ (∀g∈bT v' t',w.heap.size≤g) ∧Below w.heap.size w w':=by
 by_cases c1 : gX ll=true
 case neg=>
  have c1' : gX ll=false:= (XM _).mp c1;have HN:=Hid.aD (Mr (wk:=wk) (h:=h0) (e:=e0) c1');clear c1;go_enter Tryz.func218,Tryz.ntmps218;go_wp2_with fail;refine(pY _ _ t ll h (by omega)).mono ?_;rintro e w2 ⟨v',t',rfl,ho,hfo,hb2⟩;go_wp2_with fail;refine(pX _ _ t ll (kY h hb2) (by omega)).mono ?_;rintro e w1 ⟨rfl,hb1⟩;go_wp2_with fail
  go_ret2
  exact⟨v',t',jX (by rw [HN.out]),by rw [HN.out];exact ho.keep (fun b hb=>hb1.block b (ho.lt b hb)),hfo,hb2.trans (hb1.mono hb2.size)⟩
 by_cases c2 : bG 0 2 wk=true
 case neg=>
  have c2' : bG 0 2 wk=false:= (XM _).mp c2;have HN:=Hid.aD (Ms (ll:=ll) (h:=h0) (e:=e0) c2');clear c2;go_enter Tryz.func218,Tryz.ntmps218;go_wp2_with fail;refine(pY _ _ t ll h (by omega)).mono ?_;rintro e w2 ⟨v',t',rfl,ho,hfo,hb2⟩;go_wp2_with fail;refine(pX _ _ t ll (kY h hb2) (by omega)).mono ?_;rintro e w1 ⟨rfl,hb1⟩;go_wp2_with fail;refine(dH _ _ _ _).mono ?_;rintro e w1' ⟨rfl,rfl⟩;go_wp2_with fail
  go_ret2
  exact⟨v',t',jX (by rw [HN.out]),by rw [HN.out];exact ho.keep (fun b hb=>hb1.block b (ho.lt b hb)),hfo,hb2.trans (hb1.mono hb2.size)⟩
 obtain⟨k0,rfl⟩ :=XP (bH.1 c2).1;have hk0 : k0<ll.length:=by rw [yj c1];have:= (bH.1 c2).2;omega
 have hl0 : ll[k0].length≤1048576:=XR (nX (X0 hk0)) hs;have H3 : Hid (ll.length=3) :=yj c1;have HR:=Hid.aD (show retired ll k0 h0 e0=ll.set k0 (ll[k0]++ [⟨h0,e0⟩]) by unfold retired;rw [List.getD,XL hk0];rfl);have hsz:=mq ll k0 (ll[k0]++ [(⟨h0,e0⟩ : fP)]);have HY:=Hid.aD (fun c3=>Mv (ll:=ll) (k:=k0) (h:=h0) (e:=e0) c1 c2 c3);have HN:=Hid.aD (fun c3=>Mt (ll:=ll) (wk:= (k0 : Int)) (h:=h0) (e:=e0) c3);rw [X6] at HN;have HI:=Hid.aD (XL hk0);generalize ll[k0]=l at hl0 HR hsz HI;simp only [XU,List.length_singleton] at hsz;generalize retired ll k0 h0 e0=rt at HR HY HN;go_enter Tryz.func218,Tryz.ntmps218;go_wp2_with fail;refine(pY _ _ t ll h (by omega)).mono ?_;rintro e wx ⟨v',t',rfl,ho,hfo,hb2⟩;go_wp2_with fail;refine(pX _ _ t ll (kY h hb2) (by omega)).mono ?_;rintro e w2 ⟨rfl,hb1⟩;replace ho:=ho.keep (fun b hb=>hb1.block b (ho.lt b hb));replace hb2:=hb2.trans (hb1.mono hb2.size);clear hb1;go_wp2_with fail;refine(dH _ _ _ _).mono ?_;rintro e w1' ⟨rfl,rfl⟩;obtain⟨g,cap,rfl,hg⟩ :=ho.l9 (by rw [H3.out];decide);obtain⟨s,hsv⟩ : ∃s,t'[k0]? =some s:= ⟨_,XL (by rw [ho.len];exact hk0)⟩;have hin:=ho.inner k0 s _ hsv HI.out;have p0 : w2.cell? ⟨g,k0,none⟩ =some (.slice s.a s.l s.c) :=by simpa [FS] using ho.outer.cell_ (j:=0) hsv (by decide)
 have f0:=ho.outer.dM k0;have HV:=Hid.aD hsv;clear hsv;go_wp2_with (at_builtin;refine eP Tryz.stLRow rfl _ _ rfl (v:=s.val) (y:= .slice (some ⟨w2.heap.size,0,none⟩) 1 1) (l:=l) (m:= [⟨h0,e0⟩]) rfl rfl (hin.av _) (aX.lit gZ [⟨h0,e0⟩] #[.int .i64 h0, .int .i64 e0] rfl (by simp [maxLen]) w2 83).rd' (by simp;omega) ?_;intro v4 w4 rP hg4 qy;obtain⟨A4,c4,hv4,_⟩ :=rP.rd';simp only [XU,List.length_singleton] at hv4;subst hv4;have QV:= ((bn.iD hg4).frozen g k0 (by simp;omega) (ho.head_ne HV.out)).trans ((jm w2 _ g k0 hg).trans f0);have QW:= ((bn.iD hg4).cell g k0 (by simp;omega) (ho.head_ne HV.out)).trans ((lu w2 _ g k0 hg).trans p0));have hN:=dF.oU (s':= ⟨A4,l.length+1,c4⟩) (ho.av _) HV.out rP hg4 qy;have tq:=wX (B:=w.heap.size) (s':= ⟨A4,l.length+1,c4⟩) HV.out qy (by simp;have:=hb2.size;omega) hfo;have hbN : Below w.heap.size w (w4.setCell ⟨g,k0,none⟩ (.slice A4 (l.length+1) c4)) := ((hb2.alloc hb2.size _).grown hg4 (by simp;have:=hb2.size;omega) (fun b hb=>hfo b (dw.2 (.inr ⟨s,XV HV.out,hb⟩)))).setCell (hfo g (dw.2 (.inl rfl))) _;rw [←HR.out] at hN;clear QW QV p0 f0 hin qy hg4 rP;by_cases c3 : gX rt=true
 ·refine(pX _ _ _ rt hN.rd' (by rw [HR.out];omega)).mono ?_
  rw [c3];rintro e w5 ⟨rfl,hb5⟩;go_wp2_with fail
  go_ret2
  exact⟨_,_,jX (by rw [HY.out c3]),by rw [HY.out c3];exact hN.keep (fun b hb=>hb5.block b (hN.lt b hb)),fun b hb=>tq b hb,hbN.trans (hb5.mono hbN.size)⟩
 ·have c3' : gX rt=false:= (XM _).mp c3
  refine(pX _ _ _ rt hN.rd' (by rw [HR.out];omega)).mono ?_;rw [c3'];rintro e w5 ⟨rfl,hb5⟩;have Gl : Below w.heap.size w w5:=hbN.trans (hb5.mono hbN.size);go_wp2_with fail;refine(pY _ _ t ll (kY h Gl) (by omega)).mono ?_;rintro e w6 ⟨v6,t6,rfl,UE,TJ,hb6⟩;go_wp2_with fail
  go_ret2
  exact⟨v6,t6,jX (by rw [HN.out c3']),by rw [HN.out c3'];exact UE,fun b hb=>XR Gl.size (TJ b hb),Gl.trans (hb6.mono Gl.size)⟩
theorem yu (w : World) : Calls Tryz.prog 178 #[] w fun e w'=> ∃v,e= .returned v∧aX FI 3 w' v [0,0,0]∧ (∀g∈bq v,w.heap.size≤g) ∧Below w.heap.size w w':=by
 have hmk : ∀w, (Instr.makeSlice 24 (.int .i64 3) (.int .i64 3)).run Tryz.prog w= .ok (.slice (some ⟨w.heap.size,0,none⟩) 3 3) (w.alloc (.cells (madeCells #[.int .i64 0] (3 * FI.n)) 3)) :=lM (P:=Tryz.prog) FI 24 3 (.int .i64 0) 8 Tryz.underlying24 Tryz.infoInt 3 (by omega) (by omega);go_enter Tryz.func178,Tryz.ntmps178;go_wp2;go_ret;exact⟨_,rfl,aX.made FI #[.int .i64 0] rfl 3 (by simp [maxLen]) w 3,by simp [bq,Value.ownBlock], (Below.refl _ _).alloc (XQ _) _⟩
theorem Jf (w : World)(v : Value)(code : List Int)(h : dX Co w w.heap.size v code)(hb : ∀x∈code,0≤x∧x≤255)(hs : code.length≤1073741824) :
  Calls Tryz.prog 51 #[v] w fun e w'=>e= .returned (.pointer (some ⟨w.heap.size,0,none⟩)) ∧fQ w' w.heap.size code∧Below w.heap.size w w':=by
 obtain⟨A,cap,hv,_⟩ :=id h;subst hv;go_enter Tryz.func51,Tryz.ntmps51;go_wp2
 go_loop [3,4] (fun h i=> ∃ (k : Nat) (x : Int),k≤code.length∧i= .int .i64 k∧h= .int .i64 x) (fun _ i=>code.length - (intOf i).toNat)
 case atStart=>exact⟨0,_,X3 _,rfl,rfl⟩
 case round=>
  obtain⟨k,x,hk,rfl,rfl⟩ :=hrel
  have fin : ∀y : Int,fQ (w.alloc (.cells #[.slice A code.length cap, .int .i64 0, .int .i64 y] 118)) w.heap.size code:=fun y=>
   ⟨by simp,hb, ⟨A,cap,by simp [go_sem],h.keep (fun k hk=>Below.heap_alloc w _ k hk) (XQ _)⟩, ⟨0,by simp [go_sem],X3 _⟩, ⟨y,by simp [go_sem]⟩,by simp [go_sem],by simp [go_sem]⟩
  have HFin:=Hid.aD fin;clear fin;by_cases hlt : k<code.length
  ·by_cases h4 : k<4000
   ·obtain⟨g,off,cap',he,hg,_,_,hc⟩ :=h.at_ (XL hlt)
    injection he with he1 he2 gq;clear he2;subst he1 gq;have p0 : w.cell? ⟨g,off+k,none⟩ =some (.int .u8 code[k]) :=by simpa [Co] using hc 0 _ rfl
    have bb:=hb code[k] (X0 hlt);obtain⟨b0,b1⟩ :=bb;clear hc;go_wp2
    go_round
    case rel=>exact⟨k+1,_,by omega,by go_num,rfl⟩
    case measure=>simp [intOf];omega
   ·go_wp2
    go_ret;exact⟨rfl,HFin.out _, (Below.refl _ _).alloc (XQ _) _⟩
  ·go_wp2
   go_ret;exact⟨rfl,HFin.out _, (Below.refl _ _).alloc (XQ _) _⟩
theorem fQ.other {w : World}{g gz i : Nat}{code : List Int}(h : fQ w g code)(hg : g<gz)(v : Value) : fQ (w.setCell ⟨gz,i,none⟩ v) g code:=by
 obtain⟨lt,sS, ⟨A,cap,p0,r⟩, ⟨j,p1,hi⟩, ⟨hh,p2⟩,f1,f2⟩ :=h;have e : ∀k,k≤g→ (w.setCell ⟨gz,i,none⟩ v).heap[k]? =w.heap[k]? :=fun k hk=>Below.heap_setCell _ _ _ _ (by simp;omega);have ec : ∀j, (w.setCell ⟨gz,i,none⟩ v).cell? ⟨g,j,none⟩ =w.cell? ⟨g,j,none⟩ :=fun j=>by simp only [World.cell?,e g (XQ _)]
 have ef : ∀j, (w.setCell ⟨gz,i,none⟩ v).frozen? ⟨g,j,none⟩ =w.frozen? ⟨g,j,none⟩ :=fun j=>by simp only [World.frozen?,e g (XQ _)]
 exact⟨by simpa using lt,sS, ⟨A,cap, (ec 0).trans p0,r.keep (fun k hk=>e k (by omega)) (XQ _)⟩, ⟨j, (ec 1).trans p1,hi⟩, ⟨hh, (ec 2).trans p2⟩, (ef 1).trans f1, (ef 2).trans f2⟩
def R5 (w : World)(g : Nat)(code : List Int)(e : Ending)(w' : World) : Prop:= ∃v z,e= .returned v∧aX FI 3 w' v z∧z.length≤3∧ (∀b∈bq v,w.heap.size≤b) ∧fQ w' g code∧bn [g] w w'
theorem Bj (z : List Int)(a b : Int) : (qX z a b).1.length=z.length:=by
 unfold qX;split<;>simp
theorem NQ (w : World)(g : Nat)(code : List Int)(hc : fQ w g code) : Calls Tryz.prog 118 #[.pointer (some ⟨g,0,none⟩)] w (R5 w g code) :=by
 have hgl:=hc.lt;go_enter Tryz.func118,Tryz.ntmps118;go_wp2_with fail;refine(yu _).mono ?_;rintro e w1 ⟨v1,rfl,o1,f1,hb1⟩;have hc1:=hc.up hb1;go_wp2_with fail;refine(bU _ g code 4 (by unfold dV;omega) hc1).mono ?_;rintro e w2 ⟨n0,rfl,Bl,NS,hc2,hg2⟩;have hC2 : bn [g] w w2:= (bn.of_below hb1).trans hg2;have o2:=o1.aM hg2 (fun b hb hm=>by simp at hm;subst hm;have:=f1 b hb;omega);obtain⟨m0,rfl⟩ :=XP Bl;clear hb1 hc1 hg2 o1;go_wp2_with fail;go_loopw [3,4] (fun v i wr=> ∃k : Nat,i= .int .i64 k∧k≤3∧ (∃z,aX FI 3 wr v z∧z.length=3) ∧ (∀b∈bq v,w.heap.size≤b) ∧fQ wr g code∧bn [g] w wr) (fun _ i _=> (intOf i).toNat)
 case atStart=>exact⟨m0,rfl,by omega, ⟨_,o2,rfl⟩,f1,hc2,hC2⟩
 case round=>
  obtain⟨k,rfl,hk3, ⟨z,oz,hz3⟩,fz,hcz,Bn⟩ :=hrel;have HZ:=Hid.aD hz3;clear o2 hc2 hC2 hz3;by_cases hk : 0<k
  ·go_wp2_with fail
   refine(bU _ g code 3 (by unfold dV;omega) hcz).mono ?_;rintro e w3 ⟨a,rfl,a0,a1,hc3,hg3⟩;go_wp2_with fail;refine(bU _ g code 4 (by unfold dV;omega) hc3).mono ?_;rintro e w4 ⟨b,rfl,b0,b1,hc4,hg4⟩;go_wp2_with fail;refine(bU _ g code 2 (by unfold dV;omega) hc4).mono ?_;rintro e w5 ⟨c,rfl,c0,c1,sZ,hg5⟩;have c2 : c≤2:=by omega
   have Jg:= (hg3.trans hg4).trans hg5;have o5:=oz.aM Jg (fun b hb hm=>by simp at hm;subst hm;have:=fz b hb;omega);have mI:=Bn.trans Jg;go_wp2_with fail;refine(sK _ _ _).mono ?_;rintro e w6 ⟨rfl,rfl⟩;go_wp2_with fail;refine(Ba _ _ z _ _ o5.rd' (by rw [HZ.out];decide)).mono ?_;rintro e w7 ⟨v7,rfl,o7,f7,NT⟩;have hs5:=mI.size;go_wp2_with fail;go_roundw
   case rel=>exact⟨k - 1,by go_num,by omega, ⟨_,o7,by rw [Bj];exact HZ.out⟩,fun b hb=>by have:=f7 b hb;omega,sZ.up NT,mI.trans (bn.of_below NT)⟩
   case measure=>simp [intOf];omega
  ·go_wp2_with fail
   refine(bU _ g code 20 (by unfold dV;omega) hcz).mono ?_;rintro e w3 ⟨a,rfl,a0,a1,hc3,hg3⟩;have o3:=oz.aM hg3 (fun b hb hm=>by simp at hm;subst hm;have:=fz b hb;omega);have p9:=Bn.trans hg3;obtain⟨gz,cz,rfl,hgz⟩ :=o3.jf (by rw [HZ.out];decide);have hcap : z.length≤cz:=by obtain⟨_,_,hv,u1,_,_⟩ :=id o3.rd';injection hv with _ _ e;omega
   have Mq : w.heap.size≤gz:=fz gz (aS.2 rfl);clear oz hcz Bn hg3;by_cases ha0 : a=0
   ·subst ha0
    have OO:=o3.Cc (i:=2) (by rw [HZ.out];decide);have WS : 2≤cz:=by have:=HZ.out;omega
    go_wp2_with fail;go_ret;exact⟨_,_,rfl,OO,by simp;omega,fun b hb=>fz b (aS.2 (aS.1 hb)),hc3,p9⟩
   have TI : (a == 0) =false:=by simpa using ha0
   by_cases ha1 : a=1
   ·subst ha1
    clear ha0 TI;go_wp2_with fail;refine(bU _ g code 3 (by unfold dV;omega) hc3).mono ?_;rintro e w4 ⟨i,rfl,i0,i1,hc4,hg4⟩;obtain⟨i,rfl⟩ :=XP i0;have hi3 : i<z.length:=by rw [HZ.out];omega
    go_wp2_with fail;have ho:=aX.lit FI [-1,31,56,224] #[.int .i64 (-1), .int .i64 31, .int .i64 56, .int .i64 224] rfl (by decide) w4 3;have hl4:=hc4.lt;refine(q8 _ g code _ [-1,31,56,224] ho (by simp [bq,Value.ownBlock];omega) (by decide) (by decide) (hc4.alloc _)).mono ?_;rintro e w5 ⟨y,rfl,_,sZ,hg5⟩;have QU:=hg4.trans hg5.uX;have o5:=o3.aM QU (fun b hb hm=>by simp at hm;subst hm;have:=fz b hb;omega);have mI:=p9.trans QU;have p0:=aX.nI o5 (XL hi3);have pf:=o5.dM i;have os:=o5.dG (k:=i) (j:=0) (y:=y) (u:= .int .i64 y) (XL hi3) (by decide) rfl;rw [show i * FI.n+0=i by simp [FI]] at os;have NU : ¬ g=gz:=by omega
    have hcs : fQ (w5.setCell ⟨gz,i,none⟩ (.int .i64 y)) g code:=sZ.other (by omega) _;have hCs : bn [g] w (w5.setCell ⟨gz,i,none⟩ (.int .i64 y)) := ⟨mI.os,mI.tape,mI.output,by simpa using mI.size,fun k hk hn=> (Below.heap_setCell _ _ _ _ (by simp;omega)).trans (mI.block k hk hn)⟩;go_wp2_with fail;go_ret;exact⟨_,_,rfl,os,by rw [X8,HZ.out];decide,fz,hcs,hCs⟩
   have V_ : (a == 1) =false:=by simpa using ha1
   clear ha0 ha1;go_wp2_with fail;go_ret;exact⟨_,_,rfl,o3,by rw [HZ.out];decide,fz,hc3,p9⟩
theorem vO (w : World) : Calls Tryz.prog 211 #[] w fun e w'=> ∃v t,e= .returned v∧dF gZ 83 123 w' v t [[], [], []]∧ (∀g∈bT v t,w.heap.size≤g) ∧Below w.heap.size w w':=by
 have hmk : ∀w, (Instr.makeSlice 35 (.int .i64 3) (.int .i64 3)).run Tryz.prog w= .ok (.slice (some ⟨w.heap.size,0,none⟩) 3 3) (w.alloc (.cells (madeCells #[.slice none 0 0] (3 * FS.n)) 123)) :=lM (P:=Tryz.prog) FS 35 123 (.agg #[.slice none 0 0]) 24 Tryz.underlying35 Tryz.infoLList 3 (by omega) (by omega);go_enter Tryz.func211,Tryz.ntmps211;go_wp2;go_ret;exact⟨_,_,rfl,dF.made #[.slice none 0 0] rfl 3 (by simp [maxLen]) w gZ 83 123,rD _ 3, (Below.refl _ _).alloc (XQ _) _⟩
theorem zA {α : Type}(ll : List (List α)) : fO ll=ll.length+ll.flatten.length:=by unfold fO;rw [List.length_flatten]
theorem Mw {ll : List (List fP)}{a b c : Int}(h1 : fO ll≤27)(h2 : ll.length=3) : fO (qF ll a b c).1≤27∧ (qF ll a b c).1.length=3:=by
 unfold qF;split
 ·rename_i h
  have a:=yj h.2.2;have b:=Ku h.2.2;refine⟨?_,a⟩;rw [zA];simp only;omega
 ·exact⟨h1,h2⟩
def QX (w : World)(g : Nat)(code : List Int)(e : Ending)(w' : World) : Prop:= ∃v t ll,e= .returned v∧dF gZ 83 123 w' v t ll∧fO ll≤27∧ll.length=3∧ (∀b∈bT v t,w.heap.size≤b) ∧fQ w' g code∧bn [g] w w'
theorem Ky (w : World)(g : Nat)(code : List Int)(hc : fQ w g code) : Calls Tryz.prog 177 #[.pointer (some ⟨g,0,none⟩)] w (QX w g code) :=by
 have hgl:=hc.lt;go_enter Tryz.func177,Tryz.ntmps177;go_wp2_with fail;refine(vO _).mono ?_;rintro e w1 ⟨v1,t1,rfl,o1,f1,hb1⟩;have hc1:=hc.up hb1;go_wp2_with fail;refine(bU _ g code 10 (by unfold dV;omega) hc1).mono ?_;rintro e w2 ⟨n0,rfl,Bl,NS,hc2,hg2⟩;have hC2 : bn [g] w w2:= (bn.of_below hb1).trans hg2;have o2:=o1.aM hg2 (fun b hb hm=>by simp at hm;subst hm;have:=f1 b hb;omega);obtain⟨m0,rfl⟩ :=XP Bl;clear hb1 hc1 hg2 o1;go_wp2_with fail;go_loopw [3,4] (fun v i wr=> ∃k : Nat,i= .int .i64 k∧k≤9∧ (∃t ll,dF gZ 83 123 wr v t ll∧fO ll≤27∧Hid (ll.length=3) ∧ (∀b∈bT v t,w.heap.size≤b)) ∧fQ wr g code∧bn [g] w wr) (fun _ i _=> (intOf i).toNat)
 case atStart=>exact⟨m0,rfl,by omega, ⟨_,_,o2,by decide,rfl,f1⟩,hc2,hC2⟩
 case round=>
  obtain⟨k,rfl,hk3, ⟨t,ll,oz,hz,HZ,fz⟩,hcz,Bn⟩ :=hrel;clear o2 hc2 hC2;by_cases hk : 0<k
  ·go_wp2_with fail
   refine(bU _ g code 3 (by unfold dV;omega) hcz).mono ?_;rintro e w3 ⟨a,rfl,a0,a1,hc3,hg3⟩;go_wp2_with fail;refine(yt _ g code hc3).mono ?_;rintro e w4 ⟨b,rfl,b0,b1,hc4,hg4⟩;go_wp2_with fail;refine(bU _ g code 6 (by unfold dV;omega) hc4).mono ?_;rintro e w5 ⟨c,rfl,c0,c1,sZ,hg5⟩;have Jg:= (hg3.trans hg4).trans hg5;have o5:=oz.aM Jg (fun b hb hm=>by simp at hm;subst hm;have:=fz b hb;omega);have mI:=Bn.trans Jg;go_wp2_with fail;refine(G5 _ _ t ll _ _ _ o5.rd' (by omega)).mono ?_;rintro e w7 ⟨v7,t7,rfl,o7,f7,NT⟩;have hs5:=mI.size;have hr:=Mw (a:=a) (b:=b) (c:=c) hz HZ.out;go_wp2_with fail;go_roundw
   case rel=>exact⟨k - 1,by go_num,by omega, ⟨_,_,o7,hr.1,hr.2,fun b hb=>by have:=f7 b hb;omega⟩,sZ.up NT,mI.trans (bn.of_below NT)⟩
   case measure=>simp [intOf];omega
  ·go_wp2_with fail
   go_ret;exact⟨_,t,ll,rfl,oz,hz,HZ.out,fz,hcz,Bn⟩
theorem _root_.Go.Proofs.YtkmggglljkmjoaaGreat.dF.Cc {α : Type}{T : FT α}{e E : TypeId}{w : World}{g n c : Nat}{eU : List SV}{ll : List (List α)}(h : dF T e E w (.slice (some ⟨g,0,none⟩) n c) eU ll){i : Nat}(hi : i≤ll.length) : dF T e E w (.slice (some ⟨g,0,none⟩) i c) (eU.take i) (ll.take i) :=by
 have hs : i≤eU.length:=by rw [h.len];exact hi
 refine⟨by rw [List.length_take,List.length_take,h.len],h.outer.Cc hs,fun k s l hk hl=> ?_, ?_⟩
 ·rw [List.getElem?_take] at hk hl
  split at hk
  ·rename_i hlt
   rw [if_pos hlt] at hl;exact h.inner k s l hk hl
  ·cases hk
 ·have hn:=h.nodup
  unfold bT at hn⊢;have e : eU.flatMap (fun s=>bq s.val) = (eU.take i).flatMap (fun s=>bq s.val) ++ (eU.drop i).flatMap (fun s=>bq s.val) :=by rw [←List.flatMap_append,List.take_append_drop]
  rw [e, ←List.append_assoc,List.nodup_append] at hn;exact hn.1
theorem Mx {eU : List SV}{i : Nat}{b : Nat}{g n c m d : Nat}(h : b∈bT (.slice (some ⟨g,0,none⟩) n c) (eU.take i)) : b∈bT (.slice (some ⟨g,0,none⟩) m d) eU:=by
 rcases dw.1 h with h1| ⟨s,hs,h1⟩
 ·exact dw.2 (.inl h1)
 ·exact dw.2 (.inr ⟨s,List.mem_of_mem_take hs,h1⟩)
theorem fQ.nJ {w w' : World}{g B : Nat}{code : List Int}(h : fQ w g code)(hg : g<B)(hb : Below B w w')(_hB : B≤w.heap.size) : fQ w' g code:=by
 obtain⟨lt,sS, ⟨A,cap,p0,r⟩, ⟨j,p1,hi⟩, ⟨hh,p2⟩,f1,f2⟩ :=h;have e : ∀k,k≤g→w'.heap[k]? =w.heap[k]? :=fun k hk=>hb.block k (by omega);have ec : ∀j,w'.cell? ⟨g,j,none⟩ =w.cell? ⟨g,j,none⟩ :=fun j=>by simp only [World.cell?,e g (XQ _)]
 have ef : ∀j,w'.frozen? ⟨g,j,none⟩ =w.frozen? ⟨g,j,none⟩ :=fun j=>by simp only [World.frozen?,e g (XQ _)]
 exact⟨XO lt hb.size,sS, ⟨A,cap, (ec 0).trans p0,r.keep (fun k hk=>e k (by omega)) (XQ _)⟩, ⟨j, (ec 1).trans p1,hi⟩, ⟨hh, (ec 2).trans p2⟩, (ef 1).trans f1, (ef 2).trans f2⟩
theorem _root_.Go.Proofs.YtkmggglljkmjoaaGreat.bn.jU {F : List Nat}{w w3 w' : World}(h : bn F w w3)(hb : Below w.heap.size w3 w') : bn F w w':=
 ⟨hb.os.trans h.os,hb.tape.trans h.tape,hb.output.trans h.output,XR h.size hb.size,fun k hk hn=> (hb.block k hk).trans (h.block k hk hn)⟩
def QY (w : World)(g : Nat)(code : List Int)(e : Ending)(w' : World) : Prop:= ∃v t ll,e= .returned v∧dF gZ 83 123 w' v t ll∧fO ll≤100∧ (∀b∈bT v t,w.heap.size≤b) ∧fQ w' g code∧bn [g] w w'
theorem NV (w : World)(g : Nat)(code : List Int)(hc : fQ w g code) : Calls Tryz.prog 117 #[.pointer (some ⟨g,0,none⟩)] w (QY w g code) :=by
 have hgl:=hc.lt;go_enter Tryz.func117,Tryz.ntmps117;go_wp2_with fail;refine(Ky _ g code hc).mono ?_;rintro e w1 ⟨v1,t,ll,rfl,o1,hz,h3,f1,hc1,Bo⟩;have H3:=Hid.aD h3;clear h3;go_wp2_with fail;refine(bU _ g code 20 (by unfold dV;omega) hc1).mono ?_;rintro e w3 ⟨x,rfl,x0,x1,hc3,hg3⟩;have o3:=o1.aM hg3 (fun b hb hm=>by simp at hm;subst hm;have:=f1 b hb;omega);have p9:=Bo.trans hg3;clear o1 hc1 Bo hg3;obtain⟨gz,cap,rfl,hgz⟩ :=o3.l9 (by rw [H3.out];decide);have hcap : ll.length≤cap:= (o3.rd'.len').2.1;have Mq : w.heap.size≤gz:=f1 gz (dw.2 (.inl rfl));by_cases q0 : x=0
 ·subst q0
  have OO:=o3.Cc (i:=1) (by rw [H3.out];decide);have h1c : 1≤cap:=by have:=H3.out;omega
  have hsz : fO (ll.take 1) ≤100:=by
   have a : (ll.take 1).length≤ll.length:=by simp;omega
   have b:=nE ll 1;have c : fO ll=ll.length+ku ll:=rfl;have d : fO (ll.take 1) = (ll.take 1).length+ku (ll.take 1) :=rfl;omega
  go_wp2_with fail;go_ret;exact⟨_,_,_,rfl,OO,hsz,fun b hb=>f1 b (Mx hb),hc3,p9⟩
 have WT : (x == 0) =false:=by simpa using q0
 by_cases q1 : x=1
 ·subst q1
  have hk0 : 0<ll.length:=by rw [H3.out];decide
  have hl0 : ll[0].length≤27:=XR (nX (X0 hk0)) hz;have hsz:=mq ll 0 (ll[0]++ [⟨33,1⟩, ⟨65,1⟩]);obtain⟨s,hsv⟩ : ∃s,t[0]? =some s:= ⟨_,XL (by rw [o3.len];exact hk0)⟩;have hin:=o3.inner 0 s _ hsv (XL hk0);have p0 : w3.cell? ⟨gz,0,none⟩ =some (.slice s.a s.l s.c) :=by simpa [FS] using o3.outer.cell_ (j:=0) hsv (by decide)
  have f0:=o3.outer.dM 0;have HV:=Hid.aD hsv;generalize ll[0]=l at hl0 hsz hin;simp only [XU,List.length_cons,List.length_nil] at hsz;have hk0' : ((0 : Nat) : Int) < (ll.length : Int) :=by omega
  have Py : (0 : Int) < (ll.length : Int) :=by omega
  clear hsv;go_wp2_with (at_builtin;refine eP Tryz.stLRow rfl _ _ rfl (v:=s.val) (y:= .slice (some ⟨w3.heap.size,0,none⟩) 2 2) (l:=l) (m:= [⟨33,1⟩, ⟨65,1⟩]) rfl rfl (hin.av _) (aX.lit gZ [⟨33,1⟩, ⟨65,1⟩] #[.int .i64 33, .int .i64 1, .int .i64 65, .int .i64 1] rfl (by simp [maxLen]) w3 83).rd' (by simp;omega) ?_;intro v4 w4 rP hg4 qy;obtain⟨A4,c4,hv4,_⟩ :=rP.rd';simp only [XU,List.length_cons,List.length_nil] at hv4;subst hv4;have QV:= ((bn.iD hg4).frozen gz 0 (by simp;omega) (o3.head_ne HV.out)).trans ((jm w3 _ gz 0 hgz).trans f0);have QW:= ((bn.iD hg4).cell gz 0 (by simp;omega) (o3.head_ne HV.out)).trans ((lu w3 _ gz 0 hgz).trans p0));have hN:=dF.oU (s':= ⟨A4,l.length+ (0+1+1),c4⟩) (o3.av _) HV.out rP hg4 qy;have tq:=wX (B:=w.heap.size) (s':= ⟨A4,l.length+ (0+1+1),c4⟩) HV.out qy (by simp;have:=p9.size;omega) f1;have hbN : Below w.heap.size w3 (w4.setCell ⟨gz,0,none⟩ (.slice A4 (l.length+ (0+1+1)) c4)) := (((Below.refl _ _).alloc p9.size _).grown hg4 (by simp;have:=p9.size;omega) (fun b hb=>f1 b (dw.2 (.inr ⟨s,XV HV.out,hb⟩)))).setCell Mq _;go_ret;exact⟨_,_,_,rfl,hN,by omega,tq,hc3.nJ hgl hbN p9.size,p9.jU hbN⟩
 have q1' : (x == 1) =false:=by simpa using q1
 by_cases q2 : x=2
 ·subst q2
  have hk0 : 1<ll.length:=by rw [H3.out];decide
  have hl0 : ll[1].length≤27:=XR (nX (X0 hk0)) hz;have QZ:=fun hd : Int=>mq ll 1 (ll[1]++ [(⟨hd, -1⟩ : fP)]);obtain⟨s,hsv⟩ : ∃s,t[1]? =some s:= ⟨_,XL (by rw [o3.len];exact hk0)⟩;have hin:=o3.inner 1 s _ hsv (XL hk0);have p0 : w3.cell? ⟨gz,1,none⟩ =some (.slice s.a s.l s.c) :=by simpa [FS] using o3.outer.cell_ (j:=0) hsv (by decide)
  have f0:=o3.outer.dM 1;have HV:=Hid.aD hsv;have Et:=Hid.aD QZ;clear QZ;generalize ll[1]=l at hl0 Et hin;have hk0' : ((1 : Nat) : Int) < (ll.length : Int) :=by omega
  have Py : (1 : Int) < (ll.length : Int) :=by omega
  have hcd : fQ w3.drew g code:=hc3.drewN 1;have UF:=o3.keep (w':=w3.drew) (fun _ _=>rfl);have TK:=hin.keep (w':=w3.drew) (fun _ _=>rfl);have Sw : ∀b∈bT (.slice (some ⟨gz,0,none⟩) ll.length cap) t,b∉ [g]:=fun b hb hm=>by simp at hm;subst hm;have:=f1 b hb;omega
  have hsf : ∀b∈bq s.val,b∈bT (.slice (some ⟨gz,0,none⟩) ll.length cap) t:=fun b hb=>dw.2 (.inr ⟨s,XV HV.out,aS.1 hb⟩);have NU : gz∉ [g]:=by simp;omega
  clear hsv;go_wp2_with fail
  go_region_law (first| (refine jq Tryz.stLRow rfl (.tmp 31) (.tmp 35) rfl (v:=s.val) (y:= .slice (some ⟨w4.heap.size,0,none⟩) 1 1) (l:=l) (m:= [⟨hd, -1⟩]) (by simp [Act.eval,SV.val]) (by simp [Act.eval]) (TL.av _) (aX.lit gZ [⟨hd, -1⟩] #[.int .i64 hd, .int .i64 (-1)] rfl (by simp [maxLen]) w4 83).rd' (by simp;omega) ?_;intro v5 w5 qg hg5 pz;obtain⟨A5,c5,hv5,_⟩ :=qg.rd';simp only [XU,List.length_cons,List.length_nil] at hv5;subst hv5;have Jh:= ((bn.iD hg5).frozen gz 1 (by simp;omega) (o4.head_ne HV.out)).trans ((jm w4 _ gz 1 Q0).trans f4);have Ji:= ((bn.iD hg5).cell gz 1 (by simp;omega) (o4.head_ne HV.out)).trans ((lu w4 _ gz 1 Q0).trans p4)) | (go_simp;go_at_call 137;refine(yt _ g code hcd).mono ?_;rintro e w4 ⟨hd,rfl,hd0,hd1,hc4,hg4⟩;have TL:=TK.aM hg4 (fun b hb=>Sw b (hsf b hb));have o4:=UF.aM hg4 Sw;have p4:= (hg4.cell gz 1 hgz NU).trans p0;have f4:= (hg4.frozen gz 1 hgz NU).trans f0;have Q0 : gz<w4.heap.size:=XO hgz hg4.size))
  all_goals
   have hN:=dF.oU (s':= ⟨A5,l.length+ (0+1),c5⟩) (o4.av _) HV.out qg hg5 pz;have TM : bn [g] w3 w4:= ⟨hg4.os,hg4.tape,hg4.output,hg4.size,hg4.block⟩;have oq:=p9.trans TM;have hsz:=Et.out hd;simp only [XU,List.length_cons,List.length_nil] at hsz;have tq:=wX (B:=w.heap.size) (s':= ⟨A5,l.length+ (0+1),c5⟩) HV.out pz (by simp;have:=oq.size;omega) f1;have hbN : Below w.heap.size w4 (w5.setCell ⟨gz,1,none⟩ (.slice A5 (l.length+ (0+1)) c5)) := (((Below.refl _ _).alloc oq.size _).grown hg5 (by simp;have:=oq.size;omega) (fun b hb=>f1 b (hsf b (aS.2 hb)))).setCell Mq _;go_wp2_with fail;go_ret;exact⟨_,_,_,rfl,hN,by omega,tq,hc4.nJ hgl hbN oq.size,oq.jU hbN⟩
 have q2' : (x == 2) =false:=by simpa using q2
 by_cases q3 : x=3
 ·subst q3
  have hk0 : 2<ll.length:=by rw [H3.out];decide
  have hl0 : ll[2].length≤27:=XR (nX (X0 hk0)) hz;have hsz:=mq ll 2 (ll[2]++ [⟨0,0⟩]);obtain⟨s,hsv⟩ : ∃s,t[2]? =some s:= ⟨_,XL (by rw [o3.len];exact hk0)⟩;have hin:=o3.inner 2 s _ hsv (XL hk0);have p0 : w3.cell? ⟨gz,2,none⟩ =some (.slice s.a s.l s.c) :=by simpa [FS] using o3.outer.cell_ (j:=0) hsv (by decide)
  have f0:=o3.outer.dM 2;have HV:=Hid.aD hsv;generalize ll[2]=l at hl0 hsz hin;simp only [XU,List.length_cons,List.length_nil] at hsz;have hk0' : ((2 : Nat) : Int) < (ll.length : Int) :=by omega
  have Py : (2 : Int) < (ll.length : Int) :=by omega
  clear hsv;go_wp2_with (at_builtin;refine eP Tryz.stLRow rfl _ _ rfl (v:=s.val) (y:= .slice (some ⟨w3.heap.size,0,none⟩) 1 1) (l:=l) (m:= [⟨0,0⟩]) rfl rfl (hin.av _) (aX.lit gZ [⟨0,0⟩] #[.int .i64 0, .int .i64 0] rfl (by simp [maxLen]) w3 83).rd' (by simp;omega) ?_;intro v4 w4 rP hg4 qy;obtain⟨A4,c4,hv4,_⟩ :=rP.rd';simp only [XU,List.length_cons,List.length_nil] at hv4;subst hv4;have QV:= ((bn.iD hg4).frozen gz 2 (by simp;omega) (o3.head_ne HV.out)).trans ((jm w3 _ gz 2 hgz).trans f0);have QW:= ((bn.iD hg4).cell gz 2 (by simp;omega) (o3.head_ne HV.out)).trans ((lu w3 _ gz 2 hgz).trans p0));have hN:=dF.oU (s':= ⟨A4,l.length+ (0+1),c4⟩) (o3.av _) HV.out rP hg4 qy;have tq:=wX (B:=w.heap.size) (s':= ⟨A4,l.length+ (0+1),c4⟩) HV.out qy (by simp;have:=p9.size;omega) f1;have hbN : Below w.heap.size w3 (w4.setCell ⟨gz,2,none⟩ (.slice A4 (l.length+ (0+1)) c4)) := (((Below.refl _ _).alloc p9.size _).grown hg4 (by simp;have:=p9.size;omega) (fun b hb=>f1 b (dw.2 (.inr ⟨s,XV HV.out,hb⟩)))).setCell Mq _;go_ret;exact⟨_,_,_,rfl,hN,by omega,tq,hc3.nJ hgl hbN p9.size,p9.jU hbN⟩
 have q3' : (x == 3) =false:=by simpa using q3
 clear q0 q1 q2 q3;go_wp2_with fail;go_ret;exact⟨_,_,_,rfl,o3,by omega,f1,hc3,p9⟩
end Go.Proofs.YtkmggglljkmjoaaGreat.Lim
namespace Go.Proofs.YtkmggglljkmjoaaGreat.Clk
open Go.RowKit
open Go.Proofs.YtkmggglljkmjoaaGreat.Lim
def vJ : Clock:= ⟨0, [lV,lV,lV]⟩
theorem vP (w : World) : Calls Tryz.prog 210 #[] w fun e w'=> ∃H' : fV,e= .returned (H'.val vJ) ∧iO w' H' vJ∧ (∀g∈H'.foot,w.heap.size≤g) ∧Below w.heap.size w w':=by
 have hmk : ∀w, (Instr.makeSlice 32 (.int .i64 3) (.int .i64 3)).run Tryz.prog w= .ok (.slice (some ⟨w.heap.size,0,none⟩) 3 3) (w.alloc (.cells (madeCells #[.bool false, .int .i64 0, .bool false, .int .i64 0] (3 * iP.n)) 120)) :=lM (P:=Tryz.prog) iP 32 120 (.agg #[.bool false, .int .i64 0, .bool false, .int .i64 0]) 32 Tryz.underlying32 Tryz.infoPin 3 (by omega) (by omega);go_enter Tryz.func210,Tryz.ntmps210;go_wp2;have ho:=aX.made iP #[.bool false, .int .i64 0, .bool false, .int .i64 0] rfl 3 (by simp [maxLen]) (w.alloc (.cells #[.int .i64 0, .slice none 0 0] 34)) 120;refine bodyPost_ret (v:= .agg #[.int .i64 0, .slice (some ⟨w.heap.size+1,0,none⟩) 3 3]) (by simp [results,Tryz.results210,go_sem]) rfl ⟨⟨⟨some ⟨w.heap.size+1,0,none⟩,3,3⟩⟩,rfl, ⟨?_⟩, ?_, ?_⟩
 ·simp only [World.size_alloc] at ho
  refine ho.keep ?_;intro g hg;simp [Value.ownBlock] at hg;subst hg;have e : ∀o o2, ((w.alloc o).alloc o2).heap[w.heap.size+1]? =some o2:=fun o o2=>by
   have:=heap_alloc_new (w.alloc o) o2
   rwa [World.size_alloc] at this
  rw [e,e]
 ·simp [fV.foot,bq,Value.ownBlock,SV.val]
 ·repeat (first|exact Below.refl _ _|refine Below.alloc ?_ (by simp<;>omega) _|refine bA ?_ (by simp<;>omega) _ _|refine Below.drew ?_)
structure qC (x : Clock) : Prop where
 len : x.aK.length=3
 e0 : 0≤x.Epoch
 e1 : x.Epoch≤100000
theorem qC.new : qC vJ:= ⟨rfl,by decide,by decide⟩
theorem qC.R8 {x : Clock}(h : qC x)(a e : Int) : qC (mU x a e).1:=by
 unfold mU;split
 ·exact⟨by simpa using h.len,h.e0,h.e1⟩
 ·exact h
theorem qC.R9 {x : Clock}(h : qC x)(a : Int) : qC (p8 x a).1:=by
 unfold p8;split
 ·exact⟨by simpa using h.len,h.e0,h.e1⟩
 ·exact h
theorem qC.look {x : Clock}(h : qC x)(a e : Int) : qC (kZ x a e).1:=by
 unfold kZ;split
 ·split
  ·exact h
  ·split
   ·exact⟨by simpa using h.len,h.e0,h.e1⟩
   ·exact⟨by simpa using h.len,h.e0,h.e1⟩
 ·exact h
theorem qC.bump {x : Clock}(h : qC x)(e : Int) : qC (pq x e).1:=by
 unfold pq;split
 ·rename_i hc
  have:=h.e0;have:=h.e1;refine⟨h.len, ?_, ?_⟩
  ·show 0≤e+1
   omega
  ·show e+1≤100000
   omega
 ·exact h
def R_ (w : World)(g : Nat)(code : List Int)(e : Ending)(w' : World) : Prop:= ∃ (H : fV) (x : Clock),e= .returned (H.val x) ∧iO w' H x∧qC x∧ (∀b∈H.foot,w.heap.size≤b) ∧fQ w' g code∧bn [g] w w'
theorem KR (w : World)(g : Nat)(code : List Int)(hc : fQ w g code) : Calls Tryz.prog 176 #[.pointer (some ⟨g,0,none⟩)] w (R_ w g code) :=by
 have hgl:=hc.lt;go_enter Tryz.func176,Tryz.ntmps176;go_wp2_with fail;refine(vP _).mono ?_;rintro e w1 ⟨H1,rfl,o1,f1,hb1⟩;have hs1:=hb1.size;simp only [World.size_alloc] at hs1 f1;have Bo : bn [g] w w1:= (bn.refl [g] w).jU (((Below.refl _ w).alloc (XQ _) _).trans (hb1.mono (by simp)));have hc1 : fQ w1 g code:=hc.nJ hgl (((Below.refl _ w).alloc (XQ _) _).trans (hb1.mono (by simp))) (XQ _);have Oo : aJ w1 w.heap.size [.int .i64 0, .slice none 0 0]:= (aJ.new w #[.int .i64 0, .slice none 0 0] 34).below hb1;have hs0:=qC.new;have u1:=o1.lt;generalize vJ=x1 at *
 go_wp2_with fail;have EN : aJ (w1.alloc (.cells #[.int .i64 x1.Epoch, .slice H1.aK.a H1.aK.l H1.aK.c] 34)) w1.heap.size [.int .i64 x1.Epoch, .slice H1.aK.a H1.aK.l H1.aK.c]:=aJ.new _ _ _;have hc2:=hc1.alloc (.cells #[.int .i64 x1.Epoch, .slice H1.aK.a H1.aK.l H1.aK.c] 34);have hC2:=Bo.av (.cells #[.int .i64 x1.Epoch, .slice H1.aK.a H1.aK.l H1.aK.c] 34);have o2:=o1.av (.cells #[.int .i64 x1.Epoch, .slice H1.aK.a H1.aK.l H1.aK.c] 34);have JY:=Oo.alloc (.cells #[.int .i64 x1.Epoch, .slice H1.aK.a H1.aK.l H1.aK.c] 34);generalize hG : w1.alloc (.cells #[.int .i64 x1.Epoch, .slice H1.aK.a H1.aK.l H1.aK.c] 34) =w2 at hc2 hC2 EN JY o2⊢;clear hG hc1 Bo Oo;refine(bU _ g code 16 (by unfold dV;omega) hc2).mono ?_;rintro e w3 ⟨n0,rfl,Bl,NS,hc3,hg3⟩;obtain⟨m0,rfl⟩ :=XP Bl;obtain⟨ax,hax⟩ : ∃a,a=w1.heap.size:= ⟨_,rfl⟩;rw [←hax] at EN u1 hs1⊢;have nr : w.heap.size∉ [g]:=by simp;omega
 have nx : ax∉ [g]:=by simp;omega
 have p9:=hC2.trans hg3;have zZ:=EN.aM hg3 nx;have EO:=JY.aM hg3 nr;have o3:=o2.aM hg3 (fun b hb hm=>by simp at hm;subst hm;have:=f1 b hb;omega);have f3 : ∀b∈H1.foot,w.heap.size<b∧b≠ax:=fun b hb=>by have:=f1 b hb;have:=u1 b hb;omega
 have hlx : w.heap.size<ax:=by omega
 clear f1 u1 hax hs1 hc2 hC2 hg3 EN JY o2 o1 hb1;go_wp2_with fail;go_loopw [4] (fun i wr=> ∃ (k : Nat) (H : fV) (x : Clock),i= .int .i64 k∧k≤15∧aJ wr ax [.int .i64 x.Epoch, .slice H.aK.a H.aK.l H.aK.c]∧aJ wr w.heap.size [.int .i64 0, .slice none 0 0]∧iO wr H x∧qC x∧ (∀b∈H.foot,w.heap.size<b∧b≠ax) ∧fQ wr g code∧bn [g] w wr) (fun i _=> (intOf i).toNat)
 case atStart=>exact⟨m0,H1,x1,rfl,by omega,zZ,EO,o3,hs0,f3,hc3,p9⟩
 case round=>
  clear zZ EO o3 hs0 f3 hc3 p9;obtain⟨k,H,x,rfl,hk3,Bx,Br,oz,hs,fz,hcz,Bn⟩ :=hrel;have su:=Bx.cell 0 _ rfl;have sw:=Bx.cell 1 _ rfl;have fx:=Bx.dN;have zx:=Bx.lt;have qR:=Br.cell 0 _ rfl;have qU:=Br.cell 1 _ rfl;have fr:=Br.dN;have zr:=Br.lt;by_cases hk : 0<k
  case neg=>
   go_wp2_with fail;refine bodyPost_ret (v:=H.val x) (by simp [results,Tryz.results176,go_sem,qR,qU]) rfl ⟨H,x,rfl,oz.aM (F:= [w.heap.size]) dx (fun b hb hm=>by simp at hm;have:=fz b hb;omega),hs,fun b hb=>by have:=fz b hb;omega,hcz.nJ (B:=w.heap.size) hgl dU Bn.size,Bn.jU dU⟩
  clear qR qU fr zr;have hgx : ∀b∈H.foot,b∉ [g]:=fun b hb hm=>by simp at hm;subst hm;have:=fz b hb;omega
  go_wp2_with fail;refine(bU _ g code 3 (by unfold dV;omega) hcz).mono ?_;rintro e w3 ⟨a,rfl,a0,a1,hc3,hg3⟩;have zZ:=Bx.aM hg3 nx;have EO:=Br.aM hg3 nr;have o3:=oz.aM hg3 hgx;replace su:=zZ.cell 0 _ rfl;replace sw:=zZ.cell 1 _ rfl;replace fx:=zZ.dN;replace zx:=zZ.lt;have p9:=Bn.trans hg3;clear hcz hg3 Bx Br oz Bn;go_wp2_with fail;have Tm : aJ (w3.alloc (.cells #[.int .i64 x.Epoch, .slice H.aK.a H.aK.l H.aK.c] 34)) w3.heap.size [.int .i64 x.Epoch, .slice H.aK.a H.aK.l H.aK.c]:=aJ.new _ _ _;have Eb:=p9.size;refine(bU _ g code 6 (by unfold dV;omega) (hc3.alloc _)).mono ?_;rintro e w4 ⟨v,rfl,v0,v1,hc4,hg4⟩;have ny : w3.heap.size∉ [g]:=by simp;omega
  have BK : w3.heap.size≠ax:=by omega
  have Uc : ax≠w3.heap.size:=by omega
  have z_:=Tm.aM hg4 ny;have rT:= (zZ.alloc _).aM hg4 nx;have vK:= (EO.alloc _).aM hg4 nr;have o4:= (o3.av _).aM hg4 hgx;have oq:= (p9.av _).trans hg4;replace su:=rT.cell 0 _ rfl;replace sw:=rT.cell 1 _ rfl;replace fx:=rT.dN;replace zx:=rT.lt;have Vf:=oq.size;have hl3:=hs.len;have uy:=z_.lt;have ux:=rT.lt;have Vg:=EO.lt;obtain⟨ay,Tn⟩ : ∃a,a=w3.heap.size:= ⟨_,rfl⟩;rw [←Tn] at z_ BK Uc ny uy Eb Vg⊢;clear Tn zZ EO o3 p9 hc3 Tm hg4;have hl4 : x.aK.length≤1073741824:=by omega
  clear hl3;by_cases q0 : v=0
  ·subst q0
   go_wp2_with fail;refine(zm _ H x a x.Epoch o4.rd' hl4).mono ?_;rintro e w5 ⟨H5,rfl,o5,f5,hb5⟩;have hs5:=hs.R8 a x.Epoch;generalize (mU x a x.Epoch).1=x5 at *
   have qM:=z_.below hb5;have n_:=rT.below hb5;have xU:=vK.below hb5;have sZ:=hc4.up hb5;have mI:=oq.trans (bn.of_below hb5);have LH:=hb5.size;have EP:=mI.size;clear z_ rT vK o4 hc4 oq hb5;replace su:=n_.cell 0 _ rfl;replace sw:=n_.cell 1 _ rfl;replace fx:=n_.dN;replace zx:=n_.lt;have P5:=qM.cell 0 _ rfl;have P6:=qM.cell 1 _ rfl;have fy:=qM.dN;have zy:=qM.lt;go_wp2_with fail;go_roundw
   case rel=>exact⟨k - 1,H5,x5,by go_num,by omega, ((((n_.other BK _).other BK _).set 0 _).set 1 _), ((((xU.other (by omega) _).other (by omega) _).other (by omega) _).other (by omega) _),o5.aM (F:= [ax,ay]) dx (fun b hb hm=>by simp at hm;have:=f5 b hb;omega),hs5,fun b hb=>by have:=f5 b hb;omega,sZ.nJ (B:=w.heap.size) hgl dU EP,mI.jU dU⟩
   case measure=>simp [intOf];omega
  by_cases q1 : v=1
  ·subst q1
   go_wp2_with fail;refine(Em _ H x a o4.rd' hl4).mono ?_;rintro e w5 ⟨H5,rfl,o5,f5,hb5⟩;have hs5:=hs.R9 a;generalize (p8 x a).1=x5 at *
   have qM:=z_.below hb5;have n_:=rT.below hb5;have xU:=vK.below hb5;have sZ:=hc4.up hb5;have mI:=oq.trans (bn.of_below hb5);have LH:=hb5.size;have EP:=mI.size;clear z_ rT vK o4 hc4 oq hb5;replace su:=n_.cell 0 _ rfl;replace sw:=n_.cell 1 _ rfl;replace fx:=n_.dN;replace zx:=n_.lt;have P5:=qM.cell 0 _ rfl;have P6:=qM.cell 1 _ rfl;have fy:=qM.dN;have zy:=qM.lt;go_wp2_with fail;go_roundw
   case rel=>exact⟨k - 1,H5,x5,by go_num,by omega, ((((n_.other BK _).other BK _).set 0 _).set 1 _), ((((xU.other (by omega) _).other (by omega) _).other (by omega) _).other (by omega) _),o5.aM (F:= [ax,ay]) dx (fun b hb hm=>by simp at hm;have:=f5 b hb;omega),hs5,fun b hb=>by have:=f5 b hb;omega,sZ.nJ (B:=w.heap.size) hgl dU EP,mI.jU dU⟩
   case measure=>simp [intOf];omega
  by_cases q2 : v=2
  ·subst q2
   go_wp2_with fail;refine(sj _ H x a x.Epoch o4.rd' hl4).mono ?_;rintro e w5 ⟨H5,rfl,o5,f5,hb5⟩;have hs5:=hs.look a x.Epoch;generalize (kZ x a x.Epoch).1=x5 at *
   have qM:=z_.below hb5;have n_:=rT.below hb5;have xU:=vK.below hb5;have sZ:=hc4.up hb5;have mI:=oq.trans (bn.of_below hb5);have LH:=hb5.size;have EP:=mI.size;clear z_ rT vK o4 hc4 oq hb5;replace su:=n_.cell 0 _ rfl;replace sw:=n_.cell 1 _ rfl;replace fx:=n_.dN;replace zx:=n_.lt;have P5:=qM.cell 0 _ rfl;have P6:=qM.cell 1 _ rfl;have fy:=qM.dN;have zy:=qM.lt;go_wp2_with fail;go_roundw
   case rel=>exact⟨k - 1,H5,x5,by go_num,by omega, ((((n_.other BK _).other BK _).set 0 _).set 1 _), ((((xU.other (by omega) _).other (by omega) _).other (by omega) _).other (by omega) _),o5.aM (F:= [ax,ay]) dx (fun b hb hm=>by simp at hm;have:=f5 b hb;omega),hs5,fun b hb=>by have:=f5 b hb;omega,sZ.nJ (B:=w.heap.size) hgl dU EP,mI.jU dU⟩
   case measure=>simp [intOf];omega
  by_cases q3 : v=3
  ·subst q3
   go_wp2_with fail;refine(sj _ H x a x.Epoch o4.rd' hl4).mono ?_;rintro e w5 ⟨H5,rfl,o5,f5,hb5⟩;have hs5:=hs.look a x.Epoch;generalize (kZ x a x.Epoch).1=x5 at *
   have qM:=z_.below hb5;have n_:=rT.below hb5;have xU:=vK.below hb5;have sZ:=hc4.up hb5;have mI:=oq.trans (bn.of_below hb5);have LH:=hb5.size;have EP:=mI.size;clear z_ rT vK o4 hc4 oq hb5;replace su:=n_.cell 0 _ rfl;replace sw:=n_.cell 1 _ rfl;replace fx:=n_.dN;replace zx:=n_.lt;have P5:=qM.cell 0 _ rfl;have P6:=qM.cell 1 _ rfl;have fy:=qM.dN;have zy:=qM.lt;go_wp2_with fail;go_roundw
   case rel=>exact⟨k - 1,H5,x5,by go_num,by omega, ((((n_.other BK _).other BK _).set 0 _).set 1 _), ((((xU.other (by omega) _).other (by omega) _).other (by omega) _).other (by omega) _),o5.aM (F:= [ax,ay]) dx (fun b hb hm=>by simp at hm;have:=f5 b hb;omega),hs5,fun b hb=>by have:=f5 b hb;omega,sZ.nJ (B:=w.heap.size) hgl dU EP,mI.jU dU⟩
   case measure=>simp [intOf];omega
  have Ud : dV x.Epoch:=by have:=hs.e0;have:=hs.e1;unfold dV;omega
  go_wp2_with fail;refine(Bg _ H x x.Epoch Ud o4.rd' hl4).mono ?_;rintro e w5 ⟨H5,rfl,o5,f5,hb5⟩;have hs5:=hs.bump x.Epoch;generalize (pq x x.Epoch).1=x5 at *
  have qM:=z_.below hb5;have n_:=rT.below hb5;have xU:=vK.below hb5;have sZ:=hc4.up hb5;have mI:=oq.trans (bn.of_below hb5);have LH:=hb5.size;have EP:=mI.size;clear z_ rT vK o4 hc4 oq hb5;replace su:=n_.cell 0 _ rfl;replace sw:=n_.cell 1 _ rfl;replace fx:=n_.dN;replace zx:=n_.lt;have P5:=qM.cell 0 _ rfl;have P6:=qM.cell 1 _ rfl;have fy:=qM.dN;have zy:=qM.lt;go_wp2_with fail;go_roundw
  case rel=>exact⟨k - 1,H5,x5,by go_num,by omega, ((((n_.other BK _).other BK _).set 0 _).set 1 _), ((((xU.other (by omega) _).other (by omega) _).other (by omega) _).other (by omega) _),o5.aM (F:= [ax,ay]) dx (fun b hb hm=>by simp at hm;have:=f5 b hb;omega),hs5,fun b hb=>by have:=f5 b hb;omega,sZ.nJ (B:=w.heap.size) hgl dU EP,mI.jU dU⟩
  case measure=>simp [intOf];omega
structure RG (x : Clock) : Prop where
 len : x.aK.length≤3
 e0 : -1≤x.Epoch
 e1 : x.Epoch≤100001
theorem qC.any {x : Clock}(h : qC x) : RG x:= ⟨by rw [h.len];decide,by have:=h.e0;omega,by have:=h.e1;omega⟩
def RH (w : World)(g : Nat)(code : List Int)(e : Ending)(w' : World) : Prop:= ∃ (H : fV) (x : Clock),e= .returned (H.val x) ∧iO w' H x∧RG x∧ (∀b∈H.foot,w.heap.size≤b) ∧fQ w' g code∧bn [g] w w'
theorem Oq (w : World)(g : Nat)(code : List Int)(hc : fQ w g code) : Calls Tryz.prog 116 #[.pointer (some ⟨g,0,none⟩)] w (RH w g code) :=by
 have hgl:=hc.lt;go_enter Tryz.func116,Tryz.ntmps116;go_wp2_with fail;refine(KR _ g code (hc.alloc _)).mono ?_;rintro e w1 ⟨H,x,rfl,o1,hs,f1,hc1,Bo⟩;have hs1:=Bo.size;simp only [World.size_alloc] at hs1 f1;have hw1 : bn [g] w w1:=Bo.uX;have nr : w.heap.size∉ [g]:=by simp;omega
 have Oo : aJ w1 w.heap.size [.int .i64 0, .slice none 0 0]:= (aJ.new w #[.int .i64 0, .slice none 0 0] 34).aM Bo nr;have u1:=o1.lt;have LK : ∀b∈H.foot,w.heap.size<b∧b<w1.heap.size:=fun b hb=>by have:=f1 b hb;have:=u1 b hb;omega
 clear Bo u1 f1;go_wp2_with fail;have EN : aJ (w1.alloc (.cells #[.int .i64 x.Epoch, .slice H.aK.a H.aK.l H.aK.c] 34)) w1.heap.size [.int .i64 x.Epoch, .slice H.aK.a H.aK.l H.aK.c]:=aJ.new _ _ _;have hc2:=hc1.alloc (.cells #[.int .i64 x.Epoch, .slice H.aK.a H.aK.l H.aK.c] 34);have hC2:=hw1.av (.cells #[.int .i64 x.Epoch, .slice H.aK.a H.aK.l H.aK.c] 34);have o2:=o1.av (.cells #[.int .i64 x.Epoch, .slice H.aK.a H.aK.l H.aK.c] 34);have JY:=Oo.alloc (.cells #[.int .i64 x.Epoch, .slice H.aK.a H.aK.l H.aK.c] 34);generalize hG : w1.alloc (.cells #[.int .i64 x.Epoch, .slice H.aK.a H.aK.l H.aK.c] 34) =w2 at hc2 hC2 EN JY o2⊢;clear hG hc1 hw1 Oo o1;obtain⟨ax,hax⟩ : ∃a,a=w1.heap.size:= ⟨_,rfl⟩;rw [←hax] at EN LK hs1⊢;clear hax;have nx : ax∉ [g]:=by simp;omega
 have hgx : ∀b∈H.foot,b∉ [g]:=fun b hb hm=>by simp at hm;subst hm;have:=LK b hb;omega
 refine(bU _ g code 3 (by unfold dV;omega) hc2).mono ?_;rintro e w3 ⟨k0,rfl,ka,kb,hc3,hg3⟩;have p9:=hC2.trans hg3;have zZ:=EN.aM hg3 nx;have EO:=JY.aM hg3 nr;have o3:=o2.aM hg3 hgx;clear hc2 hC2 hg3 EN JY o2;go_wp2_with fail;refine(bU _ g code 24 (by unfold dV;omega) hc3).mono ?_;rintro e w4 ⟨v,rfl,v0,v1,hc4,hg4⟩;have oq:=p9.trans hg4;have rT:=zZ.aM hg4 nx;have vK:=EO.aM hg4 nr;have o4:=o3.aM hg4 hgx;clear hc3 p9 hg4 zZ EO o3;have su:=rT.cell 0 _ rfl;have sw:=rT.cell 1 _ rfl;have fx:=rT.dN;have zx:=rT.lt;have qR:=vK.cell 0 _ rfl;have qU:=vK.cell 1 _ rfl;have fr:=vK.dN;have zr:=vK.lt;have Vf:=oq.size;obtain⟨k,rfl⟩ :=XP ka;have hk3 : k<3:=by omega
 clear ka kb;by_cases q0 : v=0
 ·subst q0
  go_wp2_with fail;have ho:=aX.lit FI [-1,100000,100001] #[.int .i64 (-1), .int .i64 100000, .int .i64 100001] rfl (by decide) w4 3;refine(q8 _ g code _ [-1,100000,100001] ho (by simp [bq,Value.ownBlock];omega) (by decide) (by decide) (hc4.alloc _)).mono ?_;rintro e w5 ⟨y,rfl,hy,sZ,hg5⟩;have JZ:=hg5.uX;have mI:=oq.trans JZ;have n_:=rT.aM JZ nx;have xU:=vK.aM JZ nr;have o5:=o4.aM JZ hgx;have LH:=mI.size;clear hc4 hg5 JZ oq rT vK o4;replace su:=n_.cell 0 _ rfl;replace sw:=n_.cell 1 _ rfl;replace fx:=n_.dN;replace zx:=n_.lt;replace qR:=xU.cell 0 _ rfl;replace qU:=xU.cell 1 _ rfl;replace fr:=xU.dN;replace zr:=xU.lt;have hyb : -1≤y∧y≤100001:=by simp at hy;omega
  clear hy;go_wp2_with fail;refine bodyPost_ret (v:=H.val (⟨y,x.aK⟩ : Clock)) (by simp [results,Tryz.results116,go_sem,qR,qU]) rfl ⟨H, (⟨y,x.aK⟩ : Clock),rfl, ⟨o5.aK.aM (F:= [ax,w.heap.size]) dx (fun b hb hm=>by simp at hm;have:=LK b hb;omega)⟩, ⟨by rw [hs.len];decide,hyb.1,hyb.2⟩,fun b hb=>by have:=LK b hb;omega,sZ.nJ (B:=w.heap.size) hgl dU mI.size,mI.jU dU⟩
 obtain⟨gp,cap,hv,XF⟩ :=o4.aK.jf (by rw [hs.len];decide);have hS:=hs;obtain⟨⟨pa,pn,pc⟩⟩ :=H;obtain⟨ep,l⟩ :=x;simp only [SV.val,Ya] at hv;obtain⟨rfl,rfl,rfl⟩ :=hv;have hl3 : l.length=3:=hs.len;have hkl : k<l.length:=by omega
 have hov : aX iP 120 w4 (.slice (some ⟨gp,0,none⟩) l.length pc) l:=o4.aK;have hfp:=LK gp (by simp [fV.foot,bq,Value.ownBlock,SV.val]);have hcap : l.length≤pc:=by
  obtain⟨_,_,hvv,q1,_⟩ :=hov.rd';injection hvv with _ _ e3;omega
 have LM:=Hid.aD hl3;have e0 : 0≤ep:=hs.e0;have e1 : ep≤100000:=hs.e1;have XG : ¬ gp=ax:=by omega
 have WB : ¬ ax=gp:=by omega
 have XH : ¬ gp=w.heap.size:=by omega
 have WC : ¬ w.heap.size=gp:=by omega
 have hfo : ∀n c, (⟨⟨some ⟨gp,0,none⟩,n,c⟩⟩ : fV).foot= [gp]:=fun n c=>by simp [fV.foot,bq,Value.ownBlock,SV.val]
 replace LK : ∀b,b=gp→w.heap.size<b∧b<ax:=fun b hb=>by subst hb;omega
 clear hl3;by_cases q1 : v=1
 ·subst q1
  have hkc : k≤pc:=by omega
  go_wp2_with fail;refine bodyPost_ret (v:= (⟨⟨some ⟨gp,0,none⟩,k,pc⟩⟩ : fV).val ⟨ep,l.take k⟩) (by simp [results,Tryz.results116,go_sem,qR,qU]) rfl ⟨⟨⟨some ⟨gp,0,none⟩,k,pc⟩⟩, ⟨ep,l.take k⟩,rfl, ⟨(hov.Cc (i:=k) (show k≤l.length by omega)).aM (F:= [ax,w.heap.size]) dx (fun b hb hm=>by simp at hm;simp [bq,Value.ownBlock,SV.val] at hb;omega)⟩, ⟨by have:=LM.out;simp;omega,by simp only;omega,by simp only;omega⟩,fun b hb=>by rw [hfo] at hb;simp at hb;omega,hc4.nJ (B:=w.heap.size) hgl dU oq.size,oq.jU dU⟩
 obtain⟨p,hp⟩ : ∃p,l[k]? =some p:= ⟨_,XL hkl⟩;have HX:=Hid.aD hp;clear hp;have x0 : w4.cell? ⟨gp,k * 4,none⟩ =some (.bool p.On) :=hov.cell_ (j:=0) HX.out (by decide);have xf0:=hov.dM (k * 4);have x1 : w4.cell? ⟨gp,k * 4+1,none⟩ =some (.int .i64 p.Epoch) :=hov.cell_ (j:=1) HX.out (by decide);have xf1:=hov.dM (k * 4+1);have x2 : w4.cell? ⟨gp,k * 4+2,none⟩ =some (.bool p.Marked) :=hov.cell_ (j:=2) HX.out (by decide);have Ja:=hov.dM (k * 4+2);have x3 : w4.cell? ⟨gp,k * 4+3,none⟩ =some (.int .i64 p.Seen) :=hov.cell_ (j:=3) HX.out (by decide);have Jb:=hov.dM (k * 4+3);by_cases q2 : v=2
 ·subst q2
  go_wp2_with fail;have s0:=hov.dG (k:=k) (j:=0) (y:= (⟨false,p.Epoch,p.Marked,p.Seen⟩ : Pin)) (u:= .bool false) HX.out (by decide) rfl;have s1:=s0.dG (k:=k) (j:=1) (y:= (⟨false,1,p.Marked,p.Seen⟩ : Pin)) (u:= .int .i64 1) (g_ (⟨false,p.Epoch,p.Marked,p.Seen⟩ : Pin) HX.out) (by decide) rfl;have s2:=s1.dG (k:=k) (j:=2) (y:= (⟨false,1,false,p.Seen⟩ : Pin)) (u:= .bool false) (g_ (⟨false,1,p.Marked,p.Seen⟩ : Pin) (g_ (⟨false,p.Epoch,p.Marked,p.Seen⟩ : Pin) HX.out)) (by decide) rfl;have s3:=s2.dG (k:=k) (j:=3) (y:= (⟨false,1,false,0⟩ : Pin)) (u:= .int .i64 0) (g_ (⟨false,1,false,p.Seen⟩ : Pin) (g_ (⟨false,1,p.Marked,p.Seen⟩ : Pin) (g_ (⟨false,p.Epoch,p.Marked,p.Seen⟩ : Pin) HX.out))) (by decide) rfl;simp only [List.set_set] at s3;refine bodyPost_ret (v:= (⟨⟨some ⟨gp,0,none⟩,l.length,pc⟩⟩ : fV).val ⟨ep,l.set k ⟨false,1,false,0⟩⟩) (by simp [results,Tryz.results116,go_sem,qR,qU]) rfl ⟨⟨⟨some ⟨gp,0,none⟩,l.length,pc⟩⟩, ⟨ep,l.set k ⟨false,1,false,0⟩⟩,rfl, ⟨aX.eY (aX.eY s3 (fun hm=>by simp [bq,Value.ownBlock] at hm;omega)) (fun hm=>by simp [bq,Value.ownBlock] at hm;omega)⟩, ⟨by have:=LM.out;simp;omega,by simp only;omega,by simp only;omega⟩,fun b hb=>by rw [hfo] at hb;simp at hb;omega,hc4.nJ (B:=w.heap.size) hgl dU oq.size,oq.jU dU⟩
 by_cases q3 : v=3
 ·subst q3
  go_wp2_with fail;have s0:=hov.dG (k:=k) (j:=0) (y:= (⟨true,p.Epoch,p.Marked,p.Seen⟩ : Pin)) (u:= .bool true) HX.out (by decide) rfl;have s1:=s0.dG (k:=k) (j:=1) (y:= (⟨true, (ep+1),p.Marked,p.Seen⟩ : Pin)) (u:= .int .i64 (ep+1)) (g_ (⟨true,p.Epoch,p.Marked,p.Seen⟩ : Pin) HX.out) (by decide) rfl;have s2:=s1.dG (k:=k) (j:=2) (y:= (⟨true, (ep+1),false,p.Seen⟩ : Pin)) (u:= .bool false) (g_ (⟨true, (ep+1),p.Marked,p.Seen⟩ : Pin) (g_ (⟨true,p.Epoch,p.Marked,p.Seen⟩ : Pin) HX.out)) (by decide) rfl;have s3:=s2.dG (k:=k) (j:=3) (y:= (⟨true, (ep+1),false,0⟩ : Pin)) (u:= .int .i64 0) (g_ (⟨true, (ep+1),false,p.Seen⟩ : Pin) (g_ (⟨true, (ep+1),p.Marked,p.Seen⟩ : Pin) (g_ (⟨true,p.Epoch,p.Marked,p.Seen⟩ : Pin) HX.out))) (by decide) rfl;simp only [List.set_set] at s3;refine bodyPost_ret (v:= (⟨⟨some ⟨gp,0,none⟩,l.length,pc⟩⟩ : fV).val ⟨ep,l.set k ⟨true, (ep+1),false,0⟩⟩) (by simp [results,Tryz.results116,go_sem,qR,qU]) rfl ⟨⟨⟨some ⟨gp,0,none⟩,l.length,pc⟩⟩, ⟨ep,l.set k ⟨true, (ep+1),false,0⟩⟩,rfl, ⟨aX.eY (aX.eY s3 (fun hm=>by simp [bq,Value.ownBlock] at hm;omega)) (fun hm=>by simp [bq,Value.ownBlock] at hm;omega)⟩, ⟨by have:=LM.out;simp;omega,by simp only;omega,by simp only;omega⟩,fun b hb=>by rw [hfo] at hb;simp at hb;omega,hc4.nJ (B:=w.heap.size) hgl dU oq.size,oq.jU dU⟩
 by_cases q4 : v=4
 ·subst q4
  go_wp2_with fail;have s0:=hov.dG (k:=k) (j:=0) (y:= (⟨true,p.Epoch,p.Marked,p.Seen⟩ : Pin)) (u:= .bool true) HX.out (by decide) rfl;have s1:=s0.dG (k:=k) (j:=1) (y:= (⟨true,0,p.Marked,p.Seen⟩ : Pin)) (u:= .int .i64 0) (g_ (⟨true,p.Epoch,p.Marked,p.Seen⟩ : Pin) HX.out) (by decide) rfl;have s2:=s1.dG (k:=k) (j:=2) (y:= (⟨true,0,false,p.Seen⟩ : Pin)) (u:= .bool false) (g_ (⟨true,0,p.Marked,p.Seen⟩ : Pin) (g_ (⟨true,p.Epoch,p.Marked,p.Seen⟩ : Pin) HX.out)) (by decide) rfl;have s3:=s2.dG (k:=k) (j:=3) (y:= (⟨true,0,false,3⟩ : Pin)) (u:= .int .i64 3) (g_ (⟨true,0,false,p.Seen⟩ : Pin) (g_ (⟨true,0,p.Marked,p.Seen⟩ : Pin) (g_ (⟨true,p.Epoch,p.Marked,p.Seen⟩ : Pin) HX.out))) (by decide) rfl;simp only [List.set_set] at s3;refine bodyPost_ret (v:= (⟨⟨some ⟨gp,0,none⟩,l.length,pc⟩⟩ : fV).val ⟨ep,l.set k ⟨true,0,false,3⟩⟩) (by simp [results,Tryz.results116,go_sem,qR,qU]) rfl ⟨⟨⟨some ⟨gp,0,none⟩,l.length,pc⟩⟩, ⟨ep,l.set k ⟨true,0,false,3⟩⟩,rfl, ⟨aX.eY (aX.eY s3 (fun hm=>by simp [bq,Value.ownBlock] at hm;omega)) (fun hm=>by simp [bq,Value.ownBlock] at hm;omega)⟩, ⟨by have:=LM.out;simp;omega,by simp only;omega,by simp only;omega⟩,fun b hb=>by rw [hfo] at hb;simp at hb;omega,hc4.nJ (B:=w.heap.size) hgl dU oq.size,oq.jU dU⟩
 by_cases q5 : v=5
 ·subst q5
  go_wp2_with fail;have s0:=hov.dG (k:=k) (j:=0) (y:= (⟨true,p.Epoch,p.Marked,p.Seen⟩ : Pin)) (u:= .bool true) HX.out (by decide) rfl;have s1:=s0.dG (k:=k) (j:=1) (y:= (⟨true,0,p.Marked,p.Seen⟩ : Pin)) (u:= .int .i64 0) (g_ (⟨true,p.Epoch,p.Marked,p.Seen⟩ : Pin) HX.out) (by decide) rfl;have s2:=s1.dG (k:=k) (j:=2) (y:= (⟨true,0,true,p.Seen⟩ : Pin)) (u:= .bool true) (g_ (⟨true,0,p.Marked,p.Seen⟩ : Pin) (g_ (⟨true,p.Epoch,p.Marked,p.Seen⟩ : Pin) HX.out)) (by decide) rfl;have s3:=s2.dG (k:=k) (j:=3) (y:= (⟨true,0,true,0⟩ : Pin)) (u:= .int .i64 0) (g_ (⟨true,0,true,p.Seen⟩ : Pin) (g_ (⟨true,0,p.Marked,p.Seen⟩ : Pin) (g_ (⟨true,p.Epoch,p.Marked,p.Seen⟩ : Pin) HX.out))) (by decide) rfl;simp only [List.set_set] at s3;refine bodyPost_ret (v:= (⟨⟨some ⟨gp,0,none⟩,l.length,pc⟩⟩ : fV).val ⟨ep,l.set k ⟨true,0,true,0⟩⟩) (by simp [results,Tryz.results116,go_sem,qR,qU]) rfl ⟨⟨⟨some ⟨gp,0,none⟩,l.length,pc⟩⟩, ⟨ep,l.set k ⟨true,0,true,0⟩⟩,rfl, ⟨aX.eY (aX.eY s3 (fun hm=>by simp [bq,Value.ownBlock] at hm;omega)) (fun hm=>by simp [bq,Value.ownBlock] at hm;omega)⟩, ⟨by have:=LM.out;simp;omega,by simp only;omega,by simp only;omega⟩,fun b hb=>by rw [hfo] at hb;simp at hb;omega,hc4.nJ (B:=w.heap.size) hgl dU oq.size,oq.jU dU⟩
 go_wp2_with fail;refine bodyPost_ret (v:= (⟨⟨some ⟨gp,0,none⟩,l.length,pc⟩⟩ : fV).val ⟨ep,l⟩) (by simp [results,Tryz.results116,go_sem,qR,qU]) rfl ⟨⟨⟨some ⟨gp,0,none⟩,l.length,pc⟩⟩, ⟨ep,l⟩,rfl, ⟨hov.aM (F:= [w.heap.size]) dx (fun b hb hm=>by simp at hm;simp [bq,Value.ownBlock,SV.val] at hb;omega)⟩, ⟨by have:=LM.out;simp;omega,by simp only;omega,by simp only;omega⟩,fun b hb=>by rw [hfo] at hb;simp at hb;omega,hc4.nJ (B:=w.heap.size) hgl dU oq.size,oq.jU dU⟩
end Go.Proofs.YtkmggglljkmjoaaGreat.Clk
namespace Go.Proofs.YtkmggglljkmjoaaGreat
open Go.RowKit
def pI : Base:= ⟨w_,vJ, [[], [], []], [0,0,0]⟩
theorem CV (w : World) : Calls Tryz.prog 192 #[] w fun e w'=> ∃H' : bV,e= .returned (H'.val w_) ∧fq w' H' w_∧ (∀g∈H'.foot,w.heap.size≤g) ∧Below w.heap.size w w':=by
 obtain⟨w0,hW0⟩ : ∃x,x= (w.alloc (.cells #[.slice none 0 0, .slice none 0 0, .slice none 0 0, .slice none 0 0] 31)) := ⟨_,rfl⟩;have aj : aJ w0 (w.heap.size) [.slice none 0 0, .slice none 0 0, .slice none 0 0, .slice none 0 0]:=by
  rw [hW0];exact aJ.nw
 have hB : Below w.heap.size w w0:=by
  rw [hW0];exact cO
 go_enter Tryz.func192,Tryz.ntmps192;go_wp2_with fail;rw [←hW0];clear hW0;have kL:=aj.lt;obtain⟨ak,au,aV,aW,aH,aR⟩ :=aj.f4;refine(BA _).mono ?_;rintro e w1 ⟨Hh,rfl,dA,jo,hb⟩;have iB:=dA.lt;replace aj:=aj.below hb;replace hB:=hB.trans (hb.mono hB.size);have sz:=hb.size;clear hb;clear ak au aV aW aH aR;obtain⟨ak,au,aV,aW,aH,aR⟩ :=aj.f4;go_wp2_with fail;refine(zT _).mono ?_;rintro e w2 ⟨Hl,rfl,dD,m_,hb⟩;have mJ:=dD.lt;replace aj:=aj.below hb;have dA:=dA.step0 hb;replace hB:=hB.trans (hb.mono hB.size);have sz:=hb.size;clear hb;clear ak au aV aW aH aR;obtain⟨ak,au,aV,aW,aH,aR⟩ :=aj.f4;go_wp2_with fail;refine bodyPost_ret (v:= (⟨Hh,Hl⟩ : bV).val w_) (by simp [results,Tryz.results192,go_sem,ak,au,aV,aW]) rfl ⟨⟨Hh,Hl⟩,rfl, ⟨dA.aM (F:= [w.heap.size]) dx (fun g hg hm=>by simp only [Pe,Pd,XK] at hm;have:=jo g hg;have:=iB g hg;omega),dD.aM (F:= [w.heap.size]) dx (fun g hg hm=>by simp only [Pe,Pd,XK] at hm;have:=m_ g hg;have:=mJ g hg;omega),fun b hb hm=>by have:=m_ b hm;have:=iB b hb;omega⟩,fun b hb=>by rcases bV.aI.1 hb with hb|hb; (have:=jo b hb;omega); (have:=m_ b hb;omega),Below.trans hB dU⟩
theorem JH (w : World) : Calls Tryz.prog 170 #[] w fun e w'=> ∃H' : aA,e= .returned (H'.val pI) ∧dz w' H' pI∧ (∀g∈H'.foot,w.heap.size≤g) ∧Below w.heap.size w w':=by
 obtain⟨w0,hW0⟩ : ∃x,x= (w.alloc (.cells #[.slice none 0 0, .slice none 0 0, .slice none 0 0, .slice none 0 0, .int .i64 0, .slice none 0 0, .slice none 0 0, .slice none 0 0] 37)) := ⟨_,rfl⟩;have aj : aJ w0 (w.heap.size) [.slice none 0 0, .slice none 0 0, .slice none 0 0, .slice none 0 0, .int .i64 0, .slice none 0 0, .slice none 0 0, .slice none 0 0]:=by
  rw [hW0];exact aJ.nw
 have hB : Below w.heap.size w w0:=by
  rw [hW0];exact cO
 go_enter Tryz.func170,Tryz.ntmps170;go_wp2_with fail;rw [←hW0];clear hW0;have kL:=aj.lt;have ak:=aj.cell 0 _ rfl;have au:=aj.cell 1 _ rfl;have aV:=aj.cell 2 _ rfl;have aW:=aj.cell 3 _ rfl;have EF:=aj.cell 4 _ rfl;have EG:=aj.cell 5 _ rfl;have EH:=aj.cell 6 _ rfl;have EI:=aj.cell 7 _ rfl;have aH:=aj.dN;have aR:=aj.lt;refine(CV _).mono ?_;rintro e w1 ⟨Hm,rfl,fZ,ru,hb⟩;have mK:=fZ.lt;replace aj:=aj.below hb;replace hB:=hB.trans (hb.mono hB.size);have sz:=hb.size;clear hb;replace ak:=aj.cell 0 _ rfl;replace au:=aj.cell 1 _ rfl;replace aV:=aj.cell 2 _ rfl;replace aW:=aj.cell 3 _ rfl;replace EF:=aj.cell 4 _ rfl;replace EG:=aj.cell 5 _ rfl;replace EH:=aj.cell 6 _ rfl;replace EI:=aj.cell 7 _ rfl;replace aH:=aj.dN;replace aR:=aj.lt;go_wp2_with fail;refine(vP _).mono ?_;rintro e w2 ⟨Hc,rfl,bB,l_c,hb⟩;have u_c:=bB.lt;replace aj:=aj.below hb;have fZ:=fZ.step0 hb;replace hB:=hB.trans (hb.mono hB.size);have sz:=hb.size;clear hb;replace ak:=aj.cell 0 _ rfl;replace au:=aj.cell 1 _ rfl;replace aV:=aj.cell 2 _ rfl;replace aW:=aj.cell 3 _ rfl;replace EF:=aj.cell 4 _ rfl;replace EG:=aj.cell 5 _ rfl;replace EH:=aj.cell 6 _ rfl;replace EI:=aj.cell 7 _ rfl;replace aH:=aj.dN;replace aR:=aj.lt;go_wp2_with fail;refine(vO _).mono ?_;rintro e w3 ⟨vl,tl,rfl,Ob,PU,hb⟩;have Tf:=Ob.lt;replace aj:=aj.below hb;replace fZ:=fZ.step0 hb;have bB:=bB.step0 hb;replace hB:=hB.trans (hb.mono hB.size);have sz:=hb.size;clear hb;replace ak:=aj.cell 0 _ rfl;replace au:=aj.cell 1 _ rfl;replace aV:=aj.cell 2 _ rfl;replace aW:=aj.cell 3 _ rfl;replace EF:=aj.cell 4 _ rfl;replace EG:=aj.cell 5 _ rfl;replace EH:=aj.cell 6 _ rfl;replace EI:=aj.cell 7 _ rfl;replace aH:=aj.dN;replace aR:=aj.lt;obtain⟨Al,nl,cl,rfl⟩ : ∃A n c,vl= .slice A n c:=by
  obtain⟨A,c,h,_⟩ :=Ob.rd'.outer;exact⟨_,_,_,h⟩
 go_wp2_with fail;refine(yu _).mono ?_;rintro e w4 ⟨vh,rfl,uF,Gu,hb⟩;have zX:=dQ uF;replace aj:=aj.below hb;replace fZ:=fZ.step0 hb;replace bB:=bB.step0 hb;have Ob:=Ob.step0 hb;replace hB:=hB.trans (hb.mono hB.size);have sz:=hb.size;clear hb;replace ak:=aj.cell 0 _ rfl;replace au:=aj.cell 1 _ rfl;replace aV:=aj.cell 2 _ rfl;replace aW:=aj.cell 3 _ rfl;replace EF:=aj.cell 4 _ rfl;replace EG:=aj.cell 5 _ rfl;replace EH:=aj.cell 6 _ rfl;replace EI:=aj.cell 7 _ rfl;replace aH:=aj.dN;replace aR:=aj.lt;obtain⟨Az,nz,cz,rfl⟩ : ∃A n c,vh= .slice A n c:=by
  obtain⟨A,c,h,_⟩ :=uF.rd';exact⟨_,_,_,h⟩
 go_wp2_with fail;refine bodyPost_ret (v:= (⟨Hm,Hc, ⟨Al,nl,cl⟩,tl, ⟨Az,nz,cz⟩⟩ : aA).val pI) (by simp [results,Tryz.results170,go_sem,ak,au,aV,aW,EF,EG,EH,EI];rfl) rfl ⟨(⟨Hm,Hc, ⟨Al,nl,cl⟩,tl, ⟨Az,nz,cz⟩⟩ : aA),rfl, ⟨fZ.aM (F:= [w.heap.size]) dx (fun g hg hm=>by simp only [Pe,Pd,XK] at hm;have:=ru g hg;have:=mK g hg;omega),bB.aM (F:= [w.heap.size]) dx (fun g hg hm=>by simp only [Pe,Pd,XK] at hm;have:=l_c g hg;have:=u_c g hg;omega),Ob.aM (F:= [w.heap.size]) dx (fun g hg hm=>by simp only [Pe,Pd,XK] at hm;have:=PU g hg;have:=Tf g hg;omega),uF.aM (F:= [w.heap.size]) dx (fun g hg hm=>by simp only [Pe,Pd,XK] at hm;have:=Gu g hg;have:=zX g hg;omega),fun b hb hm=>by have:=l_c b hm;have:=mK b hb;omega,fun b hb hm=>by have:=PU b hm;have:=mK b hb;omega,fun b hb hm=>by have:=Gu b hm;have:=mK b hb;omega,fun b hb hm=>by have:=PU b hm;have:=u_c b hb;omega,fun b hb hm=>by have:=Gu b hm;have:=u_c b hb;omega,fun b hb hm=>by have:=Gu b hm;have:=Tf b hb;omega⟩,fun b hb=>by rcases aA.aI.1 hb with hb|hb|hb|hb; (have:=ru b hb;omega); (have:=l_c b hb;omega); (have:=PU b hb;omega); (have:=Gu b hb;omega),Below.trans hB dU⟩
end Go.Proofs.YtkmggglljkmjoaaGreat
