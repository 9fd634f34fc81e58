/-
  Several texts in one: lemmas and contracts that the claim rests on.
-/
import Derived.Test.YtkmggglljkmjoaaGreatUTC1
import Derived.Deep.QuietTactic
import Derived.BigQuiet
import Derived.Deep.LoopGhost
import Derived.Deep.RegionHeld3
import Derived.Test.YtkmggglljkmjoaaGreatUTC2
import Derived.WalkSpells
import Derived.Laws.Cover3
import Derived.Test.YtkmggglljkmjoaaGreatUTC17
import Derived.IntWalk
import Derived.Deep.RegionLaw
import Derived.Deep.CutRange
namespace Go.Proofs.YtkmggglljkmjoaaGreat
open Go.RowKit
theorem aY.gY {F : List Nat}{w w' : World}(h : aY F w w'){g i : Nat}(hg : w.heap.size≤g)(v : Value) : aY F w (w'.setCell ⟨g,i,none⟩ v) :=
 ⟨h.os,h.tape,h.output,by simpa using h.size,fun k hk hn=> (Below.heap_setCell _ _ _ _ (fun e=>by have e' : k=g:=e;omega)).trans (h.block k hk hn)⟩
theorem Gx {w w' : World}{H : bP}{K : aZ}{x : Mem}{l : Lists}(h : d9 w H x)(hl : dZ w' K l)(hc : aY H.I.foot w w')(hd : ∀g∈K.foot,g∈H.I.foot∨w.heap.size≤g) : d9 w' ⟨H.E,K⟩ ⟨x.E,l⟩ :=
 ⟨h.E.aM hc (fun g hg hm=>h.iV g hg hm),hl,fun g hg hm=>by rcases hd g hm with hh|hh; (exact h.iV g hg hh); (have:=h.E.lt g hg;omega)⟩
theorem aY.Eo {F : List Nat}{a c d : World}{g r : Nat}(h : aY F a c)(h3 : aY [g,r] c d)(hr : a.heap.size≤r∧a.heap.size≤g) : aY F a d:=
 ⟨h3.os.trans h.os,h3.tape.trans h.tape,h3.output.trans h.output,Nat.le_trans h.size h3.size,fun k hk hn=>by
  rw [h3.block k (Nat.lt_of_lt_of_le hk h.size) (by simp only [List.mem_cons,List.not_mem_nil,or_false];omega),h.block k hk hn]⟩
set_option maxRecDepth 100000 in
set_option maxHeartbeats 4000000 in
theorem Gy (w : World)(H : bP)(x : Mem)(wk c : Nat)(s g : Int)(h : d9 w H x)(hs : bX x.I≤536870912)(hsh : gI x.E=true)(hll : x.I.G.length=3∧x.I.O.length=9)(hw : wk<3)(hc : aO x.E s= (c : Int))(hcn : c<3)(hg : dz x.E s=g)(g0 : 1≤g)(g6 : g≤6) :
  Calls Tryz.prog 111 #[.agg #[.slice H.E.Y.a H.E.Y.l H.E.Y.c, .slice H.E.Z.a H.E.Z.l H.E.Z.c, .slice H.I.G.a H.I.G.l H.I.G.c, .slice H.I.O.a H.I.O.l H.I.O.c], .int .i64 wk, .int .i64 s] w fun e w'=> ∃H' : bP,e= .returned (.agg #[.slice H'.E.Y.a H'.E.Y.l H'.E.Y.c, .slice H'.E.Z.a H'.E.Z.l H'.E.Z.c, .slice H'.I.G.a H'.I.G.l H'.I.G.c, .slice H'.I.O.a H'.I.O.l H'.I.O.c]) ∧d9 w' H' (qm x wk s) ∧ (∀g∈H'.foot,g∈H.foot∨w.heap.size≤g) ∧aY H.foot w w':=by
 have k1 : ¬ aO x.E s<0:=by rw [hc];omega
 have HE:=Hid.aT (En (wk:=wk) hc hg)
 have hgd:=vQ (iA hsh) k1
 have LQ:=fun (W : World) (hW : gU W W.heap.size H.E x.E) =>mD W H.E x.E s hW hsh
 have sI:=fun (W : World) (hW : gU W W.heap.size H.E x.E) =>qH W H.E x.E s hW hsh k1
 rw [hc] at LQ hgd
 rw [hg] at sI
 have hga:=fun W=>nP s (c : Int) W
 obtain⟨P,hP⟩ : ∃P : Nat,ig s (c : Int) = (P : Int) := ⟨(ig s (c : Int)).toNat,by omega⟩
 rw [hP] at hga hgd
 have Nc : Hid (l6 x.E s (g+1) = {x.E with Y:=putAt x.E.Y P (fQ 4 (g+1))}) :=by
  show _=_
  unfold l6
  rw [hc,hP,Int.toNat_natCast]
 have hst : ∀W : World,bA FI 3 W (.slice H.E.Y.a H.E.Y.l H.E.Y.c) x.E.Y→Calls Tryz.prog 86 #[(.slice H.E.Y.a H.E.Y.l H.E.Y.c), .int .i64 (P : Int), .int .i64 4, .int .i64 (g+1)] W fun e w'=>e= .returned (.slice H.E.Y.a H.E.Y.l H.E.Y.c) ∧bA FI 3 w' (.slice H.E.Y.a H.E.Y.l H.E.Y.c) (putAt x.E.Y P (fQ 4 (g+1))) ∧aY (cu (.slice H.E.Y.a H.E.Y.l H.E.Y.c)) W w':=fun W o=>sF W _ x.E.Y P 4 (g+1) o (by decide) (by decide) (by omega) (by omega) (by omega)
 have hgv:=fun (W : World) (o : dZ W H.I x.I) =>A_ W H.I x.I wk c s o hs hll hw hcn
 have hf:=h.lt
 clear hgd hP hc hg hsh hll hs k1
 have o:= (h.aH (.cells #[.slice H.E.Y.a H.E.Y.l H.E.Y.c, .slice H.E.Z.a H.E.Z.l H.E.Z.c, .slice H.I.G.a H.I.G.l H.I.G.c, .slice H.I.O.a H.I.O.l H.I.O.c] 31)).aH (.cells #[.slice none 0 0, .slice none 0 0, .slice none 0 0, .slice none 0 0] 31)
 clear h
 have au : aB ((w.alloc (.cells #[.slice H.E.Y.a H.E.Y.l H.E.Y.c, .slice H.E.Z.a H.E.Z.l H.E.Z.c, .slice H.I.G.a H.I.G.l H.I.G.c, .slice H.I.O.a H.I.O.l H.I.O.c] 31)).alloc (.cells #[.slice none 0 0, .slice none 0 0, .slice none 0 0, .slice none 0 0] 31)) w.heap.size [.slice H.E.Y.a H.E.Y.l H.E.Y.c, .slice H.E.Z.a H.E.Z.l H.E.Z.c, .slice H.I.G.a H.I.G.l H.I.G.c, .slice H.I.O.a H.I.O.l H.I.O.c]:= (aB.new w #[.slice H.E.Y.a H.E.Y.l H.E.Y.c, .slice H.E.Z.a H.E.Z.l H.E.Z.c, .slice H.I.G.a H.I.G.l H.I.G.c, .slice H.I.O.a H.I.O.l H.I.O.c] _).alloc _
 have ah : aB ((w.alloc (.cells #[.slice H.E.Y.a H.E.Y.l H.E.Y.c, .slice H.E.Z.a H.E.Z.l H.E.Z.c, .slice H.I.G.a H.I.G.l H.I.G.c, .slice H.I.O.a H.I.O.l H.I.O.c] 31)).alloc (.cells #[.slice none 0 0, .slice none 0 0, .slice none 0 0, .slice none 0 0] 31)) (w.heap.size+1) [.slice none 0 0, .slice none 0 0, .slice none 0 0, .slice none 0 0]:=by
  have hb:=aB.new (w.alloc (.cells #[.slice H.E.Y.a H.E.Y.l H.E.Y.c, .slice H.E.Z.a H.E.Z.l H.E.Z.c, .slice H.I.G.a H.I.G.l H.I.G.c, .slice H.I.O.a H.I.O.l H.I.O.c] 31)) #[.slice none 0 0, .slice none 0 0, .slice none 0 0, .slice none 0 0] 31
  rw [World.size_alloc] at hb
  exact hb
 have hB : aY H.foot w ((w.alloc (.cells #[.slice H.E.Y.a H.E.Y.l H.E.Y.c, .slice H.E.Z.a H.E.Z.l H.E.Z.c, .slice H.I.G.a H.I.G.l H.I.G.c, .slice H.I.O.a H.I.O.l H.I.O.c] 31)).alloc (.cells #[.slice none 0 0, .slice none 0 0, .slice none 0 0, .slice none 0 0] 31)) := ((aY.refl _ _).aH _).aH _
 go_enter Tryz.func111,Tryz.ntmps111
 go_wp2_with fail
 generalize hW0 : ((w.alloc (.cells #[.slice H.E.Y.a H.E.Y.l H.E.Y.c, .slice H.E.Z.a H.E.Z.l H.E.Z.c, .slice H.I.G.a H.I.G.l H.I.G.c, .slice H.I.O.a H.I.O.l H.I.O.c] 31)).alloc (.cells #[.slice none 0 0, .slice none 0 0, .slice none 0 0, .slice none 0 0] 31)) =w0 at o au ah hB⊢
 clear hW0
 refine(LQ _ o.E.rd').mono ?_
 clear LQ
 rintro e w1 ⟨rfl,hb⟩
 replace au:=au.below hb
 replace ah:=ah.below hb
 replace o:=o.step0 hb
 replace hB:=hB.then_ (hb.mono hB.size)
 clear hb
 have aD:=au.cell 0 _ rfl
 have aF:=au.cell 1 _ rfl
 have aR:=au.cell 2 _ rfl
 have aS:=au.cell 3 _ rfl
 have aj:=ah.cell 0 _ rfl
 have ak:=ah.cell 1 _ rfl
 have aJ:=ah.cell 2 _ rfl
 have aK:=ah.cell 3 _ rfl
 have aL:=au.dn
 have aQ:=au.lt
 have ay:=ah.dn
 have aI:=ah.lt
 go_wp2_with fail
 refine(sI _ o.E.rd').mono ?_
 clear sI
 rintro e w2 ⟨rfl,hb⟩
 replace au:=au.below hb
 replace ah:=ah.below hb
 replace o:=o.step0 hb
 replace hB:=hB.then_ (hb.mono hB.size)
 clear hb
 replace aD:=au.cell 0 _ rfl
 replace aF:=au.cell 1 _ rfl
 replace aR:=au.cell 2 _ rfl
 replace aS:=au.cell 3 _ rfl
 replace aj:=ah.cell 0 _ rfl
 replace ak:=ah.cell 1 _ rfl
 replace aJ:=ah.cell 2 _ rfl
 replace aK:=ah.cell 3 _ rfl
 replace aL:=au.dn
 replace aQ:=au.lt
 replace ay:=ah.dn
 replace aI:=ah.lt
 go_wp2_with fail
 have ob : bA FI 3 w2 (.slice H.E.Y.a H.E.Y.l H.E.Y.c) x.E.Y:=o.E.Y
 have Jm : bA FI 3 w2.drew (.slice H.E.Y.a H.E.Y.l H.E.Y.c) x.E.Y:=ob.keep (fun _ _=>rfl)
 go_region_with (first| (go_at_call 158;refine(hga _).mono ?_;rintro e wv ⟨rfl,rfl⟩) | (go_at_call 86; (first| ((with_reducible refine(hst _ ob).mono ?_);rintro e wq ⟨rfl,hbN,hx⟩;replace hx : aY (cu H.E.Y.val) w2 wq:= ⟨hx.os,hx.tape,hx.output,hx.size,hx.block⟩;replace au:=au.aM hx (fun hm=>by have:=hf _ (bP.fO hm);omega);replace ah:=ah.aM hx (fun hm=>by have:=hf _ (bP.fO hm);omega);replace o : d9 wq H {x with E:=l6 x.E s (g+1)}:= (by rw [Nc.out];exact o.setBytes hbN hx);replace hB:=hB.trans (hx.mono (fun b hb=>bP.fO hb));replace aD:=au.cell 0 _ rfl;replace aF:=au.cell 1 _ rfl;replace aR:=au.cell 2 _ rfl;replace aS:=au.cell 3 _ rfl;replace aj:=ah.cell 0 _ rfl;replace ak:=ah.cell 1 _ rfl;replace aJ:=ah.cell 2 _ rfl;replace aK:=ah.cell 3 _ rfl;replace aL:=au.dn;replace aQ:=au.lt;replace ay:=ah.dn;replace aI:=ah.lt) | ((with_reducible refine(hst _ Jm).mono ?_);rintro e wq ⟨rfl,hbN,hx⟩;replace hx : aY (cu H.E.Y.val) w2 wq:= ⟨hx.os,hx.tape,hx.output,hx.size,hx.block⟩;replace au:=au.aM hx (fun hm=>by have:=hf _ (bP.fO hm);omega);replace ah:=ah.aM hx (fun hm=>by have:=hf _ (bP.fO hm);omega);replace o : d9 wq H {x with E:=l6 x.E s (g+1)}:= (by rw [Nc.out];exact o.setBytes hbN hx);replace hB:=hB.trans (hx.mono (fun b hb=>bP.fO hb));replace aD:=au.cell 0 _ rfl;replace aF:=au.cell 1 _ rfl;replace aR:=au.cell 2 _ rfl;replace aS:=au.cell 3 _ rfl;replace aj:=ah.cell 0 _ rfl;replace ak:=ah.cell 1 _ rfl;replace aJ:=ah.cell 2 _ rfl;replace aK:=ah.cell 3 _ rfl;replace aL:=au.dn;replace aQ:=au.lt;replace ay:=ah.dn;replace aI:=ah.lt))))
 all_goals
  clear hga hst ob Jm
  by_cases kg : g+1≤6
  case pos=>
   have HF : Hid (qm x wk s= ⟨l6 x.E s (g+1),nI x.I (wk * 3+c) c s⟩) :=by rw [HE.out,if_pos kg];exact rfl
   go_wp2_with fail
   replace au:=au.set 0 (.slice H.E.Y.a H.E.Y.l H.E.Y.c)
   replace ah:=ah.other (g':=w.heap.size) (i:=0) (by omega) (.slice H.E.Y.a H.E.Y.l H.E.Y.c)
   replace o:=o.aM (F:= [w.heap.size]) ((aY.refl _ wq).gD (g:=w.heap.size) (i:=0) (by simp) (.slice H.E.Y.a H.E.Y.l H.E.Y.c)) (fun b hb hm=>by simp only [List.mem_cons,List.not_mem_nil,or_false] at hm;have:=hf b hb;omega)
   replace hB:=hB.gY (g:=w.heap.size) (i:=0) (Nat.le_refl _) (.slice H.E.Y.a H.E.Y.l H.E.Y.c)
   generalize hW3 : wq.setCell ⟨w.heap.size,0,none⟩ (.slice H.E.Y.a H.E.Y.l H.E.Y.c) =w4 at o au ah hB⊢
   clear hW3
   refine(hgv _ o.I).mono ?_
   rintro e w5 ⟨K,rfl,hN,pY,hx⟩
   have Qf:=hB.size
   have Kw : w.heap.size+1<w4.heap.size:=ah.lt
   have KO:=fun b (hb : b∈H.I.foot) => (show b∈H.foot from bP.aX.2 (.inr hb))
   replace au:=au.aM hx (fun hm=>by have:=hf _ (KO _ hm);omega)
   replace ah:=ah.aM hx (fun hm=>by have:=hf _ (KO _ hm);omega)
   have oN:=Gx o hN hx pY
   replace hB:=hB.trans (hx.mono KO)
   have aD:=au.cell 0 _ rfl
   have aF:=au.cell 1 _ rfl
   have aR:=au.cell 2 _ rfl
   have aS:=au.cell 3 _ rfl
   have aj:=ah.cell 0 _ rfl
   have ak:=ah.cell 1 _ rfl
   have aJ:=ah.cell 2 _ rfl
   have aK:=ah.cell 3 _ rfl
   have aL:=au.dn
   have aQ:=au.lt
   have ay:=ah.dn
   have aI:=ah.lt
   have Nf : ∀b∈bP.foot ⟨H.E,K⟩,b∈H.foot∨ (w4.heap.size≤b∧w.heap.size+1<b) :=by
    intro b hb
    rcases bP.aX.1 hb with hb|hb
    ·exact .inl (bP.aX.2 (.inl hb))
    ·rcases pY b hb with hh|hh
     ·exact .inl (KO b hh)
     ·exact .inr ⟨hh,by omega⟩
   go_wp2_with fail
   refine bodyPost_ret (v:= .agg #[.slice H.E.Y.a H.E.Y.l H.E.Y.c, .slice H.E.Z.a H.E.Z.l H.E.Z.c, .slice K.G.a K.G.l K.G.c, .slice K.O.a K.O.l K.O.c]) (by simp [results,Tryz.results111,go_sem,aj,ak,aJ,aK]) rfl ⟨⟨H.E,K⟩,rfl,by rw [HF.out];exact oN.aM (F:= [w.heap.size+1,w.heap.size]) bW (fun b hb hm=>by simp only [List.mem_cons,List.not_mem_nil,or_false] at hm;rcases Nf b hb with hh|hh; (have:=hf b hh;omega);omega),fun b hb=>by rcases Nf b hb with hh|hh; (exact .inl hh); (right;omega), ?_⟩
   exact hB.Eo (g:=w.heap.size+1) (r:=w.heap.size) bW (by omega)
  case neg=>
   have HF : Hid (qm x wk s= ⟨l6 x.E s (g+1),x.I⟩) :=by rw [HE.out,if_neg kg];exact rfl
   go_wp2_with fail
   refine bodyPost_ret (v:= .agg #[.slice H.E.Y.a H.E.Y.l H.E.Y.c, .slice H.E.Z.a H.E.Z.l H.E.Z.c, .slice H.I.G.a H.I.G.l H.I.G.c, .slice H.I.O.a H.I.O.l H.I.O.c]) (by simp [results,Tryz.results111,go_sem,aj,ak,aJ,aK]) rfl ⟨H,rfl,by rw [HF.out];exact o.aM (F:= [w.heap.size+1,w.heap.size]) bW (fun b hb hm=>by simp only [List.mem_cons,List.not_mem_nil,or_false] at hm;have:=hf b hb;omega),fun b hb=> .inl hb, ?_⟩
   exact hB.Eo (g:=w.heap.size+1) (r:=w.heap.size) bW (by omega)
end Go.Proofs.YtkmggglljkmjoaaGreat
namespace Go.Proofs.YtkmggglljkmjoaaGreat
open Go.RowKit
theorem aY.BN {F G : List Nat}{a c d : World}(h : aY F a c)(h3 : aY G c d)(hr : ∀g∈G,g∈F∨a.heap.size≤g) : aY F a d:=
 ⟨h3.os.trans h.os,h3.tape.trans h.tape,h3.output.trans h.output,Nat.le_trans h.size h3.size,fun k hk hn=>by
  rw [h3.block k (Nat.lt_of_lt_of_le hk h.size) (fun hm=>by rcases hr k hm with hh|hh; (exact hn hh);omega),h.block k hk hn]⟩
theorem Ib {l : List Int}{x : Int}{p : Nat}(h : idxOf (fun y=>y == x) l= (p : Int)){k : Nat}(hk : k<p)(hl : k<l.length) : ¬ l[k]=x:=by
 intro he
 unfold idxOf at h
 cases hx : l.findIdx? (fun y=>y == x) with
 |none=>rw [hx] at h;simp at h
 |some i=>
  rw [hx] at h
  simp at h
  obtain rfl : i=p:=by omega
  have:= (List.findIdx?_eq_some_iff_getElem.1 hx).2.2 k hk
  simp [he] at this
theorem LU {l : List Int}{x : Int}{p : Nat}(h : idxOf (fun y=>y == x) l= (p : Int))(hl : p<l.length) : l[p]=x:=by
 unfold idxOf at h
 cases hx : l.findIdx? (fun y=>y == x) with
 |none=>rw [hx] at h;simp at h
 |some i=>
  rw [hx] at h
  simp at h
  obtain rfl : i=p:=by omega
  have:= (List.findIdx?_eq_some_iff_getElem.1 hx).2.1
  simpa using this
set_option maxHeartbeats 400000 in
theorem FN (p i : Nat)(hp : p<6)(hi : i<4)(w : World) : Calls Tryz.prog 202 #[.int .i64 p, .int .i64 i] w fun e w'=>e= .returned (.int .i64 ((p * 4+i : Nat) : Int)) ∧w=w':=by
 have k1 : bO 0 5 (p : Int) =true:=bJ.2 ⟨by omega,by omega⟩
 have k2 : bO 0 3 (i : Int) =true:=bJ.2 ⟨by omega,by omega⟩
 go_enter Tryz.func202,Tryz.ntmps202
 go_wp2_with (go_at_call 102;refine(fG _ _ _ _).mono ?_; (first|rw [k1]|rw [k2]);rintro e w1 ⟨rfl,rfl⟩)
 go_ret
 exact⟨dN (by omega),rfl⟩
theorem bA.DN {w : World}{g n c : Nat}{l : List Int}(h : bA FI 3 w (.slice (some ⟨g,0,none⟩) n c) l){k : Nat}(hk : k<l.length)(y : Int) : bA FI 3 (w.setCell ⟨g,k,none⟩ (.int .i64 y)) (.slice (some ⟨g,0,none⟩) n c) (l.set k y) :=by
 have:=h.gD (y:=y) (u:= .int .i64 y) (List.getElem?_eq_getElem hk) FI.pos rfl
 rw [show k * FI.n+0=k by simp [FI]] at this
 exact this
theorem bA.zT {α : Type}{T : FT α}{e : TypeId}{w : World}{g n c : Nat}{l : List α}(h : bA T e w (.slice (some ⟨g,0,none⟩) n c) l){g' : Nat}(hn : g'≠g)(i : Nat)(v : Value) : bA T e (w.setCell ⟨g',i,none⟩ v) (.slice (some ⟨g,0,none⟩) n c) l:=
 h.keep fun b hb=>jR w _ (fun e=>by simp only [Value.ownBlock,Option.some.injEq] at hb;subst hb;exact hn e)
theorem LV {b : List Int}{q : Nat}{u v t : Int}(hq : q+3≤b.length) : ((b.set q u).set (q+1) v).set (q+2) t=putAt b q [u,v,t]:=by
 refine List.ext_getElem? fun j=> ?_
 by_cases h : q≤j∧j<q+3
 ·obtain⟨i,rfl⟩ : ∃i,j=q+i:= ⟨j - q,by omega⟩
  rw [vZ (by simp;omega) (by simp;omega)]
  obtain rfl|rfl|rfl : i=0∨i=1∨i=2:=by omega
  ·rw [List.getElem?_set_ne (by omega),List.getElem?_set_ne (by omega),Nat.add_zero,List.getElem?_set_self (by omega)];rfl
  ·rw [List.getElem?_set_ne (by omega),List.getElem?_set_self (by simp;omega)];rfl
  ·rw [List.getElem?_set_self (by simp;omega)];rfl
 ·rw [uS (by simp;omega) (by simp;omega),List.getElem?_set_ne (by omega),List.getElem?_set_ne (by omega),List.getElem?_set_ne (by omega)]
set_option maxRecDepth 100000 in
set_option maxHeartbeats 8000000 in
theorem Ba (w : World)(H : dU)(x : Heap)(p c : Nat)(h : fA w H x)(hs : gI x=true)(hc : c<3)(hp : idxOf (fun y=>y == -1) x.Z= (p : Int)) :
  Calls Tryz.prog 165 #[.agg #[.slice H.Y.a H.Y.l H.Y.c, .slice H.Z.a H.Z.l H.Z.c], .int .i64 c] w fun e w'=> ∃v : SV,e= .returned (.tuple #[.agg #[.slice H.Y.a H.Y.l H.Y.c, .slice H.Z.a H.Z.l H.Z.c], .slice v.a v.l v.c]) ∧fA w' H (fI x p c) ∧bA FI 3 w' v.val (d_ p (cO (c : Int)).toNat) ∧ (∀g∈cu v.val,w.heap.size≤g) ∧aY H.foot w w':=by
 have sh:=iA hs
 have hpl:=CJ hp
 have zQ:=Hid.aT sh.bl
 have LK:=Hid.aT sh.cl
 have xG : p<6:=by rw [sh.cl] at hpl;exact hpl
 have hcl : bO 0 2 (c : Int) =true:=bJ.2 ⟨by omega,by omega⟩
 obtain⟨n,hn,LM,hnn⟩ :=uz hc
 have KI:=Hid.aT (fun i (hi : i≤n) =>oh (b:=x.Y) (p:=p) (c:= (c : Int)) sh.bl xG hcl i (by omega))
 have KJ:=Hid.aT (fun i (hi : i<n) =>nQ hcl (i:=i) (by omega))
 have p9:=Hid.aT (fun k (hk : k<p) =>Ib hp hk (show k<x.Z.length by omega))
 have HAT:=Hid.aT (LU hp hpl)
 have hpp:=fun W=>iI (c : Int) W
 rw [hn] at hpp
 have hsa:=fun i (hi : i<n) W=>FN p i xG (by omega) W
 have hga : ∀i,i<n→ ∀W : World,Calls Tryz.prog 158 #[.int .i64 ((p * 4+i : Nat) : Int), .int .i64 c] W fun e w'=>e= .returned (.int .i64 ((p * 64+8+i * (eu c).toNat : Nat) : Int)) ∧W=w':=fun i hi W=>by
  have:=nP (kK p i) (c : Int) W
  rw [xV xG hcl (by omega)] at this
  rw [show kK (p : Int) (i : Int) = ((p * 4+i : Nat) : Int) by unfold kK;rw [if_pos ⟨bJ.2 ⟨by omega,by omega⟩,bJ.2 ⟨by omega,by omega⟩⟩];omega] at this
  exact this
 have LP : Hid (fI x p c= ⟨jH x.Y p c n,x.Z.set p c⟩) :=by
  show _=_
  unfold fI
  rw [hnn]
 have KM:=Hid.aT (fun i=>show jH x.Y p c (i+1) =putAt (jH x.Y p c i) (p * 64+8+i * (eu c).toNat) (fQ 4 1) from rfl)
 have FD : Hid (((x.Y.set (p * 64) 171).set (p * 64+1) (c : Int)).set (p * 64+2) (n : Int) =jH x.Y p c 0) :=by
  show _=_
  rw [LV (by rw [sh.bl];omega)]
  unfold jH
  rw [hn]
 rw [hnn]
 have hlb : p * 64+2<x.Y.length:=by rw [sh.bl];omega
 clear sh hs hp hn hnn
 obtain⟨⟨A1,n1,pB⟩, ⟨A2,n2,pC⟩⟩ :=H
 obtain⟨gB,c1,hv1,hg1⟩ :=bA.kN (v:= .slice A1 n1 pB) h.Y (by rw [zQ.out];decide)
 obtain⟨gC,c2,hv2,hg2⟩ :=bA.kN (v:= .slice A2 n2 pC) h.Z (by rw [LK.out];decide)
 injection hv1 with i1 i2 i3
 injection hv2 with j1 j2 j3
 subst i1 i2 i3 j1 j2 j3
 have FE : gB≠gC:=fun e=>h.iV gB (bY.2 rfl) (bY.2 e)
 have OI:=FE.symm
 have oB:= (show bA FI 3 w (.slice (some ⟨gB,0,none⟩) x.Y.length pB) x.Y from h.Y).aH (.cells #[.slice (some ⟨gB,0,none⟩) x.Y.length pB, .slice (some ⟨gC,0,none⟩) x.Z.length pC] 26) |>.aH (.cells #[.slice none 0 0, .slice none 0 0] 26)
 have oC:= (show bA FI 3 w (.slice (some ⟨gC,0,none⟩) x.Z.length pC) x.Z from h.Z).aH (.cells #[.slice (some ⟨gB,0,none⟩) x.Y.length pB, .slice (some ⟨gC,0,none⟩) x.Z.length pC] 26) |>.aH (.cells #[.slice none 0 0, .slice none 0 0] 26)
 clear h
 have au : aB ((w.alloc (.cells #[.slice (some ⟨gB,0,none⟩) x.Y.length pB, .slice (some ⟨gC,0,none⟩) x.Z.length pC] 26)).alloc (.cells #[.slice none 0 0, .slice none 0 0] 26)) w.heap.size [.slice (some ⟨gB,0,none⟩) x.Y.length pB, .slice (some ⟨gC,0,none⟩) x.Z.length pC]:= (aB.new w #[.slice (some ⟨gB,0,none⟩) x.Y.length pB, .slice (some ⟨gC,0,none⟩) x.Z.length pC] _).alloc _
 have ah : aB ((w.alloc (.cells #[.slice (some ⟨gB,0,none⟩) x.Y.length pB, .slice (some ⟨gC,0,none⟩) x.Z.length pC] 26)).alloc (.cells #[.slice none 0 0, .slice none 0 0] 26)) (w.heap.size+1) [.slice none 0 0, .slice none 0 0]:=by
  have hb:=aB.new (w.alloc (.cells #[.slice (some ⟨gB,0,none⟩) x.Y.length pB, .slice (some ⟨gC,0,none⟩) x.Z.length pC] 26)) #[.slice none 0 0, .slice none 0 0] 26
  rw [World.size_alloc] at hb
  exact hb
 have Jo : gB∈dU.foot ⟨⟨some ⟨gB,0,none⟩,x.Y.length,pB⟩, ⟨some ⟨gC,0,none⟩,x.Z.length,pC⟩⟩ :=dU.aX.2 (.inl (bY.2 rfl))
 have OJ : gC∈dU.foot ⟨⟨some ⟨gB,0,none⟩,x.Y.length,pB⟩, ⟨some ⟨gC,0,none⟩,x.Z.length,pC⟩⟩ :=dU.aX.2 (.inr (bY.2 rfl))
 have hB : aY (dU.foot ⟨⟨some ⟨gB,0,none⟩,x.Y.length,pB⟩, ⟨some ⟨gC,0,none⟩,x.Z.length,pC⟩⟩) w ((w.alloc (.cells #[.slice (some ⟨gB,0,none⟩) x.Y.length pB, .slice (some ⟨gC,0,none⟩) x.Z.length pC] 26)).alloc (.cells #[.slice none 0 0, .slice none 0 0] 26)) := ((aY.refl _ _).aH _).aH _
 show Calls Tryz.prog 165 #[.agg #[.slice (some ⟨gB,0,none⟩) x.Y.length pB, .slice (some ⟨gC,0,none⟩) x.Z.length pC], .int .i64 c] w _
 go_enter Tryz.func165,Tryz.ntmps165
 go_wp2_with fail
 generalize hW0 : ((w.alloc (.cells #[.slice (some ⟨gB,0,none⟩) x.Y.length pB, .slice (some ⟨gC,0,none⟩) x.Z.length pC] 26)).alloc (.cells #[.slice none 0 0, .slice none 0 0] 26)) =w0 at oB oC au ah hB⊢
 clear hW0
 have aD:=au.cell 0 _ rfl
 have aF:=au.cell 1 _ rfl
 have aj:=ah.cell 0 _ rfl
 have ak:=ah.cell 1 _ rfl
 have aL:=au.dn
 have ay:=ah.dn
 have aQ:=au.lt
 have aI:=ah.lt
 go_loop [6] (fun i=> ∃k : Nat,k≤p∧i= .int .i64 k) (fun i=>p - (intOf i).toNat)
 case atStart=>exact⟨0,Nat.zero_le _,rfl⟩
 case round=>
  obtain⟨k,hk,rfl⟩ :=hrel
  by_cases hlt : k<p
  ·have hkl : k<x.Z.length:=by omega
   have p0:=oC.cell_ (List.getElem?_eq_getElem hkl) FI.pos
   simp only [FI,Nat.mul_one,Nat.add_zero] at p0
   have hne:=p9.out k hlt
   have Ic : (k : Int) < (x.Z.length : Int) :=by omega
   generalize x.Z[k]=y at p0 hne
   replace p0 : w0.cell? ⟨gC,k,none⟩ =some (.int .i64 y) :=p0
   go_wp2_with fail
   go_round
   ·exact⟨k+1,by omega,by go_num⟩
   ·simp [intOf];omega
  ·obtain rfl : k=p:=by omega
   clear p9 hlt hk
   have p0:=oC.cell_ (List.getElem?_eq_getElem hpl) FI.pos
   simp only [FI,Nat.mul_one,Nat.add_zero] at p0
   rw [HAT.out] at p0
   replace p0 : w0.cell? ⟨gC,k,none⟩ =some (.int .i64 (-1)) :=p0
   have fC:=oC.eD k
   have Ic : (k : Int) < (x.Z.length : Int) :=by omega
   have Ng:=oB.eD (k * 64)
   have Nh:=oB.eD (k * 64+1)
   obtain⟨y0,hy0⟩ : ∃y,x.Y[k * 64]? =some y:= ⟨_,List.getElem?_eq_getElem (by omega)⟩
   have cB0:=oB.cell_ hy0 FI.pos
   simp only [FI,Nat.mul_one,Nat.add_zero] at cB0
   replace cB0 : w0.cell? ⟨gB,k * 64,none⟩ =some (.int .i64 y0) :=cB0
   obtain⟨y1,hy1⟩ : ∃y,x.Y[k * 64+1]? =some y:= ⟨_,List.getElem?_eq_getElem (by omega)⟩
   have cB1:=oB.cell_ hy1 FI.pos
   simp only [FI,Nat.mul_one,Nat.add_zero] at cB1
   replace cB1 : w0.cell? ⟨gB,k * 64+1,none⟩ =some (.int .i64 y1) :=cB1
   obtain⟨q,hq⟩ : ∃q : Nat,q=k * 64:= ⟨_,rfl⟩
   have hwr : IntKind.i64.wrap ((k : Int) * 64) = (q : Int) :=by rw [IntWalk.i64_in _ ⟨by omega,by omega⟩];omega
   have KP:=Hid.aT hlb
   have t0 : (q : Int) < (x.Y.length : Int) :=by omega
   have t1 : (q : Int) +1< (x.Y.length : Int) :=by omega
   have u0 : (0 : Int) ≤ (q : Int) :=by omega
   have u1 : (0 : Int) ≤ (q : Int) +1:=by omega
   have v1 : ((q : Int) +1).toNat=q+1:=by omega
   have r1 : IntKind.i64.wrap ((q : Int) +1) = (q : Int) +1:=IntWalk.i64_in _ ⟨by omega,by omega⟩
   have HQ:=Hid.aT hq
   rw [←hq] at Ng Nh cB0 cB1 FD hy0 hy1
   clear hq hlb
   have OL : gC≠w.heap.size:=by omega
   have QN:=OL.symm
   have OM : gB≠w.heap.size:=by omega
   have QO:=OM.symm
   go_upto_region 9 with (fail)
   have LW : bA FI 3 (((w0.setCell ⟨gC,k,none⟩ (.int .i64 c)).setCell ⟨gB,q,none⟩ (.int .i64 171)).setCell ⟨gB,q+1,none⟩ (.int .i64 c)) (.slice (some ⟨gC,0,none⟩) x.Z.length pC) (x.Z.set k c) := ((oC.DN hpl c).zT FE _ _).zT FE _ _
   have Jp : bA FI 3 (((w0.setCell ⟨gC,k,none⟩ (.int .i64 c)).setCell ⟨gB,q,none⟩ (.int .i64 171)).setCell ⟨gB,q+1,none⟩ (.int .i64 c)) (.slice (some ⟨gB,0,none⟩) x.Y.length pB) ((x.Y.set q 171).set (q+1) c) :=by
    have h1:=HQ.out
    have h2:=KP.out
    exact((oB.zT OI _ _).DN (by omega) 171).DN (by rw [List.length_set];omega) c
   replace hB : aY (dU.foot ⟨⟨some ⟨gB,0,none⟩,x.Y.length,pB⟩, ⟨some ⟨gC,0,none⟩,x.Z.length,pC⟩⟩) w (((w0.setCell ⟨gC,k,none⟩ (.int .i64 c)).setCell ⟨gB,q,none⟩ (.int .i64 171)).setCell ⟨gB,q+1,none⟩ (.int .i64 c)) := ((hB.gD OJ _).gD Jo _).gD Jo _
   replace au:= ((au.other (g':=gC) (i:=k) (by omega) (.int .i64 c)).other (g':=gB) (i:=q) (by omega) (.int .i64 171)).other (g':=gB) (i:=q+1) (by omega) (.int .i64 c)
   replace ah:= ((ah.other (g':=gC) (i:=k) (by omega) (.int .i64 c)).other (g':=gB) (i:=q) (by omega) (.int .i64 171)).other (g':=gB) (i:=q+1) (by omega) (.int .i64 c)
   have CO : w0.heap.size≤ (((w0.setCell ⟨gC,k,none⟩ (.int .i64 c)).setCell ⟨gB,q,none⟩ (.int .i64 171)).setCell ⟨gB,q+1,none⟩ (.int .i64 c)).heap.size:=by simp
   clear oB oC p0 fC Ng Nh cB0 cB1
   generalize hW3 : (((w0.setCell ⟨gC,k,none⟩ (.int .i64 c)).setCell ⟨gB,q,none⟩ (.int .i64 171)).setCell ⟨gB,q+1,none⟩ (.int .i64 c)) =w3 at LW Jp hB au ah CO⊢
   clear hW3
   replace aD:=au.cell 0 _ rfl
   replace aF:=au.cell 1 _ rfl
   replace aj:=ah.cell 0 _ rfl
   replace ak:=ah.cell 1 _ rfl
   replace aL:=au.dn
   replace ay:=ah.dn
   replace aQ:=au.lt
   replace aI:=ah.lt
   obtain⟨y2,hy2⟩ : ∃y, ((x.Y.set q 171).set (q+1) (c : Int))[q+2]? =some y:= ⟨_,List.getElem?_eq_getElem (by rw [List.length_set,List.length_set];have h1:=HQ.out;have h2:=KP.out;omega)⟩
   have cB2:=Jp.cell_ hy2 FI.pos
   simp only [FI,Nat.mul_one,Nat.add_zero] at cB2
   replace cB2 : w3.cell? ⟨gB,q+2,none⟩ =some (.int .i64 y2) :=cB2
   have OO:=Jp.eD (q+2)
   have h1:=HQ.out
   have h2:=KP.out
   have t2 : (q : Int) +2< (x.Y.length : Int) :=by omega
   have u2 : (0 : Int) ≤ (q : Int) +2:=by omega
   have v2 : ((q : Int) +2).toNat=q+2:=by omega
   have r2 : IntKind.i64.wrap ((q : Int) +2) = (q : Int) +2:=IntWalk.i64_in _ ⟨by omega,by omega⟩
   clear h1 h2 hy0 hy1 hy2
   have HY:=Hid.aT (show q+2< ((x.Y.set q 171).set (q+1) (c : Int)).length by rw [List.length_set,List.length_set];have h1:=HQ.out;have h2:=KP.out;omega)
   go_cut [] from 10 to 67 (fun wx=>bA FI 3 wx (.slice (some ⟨gB,0,none⟩) x.Y.length pB) (jH x.Y k c 0) ∧bA FI 3 wx (.slice (some ⟨gC,0,none⟩) x.Z.length pC) (x.Z.set k c) ∧aB wx w.heap.size [.slice (some ⟨gB,0,none⟩) x.Y.length pB, .slice (some ⟨gC,0,none⟩) x.Z.length pC]∧aB wx (w.heap.size+1) [.slice none 0 0, .slice none 0 0]∧aY (dU.foot ⟨⟨some ⟨gB,0,none⟩,x.Y.length,pB⟩, ⟨some ⟨gC,0,none⟩,x.Z.length,pC⟩⟩) w wx)
   case first=>
    rename_i J9 K9 FP FQ
    go_region_with (go_at_call 150;refine(hpp _).mono ?_;rintro e wv ⟨rfl,rfl⟩)
    all_goals
     refine FQ _ _ (Met.intro (FP _ _ ?_))
     (repeat apply Exists.intro)
     refine⟨?_,rfl⟩
     refine⟨by rw [←FD.out];exact(bA.keep (w':=w3.drew) Jp (fun _ _=>rfl)).DN HY.out _, (bA.keep (w':=w3.drew) LW (fun _ _=>rfl)).zT FE _ _,au.drew.other (by omega) _,ah.drew.other (by omega) _, (aY.bf hB).gD Jo _⟩
   case rest=>
    clear Jp LW au ah hB cB2 OO CO aD aF aj ak aL ay aQ aI FD
    obtain⟨oB,oC,au,ah,hB⟩ :=hcut
    have aD:=au.cell 0 _ rfl
    have aF:=au.cell 1 _ rfl
    have aj:=ah.cell 0 _ rfl
    have ak:=ah.cell 1 _ rfl
    have aL:=au.dn
    have ay:=ah.dn
    have aQ:=au.lt
    have aI:=ah.lt
    have zz:=ah.lt
    have oS : bA FI 3 (wc.alloc (.cells #[] 3)) (.slice (some ⟨wc.heap.size,0,none⟩) 0 0) []:=bA.lit FI [] #[] rfl (by simp [maxLen]) wc 3
    replace oB:=oB.aH (.cells #[] 3)
    replace oC:=oC.aH (.cells #[] 3)
    replace au:=au.alloc (.cells #[] 3)
    replace ah:=ah.alloc (.cells #[] 3)
    replace hB:=hB.aH (.cells #[] 3)
    go_wp2_with fail
    go_loopw [8,9] (fun s i wr=> ∃j : Nat,j≤n∧i= .int .i64 j∧bA FI 3 wr (.slice (some ⟨gB,0,none⟩) x.Y.length pB) (jH x.Y k c j) ∧bA FI 3 wr (.slice (some ⟨gC,0,none⟩) x.Z.length pC) (x.Z.set k c) ∧bA FI 3 wr s (d_ k j) ∧ (∀b∈cu s,w.heap.size+1<b) ∧aB wr w.heap.size [.slice (some ⟨gB,0,none⟩) x.Y.length pB, .slice (some ⟨gC,0,none⟩) x.Z.length pC]∧aB wr (w.heap.size+1) [.slice none 0 0, .slice none 0 0]∧aY (dU.foot ⟨⟨some ⟨gB,0,none⟩,x.Y.length,pB⟩, ⟨some ⟨gC,0,none⟩,x.Z.length,pC⟩⟩) w wr) (fun _ i _=>n - (intOf i).toNat)
    case atStart=>exact⟨0,Nat.zero_le _,rfl,oB,oC,oS,fun b hb=>by have:=bY.1 hb;omega,au,ah,hB⟩
    case round=>
     clear oB oC oS au ah hB zz aD aF aj ak aL ay aQ aI
     obtain⟨j,hj,rfl,qQ,tq,rJ,fS,au,ah,hB⟩ :=hrel
     have aD:=au.cell 0 _ rfl
     have aF:=au.cell 1 _ rfl
     have aj:=ah.cell 0 _ rfl
     have ak:=ah.cell 1 _ rfl
     have aL:=au.dn
     have ay:=ah.dn
     have aQ:=au.lt
     have aI:=ah.lt
     have zz:=ah.lt
     have HSL:=Hid.aT (pV k j)
     by_cases hlt : j<n
     ·have hrm:=KJ.out j hlt
      have hgl:=KI.out j hj
      have Jg:=Hid.aT (KM.out j)
      have HST:=Hid.aT (wu k j)
      have hsk:=fun W=>hsa j hlt W
      have AY:=fun W=>hga j hlt W
      have J4 : k * 64+8+j * (eu (c : Int)).toNat+4≤ (jH x.Y k c j).length:=by rw [hgl];omega
      clear hrm hgl hsa hga KJ KI KM
      obtain⟨P,hP⟩ : ∃P,P=k * 64+8+j * (eu (c : Int)).toNat:= ⟨_,rfl⟩
      rw [←hP] at AY Jg J4
      clear hP
      have hst : ∀W : World,bA FI 3 W (.slice (some ⟨gB,0,none⟩) x.Y.length pB) (jH x.Y k c j) →Calls Tryz.prog 86 #[.slice (some ⟨gB,0,none⟩) x.Y.length pB, .int .i64 (P : Int), .int .i64 4, .int .i64 1] W fun e w'=>e= .returned (.slice (some ⟨gB,0,none⟩) x.Y.length pB) ∧bA FI 3 w' (.slice (some ⟨gB,0,none⟩) x.Y.length pB) (putAt (jH x.Y k c j) P (fQ 4 1)) ∧aY (cu (.slice (some ⟨gB,0,none⟩) x.Y.length pB)) W w':=fun W o=>sF W _ (jH x.Y k c j) P 4 1 o (by decide) (by decide) (by decide) (by decide) J4
      clear J4
      obtain⟨sl,hsl⟩ : ∃q,q=k * 4+j:= ⟨_,rfl⟩
      rw [←hsl] at hsk AY HST
      clear hsl
      have Jm : bA FI 3 wr.drew (.slice (some ⟨gB,0,none⟩) x.Y.length pB) (jH x.Y k c j) :=qQ.keep (fun _ _=>rfl)
      have ob : bA FI 3 wr (.slice (some ⟨gB,0,none⟩) x.Y.length pB) (jH x.Y k c j) :=qQ
      go_upto_region 14 with (go_at_call 150;refine(hpp _).mono ?_;rintro e wv ⟨rfl,rfl⟩)
      go_region_with (first| (go_at_call 202;refine(hsk _).mono ?_;rintro e wv ⟨rfl,rfl⟩) | (go_at_call 158;refine(AY _).mono ?_;rintro e wv ⟨rfl,rfl⟩) | (go_at_call 86; (first| ((with_reducible refine(hst _ ob).mono ?_);rintro e wq ⟨rfl,hbN,hx⟩;replace hx : aY (cu (.slice (some ⟨gB,0,none⟩) x.Y.length pB)) wr wq:= ⟨hx.os,hx.tape,hx.output,hx.size,hx.block⟩;replace au:=au.aM hx (fun hm=>by have:=bY.1 hm;omega);replace ah:=ah.aM hx (fun hm=>by have:=bY.1 hm;omega);replace qQ:=hbN;replace tq:=tq.aM hx (fun b hb hm=>by have e1:=bY.1 hb;have e2:=bY.1 hm;omega);replace rJ:=rJ.aM hx (fun b hb hm=>by have e2:=bY.1 hm;have:=fS b hb;omega);replace hB:=hB.trans (hx.mono (fun b hb=>by rw [bY.1 hb];exact Jo));replace aD:=au.cell 0 _ rfl;replace aF:=au.cell 1 _ rfl;replace aj:=ah.cell 0 _ rfl;replace ak:=ah.cell 1 _ rfl;replace aL:=au.dn;replace ay:=ah.dn;replace aQ:=au.lt;replace aI:=ah.lt) | ((with_reducible refine(hst _ Jm).mono ?_);rintro e wq ⟨rfl,hbN,hx⟩;replace hx : aY (cu (.slice (some ⟨gB,0,none⟩) x.Y.length pB)) wr wq:= ⟨hx.os,hx.tape,hx.output,hx.size,hx.block⟩;replace au:=au.aM hx (fun hm=>by have:=bY.1 hm;omega);replace ah:=ah.aM hx (fun hm=>by have:=bY.1 hm;omega);replace qQ:=hbN;replace tq:=tq.aM hx (fun b hb hm=>by have e1:=bY.1 hb;have e2:=bY.1 hm;omega);replace rJ:=rJ.aM hx (fun b hb hm=>by have e2:=bY.1 hm;have:=fS b hb;omega);replace hB:=hB.trans (hx.mono (fun b hb=>by rw [bY.1 hb];exact Jo));replace aD:=au.cell 0 _ rfl;replace aF:=au.cell 1 _ rfl;replace aj:=ah.cell 0 _ rfl;replace ak:=ah.cell 1 _ rfl;replace aL:=au.dn;replace ay:=ah.dn;replace aQ:=au.lt;replace aI:=ah.lt))))
      all_goals
       clear AY hst ob Jm
       rw [←Jg.out] at qQ
       replace au : aB (wq.setCell ⟨w.heap.size,0,none⟩ (.slice (some ⟨gB,0,none⟩) x.Y.length pB)) w.heap.size [.slice (some ⟨gB,0,none⟩) x.Y.length pB, .slice (some ⟨gC,0,none⟩) x.Z.length pC]:=au.set 0 (.slice (some ⟨gB,0,none⟩) x.Y.length pB)
       replace ah:=ah.other (g':=w.heap.size) (i:=0) (by omega) (.slice (some ⟨gB,0,none⟩) x.Y.length pB)
       replace qQ:=qQ.zT (g':=w.heap.size) (by omega) 0 (.slice (some ⟨gB,0,none⟩) x.Y.length pB)
       replace tq:=tq.zT (g':=w.heap.size) (by omega) 0 (.slice (some ⟨gB,0,none⟩) x.Y.length pB)
       replace rJ:=rJ.keep (w':=wq.setCell ⟨w.heap.size,0,none⟩ (.slice (some ⟨gB,0,none⟩) x.Y.length pB)) (fun b hb=>jR wq _ (fun e=>by have h2:=fS b (bV.2 hb);have h3 : b=w.heap.size:=e.symm;omega))
       replace hB:=hB.gY (g:=w.heap.size) (i:=0) (Nat.le_refl _) (.slice (some ⟨gB,0,none⟩) x.Y.length pB)
       clear aD aF aj ak aL ay aQ aI
       generalize OP : wq.setCell ⟨w.heap.size,0,none⟩ (.slice (some ⟨gB,0,none⟩) x.Y.length pB) =w5 at qQ tq rJ au ah hB⊢
       clear OP
       have aD:=au.cell 0 _ rfl
       have aF:=au.cell 1 _ rfl
       have aj:=ah.cell 0 _ rfl
       have ak:=ah.cell 1 _ rfl
       have aL:=au.dn
       have ay:=ah.dn
       have aQ:=au.lt
       have aI:=ah.lt
       go_wp2_with (first| (go_at_call 202;refine(hsk _).mono ?_;rintro e wv ⟨rfl,rfl⟩) | (at_builtin;refine gu Tryz.stInt rfl _ _ rfl (v:=u8) (y:= .slice (some ⟨w5.heap.size,0,none⟩) 1 1) (l:=d_ k j) (m:= [(sl : Int)]) rfl rfl (rJ.aH _) (bA.lit FI [(sl : Int)] #[.int .i64 (sl : Int)] rfl (by simp [maxLen]) w5 3).rd' (by rw [HSL.out];simp;omega) ?_;intro v' w7 ho' hg' hat'))
       have hx7:=aY.jP hg'
       have Jh:= (hB.aH (.cells #[.int .i64 (sl : Int)] 3)).BN hx7 (fun b hb=> .inr (by have:=fS b hb;omega))
       go_roundw
       case rel=>
        refine⟨j+1,by omega,by go_num, (qQ.aH (.cells #[.int .i64 (sl : Int)] 3)).aM hx7 (fun b hb hm=>by have e1:=bY.1 hb;have:=fS b hm;omega), (tq.aH (.cells #[.int .i64 (sl : Int)] 3)).aM hx7 (fun b hb hm=>by have e1:=bY.1 hb;have:=fS b hm;omega),by rw [HST.out];exact ho',fun b hb=> ?_, (au.alloc (.cells #[.int .i64 (sl : Int)] 3)).aM hx7 (fun hm=>by have:=fS _ hm;omega), (ah.alloc (.cells #[.int .i64 (sl : Int)] 3)).aM hx7 (fun hm=>by have:=fS _ hm;omega),Jh⟩
        rcases iy hat' b hb with hh|hh
        ·exact fS b hh
        ·simp at hh
         omega
       case measure=>simp [intOf];omega
     ·obtain rfl : j=n:=by omega
      obtain⟨A,c',hv,_⟩ :=rJ.rd'
      subst hv
      go_wp2_with (go_at_call 150;refine(hpp _).mono ?_;rintro e wv ⟨rfl,rfl⟩)
      refine bodyPost_ret (v:= .tuple #[.agg #[.slice (some ⟨gB,0,none⟩) x.Y.length pB, .slice (some ⟨gC,0,none⟩) x.Z.length pC], .slice A (d_ k j).length c']) (by simp [results,Tryz.results165,go_sem,aj,ak]) rfl ⟨⟨A, (d_ k j).length,c'⟩,rfl,by rw [LP.out];exact⟨qQ.aM (F:= [w.heap.size+1]) bW (fun b hb hm=>by simp only [List.mem_cons,List.not_mem_nil,or_false] at hm;have:=bY.1 hb;omega),tq.aM (F:= [w.heap.size+1]) bW (fun b hb hm=>by simp only [List.mem_cons,List.not_mem_nil,or_false] at hm;have:=bY.1 hb;omega),fun b hb hm=>by have e1:=bY.1 hb;have e2:=bY.1 hm;omega⟩,rJ.aM (F:= [w.heap.size+1]) bW (fun b hb hm=>by simp only [List.mem_cons,List.not_mem_nil,or_false] at hm;have:=fS b hb;omega),fun b hb=>by have:=fS b hb;omega,hB.BN (G:= [w.heap.size+1]) bW (fun b hb=> .inr (by simp only [List.mem_cons,List.not_mem_nil,or_false] at hb;omega))⟩
end Go.Proofs.YtkmggglljkmjoaaGreat
namespace Go.Proofs.YtkmggglljkmjoaaGreat
open Go.RowKit
theorem FR {l : List Int}{x : Int}(h : idxOf (fun y=>y == x) l= -1){k : Nat}(hk : k<l.length) : ¬ l[k]=x:=by
 intro he
 unfold idxOf at h
 cases hx : l.findIdx? (fun y=>y == x) with
 |none=>
  have:=List.findIdx?_eq_none_iff.1 hx l[k] (List.getElem_mem hk)
  simp [he] at this
 |some i=>
  rw [hx] at h
  simp at h
set_option maxRecDepth 100000 in
set_option maxHeartbeats 4000000 in
theorem Ie (w : World)(H : dU)(x : Heap)(c : Nat)(h : gU w w.heap.size H x)(hs : gI x=true)(hp : idxOf (fun y=>y == -1) x.Z= -1) :
  Calls Tryz.prog 165 #[.agg #[.slice H.Y.a H.Y.l H.Y.c, .slice H.Z.a H.Z.l H.Z.c], .int .i64 c] w fun e w'=> ∃ (A : Option Addr) (cp : Nat),e= .returned (.tuple #[.agg #[.slice H.Y.a H.Y.l H.Y.c, .slice H.Z.a H.Z.l H.Z.c], .slice A 0 cp]) ∧Below w.heap.size w w':=by
 obtain⟨⟨A1,n1,c1⟩, ⟨A2,n2,c2⟩⟩ :=H
 have hr2 : fE FI w w.heap.size (.slice A2 n2 c2) x.Z:=h.Z
 have hcl:= (iA hs).cl
 have HN:=Hid.aT (fun k (hk : k<x.Z.length) =>FR hp hk)
 clear h hs hp
 obtain⟨w0,hW0⟩ : ∃x,x= ((w.alloc (.cells #[.slice A1 n1 c1, .slice A2 n2 c2] 26)).alloc (.cells #[.slice none 0 0, .slice none 0 0] 26)) := ⟨_,rfl⟩
 have au : aB w0 (w.heap.size) [.slice A1 n1 c1, .slice A2 n2 c2]:=by
  rw [hW0]
  exact aB.alloc aB.nw _
 have ah : aB w0 (w.heap.size+1) [.slice none 0 0, .slice none 0 0]:=by
  rw [hW0]
  exact aB.nw
 have hB : Below w.heap.size w w0:=by
  rw [hW0]
  exact dJ
 go_enter Tryz.func165,Tryz.ntmps165
 go_wp2_with fail
 rw [←hW0]
 clear hW0
 have g_:=au.lt
 have iB:=ah.lt
 obtain⟨aD,aF,aL,aQ⟩ :=au.f2
 obtain⟨aj,ak,ay,aI⟩ :=ah.f2
 clear aD aF aL aQ
 obtain⟨aD,aF,aL,aQ⟩ :=au.f2
 clear aj ak ay aI
 obtain⟨aj,ak,ay,aI⟩ :=ah.f2
 go_loop [6] (fun i=> ∃k : Nat,k≤6∧i= .int .i64 k) (fun i=>6 - (intOf i).toNat)
 case atStart=>exact⟨0,by omega,rfl⟩
 case round=>
  obtain⟨k,hk,rfl⟩ :=hrel
  by_cases hlt : k<6
  ·have hkl : k<x.Z.length:=by omega
   obtain⟨g,off,cap2,he,hg,_,_,hc⟩ := (eP hr2 hB).at_ (List.getElem?_eq_getElem hkl)
   injection he with e1 e2 e3
   subst e1 e2 e3
   have p0 : w0.cell? ⟨g,off+k,none⟩ =some (.int .i64 x.Z[k]) :=by simpa [FI] using hc 0 _ rfl
   have hne:=HN.out k hkl
   clear hc hr2
   have Ic : (k : Int) < (x.Z.length : Int) :=by omega
   generalize x.Z[k]=y at p0 hne
   go_wp2_with fail
   go_round
   ·exact⟨k+1,by omega,by go_num⟩
   ·simp [intOf];omega
  ·obtain rfl : k=6:=by omega
   go_wp2_with fail
   have hbx:= ((ah.set 0 (.slice A1 n1 c1)).set 1 (.slice A2 n2 c2)).alloc (.cells #[] 3)
   have zU:=hbx.cell 0 _ rfl
   have zV:=hbx.cell 1 _ rfl
   refine bodyPost_ret (v:= .tuple #[.agg #[.slice A1 n1 c1, .slice A2 n2 c2], .slice (some ⟨w0.heap.size,0,none⟩) 0 0]) (by simp [results,Tryz.results165,go_sem,zU,zV]) rfl ⟨⟨_,_,rfl⟩,Below.trans hB dQ⟩
end Go.Proofs.YtkmggglljkmjoaaGreat
