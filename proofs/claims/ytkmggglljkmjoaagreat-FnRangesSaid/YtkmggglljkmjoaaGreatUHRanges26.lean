/- m -/
import Derived.Test.YtkmggglljkmjoaaGreatUHRanges25
import Derived.Test.YtkmggglljkmjoaaGreatUHRanges24
import Derived.Test.YtkmggglljkmjoaaGreatUHRanges23
set_option maxRecDepth 100000
set_option maxHeartbeats 4000000
namespace Go.Proofs.YtkmggglljkmjoaaGreat
open Go.RowKit
open Go.Proofs.YtkmggglljkmjoaaGreat.Lim
theorem _root_.Go.Proofs.YtkmggglljkmjoaaGreat.Lim.fQ.jg {w w' : World}{g B : Nat}{code : List Int}(h : fQ w g code)(hg : g<B)(hb : Below B w w')(_hB : B≤w.heap.size) : fQ w' g code:=by
 obtain⟨lt,sS, ⟨A,cap,p0,r⟩, ⟨j,p1,hi⟩, ⟨hh,p2⟩,f1,f2⟩ :=h;have e : ∀k,k≤g→w'.heap[k]? =w.heap[k]? :=fun k hk=>hb.block k (by omega);have ec : ∀j,w'.cell? ⟨g,j,none⟩ =w.cell? ⟨g,j,none⟩ :=fun j=>by simp only [World.cell?,e g (XQ _)]
 have ef : ∀j,w'.frozen? ⟨g,j,none⟩ =w.frozen? ⟨g,j,none⟩ :=fun j=>by simp only [World.frozen?,e g (XQ _)]
 exact⟨XO lt hb.size,sS, ⟨A,cap, (ec 0).trans p0,r.keep (fun k hk=>e k (by omega)) (XQ _)⟩, ⟨j, (ec 1).trans p1,hi⟩, ⟨hh, (ec 2).trans p2⟩, (ef 1).trans f1, (ef 2).trans f2⟩
theorem _root_.Go.Proofs.YtkmggglljkmjoaaGreat.Lim.fQ.aY {w : World}{g : Nat}{code : List Int}(h : fQ w g code) : fQ w.drew g code:=h.drewN 1
theorem iq {w : World}{g j a i : Nat}{u v : Value}(h : w.cell? ⟨g,j,none⟩ =some v)(hn : a≠g) : (w.setCell ⟨a,i,none⟩ u).cell? ⟨g,j,none⟩ =some v:=by
 have e:=j5 w u (i:=i) hn;simp only [World.cell?] at h⊢;rw [e];exact h
theorem gy {w : World}{g j : Nat}{o : Obj}{v : Value}(h : w.cell? ⟨g,j,none⟩ =some v)(hn : g<w.heap.size) : (w.alloc o).cell? ⟨g,j,none⟩ =some v:= (lu w o g j hn).trans h
theorem gV {w : World}{g j : Nat}{v : Value}(h : w.cell? ⟨g,j,none⟩ =some v) : w.drew.cell? ⟨g,j,none⟩ =some v:=h
theorem PV {x : Int}(h0 : 0≤x)(h1 : x≤1000) : IntKind.i64.wrap (1+x) =1+x:=by
 rw [IntKind.wrap_i64];omega
theorem jQ {w : World}{o : Obj}{n : Nat}(h : (w.alloc o).heap.size≤n) : w.heap.size+1≤n:=by rwa [World.size_alloc] at h
theorem kN {w : World}{n : Nat}(h : w.drew.heap.size≤n) : w.heap.size≤n:=h
theorem sQ {w : World}{o : Obj}{F : List Nat}(h : ∀g∈F, (w.alloc o).heap.size≤g) : ∀g∈F,w.heap.size+1≤g:=fun g hg=>jQ (h g hg)
theorem wF (w : World) : w.drew.heap.size=w.heap.size:=rfl
theorem qA (w : World)(g a : Nat)(code : List Int)(l : List Int)(vs : List Value)(n : Nat)(bx : aJ w a vs)(hvs : vs=l.map (Value.int .i64))(hn : n=l.length)(hd : a∉ [g])(hl : 0<l.length)(hl2 : l.length≤1048576)(hc : fQ w g code) : Calls Tryz.prog 64 #[.pointer (some ⟨g,0,none⟩), .slice (some ⟨a,0,none⟩) n n] w (Px l w g code) :=by
 subst hn hvs;go_enter Tryz.func64,Tryz.ntmps64;go_wp2_with fail;refine(bU _ g code l.length (by unfold dV;omega) hc).mono ?_;rintro e w1 ⟨x,rfl,x0,x1,hc1,hg1⟩;obtain⟨k,rfl⟩ :=XP x0;have hk : k<l.length:=by rcases x1 with h|h<;>omega
 have p0:= (bx.aM hg1 hd).cell k (.int .i64 l[k]) (by simp [hk]);have hz:= (bx.aM hg1 hd).lt;have hm:=X0 hk;generalize l[k]=y at p0 hm;go_wp2_with fail;go_ret;exact⟨y,rfl,hm,hc1,hg1⟩
theorem aX.H6 {α : Type}{T : FT α}{e : TypeId}{w : World}{g n c i : Nat}{l : List α}(h : aX T e w (.slice (some ⟨g,0,none⟩) n c) l)(hi : i≤l.length) : aX T e w (.slice (some ⟨g,0,none⟩) i c) (l.take i) :=by
 have a:=aX.prefix_ (l:=l.take i) (r:=l.drop i) (by rw [List.take_append_drop];exact h)
 rwa [List.length_take,Nat.min_eq_left hi] at a
theorem aX.nK {w : World}{g n c : Nat}{l : List Int}(h : aX FI 3 w (.slice (some ⟨g,0,none⟩) n c) l) : ∀j,j<l.length→w.cell? ⟨g,j,none⟩ =some (.int .i64 (l.getD j 0)) :=fun j hj=>by
 rw [Lim.aX.nI h (XL hj),getD_at hj]
theorem aX.aY {α : Type}{T : FT α}{e : TypeId}{w : World}{v : Value}{l : List α}(h : aX T e w v l) : aX T e w.drew v l:=h.keep (fun _ _=>rfl)
theorem dF.aY {α : Type}{T : FT α}{e E : TypeId}{w : World}{v : Value}{s : List SV}{l : List (List α)}(h : dF T e E w v s l) : dF T e E w.drew v s l:=h.keep (fun _ _=>rfl)
theorem fM.aY {w : World}{H : eX}{x : Heap}(h : fM w H x) : fM w.drew H x:=h.keep (fun _ _=>rfl)
theorem eZ.aY {w : World}{H : bF}{x : Lists}(h : eZ w H x) : eZ w.drew H x:=h.keep (fun _ _=>rfl)
theorem fq.aY {w : World}{H : bV}{x : Mem}(h : fq w H x) : fq w.drew H x:=h.keep (fun _ _=>rfl)
end Go.Proofs.YtkmggglljkmjoaaGreat
namespace Go.Proofs.YtkmggglljkmjoaaGreat
open Go.RowKit
theorem Dn (w : World)(H : bF)(x : Lists)(wk c : Nat)(l : List Int)(s : Int)(h : jC w w.heap.size H x)(hs : bX x≤536870912)(hok : gF x=true)(hw : wk<3)(hc : c<3)(hrow : x.O[wk * 3+c]? =some (l++ [s])) :
  Calls Tryz.prog 103 #[.agg #[.slice H.G.a H.G.l H.G.c, .slice H.O.a H.O.l H.O.c], .int .i64 wk, .int .i64 c] w fun e w'=> ∃H' : bF,e= .returned (.tuple #[.agg #[.slice H'.G.a H'.G.l H'.G.c, .slice H'.O.a H'.O.l H'.O.c], .int .i64 s]) ∧eZ w' H' {x with O:=x.O.set (wk * 3+c) l}∧ (∀g∈H'.foot,w.heap.size≤g) ∧Below w.heap.size w w':=by
 obtain⟨hl3,wY⟩ :=oJ hok;have H3:=Hid.aD hl3;have H9:=Hid.aD wY;have HR:=Hid.aD hrow;have hsr : (l++ [s]).length≤536870912:=by
  have:=nX (XV hrow);unfold bX at hs;omega
 simp only [XU,List.length_singleton] at hsr;have hoa:=fun W=>pQ wk c hw hc W;have um:=Hid.aD (show wk * 3+c<x.O.length by omega);clear hl3 wY hrow;obtain⟨k,hk⟩ : ∃k,k=wk * 3+c:= ⟨_,rfl⟩;rw [←hk] at hoa HR um;rw [←hk];clear hk;obtain⟨w0,hW0⟩ : ∃x,x= ((w.alloc (.cells #[.slice H.G.a H.G.l H.G.c, .slice H.O.a H.O.l H.O.c] 29)).alloc (.cells #[.slice none 0 0, .slice none 0 0] 29)) := ⟨_,rfl⟩;have ah : aJ w0 (w.heap.size) [.slice H.G.a H.G.l H.G.c, .slice H.O.a H.O.l H.O.c]:=by
  rw [hW0];exact aJ.alloc aJ.nw _
 have aj : aJ w0 (w.heap.size+1) [.slice none 0 0, .slice none 0 0]:=by
  rw [hW0];exact aJ.nw
 have hB : Below w.heap.size w w0:=by
  rw [hW0];exact cO
 go_enter Tryz.func103,Tryz.ntmps103;go_wp2_with fail;rw [←hW0];clear hW0;have jA:=ah.lt;have kL:=aj.lt;obtain⟨aL,aN,aT,bE⟩ :=ah.f2;obtain⟨ak,au,aH,aR⟩ :=aj.f2;refine(qE _ H x (j4 h hB) hs).mono ?_;rintro e w1 ⟨aF,rfl,bB,l_c,hb⟩;have u_c:=bB.lt;replace ah:=ah.below hb;replace aj:=aj.below hb;replace hB:=hB.trans (hb.mono hB.size);have sz:=hb.size;clear hb;clear aL aN aT bE;obtain⟨aL,aN,aT,bE⟩ :=ah.f2;clear ak au aH aR;obtain⟨ak,au,aH,aR⟩ :=aj.f2;obtain⟨⟨A1,n1,p1⟩,T1, ⟨A2,n2,p2⟩,T2⟩ :=aF;obtain⟨g1,c1,hv1,hg1⟩ :=dF.l9 (v:= .slice A1 n1 p1) bB.G (by rw [H3.out];decide);obtain⟨g2,c2,hv2,hg2⟩ :=dF.l9 (v:= .slice A2 n2 p2) bB.O (by rw [H9.out];decide);injection hv1 with i1 i2 i3;injection hv2 with j1 j2 j3;subst i1 i2 i3 j1 j2 j3;have AV : g1∈bF.foot ⟨⟨some ⟨g1,0,none⟩,x.G.length,p1⟩,T1, ⟨some ⟨g2,0,none⟩,x.O.length,p2⟩,T2⟩ :=bF.aI.2 (.inl (dw.2 (.inl rfl)));have AX : g2∈bF.foot ⟨⟨some ⟨g1,0,none⟩,x.G.length,p1⟩,T1, ⟨some ⟨g2,0,none⟩,x.O.length,p2⟩,T2⟩ :=bF.aI.2 (.inr (dw.2 (.inl rfl)));have QC:=l_c _ AV;have QD:=l_c _ AX;clear AV AX;go_wp2_with (go_at_call 75;refine(hoa _).mono ?_;rintro e wv ⟨rfl,rfl⟩);clear hoa;generalize hO : Obj.cells #[.slice (some ⟨g1,0,none⟩) x.G.length p1, .slice (some ⟨g2,0,none⟩) x.O.length p2] 29=O_;replace ah:=ah.alloc O_;replace aj:=aj.alloc O_;replace bB:=bB.av O_;replace hB:=hB.alloc hB.size O_;have bJ : aJ (w1.alloc O_) w1.heap.size [.slice (some ⟨g1,0,none⟩) x.G.length p1, .slice (some ⟨g2,0,none⟩) x.O.length p2]:=hO ▸ aJ.new _ _ _;have jG:=bJ.lt;have sz : w1.heap.size≤ (w1.alloc O_).heap.size:=X7 bJ.lt;generalize hG : (w1.alloc O_) =w2 at ah aj bB hB bJ jG sz⊢;clear hG hO O_;clear aL aN aT bE;obtain⟨aL,aN,aT,bE⟩ :=ah.f2;clear ak au aH aR;obtain⟨ak,au,aH,aR⟩ :=aj.f2;obtain⟨bO,bQ,dn,dW⟩ :=bJ.f2;refine(pU _ H x (j4 h hB) (XR (Nat.le_add_right _ _) hs) (XR (Nat.le_add_left _ _) hs)).mono ?_;rw [hok];rintro e w3 ⟨rfl,hb⟩;replace ah:=ah.below hb;replace aj:=aj.below hb;replace bJ:=bJ.below hb;have bB:=bB.step0 hb;replace hB:=hB.trans (hb.mono hB.size);have sz:=hb.size;clear hb;clear aL aN aT bE;obtain⟨aL,aN,aT,bE⟩ :=ah.f2;clear ak au aH aR;obtain⟨ak,au,aH,aR⟩ :=aj.f2;clear bO bQ dn dW;obtain⟨bO,bQ,dn,dW⟩ :=bJ.f2;clear hok;obtain⟨so,qo⟩ : ∃q,T2[k]? =some q:= ⟨_,XL (by rw [bB.O.len];exact um.out)⟩;have HV:=Hid.aD qo;clear qo;have ino:=bB.O.inner k so _ HV.out HR.out;have po:=bB.O.outer.cell_ (j:=0) HV.out (by decide);simp only [FS,Nat.mul_one,Nat.add_zero] at po;have hkk : k<x.O.length:=um.out;obtain⟨Ao,co,vv,hq1,_⟩ :=ino.rd';obtain⟨ao,no,bo⟩ :=so;injection vv with k1 k2 k3;subst k1 k2 k3;simp only [XU,List.length_singleton] at hq1;obtain⟨gs,cs,hvs,hgs⟩ :=aX.jf (v:= .slice ao (l++ [s]).length bo) ino (by simp);injection hvs with k1 k2 k3;subst k1 k3;have hcl : l.length+1≤bo:=hq1;have Cr : w3.cell? ⟨g2,k,none⟩ =some (Value.slice (some ⟨gs,0,none⟩) (l.length+1) bo) :=by simpa [SV.val] using po
 clear po;have ce:=aX.cell_ (show aX FI 3 _ (.slice (some ⟨gs,0,none⟩) (l++ [s]).length bo) (l++ [s]) from ino) (last_at (l:=l) (s:=s)) FI.pos;simp only [FI,Nat.mul_one,Nat.add_zero] at ce;replace ce : _=some (Value.int .i64 s) :=ce;have OG:=World.block_lt_of_cell? _ _ ce;have hq:=vo w3 gs l.length bo s ce OG (by omega) hcl;clear ce;clear ino;go_wp2_with fail;refine(hq).mono ?_;rintro e w4 ⟨rfl,hb⟩;replace ah:=ah.below hb;replace aj:=aj.below hb;replace bJ:=bJ.below hb;replace bB:=bB.step0 hb;replace hB:=hB.trans (hb.mono hB.size);have sz:=hb.size;clear hb;clear aL aN aT bE;obtain⟨aL,aN,aT,bE⟩ :=ah.f2;clear ak au aH aR;obtain⟨ak,au,aH,aR⟩ :=aj.f2;clear bO bQ dn dW;obtain⟨bO,bQ,dn,dW⟩ :=bJ.f2;clear hq Cr;replace bB : eZ w4 ⟨⟨some ⟨g1,0,none⟩,x.G.length,p1⟩,T1, ⟨some ⟨g2,0,none⟩,x.O.length,p2⟩,T2⟩ x:=bB;replace ah:=ah.alloc (.cells #[.slice (some ⟨gs,0,none⟩) l.length bo] 94);replace aj:=aj.alloc (.cells #[.slice (some ⟨gs,0,none⟩) l.length bo] 94);replace bJ:=bJ.alloc (.cells #[.slice (some ⟨gs,0,none⟩) l.length bo] 94);replace bB:=bB.av (.cells #[.slice (some ⟨gs,0,none⟩) l.length bo] 94);replace hB:=hB.alloc hB.size (.cells #[.slice (some ⟨gs,0,none⟩) l.length bo] 94);have Eb : w4.heap.size≤ (w4.alloc (.cells #[.slice (some ⟨gs,0,none⟩) l.length bo] 94)).heap.size:=by simp
 have ff : (w4.alloc (.cells #[.slice (some ⟨gs,0,none⟩) l.length bo] 94)).frozen? ⟨g2,k,none⟩ =false:=bB.O.outer.dM k;have po : (w4.alloc (.cells #[.slice (some ⟨gs,0,none⟩) l.length bo] 94)).cell? ⟨g2,k,none⟩ =some (.slice (some ⟨gs,0,none⟩) (l++ [s]).length bo) :=by have po:=bB.O.outer.cell_ (j:=0) HV.out (by decide);simp only [FS,Nat.mul_one,Nat.add_zero] at po;exact po
 have ino:=bB.O.inner k _ _ HV.out HR.out;have Lb : g2≠w.heap.size:=by omega
 have Lc : w.heap.size≠g2:=by omega
 have Ld : g2≠w.heap.size+1:=by omega
 have Le : w.heap.size+1≠g2:=by omega
 have QE : g2≠w1.heap.size:=by omega
 have QF : w1.heap.size≠g2:=by omega
 have hin:=aX.prefix_ (g:=gs) (n:= (l++ [s]).length) (c:=bo) (l:=l) (r:= [s]) ino;have hN:=dF.BX (s':= ⟨some ⟨gs,0,none⟩,l.length,bo⟩) (l':=l) bB.O HV.out hin rfl;change dF _ _ _ (World.setCell _ _ (.slice (some ⟨gs,0,none⟩) l.length bo)) _ _ _ at hN;clear aL aN aT bE;obtain⟨aL,aN,aT,bE⟩ :=ah.f2;clear ak au aH aR;obtain⟨ak,au,aH,aR⟩ :=aj.f2;clear bO bQ dn dW;obtain⟨bO,bQ,dn,dW⟩ :=bJ.f2;go_wp2_with fail;have hO:=bB.G.aM (F:= [g2]) ((bn.refl _ (w4.alloc (.cells #[.slice (some ⟨gs,0,none⟩) l.length bo] 94))).dG (g:=g2) (i:=k) (by simp) (.slice (some ⟨gs,0,none⟩) l.length bo)) (fun b hb hm=>by simp only [Pe,Pd,XK] at hm;subst hm;exact bB.jy b hb (dw.2 (.inl rfl)));have hfs : bT (.slice (some ⟨g2,0,none⟩) x.O.length p2) (T2.set k ⟨some ⟨gs,0,none⟩,l.length,bo⟩) =bT (.slice (some ⟨g2,0,none⟩) x.O.length p2) T2:=by unfold bT;rw [lH (s':= ⟨some ⟨gs,0,none⟩,l.length,bo⟩) HV.out rfl]
 have hfm : ∀b,b∈bT (.slice (some ⟨g2,0,none⟩) x.O.length p2) (T2.set k ⟨some ⟨gs,0,none⟩,l.length,bo⟩) →b∈bT (.slice (some ⟨g2,0,none⟩) x.O.length p2) T2:=fun b hb=>by rw [←hfs];exact hb
 refine bodyPost_ret (v:= .tuple #[.agg #[.slice (some ⟨g1,0,none⟩) x.G.length p1, .slice (some ⟨g2,0,none⟩) x.O.length p2], .int .i64 s]) (by simp [results,Tryz.results103,go_sem,ak,au]) rfl ⟨⟨⟨some ⟨g1,0,none⟩,x.G.length,p1⟩,T1, ⟨some ⟨g2,0,none⟩,x.O.length,p2⟩,T2.set k ⟨some ⟨gs,0,none⟩,l.length,bo⟩⟩,rfl, ⟨hO.aM (F:= [w.heap.size+1]) dx (fun b hb hm=>by simp only [Pe,Pd,XK] at hm;have:=l_c b (bF.aI.2 (.inl hb));omega),hN.aM (F:= [w.heap.size+1]) dx (fun b hb hm=>by simp only [Pe,Pd,XK] at hm;have:=l_c b (bF.aI.2 (.inr (hfm b hb)));omega),fun b hb hm=>bB.jy b hb (hfm b hm)⟩,fun b hb=> ?_,Below.trans hB dU⟩;rcases bF.aI.1 hb with hb|hb
 ·have:=l_c b (bF.aI.2 (.inl hb))
  omega
 ·have:=l_c b (bF.aI.2 (.inr (hfm b hb)))
  omega
theorem sO (w : World)(H : bF)(x : Lists)(wk c : Nat)(h : jC w w.heap.size H x)(hs : bX x≤536870912)(hok : gF x=true)(hw : wk<3)(hc : c<3)(hrow : x.O[wk * 3+c]? =some ([])) :
  Calls Tryz.prog 103 #[.agg #[.slice H.G.a H.G.l H.G.c, .slice H.O.a H.O.l H.O.c], .int .i64 wk, .int .i64 c] w fun e w'=> ∃H' : bF,e= .returned (.tuple #[.agg #[.slice H'.G.a H'.G.l H'.G.c, .slice H'.O.a H'.O.l H'.O.c], .int .i64 (-1)]) ∧eZ w' H' x∧ (∀g∈H'.foot,w.heap.size≤g) ∧Below w.heap.size w w':=by
 obtain⟨hl3,wY⟩ :=oJ hok;have H3:=Hid.aD hl3;have H9:=Hid.aD wY;have HR:=Hid.aD hrow;have hoa:=fun W=>pQ wk c hw hc W;have um:=Hid.aD (show wk * 3+c<x.O.length by omega);clear hl3 wY hrow;obtain⟨k,hk⟩ : ∃k,k=wk * 3+c:= ⟨_,rfl⟩;rw [←hk] at hoa HR um;clear hk;obtain⟨w0,hW0⟩ : ∃x,x= ((w.alloc (.cells #[.slice H.G.a H.G.l H.G.c, .slice H.O.a H.O.l H.O.c] 29)).alloc (.cells #[.slice none 0 0, .slice none 0 0] 29)) := ⟨_,rfl⟩;have ah : aJ w0 (w.heap.size) [.slice H.G.a H.G.l H.G.c, .slice H.O.a H.O.l H.O.c]:=by
  rw [hW0];exact aJ.alloc aJ.nw _
 have aj : aJ w0 (w.heap.size+1) [.slice none 0 0, .slice none 0 0]:=by
  rw [hW0];exact aJ.nw
 have hB : Below w.heap.size w w0:=by
  rw [hW0];exact cO
 go_enter Tryz.func103,Tryz.ntmps103;go_wp2_with fail;rw [←hW0];clear hW0;have jA:=ah.lt;have kL:=aj.lt;obtain⟨aL,aN,aT,bE⟩ :=ah.f2;obtain⟨ak,au,aH,aR⟩ :=aj.f2;refine(qE _ H x (j4 h hB) hs).mono ?_;rintro e w1 ⟨aF,rfl,bB,l_c,hb⟩;have u_c:=bB.lt;replace ah:=ah.below hb;replace aj:=aj.below hb;replace hB:=hB.trans (hb.mono hB.size);have sz:=hb.size;clear hb;clear aL aN aT bE;obtain⟨aL,aN,aT,bE⟩ :=ah.f2;clear ak au aH aR;obtain⟨ak,au,aH,aR⟩ :=aj.f2;obtain⟨⟨A1,n1,p1⟩,T1, ⟨A2,n2,p2⟩,T2⟩ :=aF;obtain⟨g1,c1,hv1,hg1⟩ :=dF.l9 (v:= .slice A1 n1 p1) bB.G (by rw [H3.out];decide);obtain⟨g2,c2,hv2,hg2⟩ :=dF.l9 (v:= .slice A2 n2 p2) bB.O (by rw [H9.out];decide);injection hv1 with i1 i2 i3;injection hv2 with j1 j2 j3;subst i1 i2 i3 j1 j2 j3;have AV : g1∈bF.foot ⟨⟨some ⟨g1,0,none⟩,x.G.length,p1⟩,T1, ⟨some ⟨g2,0,none⟩,x.O.length,p2⟩,T2⟩ :=bF.aI.2 (.inl (dw.2 (.inl rfl)));have AX : g2∈bF.foot ⟨⟨some ⟨g1,0,none⟩,x.G.length,p1⟩,T1, ⟨some ⟨g2,0,none⟩,x.O.length,p2⟩,T2⟩ :=bF.aI.2 (.inr (dw.2 (.inl rfl)));have QC:=l_c _ AV;have QD:=l_c _ AX;clear AV AX;go_wp2_with (go_at_call 75;refine(hoa _).mono ?_;rintro e wv ⟨rfl,rfl⟩);clear hoa;generalize hO : Obj.cells #[.slice (some ⟨g1,0,none⟩) x.G.length p1, .slice (some ⟨g2,0,none⟩) x.O.length p2] 29=O_;replace ah:=ah.alloc O_;replace aj:=aj.alloc O_;replace bB:=bB.av O_;replace hB:=hB.alloc hB.size O_;have bJ : aJ (w1.alloc O_) w1.heap.size [.slice (some ⟨g1,0,none⟩) x.G.length p1, .slice (some ⟨g2,0,none⟩) x.O.length p2]:=hO ▸ aJ.new _ _ _;have jG:=bJ.lt;have sz : w1.heap.size≤ (w1.alloc O_).heap.size:=X7 bJ.lt;generalize hG : (w1.alloc O_) =w2 at ah aj bB hB bJ jG sz⊢;clear hG hO O_;clear aL aN aT bE;obtain⟨aL,aN,aT,bE⟩ :=ah.f2;clear ak au aH aR;obtain⟨ak,au,aH,aR⟩ :=aj.f2;obtain⟨bO,bQ,dn,dW⟩ :=bJ.f2;refine(pU _ H x (j4 h hB) (XR (Nat.le_add_right _ _) hs) (XR (Nat.le_add_left _ _) hs)).mono ?_;rw [hok];rintro e w3 ⟨rfl,hb⟩;replace ah:=ah.below hb;replace aj:=aj.below hb;replace bJ:=bJ.below hb;have bB:=bB.step0 hb;replace hB:=hB.trans (hb.mono hB.size);have sz:=hb.size;clear hb;clear aL aN aT bE;obtain⟨aL,aN,aT,bE⟩ :=ah.f2;clear ak au aH aR;obtain⟨ak,au,aH,aR⟩ :=aj.f2;clear bO bQ dn dW;obtain⟨bO,bQ,dn,dW⟩ :=bJ.f2;clear hok;obtain⟨so,qo⟩ : ∃q,T2[k]? =some q:= ⟨_,XL (by rw [bB.O.len];exact um.out)⟩;have HV:=Hid.aD qo;clear qo;have ino:=bB.O.inner k so _ HV.out HR.out;have po:=bB.O.outer.cell_ (j:=0) HV.out (by decide);simp only [FS,Nat.mul_one,Nat.add_zero] at po;have hkk : k<x.O.length:=um.out;obtain⟨Ao,co,vv,_⟩ :=ino.rd';obtain⟨ao,no,bo⟩ :=so;injection vv with k1 k2 k3;subst k1 k2 k3;have Cr : _=some (Value.slice ao 0 bo) :=po;clear po;have hq:=vk w3 ao bo;clear ino;go_wp2_with fail;refine(hq).mono ?_;rintro e w4 ⟨rfl,hb⟩;replace ah:=ah.below hb;replace aj:=aj.below hb;replace bJ:=bJ.below hb;replace bB:=bB.step0 hb;replace hB:=hB.trans (hb.mono hB.size);have sz:=hb.size;clear hb;clear aL aN aT bE;obtain⟨aL,aN,aT,bE⟩ :=ah.f2;clear ak au aH aR;obtain⟨ak,au,aH,aR⟩ :=aj.f2;clear bO bQ dn dW;obtain⟨bO,bQ,dn,dW⟩ :=bJ.f2;clear hq Cr;replace ah:=ah.alloc (.cells #[.slice ao 0 bo] 94);replace aj:=aj.alloc (.cells #[.slice ao 0 bo] 94);replace bJ:=bJ.alloc (.cells #[.slice ao 0 bo] 94);replace bB:=bB.av (.cells #[.slice ao 0 bo] 94);replace hB:=hB.alloc hB.size (.cells #[.slice ao 0 bo] 94);have Eb : w4.heap.size≤ (w4.alloc (.cells #[.slice ao 0 bo] 94)).heap.size:=by simp
 have ff : (w4.alloc (.cells #[.slice ao 0 bo] 94)).frozen? ⟨g2,k,none⟩ =false:=bB.O.outer.dM k;have po : (w4.alloc (.cells #[.slice ao 0 bo] 94)).cell? ⟨g2,k,none⟩ =some (.slice ao 0 bo) :=by have po:=bB.O.outer.cell_ (j:=0) HV.out (by decide);simp only [FS,Nat.mul_one,Nat.add_zero] at po;exact po
 have ino:=bB.O.inner k _ _ HV.out HR.out;have Lb : g2≠w.heap.size:=by omega
 have Lc : w.heap.size≠g2:=by omega
 have Ld : g2≠w.heap.size+1:=by omega
 have Le : w.heap.size+1≠g2:=by omega
 have QE : g2≠w1.heap.size:=by omega
 have QF : w1.heap.size≠g2:=by omega
 have hin:=ino;have hN:=dF.BX (s':= ⟨ao,0,bo⟩) (l':= []) bB.O HV.out hin rfl;change dF _ _ _ (World.setCell _ _ (.slice ao 0 bo)) _ _ _ at hN;clear aL aN aT bE;obtain⟨aL,aN,aT,bE⟩ :=ah.f2;clear ak au aH aR;obtain⟨ak,au,aH,aR⟩ :=aj.f2;clear bO bQ dn dW;obtain⟨bO,bQ,dn,dW⟩ :=bJ.f2;go_wp2_with fail;have hO:=bB.G.aM (F:= [g2]) ((bn.refl _ (w4.alloc (.cells #[.slice ao 0 bo] 94))).dG (g:=g2) (i:=k) (by simp) (.slice ao 0 bo)) (fun b hb hm=>by simp only [Pe,Pd,XK] at hm;subst hm;exact bB.jy b hb (dw.2 (.inl rfl)));have hfs : bT (.slice (some ⟨g2,0,none⟩) x.O.length p2) (T2.set k ⟨ao,0,bo⟩) =bT (.slice (some ⟨g2,0,none⟩) x.O.length p2) T2:=by unfold bT;rw [lH (s':= ⟨ao,0,bo⟩) HV.out rfl]
 have hfm : ∀b,b∈bT (.slice (some ⟨g2,0,none⟩) x.O.length p2) (T2.set k ⟨ao,0,bo⟩) →b∈bT (.slice (some ⟨g2,0,none⟩) x.O.length p2) T2:=fun b hb=>by rw [←hfs];exact hb
 rw [zf HR.out] at hN;refine bodyPost_ret (v:= .tuple #[.agg #[.slice (some ⟨g1,0,none⟩) x.G.length p1, .slice (some ⟨g2,0,none⟩) x.O.length p2], .int .i64 (-1)]) (by simp [results,Tryz.results103,go_sem,ak,au]) rfl ⟨⟨⟨some ⟨g1,0,none⟩,x.G.length,p1⟩,T1, ⟨some ⟨g2,0,none⟩,x.O.length,p2⟩,T2.set k ⟨ao,0,bo⟩⟩,rfl, ⟨hO.aM (F:= [w.heap.size+1]) dx (fun b hb hm=>by simp only [Pe,Pd,XK] at hm;have:=l_c b (bF.aI.2 (.inl hb));omega),hN.aM (F:= [w.heap.size+1]) dx (fun b hb hm=>by simp only [Pe,Pd,XK] at hm;have:=l_c b (bF.aI.2 (.inr (hfm b hb)));omega),fun b hb hm=>bB.jy b hb (hfm b hm)⟩,fun b hb=> ?_,Below.trans hB dU⟩;rcases bF.aI.1 hb with hb|hb
 ·have:=l_c b (bF.aI.2 (.inl hb))
  omega
 ·have:=l_c b (bF.aI.2 (.inr (hfm b hb)))
  omega
theorem Ad (w : World)(H : bF)(x : Lists)(c : Nat)(l : List Int)(s : Int)(h : jC w w.heap.size H x)(hs : bX x≤536870912)(hok : gF x=true)(hc : c<3)(hrow : x.G[c]? =some (l++ [s])) :
  Calls Tryz.prog 104 #[.agg #[.slice H.G.a H.G.l H.G.c, .slice H.O.a H.O.l H.O.c], .int .i64 c] w fun e w'=> ∃H' : bF,e= .returned (.tuple #[.agg #[.slice H'.G.a H'.G.l H'.G.c, .slice H'.O.a H'.O.l H'.O.c], .int .i64 s]) ∧eZ w' H' {x with G:=x.G.set c l}∧ (∀g∈H'.foot,w.heap.size≤g) ∧Below w.heap.size w w':=by
 obtain⟨hl3,wY⟩ :=oJ hok;have H3:=Hid.aD hl3;have H9:=Hid.aD wY;have HR:=Hid.aD hrow;have hsr : (l++ [s]).length≤536870912:=by
  have:=nX (XV hrow);unfold bX at hs;omega
 simp only [XU,List.length_singleton] at hsr;have um:=Hid.aD (show c<x.G.length by omega);have OH : bG 0 2 (c : Int) =true:=bH.2 ⟨by omega,by omega⟩;clear hl3 wY hrow;obtain⟨k,rfl⟩ : ∃k,k=c:= ⟨_,rfl⟩;obtain⟨w0,hW0⟩ : ∃x,x= ((w.alloc (.cells #[.slice H.G.a H.G.l H.G.c, .slice H.O.a H.O.l H.O.c] 29)).alloc (.cells #[.slice none 0 0, .slice none 0 0] 29)) := ⟨_,rfl⟩;have ah : aJ w0 (w.heap.size) [.slice H.G.a H.G.l H.G.c, .slice H.O.a H.O.l H.O.c]:=by
  rw [hW0];exact aJ.alloc aJ.nw _
 have aj : aJ w0 (w.heap.size+1) [.slice none 0 0, .slice none 0 0]:=by
  rw [hW0];exact aJ.nw
 have hB : Below w.heap.size w w0:=by
  rw [hW0];exact cO
 go_enter Tryz.func104,Tryz.ntmps104;go_wp2_with fail;rw [←hW0];clear hW0;have jA:=ah.lt;have kL:=aj.lt;obtain⟨aL,aN,aT,bE⟩ :=ah.f2;obtain⟨ak,au,aH,aR⟩ :=aj.f2;refine(qE _ H x (j4 h hB) hs).mono ?_;rintro e w1 ⟨aF,rfl,bB,l_c,hb⟩;have u_c:=bB.lt;replace ah:=ah.below hb;replace aj:=aj.below hb;replace hB:=hB.trans (hb.mono hB.size);have sz:=hb.size;clear hb;clear aL aN aT bE;obtain⟨aL,aN,aT,bE⟩ :=ah.f2;clear ak au aH aR;obtain⟨ak,au,aH,aR⟩ :=aj.f2;obtain⟨⟨A1,n1,p1⟩,T1, ⟨A2,n2,p2⟩,T2⟩ :=aF;obtain⟨g1,c1,hv1,hg1⟩ :=dF.l9 (v:= .slice A1 n1 p1) bB.G (by rw [H3.out];decide);obtain⟨g2,c2,hv2,hg2⟩ :=dF.l9 (v:= .slice A2 n2 p2) bB.O (by rw [H9.out];decide);injection hv1 with i1 i2 i3;injection hv2 with j1 j2 j3;subst i1 i2 i3 j1 j2 j3;have AV : g1∈bF.foot ⟨⟨some ⟨g1,0,none⟩,x.G.length,p1⟩,T1, ⟨some ⟨g2,0,none⟩,x.O.length,p2⟩,T2⟩ :=bF.aI.2 (.inl (dw.2 (.inl rfl)));have AX : g2∈bF.foot ⟨⟨some ⟨g1,0,none⟩,x.G.length,p1⟩,T1, ⟨some ⟨g2,0,none⟩,x.O.length,p2⟩,T2⟩ :=bF.aI.2 (.inr (dw.2 (.inl rfl)));have QC:=l_c _ AV;have QD:=l_c _ AX;clear AV AX;go_wp2_with fail;generalize hO : Obj.cells #[.slice (some ⟨g1,0,none⟩) x.G.length p1, .slice (some ⟨g2,0,none⟩) x.O.length p2] 29=O_;replace ah:=ah.alloc O_;replace aj:=aj.alloc O_;replace bB:=bB.av O_;replace hB:=hB.alloc hB.size O_;have bJ : aJ (w1.alloc O_) w1.heap.size [.slice (some ⟨g1,0,none⟩) x.G.length p1, .slice (some ⟨g2,0,none⟩) x.O.length p2]:=hO ▸ aJ.new _ _ _;have jG:=bJ.lt;have sz : w1.heap.size≤ (w1.alloc O_).heap.size:=X7 bJ.lt;generalize hG : (w1.alloc O_) =w2 at ah aj bB hB bJ jG sz⊢;clear hG hO O_;clear aL aN aT bE;obtain⟨aL,aN,aT,bE⟩ :=ah.f2;clear ak au aH aR;obtain⟨ak,au,aH,aR⟩ :=aj.f2;obtain⟨bO,bQ,dn,dW⟩ :=bJ.f2;refine(pU _ H x (j4 h hB) (XR (Nat.le_add_right _ _) hs) (XR (Nat.le_add_left _ _) hs)).mono ?_;rw [hok];rintro e w3 ⟨rfl,hb⟩;replace ah:=ah.below hb;replace aj:=aj.below hb;replace bJ:=bJ.below hb;have bB:=bB.step0 hb;replace hB:=hB.trans (hb.mono hB.size);have sz:=hb.size;clear hb;clear aL aN aT bE;obtain⟨aL,aN,aT,bE⟩ :=ah.f2;clear ak au aH aR;obtain⟨ak,au,aH,aR⟩ :=aj.f2;clear bO bQ dn dW;obtain⟨bO,bQ,dn,dW⟩ :=bJ.f2;clear hok;obtain⟨so,qo⟩ : ∃q,T1[k]? =some q:= ⟨_,XL (by rw [bB.G.len];exact um.out)⟩;have HV:=Hid.aD qo;clear qo;have ino:=bB.G.inner k so _ HV.out HR.out;have po:=bB.G.outer.cell_ (j:=0) HV.out (by decide);simp only [FS,Nat.mul_one,Nat.add_zero] at po;have hkk : k<x.G.length:=um.out;obtain⟨Ao,co,vv,hq1,_⟩ :=ino.rd';obtain⟨ao,no,bo⟩ :=so;injection vv with k1 k2 k3;subst k1 k2 k3;simp only [XU,List.length_singleton] at hq1;obtain⟨gs,cs,hvs,hgs⟩ :=aX.jf (v:= .slice ao (l++ [s]).length bo) ino (by simp);injection hvs with k1 k2 k3;subst k1 k3;have hcl : l.length+1≤bo:=hq1;have Cr : w3.cell? ⟨g1,k,none⟩ =some (Value.slice (some ⟨gs,0,none⟩) (l.length+1) bo) :=by simpa [SV.val] using po
 clear po;have ce:=aX.cell_ (show aX FI 3 _ (.slice (some ⟨gs,0,none⟩) (l++ [s]).length bo) (l++ [s]) from ino) (last_at (l:=l) (s:=s)) FI.pos;simp only [FI,Nat.mul_one,Nat.add_zero] at ce;replace ce : _=some (Value.int .i64 s) :=ce;have OG:=World.block_lt_of_cell? _ _ ce;have hq:=vo w3 gs l.length bo s ce OG (by omega) hcl;clear ce;clear ino;go_wp2_with (first| (go_at_call 102;refine(dH _ _ _ _).mono ?_;rw [OH];rintro e wv ⟨rfl,rfl⟩));refine(hq).mono ?_;rintro e w4 ⟨rfl,hb⟩;replace ah:=ah.below hb;replace aj:=aj.below hb;replace bJ:=bJ.below hb;replace bB:=bB.step0 hb;replace hB:=hB.trans (hb.mono hB.size);have sz:=hb.size;clear hb;clear aL aN aT bE;obtain⟨aL,aN,aT,bE⟩ :=ah.f2;clear ak au aH aR;obtain⟨ak,au,aH,aR⟩ :=aj.f2;clear bO bQ dn dW;obtain⟨bO,bQ,dn,dW⟩ :=bJ.f2;clear hq Cr;replace bB : eZ w4 ⟨⟨some ⟨g1,0,none⟩,x.G.length,p1⟩,T1, ⟨some ⟨g2,0,none⟩,x.O.length,p2⟩,T2⟩ x:=bB;replace ah:=ah.alloc (.cells #[.slice (some ⟨gs,0,none⟩) l.length bo] 94);replace aj:=aj.alloc (.cells #[.slice (some ⟨gs,0,none⟩) l.length bo] 94);replace bJ:=bJ.alloc (.cells #[.slice (some ⟨gs,0,none⟩) l.length bo] 94);replace bB:=bB.av (.cells #[.slice (some ⟨gs,0,none⟩) l.length bo] 94);replace hB:=hB.alloc hB.size (.cells #[.slice (some ⟨gs,0,none⟩) l.length bo] 94);have Eb : w4.heap.size≤ (w4.alloc (.cells #[.slice (some ⟨gs,0,none⟩) l.length bo] 94)).heap.size:=by simp
 have ff : (w4.alloc (.cells #[.slice (some ⟨gs,0,none⟩) l.length bo] 94)).frozen? ⟨g1,k,none⟩ =false:=bB.G.outer.dM k;have po : (w4.alloc (.cells #[.slice (some ⟨gs,0,none⟩) l.length bo] 94)).cell? ⟨g1,k,none⟩ =some (.slice (some ⟨gs,0,none⟩) (l++ [s]).length bo) :=by have po:=bB.G.outer.cell_ (j:=0) HV.out (by decide);simp only [FS,Nat.mul_one,Nat.add_zero] at po;exact po
 have ino:=bB.G.inner k _ _ HV.out HR.out;have Lb : g1≠w.heap.size:=by omega
 have Lc : w.heap.size≠g1:=by omega
 have Ld : g1≠w.heap.size+1:=by omega
 have Le : w.heap.size+1≠g1:=by omega
 have QE : g1≠w1.heap.size:=by omega
 have QF : w1.heap.size≠g1:=by omega
 have hin:=aX.prefix_ (g:=gs) (n:= (l++ [s]).length) (c:=bo) (l:=l) (r:= [s]) ino;have hN:=dF.BX (s':= ⟨some ⟨gs,0,none⟩,l.length,bo⟩) (l':=l) bB.G HV.out hin rfl;change dF _ _ _ (World.setCell _ _ (.slice (some ⟨gs,0,none⟩) l.length bo)) _ _ _ at hN;clear aL aN aT bE;obtain⟨aL,aN,aT,bE⟩ :=ah.f2;clear ak au aH aR;obtain⟨ak,au,aH,aR⟩ :=aj.f2;clear bO bQ dn dW;obtain⟨bO,bQ,dn,dW⟩ :=bJ.f2;go_wp2_with fail;have hO:=bB.O.aM (F:= [g1]) ((bn.refl _ (w4.alloc (.cells #[.slice (some ⟨gs,0,none⟩) l.length bo] 94))).dG (g:=g1) (i:=k) (by simp) (.slice (some ⟨gs,0,none⟩) l.length bo)) (fun b hb hm=>by simp only [Pe,Pd,XK] at hm;subst hm;exact bB.jy b (dw.2 (.inl rfl)) hb);have hfs : bT (.slice (some ⟨g1,0,none⟩) x.G.length p1) (T1.set k ⟨some ⟨gs,0,none⟩,l.length,bo⟩) =bT (.slice (some ⟨g1,0,none⟩) x.G.length p1) T1:=by unfold bT;rw [lH (s':= ⟨some ⟨gs,0,none⟩,l.length,bo⟩) HV.out rfl]
 have hfm : ∀b,b∈bT (.slice (some ⟨g1,0,none⟩) x.G.length p1) (T1.set k ⟨some ⟨gs,0,none⟩,l.length,bo⟩) →b∈bT (.slice (some ⟨g1,0,none⟩) x.G.length p1) T1:=fun b hb=>by rw [←hfs];exact hb
 refine bodyPost_ret (v:= .tuple #[.agg #[.slice (some ⟨g1,0,none⟩) x.G.length p1, .slice (some ⟨g2,0,none⟩) x.O.length p2], .int .i64 s]) (by simp [results,Tryz.results104,go_sem,ak,au]) rfl ⟨⟨⟨some ⟨g1,0,none⟩,x.G.length,p1⟩,T1.set k ⟨some ⟨gs,0,none⟩,l.length,bo⟩, ⟨some ⟨g2,0,none⟩,x.O.length,p2⟩,T2⟩,rfl, ⟨hN.aM (F:= [w.heap.size+1]) dx (fun b hb hm=>by simp only [Pe,Pd,XK] at hm;have:=l_c b (bF.aI.2 (.inl (hfm b hb)));omega),hO.aM (F:= [w.heap.size+1]) dx (fun b hb hm=>by simp only [Pe,Pd,XK] at hm;have:=l_c b (bF.aI.2 (.inr hb));omega),fun b hb hm=>bB.jy b (hfm b hb) hm⟩,fun b hb=> ?_,Below.trans hB dU⟩;rcases bF.aI.1 hb with hb|hb
 ·have:=l_c b (bF.aI.2 (.inl (hfm b hb)))
  omega
 ·have:=l_c b (bF.aI.2 (.inr hb))
  omega
theorem uo (w : World)(H : bF)(x : Lists)(c : Nat)(h : jC w w.heap.size H x)(hs : bX x≤536870912)(hok : gF x=true)(hc : c<3)(hrow : x.G[c]? =some ([])) :
  Calls Tryz.prog 104 #[.agg #[.slice H.G.a H.G.l H.G.c, .slice H.O.a H.O.l H.O.c], .int .i64 c] w fun e w'=> ∃H' : bF,e= .returned (.tuple #[.agg #[.slice H'.G.a H'.G.l H'.G.c, .slice H'.O.a H'.O.l H'.O.c], .int .i64 (-1)]) ∧eZ w' H' x∧ (∀g∈H'.foot,w.heap.size≤g) ∧Below w.heap.size w w':=by
 obtain⟨hl3,wY⟩ :=oJ hok;have H3:=Hid.aD hl3;have H9:=Hid.aD wY;have HR:=Hid.aD hrow;have um:=Hid.aD (show c<x.G.length by omega);have OH : bG 0 2 (c : Int) =true:=bH.2 ⟨by omega,by omega⟩;clear hl3 wY hrow;obtain⟨k,rfl⟩ : ∃k,k=c:= ⟨_,rfl⟩;obtain⟨w0,hW0⟩ : ∃x,x= ((w.alloc (.cells #[.slice H.G.a H.G.l H.G.c, .slice H.O.a H.O.l H.O.c] 29)).alloc (.cells #[.slice none 0 0, .slice none 0 0] 29)) := ⟨_,rfl⟩;have ah : aJ w0 (w.heap.size) [.slice H.G.a H.G.l H.G.c, .slice H.O.a H.O.l H.O.c]:=by
  rw [hW0];exact aJ.alloc aJ.nw _
 have aj : aJ w0 (w.heap.size+1) [.slice none 0 0, .slice none 0 0]:=by
  rw [hW0];exact aJ.nw
 have hB : Below w.heap.size w w0:=by
  rw [hW0];exact cO
 go_enter Tryz.func104,Tryz.ntmps104;go_wp2_with fail;rw [←hW0];clear hW0;have jA:=ah.lt;have kL:=aj.lt;obtain⟨aL,aN,aT,bE⟩ :=ah.f2;obtain⟨ak,au,aH,aR⟩ :=aj.f2;refine(qE _ H x (j4 h hB) hs).mono ?_;rintro e w1 ⟨aF,rfl,bB,l_c,hb⟩;have u_c:=bB.lt;replace ah:=ah.below hb;replace aj:=aj.below hb;replace hB:=hB.trans (hb.mono hB.size);have sz:=hb.size;clear hb;clear aL aN aT bE;obtain⟨aL,aN,aT,bE⟩ :=ah.f2;clear ak au aH aR;obtain⟨ak,au,aH,aR⟩ :=aj.f2;obtain⟨⟨A1,n1,p1⟩,T1, ⟨A2,n2,p2⟩,T2⟩ :=aF;obtain⟨g1,c1,hv1,hg1⟩ :=dF.l9 (v:= .slice A1 n1 p1) bB.G (by rw [H3.out];decide);obtain⟨g2,c2,hv2,hg2⟩ :=dF.l9 (v:= .slice A2 n2 p2) bB.O (by rw [H9.out];decide);injection hv1 with i1 i2 i3;injection hv2 with j1 j2 j3;subst i1 i2 i3 j1 j2 j3;have AV : g1∈bF.foot ⟨⟨some ⟨g1,0,none⟩,x.G.length,p1⟩,T1, ⟨some ⟨g2,0,none⟩,x.O.length,p2⟩,T2⟩ :=bF.aI.2 (.inl (dw.2 (.inl rfl)));have AX : g2∈bF.foot ⟨⟨some ⟨g1,0,none⟩,x.G.length,p1⟩,T1, ⟨some ⟨g2,0,none⟩,x.O.length,p2⟩,T2⟩ :=bF.aI.2 (.inr (dw.2 (.inl rfl)));have QC:=l_c _ AV;have QD:=l_c _ AX;clear AV AX;go_wp2_with fail;generalize hO : Obj.cells #[.slice (some ⟨g1,0,none⟩) x.G.length p1, .slice (some ⟨g2,0,none⟩) x.O.length p2] 29=O_;replace ah:=ah.alloc O_;replace aj:=aj.alloc O_;replace bB:=bB.av O_;replace hB:=hB.alloc hB.size O_;have bJ : aJ (w1.alloc O_) w1.heap.size [.slice (some ⟨g1,0,none⟩) x.G.length p1, .slice (some ⟨g2,0,none⟩) x.O.length p2]:=hO ▸ aJ.new _ _ _;have jG:=bJ.lt;have sz : w1.heap.size≤ (w1.alloc O_).heap.size:=X7 bJ.lt;generalize hG : (w1.alloc O_) =w2 at ah aj bB hB bJ jG sz⊢;clear hG hO O_;clear aL aN aT bE;obtain⟨aL,aN,aT,bE⟩ :=ah.f2;clear ak au aH aR;obtain⟨ak,au,aH,aR⟩ :=aj.f2;obtain⟨bO,bQ,dn,dW⟩ :=bJ.f2;refine(pU _ H x (j4 h hB) (XR (Nat.le_add_right _ _) hs) (XR (Nat.le_add_left _ _) hs)).mono ?_;rw [hok];rintro e w3 ⟨rfl,hb⟩;replace ah:=ah.below hb;replace aj:=aj.below hb;replace bJ:=bJ.below hb;have bB:=bB.step0 hb;replace hB:=hB.trans (hb.mono hB.size);have sz:=hb.size;clear hb;clear aL aN aT bE;obtain⟨aL,aN,aT,bE⟩ :=ah.f2;clear ak au aH aR;obtain⟨ak,au,aH,aR⟩ :=aj.f2;clear bO bQ dn dW;obtain⟨bO,bQ,dn,dW⟩ :=bJ.f2;clear hok;obtain⟨so,qo⟩ : ∃q,T1[k]? =some q:= ⟨_,XL (by rw [bB.G.len];exact um.out)⟩;have HV:=Hid.aD qo;clear qo;have ino:=bB.G.inner k so _ HV.out HR.out;have po:=bB.G.outer.cell_ (j:=0) HV.out (by decide);simp only [FS,Nat.mul_one,Nat.add_zero] at po;have hkk : k<x.G.length:=um.out;obtain⟨Ao,co,vv,_⟩ :=ino.rd';obtain⟨ao,no,bo⟩ :=so;injection vv with k1 k2 k3;subst k1 k2 k3;have Cr : _=some (Value.slice ao 0 bo) :=po;clear po;have hq:=vk w3 ao bo;clear ino;go_wp2_with (first| (go_at_call 102;refine(dH _ _ _ _).mono ?_;rw [OH];rintro e wv ⟨rfl,rfl⟩));refine(hq).mono ?_;rintro e w4 ⟨rfl,hb⟩;replace ah:=ah.below hb;replace aj:=aj.below hb;replace bJ:=bJ.below hb;replace bB:=bB.step0 hb;replace hB:=hB.trans (hb.mono hB.size);have sz:=hb.size;clear hb;clear aL aN aT bE;obtain⟨aL,aN,aT,bE⟩ :=ah.f2;clear ak au aH aR;obtain⟨ak,au,aH,aR⟩ :=aj.f2;clear bO bQ dn dW;obtain⟨bO,bQ,dn,dW⟩ :=bJ.f2;clear hq Cr;replace ah:=ah.alloc (.cells #[.slice ao 0 bo] 94);replace aj:=aj.alloc (.cells #[.slice ao 0 bo] 94);replace bJ:=bJ.alloc (.cells #[.slice ao 0 bo] 94);replace bB:=bB.av (.cells #[.slice ao 0 bo] 94);replace hB:=hB.alloc hB.size (.cells #[.slice ao 0 bo] 94);have Eb : w4.heap.size≤ (w4.alloc (.cells #[.slice ao 0 bo] 94)).heap.size:=by simp
 have ff : (w4.alloc (.cells #[.slice ao 0 bo] 94)).frozen? ⟨g1,k,none⟩ =false:=bB.G.outer.dM k;have po : (w4.alloc (.cells #[.slice ao 0 bo] 94)).cell? ⟨g1,k,none⟩ =some (.slice ao 0 bo) :=by have po:=bB.G.outer.cell_ (j:=0) HV.out (by decide);simp only [FS,Nat.mul_one,Nat.add_zero] at po;exact po
 have ino:=bB.G.inner k _ _ HV.out HR.out;have Lb : g1≠w.heap.size:=by omega
 have Lc : w.heap.size≠g1:=by omega
 have Ld : g1≠w.heap.size+1:=by omega
 have Le : w.heap.size+1≠g1:=by omega
 have QE : g1≠w1.heap.size:=by omega
 have QF : w1.heap.size≠g1:=by omega
 have hin:=ino;have hN:=dF.BX (s':= ⟨ao,0,bo⟩) (l':= []) bB.G HV.out hin rfl;change dF _ _ _ (World.setCell _ _ (.slice ao 0 bo)) _ _ _ at hN;clear aL aN aT bE;obtain⟨aL,aN,aT,bE⟩ :=ah.f2;clear ak au aH aR;obtain⟨ak,au,aH,aR⟩ :=aj.f2;clear bO bQ dn dW;obtain⟨bO,bQ,dn,dW⟩ :=bJ.f2;go_wp2_with fail;have hO:=bB.O.aM (F:= [g1]) ((bn.refl _ (w4.alloc (.cells #[.slice ao 0 bo] 94))).dG (g:=g1) (i:=k) (by simp) (.slice ao 0 bo)) (fun b hb hm=>by simp only [Pe,Pd,XK] at hm;subst hm;exact bB.jy b (dw.2 (.inl rfl)) hb);have hfs : bT (.slice (some ⟨g1,0,none⟩) x.G.length p1) (T1.set k ⟨ao,0,bo⟩) =bT (.slice (some ⟨g1,0,none⟩) x.G.length p1) T1:=by unfold bT;rw [lH (s':= ⟨ao,0,bo⟩) HV.out rfl]
 have hfm : ∀b,b∈bT (.slice (some ⟨g1,0,none⟩) x.G.length p1) (T1.set k ⟨ao,0,bo⟩) →b∈bT (.slice (some ⟨g1,0,none⟩) x.G.length p1) T1:=fun b hb=>by rw [←hfs];exact hb
 rw [zf HR.out] at hN;refine bodyPost_ret (v:= .tuple #[.agg #[.slice (some ⟨g1,0,none⟩) x.G.length p1, .slice (some ⟨g2,0,none⟩) x.O.length p2], .int .i64 (-1)]) (by simp [results,Tryz.results104,go_sem,ak,au]) rfl ⟨⟨⟨some ⟨g1,0,none⟩,x.G.length,p1⟩,T1.set k ⟨ao,0,bo⟩, ⟨some ⟨g2,0,none⟩,x.O.length,p2⟩,T2⟩,rfl, ⟨hN.aM (F:= [w.heap.size+1]) dx (fun b hb hm=>by simp only [Pe,Pd,XK] at hm;have:=l_c b (bF.aI.2 (.inl (hfm b hb)));omega),hO.aM (F:= [w.heap.size+1]) dx (fun b hb hm=>by simp only [Pe,Pd,XK] at hm;have:=l_c b (bF.aI.2 (.inr hb));omega),fun b hb hm=>bB.jy b (hfm b hb) hm⟩,fun b hb=> ?_,Below.trans hB dU⟩;rcases bF.aI.1 hb with hb|hb
 ·have:=l_c b (bF.aI.2 (.inl (hfm b hb)))
  omega
 ·have:=l_c b (bF.aI.2 (.inr hb))
  omega
theorem sM (w : World)(H : bV)(_y : Mem)(x : Heap)(s : Int)(h : iW w w.heap.size H.E x)(hs : fJ x=true)(h1 : bG 0 23 s=true)(h2 : bG 1 6 (dK x s) =true)(k1 : ¬ aG x s<0) :
  Calls Tryz.prog 106 #[.agg #[.slice H.E.Y.a H.E.Y.l H.E.Y.c, .slice H.E.Z.a H.E.Z.l H.E.Z.c, .slice H.I.G.a H.I.G.l H.I.G.c, .slice H.I.O.a H.I.O.l H.I.O.c], .int .i64 s] w fun e w'=>e= .returned (.int .i64 (dK x s * 32+s)) ∧Below w.heap.size w w':=by
 have hgi:=fun (W : World) (hW : Below w.heap.size w W) =>tJ W H.E x s (fT h hW) hs k1;have hho:=fun W=>sK s (dK x s) W h1 h2;obtain⟨w0,hW0⟩ : ∃x,x= (w.alloc (.cells #[.slice H.E.Y.a H.E.Y.l H.E.Y.c, .slice H.E.Z.a H.E.Z.l H.E.Z.c, .slice H.I.G.a H.I.G.l H.I.G.c, .slice H.I.O.a H.I.O.l H.I.O.c] 31)) := ⟨_,rfl⟩;have ah : aJ w0 (w.heap.size) [.slice H.E.Y.a H.E.Y.l H.E.Y.c, .slice H.E.Z.a H.E.Z.l H.E.Z.c, .slice H.I.G.a H.I.G.l H.I.G.c, .slice H.I.O.a H.I.O.l H.I.O.c]:=by
  rw [hW0];exact aJ.nw
 have hB : Below w.heap.size w w0:=by
  rw [hW0];exact cO
 go_enter Tryz.func106,Tryz.ntmps106;go_wp2_with fail;rw [←hW0];clear hW0;have jA:=ah.lt;obtain⟨aL,aN,bC,bD,aT,bE⟩ :=ah.f4;refine(hgi _ hB).mono ?_;rintro e w1 ⟨rfl,hb⟩;replace ah:=ah.below hb;replace hB:=hB.trans (hb.mono hB.size);have sz:=hb.size;clear hb;clear aL aN bC bD aT bE;obtain⟨aL,aN,bC,bD,aT,bE⟩ :=ah.f4;clear hgi;go_wp2_with (go_at_call 41;refine(hho _).mono ?_;rintro e wv ⟨rfl,rfl⟩);go_ret;exact⟨rfl,Below.trans hB dU⟩
theorem vw {h : Heap}{c s : Int}(hok : jD h=true)(hf : jw h c s=true)(hc : bG 0 2 c=true) : bG 0 23 s=true∧aG h s=c∧bG 1 6 (dK h s) =true:=by
 unfold jw at hf;simp only [X4,beq_iff_eq,decide_eq_true_eq] at hf;obtain⟨h1,h2⟩ :=hf;obtain⟨c0,c2⟩ :=bH.1 hc;have hn : ¬ aG h s<0:=by omega
 have ha : ¬ gP s (mY h s) <0:=fun e=>hn (by unfold aG;rw [if_pos e];decide);have hcl : mY h s=c:=by unfold aG at h1;rw [if_neg ha] at h1;exact h1
 rw [hcl] at ha;have hg : bG 0 23 s=true∧bG 0 2 c=true∧s%4<bS c:=by
  by_cases hh : bG 0 23 s=true∧bG 0 2 c=true∧s%4<bS c
  ·exact hh
  ·exact absurd (by unfold gP;rw [if_neg hh];decide) ha
 obtain⟨s0,s1⟩ :=bH.1 hg.1;have hgen : dK h s=jc h.Y (s / 4 * 64+8+s%4 * d_ c) 4:=by
  unfold dK;rw [if_neg hn,h1];unfold gP;rw [if_pos hg]
 have hst:= (uQ c).1;have hp : (s / 4).toNat<6:=by omega
 unfold jD at hok;simp only [X4] at hok;have hpg:=X5.1 hok.2 (s / 4).toNat (List.mem_range.2 hp);unfold mY at hcl;unfold iV at hpg;rw [hcl,if_neg (by omega)] at hpg;simp only [X4] at hpg;have hgs:=hpg.2;unfold iE at hgs;have:=X5.1 hgs (s%4).toNat (List.mem_range.2 (by omega));rw [show (((s / 4).toNat * 64+8+ (s%4).toNat * (d_ c).toNat : Nat) : Int) =s / 4 * 64+8+s%4 * d_ c by
  simp only [Int.natCast_add,Int.natCast_mul,Int.toNat_of_nonneg (show 0≤s / 4 by omega),Int.toNat_of_nonneg (show 0≤s%4 by omega),Int.toNat_of_nonneg hst];rfl] at this
 rw [←hgen] at this;obtain⟨a,b⟩ :=bH.1 this;exact⟨hg.1,h1,bH.2 ⟨a,h2⟩⟩
theorem IL {m : Mem}{k : Nat}{l : List Int}{s : Int}(hok : d9 m=true)(hk : k<9)(hr : m.I.O[k]? =some l)(hs : s∈l) : jw m.E ((k%3 : Nat) : Int) s=true:=by
 unfold d9 at hok;simp only [X4] at hok;have:=X5.1 hok.2 k (List.mem_range.2 hk);rw [XY,hr] at this;exact X5.1 this s hs
theorem Ct {m : Mem}{c : Nat}{l : List Int}{s : Int}(hok : d9 m=true)(hc : c<3)(hr : m.I.G[c]? =some l)(hs : s∈l) : jw m.E (c : Int) s=true:=by
 unfold d9 at hok;simp only [X4] at hok;have:=X5.1 hok.1.2 c (List.mem_range.2 hc);rw [XY,hr] at this;exact X5.1 this s hs
def lI (m : Mem)(p c : Nat) : Mem:= {E:=fU m.E p c,I:= {m.I with G:=m.I.G.set c (m.I.G.getD c []++ (eT p (bS (c : Int)).toNat).drop 1)}}
def Nn (m : Mem)(k : Nat) : Mem:= {m with I:= {m.I with O:=m.I.O.set k (m.I.O.getD k []).dropLast}}
def Ga (m : Mem)(c : Nat) : Mem:= {m with I:= {m.I with G:=m.I.G.set c (m.I.G.getD c []).dropLast}}
def wM (h : Heap)(s : Int) : Int:=dK h s * 32+s
def qV (m : Mem)(w c : Nat) : Mem×Int×Int:=
 match (m.I.O.getD (w * 3+c) []).getLast? with
 |some s=> (Nn m (w * 3+c),wM m.E s,0)
 |none=>match (m.I.G.getD c []).getLast? with
  |some s=> (Ga m c,wM m.E s,0)
  |none=>if idxOf (fun y=>y == -1) m.E.Z<0 then (m,0,3) else
   (lI m (idxOf (fun y=>y == -1) m.E.Z).toNat c,wM (fU m.E (idxOf (fun y=>y == -1) m.E.Z).toNat c) (((idxOf (fun y=>y == -1) m.E.Z).toNat * 4 : Nat) : Int),0)
def fH (m : Mem)(w n : Int) : Mem×Int×Int:=if d9 m=false∨bG 0 2 w=false then (m,0,1) else if fG n<0 then (m,0,2) else qV m w.toNat (fG n).toNat
theorem xK {m : Mem}{w n : Int}(c : d9 m=false∨bG 0 2 w=false) : fH m w n= (m,0,1) :=if_pos c
theorem AY {m : Mem}{w n : Int}(c1 : d9 m=true)(c2 : bG 0 2 w=true)(c3 : fG n<0) : fH m w n= (m,0,2) :=by
 unfold fH;rw [if_neg (by rw [c1,c2];decide),if_pos c3]
theorem IQ {m : Mem}{w n : Int}(c1 : d9 m=true)(c2 : bG 0 2 w=true)(c3 : ¬ fG n<0) : fH m w n=qV m w.toNat (fG n).toNat:=by
 unfold fH;rw [if_neg (by rw [c1,c2];decide),if_neg c3]
theorem Ec {m : Mem}{w c : Nat}{l : List Int}{s : Int}(h : m.I.O[w * 3+c]? =some (l++ [s])) : qV m w c= ({m with I:= {m.I with O:=m.I.O.set (w * 3+c) l}},dK m.E s * 32+s,0) :=by
 unfold qV Nn wM;rw [XY,h];simp
theorem zP {m : Mem}{w c : Nat}{l : List Int}{s : Int}(h0 : m.I.O[w * 3+c]? =some [])(h : m.I.G[c]? =some (l++ [s])) : qV m w c= ({m with I:= {m.I with G:=m.I.G.set c l}},dK m.E s * 32+s,0) :=by
 unfold qV Ga wM;rw [XY,h0,XY,h];simp
theorem Cu {m : Mem}{w c : Nat}(h0 : m.I.O[w * 3+c]? =some [])(h : m.I.G[c]? =some [])(hp : idxOf (fun y=>y == -1) m.E.Z= -1) : qV m w c= (m,0,3) :=by
 unfold qV;rw [XY,h0,XY,h,hp];simp
theorem AZ {m : Mem}{w c p : Nat}(h0 : m.I.O[w * 3+c]? =some [])(h : m.I.G[c]? =some [])(hp : idxOf (fun y=>y == -1) m.E.Z= (p : Int)) : qV m w c= (lI m p c,dK (fU m.E p c) ((p * 4 : Nat) : Int) * 32+ ((p * 4 : Nat) : Int),0) :=by
 unfold qV wM;rw [XY,h0,XY,h,hp];simp only [Option.getD_some,List.getLast?_nil,X6];rw [if_neg (by omega)]
theorem vZ {c : Int}(hc : bG 0 2 c=true) : 1≤bS c:=by
 rcases cls hc with rfl|rfl|rfl<;>decide
theorem qW {c : Int}(hc : bG 0 2 c=true) : 4≤ (d_ c).toNat:=by
 rcases cls hc with rfl|rfl|rfl<;>decide
theorem IU {b : List Int}{p : Nat}{c : Int}(hb : b.all (bG 0 255) =true)(hc : bG 0 2 c=true) : ∀i, (kU b p c i).all (bG 0 255) =true
 |0=>by
  unfold kU;refine Aq hb ?_;rcases cls hc with rfl|rfl|rfl<;>decide
 |i+1=>by
  unfold kU;exact Aq (IU hb hc i) (BU 4 1)
theorem Ed {b : List Int}{p : Nat}{c : Int}(hb : b.length=384)(hp : p<6)(hc : bG 0 2 c=true)(j : Nat)(hj : j<4) : ∀i,i+1≤ (bS c).toNat→ (kU b p c (i+1))[p * 64+8+j]? = (iZ 4 1)[j]?
 |0,hi=>by
  unfold kU;rw [show p * 64+8+0 * (d_ c).toNat=p * 64+8 by omega];exact wP (by rw [qm hb hp hc 0 (by omega),jO];omega) (by rw [jO];exact hj)
 |i+1,hi=>by
  have hr:=qd hc (i:=i+1) (by omega);have hs:=qW hc;have hm : (d_ c).toNat≤ (i+1) * (d_ c).toNat:=Nat.le_mul_of_pos_left _ (by omega);rw [show kU b p c (i+1+1) =putAt (kU b p c (i+1)) (p * 64+8+ (i+1) * (d_ c).toNat) (iZ 4 1) from rfl,vM (by rw [qm hb hp hc (i+1) (by omega),jO];omega) (.inl (by omega))];exact Ed hb hp hc j hj i (by omega)
theorem yg {h : Heap}{p c : Nat}(hs : fJ h=true)(hp : p<6)(hc : c<3) : fJ (fU h p c) =true∧aG (fU h p c) ((p * 4 : Nat) : Int) =c∧dK (fU h p c) ((p * 4 : Nat) : Int) =1:=by
 have hcl : bG 0 2 (c : Int) =true:=bH.2 ⟨by omega,by omega⟩;have sh:=jr hs;have hlen:=qm (b:=h.Y) (p:=p) (c:= (c : Int)) sh.bl hp hcl (bS (c : Int)).toNat (XQ _);have hpp:=vZ hcl;have hca : mY (fU h p c) ((p * 4 : Nat) : Int) =c:=by
  unfold mY fU;rw [show ((((p * 4 : Nat) : Int) / 4).toNat) =p by omega,XY,X9 (by rw [sh.cl];exact hp)];rfl
 have hga : gP ((p * 4 : Nat) : Int) c= ((p * 64+8 : Nat) : Int) :=by
  unfold gP;have hm : ((p * 4 : Nat) : Int) %4=0:=by omega
  rw [if_pos ⟨bH.2 ⟨by omega,by omega⟩,hcl,by omega⟩,hm];omega
 have hci : aG (fU h p c) ((p * 4 : Nat) : Int) =c:=by
  unfold aG;rw [hca,if_neg (by rw [hga];omega)]
 refine⟨?_,hci, ?_⟩
 ·unfold fJ lq at hs⊢
  simp only [X4,beq_iff_eq] at hs⊢;refine⟨⟨⟨hlen, ?_⟩, ?_, ?_⟩, ?_⟩
  ·unfold fU
   rw [X8];exact hs.1.1.2
  ·unfold fU
   simp only [];rw [hlen];decide
  ·exact IU hs.1.2.2 hcl _
  ·refine X5.2 fun y hy=> ?_
   unfold fU at hy;rcases List.mem_or_eq_of_mem_set hy with hy|rfl
   ·exact X5.1 hs.2 y hy
   ·exact bH.2 ⟨by omega,by omega⟩
 ·unfold dK
  rw [hci,if_neg (by omega),hga];unfold jc;obtain⟨k,hk⟩ : ∃k, (bS (c : Int)).toNat=k+1:= ⟨(bS (c : Int)).toNat - 1,by omega⟩;have hf:=fun j hj=>Ed (b:=h.Y) sh.bl hp hcl j hj k (by omega);rw [show (((p * 64+8 : Nat) : Int)).toNat=p * 64+8 by omega,show (4 : Int).toNat=4 from rfl];unfold fU;simp only [];rw [hk];have f0:=hf 0 (by decide);have f1:=hf 1 (by decide);have f2:=hf 2 (by decide);have f3:=hf 3 (by decide);simp only [iH,XY,f0,f1,f2,f3];decide
theorem Jl {l : List Int}{x : Int}(h : idxOf (fun y=>y == x) l= -1){k : Nat}(hk : k<l.length) : ¬ l[k]=x:=by
 intro he;unfold idxOf at h;cases hx : l.findIdx? (fun y=>y == x) with
 |none=>
  have:=List.findIdx?_eq_none_iff.1 hx l[k] (X0 hk);simp [he] at this
 |some i=>
  rw [hx] at h;simp at h
theorem MB (w : World)(H : eX)(x : Heap)(c : Nat)(h : iW w w.heap.size H x)(hs : fJ x=true)(hp : idxOf (fun y=>y == -1) x.Z= -1) :
  Calls Tryz.prog 165 #[.agg #[.slice H.Y.a H.Y.l H.Y.c, .slice H.Z.a H.Z.l H.Z.c], .int .i64 c] w fun e w'=> ∃ (A : Option Addr) (cp : Nat),e= .returned (.tuple #[.agg #[.slice H.Y.a H.Y.l H.Y.c, .slice H.Z.a H.Z.l H.Z.c], .slice A 0 cp]) ∧Below w.heap.size w w':=by
 obtain⟨⟨A1,n1,c1⟩, ⟨A2,n2,c2⟩⟩ :=H;have hr2 : dX FI w w.heap.size (.slice A2 n2 c2) x.Z:=h.Z;have hcl:= (jr hs).cl;have HN:=Hid.aD (fun k (hk : k<x.Z.length) =>Jl hp hk);clear h hs hp;obtain⟨w0,hW0⟩ : ∃x,x= ((w.alloc (.cells #[.slice A1 n1 c1, .slice A2 n2 c2] 26)).alloc (.cells #[.slice none 0 0, .slice none 0 0] 26)) := ⟨_,rfl⟩;have ah : aJ w0 (w.heap.size) [.slice A1 n1 c1, .slice A2 n2 c2]:=by
  rw [hW0];exact aJ.alloc aJ.nw _
 have aj : aJ w0 (w.heap.size+1) [.slice none 0 0, .slice none 0 0]:=by
  rw [hW0];exact aJ.nw
 have hB : Below w.heap.size w w0:=by
  rw [hW0];exact cO
 go_enter Tryz.func165,Tryz.ntmps165;go_wp2_with fail;rw [←hW0];clear hW0;have jA:=ah.lt;have kL:=aj.lt;obtain⟨aL,aN,aT,bE⟩ :=ah.f2;obtain⟨ak,au,aH,aR⟩ :=aj.f2;clear aL aN aT bE;obtain⟨aL,aN,aT,bE⟩ :=ah.f2;clear ak au aH aR;obtain⟨ak,au,aH,aR⟩ :=aj.f2
 go_loop [6] (fun i=> ∃k : Nat,k≤6∧i= .int .i64 k) (fun i=>6 - (intOf i).toNat)
 case atStart=>exact⟨0,by omega,rfl⟩
 case round=>
  obtain⟨k,hk,rfl⟩ :=hrel;by_cases hlt : k<6
  ·have hkl : k<x.Z.length:=by omega
   obtain⟨g,off,cap2,he,hg,_,_,hc⟩ := (bY hr2 hB).at_ (XL hkl);injection he with e1 e2 e3;subst e1 e2 e3;have p0 : w0.cell? ⟨g,off+k,none⟩ =some (.int .i64 x.Z[k]) :=by simpa [FI] using hc 0 _ rfl
   have hne:=HN.out k hkl;clear hc hr2;have MC : (k : Int) < (x.Z.length : Int) :=by omega
   generalize x.Z[k]=y at p0 hne;go_wp2_with fail
   go_round
   ·exact⟨k+1,by omega,by go_num⟩
   ·simp [intOf];omega
  ·obtain rfl : k=6:=by omega
   go_wp2_with fail;have hbx:= ((aj.set 0 (.slice A1 n1 c1)).set 1 (.slice A2 n2 c2)).alloc (.cells #[] 3);have su:=hbx.cell 0 _ rfl;have sw:=hbx.cell 1 _ rfl;refine bodyPost_ret (v:= .tuple #[.agg #[.slice A1 n1 c1, .slice A2 n2 c2], .slice (some ⟨w0.heap.size,0,none⟩) 0 0]) (by simp [results,Tryz.results165,go_sem,su,sw]) rfl ⟨⟨_,_,rfl⟩,Below.trans hB dU⟩
theorem Eu (w : World)(H : bV)(_y : Mem)(x : Heap)(c : Nat)(h : iW w w.heap.size H.E x)(hs : fJ x=true)(hp : idxOf (fun y=>y == -1) x.Z= -1) :
  Calls Tryz.prog 105 #[.agg #[.slice H.E.Y.a H.E.Y.l H.E.Y.c, .slice H.E.Z.a H.E.Z.l H.E.Z.c, .slice H.I.G.a H.I.G.l H.I.G.c, .slice H.I.O.a H.I.O.l H.I.O.c], .int .i64 c] w fun e w'=>e= .returned (.tuple #[.agg #[.slice H.E.Y.a H.E.Y.l H.E.Y.c, .slice H.E.Z.a H.E.Z.l H.E.Z.c, .slice H.I.G.a H.I.G.l H.I.G.c, .slice H.I.O.a H.I.O.l H.I.O.c], .int .i64 (-1)]) ∧Below w.heap.size w w':=by
 have hgr:=fun (W : World) (hW : Below w.heap.size w W) =>MB W H.E x c (fT h hW) hs hp;obtain⟨w0,hW0⟩ : ∃x,x= ((w.alloc (.cells #[.slice H.E.Y.a H.E.Y.l H.E.Y.c, .slice H.E.Z.a H.E.Z.l H.E.Z.c, .slice H.I.G.a H.I.G.l H.I.G.c, .slice H.I.O.a H.I.O.l H.I.O.c] 31)).alloc (.cells #[.slice none 0 0, .slice none 0 0, .slice none 0 0, .slice none 0 0] 31)) := ⟨_,rfl⟩;have ah : aJ w0 (w.heap.size) [.slice H.E.Y.a H.E.Y.l H.E.Y.c, .slice H.E.Z.a H.E.Z.l H.E.Z.c, .slice H.I.G.a H.I.G.l H.I.G.c, .slice H.I.O.a H.I.O.l H.I.O.c]:=by
  rw [hW0];exact aJ.alloc aJ.nw _
 have aj : aJ w0 (w.heap.size+1) [.slice none 0 0, .slice none 0 0, .slice none 0 0, .slice none 0 0]:=by
  rw [hW0];exact aJ.nw
 have hB : Below w.heap.size w w0:=by
  rw [hW0];exact cO
 go_enter Tryz.func105,Tryz.ntmps105;go_wp2_with fail;rw [←hW0];clear hW0;have jA:=ah.lt;have kL:=aj.lt;obtain⟨aL,aN,bC,bD,aT,bE⟩ :=ah.f4;obtain⟨ak,au,aV,aW,aH,aR⟩ :=aj.f4;refine(hgr _ hB).mono ?_;rintro e w1 ⟨WU,WV,rfl,hb⟩;replace ah:=ah.below hb;replace aj:=aj.below hb;replace hB:=hB.trans (hb.mono hB.size);have sz:=hb.size;clear hb;clear aL aN bC bD aT bE;obtain⟨aL,aN,bC,bD,aT,bE⟩ :=ah.f4;clear ak au aV aW aH aR;obtain⟨ak,au,aV,aW,aH,aR⟩ :=aj.f4;clear hgr h hs hp;replace ah:=ah.alloc (.cells #[.slice H.E.Y.a H.E.Y.l H.E.Y.c, .slice H.E.Z.a H.E.Z.l H.E.Z.c] 26);replace aj:=aj.alloc (.cells #[.slice H.E.Y.a H.E.Y.l H.E.Y.c, .slice H.E.Z.a H.E.Z.l H.E.Z.c] 26);replace hB:=hB.alloc hB.size (.cells #[.slice H.E.Y.a H.E.Y.l H.E.Y.c, .slice H.E.Z.a H.E.Z.l H.E.Z.c] 26);have Eb : w1.heap.size≤ (w1.alloc (.cells #[.slice H.E.Y.a H.E.Y.l H.E.Y.c, .slice H.E.Z.a H.E.Z.l H.E.Z.c] 26)).heap.size:=by simp
 clear aL aN bC bD aT bE;obtain⟨aL,aN,bC,bD,aT,bE⟩ :=ah.f4;clear ak au aV aW aH aR;obtain⟨ak,au,aV,aW,aH,aR⟩ :=aj.f4;go_wp2_with fail;refine bodyPost_ret (v:= .tuple #[.agg #[.slice H.E.Y.a H.E.Y.l H.E.Y.c, .slice H.E.Z.a H.E.Z.l H.E.Z.c, .slice H.I.G.a H.I.G.l H.I.G.c, .slice H.I.O.a H.I.O.l H.I.O.c], .int .i64 (-1)]) (by simp [results,Tryz.results105,go_sem,ak,au,aV,aW]) rfl ⟨rfl,Below.trans hB dU⟩
theorem bn.gU {F : List Nat}{w w' : World}(h : bn F w w'){g i : Nat}(hg : w.heap.size≤g)(v : Value) : bn F w (w'.setCell ⟨g,i,none⟩ v) :=
 ⟨h.os,h.tape,h.output,by simpa using h.size,fun k hk hn=> (Below.heap_setCell _ _ _ _ (fun e=>by have e' : k=g:=e;omega)).trans (h.block k hk hn)⟩
theorem KG {w w' : World}{H : bV}{K : bF}{x : Mem}{l : Lists}(h : fq w H x)(hl : eZ w' K l)(hc : bn H.I.foot w w')(hd : ∀g∈K.foot,g∈H.I.foot∨w.heap.size≤g) : fq w' ⟨H.E,K⟩ ⟨x.E,l⟩ :=
 ⟨h.E.aM hc (fun g hg hm=>h.jy g hg hm),hl,fun g hg hm=>by rcases hd g hm with hh|hh; (exact h.jy g hg hh); (have:=h.E.lt g hg;omega)⟩
theorem bn.Gn {F : List Nat}{a c d : World}{g r : Nat}(h : bn F a c)(h3 : bn [g,r] c d)(hr : a.heap.size≤r∧a.heap.size≤g) : bn F a d:=
 ⟨h3.os.trans h.os,h3.tape.trans h.tape,h3.output.trans h.output,XR h.size h3.size,fun k hk hn=>by
  rw [h3.block k (XO hk h.size) (by simp only [Pe,Pd,XK];omega),h.block k hk hn]⟩
theorem CO (w : World)(H : bV)(x : Mem)(wk c : Nat)(s g : Int)(h : fq w H x)(hs : bX x.I≤536870912)(hsh : fJ x.E=true)(hll : x.I.G.length=3∧x.I.O.length=9)(hw : wk<3)(hc : aG x.E s= (c : Int))(hcn : c<3)(hg : dK x.E s=g)(g0 : 1≤g)(g6 : g≤6) :
  Calls Tryz.prog 111 #[.agg #[.slice H.E.Y.a H.E.Y.l H.E.Y.c, .slice H.E.Z.a H.E.Z.l H.E.Z.c, .slice H.I.G.a H.I.G.l H.I.G.c, .slice H.I.O.a H.I.O.l H.I.O.c], .int .i64 wk, .int .i64 s] w fun e w'=> ∃H' : bV,e= .returned (.agg #[.slice H'.E.Y.a H'.E.Y.l H'.E.Y.c, .slice H'.E.Z.a H'.E.Z.l H'.E.Z.c, .slice H'.I.G.a H'.I.G.l H'.I.G.c, .slice H'.I.O.a H'.I.O.l H'.I.O.c]) ∧fq w' H' (pW x wk s) ∧ (∀g∈H'.foot,g∈H.foot∨w.heap.size≤g) ∧bn H.foot w w':=by
 have k1 : ¬ aG x.E s<0:=by rw [hc];omega
 have HE:=Hid.aD (Np (wk:=wk) hc hg);have hgd:=yQ (jr hsh) k1;have Q8:=fun (W : World) (hW : iW W W.heap.size H.E x.E) =>nk W H.E x.E s hW hsh;have Bp:=fun (W : World) (hW : iW W W.heap.size H.E x.E) =>tJ W H.E x.E s hW hsh k1;rw [hc] at Q8 hgd;rw [hg] at Bp;have hga:=fun W=>pK s (c : Int) W;obtain⟨P,hP⟩ : ∃P : Nat,gP s (c : Int) = (P : Int) := ⟨(gP s (c : Int)).toNat,by omega⟩;rw [hP] at hga hgd;have UG : Hid (rF x.E s (g+1) = {x.E with Y:=putAt x.E.Y P (iZ 4 (g+1))}) :=by
  show _=_;unfold rF;rw [hc,hP,X6]
 have hst : ∀W : World,aX FI 3 W (.slice H.E.Y.a H.E.Y.l H.E.Y.c) x.E.Y→Calls Tryz.prog 86 #[(.slice H.E.Y.a H.E.Y.l H.E.Y.c), .int .i64 (P : Int), .int .i64 4, .int .i64 (g+1)] W fun e w'=>e= .returned (.slice H.E.Y.a H.E.Y.l H.E.Y.c) ∧aX FI 3 w' (.slice H.E.Y.a H.E.Y.l H.E.Y.c) (putAt x.E.Y P (iZ 4 (g+1))) ∧bn (bq (.slice H.E.Y.a H.E.Y.l H.E.Y.c)) W w':=fun W o=>tX W _ x.E.Y P 4 (g+1) o (by decide) (by decide) (by omega) (by omega) (by omega);have hgv:=fun (W : World) (o : eZ W H.I x.I) =>CJ W H.I x.I wk c s o hs hll hw hcn;have hf:=h.lt;clear hgd hP hc hg hsh hll hs k1;have o:= (h.av (.cells #[.slice H.E.Y.a H.E.Y.l H.E.Y.c, .slice H.E.Z.a H.E.Z.l H.E.Z.c, .slice H.I.G.a H.I.G.l H.I.G.c, .slice H.I.O.a H.I.O.l H.I.O.c] 31)).av (.cells #[.slice none 0 0, .slice none 0 0, .slice none 0 0, .slice none 0 0] 31);clear h;have ah : aJ ((w.alloc (.cells #[.slice H.E.Y.a H.E.Y.l H.E.Y.c, .slice H.E.Z.a H.E.Z.l H.E.Z.c, .slice H.I.G.a H.I.G.l H.I.G.c, .slice H.I.O.a H.I.O.l H.I.O.c] 31)).alloc (.cells #[.slice none 0 0, .slice none 0 0, .slice none 0 0, .slice none 0 0] 31)) w.heap.size [.slice H.E.Y.a H.E.Y.l H.E.Y.c, .slice H.E.Z.a H.E.Z.l H.E.Z.c, .slice H.I.G.a H.I.G.l H.I.G.c, .slice H.I.O.a H.I.O.l H.I.O.c]:= (aJ.new w #[.slice H.E.Y.a H.E.Y.l H.E.Y.c, .slice H.E.Z.a H.E.Z.l H.E.Z.c, .slice H.I.G.a H.I.G.l H.I.G.c, .slice H.I.O.a H.I.O.l H.I.O.c] _).alloc _;have aj : aJ ((w.alloc (.cells #[.slice H.E.Y.a H.E.Y.l H.E.Y.c, .slice H.E.Z.a H.E.Z.l H.E.Z.c, .slice H.I.G.a H.I.G.l H.I.G.c, .slice H.I.O.a H.I.O.l H.I.O.c] 31)).alloc (.cells #[.slice none 0 0, .slice none 0 0, .slice none 0 0, .slice none 0 0] 31)) (w.heap.size+1) [.slice none 0 0, .slice none 0 0, .slice none 0 0, .slice none 0 0]:=by
  have hb:=aJ.new (w.alloc (.cells #[.slice H.E.Y.a H.E.Y.l H.E.Y.c, .slice H.E.Z.a H.E.Z.l H.E.Z.c, .slice H.I.G.a H.I.G.l H.I.G.c, .slice H.I.O.a H.I.O.l H.I.O.c] 31)) #[.slice none 0 0, .slice none 0 0, .slice none 0 0, .slice none 0 0] 31;rw [World.size_alloc] at hb;exact hb
 have hB : bn H.foot w ((w.alloc (.cells #[.slice H.E.Y.a H.E.Y.l H.E.Y.c, .slice H.E.Z.a H.E.Z.l H.E.Z.c, .slice H.I.G.a H.I.G.l H.I.G.c, .slice H.I.O.a H.I.O.l H.I.O.c] 31)).alloc (.cells #[.slice none 0 0, .slice none 0 0, .slice none 0 0, .slice none 0 0] 31)) := ((bn.refl _ _).av _).av _;go_enter Tryz.func111,Tryz.ntmps111;go_wp2_with fail;generalize hW0 : ((w.alloc (.cells #[.slice H.E.Y.a H.E.Y.l H.E.Y.c, .slice H.E.Z.a H.E.Z.l H.E.Z.c, .slice H.I.G.a H.I.G.l H.I.G.c, .slice H.I.O.a H.I.O.l H.I.O.c] 31)).alloc (.cells #[.slice none 0 0, .slice none 0 0, .slice none 0 0, .slice none 0 0] 31)) =w0 at o ah aj hB⊢;clear hW0;refine(Q8 _ o.E.rd').mono ?_;clear Q8;rintro e w1 ⟨rfl,hb⟩;replace ah:=ah.below hb;replace aj:=aj.below hb;replace o:=o.step0 hb;replace hB:=hB.then_ (hb.mono hB.size);clear hb;have aL:=ah.cell 0 _ rfl;have aN:=ah.cell 1 _ rfl;have bC:=ah.cell 2 _ rfl;have bD:=ah.cell 3 _ rfl;have ak:=aj.cell 0 _ rfl;have au:=aj.cell 1 _ rfl;have aV:=aj.cell 2 _ rfl;have aW:=aj.cell 3 _ rfl;have aT:=ah.dN;have bE:=ah.lt;have aH:=aj.dN;have aR:=aj.lt;go_wp2_with fail;refine(Bp _ o.E.rd').mono ?_;clear Bp;rintro e w2 ⟨rfl,hb⟩;replace ah:=ah.below hb;replace aj:=aj.below hb;replace o:=o.step0 hb;replace hB:=hB.then_ (hb.mono hB.size);clear hb;replace aL:=ah.cell 0 _ rfl;replace aN:=ah.cell 1 _ rfl;replace bC:=ah.cell 2 _ rfl;replace bD:=ah.cell 3 _ rfl;replace ak:=aj.cell 0 _ rfl;replace au:=aj.cell 1 _ rfl;replace aV:=aj.cell 2 _ rfl;replace aW:=aj.cell 3 _ rfl;replace aT:=ah.dN;replace bE:=ah.lt;replace aH:=aj.dN;replace aR:=aj.lt;go_wp2_with fail;have ob : aX FI 3 w2 (.slice H.E.Y.a H.E.Y.l H.E.Y.c) x.E.Y:=o.E.Y;have NZ : aX FI 3 w2.drew (.slice H.E.Y.a H.E.Y.l H.E.Y.c) x.E.Y:=ob.keep (fun _ _=>rfl);go_region_with (first| (go_at_call 158;refine(hga _).mono ?_;rintro e wv ⟨rfl,rfl⟩) | (go_at_call 86; (first| ((with_reducible refine(hst _ NZ).mono ?_);rintro e wq ⟨rfl,hbN,hx⟩;replace hx : bn (bq H.E.Y.val) w2 wq:= ⟨hx.os,hx.tape,hx.output,hx.size,hx.block⟩;replace ah:=ah.aM hx (fun hm=>by have:=hf _ (bV.jI hm);omega);replace aj:=aj.aM hx (fun hm=>by have:=hf _ (bV.jI hm);omega);replace o : fq wq H {x with E:=rF x.E s (g+1)}:= (by rw [UG.out];exact o.setBytes hbN hx);replace hB:=hB.trans (hx.mono (fun b hb=>bV.jI hb));replace aL:=ah.cell 0 _ rfl;replace aN:=ah.cell 1 _ rfl;replace bC:=ah.cell 2 _ rfl;replace bD:=ah.cell 3 _ rfl;replace ak:=aj.cell 0 _ rfl;replace au:=aj.cell 1 _ rfl;replace aV:=aj.cell 2 _ rfl;replace aW:=aj.cell 3 _ rfl;replace aT:=ah.dN;replace bE:=ah.lt;replace aH:=aj.dN;replace aR:=aj.lt))))
 all_goals
  clear hga hst ob NZ;by_cases kg : g+1≤6
  case pos=>
   have HF : Hid (pW x wk s= ⟨rF x.E s (g+1),qI x.I (wk * 3+c) c s⟩) :=by rw [HE.out,if_pos kg];exact rfl
   go_wp2_with fail;replace ah:=ah.set 0 (.slice H.E.Y.a H.E.Y.l H.E.Y.c);replace aj:=aj.other (g':=w.heap.size) (i:=0) (by omega) (.slice H.E.Y.a H.E.Y.l H.E.Y.c);replace o:=o.aM (F:= [w.heap.size]) ((bn.refl _ wq).dG (g:=w.heap.size) (i:=0) (by simp) (.slice H.E.Y.a H.E.Y.l H.E.Y.c)) (fun b hb hm=>by simp only [Pe,Pd,XK] at hm;have:=hf b hb;omega);replace hB:=hB.gU (g:=w.heap.size) (i:=0) (XQ _) (.slice H.E.Y.a H.E.Y.l H.E.Y.c);generalize hW3 : wq.setCell ⟨w.heap.size,0,none⟩ (.slice H.E.Y.a H.E.Y.l H.E.Y.c) =w4 at o ah aj hB⊢;clear hW3;refine(hgv _ o.I).mono ?_;rintro e w5 ⟨K,rfl,hN,tq,hx⟩;have Wd:=hB.size;have D6 : w.heap.size+1<w4.heap.size:=aj.lt;have Pz:=fun b (hb : b∈H.I.foot) => (show b∈H.foot from bV.aI.2 (.inr hb));replace ah:=ah.aM hx (fun hm=>by have:=hf _ (Pz _ hm);omega);replace aj:=aj.aM hx (fun hm=>by have:=hf _ (Pz _ hm);omega);have oN:=KG o hN hx tq;replace hB:=hB.trans (hx.mono Pz);have aL:=ah.cell 0 _ rfl;have aN:=ah.cell 1 _ rfl;have bC:=ah.cell 2 _ rfl;have bD:=ah.cell 3 _ rfl;have ak:=aj.cell 0 _ rfl;have au:=aj.cell 1 _ rfl;have aV:=aj.cell 2 _ rfl;have aW:=aj.cell 3 _ rfl;have aT:=ah.dN;have bE:=ah.lt;have aH:=aj.dN;have aR:=aj.lt;have SA : ∀b∈bV.foot ⟨H.E,K⟩,b∈H.foot∨ (w4.heap.size≤b∧w.heap.size+1<b) :=by
    intro b hb;rcases bV.aI.1 hb with hb|hb
    ·exact .inl (bV.aI.2 (.inl hb))
    ·rcases tq b hb with hh|hh
     ·exact .inl (Pz b hh)
     ·exact .inr ⟨hh,by omega⟩
   go_wp2_with fail;refine bodyPost_ret (v:= .agg #[.slice H.E.Y.a H.E.Y.l H.E.Y.c, .slice H.E.Z.a H.E.Z.l H.E.Z.c, .slice K.G.a K.G.l K.G.c, .slice K.O.a K.O.l K.O.c]) (by simp [results,Tryz.results111,go_sem,ak,au,aV,aW]) rfl ⟨⟨H.E,K⟩,rfl,by rw [HF.out];exact oN.aM (F:= [w.heap.size+1,w.heap.size]) dx (fun b hb hm=>by simp only [Pe,Pd,XK] at hm;rcases SA b hb with hh|hh; (have:=hf b hh;omega);omega),fun b hb=>by rcases SA b hb with hh|hh; (exact .inl hh); (right;omega), ?_⟩;exact hB.Gn (g:=w.heap.size+1) (r:=w.heap.size) dx (by omega)
  case neg=>
   have HF : Hid (pW x wk s= ⟨rF x.E s (g+1),x.I⟩) :=by rw [HE.out,if_neg kg];exact rfl
   go_wp2_with fail;refine bodyPost_ret (v:= .agg #[.slice H.E.Y.a H.E.Y.l H.E.Y.c, .slice H.E.Z.a H.E.Z.l H.E.Z.c, .slice H.I.G.a H.I.G.l H.I.G.c, .slice H.I.O.a H.I.O.l H.I.O.c]) (by simp [results,Tryz.results111,go_sem,ak,au,aV,aW]) rfl ⟨H,rfl,by rw [HF.out];exact o.aM (F:= [w.heap.size+1,w.heap.size]) dx (fun b hb hm=>by simp only [Pe,Pd,XK] at hm;have:=hf b hb;omega),fun b hb=> .inl hb, ?_⟩;exact hB.Gn (g:=w.heap.size+1) (r:=w.heap.size) dx (by omega)
end Go.Proofs.YtkmggglljkmjoaaGreat
