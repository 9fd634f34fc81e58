/- m -/
import Derived.Test.YtkmggglljkmjoaaGreatUHRanges14
set_option maxRecDepth 100000
set_option maxHeartbeats 2000000
namespace Go.Proofs.YtkmggglljkmjoaaGreat
open Go.RowKit
def Ip (m : Mem)(h : Int) : Bool:=d9 m&&gM m h
theorem nG {m : Mem}(k : d9 m=true) : fJ m.E=true:=vY (yY k)
def xZ (s c : Int) : Int:=if iN s c<0 then 0 else iN s c
def vN (s c : Int) : Int:=if iN s c<0 then 0 else iN s c+iA c
theorem pF (s c : Int) : (gP s c= -1∧iN s c= -1) ∨ (8≤gP s c∧gP s c+4+iA c≤384∧iN s c=gP s c+4) :=by
 rcases CY s c with hg| ⟨hg1,hg2⟩
 ·exact .inl ⟨hg,if_pos (by rw [hg];decide)⟩
 ·exact .inr ⟨hg1,hg2,if_neg (by omega)⟩
theorem sV (s c : Int) : (iN s c= -1∧xZ s c=0∧vN s c=0) ∨ (12≤iN s c∧xZ s c=iN s c∧vN s c=iN s c+iA c∧vN s c≤384) :=by
 rcases pF s c with ⟨_,h⟩ | ⟨h1,h2,h3⟩
 ·exact .inl ⟨h,if_pos (by rw [h];decide),if_pos (by rw [h];decide)⟩
 ·have e : vN s c=iN s c+iA c:=if_neg (by omega)
  exact .inr ⟨by omega,if_neg (by omega),e,by omega⟩
theorem Iq (s c : Int)(w : World) : Calls Tryz.prog 119 #[.int .i64 s, .int .i64 c] w fun e w'=>e= .returned (.int .i64 (iN s c)) ∧w=w':=by
 have hz:=ql c;have hq:=fun W=>tu s c W;rcases pF s c with ⟨h,h1⟩ | ⟨h,h2,h3⟩
 ·have HS:=Hid.aD h1
  rw [h] at hq;clear h h1;go_enter Tryz.func119,Tryz.ntmps119;go_wp2_with fail;refine(hq _).mono ?_;clear hq;rintro e w1 ⟨rfl,rfl⟩;go_wp2;go_ret;exact⟨cB HS.out.symm,rfl⟩
 ·have HS:=Hid.aD h3
  clear h3;generalize gP s c=g at *
  have h4 : ¬ g<0:=by omega
  have h5 : g≤384:=by omega
  clear h2;go_enter Tryz.func119,Tryz.ntmps119;go_wp2_with fail;refine(hq _).mono ?_;clear hq;rintro e w1 ⟨rfl,rfl⟩;go_wp2;go_ret;exact⟨cB HS.out.symm,rfl⟩
theorem AP (s c : Int)(w : World) : Calls Tryz.prog 92 #[.int .i64 s, .int .i64 c] w fun e w'=>e= .returned (.int .i64 (iN s c)) ∧w=w':=by
 have hz:=ql c;have hq:=fun W=>pK s c W;rcases pF s c with ⟨h,h1⟩ | ⟨h,h2,h3⟩
 ·have HS:=Hid.aD h1
  rw [h] at hq;clear h h1;go_enter Tryz.func92,Tryz.ntmps92;go_wp2_with fail;refine(hq _).mono ?_;clear hq;rintro e w1 ⟨rfl,rfl⟩;go_wp2;go_ret;exact⟨cB HS.out.symm,rfl⟩
 ·have HS:=Hid.aD h3
  clear h3;generalize gP s c=g at *
  have h4 : ¬ g<0:=by omega
  have h5 : g≤384:=by omega
  clear h2;go_enter Tryz.func92,Tryz.ntmps92;go_wp2_with fail;refine(hq _).mono ?_;clear hq;rintro e w1 ⟨rfl,rfl⟩;go_wp2;go_ret;exact⟨cB HS.out.symm,rfl⟩
theorem Ir (s c : Int)(w : World) : Calls Tryz.prog 53 #[.int .i64 s, .int .i64 c] w fun e w'=>e= .returned (.agg #[.int .i64 (xZ s c), .int .i64 (vN s c)]) ∧Below w.heap.size w w':=by
 have hz:=ql c;have hq:=fun W=>Iq s c W;have hq2:=fun W=>Ka c W;rcases sV s c with ⟨h,h1,h2⟩ | ⟨h,h1,h2,h3⟩
 ·have HS:=Hid.aD h1
  have HT:=Hid.aD h2;rw [h] at hq;clear h h1 h2;go_enter Tryz.func53,Tryz.ntmps53;go_wp2_with fail;refine(hq _).mono ?_;clear hq;rintro e w1 ⟨rfl,rfl⟩;go_wp2;exact bodyPost_ret (v:= .agg #[.int .i64 0, .int .i64 0]) (by simp [results,Tryz.results53,go_sem]) rfl ⟨by rw [HS.out,HT.out],by repeat (first|exact Below.refl _ _|refine Below.alloc ?_ (by simp<;>omega) _|refine bA ?_ (by simp<;>omega) _ _|refine Below.drew ?_|refine below_drewN ?_ _)⟩
 ·have HS:=Hid.aD h1
  have HT:=Hid.aD h2;rw [h2] at h3;clear h1 h2;generalize iN s c=g at *
  generalize iA c=z at *
  have h4 : ¬ g<0:=by omega
  have h5 : g≤384:=by omega
  go_enter Tryz.func53,Tryz.ntmps53;go_wp2_with fail;refine(hq _).mono ?_;clear hq;rintro e w1 ⟨rfl,rfl⟩;go_wp2_with (go_at_call 107;refine(hq2 _).mono ?_;clear hq2;rintro e w1 ⟨rfl,rfl⟩);exact bodyPost_ret (v:= .agg #[.int .i64 g, .int .i64 (g+z)]) (by simp [results,Tryz.results53,go_sem]) rfl ⟨by rw [HS.out,HT.out],by repeat (first|exact Below.refl _ _|refine Below.alloc ?_ (by simp<;>omega) _|refine bA ?_ (by simp<;>omega) _ _|refine Below.drew ?_|refine below_drewN ?_ _)⟩
def jT (m : Mem)(h a k : Int) : Int×Int:=
 if d9 m=false∨bG 1 7 k=false then (0,1) else if gM m h=false then (0,4)
 else if bG 0 (iA (aG m.E (h%32)) - k) a=true then (iN (h%32) (aG m.E (h%32)) +a,0) else (0,2)
def Fq (m : Mem)(h a k : Int) : Int×Int:=if (jT m h a k).2=0 then (jc m.E.Y (jT m h a k).1 k,0) else (0, (jT m h a k).2)
theorem Iu {m : Mem}{h a k : Int}(c : d9 m=false) : jT m h a k= (0,1) :=if_pos (.inl c)
theorem Iw {m : Mem}{h a k : Int}(c : bG 1 7 k=false) : jT m h a k= (0,1) :=if_pos (.inr c)
theorem Iy {m : Mem}{h a k : Int}(c : d9 m=true)(c2 : bG 1 7 k=true)(c3 : gM m h=false) : jT m h a k= (0,4) :=by
 unfold jT;rw [if_neg (by rw [c,c2];decide),if_pos c3]
theorem Di {m : Mem}{h a k : Int}(c : d9 m=true)(c2 : bG 1 7 k=true)(c3 : gM m h=true)(c4 : bG 0 (iA (aG m.E (h%32)) - k) a=false) : jT m h a k= (0,2) :=by
 unfold jT;rw [if_neg (by rw [c,c2];decide),if_neg (by rw [c3];decide),if_neg (by rw [c4];decide)]
theorem Dk {m : Mem}{h a k : Int}(c : d9 m=true)(c2 : bG 1 7 k=true)(c3 : gM m h=true)(c4 : bG 0 (iA (aG m.E (h%32)) - k) a=true) : jT m h a k= (iN (h%32) (aG m.E (h%32)) +a,0) :=by
 unfold jT;rw [if_neg (by rw [c,c2];decide),if_neg (by rw [c3];decide),if_pos c4]
theorem nR {m : Mem}{h : Int}(c : gM m h=true) : dO h=true∧iI m (h%32) =3∧dK m.E (h%32) =h / 32:=by
 unfold gM at c;simp only [X4,beq_iff_eq] at c;exact⟨c.1.1,c.1.2,c.2⟩
theorem Iz {m : Mem}{h : Int}(c : gM m h=true) : ¬ aG m.E (h%32) <0:=FX (by rw [(nR c).2.1];decide)
theorem FY {h : Heap}{s : Int}(c : ¬ aG h s<0) : 12≤iN s (aG h s) ∧iN s (aG h s) +iA (aG h s) ≤384∧xZ s (aG h s) =iN s (aG h s) ∧vN s (aG h s) =iN s (aG h s) +iA (aG h s) :=by
 rcases lT h s with ⟨e,_⟩ | ⟨e,h1,h2,_,_⟩
 ·omega
 ·rw [←e] at h1 h2
  rcases sV s (aG h s) with ⟨k1,_⟩ | ⟨k1,k2,k3,k4⟩
  ·rcases pF s (aG h s) with ⟨j,_⟩ | ⟨_,_,j⟩ <;>omega
  ·exact⟨k1,by omega,k2,k3⟩
theorem OC {m : Mem}{h a k p : Int}(e : jT m h a k= (p,0)) : Fq m h a k= (jc m.E.Y p k,0) :=by
 unfold Fq;rw [e];exact if_pos rfl
theorem jX {a b : Int}{p : Int×Int}(h : p= (a,b)) : Ending.returned (.tuple #[.int .i64 a, .int .i64 b]) = .returned (.tuple #[.int .i64 p.1, .int .i64 p.2]) :=by rw [h]
theorem Kn (w : World)(H : bV)(x : Mem)(s a k : Int)(h : jN w w.heap.size H x)(hs1 : fO x.I.G≤536870912)(hs2 : fO x.I.O≤536870912) :
  Calls Tryz.prog 84 #[.agg #[.slice H.E.Y.a H.E.Y.l H.E.Y.c, .slice H.E.Z.a H.E.Z.l H.E.Z.c, .slice H.I.G.a H.I.G.l H.I.G.c, .slice H.I.O.a H.I.O.l H.I.O.c], .int .i64 s, .int .i64 a, .int .i64 k] w fun e w'=>e= .returned (.tuple #[.int .i64 (jT x s a k).1, .int .i64 (jT x s a k).2]) ∧Below w.heap.size w w':=by
 have jL : aJ (w.alloc (.cells #[.slice H.E.Y.a H.E.Y.l H.E.Y.c, .slice H.E.Z.a H.E.Z.l H.E.Z.c, .slice H.I.G.a H.I.G.l H.I.G.c, .slice H.I.O.a H.I.O.l H.I.O.c] 31)) w.heap.size [.slice H.E.Y.a H.E.Y.l H.E.Y.c, .slice H.E.Z.a H.E.Z.l H.E.Z.c, .slice H.I.G.a H.I.G.l H.I.G.c, .slice H.I.O.a H.I.O.l H.I.O.c]:=aJ.new w #[.slice H.E.Y.a H.E.Y.l H.E.Y.c, .slice H.E.Z.a H.E.Z.l H.E.Z.c, .slice H.I.G.a H.I.G.l H.I.G.c, .slice H.I.O.a H.I.O.l H.I.O.c] _;have hB0 : Below w.heap.size w (w.alloc (.cells #[.slice H.E.Y.a H.E.Y.l H.E.Y.c, .slice H.E.Z.a H.E.Z.l H.E.Z.c, .slice H.I.G.a H.I.G.l H.I.G.c, .slice H.I.O.a H.I.O.l H.I.O.c] 31)) :=cO;by_cases c1 : d9 x=true
 case neg=>
  have c1' : d9 x=false:= (XM _).mp c1;have HN:=Hid.aD (Iu (h:=s) (a:=a) (k:=k) c1');clear c1;go_enter Tryz.func84,Tryz.ntmps84;go_wp2_with fail;refine(lU _ H x (gu h hB0) hs1 hs2).mono ?_;rw [c1'];rintro e w1 ⟨rfl,hb⟩;have jJ:=jL.below hb;have hB1:=hB0.trans (hb.mono hB0.size);clear hb jL hB0;go_wp2
  go_ret2
  exact⟨jX HN.out,hB1⟩
 by_cases c2 : bG 1 7 k=true
 case neg=>
  have c2' : bG 1 7 k=false:= (XM _).mp c2;have HN:=Hid.aD (Iw (m:=x) (h:=s) (a:=a) c2');clear c2;go_enter Tryz.func84,Tryz.ntmps84;go_wp2_with fail;refine(lU _ H x (gu h hB0) hs1 hs2).mono ?_;rw [c1];rintro e w1 ⟨rfl,hb⟩;have jJ:=jL.below hb;have hB1:=hB0.trans (hb.mono hB0.size);clear hb jL hB0;clear c1;go_wp2_with (go_at_call 102;refine(dH _ _ _ _).mono ?_;rw [c2'];rintro e w2 ⟨rfl,rfl⟩)
  go_ret2
  exact⟨jX HN.out,hB1⟩
 have HS:=Hid.aD (nG c1);by_cases c3 : gM x s=true
 case neg=>
  have c3' : gM x s=false:= (XM _).mp c3;have HN:=Hid.aD (Iy (a:=a) c1 c2 c3');clear c3;go_enter Tryz.func84,Tryz.ntmps84;go_wp2_with fail;refine(lU _ H x (gu h hB0) hs1 hs2).mono ?_;rw [c1];rintro e w1 ⟨rfl,hb⟩;have jJ:=jL.below hb;have hB1:=hB0.trans (hb.mono hB0.size);clear hb jL hB0;clear c1;have jR:=jJ.cell 0 _ rfl;have jH:=jJ.cell 1 _ rfl;have lD:=jJ.cell 2 _ rfl;have lF:=jJ.cell 3 _ rfl;go_wp2_with (go_at_call 102;refine(dH _ _ _ _).mono ?_;rw [c2];rintro e w2 ⟨rfl,rfl⟩);clear c2;refine(oZ _ H x s (gu h hB1) HS.out hs1 hs2).mono ?_;rw [c3'];rintro e w2 ⟨rfl,hb⟩;have mQ:=jJ.below hb;have hB2:=hB1.trans (hb.mono hB1.size);clear hb jJ hB1;clear jR jH lD lF;go_wp2
  go_ret2
  exact⟨jX HN.out,hB2⟩
 obtain⟨b1,b2⟩ :=bH.1 c2;have hh:= (nR c3).1;have kc:=Iz c3;obtain⟨f1,f2,_,_⟩ :=FY kc;have hsz:=ql (aG x.E (s%32));have hq1:=fun W=>iT s W hh;have hq2:=fun (W : World) (hW : Below w.heap.size w W) =>nk W H.E x.E (s%32) (fT h.E hW) HS.out;have hq3:=fun W=>AP (s%32) (aG x.E (s%32)) W;have hq4:=fun W=>xX (aG x.E (s%32)) W;have HP:=Hid.aD (Dk (a:=a) c1 c2 c3);have HR:=Hid.aD (Di (a:=a) c1 c2 c3);clear hh kc;generalize iN (s%32) (aG x.E (s%32)) =st at *
 generalize iA (aG x.E (s%32)) =sz at *
 generalize aG x.E (s%32) =cl at *
 go_enter Tryz.func84,Tryz.ntmps84;go_wp2_with fail;refine(lU _ H x (gu h hB0) hs1 hs2).mono ?_;rw [c1];rintro e w1 ⟨rfl,hb⟩;have jJ:=jL.below hb;have hB1:=hB0.trans (hb.mono hB0.size);clear hb jL hB0;clear c1;have jR:=jJ.cell 0 _ rfl;have jH:=jJ.cell 1 _ rfl;have lD:=jJ.cell 2 _ rfl;have lF:=jJ.cell 3 _ rfl;go_wp2_with (go_at_call 102;refine(dH _ _ _ _).mono ?_;rw [c2];rintro e w2 ⟨rfl,rfl⟩);clear c2;refine(oZ _ H x s (gu h hB1) HS.out hs1 hs2).mono ?_;rw [c3];rintro e w2 ⟨rfl,hb⟩;have mQ:=jJ.below hb;have hB2:=hB1.trans (hb.mono hB1.size);clear hb jJ hB1;clear jR jH lD lF c3;have jR:=mQ.cell 0 _ rfl;have jH:=mQ.cell 1 _ rfl;have lD:=mQ.cell 2 _ rfl;have lF:=mQ.cell 3 _ rfl;go_wp2_with (go_at_call 30;refine(hq1 _).mono ?_;rintro e w3 ⟨rfl,rfl⟩);refine(hq2 _ hB2).mono ?_;rintro e w3 ⟨rfl,hb⟩;have Pp:=mQ.below hb;have hB3:=hB2.trans (hb.mono hB2.size);clear hb mQ hB2;clear jR jH lD lF hq1 hq2;by_cases d1 : bG 0 (sz - 1) a=true
 case neg=>
  have d1':= (XM _).mp d1;have HN:=Hid.aD (HR.out (Ah (by have:=oQ d1';omega)));clear d1;go_wp2_with (first| (go_at_call 28;refine(hq4 _).mono ?_;rintro e w4 ⟨rfl,rfl⟩) | (go_at_call 102;refine(dH _ _ _ _).mono ?_;rw [d1'];rintro e w2 ⟨rfl,rfl⟩))
  go_ret2
  exact⟨jX HN.out,hB3⟩
 obtain⟨g1,g2⟩ :=bH.1 d1;by_cases d2 : sz - a<k
 ·have HN:=Hid.aD (HR.out (Ah (by omega)))
  go_wp2_with (first| (go_at_call 28;refine(hq4 _).mono ?_;rintro e w4 ⟨rfl,rfl⟩) | (go_at_call 102;refine(dH _ _ _ _).mono ?_;rw [d1];rintro e w2 ⟨rfl,rfl⟩))
  go_ret2
  exact⟨jX HN.out,hB3⟩
 ·have HN:=Hid.aD (HP.out (bH.2 ⟨by omega,by omega⟩))
  go_wp2_with (first| (go_at_call 28;refine(hq4 _).mono ?_;rintro e w4 ⟨rfl,rfl⟩) | (go_at_call 102;refine(dH _ _ _ _).mono ?_;rw [d1];rintro e w2 ⟨rfl,rfl⟩) | (go_at_call 92;refine(hq3 _).mono ?_;rintro e w4 ⟨rfl,rfl⟩))
  go_ret2
  exact⟨jX HN.out,hB3⟩
theorem FZ {m : Mem}{h a k : Int}(c : (jT m h a k).2=0) : d9 m=true∧1≤k∧k≤7∧gM m h=true∧12≤ (jT m h a k).1∧ (jT m h a k).1+k≤384∧bG 0 (iA (aG m.E (h%32)) - k) a=true∧ (jT m h a k).1=iN (h%32) (aG m.E (h%32)) +a:=by
 by_cases c1 : d9 m=false
 ·rw [Iu c1] at c
  exact absurd c (by decide)
 by_cases c2 : bG 1 7 k=false
 ·rw [Iw c2] at c
  exact absurd c (by decide)
 have c1' : d9 m=true:=by simpa using c1
 have c2' : bG 1 7 k=true:=by simpa using c2
 by_cases c3 : gM m h=false
 ·rw [Iy c1' c2' c3] at c
  exact absurd c (by decide)
 have c3' : gM m h=true:=by simpa using c3
 by_cases c4 : bG 0 (iA (aG m.E (h%32)) - k) a=false
 ·rw [Di c1' c2' c3' c4] at c
  exact absurd c (by decide)
 have D9 : bG 0 (iA (aG m.E (h%32)) - k) a=true:=by simpa using c4
 obtain⟨b1,b2⟩ :=bH.1 c2';obtain⟨g1,g2⟩ :=bH.1 D9;obtain⟨f1,f2,_,_⟩ :=FY (Iz c3');rw [Dk c1' c2' c3' D9];exact⟨c1',b1,b2,c3',by simp only;omega,by simp only;omega,D9,rfl⟩
theorem x9 (v : Value) : (bq v).Nodup:=by
 unfold bq;cases v.ownBlock<;>simp
theorem mR (w : World)(v : Value)(l : List Int)(h : dX FI w w.heap.size v l)(hs : l.length≤1073741824) :
  Calls Tryz.prog 205 #[v] w fun e w'=> ∃v',e= .returned v'∧aX FI 3 w' v' l∧ (∀g∈bq v',w.heap.size≤g) ∧Below w.heap.size w w':=by
 obtain⟨A,c,hv,_,_,q3⟩ :=id h;subst hv;go_enter Tryz.func205,Tryz.ntmps205;go_wp2_with (at_builtin;refine eP Tryz.stInt rfl _ _ rfl (v:= .slice (some ⟨w.heap.size,0,none⟩) 0 0) (y:= .slice A l.length c) (l:= []) (m:=l) rfl rfl (aX.lit FI [] #[] rfl (by simp [maxLen]) _ _) (h.av (XQ _) (Nat.le_succ _) _) (by simpa using hs) ?_;intro v' w1 ho hg hat);go_ret;have hb : Below w.heap.size w w1:= ((Below.refl _ _).alloc (XQ _) _).grown hg (by simp) (by simp [Value.ownBlock]);exact⟨v',rfl,by simpa using ho,fun g hg'=>by rcases iY hat g hg' with h|h; (simp [bq,Value.ownBlock] at h;omega); (simp at h;omega),hb⟩
theorem Ko (w : World)(v : Value)(t : List SV)(ll : List (List Int))(h : ig FI w w.heap.size v t ll)(hs : fO ll≤536870912) :
  Calls Tryz.prog 206 #[v] w fun e w'=> ∃v' t',e= .returned v'∧dF FI 3 94 w' v' t' ll∧ (∀g∈bT v' t',w.heap.size≤g) ∧Below w.heap.size w w':=by
 obtain⟨A,c,hv,_⟩ :=id h.outer;subst hv;obtain⟨en,hcap,hmx⟩ :=h.len';have kT : ll.length≤9223372036854775807:=by unfold maxLen at hmx;omega
 rw [en] at h⊢;clear en hcap hmx;have hs0 : ll.length≤536870912:=XR (Nat.le_add_right _ _) hs;have o0 : dF FI 3 94 (w.alloc (.cells #[] 94)) (.slice (some ⟨w.heap.size,0,none⟩) 0 0) [] []:= ⟨rfl,aX.lit FS [] #[] rfl (by decide) w 94,fun k s l h=>by simp at h,by simp [bT,bq,Value.ownBlock]⟩;go_enter Tryz.func206,Tryz.ntmps206;go_wp2;go_loopw [3,4] (fun o i wr=> ∃k : Nat,k≤ll.length∧i= .int .i64 k∧ (∃t',dF FI 3 94 wr o t' (ll.take k) ∧ (∀g∈bT o t',w.heap.size≤g)) ∧Below w.heap.size w wr) (fun _ i _=>ll.length - (intOf i).toNat)
 case atStart=>exact⟨0,X3 _,rfl, ⟨[],o0,by simp [bT,bq,Value.ownBlock]⟩, (Below.refl _ _).alloc (XQ _) _⟩
 case round=>
  obtain⟨i,hi,rfl, ⟨t',ho,hfo⟩,hb⟩ :=hrel;clear o0;by_cases hlt : i<ll.length
  ·obtain⟨g,o,A',c',rfl,hg,p0,r1⟩ :=h.row hb hlt
   have hlen : ll[i].length≤1073741824:=by have:=nX (X0 hlt);omega
   have htl : t'.length≤536870912:=by rw [ho.len,List.length_take];omega
   have z1 : g<wr.heap.size:=XO hg hb.size;have Qz:=Hid.aD (XZ hlt);clear h;go_wp2_with (first| (go_at_call 205;refine(mR _ _ ll[i] (bY r1 hb) hlen).mono ?_;rintro e w1 ⟨vs,rfl,hos,IC,hbb⟩;obtain⟨A2,c2,hv2,_⟩ :=hos.rd';subst hv2) | (at_builtin;refine eP Tryz.stSL rfl _ _ rfl (v:=u3) (y:= .slice (some ⟨w1.heap.size,0,none⟩) 1 1) (l:=t') (m:= [⟨A2,ll[i].length,c2⟩]) rfl rfl ((ho.keep (fun g hg=>hbb.block g (ho.lt g hg))).outer.av _) (aX.lit FS [⟨A2,ll[i].length,c2⟩] #[.slice A2 ll[i].length c2] rfl (by simp [maxLen]) w1 94).rd' (by simp only [List.length_singleton];omega) ?_;intro v' w3 ho' hg' hat'));have hsn:=dF.snoc ((ho.keep (fun g hg=>hbb.block g (ho.lt g hg))).av (.cells #[.slice A2 ll[i].length c2] 94)) (s:= ⟨A2,ll[i].length,c2⟩) (hos.av _) (fun g hg hm=>by have a:=IC g hg;have b:=ho.lt g hm;omega) ho' hg' hat';have y9 : Below w.heap.size w w1:=hb.trans (hbb.mono hb.size);have hb3 : Below w.heap.size w w3:= (y9.alloc y9.size _).grown hg' (by simp;exact Nat.le_succ_of_le y9.size) (fun k hk=>hfo k (dw.2 (.inl hk)));go_roundw
   case rel=>
    refine⟨i+1,by omega,by go_num, ⟨_,by rw [Qz.out];exact hsn,fun b hb'=> ?_⟩,hb3⟩;unfold bT at hb';rw [List.flatMap_append] at hb';rcases XT.1 hb' with h1|h1
    ·rcases iY hat' b h1 with h2|h2
     ·exact hfo b (dw.2 (.inl (aS.1 h2)))
     ·have:=y9.size
      simp at h2;omega
    ·rcases XT.1 h1 with h2|h2
     ·exact hfo b (by unfold bT;exact XT.2 (.inr h2))
     ·have h4 : b∈bq (SV.val ⟨A2,ll[i].length,c2⟩) :=by simpa using h2
      have:=IC b h4;have:=hb.size;omega
   case measure=>simp [intOf];omega
  ·go_wp2
   go_ret;obtain rfl : i=ll.length:=by omega
   exact⟨u3,t',rfl,by simpa using ho,hfo,hb⟩
theorem Dl (w : World)(K : SV)(l : List Int)(h : dX FI w w.heap.size K.val l)(hs : l.length≤1073741824) :
  Calls Tryz.prog 205 #[.slice K.a K.l K.c] w fun e w'=> ∃K' : SV,e= .returned (.slice K'.a K'.l K'.c) ∧aX FI 3 w' K'.val l∧ (∀g∈bq K'.val,w.heap.size≤g) ∧Below w.heap.size w w':=by
 refine(mR w _ l h hs).mono ?_;rintro e w1 ⟨v,rfl,ho,hf,hb⟩;obtain⟨A,c,hv,_⟩ :=ho.rd';subst hv;exact⟨⟨A,l.length,c⟩,rfl,ho,hf,hb⟩
theorem IE (w : World)(K : SV)(t : List SV)(ll : List (List Int))(h : ig FI w w.heap.size K.val t ll)(hs : fO ll≤536870912) :
  Calls Tryz.prog 206 #[.slice K.a K.l K.c] w fun e w'=> ∃ (K' : SV) (t' : List SV),e= .returned (.slice K'.a K'.l K'.c) ∧dF FI 3 94 w' K'.val t' ll∧ (∀g∈bT K'.val t',w.heap.size≤g) ∧Below w.heap.size w w':=by
 refine(Ko w _ t ll h hs).mono ?_;rintro e w1 ⟨v,t',rfl,ho,hf,hb⟩;obtain⟨A,c,hv,_⟩ :=ho.rd'.outer;subst hv;exact⟨⟨A,t'.length,c⟩,t',rfl,ho,hf,hb⟩
theorem yc (w : World)(H : eX)(x : Heap)(h : iW w w.heap.size H x)(hs : kE x≤1073741824) :
  Calls Tryz.prog 155 #[.agg #[.slice H.Y.a H.Y.l H.Y.c, .slice H.Z.a H.Z.l H.Z.c]] w fun e w'=> ∃H' : eX,e= .returned (H'.val x) ∧fM w' H' x∧ (∀g∈H'.foot,w.heap.size≤g) ∧Below w.heap.size w w':=by
 have hs1 : x.Y.length≤1073741824:=XR (Nat.le_add_right _ _) hs;have hs2 : x.Z.length≤1073741824:=XR (Nat.le_add_left _ _) hs;clear hs;have ba : aJ ((w.alloc (.cells #[.slice H.Y.a H.Y.l H.Y.c, .slice H.Z.a H.Z.l H.Z.c] 26)).alloc (.cells #[.slice none 0 0, .slice none 0 0] 26)) w.heap.size [.slice H.Y.a H.Y.l H.Y.c, .slice H.Z.a H.Z.l H.Z.c]:= (aJ.new w #[.slice H.Y.a H.Y.l H.Y.c, .slice H.Z.a H.Z.l H.Z.c] _).alloc _;have br : aJ ((w.alloc (.cells #[.slice H.Y.a H.Y.l H.Y.c, .slice H.Z.a H.Z.l H.Z.c] 26)).alloc (.cells #[.slice none 0 0, .slice none 0 0] 26)) (w.heap.size+1) [.slice none 0 0, .slice none 0 0]:=by
  have hb:=aJ.new (w.alloc (.cells #[.slice H.Y.a H.Y.l H.Y.c, .slice H.Z.a H.Z.l H.Z.c] 26)) #[.slice none 0 0, .slice none 0 0] 26;rw [World.size_alloc] at hb;exact hb
 have hB : Below w.heap.size w ((w.alloc (.cells #[.slice H.Y.a H.Y.l H.Y.c, .slice H.Z.a H.Z.l H.Z.c] 26)).alloc (.cells #[.slice none 0 0, .slice none 0 0] 26)) :=cO;go_enter Tryz.func155,Tryz.ntmps155;go_wp2_with fail;generalize hW0 : ((w.alloc (.cells #[.slice H.Y.a H.Y.l H.Y.c, .slice H.Z.a H.Z.l H.Z.c] 26)).alloc (.cells #[.slice none 0 0, .slice none 0 0] 26)) =w0 at ba br hB⊢;clear hW0;have jR:=ba.cell 0 _ rfl;have qR:=br.cell 0 _ rfl;have jH:=ba.cell 1 _ rfl;have qU:=br.cell 1 _ rfl;have fr:=br.dN;have z0:=br.lt;go_region_with (first| (go_at_call 205; (first| ((with_reducible refine(Dl _ H.Y x.Y (bY h.Y hB.drew) hs1).mono ?_);rintro e w1 ⟨K0,rfl,o0,f0,hb⟩;replace hb:=o8 hb;replace f0:=D_ f0;replace ba:=ba.below hb;replace br:=br.below hb;replace hB:=hB.trans (hb.mono hB.size);have sz:=hb.size;have u0:=dQ o0; (try replace o1:=o1.step0 hb);replace jR:=ba.cell 0 _ rfl;replace qR:=br.cell 0 _ rfl;replace jH:=ba.cell 1 _ rfl;replace qU:=br.cell 1 _ rfl;replace fr:=br.dN;clear hb) | ((with_reducible refine(Dl _ H.Z x.Z (bY h.Z hB) hs2).mono ?_);rintro e w2 ⟨K1,rfl,o1,f1,hb⟩;replace ba:=ba.below hb;replace br:=br.below hb;replace hB:=hB.trans (hb.mono hB.size);have sz:=hb.size;have u1:=dQ o1; (try replace o0:=o0.step0 hb);replace jR:=ba.cell 0 _ rfl;replace qR:=br.cell 0 _ rfl;replace jH:=ba.cell 1 _ rfl;replace qU:=br.cell 1 _ rfl;replace fr:=br.dN;clear hb))))
 all_goals
  go_wp2_with fail;refine bodyPost_ret (v:= .agg #[.slice K0.a K0.l K0.c, .slice K1.a K1.l K1.c]) (by simp [results,Tryz.results155,go_sem,qR,qU]) rfl ⟨⟨K0,K1⟩,rfl, ⟨o0.aM (F:= [w.heap.size+1]) (by repeat (first|exact bn.refl _ _|refine bn.dG ?_ (by simp) _|refine bn.aY ?_)) (fun g hg hm=>by simp only [Pe,Pd,XK] at hm;have:=f0 g hg;omega),o1.aM (F:= [w.heap.size+1]) (by repeat (first|exact bn.refl _ _|refine bn.dG ?_ (by simp) _|refine bn.aY ?_)) (fun g hg hm=>by simp only [Pe,Pd,XK] at hm;have:=f1 g hg;omega),fun g hg hm=>by have:=u0 g hg;have:=f0 g hg;have:=u1 g hm;have:=f1 g hm;omega⟩,fun g hg=> ?_, ?_⟩
  ·rcases eX.aI.1 hg with hg|hg
   ·have:=f0 g hg
    omega
   ·have:=f1 g hg
    omega
  ·exact Below.trans hB (by repeat (first|exact Below.refl _ _|refine Below.setCell ?_ (by simp<;>omega) _|refine Below.drew ?_))
theorem qE (w : World)(H : bF)(x : Lists)(h : jC w w.heap.size H x)(hs : bX x≤536870912) :
  Calls Tryz.prog 156 #[.agg #[.slice H.G.a H.G.l H.G.c, .slice H.O.a H.O.l H.O.c]] w fun e w'=> ∃H' : bF,e= .returned (H'.val x) ∧eZ w' H' x∧ (∀g∈H'.foot,w.heap.size≤g) ∧Below w.heap.size w w':=by
 have hs1 : fO x.G≤536870912:=XR (Nat.le_add_right _ _) hs;have hs2 : fO x.O≤536870912:=XR (Nat.le_add_left _ _) hs;clear hs;have ba : aJ ((w.alloc (.cells #[.slice H.G.a H.G.l H.G.c, .slice H.O.a H.O.l H.O.c] 29)).alloc (.cells #[.slice none 0 0, .slice none 0 0] 29)) w.heap.size [.slice H.G.a H.G.l H.G.c, .slice H.O.a H.O.l H.O.c]:= (aJ.new w #[.slice H.G.a H.G.l H.G.c, .slice H.O.a H.O.l H.O.c] _).alloc _;have br : aJ ((w.alloc (.cells #[.slice H.G.a H.G.l H.G.c, .slice H.O.a H.O.l H.O.c] 29)).alloc (.cells #[.slice none 0 0, .slice none 0 0] 29)) (w.heap.size+1) [.slice none 0 0, .slice none 0 0]:=by
  have hb:=aJ.new (w.alloc (.cells #[.slice H.G.a H.G.l H.G.c, .slice H.O.a H.O.l H.O.c] 29)) #[.slice none 0 0, .slice none 0 0] 29;rw [World.size_alloc] at hb;exact hb
 have hB : Below w.heap.size w ((w.alloc (.cells #[.slice H.G.a H.G.l H.G.c, .slice H.O.a H.O.l H.O.c] 29)).alloc (.cells #[.slice none 0 0, .slice none 0 0] 29)) :=cO;go_enter Tryz.func156,Tryz.ntmps156;go_wp2_with fail;generalize hW0 : ((w.alloc (.cells #[.slice H.G.a H.G.l H.G.c, .slice H.O.a H.O.l H.O.c] 29)).alloc (.cells #[.slice none 0 0, .slice none 0 0] 29)) =w0 at ba br hB⊢;clear hW0;have jR:=ba.cell 0 _ rfl;have qR:=br.cell 0 _ rfl;have jH:=ba.cell 1 _ rfl;have qU:=br.cell 1 _ rfl;have fr:=br.dN;have z0:=br.lt;go_region_with (first| (go_at_call 206; (first| ((with_reducible refine(IE _ H.G H.mM x.G (kY h.G hB.drew) hs1).mono ?_);rintro e w1 ⟨K0,t0,rfl,o0,f0,hb⟩;replace hb:=o8 hb;replace f0:=D_ f0;replace ba:=ba.below hb;replace br:=br.below hb;replace hB:=hB.trans (hb.mono hB.size);have sz:=hb.size;have u0:=o0.lt; (try replace o1:=o1.step0 hb);replace jR:=ba.cell 0 _ rfl;replace qR:=br.cell 0 _ rfl;replace jH:=ba.cell 1 _ rfl;replace qU:=br.cell 1 _ rfl;replace fr:=br.dN;clear hb) | ((with_reducible refine(IE _ H.O H.qQ x.O (kY h.O hB) hs2).mono ?_);rintro e w2 ⟨K1,t1,rfl,o1,f1,hb⟩;replace ba:=ba.below hb;replace br:=br.below hb;replace hB:=hB.trans (hb.mono hB.size);have sz:=hb.size;have u1:=o1.lt; (try replace o0:=o0.step0 hb);replace jR:=ba.cell 0 _ rfl;replace qR:=br.cell 0 _ rfl;replace jH:=ba.cell 1 _ rfl;replace qU:=br.cell 1 _ rfl;replace fr:=br.dN;clear hb))))
 all_goals
  go_wp2_with fail;refine bodyPost_ret (v:= .agg #[.slice K0.a K0.l K0.c, .slice K1.a K1.l K1.c]) (by simp [results,Tryz.results156,go_sem,qR,qU]) rfl ⟨⟨K0,t0,K1,t1⟩,rfl, ⟨o0.aM (F:= [w.heap.size+1]) (by repeat (first|exact bn.refl _ _|refine bn.dG ?_ (by simp) _|refine bn.aY ?_)) (fun g hg hm=>by simp only [Pe,Pd,XK] at hm;have:=f0 g hg;omega),o1.aM (F:= [w.heap.size+1]) (by repeat (first|exact bn.refl _ _|refine bn.dG ?_ (by simp) _|refine bn.aY ?_)) (fun g hg hm=>by simp only [Pe,Pd,XK] at hm;have:=f1 g hg;omega),fun g hg hm=>by have:=u0 g hg;have:=f0 g hg;have:=u1 g hm;have:=f1 g hm;omega⟩,fun g hg=> ?_, ?_⟩
  ·rcases bF.aI.1 hg with hg|hg
   ·have:=f0 g hg
    omega
   ·have:=f1 g hg
    omega
  ·exact Below.trans hB (by repeat (first|exact Below.refl _ _|refine Below.setCell ?_ (by simp<;>omega) _|refine Below.drew ?_))
end Go.Proofs.YtkmggglljkmjoaaGreat
