/- m -/
import Derived.Test.YtkmggglljkmjoaaGreatUHRanges10
set_option maxRecDepth 100000
set_option maxHeartbeats 4000000
namespace Go.Proofs.YtkmggglljkmjoaaGreat
open Go.RowKit
theorem dX.pre {g off n c B : Nat}{w : World}{l : List Int}(h : dX FI w B (.slice (some ⟨g,off,none⟩) n c) l)(m : Nat)(h1 : m≤l.length) : dX FI w B (.slice (some ⟨g,off,none⟩) m c) (l.take m) :=by
 have a:=h.E_ 0 m (by omega);simpa using a
theorem Ng (w : World)(v : Value)(z : List Int)(x : Int)(B : Nat)(h : dX FI w B v z) :
  Calls Tryz.prog 122 #[v, .int .i64 x] w fun e w'=>e= .returned (.bool (z.any fun y=>y == x)) ∧w=w':=by
 obtain⟨A,c,hv,q1,q2,_⟩ :=id h;have kT : z.length≤9223372036854775807:=by unfold maxLen at q2;omega
 subst hv;clear q1 q2;go_enter Tryz.func122,Tryz.ntmps122;go_wp2
 go_loop [5] (fun i=> ∃k : Nat,k≤z.length∧i= .int .i64 k∧Hid ((z.take k).any (fun y=>y == x) =false)) (fun i=>z.length - (intOf i).toNat)
 case atStart=>exact⟨0,X3 _,rfl,rfl⟩
 case round=>
  obtain⟨i,hi,rfl,HN⟩ :=hrel;by_cases hlt : i<z.length
  ·obtain⟨g,off,cap',he,hg,_,_,hc⟩ :=h.at_ (XL hlt)
   injection he with he1 he2 gq;clear he2;subst he1 gq;have p0 : w.cell? ⟨g,off+i,none⟩ =some (.int .i64 z[i]) :=by simpa [FI] using hc 0 _ rfl
   clear hc h;by_cases hz : z[i]=x
   ·have hz1 : (z[i] == x) =true:=by simpa using hz
    have HP:=Hid.aD (show (z.any fun y=>y == x) =true from List.any_eq_true.2 ⟨z[i],X0 hlt,hz1⟩);clear hz;go_wp2;go_ret;exact⟨aU HP.out.symm,rfl⟩
   ·have hz1 : (z[i] == x) =false:=by simpa using hz
    have HP:=Hid.aD (any_take_succ (fun y=>y == x) z i hlt HN.out hz1);clear hz;go_wp2
    go_round
    case rel=>exact⟨i+1,by omega,by go_num,HP⟩
    case measure=>simp [intOf];omega
  ·go_wp2
   go_ret;obtain rfl : i=z.length:=by omega
   exact⟨aU (by simpa using HN.out.symm),rfl⟩
theorem pU (w : World)(H : bF)(x : Lists)(h : jC w w.heap.size H x)(hs1 : fO x.G≤536870912)(hs2 : fO x.O≤536870912) :
  Calls Tryz.prog 73 #[.agg #[.slice H.G.a H.G.l H.G.c, .slice H.O.a H.O.l H.O.c]] w fun e w'=>e= .returned (.bool (gF x)) ∧Below w.heap.size w w':=by
 obtain⟨⟨A1,n1,c1⟩,T1, ⟨A2,n2,c2⟩,T2⟩ :=H;obtain⟨gl,ow⟩ :=x;have hr1 : ig FI w w.heap.size (.slice A1 n1 c1) T1 gl:=h.G;have hr2 : ig FI w w.heap.size (.slice A2 n2 c2) T2 ow:=h.O;obtain⟨wS,_,hmx⟩ :=hr1.len';have hlt1 : gl.length≤9223372036854775807:=by unfold maxLen at hmx;omega
 clear hmx;obtain⟨wT,_,hmx⟩ :=hr2.len';have hlt2 : ow.length≤9223372036854775807:=by unfold maxLen at hmx;omega
 clear hmx h;subst wS wT;simp only at hs1 hs2;have HE:=Hid.aD (show gF ⟨gl,ow⟩ = ((gl.length == 3) && (ow.length == 9) &&ow.all nS&&kX (iR ⟨gl,ow⟩)) from rfl);have jL : aJ (w.alloc (.cells #[.slice A1 gl.length c1, .slice A2 ow.length c2] 29)) w.heap.size [.slice A1 gl.length c1, .slice A2 ow.length c2]:=aJ.new w #[.slice A1 gl.length c1, .slice A2 ow.length c2] _;have hB0 : Below w.heap.size w (w.alloc (.cells #[.slice A1 gl.length c1, .slice A2 ow.length c2] 29)) :=cO;show Calls Tryz.prog 73 #[.agg #[.slice A1 gl.length c1, .slice A2 ow.length c2]] _ _;by_cases k1 : gl.length=3
 case neg=>
  have k1' : ((gl.length : Int) != 3) =true:=by simp;omega
  have HF:=Hid.aD (show gF ⟨gl,ow⟩ =false by rw [HE.out];simp [k1]);clear k1;go_enter Tryz.func73,Tryz.ntmps73;go_wp2;go_ret;exact⟨aU HF.out.symm,hB0⟩
 have k1' : ((gl.length : Int) != 3) =false:=by simp;omega
 have K1:=Hid.aD k1;clear k1;by_cases k2 : ow.length=9
 case neg=>
  have k2' : ((ow.length : Int) != 9) =true:=by simp;omega
  have HF:=Hid.aD (show gF ⟨gl,ow⟩ =false by rw [HE.out];simp [k2]);clear k2;go_enter Tryz.func73,Tryz.ntmps73;go_wp2;go_ret;exact⟨aU HF.out.symm,hB0⟩
 have k2' : ((ow.length : Int) != 9) =false:=by simp;omega
 have HF:=Hid.aD (show gF ⟨gl,ow⟩ = (ow.all nS&&kX (iR ⟨gl,ow⟩)) by rw [HE.out,K1.out,k2];simp);clear k2 HE;go_enter Tryz.func73,Tryz.ntmps73;go_wp2;generalize (w.alloc (.cells #[.slice A1 gl.length c1, .slice A2 ow.length c2] 29)) =w0 at jL hB0;have jR:=jL.cell 0 _ rfl;have jH:=jL.cell 1 _ rfl
 go_loop [3] (fun i=> ∃k : Nat,k≤ow.length∧i= .int .i64 k∧Hid ((ow.take k).all nS=true)) (fun i=>ow.length - (intOf i).toNat)
 case atStart=>exact⟨0,X3 _,rfl,rfl⟩
 case round=>
  obtain⟨i,hi,rfl,HT⟩ :=hrel;by_cases hlt : i<ow.length
  ·obtain⟨g,o,A',c',rZ,hg,p0,Pj⟩ :=hr2.row hB0 hlt
   subst rZ;by_cases hz : ow[i].length≤2
   ·have HN:=Hid.aD (yX (p:=nS) hlt HT.out (by simp [nS,hz]))
    go_wp2
    go_round
    case rel=>exact⟨i+1,by omega,by go_num,HN⟩
    case measure=>simp [intOf];omega
   ·have HN:=Hid.aD (show gF ⟨gl,ow⟩ =false by rw [HF.out,DZ (p:=nS) hlt (by simp [nS];omega)];rfl)
    go_wp2;go_ret;exact⟨aU HN.out.symm,hB0⟩
  ·obtain rfl : i=ow.length:=by omega
   have HG:=Hid.aD (show gF ⟨gl,ow⟩ =kX (iR ⟨gl,ow⟩) by have a:=HT.out;rw [List.take_length] at a;rw [HF.out,a];rfl);clear HT HF;go_wp2_with fail;refine(C9 _ ⟨⟨A1,gl.length,c1⟩,T1, ⟨A2,ow.length,c2⟩,T2⟩ ⟨gl,ow⟩ ⟨kY hr1 hB0,kY hr2 hB0⟩ hs1 hs2).mono ?_;rintro e w1 ⟨v',rfl,ho,hf,hb0⟩;have hB1:=hB0.trans (hb0.mono hB0.size);clear hf hb0 jR jH jL hB0;generalize iR ⟨gl,ow⟩ =L at ho HG;obtain⟨A,c,hv,_,q2,_⟩ :=ho.rd';subst hv;have hL0 : L.length≤9223372036854775807:=by unfold maxLen at q2;omega
   clear q2;have hor:=ho.rd';clear ho;go_wp2;go_loopw [5] (fun i wr=> ∃k : Nat,k≤L.length∧i= .int .i64 k∧Below w1.heap.size w1 wr∧Hid (kX (L.take k) =true)) (fun i _=>L.length - (intOf i).toNat)
   case atStart=>exact⟨0,X3 _,rfl,Below.refl _ _,rfl⟩
   case round=>
    obtain⟨i,hi,rfl,hb,HR⟩ :=hrel;by_cases hlt : i<L.length
    ·obtain⟨g,off,cap',he,hg,_,_,hc⟩ := (hor.below hb).at_ (XL hlt)
     injection he with he1 he2 gq;clear he2;subst he1 gq;have p0 : wr.cell? ⟨g,off+i,none⟩ =some (.int .i64 L[i]) :=by simpa [FI] using hc 0 _ rfl
     clear hc;have hpre:= (hor.below hb).pre i (by omega);have hgw : g<wr.heap.size:=XO hg hb.size;have wU:=Hid.aD (C_ (L:=L) hlt);have wV:=Hid.aD (Da (L:=L) hlt);have wW:=Hid.aD (Ay (L:=L) hlt HR.out);generalize L[i]=x at p0 wU wV wW;have hBW:=hB1.trans (hb.mono hB1.size);have D5 : ∀ (W : World) (b : Bool),bG 0 23 x=b→Calls Tryz.prog 102 #[.int .i64 x, .int .i64 0, .int .i64 23] W fun e w'=>e= .returned (.bool b) ∧W=w':=fun W b hb=> (dH _ _ _ _).mono fun e w' ⟨u,v⟩ => ⟨by rw [u,hb],v⟩;have Nh : ∀ (n : Nat) (b : Bool), ((L.take i).any fun y=>y == x) =b→Calls Tryz.prog 122 #[.slice (some ⟨g,off,none⟩) i c, .int .i64 x] (wr.drewN n) fun e w'=>e= .returned (.bool b) ∧wr.drewN n=w':=fun n b hb=> (Ng _ _ (L.take i) x _ (hpre.keep (w':=wr.drewN n) (fun _ _=>rfl) (XQ _))).mono fun e w' ⟨u,v⟩ => ⟨by rw [u,hb],v⟩;by_cases d1 : bG 0 23 x=true
     case neg=>
      have d1' : bG 0 23 x=false:= (XM _).mp d1;have HN:=Hid.aD (show gF ⟨gl,ow⟩ =false by rw [HG.out];exact wU.out d1');have hq1:=fun W=>D5 W _ d1';clear d1 d1' wU wV wW D5 Nh;go_wp2;go_quiet ((go_at_call 102;exact fI (hq1 _)));go_wp2;go_ret;exact⟨aU HN.out.symm,by first|exact hBW|exact hBW.drew|exact below_drewN hBW _⟩
     by_cases d2 : ((L.take i).any fun y=>y == x) =true
     ·have HN:=Hid.aD (show gF ⟨gl,ow⟩ =false by rw [HG.out];exact wV.out d2)
      have hq1:=fun W=>D5 W _ d1;have hq2:=fun n=>Nh n _ d2;clear d1 d2 wU wV wW D5 Nh;go_wp2;go_quiet (first| (go_at_call 102;exact fI (hq1 _)) | (go_at_call 122;exact fI (hq2 _)));go_wp2;go_ret;exact⟨aU HN.out.symm,by first|exact hBW|exact hBW.drew|exact below_drewN hBW _⟩
     ·have AA : ((L.take i).any fun y=>y == x) =false:= (XM _).mp d2
      have HN:=Hid.aD (wW.out d1 AA);have hq1:=fun W=>D5 W _ d1;have hq2:=fun n=>Nh n _ AA;clear d1 d2 AA wU wV wW D5 Nh;go_wp2;go_quiet (first| (go_at_call 102;exact fI (hq1 _)) | (go_at_call 122;exact fI (hq2 _)));go_wp2;go_roundw
      case rel=>exact⟨i+1,by omega,by go_num,below_drewN hb _,HN⟩
      case measure=>simp [intOf];omega
    ·obtain rfl : i=L.length:=by omega
     have HN:=Hid.aD (show gF ⟨gl,ow⟩ =true by have a:=HR.out;rw [List.take_length] at a;rw [HG.out,a]);go_wp2;go_ret;exact⟨aU HN.out.symm,hB1.trans (hb.mono hB1.size)⟩
def FB : FT Bool:= {n:=1,enc:=fun b=> [.bool b],dflt:=false,len:=fun _=>rfl,one:=by intro x u hu;simp at hu;subst hu;rfl,pos:=by decide,small:=by decide}
theorem Ac {P : Program}{ops : Array Oper}{rest : List Oper}{o : Oper}{a : Act}{w : World}{Q : Exit→Act→World→Prop}(hgd : o.guard=none)(ty : TypeId)(x y : Operand)(ho : o.op= .store ty x y)(c : Array Value)(n : Nat)(hn : n=w.heap.size)
  (hx : a.eval x= .pointer (some ⟨n,0,none⟩)) (hy : a.eval y= .agg c) (hi : (P.info? ty).map (·.size) =some c.size) (h1 : c.all (·.oneCell') =true)
  (h : wpList P ops Q rest (a.put o.dst undef) (w.alloc (.cells c ty))) : wpList P ops Q (o::rest) a (w.alloc (.cells c ty)) :=by
 subst hn;refine wpList_store_row hgd ty x y ho w.heap.size c hx hy ty c (heap_alloc_last w _) hi rfl h1 ?_;rw [World.setRow_alloc_new];exact h
theorem vg : Tryz.prog.built 167 []=some #[.bool false, .bool false, .bool false, .bool false, .bool false, .bool false, .bool false, .bool false, .bool false, .bool false, .bool false, .bool false, .bool false, .bool false, .bool false, .bool false, .bool false, .bool false, .bool false, .bool false, .bool false, .bool false, .bool false, .bool false]:=by kernel_rfl
theorem uK {ops : Array Oper}{rest : List Oper}{o : Oper}{a : Act}{w : World}{Q : Exit→Act→World→Prop}(hg : o.guard=none)(ho : o.op= .build 167 #[])
  (h : wpList Tryz.prog ops Q rest (a.put o.dst (.agg #[.bool false, .bool false, .bool false, .bool false, .bool false, .bool false, .bool false, .bool false, .bool false, .bool false, .bool false, .bool false, .bool false, .bool false, .bool false, .bool false, .bool false, .bool false, .bool false, .bool false, .bool false, .bool false, .bool false, .bool false])) w) : wpList Tryz.prog ops Q (o::rest) a w:=by
 exact wpList_build hg 167 #[] ho (by simp [vg]) (by simpa [vg] using h)
theorem AB (w : World) : aX FB 167 (w.alloc (.cells #[.bool false, .bool false, .bool false, .bool false, .bool false, .bool false, .bool false, .bool false, .bool false, .bool false, .bool false, .bool false, .bool false, .bool false, .bool false, .bool false, .bool false, .bool false, .bool false, .bool false, .bool false, .bool false, .bool false, .bool false] 167)) (.slice (some ⟨w.heap.size,0,none⟩) 24 24) (uJ []) :=by
 rw [Nc];exact aX.lit FB (List.replicate 24 false) #[.bool false, .bool false, .bool false, .bool false, .bool false, .bool false, .bool false, .bool false, .bool false, .bool false, .bool false, .bool false, .bool false, .bool false, .bool false, .bool false, .bool false, .bool false, .bool false, .bool false, .bool false, .bool false, .bool false, .bool false] rfl (by simp [maxLen]) w 167
theorem Ij (w : World)(gb : Nat)(A1 A2 : Option Addr)(n1 n2 c1 c2 : Nat)(T1 T2 : List SV)(bb : aJ w gb [.slice A1 n1 c1, .slice A2 n2 c2])(h1 : dX FS w w.heap.size (.slice A1 n1 c1) T1)(h2 : dX FS w w.heap.size (.slice A2 n2 c2) T2)(e1 : n1=9)(e2 : n2=3) :
  Calls Tryz.prog 197 #[.slice (some ⟨gb,0,none⟩) 2 2] w fun e w'=> ∃v,e= .returned v∧aX FS 94 w' v (T1++T2) ∧ (∀g∈bq v,w.heap.size≤g) ∧Below w.heap.size w w':=by
 subst e1 e2;exact Kk w gb A1 A2 c1 c2 T1 T2 bb h1 h2
theorem Oy {w : World}{B1 : Nat}{v1 v2 : Value}{T1 T2 : List SV}{gl ow : List (List Int)}(h1 : ig FI w B1 v1 T1 gl)(h2 : ig FI w B1 v2 T2 ow)(i : Nat)(hi : i< (ow++gl).length) :
  ∃s : SV, (T2++T1)[i]? =some s∧dX FI w B1 (.slice s.a s.l s.c) (ow++gl)[i]:=by
 have e1:=h1.len;have e2:=h2.len;rw [XU] at hi;by_cases hlt : i<ow.length
 ·have ht : i<T2.length:=by omega
  refine⟨T2[i],by rw [List.getElem?_append_left ht,XL ht], ?_⟩;rw [List.getElem_append_left hlt];exact h2.inner i _ _ (XL ht) (XL hlt)
 ·have ht : i - T2.length<T1.length:=by omega
  refine⟨T1[i - T2.length],by rw [List.getElem?_append_right (by omega),XL ht], ?_⟩;rw [List.getElem_append_right (by omega)];refine h1.inner (i - T2.length) _ _ (XL ht) ?_;rw [XL (by omega)];congr 2;omega
theorem Ik (w : World)(H : bF)(x : Lists)(h : jC w w.heap.size H x) :
  Calls Tryz.prog 141 #[.agg #[.slice H.G.a H.G.l H.G.c, .slice H.O.a H.O.l H.O.c]] w fun e w'=>e= .returned (.bool (gF x)) ∧Below w.heap.size w w':=by
 obtain⟨⟨A1,n1,c1⟩,T1, ⟨A2,n2,c2⟩,T2⟩ :=H;obtain⟨gl,ow⟩ :=x;have hr1 : ig FI w w.heap.size (.slice A1 n1 c1) T1 gl:=h.G;have hr2 : ig FI w w.heap.size (.slice A2 n2 c2) T2 ow:=h.O;obtain⟨wS,_,hmx⟩ :=hr1.len';have hlt1 : gl.length≤9223372036854775807:=by unfold maxLen at hmx;omega
 clear hmx;obtain⟨wT,_,hmx⟩ :=hr2.len';have hlt2 : ow.length≤9223372036854775807:=by unfold maxLen at hmx;omega
 clear hmx h;subst wS wT;have HE:=Hid.aD (show gF ⟨gl,ow⟩ = ((gl.length == 3) && (ow.length == 9) &&ow.all nS&&kX (iR ⟨gl,ow⟩)) from rfl);have hB0 : Below w.heap.size w (w.alloc (.cells #[.slice A1 gl.length c1, .slice A2 ow.length c2] 29)) :=cO;show Calls Tryz.prog 141 #[.agg #[.slice A1 gl.length c1, .slice A2 ow.length c2]] _ _;by_cases k1 : gl.length=3
 case neg=>
  have k1' : ((gl.length : Int) != 3) =true:=by simp;omega
  have HF:=Hid.aD (show gF ⟨gl,ow⟩ =false by rw [HE.out];simp [k1]);clear k1;go_enter Tryz.func141,Tryz.ntmps141;go_wp2;go_ret;exact⟨aU HF.out.symm,hB0⟩
 have k1' : ((gl.length : Int) != 3) =false:=by simp;omega
 have K1:=Hid.aD k1;clear k1;by_cases k2 : ow.length=9
 case neg=>
  have k2' : ((ow.length : Int) != 9) =true:=by simp;omega
  have HF:=Hid.aD (show gF ⟨gl,ow⟩ =false by rw [HE.out];simp [k2]);clear k2;go_enter Tryz.func141,Tryz.ntmps141;go_wp2;go_ret;exact⟨aU HF.out.symm,hB0⟩
 have k2' : ((ow.length : Int) != 9) =false:=by simp;omega
 have K2:=Hid.aD k2;have HF:=Hid.aD (show gF ⟨gl,ow⟩ = (ow.all nS&&kX (ow++gl).flatten) by rw [HE.out,K1.out,k2, ←LZ ⟨gl,ow⟩];simp);clear k2 HE;have Si:=Hid.aD (Oy hr1 hr2);have KL:=Hid.aD (show (ow++gl).length=12 by rw [XU,K1.out,K2.out]);have HOW:=Hid.aD (fun i (hi : i<ow.length) (hj : i< (ow++gl).length) => (List.getElem_append_left (bs:=gl) hi : (ow++gl)[i]=ow[i]));have HT0:=Hid.aD (qh (ow++gl));have KX:=Hid.aD (Fh (ow++gl));generalize hR : ow++gl=R at HF Si KL HOW HT0 KX;generalize hL : R.flatten=L at HF HT0 KX;clear hR hL;go_enter Tryz.func141,Tryz.ntmps141;go_wp2_with (first| (refine uK rfl rfl ?_) | (refine Ac rfl 167 (.tmp 3) (.tmp 18) rfl _ _ (by simp) rfl rfl (by kernel_rfl) (by simp [Value.oneCell']) ?_));have KY:=AB (w.alloc (.cells #[.slice A1 gl.length c1, .slice A2 ow.length c2] 29));have Qt : aJ (((w.alloc (.cells #[.slice A1 gl.length c1, .slice A2 ow.length c2] 29)).alloc (.cells #[.bool false, .bool false, .bool false, .bool false, .bool false, .bool false, .bool false, .bool false, .bool false, .bool false, .bool false, .bool false, .bool false, .bool false, .bool false, .bool false, .bool false, .bool false, .bool false, .bool false, .bool false, .bool false, .bool false, .bool false] 167)).alloc (.cells #[.slice A2 ow.length c2, .slice A1 gl.length c1] 27)) (w.heap.size+1+1) [.slice A2 ow.length c2, .slice A1 gl.length c1]:=by have a:=aJ.new ((w.alloc (.cells #[.slice A1 gl.length c1, .slice A2 ow.length c2] 29)).alloc (.cells #[.bool false, .bool false, .bool false, .bool false, .bool false, .bool false, .bool false, .bool false, .bool false, .bool false, .bool false, .bool false, .bool false, .bool false, .bool false, .bool false, .bool false, .bool false, .bool false, .bool false, .bool false, .bool false, .bool false, .bool false] 167)) #[.slice A2 ow.length c2, .slice A1 gl.length c1] 27;simpa using a
 have Pm:=KY.av (.cells #[.slice A2 ow.length c2, .slice A1 gl.length c1] 27);have jJ : aJ (((w.alloc (.cells #[.slice A1 gl.length c1, .slice A2 ow.length c2] 29)).alloc (.cells #[.bool false, .bool false, .bool false, .bool false, .bool false, .bool false, .bool false, .bool false, .bool false, .bool false, .bool false, .bool false, .bool false, .bool false, .bool false, .bool false, .bool false, .bool false, .bool false, .bool false, .bool false, .bool false, .bool false, .bool false] 167)).alloc (.cells #[.slice A2 ow.length c2, .slice A1 gl.length c1] 27)) w.heap.size [.slice A1 gl.length c1, .slice A2 ow.length c2]:= ((aJ.new w #[.slice A1 gl.length c1, .slice A2 ow.length c2] _).alloc _).alloc _;have hB1 : Below w.heap.size w (((w.alloc (.cells #[.slice A1 gl.length c1, .slice A2 ow.length c2] 29)).alloc (.cells #[.bool false, .bool false, .bool false, .bool false, .bool false, .bool false, .bool false, .bool false, .bool false, .bool false, .bool false, .bool false, .bool false, .bool false, .bool false, .bool false, .bool false, .bool false, .bool false, .bool false, .bool false, .bool false, .bool false, .bool false] 167)).alloc (.cells #[.slice A2 ow.length c2, .slice A1 gl.length c1] 27)) :=cO;have hz1 : ((((w.alloc (.cells #[.slice A1 gl.length c1, .slice A2 ow.length c2] 29)).alloc (.cells #[.bool false, .bool false, .bool false, .bool false, .bool false, .bool false, .bool false, .bool false, .bool false, .bool false, .bool false, .bool false, .bool false, .bool false, .bool false, .bool false, .bool false, .bool false, .bool false, .bool false, .bool false, .bool false, .bool false, .bool false] 167)).alloc (.cells #[.slice A2 ow.length c2, .slice A1 gl.length c1] 27))).heap.size=w.heap.size+1+1+1:=by simp
 simp only [World.size_alloc] at Pm;generalize (((w.alloc (.cells #[.slice A1 gl.length c1, .slice A2 ow.length c2] 29)).alloc (.cells #[.bool false, .bool false, .bool false, .bool false, .bool false, .bool false, .bool false, .bool false, .bool false, .bool false, .bool false, .bool false, .bool false, .bool false, .bool false, .bool false, .bool false, .bool false, .bool false, .bool false, .bool false, .bool false, .bool false, .bool false] 167)).alloc (.cells #[.slice A2 ow.length c2, .slice A1 gl.length c1] 27)) =w3 at Qt Pm jJ hB1 hz1⊢;clear KY hB0;refine(Ij w3 _ A2 A1 _ _ c2 c1 T2 T1 Qt (bY hr2.outer hB1) (bY hr1.outer hB1) K2.out K1.out).mono ?_;rintro e w4 ⟨vC,rfl,Qu,Sj,hb4⟩;have Sk:=Pm.aM (bn.of_below (F:= []) hb4) (by simp);have Um:=jJ.below hb4;have hB4:=hB1.trans (hb4.mono hB1.size);have D6 : w.heap.size+1<w4.heap.size:=by have:=hb4.size;omega
 have Qv : ∀g∈bq vC,w.heap.size+1<g:=fun g hg=>by have:=Sj g hg;omega
 clear Sj hb4 Pm jJ Qt hB1 hz1;have Qw : (T2++T1).length=12:=by rw [XU,hr2.len,hr1.len,K2.out,K1.out]
 rcases Qu.form with ⟨_,hnil⟩ | ⟨gC,cC,rfl,Un,_,_⟩
 ·rw [hnil] at Qw
  simp at Qw
 rw [Qw] at Qu Qv⊢;go_wp2;go_loopw [4,5,7,26,45] (fun _ _ _ i _ wr=> ∃k : Nat,k≤12∧i= .int .i64 k∧Hid ((ow.take k).all nS=true) ∧Hid (kX (L.take (ku (R.take k))) =true) ∧bn [w.heap.size+1] w4 wr∧aX FB 167 wr (.slice (some ⟨w.heap.size+1,0,none⟩) 24 24) (uJ (L.take (ku (R.take k))))) (fun _ _ _ i _ _=>12 - (intOf i).toNat)
 case atStart=>exact⟨0,X3 _,rfl,rfl,rfl,bn.refl _ _,Sk⟩
 case round=>
  obtain⟨i,hi,rfl,HO,HS,hc,om⟩ :=hrel;clear Sk;have ba:=Um.aM hc (by simp);have hb : Below w.heap.size w wr:=hB4.trans (hc.below hB4.size (by intro g hg;have:=List.mem_singleton.1 hg;omega));have jH:=ba.cell 1 _ rfl;have Uo : w.heap.size+1<wr.heap.size:=XO D6 hc.size;have V7 : w.heap.size<wr.heap.size:=Nat.lt_of_succ_lt Uo;by_cases hlt : i<12
  ·have Pn : i<R.length:=by rw [KL.out];exact hlt
   obtain⟨⟨sa,sl,sc⟩,hsv,tT⟩ :=Si.out i Pn;have hrow : dX FI w w.heap.size (.slice sa sl sc) R[i]:=tT;clear tT;have Oz : (i : Int) <12:=by omega
   have Sl:=Qu.aM hc (by intro g hg hm;have a:=Qv g hg;have b:=List.mem_singleton.1 hm;omega);have p0 : wr.cell? ⟨gC,i,none⟩ =some (.slice sa sl sc) :=by simpa [FS] using Sl.cell_ (k:=i) (j:=0) hsv (by decide)
   have hgw : gC<wr.heap.size:=XO Un hc.size;have hln:= (dX.len_ hrow).1;have hr0:= (dX.len_ hrow).2;rw [hln] at p0 hrow hr0;have HP:=Hid.aD (nW R i Pn);have FN:=Hid.aD (fun j hj=>KX.out i j Pn hj);have htot : ku (R.take i) +R[i].length≤L.length:=by
    have a:=nE R (i+1);have b:=HT0.out;have d:=HP.out;omega
   have Ni:=Hid.aD (fun hi9=>HOW.out i hi9 Pn);clear Sl hsv;generalize R[i]=row at p0 hrow hr0 HP FN htot Ni;clear hln;generalize ku (R.take i) =p at HS om HP FN htot;by_cases hs2 : i<ow.length∧2<row.length
   ·obtain⟨hs2,hs3⟩ :=hs2
    have HN:=Hid.aD (show gF ⟨gl,ow⟩ =false by rw [HF.out,DZ (p:=nS) hs2 (by rw [←Ni.out hs2];simp [nS];omega)];rfl);clear Ni;go_wp2;go_ret;exact⟨aU HN.out.symm,hb.alloc hb.size _⟩
   have Sm:=Hid.aD (show (ow.take (i+1)).all nS=true by
    by_cases h9 : i<ow.length
    ·exact yX h9 HO.out (by rw [←Ni.out h9];simp [nS];omega)
    ·have a:=HO.out
     rw [List.take_of_length_le (by omega)] at a⊢;exact a)
   have KZ : bn [w.heap.size+1] w4 (wr.alloc (.cells #[.slice sa row.length sc] 94)) :=hc.av _;have K5:=om.av (.cells #[.slice sa row.length sc] 94);have Uq : ¬ (i<ow.length∧2<row.length) :=hs2;have WH:=Hid.aD hs2;have hcase : ∀b : Bool,b=decide (i<ow.length) → (b=true→ ¬ 2<row.length) :=fun b e hb h2=>hs2 ⟨by rw [e] at hb;simpa using hb,h2⟩;clear hs2 Uq Ni hc om;by_cases h9 : i<ow.length
   ·have WI:=hcase true (by simp [h9]) rfl
    have WJ : ¬ (2< (row.length : Int)) :=by omega
    clear hcase;go_wp2;obtain⟨wo,hwo⟩ : ∃wo : World,wo=wr.alloc (.cells #[.slice sa row.length sc] 94) := ⟨_,rfl⟩;rw [←hwo] at KZ K5⊢;have Ur : wo.heap.size=wr.heap.size+1:=by rw [hwo];simp
    clear hwo;go_loopw [7,45] (fun _ j wr=> ∃k : Nat,k≤row.length∧j= .int .i64 k∧Hid (kX (L.take (p+k)) =true) ∧bn [w.heap.size+1] w4 wr∧aX FB 167 wr (.slice (some ⟨w.heap.size+1,0,none⟩) 24 24) (uJ (L.take (p+k)))) (fun _ j _=>row.length - (intOf j).toNat)
    case atStart=>exact⟨0,X3 _,rfl,HS,KZ,K5⟩
    case round=>
     obtain⟨j,hj,rfl,FQ,hcq,uj⟩ :=hrel;clear KZ K5 p0 jH;have hbq : Below w.heap.size w wr:=hB4.trans (hcq.below hB4.size (by intro g hg;have:=List.mem_singleton.1 hg;omega));by_cases hlj : j<row.length
     ·obtain⟨g1,o1,E5,he1,hg1,_,_,hc1⟩ := (hrow.below hbq).at_ (XL hlj)
      injection he1 with e11 e12 e13;clear e12;subst e11 e13;have p1 : wr.cell? ⟨g1,o1+j,none⟩ =some (.int .i64 row[j]) :=by simpa [FI] using hc1 0 _ rfl
      clear hc1;have tV : p+j<L.length:=by omega
      have FR : L[p+j]=row[j]:=by
       have a:=FN.out j hlj;rw [XL tV] at a;exact Option.some.inj a
      have wU:=Hid.aD (C_ (L:=L) tV);have wV:=Hid.aD (Da (L:=L) tV);have wW:=Hid.aD (Ay (L:=L) tV FQ.out);have yD:=Hid.aD (fun s hm=>Ii L (p+j) s tV hm);rw [FR] at wU wV wW yD;generalize row[j]=y at p1 wU wV wW yD;clear FR tV;by_cases d1 : bG 0 23 y=true
      case neg=>
       have d1' : bG 0 23 y=false:= (XM _).mp d1;have HN:=Hid.aD (show gF ⟨gl,ow⟩ =false by rw [HF.out,wU.out d1'];simp);clear d1;go_wp2_with (go_at_call 120;refine(oI _ _).mono ?_;rw [d1'];rintro e w2 ⟨rfl,rfl⟩);go_ret;exact⟨aU HN.out.symm,hbq⟩
      obtain⟨y0,y1⟩ :=bH.1 d1;obtain⟨s,rfl⟩ :=XP y0;have hs3 : s<24:=by omega
      have hgm:=yV (L.take (p+j)) s hs3;have cm : wr.cell? ⟨w.heap.size+1,s,none⟩ =some (.bool ((L.take (p+j)).any fun z=>z == (s : Int))) :=by simpa [FB] using uj.cell_ (k:=s) (j:=0) hgm (by decide)
      have hfz:=uj.dM s;have hzz : w.heap.size+1<wr.heap.size:=XO D6 hcq.size;by_cases d2 : ((L.take (p+j)).any fun z=>z == (s : Int)) =true
      ·have HN:=Hid.aD (show gF ⟨gl,ow⟩ =false by rw [HF.out,wV.out d2];simp)
       rw [d2] at cm;clear d2 hgm uj;go_wp2_with (go_at_call 120;refine(oI _ _).mono ?_;rw [d1];rintro e w2 ⟨rfl,rfl⟩);go_ret;exact⟨aU HN.out.symm,hbq⟩
      have AA : ((L.take (p+j)).any fun z=>z == (s : Int)) =false:= (XM _).mp d2;have HN:=Hid.aD (wW.out d1 AA);have HM:=Hid.aD (yD.out s rfl);rw [AA] at cm;clear d2 AA wU wV wW yD;go_wp2_with (go_at_call 120;refine(oI _ _).mono ?_;rw [d1];rintro e w2 ⟨rfl,rfl⟩);go_roundw
      case rel=>
       have hset:=uj.dG (k:=s) (j:=0) (y:=true) (u:= .bool true) hgm (by decide) rfl;rw [HM.out] at hset;have D7 : aX FB 167 (wr.setCell ⟨w.heap.size+1,s,none⟩ (.bool true)) (.slice (some ⟨w.heap.size+1,0,none⟩) 24 24) (uJ (L.take (p+j+1))) :=by simpa [FB] using hset
       exact⟨j+1,by omega,by go_num,HN,hcq.dG (List.mem_singleton_self _) _,D7⟩
      case measure=>simp [intOf];omega
     ·obtain rfl : j=row.length:=by omega
      go_wp2;go_roundw
      case rel=>exact⟨i+1,by omega,by go_num,Sm,by rw [HP.out];exact FQ,hcq,by rw [HP.out];exact uj⟩
      case measure=>simp [intOf];omega
   ·clear hcase
    have WK : ¬ ((i : Int) < (ow.length : Int)) :=by omega
    go_wp2;obtain⟨wo,hwo⟩ : ∃wo : World,wo=wr.alloc (.cells #[.slice sa row.length sc] 94) := ⟨_,rfl⟩;rw [←hwo] at KZ K5⊢;have Ur : wo.heap.size=wr.heap.size+1:=by rw [hwo];simp
    clear hwo;go_loopw [7,45] (fun _ j wr=> ∃k : Nat,k≤row.length∧j= .int .i64 k∧Hid (kX (L.take (p+k)) =true) ∧bn [w.heap.size+1] w4 wr∧aX FB 167 wr (.slice (some ⟨w.heap.size+1,0,none⟩) 24 24) (uJ (L.take (p+k)))) (fun _ j _=>row.length - (intOf j).toNat)
    case atStart=>exact⟨0,X3 _,rfl,HS,KZ,K5⟩
    case round=>
     obtain⟨j,hj,rfl,FQ,hcq,uj⟩ :=hrel;clear KZ K5 p0 jH;have hbq : Below w.heap.size w wr:=hB4.trans (hcq.below hB4.size (by intro g hg;have:=List.mem_singleton.1 hg;omega));by_cases hlj : j<row.length
     ·obtain⟨g1,o1,E5,he1,hg1,_,_,hc1⟩ := (hrow.below hbq).at_ (XL hlj)
      injection he1 with e11 e12 e13;clear e12;subst e11 e13;have p1 : wr.cell? ⟨g1,o1+j,none⟩ =some (.int .i64 row[j]) :=by simpa [FI] using hc1 0 _ rfl
      clear hc1;have tV : p+j<L.length:=by omega
      have FR : L[p+j]=row[j]:=by
       have a:=FN.out j hlj;rw [XL tV] at a;exact Option.some.inj a
      have wU:=Hid.aD (C_ (L:=L) tV);have wV:=Hid.aD (Da (L:=L) tV);have wW:=Hid.aD (Ay (L:=L) tV FQ.out);have yD:=Hid.aD (fun s hm=>Ii L (p+j) s tV hm);rw [FR] at wU wV wW yD;generalize row[j]=y at p1 wU wV wW yD;clear FR tV;by_cases d1 : bG 0 23 y=true
      case neg=>
       have d1' : bG 0 23 y=false:= (XM _).mp d1;have HN:=Hid.aD (show gF ⟨gl,ow⟩ =false by rw [HF.out,wU.out d1'];simp);clear d1;go_wp2_with (go_at_call 120;refine(oI _ _).mono ?_;rw [d1'];rintro e w2 ⟨rfl,rfl⟩);go_ret;exact⟨aU HN.out.symm,hbq⟩
      obtain⟨y0,y1⟩ :=bH.1 d1;obtain⟨s,rfl⟩ :=XP y0;have hs3 : s<24:=by omega
      have hgm:=yV (L.take (p+j)) s hs3;have cm : wr.cell? ⟨w.heap.size+1,s,none⟩ =some (.bool ((L.take (p+j)).any fun z=>z == (s : Int))) :=by simpa [FB] using uj.cell_ (k:=s) (j:=0) hgm (by decide)
      have hfz:=uj.dM s;have hzz : w.heap.size+1<wr.heap.size:=XO D6 hcq.size;by_cases d2 : ((L.take (p+j)).any fun z=>z == (s : Int)) =true
      ·have HN:=Hid.aD (show gF ⟨gl,ow⟩ =false by rw [HF.out,wV.out d2];simp)
       rw [d2] at cm;clear d2 hgm uj;go_wp2_with (go_at_call 120;refine(oI _ _).mono ?_;rw [d1];rintro e w2 ⟨rfl,rfl⟩);go_ret;exact⟨aU HN.out.symm,hbq⟩
      have AA : ((L.take (p+j)).any fun z=>z == (s : Int)) =false:= (XM _).mp d2;have HN:=Hid.aD (wW.out d1 AA);have HM:=Hid.aD (yD.out s rfl);rw [AA] at cm;clear d2 AA wU wV wW yD;go_wp2_with (go_at_call 120;refine(oI _ _).mono ?_;rw [d1];rintro e w2 ⟨rfl,rfl⟩);go_roundw
      case rel=>
       have hset:=uj.dG (k:=s) (j:=0) (y:=true) (u:= .bool true) hgm (by decide) rfl;rw [HM.out] at hset;have D7 : aX FB 167 (wr.setCell ⟨w.heap.size+1,s,none⟩ (.bool true)) (.slice (some ⟨w.heap.size+1,0,none⟩) 24 24) (uJ (L.take (p+j+1))) :=by simpa [FB] using hset
       exact⟨j+1,by omega,by go_num,HN,hcq.dG (List.mem_singleton_self _) _,D7⟩
      case measure=>simp [intOf];omega
     ·obtain rfl : j=row.length:=by omega
      go_wp2;go_roundw
      case rel=>exact⟨i+1,by omega,by go_num,Sm,by rw [HP.out];exact FQ,hcq,by rw [HP.out];exact uj⟩
      case measure=>simp [intOf];omega
  ·obtain rfl : i=12:=by omega
   have HN:=Hid.aD (show gF ⟨gl,ow⟩ =true by
    have a:=HO.out;have b:=HS.out;have e1 : R.take 12=R:=List.take_of_length_le (by rw [KL.out];omega);have e2 : ow.take 12=ow:=List.take_of_length_le (by rw [K2.out];omega);rw [e1,HT0.out,List.take_length] at b;rw [e2] at a;rw [HF.out,a,b];rfl)
   go_wp2;go_ret;exact⟨aU HN.out.symm,hb⟩
theorem zM (w : World)(H : eX)(x : Heap)(A : Option Addr)(cap : Nat)(l : List Int)(c : Int)(h : iW w w.heap.size H x)(hs : fJ x=true)(hr : dX FI w w.heap.size (.slice A l.length cap) l) :
  Calls Tryz.prog 142 #[.agg #[.slice H.Y.a H.Y.l H.Y.c, .slice H.Z.a H.Z.l H.Z.c], .agg #[.slice A l.length cap], .int .i64 c] w fun e w'=>e= .returned (.bool (l.all (jw x c))) ∧Below w.heap.size w w':=by
 have kT:= (dX.len_ hr).2;have jL : aJ ((w.alloc (.cells #[.slice H.Y.a H.Y.l H.Y.c, .slice H.Z.a H.Z.l H.Z.c] 26)).alloc (.cells #[.slice A l.length cap] 94)) w.heap.size [.slice H.Y.a H.Y.l H.Y.c, .slice H.Z.a H.Z.l H.Z.c]:= (aJ.new w #[.slice H.Y.a H.Y.l H.Y.c, .slice H.Z.a H.Z.l H.Z.c] _).alloc _;have hB0 : Below w.heap.size w ((w.alloc (.cells #[.slice H.Y.a H.Y.l H.Y.c, .slice H.Z.a H.Z.l H.Z.c] 26)).alloc (.cells #[.slice A l.length cap] 94)) :=cO;go_enter Tryz.func142,Tryz.ntmps142;go_wp2;generalize ((w.alloc (.cells #[.slice H.Y.a H.Y.l H.Y.c, .slice H.Z.a H.Z.l H.Z.c] 26)).alloc (.cells #[.slice A l.length cap] 94)) =w0 at jL hB0;go_loopw [8,12] (fun _ i wr=> ∃k : Nat,k≤l.length∧i= .int .i64 k∧Hid ((l.take k).all (jw x c) =true) ∧Below w.heap.size w wr∧aJ wr w.heap.size [.slice H.Y.a H.Y.l H.Y.c, .slice H.Z.a H.Z.l H.Z.c]) (fun _ i _=>l.length - (intOf i).toNat)
 case atStart=>exact⟨0,X3 _,rfl,rfl,hB0,jL⟩
 case round=>
  obtain⟨i,hi,rfl,HT,hb,ba⟩ :=hrel;clear jL hB0;by_cases hlt : i<l.length
  ·obtain⟨g,off,cap',he,hg,_,_,hc⟩ := (hr.below hb).at_ (XL hlt)
   injection he with he1 he2 gq;clear he2;subst he1 gq;have p0 : wr.cell? ⟨g,off+i,none⟩ =some (.int .i64 l[i]) :=by simpa [FI] using hc 0 _ rfl
   clear hc;have jR:=ba.cell 0 _ rfl;have jH:=ba.cell 1 _ rfl;have HF:=Hid.aD (show jw x c l[i]= ((aG x l[i] == c) &&decide (dK x l[i]≤6)) from rfl);have HY:=Hid.aD (fun hp=>yX (p:=jw x c) hlt HT.out hp);have HZ:=Hid.aD (fun hp=>DZ (p:=jw x c) hlt hp);generalize l[i]=s at p0 HF HY HZ;go_wp2_with fail;refine(tH _ H x s (fT h hb) hs).mono ?_;rintro e w1 ⟨rfl,hb1⟩;have jJ:=ba.below hb1;have hB1:=hb.trans (hb1.mono hb.size);clear hb1 p0 jR jH ba hb;by_cases k1 : aG x s=c
   case neg=>
    have k1' : (aG x s != c) =true:=by simpa using k1
    have HN:=Hid.aD (HZ.out (by rw [HF.out,show (aG x s == c) =false by simpa using k1];rfl));clear k1;go_wp2;go_ret;exact⟨aU HN.out.symm,hB1⟩
   have k1' : (aG x s != c) =false:=by simpa using k1
   have K1:=Hid.aD k1;clear k1;have jR:=jJ.cell 0 _ rfl;have jH:=jJ.cell 1 _ rfl;go_wp2_with fail;refine(yR _ H x s (fT h hB1) hs).mono ?_;rintro e w2 ⟨rfl,hb2⟩;have mQ:=jJ.below hb2;have hB2:=hB1.trans (hb2.mono hB1.size);clear hb2 jR jH jJ hB1;by_cases k2 : dK x s≤6
   ·have k2' : ¬ 6<dK x s:=by omega
    have HN:=Hid.aD (HY.out (by rw [HF.out,K1.out];simp [k2]));go_wp2;go_roundw
    case rel=>exact⟨i+1,by omega,by go_num,HN,hB2,mQ⟩
    case measure=>simp [intOf];omega
   ·have k2' : 6<dK x s:=by omega
    have HN:=Hid.aD (HZ.out (by rw [HF.out,K1.out];simp [k2]));clear k2;go_wp2;go_ret;exact⟨aU HN.out.symm,hB2⟩
  ·obtain rfl : i=l.length:=by omega
   have HN:=Hid.aD (show l.all (jw x c) =true by have a:=HT.out;rwa [List.take_length] at a);go_wp2;go_ret;exact⟨aU HN.out.symm,hb⟩
theorem K6 {B g0 g k : Nat}{v0 v1 u : Value}{W w w' : World}(h : w.cell? ⟨g0,0,none⟩ =some v0∧w.cell? ⟨g0,1,none⟩ =some v1∧w.cell? ⟨g,k,none⟩ =some u∧g0<w.heap.size∧g<w.heap.size∧Below B W w)(hb : Below w.heap.size w w')(hB : B≤g0) :
  w'.cell? ⟨g0,0,none⟩ =some v0∧w'.cell? ⟨g0,1,none⟩ =some v1∧w'.cell? ⟨g,k,none⟩ =some u∧g0<w'.heap.size∧g<w'.heap.size∧Below B W w':=by
 obtain⟨a,b,c,d,e,f⟩ :=h;exact⟨aZ hb d a,aZ hb d b,aZ hb e c,XO d hb.size,XO e hb.size,f.trans (hb.mono (by omega))⟩
theorem zN (w : World)(H : eX)(x : Heap)(A : Option Addr)(cap : Nat)(l : List Int)(c : Int)(h : iW w w.heap.size H x)(hs : fJ x=true)(hr : dX FI w w.heap.size (.slice A l.length cap) l)(hc0 : 0≤c) :
  Calls Tryz.prog 74 #[.agg #[.slice H.Y.a H.Y.l H.Y.c, .slice H.Z.a H.Z.l H.Z.c], .slice A l.length cap, .int .i64 c] w fun e w'=>e= .returned (.bool (l.all (jw x c))) ∧Below w.heap.size w w':=by
 have kT:= (dX.len_ hr).2;have jL : aJ (w.alloc (.cells #[.slice H.Y.a H.Y.l H.Y.c, .slice H.Z.a H.Z.l H.Z.c] 26)) w.heap.size [.slice H.Y.a H.Y.l H.Y.c, .slice H.Z.a H.Z.l H.Z.c]:=aJ.new w #[.slice H.Y.a H.Y.l H.Y.c, .slice H.Z.a H.Z.l H.Z.c] _;have hB0 : Below w.heap.size w (w.alloc (.cells #[.slice H.Y.a H.Y.l H.Y.c, .slice H.Z.a H.Z.l H.Z.c] 26)) :=cO;go_enter Tryz.func74,Tryz.ntmps74;go_wp2;generalize (w.alloc (.cells #[.slice H.Y.a H.Y.l H.Y.c, .slice H.Z.a H.Z.l H.Z.c] 26)) =w0 at jL hB0;go_loopw [7] (fun i wr=> ∃k : Nat,k≤l.length∧i= .int .i64 k∧Hid ((l.take k).all (jw x c) =true) ∧Below w.heap.size w wr∧wr.cell? ⟨w.heap.size,0,none⟩ =some (.slice H.Y.a H.Y.l H.Y.c) ∧wr.cell? ⟨w.heap.size,1,none⟩ =some (.slice H.Z.a H.Z.l H.Z.c) ∧w.heap.size<wr.heap.size) (fun i _=>l.length - (intOf i).toNat)
 case atStart=>exact⟨0,X3 _,rfl,rfl,hB0,jL.cell 0 _ rfl,jL.cell 1 _ rfl,jL.lt⟩
 case round=>
  obtain⟨i,hi,rfl,HT,hb,jR,jH,zl⟩ :=hrel;clear jL hB0;by_cases hlt : i<l.length
  ·obtain⟨g,off,cap',he,hg,_,_,hc⟩ := (hr.below hb).at_ (XL hlt)
   injection he with he1 he2 gq;clear he2;subst he1 gq;have p0 : wr.cell? ⟨g,off+i,none⟩ =some (.int .i64 l[i]) :=by simpa [FI] using hc 0 _ rfl
   clear hc;have HF:=Hid.aD (show jw x c l[i]= ((aG x l[i] == c) &&decide (dK x l[i]≤6)) from rfl);have HY:=Hid.aD (fun hp=>yX (p:=jw x c) hlt HT.out hp);have HZ:=Hid.aD (fun hp=>DZ (p:=jw x c) hlt hp);generalize l[i]=s at p0 HF HY HZ;clear hr;by_cases k1 : aG x s=c
   case neg=>
    have k1' : (aG x s != c) =true:=by simpa using k1
    have HN:=Hid.aD (HZ.out (by rw [HF.out,show (aG x s == c) =false by simpa using k1];rfl));have hq1:=fun (W : World) (hW : iW W W.heap.size H x) =>nk W H x s hW hs;generalize aG x s=cl at k1 k1' hq1;clear k1 HF HY HZ;go_wp2;obtain⟨wz,hwz⟩ : ∃wz : World,wz=wr:= ⟨_,rfl⟩;first| (go_region_with (first| (go_at_call 77;refine(hq1 _ (fT h (by first|exact hb.drew|exact below_drewN hb _|exact hb))).mono ?_;rintro e w1 ⟨rfl,hb1⟩;obtain⟨os1,d1,rfl⟩ :=bN hb1;clear hb1))) |fail
    all_goals go_wp2
    all_goals go_ret
    all_goals exact⟨aU HN.out.symm,by first|exact bA hb (by omega) _ _|repeat (first|exact Below.refl _ _|refine Below.alloc ?_ (by simp<;>omega) _|refine bA ?_ (by simp<;>omega) _ _|refine Below.drew ?_|refine below_drewN ?_ _)⟩
   have Po:=Hid.aD k1;have hgw : g<wr.heap.size:=XO hg hb.size;have k1' : (aG x s != c) =false:=by simpa using k1
   have hq1:=fun (W : World) (hW : iW W W.heap.size H x) =>nk W H x s hW hs;have hq2:=fun (W : World) (hW : iW W W.heap.size H x) =>tJ W H x s hW hs (by omega);rw [k1] at hq1;clear k1';by_cases k2 : dK x s≤6
   ·have HN:=Hid.aD (HY.out (by rw [HF.out,Po.out];simp [k2]))
    have k2' : decide (6<dK x s) =false:=by simp;omega
    generalize dK x s=gn at k2 k2' hq2;clear k1 k2 HF HY HZ Po;go_wp2;go_region_held3 (fun w'=>w'.cell? ⟨w.heap.size,0,none⟩ =some (.slice H.Y.a H.Y.l H.Y.c) ∧w'.cell? ⟨w.heap.size,1,none⟩ =some (.slice H.Z.a H.Z.l H.Z.c) ∧w'.cell? ⟨g,off+i,none⟩ =some (.int .i64 s) ∧w.heap.size<w'.heap.size∧g<w'.heap.size∧Below w.heap.size w w') (first| (go_keep;done) |exact K6 (by assumption) (by assumption) (XQ _) |exact⟨by assumption,by assumption,by assumption,by assumption,by assumption,Below.drew (by assumption)⟩) (first| (go_at_call 77;refine(hq1 _ (fT h (by go_split_ands;assumption))).mono ?_;rintro e w1 ⟨rfl,hb1⟩) | (go_at_call 108;refine(hq2 _ (fT h (by go_split_ands;assumption))).mono ?_;rintro e w1 ⟨rfl,hb1⟩));go_wp2;go_roundw
    case rel=>exact⟨i+1,by omega,by go_num,HN,by first|assumption| (go_split_ands;assumption),by first|assumption| (go_split_ands;assumption),by first|assumption| (go_split_ands;assumption),by first|assumption| (go_split_ands;assumption)⟩
    case measure=>simp [intOf];omega
   ·have HN:=Hid.aD (HZ.out (by rw [HF.out,Po.out];simp [k2]))
    have k2' : decide (6<dK x s) =true:=by simp;omega
    generalize dK x s=gn at k2 k2' hq2;clear k1 k2 HF HY HZ Po;go_wp2;go_region_held3 (fun w'=>w'.cell? ⟨w.heap.size,0,none⟩ =some (.slice H.Y.a H.Y.l H.Y.c) ∧w'.cell? ⟨w.heap.size,1,none⟩ =some (.slice H.Z.a H.Z.l H.Z.c) ∧w'.cell? ⟨g,off+i,none⟩ =some (.int .i64 s) ∧w.heap.size<w'.heap.size∧g<w'.heap.size∧Below w.heap.size w w') (first| (go_keep;done) |exact K6 (by assumption) (by assumption) (XQ _) |exact⟨by assumption,by assumption,by assumption,by assumption,by assumption,Below.drew (by assumption)⟩) (first| (go_at_call 77;refine(hq1 _ (fT h (by go_split_ands;assumption))).mono ?_;rintro e w1 ⟨rfl,hb1⟩) | (go_at_call 108;refine(hq2 _ (fT h (by go_split_ands;assumption))).mono ?_;rintro e w1 ⟨rfl,hb1⟩));go_wp2;go_ret;exact⟨aU HN.out.symm,by first|assumption| (go_split_ands;assumption)⟩
  ·obtain rfl : i=l.length:=by omega
   have HN:=Hid.aD (show l.all (jw x c) =true by have a:=HT.out;rwa [List.take_length] at a);go_wp2;go_ret;exact⟨aU HN.out.symm,hb⟩
def r9 (m : Mem)(k : Nat) : Bool:= (List.range k).all fun c=> (m.I.G.getD c []).all (jw m.E c)
def pV (m : Mem)(k : Nat) : Bool:= (List.range k).all fun k=> (m.I.O.getD k []).all (jw m.E ((k%3 : Nat) : Int))
theorem FU (m : Mem) : d9 m= (jD m.E&&gF m.I&&r9 m 3&&pV m 9) :=rfl
theorem Kl (m : Mem)(k : Nat) : r9 m (k+1) = (r9 m k&& (m.I.G.getD k []).all (jw m.E k)) :=by
 unfold r9;rw [List.range_succ,List.all_append];simp
theorem Il (m : Mem)(k : Nat) : pV m (k+1) = (pV m k&& (m.I.O.getD k []).all (jw m.E ((k%3 : Nat) : Int))) :=by
 unfold pV;rw [List.range_succ,List.all_append];simp
theorem FW {m : Mem}{k n : Nat}(hk : k<n)(h : (m.I.G.getD k []).all (jw m.E k) =false) : r9 m n=false:=
 List.all_eq_false.2 ⟨k,List.mem_range.2 hk,by rw [h];decide⟩
theorem D8 {m : Mem}{k n : Nat}(hk : k<n)(h : (m.I.O.getD k []).all (jw m.E ((k%3 : Nat) : Int)) =false) : pV m n=false:=
 List.all_eq_false.2 ⟨k,List.mem_range.2 hk,by rw [h];decide⟩
theorem oJ {l : Lists}(h : gF l=true) : l.G.length=3∧l.O.length=9:=by
 unfold gF at h;simp only [X4,beq_iff_eq] at h;exact⟨h.1.1.1,h.1.1.2⟩
theorem L8 (w : World)(H : bV)(x : Mem)(h : jN w w.heap.size H x) :
  Calls Tryz.prog 70 #[.agg #[.slice H.E.Y.a H.E.Y.l H.E.Y.c, .slice H.E.Z.a H.E.Z.l H.E.Z.c, .slice H.I.G.a H.I.G.l H.I.G.c, .slice H.I.O.a H.I.O.l H.I.O.c]] w fun e w'=>e= .returned (.bool (d9 x)) ∧Below w.heap.size w w':=by
 have jL : aJ (w.alloc (.cells #[.slice H.E.Y.a H.E.Y.l H.E.Y.c, .slice H.E.Z.a H.E.Z.l H.E.Z.c, .slice H.I.G.a H.I.G.l H.I.G.c, .slice H.I.O.a H.I.O.l H.I.O.c] 31)) w.heap.size [.slice H.E.Y.a H.E.Y.l H.E.Y.c, .slice H.E.Z.a H.E.Z.l H.E.Z.c, .slice H.I.G.a H.I.G.l H.I.G.c, .slice H.I.O.a H.I.O.l H.I.O.c]:=aJ.new w #[.slice H.E.Y.a H.E.Y.l H.E.Y.c, .slice H.E.Z.a H.E.Z.l H.E.Z.c, .slice H.I.G.a H.I.G.l H.I.G.c, .slice H.I.O.a H.I.O.l H.I.O.c] _;have hB0 : Below w.heap.size w (w.alloc (.cells #[.slice H.E.Y.a H.E.Y.l H.E.Y.c, .slice H.E.Z.a H.E.Z.l H.E.Z.c, .slice H.I.G.a H.I.G.l H.I.G.c, .slice H.I.O.a H.I.O.l H.I.O.c] 31)) :=cO;have HE:=Hid.aD (FU x);go_enter Tryz.func70,Tryz.ntmps70;go_wp2_with fail;refine(Kg _ H.E x.E (fT h.E hB0)).mono ?_;rintro e w1 ⟨rfl,hb⟩;have jJ:=jL.below hb;have hB1:=hB0.trans (hb.mono hB0.size);clear hb jL hB0;by_cases k1 : jD x.E=true
 case neg=>
  have k1' : jD x.E=false:= (XM _).mp k1;have HN:=Hid.aD (show d9 x=false by rw [HE.out,k1'];rfl);rw [k1'];clear k1 k1';go_wp2;go_ret;exact⟨aU HN.out.symm,hB1⟩
 have K1:=Hid.aD k1;rw [k1];clear k1;have jR:=jJ.cell 0 _ rfl;have jH:=jJ.cell 1 _ rfl;have lD:=jJ.cell 2 _ rfl;have lF:=jJ.cell 3 _ rfl;go_wp2_with fail;refine(Ik _ H.I x.I (j4 h.I hB1)).mono ?_;rintro e w2 ⟨rfl,hb⟩;have mQ:=jJ.below hb;have hB2:=hB1.trans (hb.mono hB1.size);clear hb jJ hB1 jR jH lD lF;by_cases k2 : gF x.I=true
 case neg=>
  have k2' : gF x.I=false:= (XM _).mp k2;have HN:=Hid.aD (show d9 x=false by rw [HE.out,k2'];simp);rw [k2'];clear k2 k2';go_wp2;go_ret;exact⟨aU HN.out.symm,hB2⟩
 rw [k2];have hs:=Hid.aD (vY K1.out);have HL:=Hid.aD (oJ k2);have HE2:=Hid.aD (show d9 x= (r9 x 3&&pV x 9) by rw [HE.out,K1.out,k2];rfl);clear k2 HE;obtain⟨wS,_,hm1⟩ := (show ig FI w w.heap.size (.slice H.I.G.a H.I.G.l H.I.G.c) H.I.mM x.I.G from h.I.G).len';obtain⟨wT,_,hm2⟩ := (show ig FI w w.heap.size (.slice H.I.O.a H.I.O.l H.I.O.c) H.I.qQ x.I.O from h.I.O).len';have Dc : H.I.G.l=3:=by rw [wS,HL.out.1]
 have Df : H.I.O.l=9:=by rw [wT,HL.out.2]
 have hgr : ig FI w w.heap.size (.slice H.I.G.a 3 H.I.G.c) H.I.mM x.I.G:=by rw [←Dc];exact h.I.G
 have hor : ig FI w w.heap.size (.slice H.I.O.a 9 H.I.O.c) H.I.qQ x.I.O:=by rw [←Df];exact h.I.O
 rw [Dc,Df] at mQ;clear wS wT hm1 hm2 Dc Df;obtain⟨gG,oG,_,_,eG,_,_,_⟩ :=hgr.row (Below.refl _ _) (show 0<x.I.G.length by rw [HL.out.1];decide);obtain⟨gO,oO,_,_,eO,_,_,_⟩ :=hor.row (Below.refl _ _) (show 0<x.I.O.length by rw [HL.out.2];decide);rw [eG] at hgr mQ;rw [eO] at hor mQ;have jR:=mQ.cell 0 _ rfl;have jH:=mQ.cell 1 _ rfl;have lD:=mQ.cell 2 _ rfl;have lF:=mQ.cell 3 _ rfl;go_wp2;go_loopw [3,4,21] (fun _ _ i wr=> ∃k : Nat,k≤3∧i= .int .i64 k∧Hid (r9 x k=true) ∧Below w.heap.size w wr∧aJ wr w.heap.size [.slice H.E.Y.a H.E.Y.l H.E.Y.c, .slice H.E.Z.a H.E.Z.l H.E.Z.c, .slice (some ⟨gG,oG,none⟩) 3 H.I.G.c, .slice (some ⟨gO,oO,none⟩) 9 H.I.O.c]) (fun _ _ i _=>3 - (intOf i).toNat)
 case atStart=>exact⟨0,X3 _,rfl,rfl,hB2,mQ⟩
 case round=>
  obtain⟨i,hi,rfl,HT,hb,ba⟩ :=hrel;clear mQ hB2 jR jH lD lF;have zl:=ba.lt;by_cases hlt : i<3
  ·have Oz : (i : Int) <3:=by omega
   have hig : i<x.I.G.length:=by rw [HL.out.1];exact hlt
   obtain⟨g,o,A',c',rZ,hg,p0,rr⟩ :=hgr.row hb hig;injection rZ with rZ;injection rZ with hA1 hA2;subst hA1 hA2;have hgw : gG<wr.heap.size:=XO hg hb.size;have hln:= (dX.len_ rr).2;have HX:=Hid.aD (show x.I.G.getD i []=x.I.G[i] by rw [getD_at hig]);have Im:=Hid.aD (Kl x i);have kJ:=Hid.aD (fun hf=>FW (m:=x) (k:=i) (n:=3) hlt hf);rw [HX.out] at Im kJ;clear HX;generalize x.I.G[i]=row at p0 rr hln Im kJ;have jR:=ba.cell 0 _ rfl;have jH:=ba.cell 1 _ rfl;have lD:=ba.cell 2 _ rfl;have lF:=ba.cell 3 _ rfl;go_wp2_with fail;have hb' : Below w.heap.size w (wr.alloc (.cells #[.slice A' row.length c'] 94)) :=hb.alloc hb.size _;have ba':=ba.alloc (.cells #[.slice A' row.length c'] 94);refine(zM _ H.E x.E A' c' row i (fT h.E hb') hs.out (bY rr hb')).mono ?_;rintro e w3 ⟨rfl,hb3⟩;have Pp:=ba'.below hb3;have hB3:=hb'.trans (hb3.mono hb'.size);clear hb3 hb' ba' hb ba p0 jR jH lD lF;by_cases k3 : row.all (jw x.E i) =true
   ·have HN:=Hid.aD (show r9 x (i+1) =true by rw [Im.out,HT.out,k3];rfl)
    rw [k3];clear k3;go_wp2;go_roundw
    case rel=>exact⟨i+1,by omega,by go_num,HN,hB3,Pp⟩
    case measure=>simp [intOf];omega
   ·have pR : row.all (jw x.E i) =false:= (XM _).mp k3
    have HN:=Hid.aD (show d9 x=false by rw [HE2.out,kJ.out pR];rfl);rw [pR];clear k3 pR;go_wp2;go_ret;exact⟨aU HN.out.symm,hB3⟩
  ·obtain rfl : i=3:=by omega
   have Sn:=Hid.aD (show d9 x=pV x 9 by rw [HE2.out,HT.out];rfl);clear HT HE2;rw [show ((3 : Nat) : Int) =3 from rfl];have jR:=ba.cell 0 _ rfl;have jH:=ba.cell 1 _ rfl;have lD:=ba.cell 2 _ rfl;have lF:=ba.cell 3 _ rfl;go_wp2;go_loopw [5,6,37] (fun _ _ i wr=> ∃k : Nat,k≤9∧i= .int .i64 k∧Hid (pV x k=true) ∧Below w.heap.size w wr∧aJ wr w.heap.size [.slice H.E.Y.a H.E.Y.l H.E.Y.c, .slice H.E.Z.a H.E.Z.l H.E.Z.c, .slice (some ⟨gG,oG,none⟩) 3 H.I.G.c, .slice (some ⟨gO,oO,none⟩) 9 H.I.O.c]) (fun _ _ i _=>9 - (intOf i).toNat)
   case atStart=>exact⟨0,X3 _,rfl,rfl,hb,ba⟩
   case round=>
    obtain⟨i,hi,rfl,HT,hb,ba⟩ :=hrel;clear jR jH lD lF;have zl:=ba.lt;by_cases hlt : i<9
    ·have Oz : (i : Int) <9:=by omega
     have hig : i<x.I.O.length:=by rw [HL.out.2];exact hlt
     obtain⟨g,o,A',c',rZ,hg,p0,rr⟩ :=hor.row hb hig;injection rZ with rZ;injection rZ with hA1 hA2;subst hA1 hA2;have hgw : gO<wr.heap.size:=XO hg hb.size;have hln:= (dX.len_ rr).2;have HX:=Hid.aD (show x.I.O.getD i []=x.I.O[i] by rw [getD_at hig]);have Im:=Hid.aD (Il x i);have kJ:=Hid.aD (fun hf=>D8 (m:=x) (k:=i) (n:=9) hlt hf);rw [HX.out] at Im kJ;clear HX;generalize x.I.O[i]=row at p0 rr hln Im kJ;have jR:=ba.cell 0 _ rfl;have jH:=ba.cell 1 _ rfl;have lD:=ba.cell 2 _ rfl;have lF:=ba.cell 3 _ rfl;go_wp2_with fail;have hb' : Below w.heap.size w (wr.alloc (.cells #[.slice A' row.length c'] 94)) :=hb.alloc hb.size _;have ba':=ba.alloc (.cells #[.slice A' row.length c'] 94);refine(zM _ H.E x.E A' c' row ((i%3 : Nat) : Int) (fT h.E hb') hs.out (bY rr hb')).mono ?_;rintro e w3 ⟨rfl,hb3⟩;have Pp:=ba'.below hb3;have hB3:=hb'.trans (hb3.mono hb'.size);clear hb3 hb' ba' hb ba p0 jR jH lD lF;by_cases k3 : row.all (jw x.E ((i%3 : Nat) : Int)) =true
     ·have HN:=Hid.aD (show pV x (i+1) =true by rw [Im.out,HT.out,k3];rfl)
      rw [k3];clear k3;go_wp2;go_roundw
      case rel=>exact⟨i+1,by omega,by go_num,HN,hB3,Pp⟩
      case measure=>simp [intOf];omega
     ·have pR : row.all (jw x.E ((i%3 : Nat) : Int)) =false:= (XM _).mp k3
      have HN:=Hid.aD (show d9 x=false by rw [Sn.out,kJ.out pR]);rw [pR];clear k3 pR;go_wp2;go_ret;exact⟨aU HN.out.symm,hB3⟩
    ·obtain rfl : i=9:=by omega
     have HN:=Hid.aD (show d9 x=true by rw [Sn.out,HT.out]);go_wp2;go_ret;exact⟨aU HN.out.symm,hb⟩
end Go.Proofs.YtkmggglljkmjoaaGreat
