/-
  Several texts in one: lemmas and contracts that the claim rests on.
-/
import Derived.Test.YtkmggglljkmjoaaGreatUTC1
import Derived.Deep.QuietTactic
import Derived.BigQuiet
import Derived.Deep.LoopGhost
import Derived.Deep.RegionHeld3
import Derived.Test.YtkmggglljkmjoaaGreatUTC2
import Derived.WalkSpells
import Derived.Laws.Cover3
import Derived.Test.YtkmggglljkmjoaaGreatUTC6
import Derived.Deep.WholeRow
namespace Go.Proofs.YtkmggglljkmjoaaGreat
open Go.RowKit
def FB : FT Bool:= {n:=1,enc:=fun b=> [.bool b],dflt:=false,len:=fun _=>rfl,one:=by intro x u hu;simp at hu;subst hu;rfl,pos:=by decide,small:=by decide}
theorem yZ {P : Program}{ops : Array Oper}{rest : List Oper}{o : Oper}{a : Act}{w : World}{Q : Exit→Act→World→Prop}(hgd : o.guard=none)(ty : TypeId)(x y : Operand)(ho : o.op= .store ty x y)(c : Array Value)(n : Nat)(hn : n=w.heap.size)
  (hx : a.eval x= .pointer (some ⟨n,0,none⟩)) (hy : a.eval y= .agg c) (hi : (P.info? ty).map (·.size) =some c.size) (h1 : c.all (·.oneCell') =true)
  (h : wpList P ops Q rest (a.put o.dst undef) (w.alloc (.cells c ty))) : wpList P ops Q (o::rest) a (w.alloc (.cells c ty)) :=by
 subst hn
 refine wpList_store_row hgd ty x y ho w.heap.size c hx hy ty c (heap_alloc_last w _) hi rfl h1 ?_
 rw [World.setRow_alloc_new]
 exact h
theorem uF : Tryz.prog.built 167 []=some #[.bool false, .bool false, .bool false, .bool false, .bool false, .bool false, .bool false, .bool false, .bool false, .bool false, .bool false, .bool false, .bool false, .bool false, .bool false, .bool false, .bool false, .bool false, .bool false, .bool false, .bool false, .bool false, .bool false, .bool false]:=by kernel_rfl
set_option maxRecDepth 100000 in
theorem xB {ops : Array Oper}{rest : List Oper}{o : Oper}{a : Act}{w : World}{Q : Exit→Act→World→Prop}(hg : o.guard=none)(ho : o.op= .build 167 #[])
  (h : wpList Tryz.prog ops Q rest (a.put o.dst (.agg #[.bool false, .bool false, .bool false, .bool false, .bool false, .bool false, .bool false, .bool false, .bool false, .bool false, .bool false, .bool false, .bool false, .bool false, .bool false, .bool false, .bool false, .bool false, .bool false, .bool false, .bool false, .bool false, .bool false, .bool false])) w) : wpList Tryz.prog ops Q (o::rest) a w:=by
 exact wpList_build hg 167 #[] ho (by simp [uF]) (by simpa [uF] using h)
theorem D9 (w : World) : bA FB 167 (w.alloc (.cells #[.bool false, .bool false, .bool false, .bool false, .bool false, .bool false, .bool false, .bool false, .bool false, .bool false, .bool false, .bool false, .bool false, .bool false, .bool false, .bool false, .bool false, .bool false, .bool false, .bool false, .bool false, .bool false, .bool false, .bool false] 167)) (.slice (some ⟨w.heap.size,0,none⟩) 24 24) (tL []) :=by
 rw [IZ]
 exact bA.lit FB (List.replicate 24 false) #[.bool false, .bool false, .bool false, .bool false, .bool false, .bool false, .bool false, .bool false, .bool false, .bool false, .bool false, .bool false, .bool false, .bool false, .bool false, .bool false, .bool false, .bool false, .bool false, .bool false, .bool false, .bool false, .bool false, .bool false] rfl (by simp [maxLen]) w 167
theorem E_ (w : World)(gb : Nat)(A1 A2 : Option Addr)(n1 n2 c1 c2 : Nat)(T1 T2 : List SV)(bb : aB w gb [.slice A1 n1 c1, .slice A2 n2 c2])(h1 : fE FS w w.heap.size (.slice A1 n1 c1) T1)(h2 : fE FS w w.heap.size (.slice A2 n2 c2) T2)(e1 : n1=9)(e2 : n2=3) :
  Calls Tryz.prog 197 #[.slice (some ⟨gb,0,none⟩) 2 2] w fun e w'=> ∃v,e= .returned v∧bA FS 94 w' v (T1++T2) ∧ (∀g∈cu v,w.heap.size≤g) ∧Below w.heap.size w w':=by
 subst e1 e2
 exact Gs w gb A1 A2 c1 c2 T1 T2 bb h1 h2
theorem JO {w : World}{B1 : Nat}{v1 v2 : Value}{T1 T2 : List SV}{gl ow : List (List Int)}(h1 : jl FI w B1 v1 T1 gl)(h2 : jl FI w B1 v2 T2 ow)(i : Nat)(hi : i< (ow++gl).length) :
  ∃s : SV, (T2++T1)[i]? =some s∧fE FI w B1 (.slice s.a s.l s.c) (ow++gl)[i]:=by
 have e1:=h1.len
 have e2:=h2.len
 rw [List.length_append] at hi
 by_cases hlt : i<ow.length
 ·have ht : i<T2.length:=by omega
  refine⟨T2[i],by rw [List.getElem?_append_left ht,List.getElem?_eq_getElem ht], ?_⟩
  rw [List.getElem_append_left hlt]
  exact h2.inner i _ _ (List.getElem?_eq_getElem ht) (List.getElem?_eq_getElem hlt)
 ·have ht : i - T2.length<T1.length:=by omega
  refine⟨T1[i - T2.length],by rw [List.getElem?_append_right (by omega),List.getElem?_eq_getElem ht], ?_⟩
  rw [List.getElem_append_right (by omega)]
  refine h1.inner (i - T2.length) _ _ (List.getElem?_eq_getElem ht) ?_
  rw [List.getElem?_eq_getElem (by omega)]
  congr 2
  omega
set_option maxRecDepth 100000 in
set_option maxHeartbeats 4000000 in
theorem oI (w : World)(H : aZ)(x : Lists)(h : iC w w.heap.size H x) :
  Calls Tryz.prog 141 #[.agg #[.slice H.G.a H.G.l H.G.c, .slice H.O.a H.O.l H.O.c]] w fun e w'=>e= .returned (.bool (fU x)) ∧Below w.heap.size w w':=by
 obtain⟨⟨A1,n1,c1⟩,T1, ⟨A2,n2,c2⟩,T2⟩ :=H
 obtain⟨gl,ow⟩ :=x
 have hr1 : jl FI w w.heap.size (.slice A1 n1 c1) T1 gl:=h.G
 have hr2 : jl FI w w.heap.size (.slice A2 n2 c2) T2 ow:=h.O
 obtain⟨sW,_,hmx⟩ :=hr1.len'
 have hlt1 : gl.length≤9223372036854775807:=by unfold maxLen at hmx;omega
 clear hmx
 obtain⟨sZ,_,hmx⟩ :=hr2.len'
 have hlt2 : ow.length≤9223372036854775807:=by unfold maxLen at hmx;omega
 clear hmx h
 subst sW sZ
 have HE:=Hid.aT (show fU ⟨gl,ow⟩ = ((gl.length == 3) && (ow.length == 9) &&ow.all mE&&kQ (iT ⟨gl,ow⟩)) from rfl)
 have hB0 : Below w.heap.size w (w.alloc (.cells #[.slice A1 gl.length c1, .slice A2 ow.length c2] 29)) :=dJ
 show Calls Tryz.prog 141 #[.agg #[.slice A1 gl.length c1, .slice A2 ow.length c2]] _ _
 by_cases k1 : gl.length=3
 case neg=>
  have k1' : ((gl.length : Int) != 3) =true:=by simp;omega
  have HF:=Hid.aT (show fU ⟨gl,ow⟩ =false by rw [HE.out];simp [k1])
  clear k1
  go_enter Tryz.func141,Tryz.ntmps141
  go_wp2
  go_ret
  exact⟨bK HF.out.symm,hB0⟩
 have k1' : ((gl.length : Int) != 3) =false:=by simp;omega
 have K1:=Hid.aT k1
 clear k1
 by_cases k2 : ow.length=9
 case neg=>
  have k2' : ((ow.length : Int) != 9) =true:=by simp;omega
  have HF:=Hid.aT (show fU ⟨gl,ow⟩ =false by rw [HE.out];simp [k2])
  clear k2
  go_enter Tryz.func141,Tryz.ntmps141
  go_wp2
  go_ret
  exact⟨bK HF.out.symm,hB0⟩
 have k2' : ((ow.length : Int) != 9) =false:=by simp;omega
 have K2:=Hid.aT k2
 have HF:=Hid.aT (show fU ⟨gl,ow⟩ = (ow.all mE&&kQ (ow++gl).flatten) by rw [HE.out,K1.out,k2, ←Hu ⟨gl,ow⟩];simp)
 clear k2 HE
 have MX:=Hid.aT (JO hr1 hr2)
 have KL:=Hid.aT (show (ow++gl).length=12 by rw [List.length_append,K1.out,K2.out])
 have HOW:=Hid.aT (fun i (hi : i<ow.length) (hj : i< (ow++gl).length) => (List.getElem_append_left (bs:=gl) hi : (ow++gl)[i]=ow[i]))
 have HT0:=Hid.aT (tJ (ow++gl))
 have Ll:=Hid.aT (GQ (ow++gl))
 generalize hR : ow++gl=R at HF MX KL HOW HT0 Ll
 generalize hL : R.flatten=L at HF HT0 Ll
 clear hR hL
 go_enter Tryz.func141,Tryz.ntmps141
 go_wp2_with (first| (refine xB rfl rfl ?_) | (refine yZ rfl 167 (.tmp 3) (.tmp 18) rfl _ _ (by simp) rfl rfl (by kernel_rfl) (by simp [Value.oneCell']) ?_))
 have MZ:=D9 (w.alloc (.cells #[.slice A1 gl.length c1, .slice A2 ow.length c2] 29))
 have Lm : aB (((w.alloc (.cells #[.slice A1 gl.length c1, .slice A2 ow.length c2] 29)).alloc (.cells #[.bool false, .bool false, .bool false, .bool false, .bool false, .bool false, .bool false, .bool false, .bool false, .bool false, .bool false, .bool false, .bool false, .bool false, .bool false, .bool false, .bool false, .bool false, .bool false, .bool false, .bool false, .bool false, .bool false, .bool false] 167)).alloc (.cells #[.slice A2 ow.length c2, .slice A1 gl.length c1] 27)) (w.heap.size+1+1) [.slice A2 ow.length c2, .slice A1 gl.length c1]:=by have a:=aB.new ((w.alloc (.cells #[.slice A1 gl.length c1, .slice A2 ow.length c2] 29)).alloc (.cells #[.bool false, .bool false, .bool false, .bool false, .bool false, .bool false, .bool false, .bool false, .bool false, .bool false, .bool false, .bool false, .bool false, .bool false, .bool false, .bool false, .bool false, .bool false, .bool false, .bool false, .bool false, .bool false, .bool false, .bool false] 167)) #[.slice A2 ow.length c2, .slice A1 gl.length c1] 27;simpa using a
 have Kv:=MZ.aH (.cells #[.slice A2 ow.length c2, .slice A1 gl.length c1] 27)
 have fV : aB (((w.alloc (.cells #[.slice A1 gl.length c1, .slice A2 ow.length c2] 29)).alloc (.cells #[.bool false, .bool false, .bool false, .bool false, .bool false, .bool false, .bool false, .bool false, .bool false, .bool false, .bool false, .bool false, .bool false, .bool false, .bool false, .bool false, .bool false, .bool false, .bool false, .bool false, .bool false, .bool false, .bool false, .bool false] 167)).alloc (.cells #[.slice A2 ow.length c2, .slice A1 gl.length c1] 27)) w.heap.size [.slice A1 gl.length c1, .slice A2 ow.length c2]:= ((aB.new w #[.slice A1 gl.length c1, .slice A2 ow.length c2] _).alloc _).alloc _
 have hB1 : Below w.heap.size w (((w.alloc (.cells #[.slice A1 gl.length c1, .slice A2 ow.length c2] 29)).alloc (.cells #[.bool false, .bool false, .bool false, .bool false, .bool false, .bool false, .bool false, .bool false, .bool false, .bool false, .bool false, .bool false, .bool false, .bool false, .bool false, .bool false, .bool false, .bool false, .bool false, .bool false, .bool false, .bool false, .bool false, .bool false] 167)).alloc (.cells #[.slice A2 ow.length c2, .slice A1 gl.length c1] 27)) :=dJ
 have hz1 : ((((w.alloc (.cells #[.slice A1 gl.length c1, .slice A2 ow.length c2] 29)).alloc (.cells #[.bool false, .bool false, .bool false, .bool false, .bool false, .bool false, .bool false, .bool false, .bool false, .bool false, .bool false, .bool false, .bool false, .bool false, .bool false, .bool false, .bool false, .bool false, .bool false, .bool false, .bool false, .bool false, .bool false, .bool false] 167)).alloc (.cells #[.slice A2 ow.length c2, .slice A1 gl.length c1] 27))).heap.size=w.heap.size+1+1+1:=by simp
 simp only [World.size_alloc] at Kv
 generalize (((w.alloc (.cells #[.slice A1 gl.length c1, .slice A2 ow.length c2] 29)).alloc (.cells #[.bool false, .bool false, .bool false, .bool false, .bool false, .bool false, .bool false, .bool false, .bool false, .bool false, .bool false, .bool false, .bool false, .bool false, .bool false, .bool false, .bool false, .bool false, .bool false, .bool false, .bool false, .bool false, .bool false, .bool false] 167)).alloc (.cells #[.slice A2 ow.length c2, .slice A1 gl.length c1] 27)) =w3 at Lm Kv fV hB1 hz1⊢
 clear MZ hB0
 refine(E_ w3 _ A2 A1 _ _ c2 c1 T2 T1 Lm (eP hr2.outer hB1) (eP hr1.outer hB1) K2.out K1.out).mono ?_
 rintro e w4 ⟨vC,rfl,Lp,M0,hb4⟩
 have M4:=Kv.aM (aY.of_below (F:= []) hb4) (by simp)
 have Oe:=fV.below hb4
 have hB4:=hB1.trans (hb4.mono hB1.size)
 have Kw : w.heap.size+1<w4.heap.size:=by have:=hb4.size;omega
 have Lr : ∀g∈cu vC,w.heap.size+1<g:=fun g hg=>by have:=M0 g hg;omega
 clear M0 hb4 Kv fV Lm hB1 hz1
 have Ls : (T2++T1).length=12:=by rw [List.length_append,hr2.len,hr1.len,K2.out,K1.out]
 rcases Lp.form with ⟨_,hnil⟩ | ⟨gC,cC,rfl,Og,_,_⟩
 ·rw [hnil] at Ls
  simp at Ls
 rw [Ls] at Lp Lr⊢
 go_wp2
 go_loopw [4,5,7,26,45] (fun _ _ _ i _ wr=> ∃k : Nat,k≤12∧i= .int .i64 k∧Hid ((ow.take k).all mE=true) ∧Hid (kQ (L.take (mZ (R.take k))) =true) ∧aY [w.heap.size+1] w4 wr∧bA FB 167 wr (.slice (some ⟨w.heap.size+1,0,none⟩) 24 24) (tL (L.take (mZ (R.take k))))) (fun _ _ _ i _ _=>12 - (intOf i).toNat)
 case atStart=>exact⟨0,Nat.zero_le _,rfl,rfl,rfl,aY.refl _ _,M4⟩
 case round=>
  obtain⟨i,hi,rfl,HO,HS,hc,om⟩ :=hrel
  clear M4
  have ba:=Oe.aM hc (by simp)
  have hb : Below w.heap.size w wr:=hB4.trans (hc.below hB4.size (by intro g hg;have:=List.mem_singleton.1 hg;omega))
  have iq:=ba.cell 1 _ rfl
  have Oh : w.heap.size+1<wr.heap.size:=Nat.lt_of_lt_of_le Kw hc.size
  have Qd : w.heap.size<wr.heap.size:=Nat.lt_of_succ_lt Oh
  by_cases hlt : i<12
  ·have Ky : i<R.length:=by rw [KL.out];exact hlt
   obtain⟨⟨sa,sl,sc⟩,hsv,mM⟩ :=MX.out i Ky
   have hrow : fE FI w w.heap.size (.slice sa sl sc) R[i]:=mM
   clear mM
   have JQ : (i : Int) <12:=by omega
   have M5:=Lp.aM hc (by intro g hg hm;have a:=Lr g hg;have b:=List.mem_singleton.1 hm;omega)
   have p0 : wr.cell? ⟨gC,i,none⟩ =some (.slice sa sl sc) :=by simpa [FS] using M5.cell_ (k:=i) (j:=0) hsv (by decide)
   have hgw : gC<wr.heap.size:=Nat.lt_of_lt_of_le Og hc.size
   have hln:= (fE.len_ hrow).1
   have hr0:= (fE.len_ hrow).2
   rw [hln] at p0 hrow hr0
   have HP:=Hid.aT (rQ R i Ky)
   have Kz:=Hid.aT (fun j hj=>Ll.out i j Ky hj)
   have htot : mZ (R.take i) +R[i].length≤L.length:=by
    have a:=qX R (i+1)
    have b:=HT0.out
    have d:=HP.out
    omega
   have I7:=Hid.aT (fun hi9=>HOW.out i hi9 Ky)
   clear M5 hsv
   generalize R[i]=row at p0 hrow hr0 HP Kz htot I7
   clear hln
   generalize mZ (R.take i) =p at HS om HP Kz htot
   by_cases hs2 : i<ow.length∧2<row.length
   ·obtain⟨hs2,hs3⟩ :=hs2
    have HN:=Hid.aT (show fU ⟨gl,ow⟩ =false by rw [HF.out,Cu (p:=mE) hs2 (by rw [←I7.out hs2];simp [mE];omega)];rfl)
    clear I7
    go_wp2
    go_ret
    exact⟨bK HN.out.symm,hb.alloc hb.size _⟩
   have M6:=Hid.aT (show (ow.take (i+1)).all mE=true by
    by_cases h9 : i<ow.length
    ·exact xY h9 HO.out (by rw [←I7.out h9];simp [mE];omega)
    ·have a:=HO.out
     rw [List.take_of_length_le (by omega)] at a⊢
     exact a)
   have GR : aY [w.heap.size+1] w4 (wr.alloc (.cells #[.slice sa row.length sc] 94)) :=hc.aH _
   have GU:=om.aH (.cells #[.slice sa row.length sc] 94)
   have Oi : ¬ (i<ow.length∧2<row.length) :=hs2
   have Qy:=Hid.aT hs2
   have hcase : ∀b : Bool,b=decide (i<ow.length) → (b=true→ ¬ 2<row.length) :=fun b e hb h2=>hs2 ⟨by rw [e] at hb;simpa using hb,h2⟩
   clear hs2 Oi I7 hc om
   by_cases h9 : i<ow.length
   ·have Qz:=hcase true (by simp [h9]) rfl
    have QA : ¬ (2< (row.length : Int)) :=by omega
    clear hcase
    go_wp2
    obtain⟨wo,hwo⟩ : ∃wo : World,wo=wr.alloc (.cells #[.slice sa row.length sc] 94) := ⟨_,rfl⟩
    rw [←hwo] at GR GU⊢
    have Oj : wo.heap.size=wr.heap.size+1:=by rw [hwo];simp
    clear hwo
    go_loopw [7,45] (fun _ j wr=> ∃k : Nat,k≤row.length∧j= .int .i64 k∧Hid (kQ (L.take (p+k)) =true) ∧aY [w.heap.size+1] w4 wr∧bA FB 167 wr (.slice (some ⟨w.heap.size+1,0,none⟩) 24 24) (tL (L.take (p+k)))) (fun _ j _=>row.length - (intOf j).toNat)
    case atStart=>exact⟨0,Nat.zero_le _,rfl,HS,GR,GU⟩
    case round=>
     obtain⟨j,hj,rfl,I8,hcq,zA⟩ :=hrel
     clear GR GU p0 iq
     have hbq : Below w.heap.size w wr:=hB4.trans (hcq.below hB4.size (by intro g hg;have:=List.mem_singleton.1 hg;omega))
     by_cases hlj : j<row.length
     ·obtain⟨g1,o1,Du,he1,hg1,_,_,hc1⟩ := (hrow.below hbq).at_ (List.getElem?_eq_getElem hlj)
      injection he1 with e11 e12 e13
      clear e12
      subst e11 e13
      have p1 : wr.cell? ⟨g1,o1+j,none⟩ =some (.int .i64 row[j]) :=by simpa [FI] using hc1 0 _ rfl
      clear hc1
      have xC : p+j<L.length:=by omega
      have I9 : L[p+j]=row[j]:=by
       have a:=Kz.out j hlj
       rw [List.getElem?_eq_getElem xC] at a
       exact Option.some.inj a
      have vU:=Hid.aT (Bv (L:=L) xC)
      have vV:=Hid.aT (Bw (L:=L) xC)
      have vW:=Hid.aT (zx (L:=L) xC I8.out)
      have Cw:=Hid.aT (fun s hm=>E9 L (p+j) s xC hm)
      rw [I9] at vU vV vW Cw
      generalize row[j]=y at p1 vU vV vW Cw
      clear I9 xC
      by_cases d1 : bO 0 23 y=true
      case neg=>
       have d1' : bO 0 23 y=false:= (Bool.not_eq_true _).mp d1
       have HN:=Hid.aT (show fU ⟨gl,ow⟩ =false by rw [HF.out,vU.out d1'];simp)
       clear d1
       go_wp2_with (go_at_call 120;refine(l8 _ _).mono ?_;rw [d1'];rintro e w2 ⟨rfl,rfl⟩)
       go_ret
       exact⟨bK HN.out.symm,hbq⟩
      obtain⟨y0,y1⟩ :=bJ.1 d1
      obtain⟨s,rfl⟩ :=Int.eq_ofNat_of_zero_le y0
      have hs3 : s<24:=by omega
      have hgm:=xX (L.take (p+j)) s hs3
      have cm : wr.cell? ⟨w.heap.size+1,s,none⟩ =some (.bool ((L.take (p+j)).any fun z=>z == (s : Int))) :=by simpa [FB] using zA.cell_ (k:=s) (j:=0) hgm (by decide)
      have hfz:=zA.eD s
      have hzz : w.heap.size+1<wr.heap.size:=Nat.lt_of_lt_of_le Kw hcq.size
      by_cases d2 : ((L.take (p+j)).any fun z=>z == (s : Int)) =true
      ·have HN:=Hid.aT (show fU ⟨gl,ow⟩ =false by rw [HF.out,vV.out d2];simp)
       rw [d2] at cm
       clear d2 hgm zA
       go_wp2_with (go_at_call 120;refine(l8 _ _).mono ?_;rw [d1];rintro e w2 ⟨rfl,rfl⟩)
       go_ret
       exact⟨bK HN.out.symm,hbq⟩
      have zy : ((L.take (p+j)).any fun z=>z == (s : Int)) =false:= (Bool.not_eq_true _).mp d2
      have HN:=Hid.aT (vW.out d1 zy)
      have HM:=Hid.aT (Cw.out s rfl)
      rw [zy] at cm
      clear d2 zy vU vV vW Cw
      go_wp2_with (go_at_call 120;refine(l8 _ _).mono ?_;rw [d1];rintro e w2 ⟨rfl,rfl⟩)
      go_roundw
      case rel=>
       have hset:=zA.gD (k:=s) (j:=0) (y:=true) (u:= .bool true) hgm (by decide) rfl
       rw [HM.out] at hset
       have Hw : bA FB 167 (wr.setCell ⟨w.heap.size+1,s,none⟩ (.bool true)) (.slice (some ⟨w.heap.size+1,0,none⟩) 24 24) (tL (L.take (p+j+1))) :=by simpa [FB] using hset
       exact⟨j+1,by omega,by go_num,HN,hcq.gD (List.mem_singleton_self _) _,Hw⟩
      case measure=>simp [intOf];omega
     ·obtain rfl : j=row.length:=by omega
      go_wp2
      go_roundw
      case rel=>exact⟨i+1,by omega,by go_num,M6,by rw [HP.out];exact I8,hcq,by rw [HP.out];exact zA⟩
      case measure=>simp [intOf];omega
   ·clear hcase
    have QB : ¬ ((i : Int) < (ow.length : Int)) :=by omega
    go_wp2
    obtain⟨wo,hwo⟩ : ∃wo : World,wo=wr.alloc (.cells #[.slice sa row.length sc] 94) := ⟨_,rfl⟩
    rw [←hwo] at GR GU⊢
    have Oj : wo.heap.size=wr.heap.size+1:=by rw [hwo];simp
    clear hwo
    go_loopw [7,45] (fun _ j wr=> ∃k : Nat,k≤row.length∧j= .int .i64 k∧Hid (kQ (L.take (p+k)) =true) ∧aY [w.heap.size+1] w4 wr∧bA FB 167 wr (.slice (some ⟨w.heap.size+1,0,none⟩) 24 24) (tL (L.take (p+k)))) (fun _ j _=>row.length - (intOf j).toNat)
    case atStart=>exact⟨0,Nat.zero_le _,rfl,HS,GR,GU⟩
    case round=>
     obtain⟨j,hj,rfl,I8,hcq,zA⟩ :=hrel
     clear GR GU p0 iq
     have hbq : Below w.heap.size w wr:=hB4.trans (hcq.below hB4.size (by intro g hg;have:=List.mem_singleton.1 hg;omega))
     by_cases hlj : j<row.length
     ·obtain⟨g1,o1,Du,he1,hg1,_,_,hc1⟩ := (hrow.below hbq).at_ (List.getElem?_eq_getElem hlj)
      injection he1 with e11 e12 e13
      clear e12
      subst e11 e13
      have p1 : wr.cell? ⟨g1,o1+j,none⟩ =some (.int .i64 row[j]) :=by simpa [FI] using hc1 0 _ rfl
      clear hc1
      have xC : p+j<L.length:=by omega
      have I9 : L[p+j]=row[j]:=by
       have a:=Kz.out j hlj
       rw [List.getElem?_eq_getElem xC] at a
       exact Option.some.inj a
      have vU:=Hid.aT (Bv (L:=L) xC)
      have vV:=Hid.aT (Bw (L:=L) xC)
      have vW:=Hid.aT (zx (L:=L) xC I8.out)
      have Cw:=Hid.aT (fun s hm=>E9 L (p+j) s xC hm)
      rw [I9] at vU vV vW Cw
      generalize row[j]=y at p1 vU vV vW Cw
      clear I9 xC
      by_cases d1 : bO 0 23 y=true
      case neg=>
       have d1' : bO 0 23 y=false:= (Bool.not_eq_true _).mp d1
       have HN:=Hid.aT (show fU ⟨gl,ow⟩ =false by rw [HF.out,vU.out d1'];simp)
       clear d1
       go_wp2_with (go_at_call 120;refine(l8 _ _).mono ?_;rw [d1'];rintro e w2 ⟨rfl,rfl⟩)
       go_ret
       exact⟨bK HN.out.symm,hbq⟩
      obtain⟨y0,y1⟩ :=bJ.1 d1
      obtain⟨s,rfl⟩ :=Int.eq_ofNat_of_zero_le y0
      have hs3 : s<24:=by omega
      have hgm:=xX (L.take (p+j)) s hs3
      have cm : wr.cell? ⟨w.heap.size+1,s,none⟩ =some (.bool ((L.take (p+j)).any fun z=>z == (s : Int))) :=by simpa [FB] using zA.cell_ (k:=s) (j:=0) hgm (by decide)
      have hfz:=zA.eD s
      have hzz : w.heap.size+1<wr.heap.size:=Nat.lt_of_lt_of_le Kw hcq.size
      by_cases d2 : ((L.take (p+j)).any fun z=>z == (s : Int)) =true
      ·have HN:=Hid.aT (show fU ⟨gl,ow⟩ =false by rw [HF.out,vV.out d2];simp)
       rw [d2] at cm
       clear d2 hgm zA
       go_wp2_with (go_at_call 120;refine(l8 _ _).mono ?_;rw [d1];rintro e w2 ⟨rfl,rfl⟩)
       go_ret
       exact⟨bK HN.out.symm,hbq⟩
      have zy : ((L.take (p+j)).any fun z=>z == (s : Int)) =false:= (Bool.not_eq_true _).mp d2
      have HN:=Hid.aT (vW.out d1 zy)
      have HM:=Hid.aT (Cw.out s rfl)
      rw [zy] at cm
      clear d2 zy vU vV vW Cw
      go_wp2_with (go_at_call 120;refine(l8 _ _).mono ?_;rw [d1];rintro e w2 ⟨rfl,rfl⟩)
      go_roundw
      case rel=>
       have hset:=zA.gD (k:=s) (j:=0) (y:=true) (u:= .bool true) hgm (by decide) rfl
       rw [HM.out] at hset
       have Hw : bA FB 167 (wr.setCell ⟨w.heap.size+1,s,none⟩ (.bool true)) (.slice (some ⟨w.heap.size+1,0,none⟩) 24 24) (tL (L.take (p+j+1))) :=by simpa [FB] using hset
       exact⟨j+1,by omega,by go_num,HN,hcq.gD (List.mem_singleton_self _) _,Hw⟩
      case measure=>simp [intOf];omega
     ·obtain rfl : j=row.length:=by omega
      go_wp2
      go_roundw
      case rel=>exact⟨i+1,by omega,by go_num,M6,by rw [HP.out];exact I8,hcq,by rw [HP.out];exact zA⟩
      case measure=>simp [intOf];omega
  ·obtain rfl : i=12:=by omega
   have HN:=Hid.aT (show fU ⟨gl,ow⟩ =true by
    have a:=HO.out
    have b:=HS.out
    have e1 : R.take 12=R:=List.take_of_length_le (by rw [KL.out];omega)
    have e2 : ow.take 12=ow:=List.take_of_length_le (by rw [K2.out];omega)
    rw [e1,HT0.out,List.take_length] at b
    rw [e2] at a
    rw [HF.out,a,b]
    rfl)
   go_wp2
   go_ret
   exact⟨bK HN.out.symm,hb⟩
end Go.Proofs.YtkmggglljkmjoaaGreat
namespace Go.Proofs.YtkmggglljkmjoaaGreat
open Go.RowKit
set_option maxRecDepth 100000 in
set_option maxHeartbeats 2000000 in
theorem yN (w : World)(H : dU)(x : Heap)(A : Option Addr)(cap : Nat)(l : List Int)(c : Int)(h : gU w w.heap.size H x)(hs : gI x=true)(hr : fE FI w w.heap.size (.slice A l.length cap) l) :
  Calls Tryz.prog 142 #[.agg #[.slice H.Y.a H.Y.l H.Y.c, .slice H.Z.a H.Z.l H.Z.c], .agg #[.slice A l.length cap], .int .i64 c] w fun e w'=>e= .returned (.bool (l.all (jv x c))) ∧Below w.heap.size w w':=by
 have m_:= (fE.len_ hr).2
 have iW : aB ((w.alloc (.cells #[.slice H.Y.a H.Y.l H.Y.c, .slice H.Z.a H.Z.l H.Z.c] 26)).alloc (.cells #[.slice A l.length cap] 94)) w.heap.size [.slice H.Y.a H.Y.l H.Y.c, .slice H.Z.a H.Z.l H.Z.c]:= (aB.new w #[.slice H.Y.a H.Y.l H.Y.c, .slice H.Z.a H.Z.l H.Z.c] _).alloc _
 have hB0 : Below w.heap.size w ((w.alloc (.cells #[.slice H.Y.a H.Y.l H.Y.c, .slice H.Z.a H.Z.l H.Z.c] 26)).alloc (.cells #[.slice A l.length cap] 94)) :=dJ
 go_enter Tryz.func142,Tryz.ntmps142
 go_wp2
 generalize ((w.alloc (.cells #[.slice H.Y.a H.Y.l H.Y.c, .slice H.Z.a H.Z.l H.Z.c] 26)).alloc (.cells #[.slice A l.length cap] 94)) =w0 at iW hB0
 go_loopw [8,12] (fun _ i wr=> ∃k : Nat,k≤l.length∧i= .int .i64 k∧Hid ((l.take k).all (jv x c) =true) ∧Below w.heap.size w wr∧aB wr w.heap.size [.slice H.Y.a H.Y.l H.Y.c, .slice H.Z.a H.Z.l H.Z.c]) (fun _ i _=>l.length - (intOf i).toNat)
 case atStart=>exact⟨0,Nat.zero_le _,rfl,rfl,hB0,iW⟩
 case round=>
  obtain⟨i,hi,rfl,HT,hb,ba⟩ :=hrel
  clear iW hB0
  by_cases hlt : i<l.length
  ·obtain⟨g,off,cap',he,hg,_,_,hc⟩ := (hr.below hb).at_ (List.getElem?_eq_getElem hlt)
   injection he with he1 he2 jW
   clear he2
   subst he1 jW
   have p0 : wr.cell? ⟨g,off+i,none⟩ =some (.int .i64 l[i]) :=by simpa [FI] using hc 0 _ rfl
   clear hc
   have iH:=ba.cell 0 _ rfl
   have iq:=ba.cell 1 _ rfl
   have HF:=Hid.aT (show jv x c l[i]= ((aO x l[i] == c) &&decide (dz x l[i]≤6)) from rfl)
   have HY:=Hid.aT (fun hp=>xY (p:=jv x c) hlt HT.out hp)
   have HZ:=Hid.aT (fun hp=>Cu (p:=jv x c) hlt hp)
   generalize l[i]=s at p0 HF HY HZ
   go_wp2_with fail
   refine(ql _ H x s (dW h hb) hs).mono ?_
   rintro e w1 ⟨rfl,hb1⟩
   have fV:=ba.below hb1
   have hB1:=hb.trans (hb1.mono hb.size)
   clear hb1 p0 iH iq ba hb
   by_cases k1 : aO x s=c
   case neg=>
    have k1' : (aO x s != c) =true:=by simpa using k1
    have HN:=Hid.aT (HZ.out (by rw [HF.out,show (aO x s == c) =false by simpa using k1];rfl))
    clear k1
    go_wp2
    go_ret
    exact⟨bK HN.out.symm,hB1⟩
   have k1' : (aO x s != c) =false:=by simpa using k1
   have K1:=Hid.aT k1
   clear k1
   have iH:=fV.cell 0 _ rfl
   have iq:=fV.cell 1 _ rfl
   go_wp2_with fail
   refine(vo _ H x s (dW h hB1) hs).mono ?_
   rintro e w2 ⟨rfl,hb2⟩
   have jY:=fV.below hb2
   have hB2:=hB1.trans (hb2.mono hB1.size)
   clear hb2 iH iq fV hB1
   by_cases k2 : dz x s≤6
   ·have k2' : ¬ 6<dz x s:=by omega
    have HN:=Hid.aT (HY.out (by rw [HF.out,K1.out];simp [k2]))
    go_wp2
    go_roundw
    case rel=>exact⟨i+1,by omega,by go_num,HN,hB2,jY⟩
    case measure=>simp [intOf];omega
   ·have k2' : 6<dz x s:=by omega
    have HN:=Hid.aT (HZ.out (by rw [HF.out,K1.out];simp [k2]))
    clear k2
    go_wp2
    go_ret
    exact⟨bK HN.out.symm,hB2⟩
  ·obtain rfl : i=l.length:=by omega
   have HN:=Hid.aT (show l.all (jv x c) =true by have a:=HT.out;rwa [List.take_length] at a)
   go_wp2
   go_ret
   exact⟨bK HN.out.symm,hb⟩
theorem GV {B g0 g k : Nat}{v0 v1 u : Value}{W w w' : World}(h : w.cell? ⟨g0,0,none⟩ =some v0∧w.cell? ⟨g0,1,none⟩ =some v1∧w.cell? ⟨g,k,none⟩ =some u∧g0<w.heap.size∧g<w.heap.size∧Below B W w)(hb : Below w.heap.size w w')(hB : B≤g0) :
  w'.cell? ⟨g0,0,none⟩ =some v0∧w'.cell? ⟨g0,1,none⟩ =some v1∧w'.cell? ⟨g,k,none⟩ =some u∧g0<w'.heap.size∧g<w'.heap.size∧Below B W w':=by
 obtain⟨a,b,c,d,e,f⟩ :=h
 exact⟨jJ hb d a,jJ hb d b,jJ hb e c,Nat.lt_of_lt_of_le d hb.size,Nat.lt_of_lt_of_le e hb.size,f.trans (hb.mono (by omega))⟩
set_option maxRecDepth 100000 in
set_option maxHeartbeats 2000000 in
theorem yO (w : World)(H : dU)(x : Heap)(A : Option Addr)(cap : Nat)(l : List Int)(c : Int)(h : gU w w.heap.size H x)(hs : gI x=true)(hr : fE FI w w.heap.size (.slice A l.length cap) l)(hc0 : 0≤c) :
  Calls Tryz.prog 74 #[.agg #[.slice H.Y.a H.Y.l H.Y.c, .slice H.Z.a H.Z.l H.Z.c], .slice A l.length cap, .int .i64 c] w fun e w'=>e= .returned (.bool (l.all (jv x c))) ∧Below w.heap.size w w':=by
 have m_:= (fE.len_ hr).2
 have iW : aB (w.alloc (.cells #[.slice H.Y.a H.Y.l H.Y.c, .slice H.Z.a H.Z.l H.Z.c] 26)) w.heap.size [.slice H.Y.a H.Y.l H.Y.c, .slice H.Z.a H.Z.l H.Z.c]:=aB.new w #[.slice H.Y.a H.Y.l H.Y.c, .slice H.Z.a H.Z.l H.Z.c] _
 have hB0 : Below w.heap.size w (w.alloc (.cells #[.slice H.Y.a H.Y.l H.Y.c, .slice H.Z.a H.Z.l H.Z.c] 26)) :=dJ
 go_enter Tryz.func74,Tryz.ntmps74
 go_wp2
 generalize (w.alloc (.cells #[.slice H.Y.a H.Y.l H.Y.c, .slice H.Z.a H.Z.l H.Z.c] 26)) =w0 at iW hB0
 go_loopw [7] (fun i wr=> ∃k : Nat,k≤l.length∧i= .int .i64 k∧Hid ((l.take k).all (jv x c) =true) ∧Below w.heap.size w wr∧wr.cell? ⟨w.heap.size,0,none⟩ =some (.slice H.Y.a H.Y.l H.Y.c) ∧wr.cell? ⟨w.heap.size,1,none⟩ =some (.slice H.Z.a H.Z.l H.Z.c) ∧w.heap.size<wr.heap.size) (fun i _=>l.length - (intOf i).toNat)
 case atStart=>exact⟨0,Nat.zero_le _,rfl,rfl,hB0,iW.cell 0 _ rfl,iW.cell 1 _ rfl,iW.lt⟩
 case round=>
  obtain⟨i,hi,rfl,HT,hb,iH,iq,zl⟩ :=hrel
  clear iW hB0
  by_cases hlt : i<l.length
  ·obtain⟨g,off,cap',he,hg,_,_,hc⟩ := (hr.below hb).at_ (List.getElem?_eq_getElem hlt)
   injection he with he1 he2 jW
   clear he2
   subst he1 jW
   have p0 : wr.cell? ⟨g,off+i,none⟩ =some (.int .i64 l[i]) :=by simpa [FI] using hc 0 _ rfl
   clear hc
   have HF:=Hid.aT (show jv x c l[i]= ((aO x l[i] == c) &&decide (dz x l[i]≤6)) from rfl)
   have HY:=Hid.aT (fun hp=>xY (p:=jv x c) hlt HT.out hp)
   have HZ:=Hid.aT (fun hp=>Cu (p:=jv x c) hlt hp)
   generalize l[i]=s at p0 HF HY HZ
   clear hr
   by_cases k1 : aO x s=c
   case neg=>
    have k1' : (aO x s != c) =true:=by simpa using k1
    have HN:=Hid.aT (HZ.out (by rw [HF.out,show (aO x s == c) =false by simpa using k1];rfl))
    have hq1:=fun (W : World) (hW : gU W W.heap.size H x) =>mD W H x s hW hs
    generalize aO x s=cl at k1 k1' hq1
    clear k1 HF HY HZ
    go_wp2
    obtain⟨wz,hwz⟩ : ∃wz : World,wz=wr:= ⟨_,rfl⟩
    first| (go_region_with (first| (go_at_call 77;refine(hq1 _ (dW h (by first|exact hb.drew|exact below_drewN hb _|exact hb))).mono ?_;rintro e w1 ⟨rfl,hb1⟩;obtain⟨os1,d1,rfl⟩ :=lS hb1;clear hb1))) |fail
    all_goals go_wp2
    all_goals go_ret
    all_goals exact⟨bK HN.out.symm,by first|exact dA hb (by omega) _ _|repeat (first|exact Below.refl _ _|refine Below.alloc ?_ (by simp<;>omega) _|refine dA ?_ (by simp<;>omega) _ _|refine Below.drew ?_|refine below_drewN ?_ _)⟩
   have KA:=Hid.aT k1
   have hgw : g<wr.heap.size:=Nat.lt_of_lt_of_le hg hb.size
   have k1' : (aO x s != c) =false:=by simpa using k1
   have hq1:=fun (W : World) (hW : gU W W.heap.size H x) =>mD W H x s hW hs
   have hq2:=fun (W : World) (hW : gU W W.heap.size H x) =>qH W H x s hW hs (by omega)
   rw [k1] at hq1
   clear k1'
   by_cases k2 : dz x s≤6
   ·have HN:=Hid.aT (HY.out (by rw [HF.out,KA.out];simp [k2]))
    have k2' : decide (6<dz x s) =false:=by simp;omega
    generalize dz x s=gn at k2 k2' hq2
    clear k1 k2 HF HY HZ KA
    go_wp2
    go_region_held3 (fun w'=>w'.cell? ⟨w.heap.size,0,none⟩ =some (.slice H.Y.a H.Y.l H.Y.c) ∧w'.cell? ⟨w.heap.size,1,none⟩ =some (.slice H.Z.a H.Z.l H.Z.c) ∧w'.cell? ⟨g,off+i,none⟩ =some (.int .i64 s) ∧w.heap.size<w'.heap.size∧g<w'.heap.size∧Below w.heap.size w w') (first| (go_keep;done) |exact GV (by assumption) (by assumption) (Nat.le_refl _) |exact⟨by assumption,by assumption,by assumption,by assumption,by assumption,Below.drew (by assumption)⟩) (first| (go_at_call 77;refine(hq1 _ (dW h (by go_split_ands;assumption))).mono ?_;rintro e w1 ⟨rfl,hb1⟩) | (go_at_call 108;refine(hq2 _ (dW h (by go_split_ands;assumption))).mono ?_;rintro e w1 ⟨rfl,hb1⟩))
    go_wp2
    go_roundw
    case rel=>exact⟨i+1,by omega,by go_num,HN,by first|assumption| (go_split_ands;assumption),by first|assumption| (go_split_ands;assumption),by first|assumption| (go_split_ands;assumption),by first|assumption| (go_split_ands;assumption)⟩
    case measure=>simp [intOf];omega
   ·have HN:=Hid.aT (HZ.out (by rw [HF.out,KA.out];simp [k2]))
    have k2' : decide (6<dz x s) =true:=by simp;omega
    generalize dz x s=gn at k2 k2' hq2
    clear k1 k2 HF HY HZ KA
    go_wp2
    go_region_held3 (fun w'=>w'.cell? ⟨w.heap.size,0,none⟩ =some (.slice H.Y.a H.Y.l H.Y.c) ∧w'.cell? ⟨w.heap.size,1,none⟩ =some (.slice H.Z.a H.Z.l H.Z.c) ∧w'.cell? ⟨g,off+i,none⟩ =some (.int .i64 s) ∧w.heap.size<w'.heap.size∧g<w'.heap.size∧Below w.heap.size w w') (first| (go_keep;done) |exact GV (by assumption) (by assumption) (Nat.le_refl _) |exact⟨by assumption,by assumption,by assumption,by assumption,by assumption,Below.drew (by assumption)⟩) (first| (go_at_call 77;refine(hq1 _ (dW h (by go_split_ands;assumption))).mono ?_;rintro e w1 ⟨rfl,hb1⟩) | (go_at_call 108;refine(hq2 _ (dW h (by go_split_ands;assumption))).mono ?_;rintro e w1 ⟨rfl,hb1⟩))
    go_wp2
    go_ret
    exact⟨bK HN.out.symm,by first|assumption| (go_split_ands;assumption)⟩
  ·obtain rfl : i=l.length:=by omega
   have HN:=Hid.aT (show l.all (jv x c) =true by have a:=HT.out;rwa [List.take_length] at a)
   go_wp2
   go_ret
   exact⟨bK HN.out.symm,hb⟩
end Go.Proofs.YtkmggglljkmjoaaGreat
namespace Go.Proofs.YtkmggglljkmjoaaGreat
open Go.RowKit
def qN (m : Mem)(k : Nat) : Bool:= (List.range k).all fun c=> (m.I.G.getD c []).all (jv m.E c)
def oJ (m : Mem)(k : Nat) : Bool:= (List.range k).all fun k=> (m.I.O.getD k []).all (jv m.E ((k%3 : Nat) : Int))
theorem D_ (m : Mem) : dG m= (jg m.E&&fU m.I&&qN m 3&&oJ m 9) :=rfl
theorem Gt (m : Mem)(k : Nat) : qN m (k+1) = (qN m k&& (m.I.G.getD k []).all (jv m.E k)) :=by
 unfold qN
 rw [List.range_succ,List.all_append]
 simp
theorem Fa (m : Mem)(k : Nat) : oJ m (k+1) = (oJ m k&& (m.I.O.getD k []).all (jv m.E ((k%3 : Nat) : Int))) :=by
 unfold oJ
 rw [List.range_succ,List.all_append]
 simp
theorem Ea {m : Mem}{k n : Nat}(hk : k<n)(h : (m.I.G.getD k []).all (jv m.E k) =false) : qN m n=false:=
 List.all_eq_false.2 ⟨k,List.mem_range.2 hk,by rw [h];decide⟩
theorem Cx {m : Mem}{k n : Nat}(hk : k<n)(h : (m.I.O.getD k []).all (jv m.E ((k%3 : Nat) : Int)) =false) : oJ m n=false:=
 List.all_eq_false.2 ⟨k,List.mem_range.2 hk,by rw [h];decide⟩
theorem kD {l : Lists}(h : fU l=true) : l.G.length=3∧l.O.length=9:=by
 unfold fU at h
 simp only [Bool.and_eq_true,beq_iff_eq] at h
 exact⟨h.1.1.1,h.1.1.2⟩
set_option maxRecDepth 100000 in
set_option maxHeartbeats 4000000 in
theorem jS (w : World)(H : bP)(x : Mem)(h : gJ w w.heap.size H x) :
  Calls Tryz.prog 70 #[.agg #[.slice H.E.Y.a H.E.Y.l H.E.Y.c, .slice H.E.Z.a H.E.Z.l H.E.Z.c, .slice H.I.G.a H.I.G.l H.I.G.c, .slice H.I.O.a H.I.O.l H.I.O.c]] w fun e w'=>e= .returned (.bool (dG x)) ∧Below w.heap.size w w':=by
 have iW : aB (w.alloc (.cells #[.slice H.E.Y.a H.E.Y.l H.E.Y.c, .slice H.E.Z.a H.E.Z.l H.E.Z.c, .slice H.I.G.a H.I.G.l H.I.G.c, .slice H.I.O.a H.I.O.l H.I.O.c] 31)) w.heap.size [.slice H.E.Y.a H.E.Y.l H.E.Y.c, .slice H.E.Z.a H.E.Z.l H.E.Z.c, .slice H.I.G.a H.I.G.l H.I.G.c, .slice H.I.O.a H.I.O.l H.I.O.c]:=aB.new w #[.slice H.E.Y.a H.E.Y.l H.E.Y.c, .slice H.E.Z.a H.E.Z.l H.E.Z.c, .slice H.I.G.a H.I.G.l H.I.G.c, .slice H.I.O.a H.I.O.l H.I.O.c] _
 have hB0 : Below w.heap.size w (w.alloc (.cells #[.slice H.E.Y.a H.E.Y.l H.E.Y.c, .slice H.E.Z.a H.E.Z.l H.E.Z.c, .slice H.I.G.a H.I.G.l H.I.G.c, .slice H.I.O.a H.I.O.l H.I.O.c] 31)) :=dJ
 have HE:=Hid.aT (D_ x)
 go_enter Tryz.func70,Tryz.ntmps70
 go_wp2_with fail
 refine(wU _ H.E x.E (dW h.E hB0)).mono ?_
 rintro e w1 ⟨rfl,hb⟩
 have fV:=iW.below hb
 have hB1:=hB0.trans (hb.mono hB0.size)
 clear hb iW hB0
 by_cases k1 : jg x.E=true
 case neg=>
  have k1' : jg x.E=false:= (Bool.not_eq_true _).mp k1
  have HN:=Hid.aT (show dG x=false by rw [HE.out,k1'];rfl)
  rw [k1']
  clear k1 k1'
  go_wp2
  go_ret
  exact⟨bK HN.out.symm,hB1⟩
 have K1:=Hid.aT k1
 rw [k1]
 clear k1
 have iH:=fV.cell 0 _ rfl
 have iq:=fV.cell 1 _ rfl
 have jK:=fV.cell 2 _ rfl
 have jL:=fV.cell 3 _ rfl
 go_wp2_with fail
 refine(oI _ H.I x.I (eZ h.I hB1)).mono ?_
 rintro e w2 ⟨rfl,hb⟩
 have jY:=fV.below hb
 have hB2:=hB1.trans (hb.mono hB1.size)
 clear hb fV hB1 iH iq jK jL
 by_cases k2 : fU x.I=true
 case neg=>
  have k2' : fU x.I=false:= (Bool.not_eq_true _).mp k2
  have HN:=Hid.aT (show dG x=false by rw [HE.out,k2'];simp)
  rw [k2']
  clear k2 k2'
  go_wp2
  go_ret
  exact⟨bK HN.out.symm,hB2⟩
 rw [k2]
 have hs:=Hid.aT (rZ K1.out)
 have HL:=Hid.aT (kD k2)
 have HE2:=Hid.aT (show dG x= (qN x 3&&oJ x 9) by rw [HE.out,K1.out,k2];rfl)
 clear k2 HE
 obtain⟨sW,_,hm1⟩ := (show jl FI w w.heap.size (.slice H.I.G.a H.I.G.l H.I.G.c) H.I.nC x.I.G from h.I.G).len'
 obtain⟨sZ,_,hm2⟩ := (show jl FI w w.heap.size (.slice H.I.O.a H.I.O.l H.I.O.c) H.I.tK x.I.O from h.I.O).len'
 have BA : H.I.G.l=3:=by rw [sW,HL.out.1]
 have BD : H.I.O.l=9:=by rw [sZ,HL.out.2]
 have hgr : jl FI w w.heap.size (.slice H.I.G.a 3 H.I.G.c) H.I.nC x.I.G:=by rw [←BA];exact h.I.G
 have hor : jl FI w w.heap.size (.slice H.I.O.a 9 H.I.O.c) H.I.tK x.I.O:=by rw [←BD];exact h.I.O
 rw [BA,BD] at jY
 clear sW sZ hm1 hm2 BA BD
 obtain⟨gG,oG,_,_,eG,_,_,_⟩ :=hgr.row (Below.refl _ _) (show 0<x.I.G.length by rw [HL.out.1];decide)
 obtain⟨gO,oO,_,_,eO,_,_,_⟩ :=hor.row (Below.refl _ _) (show 0<x.I.O.length by rw [HL.out.2];decide)
 rw [eG] at hgr jY
 rw [eO] at hor jY
 have iH:=jY.cell 0 _ rfl
 have iq:=jY.cell 1 _ rfl
 have jK:=jY.cell 2 _ rfl
 have jL:=jY.cell 3 _ rfl
 go_wp2
 go_loopw [3,4,21] (fun _ _ i wr=> ∃k : Nat,k≤3∧i= .int .i64 k∧Hid (qN x k=true) ∧Below w.heap.size w wr∧aB wr w.heap.size [.slice H.E.Y.a H.E.Y.l H.E.Y.c, .slice H.E.Z.a H.E.Z.l H.E.Z.c, .slice (some ⟨gG,oG,none⟩) 3 H.I.G.c, .slice (some ⟨gO,oO,none⟩) 9 H.I.O.c]) (fun _ _ i _=>3 - (intOf i).toNat)
 case atStart=>exact⟨0,Nat.zero_le _,rfl,rfl,hB2,jY⟩
 case round=>
  obtain⟨i,hi,rfl,HT,hb,ba⟩ :=hrel
  clear jY hB2 iH iq jK jL
  have zl:=ba.lt
  by_cases hlt : i<3
  ·have JQ : (i : Int) <3:=by omega
   have hig : i<x.I.G.length:=by rw [HL.out.1];exact hlt
   obtain⟨g,o,A',c',qM,hg,p0,rr⟩ :=hgr.row hb hig
   injection qM with qM
   injection qM with hA1 hA2
   subst hA1 hA2
   have hgw : gG<wr.heap.size:=Nat.lt_of_lt_of_le hg hb.size
   have hln:= (fE.len_ rr).2
   have HX:=Hid.aT (show x.I.G.getD i []=x.I.G[i] by rw [getD_at hig])
   have Fb:=Hid.aT (Gt x i)
   have kH:=Hid.aT (fun hf=>Ea (m:=x) (k:=i) (n:=3) hlt hf)
   rw [HX.out] at Fb kH
   clear HX
   generalize x.I.G[i]=row at p0 rr hln Fb kH
   have iH:=ba.cell 0 _ rfl
   have iq:=ba.cell 1 _ rfl
   have jK:=ba.cell 2 _ rfl
   have jL:=ba.cell 3 _ rfl
   go_wp2_with fail
   have hb' : Below w.heap.size w (wr.alloc (.cells #[.slice A' row.length c'] 94)) :=hb.alloc hb.size _
   have ba':=ba.alloc (.cells #[.slice A' row.length c'] 94)
   refine(yN _ H.E x.E A' c' row i (dW h.E hb') hs.out (eP rr hb')).mono ?_
   rintro e w3 ⟨rfl,hb3⟩
   have AJ:=ba'.below hb3
   have hB3:=hb'.trans (hb3.mono hb'.size)
   clear hb3 hb' ba' hb ba p0 iH iq jK jL
   by_cases k3 : row.all (jv x.E i) =true
   ·have HN:=Hid.aT (show qN x (i+1) =true by rw [Fb.out,HT.out,k3];rfl)
    rw [k3]
    clear k3
    go_wp2
    go_roundw
    case rel=>exact⟨i+1,by omega,by go_num,HN,hB3,AJ⟩
    case measure=>simp [intOf];omega
   ·have rW : row.all (jv x.E i) =false:= (Bool.not_eq_true _).mp k3
    have HN:=Hid.aT (show dG x=false by rw [HE2.out,kH.out rW];rfl)
    rw [rW]
    clear k3 rW
    go_wp2
    go_ret
    exact⟨bK HN.out.symm,hB3⟩
  ·obtain rfl : i=3:=by omega
   have M7:=Hid.aT (show dG x=oJ x 9 by rw [HE2.out,HT.out];rfl)
   clear HT HE2
   rw [show ((3 : Nat) : Int) =3 from rfl]
   have iH:=ba.cell 0 _ rfl
   have iq:=ba.cell 1 _ rfl
   have jK:=ba.cell 2 _ rfl
   have jL:=ba.cell 3 _ rfl
   go_wp2
   go_loopw [5,6,37] (fun _ _ i wr=> ∃k : Nat,k≤9∧i= .int .i64 k∧Hid (oJ x k=true) ∧Below w.heap.size w wr∧aB wr w.heap.size [.slice H.E.Y.a H.E.Y.l H.E.Y.c, .slice H.E.Z.a H.E.Z.l H.E.Z.c, .slice (some ⟨gG,oG,none⟩) 3 H.I.G.c, .slice (some ⟨gO,oO,none⟩) 9 H.I.O.c]) (fun _ _ i _=>9 - (intOf i).toNat)
   case atStart=>exact⟨0,Nat.zero_le _,rfl,rfl,hb,ba⟩
   case round=>
    obtain⟨i,hi,rfl,HT,hb,ba⟩ :=hrel
    clear iH iq jK jL
    have zl:=ba.lt
    by_cases hlt : i<9
    ·have JQ : (i : Int) <9:=by omega
     have hig : i<x.I.O.length:=by rw [HL.out.2];exact hlt
     obtain⟨g,o,A',c',qM,hg,p0,rr⟩ :=hor.row hb hig
     injection qM with qM
     injection qM with hA1 hA2
     subst hA1 hA2
     have hgw : gO<wr.heap.size:=Nat.lt_of_lt_of_le hg hb.size
     have hln:= (fE.len_ rr).2
     have HX:=Hid.aT (show x.I.O.getD i []=x.I.O[i] by rw [getD_at hig])
     have Fb:=Hid.aT (Fa x i)
     have kH:=Hid.aT (fun hf=>Cx (m:=x) (k:=i) (n:=9) hlt hf)
     rw [HX.out] at Fb kH
     clear HX
     generalize x.I.O[i]=row at p0 rr hln Fb kH
     have iH:=ba.cell 0 _ rfl
     have iq:=ba.cell 1 _ rfl
     have jK:=ba.cell 2 _ rfl
     have jL:=ba.cell 3 _ rfl
     go_wp2_with fail
     have hb' : Below w.heap.size w (wr.alloc (.cells #[.slice A' row.length c'] 94)) :=hb.alloc hb.size _
     have ba':=ba.alloc (.cells #[.slice A' row.length c'] 94)
     refine(yN _ H.E x.E A' c' row ((i%3 : Nat) : Int) (dW h.E hb') hs.out (eP rr hb')).mono ?_
     rintro e w3 ⟨rfl,hb3⟩
     have AJ:=ba'.below hb3
     have hB3:=hb'.trans (hb3.mono hb'.size)
     clear hb3 hb' ba' hb ba p0 iH iq jK jL
     by_cases k3 : row.all (jv x.E ((i%3 : Nat) : Int)) =true
     ·have HN:=Hid.aT (show oJ x (i+1) =true by rw [Fb.out,HT.out,k3];rfl)
      rw [k3]
      clear k3
      go_wp2
      go_roundw
      case rel=>exact⟨i+1,by omega,by go_num,HN,hB3,AJ⟩
      case measure=>simp [intOf];omega
     ·have rW : row.all (jv x.E ((i%3 : Nat) : Int)) =false:= (Bool.not_eq_true _).mp k3
      have HN:=Hid.aT (show dG x=false by rw [M7.out,kH.out rW])
      rw [rW]
      clear k3 rW
      go_wp2
      go_ret
      exact⟨bK HN.out.symm,hB3⟩
    ·obtain rfl : i=9:=by omega
     have HN:=Hid.aT (show dG x=true by rw [M7.out,HT.out])
     go_wp2
     go_ret
     exact⟨bK HN.out.symm,hb⟩
end Go.Proofs.YtkmggglljkmjoaaGreat
