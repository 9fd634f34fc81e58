/-
  Several texts in one: lemmas and contracts that the claim rests on.
-/
import Derived.Test.YtkmggglljkmjoaaUHNoReuse2
import Derived.Test.YtkmggglljkmjoaaUHNoReuse1
import Derived.Deep.QuietTactic
import Derived.BigQuiet
import Derived.Deep.LoopGhost
import Derived.Deep.RegionHeld3
import Derived.WalkSpells
import Derived.Laws.Cover3
import Derived.Test.YtkmggglljkmjoaaUHNoReuse9
import Derived.Deep.WholeRow
namespace Go.Proofs.Ytkmggglljkmjoaa
open Go.RowKit
def FB : FT Bool:= {n:=1,enc:=fun b=> [.bool b],dflt:=false,len:=fun _=>rfl,one:=by intro x u hu;simp at hu;subst hu;rfl,pos:=by decide,small:=by decide}
theorem qc {P : Program}{ops : Array Oper}{rest : List Oper}{o : Oper}{a : Act}{w : World}{Q : Exit→Act→World→Prop}(hgd : o.guard=none)(ty : TypeId)(x y : Operand)(ho : o.op= .store ty x y)(c : Array Value)(n : Nat)(hn : n=w.heap.size)
  (hx : a.eval x= .pointer (some ⟨n,0,none⟩)) (hy : a.eval y= .agg c) (hi : (P.info? ty).map (·.size) =some c.size) (h1 : c.all (·.oneCell') =true)
  (h : wpList P ops Q rest (a.put o.dst undef) (w.alloc (.cells c ty))) : wpList P ops Q (o::rest) a (w.alloc (.cells c ty)) :=by
 subst hn
 refine wpList_store_row hgd ty x y ho w.heap.size c hx hy ty c (heap_alloc_last w _) hi rfl h1 ?_
 rw [World.setRow_alloc_new]
 exact h
theorem vo : Try.prog.built 76 []=some #[.bool false, .bool false, .bool false, .bool false, .bool false, .bool false, .bool false, .bool false, .bool false, .bool false, .bool false, .bool false, .bool false, .bool false, .bool false, .bool false, .bool false, .bool false, .bool false, .bool false, .bool false, .bool false, .bool false, .bool false]:=by kernel_rfl
set_option maxRecDepth 100000 in
theorem uU {ops : Array Oper}{rest : List Oper}{o : Oper}{a : Act}{w : World}{Q : Exit→Act→World→Prop}(hg : o.guard=none)(ho : o.op= .build 76 #[])
  (h : wpList Try.prog ops Q rest (a.put o.dst (.agg #[.bool false, .bool false, .bool false, .bool false, .bool false, .bool false, .bool false, .bool false, .bool false, .bool false, .bool false, .bool false, .bool false, .bool false, .bool false, .bool false, .bool false, .bool false, .bool false, .bool false, .bool false, .bool false, .bool false, .bool false])) w) : wpList Try.prog ops Q (o::rest) a w:=by
 exact wpList_build hg 76 #[] ho (by simp [vo]) (by simpa [vo] using h)
theorem zH (w : World) : bF FB 76 (w.alloc (.cells #[.bool false, .bool false, .bool false, .bool false, .bool false, .bool false, .bool false, .bool false, .bool false, .bool false, .bool false, .bool false, .bool false, .bool false, .bool false, .bool false, .bool false, .bool false, .bool false, .bool false, .bool false, .bool false, .bool false, .bool false] 76)) (.slice (some ⟨w.heap.size,0,none⟩) 24 24) (lZ []) :=by
 rw [zC]
 exact bF.lit FB (List.replicate 24 false) #[.bool false, .bool false, .bool false, .bool false, .bool false, .bool false, .bool false, .bool false, .bool false, .bool false, .bool false, .bool false, .bool false, .bool false, .bool false, .bool false, .bool false, .bool false, .bool false, .bool false, .bool false, .bool false, .bool false, .bool false] rfl (by simp [maxLen]) w 76
theorem wN (w : World)(gb : Nat)(A1 A2 : Option Addr)(n1 n2 c1 c2 : Nat)(T1 T2 : List SV)(bb : aJ w gb [.slice A1 n1 c1, .slice A2 n2 c2])(h1 : dz FS w w.heap.size (.slice A1 n1 c1) T1)(h2 : dz FS w w.heap.size (.slice A2 n2 c2) T2)(e1 : n1=9)(e2 : n2=3) :
  Calls Try.prog 63 #[.slice (some ⟨gb,0,none⟩) 2 2] w fun e w'=> ∃v,e= .returned v∧bF FS 57 w' v (T1++T2) ∧ (∀g∈bL v,w.heap.size≤g) ∧Below w.heap.size w w':=by
 subst e1 e2
 exact xV w gb A1 A2 c1 c2 T1 T2 bb h1 h2
theorem Ar {w : World}{B1 : Nat}{v1 v2 : Value}{T1 T2 : List SV}{gl ow : List (List Int)}(h1 : fO FI w B1 v1 T1 gl)(h2 : fO FI w B1 v2 T2 ow)(i : Nat)(hi : i< (ow++gl).length) :
  ∃s : SV, (T2++T1)[i]? =some s∧dz FI w B1 (.slice s.a s.l s.c) (ow++gl)[i]:=by
 have e1:=h1.len
 have e2:=h2.len
 rw [List.length_append] at hi
 by_cases hlt : i<ow.length
 ·have ht : i<T2.length:=by omega
  refine⟨T2[i],by rw [List.getElem?_append_left ht,List.getElem?_eq_getElem ht], ?_⟩
  rw [List.getElem_append_left hlt]
  exact h2.inner i _ _ (List.getElem?_eq_getElem ht) (List.getElem?_eq_getElem hlt)
 ·have ht : i - T2.length<T1.length:=by omega
  refine⟨T1[i - T2.length],by rw [List.getElem?_append_right (by omega),List.getElem?_eq_getElem ht], ?_⟩
  rw [List.getElem_append_right (by omega)]
  refine h1.inner (i - T2.length) _ _ (List.getElem?_eq_getElem ht) ?_
  rw [List.getElem?_eq_getElem (by omega)]
  congr 2
  omega
set_option maxRecDepth 100000 in
set_option maxHeartbeats 4000000 in
theorem jI (w : World)(H : aY)(x : Lists)(h : gM w w.heap.size H x) :
  Calls Try.prog 34 #[.agg #[.slice H.G.a H.G.l H.G.c, .slice H.O.a H.O.l H.O.c]] w fun e w'=>e= .returned (.bool (dM x)) ∧Below w.heap.size w w':=by
 obtain⟨⟨A1,n1,c1⟩,T1, ⟨A2,n2,c2⟩,T2⟩ :=H
 obtain⟨gl,ow⟩ :=x
 have hr1 : fO FI w w.heap.size (.slice A1 n1 c1) T1 gl:=h.G
 have hr2 : fO FI w w.heap.size (.slice A2 n2 c2) T2 ow:=h.O
 obtain⟨nu,_,hmx⟩ :=hr1.len'
 have hlt1 : gl.length≤9223372036854775807:=by unfold maxLen at hmx;omega
 clear hmx
 obtain⟨ny,_,hmx⟩ :=hr2.len'
 have hlt2 : ow.length≤9223372036854775807:=by unfold maxLen at hmx;omega
 clear hmx h
 subst nu ny
 have HE:=Hid.aD (show dM ⟨gl,ow⟩ = ((gl.length == 3) && (ow.length == 9) &&ow.all iW&&gT (fB ⟨gl,ow⟩)) from rfl)
 have hB0 : Below w.heap.size w (w.alloc (.cells #[.slice A1 gl.length c1, .slice A2 ow.length c2] 29)) :=dn
 show Calls Try.prog 34 #[.agg #[.slice A1 gl.length c1, .slice A2 ow.length c2]] _ _
 by_cases k1 : gl.length=3
 case neg=>
  have k1' : ((gl.length : Int) != 3) =true:=by simp;omega
  have HF:=Hid.aD (show dM ⟨gl,ow⟩ =false by rw [HE.out];simp [k1])
  clear k1
  go_enter Try.func34,Try.ntmps34
  go_wp2
  go_ret
  exact⟨aS HF.out.symm,hB0⟩
 have k1' : ((gl.length : Int) != 3) =false:=by simp;omega
 have K1:=Hid.aD k1
 clear k1
 by_cases k2 : ow.length=9
 case neg=>
  have k2' : ((ow.length : Int) != 9) =true:=by simp;omega
  have HF:=Hid.aD (show dM ⟨gl,ow⟩ =false by rw [HE.out];simp [k2])
  clear k2
  go_enter Try.func34,Try.ntmps34
  go_wp2
  go_ret
  exact⟨aS HF.out.symm,hB0⟩
 have k2' : ((ow.length : Int) != 9) =false:=by simp;omega
 have K2:=Hid.aD k2
 have HF:=Hid.aD (show dM ⟨gl,ow⟩ = (ow.all iW&&gT (ow++gl).flatten) by rw [HE.out,K1.out,k2, ←yX ⟨gl,ow⟩];simp)
 clear k2 HE
 have Dr:=Hid.aD (Ar hr1 hr2)
 have KL:=Hid.aD (show (ow++gl).length=12 by rw [List.length_append,K1.out,K2.out])
 have HOW:=Hid.aD (fun i (hi : i<ow.length) (hj : i< (ow++gl).length) => (List.getElem_append_left (bs:=gl) hi : (ow++gl)[i]=ow[i]))
 have HT0:=Hid.aD (mY (ow++gl))
 have BX:=Hid.aD (BL (ow++gl))
 generalize hR : ow++gl=R at HF Dr KL HOW HT0 BX
 generalize hL : R.flatten=L at HF HT0 BX
 clear hR hL
 go_enter Try.func34,Try.ntmps34
 go_wp2_with (first| (refine uU rfl rfl ?_) | (refine qc rfl 76 (.tmp 3) (.tmp 18) rfl _ _ (by simp) rfl rfl (by kernel_rfl) (by simp [Value.oneCell']) ?_))
 have Dt:=zH (w.alloc (.cells #[.slice A1 gl.length c1, .slice A2 ow.length c2] 29))
 have BZ : aJ (((w.alloc (.cells #[.slice A1 gl.length c1, .slice A2 ow.length c2] 29)).alloc (.cells #[.bool false, .bool false, .bool false, .bool false, .bool false, .bool false, .bool false, .bool false, .bool false, .bool false, .bool false, .bool false, .bool false, .bool false, .bool false, .bool false, .bool false, .bool false, .bool false, .bool false, .bool false, .bool false, .bool false, .bool false] 76)).alloc (.cells #[.slice A2 ow.length c2, .slice A1 gl.length c1] 27)) (w.heap.size+1+1) [.slice A2 ow.length c2, .slice A1 gl.length c1]:=by have a:=aJ.new ((w.alloc (.cells #[.slice A1 gl.length c1, .slice A2 ow.length c2] 29)).alloc (.cells #[.bool false, .bool false, .bool false, .bool false, .bool false, .bool false, .bool false, .bool false, .bool false, .bool false, .bool false, .bool false, .bool false, .bool false, .bool false, .bool false, .bool false, .bool false, .bool false, .bool false, .bool false, .bool false, .bool false, .bool false] 76)) #[.slice A2 ow.length c2, .slice A1 gl.length c1] 27;simpa using a
 have Bl:=Dt.aN (.cells #[.slice A2 ow.length c2, .slice A1 gl.length c1] 27)
 have gy : aJ (((w.alloc (.cells #[.slice A1 gl.length c1, .slice A2 ow.length c2] 29)).alloc (.cells #[.bool false, .bool false, .bool false, .bool false, .bool false, .bool false, .bool false, .bool false, .bool false, .bool false, .bool false, .bool false, .bool false, .bool false, .bool false, .bool false, .bool false, .bool false, .bool false, .bool false, .bool false, .bool false, .bool false, .bool false] 76)).alloc (.cells #[.slice A2 ow.length c2, .slice A1 gl.length c1] 27)) w.heap.size [.slice A1 gl.length c1, .slice A2 ow.length c2]:= ((aJ.new w #[.slice A1 gl.length c1, .slice A2 ow.length c2] _).alloc _).alloc _
 have hB1 : Below w.heap.size w (((w.alloc (.cells #[.slice A1 gl.length c1, .slice A2 ow.length c2] 29)).alloc (.cells #[.bool false, .bool false, .bool false, .bool false, .bool false, .bool false, .bool false, .bool false, .bool false, .bool false, .bool false, .bool false, .bool false, .bool false, .bool false, .bool false, .bool false, .bool false, .bool false, .bool false, .bool false, .bool false, .bool false, .bool false] 76)).alloc (.cells #[.slice A2 ow.length c2, .slice A1 gl.length c1] 27)) :=dn
 have hz1 : ((((w.alloc (.cells #[.slice A1 gl.length c1, .slice A2 ow.length c2] 29)).alloc (.cells #[.bool false, .bool false, .bool false, .bool false, .bool false, .bool false, .bool false, .bool false, .bool false, .bool false, .bool false, .bool false, .bool false, .bool false, .bool false, .bool false, .bool false, .bool false, .bool false, .bool false, .bool false, .bool false, .bool false, .bool false] 76)).alloc (.cells #[.slice A2 ow.length c2, .slice A1 gl.length c1] 27))).heap.size=w.heap.size+1+1+1:=by simp
 simp only [World.size_alloc] at Bl
 generalize (((w.alloc (.cells #[.slice A1 gl.length c1, .slice A2 ow.length c2] 29)).alloc (.cells #[.bool false, .bool false, .bool false, .bool false, .bool false, .bool false, .bool false, .bool false, .bool false, .bool false, .bool false, .bool false, .bool false, .bool false, .bool false, .bool false, .bool false, .bool false, .bool false, .bool false, .bool false, .bool false, .bool false, .bool false] 76)).alloc (.cells #[.slice A2 ow.length c2, .slice A1 gl.length c1] 27)) =w3 at BZ Bl gy hB1 hz1⊢
 clear Dt hB0
 refine(wN w3 _ A2 A1 _ _ c2 c1 T2 T1 BZ (dh hr2.outer hB1) (dh hr1.outer hB1) K2.out K1.out).mono ?_
 rintro e w4 ⟨vC,rfl,B_,Du,hb4⟩
 have Dv:=Bl.bn (bW.of_below (F:= []) hb4) (by simp)
 have Ey:=gy.below hb4
 have hB4:=hB1.trans (hb4.mono hB1.size)
 have Ca : w.heap.size+1<w4.heap.size:=by have:=hb4.size;omega
 have Cb : ∀g∈bL vC,w.heap.size+1<g:=fun g hg=>by have:=Du g hg;omega
 clear Du hb4 Bl gy BZ hB1 hz1
 have Cc : (T2++T1).length=12:=by rw [List.length_append,hr2.len,hr1.len,K2.out,K1.out]
 rcases B_.form with ⟨_,hnil⟩ | ⟨gC,cC,rfl,Ez,_,_⟩
 ·rw [hnil] at Cc
  simp at Cc
 rw [Cc] at B_ Cb⊢
 go_wp2
 go_loopw [4,5,7,26,45] (fun _ _ _ i _ wr=> ∃k : Nat,k≤12∧i= .int .i64 k∧Hid ((ow.take k).all iW=true) ∧Hid (gT (L.take (jE (R.take k))) =true) ∧bW [w.heap.size+1] w4 wr∧bF FB 76 wr (.slice (some ⟨w.heap.size+1,0,none⟩) 24 24) (lZ (L.take (jE (R.take k))))) (fun _ _ _ i _ _=>12 - (intOf i).toNat)
 case atStart=>exact⟨0,Nat.zero_le _,rfl,rfl,rfl,bW.refl _ _,Dv⟩
 case round=>
  obtain⟨i,hi,rfl,HO,HS,hc,om⟩ :=hrel
  clear Dv
  have ba:=Ey.bn hc (by simp)
  have hb : Below w.heap.size w wr:=hB4.trans (hc.below hB4.size (by intro g hg;have:=List.mem_singleton.1 hg;omega))
  have gL:=ba.cell 1 _ rfl
  have EA : w.heap.size+1<wr.heap.size:=Nat.lt_of_lt_of_le Ca hc.size
  have Gg : w.heap.size<wr.heap.size:=Nat.lt_of_succ_lt EA
  by_cases hlt : i<12
  ·have Bn : i<R.length:=by rw [KL.out];exact hlt
   obtain⟨⟨sa,sl,sc⟩,hsv,lS⟩ :=Dr.out i Bn
   have hrow : dz FI w w.heap.size (.slice sa sl sc) R[i]:=lS
   clear lS
   have Au : (i : Int) <12:=by omega
   have Dw:=B_.bn hc (by intro g hg hm;have a:=Cb g hg;have b:=List.mem_singleton.1 hm;omega)
   have p0 : wr.cell? ⟨gC,i,none⟩ =some (.slice sa sl sc) :=by simpa [FS] using Dw.cell_ (k:=i) (j:=0) hsv (by decide)
   have hgw : gC<wr.heap.size:=Nat.lt_of_lt_of_le Ez hc.size
   have hln:= (dz.len_ hrow).1
   have hr0:= (dz.len_ hrow).2
   rw [hln] at p0 hrow hr0
   have HP:=Hid.aD (lD R i Bn)
   have Bo:=Hid.aD (fun j hj=>BX.out i j Bn hj)
   have htot : jE (R.take i) +R[i].length≤L.length:=by
    have a:=mG R (i+1)
    have b:=HT0.out
    have d:=HP.out
    omega
   have zI:=Hid.aD (fun hi9=>HOW.out i hi9 Bn)
   clear Dw hsv
   generalize R[i]=row at p0 hrow hr0 HP Bo htot zI
   clear hln
   generalize jE (R.take i) =p at HS om HP Bo htot
   by_cases hs2 : i<ow.length∧2<row.length
   ·obtain⟨hs2,hs3⟩ :=hs2
    have HN:=Hid.aD (show dM ⟨gl,ow⟩ =false by rw [HF.out,tL (p:=iW) hs2 (by rw [←zI.out hs2];simp [iW];omega)];rfl)
    clear zI
    go_wp2
    go_ret
    exact⟨aS HN.out.symm,hb.alloc hb.size _⟩
   have Dx:=Hid.aD (show (ow.take (i+1)).all iW=true by
    by_cases h9 : i<ow.length
    ·exact o_ h9 HO.out (by rw [←zI.out h9];simp [iW];omega)
    ·have a:=HO.out
     rw [List.take_of_length_le (by omega)] at a⊢
     exact a)
   have yu : bW [w.heap.size+1] w4 (wr.alloc (.cells #[.slice sa row.length sc] 57)) :=hc.aN _
   have yw:=om.aN (.cells #[.slice sa row.length sc] 57)
   have EB : ¬ (i<ow.length∧2<row.length) :=hs2
   have Gv:=Hid.aD hs2
   have hcase : ∀b : Bool,b=decide (i<ow.length) → (b=true→ ¬ 2<row.length) :=fun b e hb h2=>hs2 ⟨by rw [e] at hb;simpa using hb,h2⟩
   clear hs2 EB zI hc om
   by_cases h9 : i<ow.length
   ·have Gw:=hcase true (by simp [h9]) rfl
    have Gx : ¬ (2< (row.length : Int)) :=by omega
    clear hcase
    go_wp2
    obtain⟨wo,hwo⟩ : ∃wo : World,wo=wr.alloc (.cells #[.slice sa row.length sc] 57) := ⟨_,rfl⟩
    rw [←hwo] at yu yw⊢
    have EC : wo.heap.size=wr.heap.size+1:=by rw [hwo];simp
    clear hwo
    go_loopw [7,45] (fun _ j wr=> ∃k : Nat,k≤row.length∧j= .int .i64 k∧Hid (gT (L.take (p+k)) =true) ∧bW [w.heap.size+1] w4 wr∧bF FB 76 wr (.slice (some ⟨w.heap.size+1,0,none⟩) 24 24) (lZ (L.take (p+k)))) (fun _ j _=>row.length - (intOf j).toNat)
    case atStart=>exact⟨0,Nat.zero_le _,rfl,HS,yu,yw⟩
    case round=>
     obtain⟨j,hj,rfl,zJ,hcq,qG⟩ :=hrel
     clear yu yw p0 gL
     have hbq : Below w.heap.size w wr:=hB4.trans (hcq.below hB4.size (by intro g hg;have:=List.mem_singleton.1 hg;omega))
     by_cases hlj : j<row.length
     ·obtain⟨g1,o1,wC,he1,hg1,_,_,hc1⟩ := (hrow.below hbq).at_ (List.getElem?_eq_getElem hlj)
      injection he1 with e11 e12 e13
      clear e12
      subst e11 e13
      have p1 : wr.cell? ⟨g1,o1+j,none⟩ =some (.int .i64 row[j]) :=by simpa [FI] using hc1 0 _ rfl
      clear hc1
      have oo : p+j<L.length:=by omega
      have zK : L[p+j]=row[j]:=by
       have a:=Bo.out j hlj
       rw [List.getElem?_eq_getElem oo] at a
       exact Option.some.inj a
      have nA:=Hid.aD (su (L:=L) oo)
      have nC:=Hid.aD (sw (L:=L) oo)
      have nD:=Hid.aD (qE (L:=L) oo zJ.out)
      have tO:=Hid.aD (fun s hm=>wL L (p+j) s oo hm)
      rw [zK] at nA nC nD tO
      generalize row[j]=y at p1 nA nC nD tO
      clear zK oo
      by_cases d1 : aW 0 23 y=true
      case neg=>
       have d1' : aW 0 23 y=false:= (Bool.not_eq_true _).mp d1
       have HN:=Hid.aD (show dM ⟨gl,ow⟩ =false by rw [HF.out,nA.out d1'];simp)
       clear d1
       go_wp2_with (go_at_call 64;refine(iV _ _).mono ?_;rw [d1'];rintro e w2 ⟨rfl,rfl⟩)
       go_ret
       exact⟨aS HN.out.symm,hbq⟩
      obtain⟨y0,y1⟩ :=bD.1 d1
      obtain⟨s,rfl⟩ :=Int.eq_ofNat_of_zero_le y0
      have hs3 : s<24:=by omega
      have hgm:=o9 (L.take (p+j)) s hs3
      have cm : wr.cell? ⟨w.heap.size+1,s,none⟩ =some (.bool ((L.take (p+j)).any fun z=>z == (s : Int))) :=by simpa [FB] using qG.cell_ (k:=s) (j:=0) hgm (by decide)
      have hfz:=qG.iP s
      have hzz : w.heap.size+1<wr.heap.size:=Nat.lt_of_lt_of_le Ca hcq.size
      by_cases d2 : ((L.take (p+j)).any fun z=>z == (s : Int)) =true
      ·have HN:=Hid.aD (show dM ⟨gl,ow⟩ =false by rw [HF.out,nC.out d2];simp)
       rw [d2] at cm
       clear d2 hgm qG
       go_wp2_with (go_at_call 64;refine(iV _ _).mono ?_;rw [d1];rintro e w2 ⟨rfl,rfl⟩)
       go_ret
       exact⟨aS HN.out.symm,hbq⟩
      have qF : ((L.take (p+j)).any fun z=>z == (s : Int)) =false:= (Bool.not_eq_true _).mp d2
      have HN:=Hid.aD (nD.out d1 qF)
      have HM:=Hid.aD (tO.out s rfl)
      rw [qF] at cm
      clear d2 qF nA nC nD tO
      go_wp2_with (go_at_call 64;refine(iV _ _).mono ?_;rw [d1];rintro e w2 ⟨rfl,rfl⟩)
      go_roundw
      case rel=>
       have hset:=qG.gI (k:=s) (j:=0) (y:=true) (u:= .bool true) hgm (by decide) rfl
       rw [HM.out] at hset
       have yY : bF FB 76 (wr.setCell ⟨w.heap.size+1,s,none⟩ (.bool true)) (.slice (some ⟨w.heap.size+1,0,none⟩) 24 24) (lZ (L.take (p+j+1))) :=by simpa [FB] using hset
       exact⟨j+1,by omega,by go_num,HN,hcq.gI (List.mem_singleton_self _) _,yY⟩
      case measure=>simp [intOf];omega
     ·obtain rfl : j=row.length:=by omega
      go_wp2
      go_roundw
      case rel=>exact⟨i+1,by omega,by go_num,Dx,by rw [HP.out];exact zJ,hcq,by rw [HP.out];exact qG⟩
      case measure=>simp [intOf];omega
   ·clear hcase
    have Gy : ¬ ((i : Int) < (ow.length : Int)) :=by omega
    go_wp2
    obtain⟨wo,hwo⟩ : ∃wo : World,wo=wr.alloc (.cells #[.slice sa row.length sc] 57) := ⟨_,rfl⟩
    rw [←hwo] at yu yw⊢
    have EC : wo.heap.size=wr.heap.size+1:=by rw [hwo];simp
    clear hwo
    go_loopw [7,45] (fun _ j wr=> ∃k : Nat,k≤row.length∧j= .int .i64 k∧Hid (gT (L.take (p+k)) =true) ∧bW [w.heap.size+1] w4 wr∧bF FB 76 wr (.slice (some ⟨w.heap.size+1,0,none⟩) 24 24) (lZ (L.take (p+k)))) (fun _ j _=>row.length - (intOf j).toNat)
    case atStart=>exact⟨0,Nat.zero_le _,rfl,HS,yu,yw⟩
    case round=>
     obtain⟨j,hj,rfl,zJ,hcq,qG⟩ :=hrel
     clear yu yw p0 gL
     have hbq : Below w.heap.size w wr:=hB4.trans (hcq.below hB4.size (by intro g hg;have:=List.mem_singleton.1 hg;omega))
     by_cases hlj : j<row.length
     ·obtain⟨g1,o1,wC,he1,hg1,_,_,hc1⟩ := (hrow.below hbq).at_ (List.getElem?_eq_getElem hlj)
      injection he1 with e11 e12 e13
      clear e12
      subst e11 e13
      have p1 : wr.cell? ⟨g1,o1+j,none⟩ =some (.int .i64 row[j]) :=by simpa [FI] using hc1 0 _ rfl
      clear hc1
      have oo : p+j<L.length:=by omega
      have zK : L[p+j]=row[j]:=by
       have a:=Bo.out j hlj
       rw [List.getElem?_eq_getElem oo] at a
       exact Option.some.inj a
      have nA:=Hid.aD (su (L:=L) oo)
      have nC:=Hid.aD (sw (L:=L) oo)
      have nD:=Hid.aD (qE (L:=L) oo zJ.out)
      have tO:=Hid.aD (fun s hm=>wL L (p+j) s oo hm)
      rw [zK] at nA nC nD tO
      generalize row[j]=y at p1 nA nC nD tO
      clear zK oo
      by_cases d1 : aW 0 23 y=true
      case neg=>
       have d1' : aW 0 23 y=false:= (Bool.not_eq_true _).mp d1
       have HN:=Hid.aD (show dM ⟨gl,ow⟩ =false by rw [HF.out,nA.out d1'];simp)
       clear d1
       go_wp2_with (go_at_call 64;refine(iV _ _).mono ?_;rw [d1'];rintro e w2 ⟨rfl,rfl⟩)
       go_ret
       exact⟨aS HN.out.symm,hbq⟩
      obtain⟨y0,y1⟩ :=bD.1 d1
      obtain⟨s,rfl⟩ :=Int.eq_ofNat_of_zero_le y0
      have hs3 : s<24:=by omega
      have hgm:=o9 (L.take (p+j)) s hs3
      have cm : wr.cell? ⟨w.heap.size+1,s,none⟩ =some (.bool ((L.take (p+j)).any fun z=>z == (s : Int))) :=by simpa [FB] using qG.cell_ (k:=s) (j:=0) hgm (by decide)
      have hfz:=qG.iP s
      have hzz : w.heap.size+1<wr.heap.size:=Nat.lt_of_lt_of_le Ca hcq.size
      by_cases d2 : ((L.take (p+j)).any fun z=>z == (s : Int)) =true
      ·have HN:=Hid.aD (show dM ⟨gl,ow⟩ =false by rw [HF.out,nC.out d2];simp)
       rw [d2] at cm
       clear d2 hgm qG
       go_wp2_with (go_at_call 64;refine(iV _ _).mono ?_;rw [d1];rintro e w2 ⟨rfl,rfl⟩)
       go_ret
       exact⟨aS HN.out.symm,hbq⟩
      have qF : ((L.take (p+j)).any fun z=>z == (s : Int)) =false:= (Bool.not_eq_true _).mp d2
      have HN:=Hid.aD (nD.out d1 qF)
      have HM:=Hid.aD (tO.out s rfl)
      rw [qF] at cm
      clear d2 qF nA nC nD tO
      go_wp2_with (go_at_call 64;refine(iV _ _).mono ?_;rw [d1];rintro e w2 ⟨rfl,rfl⟩)
      go_roundw
      case rel=>
       have hset:=qG.gI (k:=s) (j:=0) (y:=true) (u:= .bool true) hgm (by decide) rfl
       rw [HM.out] at hset
       have yY : bF FB 76 (wr.setCell ⟨w.heap.size+1,s,none⟩ (.bool true)) (.slice (some ⟨w.heap.size+1,0,none⟩) 24 24) (lZ (L.take (p+j+1))) :=by simpa [FB] using hset
       exact⟨j+1,by omega,by go_num,HN,hcq.gI (List.mem_singleton_self _) _,yY⟩
      case measure=>simp [intOf];omega
     ·obtain rfl : j=row.length:=by omega
      go_wp2
      go_roundw
      case rel=>exact⟨i+1,by omega,by go_num,Dx,by rw [HP.out];exact zJ,hcq,by rw [HP.out];exact qG⟩
      case measure=>simp [intOf];omega
  ·obtain rfl : i=12:=by omega
   have HN:=Hid.aD (show dM ⟨gl,ow⟩ =true by
    have a:=HO.out
    have b:=HS.out
    have e1 : R.take 12=R:=List.take_of_length_le (by rw [KL.out];omega)
    have e2 : ow.take 12=ow:=List.take_of_length_le (by rw [K2.out];omega)
    rw [e1,HT0.out,List.take_length] at b
    rw [e2] at a
    rw [HF.out,a,b]
    rfl)
   go_wp2
   go_ret
   exact⟨aS HN.out.symm,hb⟩
end Go.Proofs.Ytkmggglljkmjoaa
namespace Go.Proofs.Ytkmggglljkmjoaa
open Go.RowKit
set_option maxRecDepth 100000 in
set_option maxHeartbeats 2000000 in
theorem pX (w : World)(H : dA)(x : Heap)(A : Option Addr)(cap : Nat)(l : List Int)(c : Int)(h : fZ w w.heap.size H x)(hs : d_ x=true)(hr : dz FI w w.heap.size (.slice A l.length cap) l) :
  Calls Try.prog 35 #[.agg #[.slice H.Y.a H.Y.l H.Y.c, .slice H.Z.a H.Z.l H.Z.c], .agg #[.slice A l.length cap], .int .i64 c] w fun e w'=>e= .returned (.bool (l.all (fF x c))) ∧Below w.heap.size w w':=by
 have kR:= (dz.len_ hr).2
 have ig : aJ ((w.alloc (.cells #[.slice H.Y.a H.Y.l H.Y.c, .slice H.Z.a H.Z.l H.Z.c] 26)).alloc (.cells #[.slice A l.length cap] 57)) w.heap.size [.slice H.Y.a H.Y.l H.Y.c, .slice H.Z.a H.Z.l H.Z.c]:= (aJ.new w #[.slice H.Y.a H.Y.l H.Y.c, .slice H.Z.a H.Z.l H.Z.c] _).alloc _
 have hB0 : Below w.heap.size w ((w.alloc (.cells #[.slice H.Y.a H.Y.l H.Y.c, .slice H.Z.a H.Z.l H.Z.c] 26)).alloc (.cells #[.slice A l.length cap] 57)) :=dn
 go_enter Try.func35,Try.ntmps35
 go_wp2
 generalize ((w.alloc (.cells #[.slice H.Y.a H.Y.l H.Y.c, .slice H.Z.a H.Z.l H.Z.c] 26)).alloc (.cells #[.slice A l.length cap] 57)) =w0 at ig hB0
 go_loopw [8,12] (fun _ i wr=> ∃k : Nat,k≤l.length∧i= .int .i64 k∧Hid ((l.take k).all (fF x c) =true) ∧Below w.heap.size w wr∧aJ wr w.heap.size [.slice H.Y.a H.Y.l H.Y.c, .slice H.Z.a H.Z.l H.Z.c]) (fun _ i _=>l.length - (intOf i).toNat)
 case atStart=>exact⟨0,Nat.zero_le _,rfl,rfl,hB0,ig⟩
 case round=>
  obtain⟨i,hi,rfl,HT,hb,ba⟩ :=hrel
  clear ig hB0
  by_cases hlt : i<l.length
  ·obtain⟨g,off,cap',he,hg,_,_,hc⟩ := (hr.below hb).at_ (List.getElem?_eq_getElem hlt)
   injection he with he1 he2 gq
   clear he2
   subst he1 gq
   have p0 : wr.cell? ⟨g,off+i,none⟩ =some (.int .i64 l[i]) :=by simpa [FI] using hc 0 _ rfl
   clear hc
   have gZ:=ba.cell 0 _ rfl
   have gL:=ba.cell 1 _ rfl
   have HF:=Hid.aD (show fF x c l[i]= ((ak x l[i] == c) &&decide (bK x l[i]≤6)) from rfl)
   have HY:=Hid.aD (fun hp=>o_ (p:=fF x c) hlt HT.out hp)
   have HZ:=Hid.aD (fun hp=>tL (p:=fF x c) hlt hp)
   generalize l[i]=s at p0 HF HY HZ
   go_wp2_with fail
   refine(lK _ H x s (dH h hb) hs).mono ?_
   rintro e w1 ⟨rfl,hb1⟩
   have gy:=ba.below hb1
   have hB1:=hb.trans (hb1.mono hb.size)
   clear hb1 p0 gZ gL ba hb
   by_cases k1 : ak x s=c
   case neg=>
    have k1' : (ak x s != c) =true:=by simpa using k1
    have HN:=Hid.aD (HZ.out (by rw [HF.out,show (ak x s == c) =false by simpa using k1];rfl))
    clear k1
    go_wp2
    go_ret
    exact⟨aS HN.out.symm,hB1⟩
   have k1' : (ak x s != c) =false:=by simpa using k1
   have K1:=Hid.aD k1
   clear k1
   have gZ:=gy.cell 0 _ rfl
   have gL:=gy.cell 1 _ rfl
   go_wp2_with fail
   refine(mO _ H x s (dH h hB1) hs).mono ?_
   rintro e w2 ⟨rfl,hb2⟩
   have jf:=gy.below hb2
   have hB2:=hB1.trans (hb2.mono hB1.size)
   clear hb2 gZ gL gy hB1
   by_cases k2 : bK x s≤6
   ·have k2' : ¬ 6<bK x s:=by omega
    have HN:=Hid.aD (HY.out (by rw [HF.out,K1.out];simp [k2]))
    go_wp2
    go_roundw
    case rel=>exact⟨i+1,by omega,by go_num,HN,hB2,jf⟩
    case measure=>simp [intOf];omega
   ·have k2' : 6<bK x s:=by omega
    have HN:=Hid.aD (HZ.out (by rw [HF.out,K1.out];simp [k2]))
    clear k2
    go_wp2
    go_ret
    exact⟨aS HN.out.symm,hB2⟩
  ·obtain rfl : i=l.length:=by omega
   have HN:=Hid.aD (show l.all (fF x c) =true by have a:=HT.out;rwa [List.take_length] at a)
   go_wp2
   go_ret
   exact⟨aS HN.out.symm,hb⟩
theorem yx {B g0 g k : Nat}{v0 v1 u : Value}{W w w' : World}(h : w.cell? ⟨g0,0,none⟩ =some v0∧w.cell? ⟨g0,1,none⟩ =some v1∧w.cell? ⟨g,k,none⟩ =some u∧g0<w.heap.size∧g<w.heap.size∧Below B W w)(hb : Below w.heap.size w w')(hB : B≤g0) :
  w'.cell? ⟨g0,0,none⟩ =some v0∧w'.cell? ⟨g0,1,none⟩ =some v1∧w'.cell? ⟨g,k,none⟩ =some u∧g0<w'.heap.size∧g<w'.heap.size∧Below B W w':=by
 obtain⟨a,b,c,d,e,f⟩ :=h
 exact⟨fV hb d a,fV hb d b,fV hb e c,Nat.lt_of_lt_of_le d hb.size,Nat.lt_of_lt_of_le e hb.size,f.trans (hb.mono (by omega))⟩
set_option maxRecDepth 100000 in
set_option maxHeartbeats 2000000 in
theorem pY (w : World)(H : dA)(x : Heap)(A : Option Addr)(cap : Nat)(l : List Int)(c : Int)(h : fZ w w.heap.size H x)(hs : d_ x=true)(hr : dz FI w w.heap.size (.slice A l.length cap) l)(hc0 : 0≤c) :
  Calls Try.prog 30 #[.agg #[.slice H.Y.a H.Y.l H.Y.c, .slice H.Z.a H.Z.l H.Z.c], .slice A l.length cap, .int .i64 c] w fun e w'=>e= .returned (.bool (l.all (fF x c))) ∧Below w.heap.size w w':=by
 have kR:= (dz.len_ hr).2
 have ig : aJ (w.alloc (.cells #[.slice H.Y.a H.Y.l H.Y.c, .slice H.Z.a H.Z.l H.Z.c] 26)) w.heap.size [.slice H.Y.a H.Y.l H.Y.c, .slice H.Z.a H.Z.l H.Z.c]:=aJ.new w #[.slice H.Y.a H.Y.l H.Y.c, .slice H.Z.a H.Z.l H.Z.c] _
 have hB0 : Below w.heap.size w (w.alloc (.cells #[.slice H.Y.a H.Y.l H.Y.c, .slice H.Z.a H.Z.l H.Z.c] 26)) :=dn
 go_enter Try.func30,Try.ntmps30
 go_wp2
 generalize (w.alloc (.cells #[.slice H.Y.a H.Y.l H.Y.c, .slice H.Z.a H.Z.l H.Z.c] 26)) =w0 at ig hB0
 go_loopw [7] (fun i wr=> ∃k : Nat,k≤l.length∧i= .int .i64 k∧Hid ((l.take k).all (fF x c) =true) ∧Below w.heap.size w wr∧wr.cell? ⟨w.heap.size,0,none⟩ =some (.slice H.Y.a H.Y.l H.Y.c) ∧wr.cell? ⟨w.heap.size,1,none⟩ =some (.slice H.Z.a H.Z.l H.Z.c) ∧w.heap.size<wr.heap.size) (fun i _=>l.length - (intOf i).toNat)
 case atStart=>exact⟨0,Nat.zero_le _,rfl,rfl,hB0,ig.cell 0 _ rfl,ig.cell 1 _ rfl,ig.lt⟩
 case round=>
  obtain⟨i,hi,rfl,HT,hb,gZ,gL,zl⟩ :=hrel
  clear ig hB0
  by_cases hlt : i<l.length
  ·obtain⟨g,off,cap',he,hg,_,_,hc⟩ := (hr.below hb).at_ (List.getElem?_eq_getElem hlt)
   injection he with he1 he2 gq
   clear he2
   subst he1 gq
   have p0 : wr.cell? ⟨g,off+i,none⟩ =some (.int .i64 l[i]) :=by simpa [FI] using hc 0 _ rfl
   clear hc
   have HF:=Hid.aD (show fF x c l[i]= ((ak x l[i] == c) &&decide (bK x l[i]≤6)) from rfl)
   have HY:=Hid.aD (fun hp=>o_ (p:=fF x c) hlt HT.out hp)
   have HZ:=Hid.aD (fun hp=>tL (p:=fF x c) hlt hp)
   generalize l[i]=s at p0 HF HY HZ
   clear hr
   by_cases k1 : ak x s=c
   case neg=>
    have k1' : (ak x s != c) =true:=by simpa using k1
    have HN:=Hid.aD (HZ.out (by rw [HF.out,show (ak x s == c) =false by simpa using k1];rfl))
    have hq1:=fun (W : World) (hW : fZ W W.heap.size H x) =>lM W H x s hW hs
    generalize ak x s=cl at k1 k1' hq1
    clear k1 HF HY HZ
    go_wp2
    obtain⟨wz,hwz⟩ : ∃wz : World,wz=wr:= ⟨_,rfl⟩
    first| (go_region_with (first| (go_at_call 59;refine(hq1 _ (dH h (by first|exact hb.drew|exact below_drewN hb _|exact hb))).mono ?_;rintro e w1 ⟨rfl,hb1⟩;obtain⟨os1,d1,rfl⟩ :=iR hb1;clear hb1))) |fail
    all_goals go_wp2
    all_goals go_ret
    all_goals exact⟨aS HN.out.symm,by first|exact bE hb (by omega) _ _|repeat (first|exact Below.refl _ _|refine Below.alloc ?_ (by simp<;>omega) _|refine bE ?_ (by simp<;>omega) _ _|refine Below.drew ?_|refine below_drewN ?_ _)⟩
   have Bp:=Hid.aD k1
   have hgw : g<wr.heap.size:=Nat.lt_of_lt_of_le hg hb.size
   have k1' : (ak x s != c) =false:=by simpa using k1
   have hq1:=fun (W : World) (hW : fZ W W.heap.size H x) =>lM W H x s hW hs
   have hq2:=fun (W : World) (hW : fZ W W.heap.size H x) =>oV W H x s hW hs (by omega)
   rw [k1] at hq1
   clear k1'
   by_cases k2 : bK x s≤6
   ·have HN:=Hid.aD (HY.out (by rw [HF.out,Bp.out];simp [k2]))
    have k2' : decide (6<bK x s) =false:=by simp;omega
    generalize bK x s=gn at k2 k2' hq2
    clear k1 k2 HF HY HZ Bp
    go_wp2
    go_region_held3 (fun w'=>w'.cell? ⟨w.heap.size,0,none⟩ =some (.slice H.Y.a H.Y.l H.Y.c) ∧w'.cell? ⟨w.heap.size,1,none⟩ =some (.slice H.Z.a H.Z.l H.Z.c) ∧w'.cell? ⟨g,off+i,none⟩ =some (.int .i64 s) ∧w.heap.size<w'.heap.size∧g<w'.heap.size∧Below w.heap.size w w') (first| (go_keep;done) |exact yx (by assumption) (by assumption) (Nat.le_refl _) |exact⟨by assumption,by assumption,by assumption,by assumption,by assumption,Below.drew (by assumption)⟩) (first| (go_at_call 59;refine(hq1 _ (dH h (by go_split_ands;assumption))).mono ?_;rintro e w1 ⟨rfl,hb1⟩) | (go_at_call 53;refine(hq2 _ (dH h (by go_split_ands;assumption))).mono ?_;rintro e w1 ⟨rfl,hb1⟩))
    go_wp2
    go_roundw
    case rel=>exact⟨i+1,by omega,by go_num,HN,by first|assumption| (go_split_ands;assumption),by first|assumption| (go_split_ands;assumption),by first|assumption| (go_split_ands;assumption),by first|assumption| (go_split_ands;assumption)⟩
    case measure=>simp [intOf];omega
   ·have HN:=Hid.aD (HZ.out (by rw [HF.out,Bp.out];simp [k2]))
    have k2' : decide (6<bK x s) =true:=by simp;omega
    generalize bK x s=gn at k2 k2' hq2
    clear k1 k2 HF HY HZ Bp
    go_wp2
    go_region_held3 (fun w'=>w'.cell? ⟨w.heap.size,0,none⟩ =some (.slice H.Y.a H.Y.l H.Y.c) ∧w'.cell? ⟨w.heap.size,1,none⟩ =some (.slice H.Z.a H.Z.l H.Z.c) ∧w'.cell? ⟨g,off+i,none⟩ =some (.int .i64 s) ∧w.heap.size<w'.heap.size∧g<w'.heap.size∧Below w.heap.size w w') (first| (go_keep;done) |exact yx (by assumption) (by assumption) (Nat.le_refl _) |exact⟨by assumption,by assumption,by assumption,by assumption,by assumption,Below.drew (by assumption)⟩) (first| (go_at_call 59;refine(hq1 _ (dH h (by go_split_ands;assumption))).mono ?_;rintro e w1 ⟨rfl,hb1⟩) | (go_at_call 53;refine(hq2 _ (dH h (by go_split_ands;assumption))).mono ?_;rintro e w1 ⟨rfl,hb1⟩))
    go_wp2
    go_ret
    exact⟨aS HN.out.symm,by first|assumption| (go_split_ands;assumption)⟩
  ·obtain rfl : i=l.length:=by omega
   have HN:=Hid.aD (show l.all (fF x c) =true by have a:=HT.out;rwa [List.take_length] at a)
   go_wp2
   go_ret
   exact⟨aS HN.out.symm,hb⟩
end Go.Proofs.Ytkmggglljkmjoaa
