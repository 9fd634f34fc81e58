/-
  Several texts in one: lemmas and contracts that the claim rests on.
-/
import Derived.Test.YtkmggglljkmjoaaUHNoReuse2
import Derived.Test.YtkmggglljkmjoaaUHNoReuse1
import Derived.Deep.QuietTactic
import Derived.BigQuiet
import Derived.Deep.LoopGhost
import Derived.Deep.RegionHeld3
import Derived.WalkSpells
import Derived.Laws.Cover3
import Derived.Test.YtkmggglljkmjoaaUHNoReuse12
import Derived.Deep.RegionLaw
import Derived.Test.YtkmggglljkmjoaaUHNoReuse3
import Derived.Laws.BytesArg
import Derived.Lib.Bytes
namespace Go.Proofs.Ytkmggglljkmjoaa
open Go.RowKit
theorem dJ.uH {α : Type}{T : FT α}{e E : TypeId}{w : World} : dJ T e E w (.slice none 0 0) [] []:= ⟨rfl,World.ownsRow_nil _ _ _ _,fun k s l h=>by simp at h,by simp [dL,bL,Value.ownBlock]⟩
theorem bW.then_ {F : List Nat}{a b c : World}(h : bW F a b)(hb : Below a.heap.size b c) : bW F a c:=
 ⟨hb.os.trans h.os,hb.tape.trans h.tape,hb.output.trans h.output,Nat.le_trans h.size hb.size,fun k hk hn=> (hb.block k hk).trans (h.block k hk hn)⟩
set_option maxRecDepth 100000 in
set_option maxHeartbeats 4000000 in
theorem gN (w : World)(H : aY)(x : Lists)(h : gM w w.heap.size H x)(hs : eU x≤536870912) :
  Calls Try.prog 38 #[.agg #[.slice H.G.a H.G.l H.G.c, .slice H.O.a H.O.l H.O.c]] w fun e w'=> ∃H' : aY,e= .returned (H'.val x) ∧dW w' H' x∧ (∀g∈H'.foot,w.heap.size≤g) ∧Below w.heap.size w w':=by
 have hs1 : iJ x.G≤536870912:=Nat.le_trans (Nat.le_add_right _ _) hs
 have hs2 : iJ x.O≤536870912:=Nat.le_trans (Nat.le_add_left _ _) hs
 have hl1 : x.G.length≤536870912:=Nat.le_trans (Nat.le_add_right _ _) hs1
 have hl2 : x.O.length≤536870912:=Nat.le_trans (Nat.le_add_right _ _) hs2
 obtain⟨⟨A1,n1,c1⟩,t1, ⟨A2,n2,c2⟩,t2⟩ :=H
 have yB : fO FI w w.heap.size (.slice A1 n1 c1) t1 x.G:=h.G
 have Cj : fO FI w w.heap.size (.slice A2 n2 c2) t2 x.O:=h.O
 clear h hs
 obtain⟨rfl,_,_⟩ :=yB.len'
 obtain⟨rfl,_,_⟩ :=Cj.len'
 show Calls Try.prog 38 #[.agg #[.slice A1 x.G.length c1, .slice A2 x.O.length c2]] _ _
 have ba : aJ (((w.alloc (.cells #[.slice A1 x.G.length c1, .slice A2 x.O.length c2] 29)).alloc (.cells #[.slice none 0 0, .slice none 0 0] 29)).alloc (.cells #[.slice none 0 0, .slice none 0 0] 29)) w.heap.size [.slice A1 x.G.length c1, .slice A2 x.O.length c2]:= ((aJ.new w #[.slice A1 x.G.length c1, .slice A2 x.O.length c2] _).alloc _).alloc _
 have br : aJ (((w.alloc (.cells #[.slice A1 x.G.length c1, .slice A2 x.O.length c2] 29)).alloc (.cells #[.slice none 0 0, .slice none 0 0] 29)).alloc (.cells #[.slice none 0 0, .slice none 0 0] 29)) (w.heap.size+1) [.slice none 0 0, .slice none 0 0]:=by
  have hb:= (aJ.new (w.alloc (.cells #[.slice A1 x.G.length c1, .slice A2 x.O.length c2] 29)) #[.slice none 0 0, .slice none 0 0] 29).alloc (.cells #[.slice none 0 0, .slice none 0 0] 29)
  rw [World.size_alloc] at hb
  exact hb
 have bo : aJ (((w.alloc (.cells #[.slice A1 x.G.length c1, .slice A2 x.O.length c2] 29)).alloc (.cells #[.slice none 0 0, .slice none 0 0] 29)).alloc (.cells #[.slice none 0 0, .slice none 0 0] 29)) (w.heap.size+1+1) [.slice none 0 0, .slice none 0 0]:=by
  have hb:=aJ.new ((w.alloc (.cells #[.slice A1 x.G.length c1, .slice A2 x.O.length c2] 29)).alloc (.cells #[.slice none 0 0, .slice none 0 0] 29)) #[.slice none 0 0, .slice none 0 0] 29
  rw [World.size_alloc,World.size_alloc] at hb
  exact hb
 have hB : Below w.heap.size w (((w.alloc (.cells #[.slice A1 x.G.length c1, .slice A2 x.O.length c2] 29)).alloc (.cells #[.slice none 0 0, .slice none 0 0] 29)).alloc (.cells #[.slice none 0 0, .slice none 0 0] 29)) :=dn
 go_enter Try.func38,Try.ntmps38
 go_wp2_with fail
 generalize hW0 : (((w.alloc (.cells #[.slice A1 x.G.length c1, .slice A2 x.O.length c2] 29)).alloc (.cells #[.slice none 0 0, .slice none 0 0] 29)).alloc (.cells #[.slice none 0 0, .slice none 0 0] 29)) =Bq at ba br bo hB⊢
 clear hW0
 have zS:=bo.lt
 go_loopw [12] (fun i wr=> ∃k : Nat,k≤x.G.length∧i= .int .i64 k∧ (∃ (K : SV) (t' : List SV),dJ FI 3 57 wr K.val t' (x.G.take k) ∧ (∀g∈dL K.val t',Bq.heap.size≤g) ∧aJ wr (w.heap.size+1+1) [.slice K.a K.l K.c, .slice none 0 0]) ∧bW [w.heap.size+1+1] Bq wr) (fun i _=>x.G.length - (intOf i).toNat)
 case atStart=>exact⟨0,Nat.zero_le _,rfl, ⟨⟨none,0,0⟩, [],dJ.uH,by simp [dL,bL,SV.val,Value.ownBlock],bo⟩,bW.refl _ _⟩
 case round=>
  obtain⟨i,hi,rfl, ⟨K,t',ho,hfo,bo⟩,hc⟩ :=hrel
  have hb : Below w.heap.size w wr:=hB.trans (hc.below hB.size (by simp<;>omega))
  have hz : w.heap.size+1+1<wr.heap.size:=Nat.lt_of_lt_of_le zS hc.size
  by_cases hlt : i<x.G.length
  ·obtain⟨g,o,A',c',he,hg,p0,r1⟩ :=yB.row hb hlt
   subst he
   have hlen : x.G[i].length≤1073741824:=by have:=lY (List.getElem_mem hlt);omega
   have htl : t'.length≤536870912:=by rw [ho.len,List.length_take];omega
   have Ck:=Hid.aD (List.take_succ_eq_append_getElem hlt)
   have z1 : g<wr.heap.size:=Nat.lt_of_lt_of_le hg hb.size
   have HC:=Hid.aD hc.size
   generalize x.G[i]=row at *
   have q0:= (bo.alloc (.cells #[.slice A' row.length c'] 57)).cell 0 _ rfl
   have f0:=bo.fP 0
   have hr1:=dh r1 (hb.alloc hb.size (.cells #[.slice A' row.length c'] 57)).drew
   have Cm:= (bo.alloc (.cells #[.slice A' row.length c'] 57)).drew
   go_wp2_with fail
   go_region_law (first| (refine gV Try.stSL rfl (.tmp 17) (.tmp 22) rfl (v:=K.val) (y:= .slice (some ⟨w1.heap.size,0,none⟩) 1 1) (l:=t') (m:= [⟨A2,row.length,c2⟩]) (by simp [Act.eval,SV.val]) (by simp [Act.eval]) (ho1.outer.aN _) (bF.lit FS [⟨A2,row.length,c2⟩] #[.slice A2 row.length c2] rfl (by simp [maxLen]) w1 57).rd' (by simp only [List.length_singleton];omega) ?_;intro v' w3 ho3 hg3 nE;obtain⟨A3,c3,hv3,_⟩ :=ho3.rd';simp only [List.length_append,List.length_cons,List.length_nil] at hv3;subst hv3;have wU:= (tY.alloc (.cells #[.slice A2 row.length c2] 57)).bn (bW.gP hg3) (fun hm=>by have:=hfo _ (cu.2 (.inl (bH.1 hm)));omega);have q3:=wU.cell 0 _ rfl;have f3:=wU.fP 0) | (go_simp;go_at_call 65; ((with_reducible refine(nY _ _ row hr1 hlen).mono ?_);rintro e w1 ⟨vs,rfl,hos,hfs,hb1⟩;have hb1' : Below wr.heap.size wr w1:= ((Below.refl _ _).alloc (Nat.le_refl _) _).drew.trans (hb1.mono (by simp));have ho1:=ho.step0 hb1';have tY:=Cm.below hb1;have q2:=tY.cell 0 _ rfl;have f2:=tY.fP 0;have ED:=fun o=> (tY.alloc o).cell 0 _ rfl;have wV : ∀g∈bL vs,wr.heap.size<g:= (fun g hg=>by have:=hfs g hg;simp at this;omega);obtain⟨A2,c2,hv2,_⟩ :=hos.rd';subst hv2)))
   all_goals
    have hsn:=dJ.snoc (ho1.aN (.cells #[.slice A2 row.length c2] 57)) (s:= ⟨A2,row.length,c2⟩) (hos.aN _) (fun g hg hm=>by have a:=wV g hg;have b:=ho.lt g hm;omega) ho3 hg3 nE
    have hbN : Below Bq.heap.size wr w3:= (((Below.refl _ _).trans (hb1'.mono HC.out)).alloc (Nat.le_trans HC.out hb1'.size) _).grown hg3 (by simp;exact Nat.le_succ_of_le (Nat.le_trans HC.out hb1'.size)) (fun k hk=>hfo k (cu.2 (.inl hk)))
    have Cn:= (hc.then_ hbN).gI (g:=w.heap.size+1+1) (i:=0) (by simp) (.slice A3 (t'.length+ (0+1)) c3)
    have Co:=wU.set 0 (.slice A3 (t'.length+ (0+1)) c3)
    have qJ : ∀b∈dL (SV.val ⟨A3,t'.length+ (0+1),c3⟩) (t'++ [⟨A2,row.length,c2⟩]),Bq.heap.size≤b:=by
     intro b hb'
     unfold dL at hb'
     rw [List.flatMap_append] at hb'
     rcases List.mem_append.1 hb' with h1|h1
     ·rcases iE nE b h1 with h2|h2
      ·exact hfo b (cu.2 (.inl (bH.1 h2)))
      ·have:=hb1'.size
       have:=HC.out
       simp at h2
       omega
     ·rcases List.mem_append.1 h1 with h2|h2
      ·exact hfo b (by unfold dL;exact List.mem_append.2 (.inr h2))
      ·have h4 : b∈bL (SV.val ⟨A2,row.length,c2⟩) :=by simpa using h2
       have:=wV b h4
       have:=HC.out
       omega
    have Cq:=hsn.bn ((bW.refl [w.heap.size+1+1] w3).gI (g:=w.heap.size+1+1) (i:=0) (by simp) (.slice A3 (t'.length+ (0+1)) c3)) (fun b hb hm=>by have:=qJ b hb;simp only [List.mem_cons,List.not_mem_nil,or_false] at hm;omega)
    go_wp2_with fail
    go_roundw
    case rel=>exact⟨i+1,by omega,by go_num, ⟨⟨A3,t'.length+ (0+1),c3⟩,_,by rw [Ck.out];exact Cq,qJ,Co⟩,Cn⟩
    case measure=>simp [intOf];omega
  ·obtain rfl : i=x.G.length:=by omega
   rw [List.take_length] at ho
   obtain⟨Br,rfl⟩ : ∃W : World,W=wr:= ⟨_,rfl⟩
   obtain⟨K0,rfl⟩ : ∃Q,Q=K:= ⟨_,rfl⟩
   obtain⟨t0,rfl⟩ : ∃Q,Q=t':= ⟨_,rfl⟩
   have oK:=ho
   have fK:=hfo
   have uK:=ho.lt
   have gy:=ba.bn hc (by simp<;>omega)
   have EF:=br.bn hc (by simp<;>omega)
   have gL:=gy.cell 1 _ rfl
   have Gz:=hc.size
   have GA:=zS
   clear ba br zS ho hfo hB hc
   have zS:=hz
   have hB:=hb
   clear hz hb
   go_wp2_with fail
   go_loopw [29] (fun i wr=> ∃k : Nat,k≤x.O.length∧i= .int .i64 k∧ (∃ (K : SV) (t' : List SV),dJ FI 3 57 wr K.val t' (x.O.take k) ∧ (∀g∈dL K.val t',Br.heap.size≤g) ∧aJ wr (w.heap.size+1+1) [.slice K0.a K0.l K0.c, .slice K.a K.l K.c]) ∧bW [w.heap.size+1+1] Br wr) (fun i _=>x.O.length - (intOf i).toNat)
   case atStart=>exact⟨0,Nat.zero_le _,rfl, ⟨⟨none,0,0⟩, [],dJ.uH,by simp [dL,bL,SV.val,Value.ownBlock],bo⟩,bW.refl _ _⟩
   case round=>
    obtain⟨i,hi,rfl, ⟨K,t',ho,hfo,bo⟩,hc⟩ :=hrel
    have hb : Below w.heap.size w wr:=hB.trans (hc.below hB.size (by simp<;>omega))
    have hz : w.heap.size+1+1<wr.heap.size:=Nat.lt_of_lt_of_le zS hc.size
    by_cases hlt : i<x.O.length
    ·obtain⟨g,o,A',c',he,hg,p0,r1⟩ :=Cj.row hb hlt
     subst he
     have hlen : x.O[i].length≤1073741824:=by have:=lY (List.getElem_mem hlt);omega
     have htl : t'.length≤536870912:=by rw [ho.len,List.length_take];omega
     have Ck:=Hid.aD (List.take_succ_eq_append_getElem hlt)
     have z1 : g<wr.heap.size:=Nat.lt_of_lt_of_le hg hb.size
     have HC:=Hid.aD hc.size
     generalize x.O[i]=row at *
     have q0:= (bo.alloc (.cells #[.slice A' row.length c'] 57)).cell 1 _ rfl
     have f0:=bo.fP 1
     have hr1:=dh r1 (hb.alloc hb.size (.cells #[.slice A' row.length c'] 57)).drew
     have Cm:= (bo.alloc (.cells #[.slice A' row.length c'] 57)).drew
     go_wp2_with fail
     go_region_law (first| (refine gV Try.stSL rfl (.tmp 34) (.tmp 39) rfl (v:=K.val) (y:= .slice (some ⟨w1.heap.size,0,none⟩) 1 1) (l:=t') (m:= [⟨A2,row.length,c2⟩]) (by simp [Act.eval,SV.val]) (by simp [Act.eval]) (ho1.outer.aN _) (bF.lit FS [⟨A2,row.length,c2⟩] #[.slice A2 row.length c2] rfl (by simp [maxLen]) w1 57).rd' (by simp only [List.length_singleton];omega) ?_;intro v' w3 ho3 hg3 nE;obtain⟨A3,c3,hv3,_⟩ :=ho3.rd';simp only [List.length_append,List.length_cons,List.length_nil] at hv3;subst hv3;have wU:= (tY.alloc (.cells #[.slice A2 row.length c2] 57)).bn (bW.gP hg3) (fun hm=>by have:=hfo _ (cu.2 (.inl (bH.1 hm)));omega);have q3:=wU.cell 1 _ rfl;have f3:=wU.fP 1) | (go_simp;go_at_call 65; ((with_reducible refine(nY _ _ row hr1 hlen).mono ?_);rintro e w1 ⟨vs,rfl,hos,hfs,hb1⟩;have hb1' : Below wr.heap.size wr w1:= ((Below.refl _ _).alloc (Nat.le_refl _) _).drew.trans (hb1.mono (by simp));have ho1:=ho.step0 hb1';have tY:=Cm.below hb1;have q2:=tY.cell 1 _ rfl;have f2:=tY.fP 1;have ED:=fun o=> (tY.alloc o).cell 1 _ rfl;have wV : ∀g∈bL vs,wr.heap.size<g:= (fun g hg=>by have:=hfs g hg;simp at this;omega);obtain⟨A2,c2,hv2,_⟩ :=hos.rd';subst hv2)))
     all_goals
      have hsn:=dJ.snoc (ho1.aN (.cells #[.slice A2 row.length c2] 57)) (s:= ⟨A2,row.length,c2⟩) (hos.aN _) (fun g hg hm=>by have a:=wV g hg;have b:=ho.lt g hm;omega) ho3 hg3 nE
      have hbN : Below Br.heap.size wr w3:= (((Below.refl _ _).trans (hb1'.mono HC.out)).alloc (Nat.le_trans HC.out hb1'.size) _).grown hg3 (by simp;exact Nat.le_succ_of_le (Nat.le_trans HC.out hb1'.size)) (fun k hk=>hfo k (cu.2 (.inl hk)))
      have Cn:= (hc.then_ hbN).gI (g:=w.heap.size+1+1) (i:=1) (by simp) (.slice A3 (t'.length+ (0+1)) c3)
      have Co:=wU.set 1 (.slice A3 (t'.length+ (0+1)) c3)
      have qJ : ∀b∈dL (SV.val ⟨A3,t'.length+ (0+1),c3⟩) (t'++ [⟨A2,row.length,c2⟩]),Br.heap.size≤b:=by
       intro b hb'
       unfold dL at hb'
       rw [List.flatMap_append] at hb'
       rcases List.mem_append.1 hb' with h1|h1
       ·rcases iE nE b h1 with h2|h2
        ·exact hfo b (cu.2 (.inl (bH.1 h2)))
        ·have:=hb1'.size
         have:=HC.out
         simp at h2
         omega
       ·rcases List.mem_append.1 h1 with h2|h2
        ·exact hfo b (by unfold dL;exact List.mem_append.2 (.inr h2))
        ·have h4 : b∈bL (SV.val ⟨A2,row.length,c2⟩) :=by simpa using h2
         have:=wV b h4
         have:=HC.out
         omega
      have Cq:=hsn.bn ((bW.refl [w.heap.size+1+1] w3).gI (g:=w.heap.size+1+1) (i:=1) (by simp) (.slice A3 (t'.length+ (0+1)) c3)) (fun b hb hm=>by have:=qJ b hb;simp only [List.mem_cons,List.not_mem_nil,or_false] at hm;omega)
      go_wp2_with fail
      go_roundw
      case rel=>exact⟨i+1,by omega,by go_num, ⟨⟨A3,t'.length+ (0+1),c3⟩,_,by rw [Ck.out];exact Cq,qJ,Co⟩,Cn⟩
      case measure=>simp [intOf];omega
    ·obtain rfl : i=x.O.length:=by omega
     rw [List.take_length] at ho
     have Bt:=EF.bn hc (by simp<;>omega)
     have EG:=oK.bn hc (fun g hg hm=>by simp only [List.mem_cons,List.not_mem_nil,or_false] at hm;have:=fK g hg;omega)
     have q0:=bo.cell 0 _ rfl
     have q1:=bo.cell 1 _ rfl
     have r0:=Bt.cell 0 _ rfl
     have r1:=Bt.cell 1 _ rfl
     have fr:=Bt.fP
     have GD:=Bt.lt
     go_wp2_with fail
     refine bodyPost_ret (v:= .agg #[.slice K0.a K0.l K0.c, .slice K.a K.l K.c]) (by simp [results,Try.results38,go_sem,r0,r1]) rfl ⟨⟨K0,t0,K,t'⟩,rfl, ⟨EG.bn (F:= [w.heap.size+1]) (by repeat (first|exact bW.refl _ _|refine bW.gI ?_ (by simp) _|refine bW.gU ?_)) (fun g hg hm=>by simp only [List.mem_cons,List.not_mem_nil,or_false] at hm;have:=fK g hg;omega),ho.bn (F:= [w.heap.size+1]) (by repeat (first|exact bW.refl _ _|refine bW.gI ?_ (by simp) _|refine bW.gU ?_)) (fun g hg hm=>by simp only [List.mem_cons,List.not_mem_nil,or_false] at hm;have:=hfo g hg;omega),fun g hg hm=>by have:=uK g hg;have:=hfo g hm;omega⟩,fun g hg=> ?_, ?_⟩
     ·rcases aY.aZ.1 hg with hg|hg
      ·have:=fK g hg
       omega
      ·have:=hfo g hg
       omega
     ·exact Below.trans hb (by repeat (first|exact Below.refl _ _|refine Below.setCell ?_ (by simp<;>omega) _|refine Below.drew ?_))
set_option maxRecDepth 100000 in
set_option maxHeartbeats 2000000 in
theorem jc (w : World)(H : bY)(x : Mem)(h : gD w w.heap.size H x)(hs : dS x≤536870912) :
  Calls Try.prog 18 #[.agg #[.slice H.E.Y.a H.E.Y.l H.E.Y.c, .slice H.E.Z.a H.E.Z.l H.E.Z.c, .slice H.I.G.a H.I.G.l H.I.G.c, .slice H.I.O.a H.I.O.l H.I.O.c]] w fun e w'=> ∃H' : bY,e= .returned (H'.val x) ∧eX w' H' x∧ (∀g∈H'.foot,w.heap.size≤g) ∧Below w.heap.size w w':=by
 have hs1 : iK x.E≤1073741824:=by unfold dS at hs;omega
 have hs2 : eU x.I≤536870912:=by unfold dS at hs;omega
 clear hs
 have ba : aJ ((w.alloc (.cells #[.slice H.E.Y.a H.E.Y.l H.E.Y.c, .slice H.E.Z.a H.E.Z.l H.E.Z.c, .slice H.I.G.a H.I.G.l H.I.G.c, .slice H.I.O.a H.I.O.l H.I.O.c] 31)).alloc (.cells #[.slice none 0 0, .slice none 0 0, .slice none 0 0, .slice none 0 0] 31)) w.heap.size [.slice H.E.Y.a H.E.Y.l H.E.Y.c, .slice H.E.Z.a H.E.Z.l H.E.Z.c, .slice H.I.G.a H.I.G.l H.I.G.c, .slice H.I.O.a H.I.O.l H.I.O.c]:= (aJ.new w #[.slice H.E.Y.a H.E.Y.l H.E.Y.c, .slice H.E.Z.a H.E.Z.l H.E.Z.c, .slice H.I.G.a H.I.G.l H.I.G.c, .slice H.I.O.a H.I.O.l H.I.O.c] _).alloc _
 have br : aJ ((w.alloc (.cells #[.slice H.E.Y.a H.E.Y.l H.E.Y.c, .slice H.E.Z.a H.E.Z.l H.E.Z.c, .slice H.I.G.a H.I.G.l H.I.G.c, .slice H.I.O.a H.I.O.l H.I.O.c] 31)).alloc (.cells #[.slice none 0 0, .slice none 0 0, .slice none 0 0, .slice none 0 0] 31)) (w.heap.size+1) [.slice none 0 0, .slice none 0 0, .slice none 0 0, .slice none 0 0]:=by
  have hb:=aJ.new (w.alloc (.cells #[.slice H.E.Y.a H.E.Y.l H.E.Y.c, .slice H.E.Z.a H.E.Z.l H.E.Z.c, .slice H.I.G.a H.I.G.l H.I.G.c, .slice H.I.O.a H.I.O.l H.I.O.c] 31)) #[.slice none 0 0, .slice none 0 0, .slice none 0 0, .slice none 0 0] 31
  rw [World.size_alloc] at hb
  exact hb
 have hB : Below w.heap.size w ((w.alloc (.cells #[.slice H.E.Y.a H.E.Y.l H.E.Y.c, .slice H.E.Z.a H.E.Z.l H.E.Z.c, .slice H.I.G.a H.I.G.l H.I.G.c, .slice H.I.O.a H.I.O.l H.I.O.c] 31)).alloc (.cells #[.slice none 0 0, .slice none 0 0, .slice none 0 0, .slice none 0 0] 31)) :=dn
 go_enter Try.func18,Try.ntmps18
 go_wp2_with fail
 generalize hW0 : ((w.alloc (.cells #[.slice H.E.Y.a H.E.Y.l H.E.Y.c, .slice H.E.Z.a H.E.Z.l H.E.Z.c, .slice H.I.G.a H.I.G.l H.I.G.c, .slice H.I.O.a H.I.O.l H.I.O.c] 31)).alloc (.cells #[.slice none 0 0, .slice none 0 0, .slice none 0 0, .slice none 0 0] 31)) =w0 at ba br hB⊢
 clear hW0
 have gZ:=ba.cell 0 _ rfl
 have qH:=br.cell 0 _ rfl
 have gL:=ba.cell 1 _ rfl
 have qI:=br.cell 1 _ rfl
 have iY:=ba.cell 2 _ rfl
 have zN:=br.cell 2 _ rfl
 have iZ:=ba.cell 3 _ rfl
 have zO:=br.cell 3 _ rfl
 have fr:=br.fP
 have z0:=br.lt
 go_region_with (first| (go_at_call 37; (first| ((with_reducible refine(jU _ H.E x.E (dH h.E hB) hs1).mono ?_);rintro e w1 ⟨K0,rfl,o0,f0,hb⟩;replace ba:=ba.below hb;replace br:=br.below hb;replace hB:=hB.trans (hb.mono hB.size);have sz:=hb.size;have u0:=o0.lt; (try replace o1:=o1.step0 hb);replace gZ:=ba.cell 0 _ rfl;replace qH:=br.cell 0 _ rfl;replace gL:=ba.cell 1 _ rfl;replace qI:=br.cell 1 _ rfl;replace iY:=ba.cell 2 _ rfl;replace zN:=br.cell 2 _ rfl;replace iZ:=ba.cell 3 _ rfl;replace zO:=br.cell 3 _ rfl;replace fr:=br.fP;clear hb) | ((with_reducible refine(jU _ H.E x.E (dH h.E hB.drew) hs1).mono ?_);rintro e w1 ⟨K0,rfl,o0,f0,hb⟩;replace hb:=eY hb;replace f0:=iA f0;replace ba:=ba.below hb;replace br:=br.below hb;replace hB:=hB.trans (hb.mono hB.size);have sz:=hb.size;have u0:=o0.lt; (try replace o1:=o1.step0 hb);replace gZ:=ba.cell 0 _ rfl;replace qH:=br.cell 0 _ rfl;replace gL:=ba.cell 1 _ rfl;replace qI:=br.cell 1 _ rfl;replace iY:=ba.cell 2 _ rfl;replace zN:=br.cell 2 _ rfl;replace iZ:=ba.cell 3 _ rfl;replace zO:=br.cell 3 _ rfl;replace fr:=br.fP;clear hb))) | (go_at_call 38; (first| ((with_reducible refine(gN _ H.I x.I (dP h.I hB) hs2).mono ?_);rintro e w2 ⟨K1,rfl,o1,f1,hb⟩;replace ba:=ba.below hb;replace br:=br.below hb;replace hB:=hB.trans (hb.mono hB.size);have sz:=hb.size;have u1:=o1.lt; (try replace o0:=o0.step0 hb);replace gZ:=ba.cell 0 _ rfl;replace qH:=br.cell 0 _ rfl;replace gL:=ba.cell 1 _ rfl;replace qI:=br.cell 1 _ rfl;replace iY:=ba.cell 2 _ rfl;replace zN:=br.cell 2 _ rfl;replace iZ:=ba.cell 3 _ rfl;replace zO:=br.cell 3 _ rfl;replace fr:=br.fP;clear hb) | ((with_reducible refine(gN _ H.I x.I (dP h.I hB.drew) hs2).mono ?_);rintro e w2 ⟨K1,rfl,o1,f1,hb⟩;replace hb:=eY hb;replace f1:=iA f1;replace ba:=ba.below hb;replace br:=br.below hb;replace hB:=hB.trans (hb.mono hB.size);have sz:=hb.size;have u1:=o1.lt; (try replace o0:=o0.step0 hb);replace gZ:=ba.cell 0 _ rfl;replace qH:=br.cell 0 _ rfl;replace gL:=ba.cell 1 _ rfl;replace qI:=br.cell 1 _ rfl;replace iY:=ba.cell 2 _ rfl;replace zN:=br.cell 2 _ rfl;replace iZ:=ba.cell 3 _ rfl;replace zO:=br.cell 3 _ rfl;replace fr:=br.fP;clear hb))))
 all_goals
  go_wp2_with fail
  refine bodyPost_ret (v:= .agg #[.slice K0.Y.a K0.Y.l K0.Y.c, .slice K0.Z.a K0.Z.l K0.Z.c, .slice K1.G.a K1.G.l K1.G.c, .slice K1.O.a K1.O.l K1.O.c]) (by simp [results,Try.results18,go_sem,qH,qI,zN,zO]) rfl ⟨⟨K0,K1⟩,rfl, ⟨o0.bn (F:= [w.heap.size+1]) (by repeat (first|exact bW.refl _ _|refine bW.gI ?_ (by simp) _|refine bW.gU ?_)) (fun g hg hm=>by simp only [List.mem_cons,List.not_mem_nil,or_false] at hm;have:=f0 g hg;omega),o1.bn (F:= [w.heap.size+1]) (by repeat (first|exact bW.refl _ _|refine bW.gI ?_ (by simp) _|refine bW.gU ?_)) (fun g hg hm=>by simp only [List.mem_cons,List.not_mem_nil,or_false] at hm;have:=f1 g hg;omega),fun g hg hm=>by have:=u0 g hg;have:=f0 g hg;have:=u1 g hm;have:=f1 g hm;omega⟩,fun g hg=> ?_, ?_⟩
  ·rcases bY.aZ.1 hg with hg|hg
   ·have:=f0 g hg
    omega
   ·have:=f1 g hg
    omega
  ·exact Below.trans hB (by repeat (first|exact Below.refl _ _|refine Below.setCell ?_ (by simp<;>omega) _|refine Below.drew ?_))
end Go.Proofs.Ytkmggglljkmjoaa
namespace Go.Proofs.Ytkmggglljkmjoaa
open Go.RowKit
def kK : FT Int:= {n:=1,enc:=fun x=> [.int .u8 x],dflt:=0,len:=fun _=>rfl,one:=by intro x u hu;simp at hu;subst hu;rfl,pos:=by decide,small:=by decide}
theorem Try.infoU8 : (Try.prog.info? 5).map (fun i=> (i.zero,i.size,i.bytes)) =some (some (.int .u8 0),kK.n,1) :=by kernel_rfl
theorem bF.kS {α : Type}{T : FT α}{e : TypeId}{w : World}{v : Value}{l : List α}(h : bF T e w v l)(hl : 0<l.length) : ∃g cap,v= .slice (some ⟨g,0,none⟩) l.length cap∧g<w.heap.size:=by
 rcases h.form with ⟨_,rfl⟩ | ⟨g,cap,hv,hg,_,_⟩
 ·simp at hl
 ·exact⟨g,cap,hv,hg⟩
theorem seven {k : Int}(h1 : 1≤k)(h7 : k≤7) : k=1∨k=2∨k=3∨k=4∨k=5∨k=6∨k=7:=by omega
theorem Dj {k : Int}(h1 : 1≤k)(h7 : k≤7) : wrap64 (2 ^ (8 * k).toNat) =256 ^ k.toNat:=by
 rcases seven h1 h7 with rfl|rfl|rfl|rfl|rfl|rfl|rfl<;>decide+kernel
theorem Cr {K : Nat}(h1 : 1≤K)(h7 : K≤7) : wrap64 (2 ^ (8 * K)) =256 ^ K:=by
 have h:=Dj (k:= (K : Int)) (by omega) (by omega)
 rw [Int.toNat_natCast,show (8 * (K : Int)).toNat=8 * K by omega] at h
 exact h
theorem Aw {n : Int}(_h0 : 0≤n)(j : Nat) : n / 256 ^ j / 256=n / 256 ^ (j+1) :=by
 rw [Int.ediv_ediv_of_nonneg (Int.pow_nonneg (by decide)), ←Int.pow_succ]
set_option maxRecDepth 100000 in
set_option maxHeartbeats 1000000 in
theorem vD (n : Int)(K : Nat)(w : World)(h1 : 1≤K)(h7 : K≤7)(h0 : 0≤n)(hn : n<256 ^ K) : Calls Try.prog 71 #[.int .i64 n, .int .i64 (K : Int)] w fun e w'=>e= .returned (.string (strOfNums (eP K n))) ∧Below w.heap.size w w':=by
 have hk : aW 1 7 (K : Int) =true:=bD.2 ⟨by omega,by omega⟩
 have hp:=Cr h1 h7
 have hmk:=jT (P:=Try.prog) kK 22 5 (.int .u8 0) 1 Try.underlying22 Try.infoU8 K (by omega) (by omega)
 have HN:=Hid.aD h0
 have hdl:=f_ K n
 have HD:=Hid.aD (fun j (hj : j<K) =>yt K n j hj)
 have hO:=bF.made kK #[.int .u8 0] rfl K (by simp [maxLen];omega) w 5
 have Dz : bF kK 5 (w.alloc (.cells (madeCells (Value.int .u8 0).cells (K * kK.n)) 5)) (.slice (some ⟨w.heap.size,0,none⟩) K K) (backTo (List.replicate K 0) 0 (eP K n) K) :=by
  have e : backTo (List.replicate K 0) 0 (eP K n) K=List.replicate K kK.dflt:=by
   have:=yS (b:=List.replicate K 0) (a:=0) (ds:=eP K n)
   rw [hdl] at this
   exact this
  rw [e]
  exact hO
 have HL:=Hid.aD (fun (i : Nat) (hi : i≤K) =>yT (b:=List.replicate K 0) (a:=0) (ds:=eP K n) (i:=i) (by simp [hdl]) (by rw [hdl];exact hi))
 clear hO
 generalize (256 : Int) ^ K=p at hn hp
 go_enter Try.func71,Try.ntmps71
 go_wp2_with (go_at_call 94;refine(yR _ _).mono ?_;rw [hk];rintro e w2 ⟨rfl,rfl⟩)
 clear hmk hp
 go_loopw [0,6] (fun v i wr=> ∃m : Nat,m≤K∧i= .int .i64 ((m : Int) - 1) ∧v= .int .i64 (n / 256 ^ (K - m)) ∧bF kK 5 wr (.slice (some ⟨w.heap.size,0,none⟩) K K) (backTo (List.replicate K 0) 0 (eP K n) m) ∧Below w.heap.size w wr) (fun _ i _=> (intOf i+1).toNat)
 case atStart=>exact⟨K,Nat.le_refl _,rfl,by simp,Dz, (Below.refl _ _).alloc (Nat.le_refl _) _⟩
 case round=>
  obtain⟨m,hm,rfl,rfl,ho,hb⟩ :=hrel
  clear Dz
  have hbt:=HL.out m hm
  cases m with
  |zero=>
   have hcell : ∀i,i<K→wr.cell? ⟨w.heap.size,0+i,none⟩ =some (.int .u8 ((eP K n).getD i 0)) :=by
    intro i hi
    rw [xQ] at ho
    have e : putAt (List.replicate K 0) 0 (eP K n) =eP K n:=by simp [putAt,hdl]
    rw [e] at ho
    have hx : (eP K n)[i]? =some ((eP K n).getD i 0) :=by simp [List.getD,hdl,hi]
    simpa [kK] using ho.cell_ hx kK.pos
   have hcv:=run_convert_bytes_arg (P:=Try.prog) (w:=wr) 22 5 Try.underlying22 Try.underlying5 w.heap.size 0 K K (eP K n) hdl hcell 9 Try.underlying9
   clear hcell
   go_wp2
   go_ret
   exact⟨rfl,hb⟩
  |succ q=>
   have hi0 : (((q+1 : Nat) : Int) - 1) = (q : Int) :=by omega
   rw [hi0]
   have hv0 : 0≤n / 256 ^ (K - (q+1)) :=Int.ediv_nonneg HN.out (Int.pow_nonneg (by decide))
   have HV:=Hid.aD (Aw HN.out (K - (q+1)))
   have HG:=Hid.aD (HD.out (K - (q+1)) (by omega))
   rw [show K - 1 - (K - (q+1)) =q by omega] at HG
   have HT:=Hid.aD (xR (b:=List.replicate K 0) (a:=0) (ds:=eP K n) (i:=q) (by simp [hdl]) (by rw [hdl];omega))
   generalize n / 256 ^ (K - (q+1)) =v at *
   have hf:=ho.iP q
   have hz1 : q< (backTo (List.replicate K 0) 0 (eP K n) (q+1)).length:=by rw [hbt];simp;omega
   have hx:=ho.cell_ (List.getElem?_eq_getElem hz1) kK.pos
   have hset:=fun (y : Int) =>ho.gI (y:=y) (u:= .int .u8 y) (List.getElem?_eq_getElem hz1) kK.pos rfl
   simp only [kK,Nat.mul_one,Nat.add_zero] at hx
   have Ay:=Hid.aD hset
   clear hset
   go_wp2
   have HE : bF kK 5 (wr.setCell ⟨w.heap.size,q,none⟩ (.int .u8 (v%256))) (.slice (some ⟨w.heap.size,0,none⟩) K K) (backTo (List.replicate K 0) 0 (eP K n) q) :=by
    have a:=Ay.out (v%256)
    have b:=HT.out
    have c:=HG.out
    obtain⟨_,d⟩ :=List.getElem?_eq_some_iff.1 c
    rw [d,Nat.zero_add] at b
    rw [b,show q * kK.n+0=q by simp [kK]] at a
    exact a
   have EH : Value.int .i64 (v / 256) =Value.int .i64 (n / 256 ^ (K - q)) :=by
    rw [HV.out,show K - (q+1) +1=K - q by omega]
   go_roundw
   case rel=>exact⟨q,by omega,rfl,EH,HE,hb.setCell (by simp) _⟩
   case measure=>simp [intOf]
theorem y5 {xs : List Int}(h : xs.all (aW 0 255) =true) : ((strOfNums xs).data.toList.map fun c=> (c.toNat : Int)) =xs:=by
 rw [strOfNums_data,List.map_map]
 conv=>rhs;rw [←List.map_id xs]
 apply List.map_congr_left
 intro x hx
 obtain⟨a,b⟩ :=bD.1 (List.all_eq_true.1 h x hx)
 simp
 omega
def nums (t : ByteArray) : List Int:=t.data.toList.map fun c=> (c.toNat : Int)
theorem Az (t : ByteArray) : (nums t).length=t.size:=by simp [nums]
theorem tZ (k : Nat)(n : Int) : nums (strOfNums (eP k n)) =eP k n:=y5 (qW k n)
theorem BM (t : ByteArray){i : Nat}(h : i<t.size) : (nums t)[i]? =some (t[i].toNat : Int) :=by
 have : t.data.toList[i]? =some t[i]:=by
  rw [List.getElem?_eq_getElem (by simpa using h)]
  rfl
 simp [nums,this]
set_option maxRecDepth 100000 in
set_option maxHeartbeats 1000000 in
theorem rH (w : World)(v : Value)(b : List Int)(a : Nat)(t : ByteArray)(h : bF FI 3 w v b)(ht : t.size≤1000)(ha : a+t.size≤b.length) :
  Calls Try.prog 70 #[v, .int .i64 (a : Int), .string t] w fun e w'=>e= .returned (.tuple #[]) ∧bF FI 3 w' v (putAt b a (nums t)) ∧bW (bL v) w w':=by
 obtain⟨A,c,hv,q1,q2,_⟩ :=id h.rd'
 have kR : b.length≤9223372036854775807:=by unfold maxLen at q2;omega
 subst hv
 have hnl:=Az t
 have h0 : bF FI 3 w (.slice A b.length c) (putAt b a ((nums t).take 0)) :=by
  rw [List.take_zero,zq]
  exact h
 go_enter Try.func70,Try.ntmps70
 go_wp2
 go_loopw [9] (fun i wr=> ∃k : Nat,k≤t.size∧i= .int .i64 k∧bF FI 3 wr (.slice A b.length c) (putAt b a ((nums t).take k)) ∧bW (bL (.slice A b.length c)) w wr) (fun i _=>t.size - (intOf i).toNat)
 case atStart=>exact⟨0,Nat.zero_le _,rfl,h0,bW.refl _ _⟩
 case round=>
  obtain⟨k,hk,rfl,ho,hc⟩ :=hrel
  clear h h0
  by_cases hlt : k<t.size
  ·have hgl : a+k< (putAt b a ((nums t).take k)).length:=by rw [j6 (by simp [hnl];omega)];omega
   obtain⟨g,cap,hv,hg⟩ :=ho.kS (by omega)
   injection hv with e1 e2 e3
   clear e2
   subst e1 e3
   have hf:=ho.iP (a+k)
   have hx:=ho.cell_ (List.getElem?_eq_getElem hgl) FI.pos
   have Ay:=Hid.aD (fun (y : Int) =>ho.gI (y:=y) (u:= .int .i64 y) (List.getElem?_eq_getElem hgl) FI.pos rfl)
   simp only [FI,Nat.mul_one,Nat.add_zero] at hx
   have HS:=Hid.aD (yU (b:=b) (a:=a) (ds:=nums t) (i:=k) (by omega) (by omega))
   have HA:=Hid.aD (BM t hlt)
   have hu : t[k].toNat<256:=t[k].toNat_lt
   have hw : wrap64 (t[k].toNat : Int) = (t[k].toNat : Int) := (by unfold wrap64;omega)
   have HU:=Hid.aD hw
   clear hu hw
   go_wp2
   have HE : bF FI 3 (wr.setCell ⟨g,a+k,none⟩ (.int .i64 (t[k].toNat : Int))) (.slice (some ⟨g,0,none⟩) b.length c) (putAt b a ((nums t).take (k+1))) :=by
    have p:=Ay.out (t[k].toNat : Int)
    have q:=HS.out
    obtain⟨_,d⟩ :=List.getElem?_eq_some_iff.1 HA.out
    rw [d] at q
    rw [q,show (a+k) * FI.n+0=a+k by simp [FI]] at p
    exact p
   rw [HU.out]
   go_roundw
   case rel=>exact⟨k+1,by omega,by go_num,HE,hc.gI (by simp [bL,Value.ownBlock]) _⟩
   case measure=>simp [intOf];omega
  ·go_wp2
   go_end0
   obtain rfl : k=t.size:=by omega
   exact⟨rfl,by rw [←hnl,List.take_length] at ho;exact ho,hc⟩
theorem pF {k : Nat}{n : Int} : (strOfNums (eP k n)).size=k:=by rw [strOfNums_size,f_]
end Go.Proofs.Ytkmggglljkmjoaa
namespace Go.Proofs.Ytkmggglljkmjoaa
open Go.RowKit
theorem bY.jh {H : bY}{g : Nat}(h : g∈bL H.E.Y.val) : g∈H.foot:=bY.aZ.2 (.inl (dA.aZ.2 (.inl h)))
theorem eX.setBytes {w w' : World}{H : bY}{x : Mem}{b : List Int}(h : eX w H x)(hb : bF FI 3 w' H.E.Y.val b)(hc : bW (bL H.E.Y.val) w w') : eX w' H {x with E:= {x.E with Y:=b}}:=
 ⟨⟨hb,h.E.Z.bn hc (fun g hg hm=>h.E.iM g hm hg),h.E.iM⟩,h.I.bn hc (fun g hg hm=>h.iM g (dA.aZ.2 (.inl hm)) hg),h.iM⟩
end Go.Proofs.Ytkmggglljkmjoaa
