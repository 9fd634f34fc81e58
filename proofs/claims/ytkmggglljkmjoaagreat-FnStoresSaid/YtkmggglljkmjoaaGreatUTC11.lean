/-
  Several texts in one: lemmas and contracts that the claim rests on.
-/
import Derived.Test.YtkmggglljkmjoaaGreatUTC1
import Derived.Deep.QuietTactic
import Derived.BigQuiet
import Derived.Deep.LoopGhost
import Derived.Deep.RegionHeld3
import Derived.Test.YtkmggglljkmjoaaGreatUTC2
import Derived.WalkSpells
import Derived.Laws.Cover3
import Derived.Test.YtkmggglljkmjoaaGreatUTC10
import Derived.Deep.RegionLaw
namespace Go.Proofs.YtkmggglljkmjoaaGreat
open Go.RowKit
theorem dR.Dr {α : Type}{T : FT α}{e E : TypeId}{w : World} : dR T e E w (.slice none 0 0) [] []:= ⟨rfl,World.ownsRow_nil _ _ _ _,fun k s l h=>by simp at h,by simp [dH,cu,Value.ownBlock]⟩
theorem aY.then_ {F : List Nat}{a b c : World}(h : aY F a b)(hb : Below a.heap.size b c) : aY F a c:=
 ⟨hb.os.trans h.os,hb.tape.trans h.tape,hb.output.trans h.output,Nat.le_trans h.size hb.size,fun k hk hn=> (hb.block k hk).trans (h.block k hk hn)⟩
set_option maxRecDepth 100000 in
set_option maxHeartbeats 4000000 in
theorem kL (w : World)(H : aZ)(x : Lists)(h : iC w w.heap.size H x)(hs : bX x≤536870912) :
  Calls Tryz.prog 153 #[.agg #[.slice H.G.a H.G.l H.G.c, .slice H.O.a H.O.l H.O.c]] w fun e w'=> ∃H' : aZ,e= .returned (H'.val x) ∧dZ w' H' x∧ (∀g∈H'.foot,w.heap.size≤g) ∧Below w.heap.size w w':=by
 have hs1 : jh x.G≤536870912:=Nat.le_trans (Nat.le_add_right _ _) hs
 have hs2 : jh x.O≤536870912:=Nat.le_trans (Nat.le_add_left _ _) hs
 have hl1 : x.G.length≤536870912:=Nat.le_trans (Nat.le_add_right _ _) hs1
 have hl2 : x.O.length≤536870912:=Nat.le_trans (Nat.le_add_right _ _) hs2
 obtain⟨⟨A1,n1,c1⟩,t1, ⟨A2,n2,c2⟩,t2⟩ :=H
 have GZ : jl FI w w.heap.size (.slice A1 n1 c1) t1 x.G:=h.G
 have Lx : jl FI w w.heap.size (.slice A2 n2 c2) t2 x.O:=h.O
 clear h hs
 obtain⟨rfl,_,_⟩ :=GZ.len'
 obtain⟨rfl,_,_⟩ :=Lx.len'
 show Calls Tryz.prog 153 #[.agg #[.slice A1 x.G.length c1, .slice A2 x.O.length c2]] _ _
 have ba : aB (((w.alloc (.cells #[.slice A1 x.G.length c1, .slice A2 x.O.length c2] 29)).alloc (.cells #[.slice none 0 0, .slice none 0 0] 29)).alloc (.cells #[.slice none 0 0, .slice none 0 0] 29)) w.heap.size [.slice A1 x.G.length c1, .slice A2 x.O.length c2]:= ((aB.new w #[.slice A1 x.G.length c1, .slice A2 x.O.length c2] _).alloc _).alloc _
 have br : aB (((w.alloc (.cells #[.slice A1 x.G.length c1, .slice A2 x.O.length c2] 29)).alloc (.cells #[.slice none 0 0, .slice none 0 0] 29)).alloc (.cells #[.slice none 0 0, .slice none 0 0] 29)) (w.heap.size+1) [.slice none 0 0, .slice none 0 0]:=by
  have hb:= (aB.new (w.alloc (.cells #[.slice A1 x.G.length c1, .slice A2 x.O.length c2] 29)) #[.slice none 0 0, .slice none 0 0] 29).alloc (.cells #[.slice none 0 0, .slice none 0 0] 29)
  rw [World.size_alloc] at hb
  exact hb
 have bo : aB (((w.alloc (.cells #[.slice A1 x.G.length c1, .slice A2 x.O.length c2] 29)).alloc (.cells #[.slice none 0 0, .slice none 0 0] 29)).alloc (.cells #[.slice none 0 0, .slice none 0 0] 29)) (w.heap.size+1+1) [.slice none 0 0, .slice none 0 0]:=by
  have hb:=aB.new ((w.alloc (.cells #[.slice A1 x.G.length c1, .slice A2 x.O.length c2] 29)).alloc (.cells #[.slice none 0 0, .slice none 0 0] 29)) #[.slice none 0 0, .slice none 0 0] 29
  rw [World.size_alloc,World.size_alloc] at hb
  exact hb
 have hB : Below w.heap.size w (((w.alloc (.cells #[.slice A1 x.G.length c1, .slice A2 x.O.length c2] 29)).alloc (.cells #[.slice none 0 0, .slice none 0 0] 29)).alloc (.cells #[.slice none 0 0, .slice none 0 0] 29)) :=dJ
 go_enter Tryz.func153,Tryz.ntmps153
 go_wp2_with fail
 generalize hW0 : (((w.alloc (.cells #[.slice A1 x.G.length c1, .slice A2 x.O.length c2] 29)).alloc (.cells #[.slice none 0 0, .slice none 0 0] 29)).alloc (.cells #[.slice none 0 0, .slice none 0 0] 29)) =KD at ba br bo hB⊢
 clear hW0
 have zS:=bo.lt
 go_loopw [12] (fun i wr=> ∃k : Nat,k≤x.G.length∧i= .int .i64 k∧ (∃ (K : SV) (t' : List SV),dR FI 3 94 wr K.val t' (x.G.take k) ∧ (∀g∈dH K.val t',KD.heap.size≤g) ∧aB wr (w.heap.size+1+1) [.slice K.a K.l K.c, .slice none 0 0]) ∧aY [w.heap.size+1+1] KD wr) (fun i _=>x.G.length - (intOf i).toNat)
 case atStart=>exact⟨0,Nat.zero_le _,rfl, ⟨⟨none,0,0⟩, [],dR.Dr,by simp [dH,cu,SV.val,Value.ownBlock],bo⟩,aY.refl _ _⟩
 case round=>
  obtain⟨i,hi,rfl, ⟨K,t',ho,hfo,bo⟩,hc⟩ :=hrel
  have hb : Below w.heap.size w wr:=hB.trans (hc.below hB.size (by simp<;>omega))
  have hz : w.heap.size+1+1<wr.heap.size:=Nat.lt_of_lt_of_le zS hc.size
  by_cases hlt : i<x.G.length
  ·obtain⟨g,o,A',c',he,hg,p0,r1⟩ :=GZ.row hb hlt
   subst he
   have hlen : x.G[i].length≤1073741824:=by have:=mK (List.getElem_mem hlt);omega
   have htl : t'.length≤536870912:=by rw [ho.len,List.length_take];omega
   have I_:=Hid.aT (List.take_succ_eq_append_getElem hlt)
   have z1 : g<wr.heap.size:=Nat.lt_of_lt_of_le hg hb.size
   have HC:=Hid.aT hc.size
   generalize x.G[i]=row at *
   have q0:= (bo.alloc (.cells #[.slice A' row.length c'] 94)).cell 0 _ rfl
   have f0:=bo.dn 0
   have hr1:=eP r1 (hb.alloc hb.size (.cells #[.slice A' row.length c'] 94)).drew
   have LA:= (bo.alloc (.cells #[.slice A' row.length c'] 94)).drew
   go_wp2_with fail
   go_region_law (first| (refine jo Tryz.stSL rfl (.tmp 17) (.tmp 22) rfl (v:=K.val) (y:= .slice (some ⟨w1.heap.size,0,none⟩) 1 1) (l:=t') (m:= [⟨A2,row.length,c2⟩]) (by simp [Act.eval,SV.val]) (by simp [Act.eval]) (ho1.outer.aH _) (bA.lit FS [⟨A2,row.length,c2⟩] #[.slice A2 row.length c2] rfl (by simp [maxLen]) w1 94).rd' (by simp only [List.length_singleton];omega) ?_;intro v' w3 ho3 hg3 Fj;obtain⟨A3,c3,hv3,_⟩ :=ho3.rd';simp only [List.length_append,List.length_cons,List.length_nil] at hv3;subst hv3;have Fp:= (CB.alloc (.cells #[.slice A2 row.length c2] 94)).aM (aY.jP hg3) (fun hm=>by have:=hfo _ (cZ.2 (.inl (bV.1 hm)));omega);have q3:=Fp.cell 0 _ rfl;have f3:=Fp.dn 0) | (go_simp;go_at_call 204; ((with_reducible refine(uw _ _ row hr1 hlen).mono ?_);rintro e w1 ⟨vs,rfl,hos,hfs,hb1⟩;have hb1' : Below wr.heap.size wr w1:= ((Below.refl _ _).alloc (Nat.le_refl _) _).drew.trans (hb1.mono (by simp));have ho1:=ho.step0 hb1';have CB:=LA.below hb1;have q2:=CB.cell 0 _ rfl;have f2:=CB.dn 0;have Ov:=fun o=> (CB.alloc o).cell 0 _ rfl;have zK : ∀g∈cu vs,wr.heap.size<g:= (fun g hg=>by have:=hfs g hg;simp at this;omega);obtain⟨A2,c2,hv2,_⟩ :=hos.rd';subst hv2)))
   all_goals
    have hsn:=dR.snoc (ho1.aH (.cells #[.slice A2 row.length c2] 94)) (s:= ⟨A2,row.length,c2⟩) (hos.aH _) (fun g hg hm=>by have a:=zK g hg;have b:=ho.lt g hm;omega) ho3 hg3 Fj
    have hbN : Below KD.heap.size wr w3:= (((Below.refl _ _).trans (hb1'.mono HC.out)).alloc (Nat.le_trans HC.out hb1'.size) _).grown hg3 (by simp;exact Nat.le_succ_of_le (Nat.le_trans HC.out hb1'.size)) (fun k hk=>hfo k (cZ.2 (.inl hk)))
    have LB:= (hc.then_ hbN).gD (g:=w.heap.size+1+1) (i:=0) (by simp) (.slice A3 (t'.length+ (0+1)) c3)
    have LC:=Fp.set 0 (.slice A3 (t'.length+ (0+1)) c3)
    have pY : ∀b∈dH (SV.val ⟨A3,t'.length+ (0+1),c3⟩) (t'++ [⟨A2,row.length,c2⟩]),KD.heap.size≤b:=by
     intro b hb'
     unfold dH at hb'
     rw [List.flatMap_append] at hb'
     rcases List.mem_append.1 hb' with h1|h1
     ·rcases iy Fj b h1 with h2|h2
      ·exact hfo b (cZ.2 (.inl (bV.1 h2)))
      ·have:=hb1'.size
       have:=HC.out
       simp at h2
       omega
     ·rcases List.mem_append.1 h1 with h2|h2
      ·exact hfo b (by unfold dH;exact List.mem_append.2 (.inr h2))
      ·have h4 : b∈cu (SV.val ⟨A2,row.length,c2⟩) :=by simpa using h2
       have:=zK b h4
       have:=HC.out
       omega
    have LD:=hsn.aM ((aY.refl [w.heap.size+1+1] w3).gD (g:=w.heap.size+1+1) (i:=0) (by simp) (.slice A3 (t'.length+ (0+1)) c3)) (fun b hb hm=>by have:=pY b hb;simp only [List.mem_cons,List.not_mem_nil,or_false] at hm;omega)
    go_wp2_with fail
    go_roundw
    case rel=>exact⟨i+1,by omega,by go_num, ⟨⟨A3,t'.length+ (0+1),c3⟩,_,by rw [I_.out];exact LD,pY,LC⟩,LB⟩
    case measure=>simp [intOf];omega
  ·obtain rfl : i=x.G.length:=by omega
   rw [List.take_length] at ho
   obtain⟨KE,rfl⟩ : ∃W : World,W=wr:= ⟨_,rfl⟩
   obtain⟨K0,rfl⟩ : ∃Q,Q=K:= ⟨_,rfl⟩
   obtain⟨t0,rfl⟩ : ∃Q,Q=t':= ⟨_,rfl⟩
   have oK:=ho
   have fK:=hfo
   have uK:=ho.lt
   have fV:=ba.aM hc (by simp<;>omega)
   have Ow:=br.aM hc (by simp<;>omega)
   have iq:=fV.cell 1 _ rfl
   have QE:=hc.size
   have QF:=zS
   clear ba br zS ho hfo hB hc
   have zS:=hz
   have hB:=hb
   clear hz hb
   go_wp2_with fail
   go_loopw [29] (fun i wr=> ∃k : Nat,k≤x.O.length∧i= .int .i64 k∧ (∃ (K : SV) (t' : List SV),dR FI 3 94 wr K.val t' (x.O.take k) ∧ (∀g∈dH K.val t',KE.heap.size≤g) ∧aB wr (w.heap.size+1+1) [.slice K0.a K0.l K0.c, .slice K.a K.l K.c]) ∧aY [w.heap.size+1+1] KE wr) (fun i _=>x.O.length - (intOf i).toNat)
   case atStart=>exact⟨0,Nat.zero_le _,rfl, ⟨⟨none,0,0⟩, [],dR.Dr,by simp [dH,cu,SV.val,Value.ownBlock],bo⟩,aY.refl _ _⟩
   case round=>
    obtain⟨i,hi,rfl, ⟨K,t',ho,hfo,bo⟩,hc⟩ :=hrel
    have hb : Below w.heap.size w wr:=hB.trans (hc.below hB.size (by simp<;>omega))
    have hz : w.heap.size+1+1<wr.heap.size:=Nat.lt_of_lt_of_le zS hc.size
    by_cases hlt : i<x.O.length
    ·obtain⟨g,o,A',c',he,hg,p0,r1⟩ :=Lx.row hb hlt
     subst he
     have hlen : x.O[i].length≤1073741824:=by have:=mK (List.getElem_mem hlt);omega
     have htl : t'.length≤536870912:=by rw [ho.len,List.length_take];omega
     have I_:=Hid.aT (List.take_succ_eq_append_getElem hlt)
     have z1 : g<wr.heap.size:=Nat.lt_of_lt_of_le hg hb.size
     have HC:=Hid.aT hc.size
     generalize x.O[i]=row at *
     have q0:= (bo.alloc (.cells #[.slice A' row.length c'] 94)).cell 1 _ rfl
     have f0:=bo.dn 1
     have hr1:=eP r1 (hb.alloc hb.size (.cells #[.slice A' row.length c'] 94)).drew
     have LA:= (bo.alloc (.cells #[.slice A' row.length c'] 94)).drew
     go_wp2_with fail
     go_region_law (first| (refine jo Tryz.stSL rfl (.tmp 34) (.tmp 39) rfl (v:=K.val) (y:= .slice (some ⟨w1.heap.size,0,none⟩) 1 1) (l:=t') (m:= [⟨A2,row.length,c2⟩]) (by simp [Act.eval,SV.val]) (by simp [Act.eval]) (ho1.outer.aH _) (bA.lit FS [⟨A2,row.length,c2⟩] #[.slice A2 row.length c2] rfl (by simp [maxLen]) w1 94).rd' (by simp only [List.length_singleton];omega) ?_;intro v' w3 ho3 hg3 Fj;obtain⟨A3,c3,hv3,_⟩ :=ho3.rd';simp only [List.length_append,List.length_cons,List.length_nil] at hv3;subst hv3;have Fp:= (CB.alloc (.cells #[.slice A2 row.length c2] 94)).aM (aY.jP hg3) (fun hm=>by have:=hfo _ (cZ.2 (.inl (bV.1 hm)));omega);have q3:=Fp.cell 1 _ rfl;have f3:=Fp.dn 1) | (go_simp;go_at_call 204; ((with_reducible refine(uw _ _ row hr1 hlen).mono ?_);rintro e w1 ⟨vs,rfl,hos,hfs,hb1⟩;have hb1' : Below wr.heap.size wr w1:= ((Below.refl _ _).alloc (Nat.le_refl _) _).drew.trans (hb1.mono (by simp));have ho1:=ho.step0 hb1';have CB:=LA.below hb1;have q2:=CB.cell 1 _ rfl;have f2:=CB.dn 1;have Ov:=fun o=> (CB.alloc o).cell 1 _ rfl;have zK : ∀g∈cu vs,wr.heap.size<g:= (fun g hg=>by have:=hfs g hg;simp at this;omega);obtain⟨A2,c2,hv2,_⟩ :=hos.rd';subst hv2)))
     all_goals
      have hsn:=dR.snoc (ho1.aH (.cells #[.slice A2 row.length c2] 94)) (s:= ⟨A2,row.length,c2⟩) (hos.aH _) (fun g hg hm=>by have a:=zK g hg;have b:=ho.lt g hm;omega) ho3 hg3 Fj
      have hbN : Below KE.heap.size wr w3:= (((Below.refl _ _).trans (hb1'.mono HC.out)).alloc (Nat.le_trans HC.out hb1'.size) _).grown hg3 (by simp;exact Nat.le_succ_of_le (Nat.le_trans HC.out hb1'.size)) (fun k hk=>hfo k (cZ.2 (.inl hk)))
      have LB:= (hc.then_ hbN).gD (g:=w.heap.size+1+1) (i:=1) (by simp) (.slice A3 (t'.length+ (0+1)) c3)
      have LC:=Fp.set 1 (.slice A3 (t'.length+ (0+1)) c3)
      have pY : ∀b∈dH (SV.val ⟨A3,t'.length+ (0+1),c3⟩) (t'++ [⟨A2,row.length,c2⟩]),KE.heap.size≤b:=by
       intro b hb'
       unfold dH at hb'
       rw [List.flatMap_append] at hb'
       rcases List.mem_append.1 hb' with h1|h1
       ·rcases iy Fj b h1 with h2|h2
        ·exact hfo b (cZ.2 (.inl (bV.1 h2)))
        ·have:=hb1'.size
         have:=HC.out
         simp at h2
         omega
       ·rcases List.mem_append.1 h1 with h2|h2
        ·exact hfo b (by unfold dH;exact List.mem_append.2 (.inr h2))
        ·have h4 : b∈cu (SV.val ⟨A2,row.length,c2⟩) :=by simpa using h2
         have:=zK b h4
         have:=HC.out
         omega
      have LD:=hsn.aM ((aY.refl [w.heap.size+1+1] w3).gD (g:=w.heap.size+1+1) (i:=1) (by simp) (.slice A3 (t'.length+ (0+1)) c3)) (fun b hb hm=>by have:=pY b hb;simp only [List.mem_cons,List.not_mem_nil,or_false] at hm;omega)
      go_wp2_with fail
      go_roundw
      case rel=>exact⟨i+1,by omega,by go_num, ⟨⟨A3,t'.length+ (0+1),c3⟩,_,by rw [I_.out];exact LD,pY,LC⟩,LB⟩
      case measure=>simp [intOf];omega
    ·obtain rfl : i=x.O.length:=by omega
     rw [List.take_length] at ho
     have KF:=Ow.aM hc (by simp<;>omega)
     have Ox:=oK.aM hc (fun g hg hm=>by simp only [List.mem_cons,List.not_mem_nil,or_false] at hm;have:=fK g hg;omega)
     have q0:=bo.cell 0 _ rfl
     have q1:=bo.cell 1 _ rfl
     have r0:=KF.cell 0 _ rfl
     have r1:=KF.cell 1 _ rfl
     have fr:=KF.dn
     have QG:=KF.lt
     go_wp2_with fail
     refine bodyPost_ret (v:= .agg #[.slice K0.a K0.l K0.c, .slice K.a K.l K.c]) (by simp [results,Tryz.results153,go_sem,r0,r1]) rfl ⟨⟨K0,t0,K,t'⟩,rfl, ⟨Ox.aM (F:= [w.heap.size+1]) (by repeat (first|exact aY.refl _ _|refine aY.gD ?_ (by simp) _|refine aY.bf ?_)) (fun g hg hm=>by simp only [List.mem_cons,List.not_mem_nil,or_false] at hm;have:=fK g hg;omega),ho.aM (F:= [w.heap.size+1]) (by repeat (first|exact aY.refl _ _|refine aY.gD ?_ (by simp) _|refine aY.bf ?_)) (fun g hg hm=>by simp only [List.mem_cons,List.not_mem_nil,or_false] at hm;have:=hfo g hg;omega),fun g hg hm=>by have:=uK g hg;have:=hfo g hm;omega⟩,fun g hg=> ?_, ?_⟩
     ·rcases aZ.aX.1 hg with hg|hg
      ·have:=fK g hg
       omega
      ·have:=hfo g hg
       omega
     ·exact Below.trans hb (by repeat (first|exact Below.refl _ _|refine Below.setCell ?_ (by simp<;>omega) _|refine Below.drew ?_))
set_option maxRecDepth 100000 in
set_option maxHeartbeats 2000000 in
theorem kV (w : World)(H : bP)(x : Mem)(h : gJ w w.heap.size H x)(hs : dx x≤536870912) :
  Calls Tryz.prog 79 #[.agg #[.slice H.E.Y.a H.E.Y.l H.E.Y.c, .slice H.E.Z.a H.E.Z.l H.E.Z.c, .slice H.I.G.a H.I.G.l H.I.G.c, .slice H.I.O.a H.I.O.l H.I.O.c]] w fun e w'=> ∃H' : bP,e= .returned (H'.val x) ∧d9 w' H' x∧ (∀g∈H'.foot,w.heap.size≤g) ∧Below w.heap.size w w':=by
 have hs1 : iE x.E≤1073741824:=by unfold dx at hs;omega
 have hs2 : bX x.I≤536870912:=by unfold dx at hs;omega
 clear hs
 have ba : aB ((w.alloc (.cells #[.slice H.E.Y.a H.E.Y.l H.E.Y.c, .slice H.E.Z.a H.E.Z.l H.E.Z.c, .slice H.I.G.a H.I.G.l H.I.G.c, .slice H.I.O.a H.I.O.l H.I.O.c] 31)).alloc (.cells #[.slice none 0 0, .slice none 0 0, .slice none 0 0, .slice none 0 0] 31)) w.heap.size [.slice H.E.Y.a H.E.Y.l H.E.Y.c, .slice H.E.Z.a H.E.Z.l H.E.Z.c, .slice H.I.G.a H.I.G.l H.I.G.c, .slice H.I.O.a H.I.O.l H.I.O.c]:= (aB.new w #[.slice H.E.Y.a H.E.Y.l H.E.Y.c, .slice H.E.Z.a H.E.Z.l H.E.Z.c, .slice H.I.G.a H.I.G.l H.I.G.c, .slice H.I.O.a H.I.O.l H.I.O.c] _).alloc _
 have br : aB ((w.alloc (.cells #[.slice H.E.Y.a H.E.Y.l H.E.Y.c, .slice H.E.Z.a H.E.Z.l H.E.Z.c, .slice H.I.G.a H.I.G.l H.I.G.c, .slice H.I.O.a H.I.O.l H.I.O.c] 31)).alloc (.cells #[.slice none 0 0, .slice none 0 0, .slice none 0 0, .slice none 0 0] 31)) (w.heap.size+1) [.slice none 0 0, .slice none 0 0, .slice none 0 0, .slice none 0 0]:=by
  have hb:=aB.new (w.alloc (.cells #[.slice H.E.Y.a H.E.Y.l H.E.Y.c, .slice H.E.Z.a H.E.Z.l H.E.Z.c, .slice H.I.G.a H.I.G.l H.I.G.c, .slice H.I.O.a H.I.O.l H.I.O.c] 31)) #[.slice none 0 0, .slice none 0 0, .slice none 0 0, .slice none 0 0] 31
  rw [World.size_alloc] at hb
  exact hb
 have hB : Below w.heap.size w ((w.alloc (.cells #[.slice H.E.Y.a H.E.Y.l H.E.Y.c, .slice H.E.Z.a H.E.Z.l H.E.Z.c, .slice H.I.G.a H.I.G.l H.I.G.c, .slice H.I.O.a H.I.O.l H.I.O.c] 31)).alloc (.cells #[.slice none 0 0, .slice none 0 0, .slice none 0 0, .slice none 0 0] 31)) :=dJ
 go_enter Tryz.func79,Tryz.ntmps79
 go_wp2_with fail
 generalize hW0 : ((w.alloc (.cells #[.slice H.E.Y.a H.E.Y.l H.E.Y.c, .slice H.E.Z.a H.E.Z.l H.E.Z.c, .slice H.I.G.a H.I.G.l H.I.G.c, .slice H.I.O.a H.I.O.l H.I.O.c] 31)).alloc (.cells #[.slice none 0 0, .slice none 0 0, .slice none 0 0, .slice none 0 0] 31)) =w0 at ba br hB⊢
 clear hW0
 have iH:=ba.cell 0 _ rfl
 have nR:=br.cell 0 _ rfl
 have iq:=ba.cell 1 _ rfl
 have nS:=br.cell 1 _ rfl
 have jK:=ba.cell 2 _ rfl
 have zL:=br.cell 2 _ rfl
 have jL:=ba.cell 3 _ rfl
 have zM:=br.cell 3 _ rfl
 have fr:=br.dn
 have z0:=br.lt
 go_region_with (first| (go_at_call 152; (first| ((with_reducible refine(pJ _ H.E x.E (dW h.E hB) hs1).mono ?_);rintro e w1 ⟨K0,rfl,o0,f0,hb⟩;replace ba:=ba.below hb;replace br:=br.below hb;replace hB:=hB.trans (hb.mono hB.size);have sz:=hb.size;have u0:=o0.lt; (try replace o1:=o1.step0 hb);replace iH:=ba.cell 0 _ rfl;replace nR:=br.cell 0 _ rfl;replace iq:=ba.cell 1 _ rfl;replace nS:=br.cell 1 _ rfl;replace jK:=ba.cell 2 _ rfl;replace zL:=br.cell 2 _ rfl;replace jL:=ba.cell 3 _ rfl;replace zM:=br.cell 3 _ rfl;replace fr:=br.dn;clear hb) | ((with_reducible refine(pJ _ H.E x.E (dW h.E hB.drew) hs1).mono ?_);rintro e w1 ⟨K0,rfl,o0,f0,hb⟩;replace hb:=gq hb;replace f0:=ji f0;replace ba:=ba.below hb;replace br:=br.below hb;replace hB:=hB.trans (hb.mono hB.size);have sz:=hb.size;have u0:=o0.lt; (try replace o1:=o1.step0 hb);replace iH:=ba.cell 0 _ rfl;replace nR:=br.cell 0 _ rfl;replace iq:=ba.cell 1 _ rfl;replace nS:=br.cell 1 _ rfl;replace jK:=ba.cell 2 _ rfl;replace zL:=br.cell 2 _ rfl;replace jL:=ba.cell 3 _ rfl;replace zM:=br.cell 3 _ rfl;replace fr:=br.dn;clear hb))) | (go_at_call 153; (first| ((with_reducible refine(kL _ H.I x.I (eZ h.I hB) hs2).mono ?_);rintro e w2 ⟨K1,rfl,o1,f1,hb⟩;replace ba:=ba.below hb;replace br:=br.below hb;replace hB:=hB.trans (hb.mono hB.size);have sz:=hb.size;have u1:=o1.lt; (try replace o0:=o0.step0 hb);replace iH:=ba.cell 0 _ rfl;replace nR:=br.cell 0 _ rfl;replace iq:=ba.cell 1 _ rfl;replace nS:=br.cell 1 _ rfl;replace jK:=ba.cell 2 _ rfl;replace zL:=br.cell 2 _ rfl;replace jL:=ba.cell 3 _ rfl;replace zM:=br.cell 3 _ rfl;replace fr:=br.dn;clear hb) | ((with_reducible refine(kL _ H.I x.I (eZ h.I hB.drew) hs2).mono ?_);rintro e w2 ⟨K1,rfl,o1,f1,hb⟩;replace hb:=gq hb;replace f1:=ji f1;replace ba:=ba.below hb;replace br:=br.below hb;replace hB:=hB.trans (hb.mono hB.size);have sz:=hb.size;have u1:=o1.lt; (try replace o0:=o0.step0 hb);replace iH:=ba.cell 0 _ rfl;replace nR:=br.cell 0 _ rfl;replace iq:=ba.cell 1 _ rfl;replace nS:=br.cell 1 _ rfl;replace jK:=ba.cell 2 _ rfl;replace zL:=br.cell 2 _ rfl;replace jL:=ba.cell 3 _ rfl;replace zM:=br.cell 3 _ rfl;replace fr:=br.dn;clear hb))))
 all_goals
  go_wp2_with fail
  refine bodyPost_ret (v:= .agg #[.slice K0.Y.a K0.Y.l K0.Y.c, .slice K0.Z.a K0.Z.l K0.Z.c, .slice K1.G.a K1.G.l K1.G.c, .slice K1.O.a K1.O.l K1.O.c]) (by simp [results,Tryz.results79,go_sem,nR,nS,zL,zM]) rfl ⟨⟨K0,K1⟩,rfl, ⟨o0.aM (F:= [w.heap.size+1]) (by repeat (first|exact aY.refl _ _|refine aY.gD ?_ (by simp) _|refine aY.bf ?_)) (fun g hg hm=>by simp only [List.mem_cons,List.not_mem_nil,or_false] at hm;have:=f0 g hg;omega),o1.aM (F:= [w.heap.size+1]) (by repeat (first|exact aY.refl _ _|refine aY.gD ?_ (by simp) _|refine aY.bf ?_)) (fun g hg hm=>by simp only [List.mem_cons,List.not_mem_nil,or_false] at hm;have:=f1 g hg;omega),fun g hg hm=>by have:=u0 g hg;have:=f0 g hg;have:=u1 g hm;have:=f1 g hm;omega⟩,fun g hg=> ?_, ?_⟩
  ·rcases bP.aX.1 hg with hg|hg
   ·have:=f0 g hg
    omega
   ·have:=f1 g hg
    omega
  ·exact Below.trans hB (by repeat (first|exact Below.refl _ _|refine Below.setCell ?_ (by simp<;>omega) _|refine Below.drew ?_))
set_option maxRecDepth 100000 in
set_option maxHeartbeats 2000000 in
theorem lJ (w : World)(H : bP)(x : Mem)(h : gJ w w.heap.size H x)(hs : dx x≤536870912) :
  Calls Tryz.prog 83 #[.agg #[.slice H.E.Y.a H.E.Y.l H.E.Y.c, .slice H.E.Z.a H.E.Z.l H.E.Z.c, .slice H.I.G.a H.I.G.l H.I.G.c, .slice H.I.O.a H.I.O.l H.I.O.c]] w fun e w'=> ∃H' : bP,e= .returned (H'.val x) ∧d9 w' H' x∧ (∀g∈H'.foot,w.heap.size≤g) ∧Below w.heap.size w w':=by
 have hs1 : iE x.E≤1073741824:=by unfold dx at hs;omega
 have hs2 : bX x.I≤536870912:=by unfold dx at hs;omega
 clear hs
 have ba : aB ((w.alloc (.cells #[.slice H.E.Y.a H.E.Y.l H.E.Y.c, .slice H.E.Z.a H.E.Z.l H.E.Z.c, .slice H.I.G.a H.I.G.l H.I.G.c, .slice H.I.O.a H.I.O.l H.I.O.c] 31)).alloc (.cells #[.slice none 0 0, .slice none 0 0, .slice none 0 0, .slice none 0 0] 31)) w.heap.size [.slice H.E.Y.a H.E.Y.l H.E.Y.c, .slice H.E.Z.a H.E.Z.l H.E.Z.c, .slice H.I.G.a H.I.G.l H.I.G.c, .slice H.I.O.a H.I.O.l H.I.O.c]:= (aB.new w #[.slice H.E.Y.a H.E.Y.l H.E.Y.c, .slice H.E.Z.a H.E.Z.l H.E.Z.c, .slice H.I.G.a H.I.G.l H.I.G.c, .slice H.I.O.a H.I.O.l H.I.O.c] _).alloc _
 have br : aB ((w.alloc (.cells #[.slice H.E.Y.a H.E.Y.l H.E.Y.c, .slice H.E.Z.a H.E.Z.l H.E.Z.c, .slice H.I.G.a H.I.G.l H.I.G.c, .slice H.I.O.a H.I.O.l H.I.O.c] 31)).alloc (.cells #[.slice none 0 0, .slice none 0 0, .slice none 0 0, .slice none 0 0] 31)) (w.heap.size+1) [.slice none 0 0, .slice none 0 0, .slice none 0 0, .slice none 0 0]:=by
  have hb:=aB.new (w.alloc (.cells #[.slice H.E.Y.a H.E.Y.l H.E.Y.c, .slice H.E.Z.a H.E.Z.l H.E.Z.c, .slice H.I.G.a H.I.G.l H.I.G.c, .slice H.I.O.a H.I.O.l H.I.O.c] 31)) #[.slice none 0 0, .slice none 0 0, .slice none 0 0, .slice none 0 0] 31
  rw [World.size_alloc] at hb
  exact hb
 have hB : Below w.heap.size w ((w.alloc (.cells #[.slice H.E.Y.a H.E.Y.l H.E.Y.c, .slice H.E.Z.a H.E.Z.l H.E.Z.c, .slice H.I.G.a H.I.G.l H.I.G.c, .slice H.I.O.a H.I.O.l H.I.O.c] 31)).alloc (.cells #[.slice none 0 0, .slice none 0 0, .slice none 0 0, .slice none 0 0] 31)) :=dJ
 go_enter Tryz.func83,Tryz.ntmps83
 go_wp2_with fail
 generalize hW0 : ((w.alloc (.cells #[.slice H.E.Y.a H.E.Y.l H.E.Y.c, .slice H.E.Z.a H.E.Z.l H.E.Z.c, .slice H.I.G.a H.I.G.l H.I.G.c, .slice H.I.O.a H.I.O.l H.I.O.c] 31)).alloc (.cells #[.slice none 0 0, .slice none 0 0, .slice none 0 0, .slice none 0 0] 31)) =w0 at ba br hB⊢
 clear hW0
 have iH:=ba.cell 0 _ rfl
 have nR:=br.cell 0 _ rfl
 have iq:=ba.cell 1 _ rfl
 have nS:=br.cell 1 _ rfl
 have jK:=ba.cell 2 _ rfl
 have zL:=br.cell 2 _ rfl
 have jL:=ba.cell 3 _ rfl
 have zM:=br.cell 3 _ rfl
 have fr:=br.dn
 have z0:=br.lt
 go_region_with (first| (go_at_call 155; (first| ((with_reducible refine(uy _ H.E x.E (dW h.E hB) hs1).mono ?_);rintro e w1 ⟨K0,rfl,o0,f0,hb⟩;replace ba:=ba.below hb;replace br:=br.below hb;replace hB:=hB.trans (hb.mono hB.size);have sz:=hb.size;have u0:=o0.lt; (try replace o1:=o1.step0 hb);replace iH:=ba.cell 0 _ rfl;replace nR:=br.cell 0 _ rfl;replace iq:=ba.cell 1 _ rfl;replace nS:=br.cell 1 _ rfl;replace jK:=ba.cell 2 _ rfl;replace zL:=br.cell 2 _ rfl;replace jL:=ba.cell 3 _ rfl;replace zM:=br.cell 3 _ rfl;replace fr:=br.dn;clear hb) | ((with_reducible refine(uy _ H.E x.E (dW h.E hB.drew) hs1).mono ?_);rintro e w1 ⟨K0,rfl,o0,f0,hb⟩;replace hb:=gq hb;replace f0:=ji f0;replace ba:=ba.below hb;replace br:=br.below hb;replace hB:=hB.trans (hb.mono hB.size);have sz:=hb.size;have u0:=o0.lt; (try replace o1:=o1.step0 hb);replace iH:=ba.cell 0 _ rfl;replace nR:=br.cell 0 _ rfl;replace iq:=ba.cell 1 _ rfl;replace nS:=br.cell 1 _ rfl;replace jK:=ba.cell 2 _ rfl;replace zL:=br.cell 2 _ rfl;replace jL:=ba.cell 3 _ rfl;replace zM:=br.cell 3 _ rfl;replace fr:=br.dn;clear hb))) | (go_at_call 156; (first| ((with_reducible refine(n_ _ H.I x.I (eZ h.I hB) hs2).mono ?_);rintro e w2 ⟨K1,rfl,o1,f1,hb⟩;replace ba:=ba.below hb;replace br:=br.below hb;replace hB:=hB.trans (hb.mono hB.size);have sz:=hb.size;have u1:=o1.lt; (try replace o0:=o0.step0 hb);replace iH:=ba.cell 0 _ rfl;replace nR:=br.cell 0 _ rfl;replace iq:=ba.cell 1 _ rfl;replace nS:=br.cell 1 _ rfl;replace jK:=ba.cell 2 _ rfl;replace zL:=br.cell 2 _ rfl;replace jL:=ba.cell 3 _ rfl;replace zM:=br.cell 3 _ rfl;replace fr:=br.dn;clear hb) | ((with_reducible refine(n_ _ H.I x.I (eZ h.I hB.drew) hs2).mono ?_);rintro e w2 ⟨K1,rfl,o1,f1,hb⟩;replace hb:=gq hb;replace f1:=ji f1;replace ba:=ba.below hb;replace br:=br.below hb;replace hB:=hB.trans (hb.mono hB.size);have sz:=hb.size;have u1:=o1.lt; (try replace o0:=o0.step0 hb);replace iH:=ba.cell 0 _ rfl;replace nR:=br.cell 0 _ rfl;replace iq:=ba.cell 1 _ rfl;replace nS:=br.cell 1 _ rfl;replace jK:=ba.cell 2 _ rfl;replace zL:=br.cell 2 _ rfl;replace jL:=ba.cell 3 _ rfl;replace zM:=br.cell 3 _ rfl;replace fr:=br.dn;clear hb))))
 all_goals
  go_wp2_with fail
  refine bodyPost_ret (v:= .agg #[.slice K0.Y.a K0.Y.l K0.Y.c, .slice K0.Z.a K0.Z.l K0.Z.c, .slice K1.G.a K1.G.l K1.G.c, .slice K1.O.a K1.O.l K1.O.c]) (by simp [results,Tryz.results83,go_sem,nR,nS,zL,zM]) rfl ⟨⟨K0,K1⟩,rfl, ⟨o0.aM (F:= [w.heap.size+1]) (by repeat (first|exact aY.refl _ _|refine aY.gD ?_ (by simp) _|refine aY.bf ?_)) (fun g hg hm=>by simp only [List.mem_cons,List.not_mem_nil,or_false] at hm;have:=f0 g hg;omega),o1.aM (F:= [w.heap.size+1]) (by repeat (first|exact aY.refl _ _|refine aY.gD ?_ (by simp) _|refine aY.bf ?_)) (fun g hg hm=>by simp only [List.mem_cons,List.not_mem_nil,or_false] at hm;have:=f1 g hg;omega),fun g hg hm=>by have:=u0 g hg;have:=f0 g hg;have:=u1 g hm;have:=f1 g hm;omega⟩,fun g hg=> ?_, ?_⟩
  ·rcases bP.aX.1 hg with hg|hg
   ·have:=f0 g hg
    omega
   ·have:=f1 g hg
    omega
  ·exact Below.trans hB (by repeat (first|exact Below.refl _ _|refine Below.setCell ?_ (by simp<;>omega) _|refine Below.drew ?_))
end Go.Proofs.YtkmggglljkmjoaaGreat
namespace Go.Proofs.YtkmggglljkmjoaaGreat
open Go.RowKit
def fQ : Nat→Int→List Int
 |0,_=> []
 |k+1,n=>fQ k (n / 256) ++ [n%256]
theorem Ef (k : Nat)(n : Int) : fQ (k+1) n=fQ k (n / 256) ++ [n%256]:=rfl
theorem jq : ∀ (k : Nat) (n : Int), (fQ k n).length=k
 |0,_=>rfl
 |k+1,n=>by simp [fQ,jq k]
theorem DJ : ∀ (k : Nat) (n : Int) (j : Nat),j<k→ (fQ k n)[k - 1 - j]? =some (n / 256 ^ j%256)
 |0,_,j,h=>absurd h (by omega)
 |k+1,n,0,_=>by
  have:=jq k (n / 256)
  simp [fQ,this]
 |k+1,n,j+1,h=>by
  have hl:=jq k (n / 256)
  have ih:=DJ k (n / 256) j (by omega)
  have e : k+1 - 1 - (j+1) =k - 1 - j:=by omega
  rw [e]
  unfold fQ
  rw [List.getElem?_append_left (by omega),ih,Int.ediv_ediv_of_nonneg (by omega),Int.pow_succ',Int.mul_comm]
theorem xE : ∀ (k : Nat) (n : Int), (fQ k n).all (bO 0 255) =true
 |0,_=>rfl
 |k+1,n=>by
  have h1 : 0≤n%256:=Int.emod_nonneg _ (by omega)
  have h2 : n%256<256:=Int.emod_lt_of_pos _ (by omega)
  unfold fQ
  rw [List.all_append,xE k]
  simp [bO]
  omega
def putAt (b : List Int)(a : Nat)(ds : List Int) : List Int:=b.take a++ds++b.drop (a+ds.length)
def backTo (b : List Int)(a : Nat)(ds : List Int)(i : Nat) : List Int:=b.take (a+i) ++ds.drop i++b.drop (a+ds.length)
def Fq (b : List Int)(a k n : Int) : List Int:=putAt b a.toNat (fQ k.toNat n)
theorem nT {b : List Int}{a : Nat}{ds : List Int}(h : a+ds.length≤b.length) : (putAt b a ds).length=b.length:=by
 simp [putAt]
 omega
theorem Ja (b : List Int)(a : Nat) : putAt b a []=b:=by simp [putAt]
theorem CF {b : List Int}{a : Nat}{ds : List Int} : backTo b a ds ds.length=b:=by simp [backTo]
theorem AQ {b : List Int}{a : Nat}{ds : List Int} : backTo b a ds 0=putAt b a ds:=by simp [backTo,putAt]
theorem CG {b : List Int}{a : Nat}{ds : List Int}{i : Nat}(h : a+ds.length≤b.length)(hi : i≤ds.length) : (backTo b a ds i).length=b.length:=by
 simp [backTo]
 omega
theorem H6 {b : List Int}{a : Nat}{ds : List Int}{i : Nat}(h : a+ds.length≤b.length)(hi : i<ds.length) : (putAt b a (ds.take i)).set (a+i) ds[i]=putAt b a (ds.take (i+1)) :=by
 have hl : (ds.take i).length=i:=by simp;omega
 have hl2 : (ds.take (i+1)).length=i+1:=by simp;omega
 have hd : b.drop (a+i) =b[a+i]'(by omega) ::b.drop (a+ (i+1)) := (List.drop_eq_getElem_cons (by omega))
 unfold putAt
 rw [hl,hl2,hd,List.set_append_right _ _ (by simp;omega)]
 have e : a+i - (b.take a++ds.take i).length=0:=by simp;omega
 rw [e,List.set_cons_zero]
 have ht:=List.take_succ_eq_append_getElem hi
 rw [ht]
 simp only [List.append_assoc,List.cons_append,List.nil_append]
theorem AU {b : List Int}{a : Nat}{ds : List Int}{i : Nat}(h : a+ds.length≤b.length)(hi : i<ds.length) : (backTo b a ds (i+1)).set (a+i) ds[i]=backTo b a ds i:=by
 have hd : ds.drop i=ds[i]::ds.drop (i+1) :=List.drop_eq_getElem_cons hi
 have ht : b.take (a+ (i+1)) =b.take (a+i) ++ [b[a+i]'(by omega)]:=by rw [←Nat.add_assoc,List.take_succ_eq_append_getElem (by omega)]
 unfold backTo
 rw [hd,ht,List.append_assoc,List.append_assoc,List.set_append_right _ _ (by simp;omega)]
 have e : a+i - (b.take (a+i)).length=0:=by simp;omega
 rw [e]
 simp only [List.append_assoc,List.cons_append,List.nil_append,List.set_cons_zero]
theorem zN {p : Int→Bool}{b : List Int}{a : Nat}{ds : List Int}(hb : b.all p=true)(hd : ds.all p=true) : (putAt b a ds).all p=true:=by
 unfold putAt
 rw [List.all_append,List.all_append,hd,Bool.and_true,Bool.and_eq_true]
 exact⟨List.all_eq_true.2 fun x hx=>List.all_eq_true.1 hb x (List.mem_of_mem_take hx),List.all_eq_true.2 fun x hx=>List.all_eq_true.1 hb x (List.mem_of_mem_drop hx)⟩
theorem uS {b : List Int}{a : Nat}{ds : List Int}{i : Nat}(h : a+ds.length≤b.length)(hi : i<a∨a+ds.length≤i) : (putAt b a ds)[i]? =b[i]? :=by
 unfold putAt
 rcases hi with hi|hi
 ·rw [List.append_assoc,List.getElem?_append_left (by simp;omega),List.getElem?_take_of_lt hi]
 ·rw [List.getElem?_append_right (by simp;omega),List.getElem?_drop]
  congr 1
  simp
  omega
theorem vZ {b : List Int}{a : Nat}{ds : List Int}{j : Nat}(h : a+ds.length≤b.length)(hj : j<ds.length) : (putAt b a ds)[a+j]? =ds[j]? :=by
 unfold putAt
 rw [List.append_assoc,List.getElem?_append_right (by simp;omega),List.getElem?_append_left (by simp;omega)]
 congr 1
 simp
 omega
theorem vD : ∀ (k : Nat) (n : Int) (b : List Int) (a : Nat), (∀j<k,b.getD (a+j) 0= (fQ k n).getD j 0) →0≤n→n<256 ^ k→iJ b a k=n
 |0,n,_,_,_,h0,h1=>by simp at h1;simp [iJ];omega
 |k+1,n,b,a,hb,h0,h1=>by
  have hl:=jq k (n / 256)
  have h3 : n / 256<256 ^ k:=by
   rw [Int.pow_succ] at h1
   exact Int.ediv_lt_of_lt_mul (by omega) h1
  have ih:=vD k (n / 256) b a (fun j hj=>by
   rw [hb j (by omega),Ef]
   simp [List.getD,List.getElem?_append_left,hl,hj]) (Int.ediv_nonneg h0 (by omega)) h3
  have hk:=hb k (by omega)
  have e : (fQ (k+1) n).getD k 0=n%256:=by
   rw [Ef]
   simp [List.getD,hl]
  rw [e] at hk
  simp only [iJ]
  rw [ih,hk]
  omega
end Go.Proofs.YtkmggglljkmjoaaGreat
