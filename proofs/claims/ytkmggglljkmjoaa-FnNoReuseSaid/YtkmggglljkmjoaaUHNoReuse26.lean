/-
  Several texts in one: lemmas and contracts that the claim rests on.
-/
import Derived.Test.YtkmggglljkmjoaaUHNoReuse2
import Derived.Test.YtkmggglljkmjoaaUHNoReuse1
import Derived.Deep.QuietTactic
import Derived.BigQuiet
import Derived.Deep.LoopGhost
import Derived.Deep.RegionHeld3
import Derived.WalkSpells
import Derived.Laws.Cover3
import Derived.Test.YtkmggglljkmjoaaUHNoReuse25
import Derived.Test.YtkmggglljkmjoaaUHNoReuse6
import Derived.Deep.RegionLaw
import Derived.Deep.CutRange
namespace Go.Proofs.Ytkmggglljkmjoaa
open Go.RowKit
theorem uE {P : Program}{ops : Array Oper}{o : Oper}{a : Act}{w : World}{rest : List Oper}{Q : Exit→Act→World→Prop}(hgd : o.guard=none)(d s : Operand)(dT sT : TypeId)
  (ho : o.op= .call {callee:= .builtin .copy,args:= #[d,s],argTypes:= #[dT,sT]}) (elem : TypeId) (hu : P.underlying dT=some (.slice elem)) (hsz : (P.info? elem).map (·.size) =some 1)
  {e : TypeId} {g n c off dLen dCap sLen sCap : Nat} {ad : Addr} {b m : List Int} (hd : a.eval d= .slice (some ⟨g,off,none⟩) dLen dCap) (hs : a.eval s= .slice (some ad) sLen sCap)
  (hown : bF FI e w (.slice (some ⟨g,0,none⟩) n c) b) (hsrc : ∀j v, (m.map (Value.int .i64))[j]? =some v→w.cell? (ad.add j) =some v) (hn : m.length=Nat.min sLen dLen) (hfit : off+m.length≤b.length)
  (h : ∀w',bF FI e w' (.slice (some ⟨g,0,none⟩) n c) (putAt b off m) →bW [g] w w'→wpList P ops Q rest (a.put o.dst (goInt m.length)) w') :
  wpList P ops Q (o::rest) a w:=by
 refine wpList_plain hgd fun K hK=> ?_
 obtain⟨cur,hc,hcb,hput⟩ :=hown.uQ
 have hrun:=run_copy_row (P:=P) w dT sT o.type elem g off dLen dCap ad sLen sCap cur e (m.map (Value.int .i64)) hu hsz hc (by rw [List.length_map];exact hn) hsrc (by simp;omega) (by intro v hv;obtain⟨x,_,rfl⟩ :=List.mem_map.1 hv;rfl)
 unfold Oper.wp
 rw [List.length_map] at hrun
 simp [execOp,ho,resolve,invoke,builtin,hd,hs,hrun,Result.andThen]
 refine hK _ _ (h _ ?_ ((bW.refl _ _).uR (by simp) _))
 have:=hput off m hfit
 simpa using this
theorem mI {P : Program}{ops : Array Oper}{o : Oper}{a : Act}{w : World}{K : Act→World→Prop}{Q : Exit→Act→World→Prop}{E : Prop}(hgd : o.guard=none)(d s : Operand)(dT sT : TypeId)
  (ho : o.op= .call {callee:= .builtin .copy,args:= #[d,s],argTypes:= #[dT,sT]}) (elem : TypeId) (hu : P.underlying dT=some (.slice elem)) (hsz : (P.info? elem).map (·.size) =some 1)
  {e : TypeId} {g n c off dLen dCap sLen sCap : Nat} {ad : Addr} {b m : List Int} (hd : a.eval d= .slice (some ⟨g,off,none⟩) dLen dCap) (hs : a.eval s= .slice (some ad) sLen sCap)
  (hown : bF FI e w (.slice (some ⟨g,0,none⟩) n c) b) (hsrc : ∀j v, (m.map (Value.int .i64))[j]? =some v→w.cell? (ad.add j) =some v) (hn : m.length=Nat.min sLen dLen) (hfit : off+m.length≤b.length)
  (h : ∀w',bF FI e w' (.slice (some ⟨g,0,none⟩) n c) (putAt b off m) →bW [g] w w'→K (a.put o.dst (goInt m.length)) w') :
  if Region.wanted o (yielded ops a.tmps) =true then Oper.wp P o a w K Q else E:=by
 have hw : Region.wanted o (yielded ops a.tmps) =true:=by simp [Region.wanted,hgd]
 rw [if_pos hw]
 obtain⟨cur,hc,hcb,hput⟩ :=hown.uQ
 have hrun:=run_copy_row (P:=P) w dT sT o.type elem g off dLen dCap ad sLen sCap cur e (m.map (Value.int .i64)) hu hsz hc (by rw [List.length_map];exact hn) hsrc (by simp;omega) (by intro v hv;obtain⟨x,_,rfl⟩ :=List.mem_map.1 hv;rfl)
 unfold Oper.wp
 rw [List.length_map] at hrun
 simp [execOp,ho,resolve,invoke,builtin,hd,hs,hrun,Result.andThen]
 refine h _ ?_ ((bW.refl _ _).uR (by simp) _)
 have:=hput off m hfit
 simpa using this
set_option maxRecDepth 100000 in
set_option maxHeartbeats 1000000 in
theorem AZ (w : World) : Calls Try.prog 60 #[.int .u64 1, .int .u64 6] w fun e w'=>e= .returned (.tuple #[.int .u64 0, .int .u64 6]) ∧w=w':=by
 go_enter Try.func60,Try.ntmps60
 go_wp2
 go_ret2
 exact⟨rfl,rfl⟩
set_option maxRecDepth 100000 in
set_option maxHeartbeats 8000000 in
theorem zk (w : World)(g : Nat)(h : w.cell? ⟨g,0,none⟩ =some (.int .i64 (-1)))(hg : g<w.heap.size) : Calls Try.prog 32 #[.slice (some ⟨g,0,none⟩) 1 1, .int .i64 6] w fun e w'=> ∃A : Nat,e= .returned (.slice (some ⟨A,0,none⟩) 6 6) ∧bF FI 3 w' (.slice (some ⟨A,0,none⟩) 6 6) (List.replicate 6 (-1)) ∧w.heap.size≤A∧Below w.heap.size w w':=by
 have hmk : ∀w, (Instr.makeSlice 24 (.int .i64 6) (.int .i64 6)).run Try.prog w= .ok (.slice (some ⟨w.heap.size,0,none⟩) 6 6) (w.alloc (.cells (madeCells #[.int .i64 0] (6 * FI.n)) 3)) :=jT (P:=Try.prog) FI 24 3 (.int .i64 0) 8 Try.underlying24 Try.infoInt 6 (by omega) (by omega)
 go_enter Try.func32,Try.ntmps32
 go_upto_region 7 with (go_at_call 60;refine(AZ _).mono ?_;rintro e wv ⟨rfl,rfl⟩)
 have hsrc : ∀j v, (([-1] : List Int).map (Value.int .i64))[j]? =some v→ (w.alloc (.cells (madeCells #[.int .i64 0] (6 * FI.n)) 3)).cell? ((⟨g,0,none⟩ : Addr).add j) =some v:=by
  intro j v hj
  rcases j with _|j
  ·simp at hj
   subst hj
   exact(oU w _ g 0 hg).trans h
  ·simp at hj
 have oM:=bF.made FI #[.int .i64 0] rfl 6 (by simp [maxLen]) w 3
 have vQ:=Hid.aD hsrc
 clear hsrc hmk
 have hB0 : Below w.heap.size w (w.alloc (.cells (madeCells #[.int .i64 0] (6 * FI.n)) 3)) :=dn
 go_wp2_with (refine uE rfl _ _ 24 24 rfl 3 Try.underlying24 (by kernel_rfl) (g:=w.heap.size) (off:=0) (ad:= ⟨g,0,none⟩) (m:= [-1]) (b:=List.replicate 6 0) rfl rfl oM vQ.out rfl (by simp) ?_;intro w5 oN hx)
 have rM:=hB0.trans (hx.below (by simp) (by simp))
 clear hx hB0 vQ oM h
 have oQ : bF FI 3 w5 (.slice (some ⟨w.heap.size,0,none⟩) 6 6) (List.replicate 1 (-1) ++List.replicate (6 - 1) 0) :=oN
 clear oN
 obtain⟨A,hA⟩ : ∃A,A=w.heap.size:= ⟨_,rfl⟩
 rw [←hA] at oQ⊢
 have Gq : w.heap.size≤A:=by omega
 clear hA
 go_loopw [8] (fun i wr=> ∃k : Nat, (k=1∨k=2∨k=4∨k=6) ∧i= .int .i64 k∧bF FI 3 wr (.slice (some ⟨A,0,none⟩) 6 6) (List.replicate k (-1) ++List.replicate (6 - k) 0) ∧Below w.heap.size w wr) (fun i _=>6 - (intOf i).toNat)
 case atStart=>exact⟨1,by omega,rfl,oQ,rM⟩
 case round=>
  clear oQ rM
  obtain⟨k,hk,rfl,oQ,hB⟩ :=hrel
  rcases hk with rfl|rfl|rfl|rfl
  ·have oD : bF FI 3 wr.drew (.slice (some ⟨A,0,none⟩) 6 6) (List.replicate 1 (-1) ++List.replicate (6 - 1) 0) :=oQ.keep (fun _ _=>rfl)
   have hsrc : ∀j v, (([-1] : List Int).map (Value.int .i64))[j]? =some v→wr.drew.cell? ((⟨A,0,none⟩ : Addr).add j) =some v:=by
    intro j v hj
    have e : (⟨A,0,none⟩ : Addr).add j= ⟨A,j,none⟩ :=by simp [Addr.add]<;>omega
    rw [e]
    have hc:=fun (i : Nat) (y : Int) (hy : (List.replicate 1 (-1 : Int) ++List.replicate (6 - 1) 0)[i]? =some y) =>oD.cell_ hy FI.pos
    simp only [FI,Nat.mul_one,Nat.add_zero] at hc
    have hj2 : j<1:=by
     have:= (List.getElem?_eq_some_iff.1 hj).1
     simpa using this
    have h1:=hc j (-1) (by(repeat (rcases j with _|j;rfl));omega)
    have h2 : v= .int .i64 (-1) :=by
     (repeat (rcases j with _|j;simp at hj;exact hj.symm));omega
    rw [h2]
    exact h1
   have vQ:=Hid.aD hsrc
   clear hsrc
   go_wp2_with fail
   go_region_law (refine mI rfl (.tmp 41) (.tmp 44) 24 24 rfl 3 Try.underlying24 (by kernel_rfl) (g:=A) (off:=1) (dLen:=5) (dCap:=5) (sLen:=1) (sCap:=6) (ad:= ⟨A,0,none⟩) (m:= [-1]) (b:=List.replicate 1 (-1) ++List.replicate (6 - 1) 0) (by simp [Act.eval,Act.put]) (by simp [Act.eval,Act.put]) oD vQ.out rfl (by simp) ?_;intro w5 oN hx)
   all_goals
    have rM:=hB.drew.trans (hx.below hB.size (by simp;omega))
    go_wp2_with fail
    go_roundw
    case rel=>exact⟨.int .i64 2,_,_,_,_,_,_,_,_,_,_,_,_,_, ⟨2,by omega,rfl,oN,rM⟩,rfl⟩
    case measure=>
     show 6 - (2 : Int).toNat<5
     decide
  ·have oD : bF FI 3 wr.drew (.slice (some ⟨A,0,none⟩) 6 6) (List.replicate 2 (-1) ++List.replicate (6 - 2) 0) :=oQ.keep (fun _ _=>rfl)
   have hsrc : ∀j v, (([-1, -1] : List Int).map (Value.int .i64))[j]? =some v→wr.drew.cell? ((⟨A,0,none⟩ : Addr).add j) =some v:=by
    intro j v hj
    have e : (⟨A,0,none⟩ : Addr).add j= ⟨A,j,none⟩ :=by simp [Addr.add]<;>omega
    rw [e]
    have hc:=fun (i : Nat) (y : Int) (hy : (List.replicate 2 (-1 : Int) ++List.replicate (6 - 2) 0)[i]? =some y) =>oD.cell_ hy FI.pos
    simp only [FI,Nat.mul_one,Nat.add_zero] at hc
    have hj2 : j<2:=by
     have:= (List.getElem?_eq_some_iff.1 hj).1
     simpa using this
    have h1:=hc j (-1) (by(repeat (rcases j with _|j;rfl));omega)
    have h2 : v= .int .i64 (-1) :=by
     (repeat (rcases j with _|j;simp at hj;exact hj.symm));omega
    rw [h2]
    exact h1
   have vQ:=Hid.aD hsrc
   clear hsrc
   go_wp2_with fail
   go_region_law (refine mI rfl (.tmp 41) (.tmp 44) 24 24 rfl 3 Try.underlying24 (by kernel_rfl) (g:=A) (off:=2) (dLen:=4) (dCap:=4) (sLen:=2) (sCap:=6) (ad:= ⟨A,0,none⟩) (m:= [-1, -1]) (b:=List.replicate 2 (-1) ++List.replicate (6 - 2) 0) (by simp [Act.eval,Act.put]) (by simp [Act.eval,Act.put]) oD vQ.out rfl (by simp) ?_;intro w5 oN hx)
   all_goals
    have rM:=hB.drew.trans (hx.below hB.size (by simp;omega))
    go_wp2_with fail
    go_roundw
    case rel=>exact⟨.int .i64 4,_,_,_,_,_,_,_,_,_,_,_,_,_, ⟨4,by omega,rfl,oN,rM⟩,rfl⟩
    case measure=>
     show 6 - (4 : Int).toNat<4
     decide
  ·have oD : bF FI 3 wr.drew (.slice (some ⟨A,0,none⟩) 6 6) (List.replicate 4 (-1) ++List.replicate (6 - 4) 0) :=oQ.keep (fun _ _=>rfl)
   have hsrc : ∀j v, (([-1, -1] : List Int).map (Value.int .i64))[j]? =some v→wr.drew.cell? ((⟨A,0,none⟩ : Addr).add j) =some v:=by
    intro j v hj
    have e : (⟨A,0,none⟩ : Addr).add j= ⟨A,j,none⟩ :=by simp [Addr.add]<;>omega
    rw [e]
    have hc:=fun (i : Nat) (y : Int) (hy : (List.replicate 4 (-1 : Int) ++List.replicate (6 - 4) 0)[i]? =some y) =>oD.cell_ hy FI.pos
    simp only [FI,Nat.mul_one,Nat.add_zero] at hc
    have hj2 : j<2:=by
     have:= (List.getElem?_eq_some_iff.1 hj).1
     simpa using this
    have h1:=hc j (-1) (by(repeat (rcases j with _|j;rfl));omega)
    have h2 : v= .int .i64 (-1) :=by
     (repeat (rcases j with _|j;simp at hj;exact hj.symm));omega
    rw [h2]
    exact h1
   have vQ:=Hid.aD hsrc
   clear hsrc
   go_wp2_with fail
   go_region_law (refine mI rfl (.tmp 41) (.tmp 44) 24 24 rfl 3 Try.underlying24 (by kernel_rfl) (g:=A) (off:=4) (dLen:=2) (dCap:=2) (sLen:=4) (sCap:=6) (ad:= ⟨A,0,none⟩) (m:= [-1, -1]) (b:=List.replicate 4 (-1) ++List.replicate (6 - 4) 0) (by simp [Act.eval,Act.put]) (by simp [Act.eval,Act.put]) oD vQ.out rfl (by simp) ?_;intro w5 oN hx)
   all_goals
    have rM:=hB.drew.trans (hx.below hB.size (by simp;omega))
    go_wp2_with fail
    go_roundw
    case rel=>exact⟨.int .i64 6,_,_,_,_,_,_,_,_,_,_,_,_,_, ⟨6,by omega,rfl,oN,rM⟩,rfl⟩
    case measure=>
     show 6 - (6 : Int).toNat<2
     decide
  ·go_wp2
   go_ret
   exact⟨A,rfl,by simpa using oQ,by omega,hB⟩
end Go.Proofs.Ytkmggglljkmjoaa
namespace Go.Proofs.Ytkmggglljkmjoaa
open Go.RowKit
set_option maxRecDepth 100000 in
set_option maxHeartbeats 2000000 in
theorem xH (w : World) : Calls Try.prog 14 #[] w fun e w'=> ∃H' : dA,e= .returned (.agg #[.slice H'.Y.a H'.Y.l H'.Y.c, .slice H'.Z.a H'.Z.l H'.Z.c]) ∧eT w' H' yK∧ (∀g∈H'.foot,w.heap.size≤g) ∧Below w.heap.size w w':=by
 have hmk : ∀w, (Instr.makeSlice 24 (.int .i64 384) (.int .i64 384)).run Try.prog w= .ok (.slice (some ⟨w.heap.size,0,none⟩) 384 384) (w.alloc (.cells (madeCells #[.int .i64 0] (384 * FI.n)) 3)) :=jT (P:=Try.prog) FI 24 3 (.int .i64 0) 8 Try.underlying24 Try.infoInt 384 (by omega) (by omega)
 obtain⟨w0,hW0⟩ : ∃x,x= (w.alloc (.cells #[.slice none 0 0, .slice none 0 0] 26)) := ⟨_,rfl⟩
 have au : aJ w0 (w.heap.size) [.slice none 0 0, .slice none 0 0]:=by
  rw [hW0]
  exact aJ.nw
 have hB : Below w.heap.size w w0:=by
  rw [hW0]
  exact dn
 go_enter Try.func14,Try.ntmps14
 go_wp2_with fail
 rw [←hW0]
 clear hW0
 have ji:=au.lt
 obtain⟨aA,aB,aI,aU⟩ :=au.f2
 go_region_with (go_at_call 32;refine(zk _ _ ?h1 ?h2).mono ?_; (case h1=> (simp [go_sem]<;>omega)); (case h2=> (simp<;>omega));rintro e wq ⟨A,rfl,oA,hA,hb⟩;have xI : aJ wq w.heap.size [.slice none 0 0, .slice none 0 0]:= (by first|with_reducible exact((au.alloc _).alloc _).below hb|with_reducible exact(au.alloc _).below hb|with_reducible exact((au.alloc _).alloc _).drew.below hb|with_reducible exact(au.alloc _).drew.below hb);replace aA:=xI.cell 0 _ rfl;replace aB:=xI.cell 1 _ rfl;replace aI:=xI.fP;replace aU:=xI.lt;clear au)
 ·have BH:= (bF.made FI #[.int .i64 0] rfl 384 (by simp [maxLen]) w0 3).aN (.cells #[.int .i64 (-1)] 3)
  have CS : bF FI 3 ((w0.alloc (.cells (madeCells #[.int .i64 0] (384 * FI.n)) 3)).alloc (.cells #[.int .i64 (-1)] 3)).drew (.slice (some ⟨w0.heap.size,0,none⟩) 384 384) (List.replicate 384 0) :=by
   exact BH.keep (fun _ _=>rfl)
  have oB:=CS.step0 hb
  have CU : Below w.heap.size w wq:= (((hB.alloc hB.size _).alloc (by simp;omega) _).drew).trans (hb.mono (by simp;omega))
  have hA2 : w0.heap.size+2≤A:=by simpa using hA
  have br:=xI
  go_wp2_with fail
  have r0:= ((br.set 0 (.slice (some ⟨w0.heap.size,0,none⟩) 384 384)).set 1 (.slice (some ⟨A,0,none⟩) 6 6)).cell 0 _ rfl
  have r1:= ((br.set 0 (.slice (some ⟨w0.heap.size,0,none⟩) 384 384)).set 1 (.slice (some ⟨A,0,none⟩) 6 6)).cell 1 _ rfl
  exact bodyPost_ret (v:= .agg #[.slice (some ⟨w0.heap.size,0,none⟩) 384 384, .slice (some ⟨A,0,none⟩) 6 6]) (by simp [results,Try.results14,go_sem,r0,r1]) rfl ⟨⟨⟨some ⟨w0.heap.size,0,none⟩,384,384⟩, ⟨some ⟨A,0,none⟩,6,6⟩⟩,rfl, ⟨oB.bn (F:= [w.heap.size]) bV (fun b hb hm=>by simp [bL,SV.val,Value.ownBlock] at hb hm;omega),oA.bn (F:= [w.heap.size]) bV (fun b hb hm=>by simp [bL,SV.val,Value.ownBlock] at hb hm;omega),fun b hb hm=>by simp [bL,SV.val,Value.ownBlock] at hb hm;omega⟩,fun b hb=>by(simp [dA.foot,bL,SV.val,Value.ownBlock] at hb;omega),Below.trans CU fJ⟩
 ·have BH:=bF.made FI #[.int .i64 0] rfl 384 (by simp [maxLen]) (w0.alloc (.cells #[.int .i64 (-1)] 3)) 3
  have CS : bF FI 3 ((w0.alloc (.cells #[.int .i64 (-1)] 3)).alloc (.cells (madeCells #[.int .i64 0] (384 * FI.n)) 3)).drew (.slice (some ⟨w0.heap.size+1,0,none⟩) 384 384) (List.replicate 384 0) :=by
   simp only [World.size_alloc] at BH
   exact BH.keep (fun _ _=>rfl)
  have oB:=CS.step0 hb
  have CU : Below w.heap.size w wq:= (((hB.alloc hB.size _).alloc (by simp;omega) _).drew).trans (hb.mono (by simp;omega))
  have hA2 : w0.heap.size+2≤A:=by simpa using hA
  have br:=xI
  go_wp2_with fail
  have r0:= ((br.set 0 (.slice (some ⟨w0.heap.size+1,0,none⟩) 384 384)).set 1 (.slice (some ⟨A,0,none⟩) 6 6)).cell 0 _ rfl
  have r1:= ((br.set 0 (.slice (some ⟨w0.heap.size+1,0,none⟩) 384 384)).set 1 (.slice (some ⟨A,0,none⟩) 6 6)).cell 1 _ rfl
  exact bodyPost_ret (v:= .agg #[.slice (some ⟨w0.heap.size+1,0,none⟩) 384 384, .slice (some ⟨A,0,none⟩) 6 6]) (by simp [results,Try.results14,go_sem,r0,r1]) rfl ⟨⟨⟨some ⟨w0.heap.size+1,0,none⟩,384,384⟩, ⟨some ⟨A,0,none⟩,6,6⟩⟩,rfl, ⟨oB.bn (F:= [w.heap.size]) bV (fun b hb hm=>by simp [bL,SV.val,Value.ownBlock] at hb hm;omega),oA.bn (F:= [w.heap.size]) bV (fun b hb hm=>by simp [bL,SV.val,Value.ownBlock] at hb hm;omega),fun b hb hm=>by simp [bL,SV.val,Value.ownBlock] at hb hm;omega⟩,fun b hb=>by(simp [dA.foot,bL,SV.val,Value.ownBlock] at hb;omega),Below.trans CU fJ⟩
 ·have e2 : ((wq.setCell ⟨w.heap.size,0,none⟩ (.slice (some ⟨wq.heap.size,0,none⟩) 384 384)).setCell ⟨w.heap.size,1,none⟩ (.slice (some ⟨A,0,none⟩) 6 6)).heap.size=wq.heap.size:=by simp
  have oB:=bF.made FI #[.int .i64 0] rfl 384 (by simp [maxLen]) ((wq.setCell ⟨w.heap.size,0,none⟩ (.slice (some ⟨wq.heap.size,0,none⟩) 384 384)).setCell ⟨w.heap.size,1,none⟩ (.slice (some ⟨A,0,none⟩) 6 6)) 3
  rw [e2] at oB
  have hBw : Below w.heap.size w wq:= (((hB.alloc hB.size (.cells #[.int .i64 (-1)] 3)).drew).trans (hb.mono (by simp;omega)))
  have hA2 : w0.heap.size+1≤A:=by simpa using hA
  have hA3 : A<wq.heap.size:=dQ oA A (by simp [bL,Value.ownBlock])
  replace oA:= (oA.bn (F:= [w.heap.size]) (w':= ((wq.setCell ⟨w.heap.size,0,none⟩ (.slice (some ⟨wq.heap.size,0,none⟩) 384 384)).setCell ⟨w.heap.size,1,none⟩ (.slice (some ⟨A,0,none⟩) 6 6))) bV (fun b hb hm=>by simp [bL,Value.ownBlock] at hb hm;omega)).aN (.cells (madeCells #[.int .i64 0] (384 * FI.n)) 3)
  have br:= ((xI.set 0 (.slice (some ⟨wq.heap.size,0,none⟩) 384 384)).set 1 (.slice (some ⟨A,0,none⟩) 6 6)).alloc (.cells (madeCells #[.int .i64 0] (384 * FI.n)) 3)
  go_wp2_with fail
  have r0:=br.cell 0 _ rfl
  have r1:=br.cell 1 _ rfl
  exact bodyPost_ret (v:= .agg #[.slice (some ⟨wq.heap.size,0,none⟩) 384 384, .slice (some ⟨A,0,none⟩) 6 6]) (by simp [results,Try.results14,go_sem,r0,r1]) rfl ⟨⟨⟨some ⟨wq.heap.size,0,none⟩,384,384⟩, ⟨some ⟨A,0,none⟩,6,6⟩⟩,rfl, ⟨oB,oA,fun b hb hm=>by simp [bL,SV.val,Value.ownBlock] at hb hm;omega⟩,fun b hb=>by(simp [dA.foot,bL,SV.val,Value.ownBlock] at hb;omega),Below.trans hBw fJ⟩
end Go.Proofs.Ytkmggglljkmjoaa
namespace Go.Proofs.Ytkmggglljkmjoaa
open Go.RowKit
set_option maxRecDepth 100000 in
set_option maxHeartbeats 1000000 in
theorem yj (w : World) : Calls Try.prog 5 #[] w fun e w'=> ∃H' : bY,e= .returned (H'.val lU) ∧eX w' H' lU∧ (∀g∈H'.foot,w.heap.size≤g) ∧Below w.heap.size w w':=by
 obtain⟨w0,hW0⟩ : ∃x,x= (w.alloc (.cells #[.slice none 0 0, .slice none 0 0, .slice none 0 0, .slice none 0 0] 31)) := ⟨_,rfl⟩
 have au : aJ w0 (w.heap.size) [.slice none 0 0, .slice none 0 0, .slice none 0 0, .slice none 0 0]:=by
  rw [hW0]
  exact aJ.nw
 have hB : Below w.heap.size w w0:=by
  rw [hW0]
  exact dn
 go_enter Try.func5,Try.ntmps5
 go_wp2_with fail
 rw [←hW0]
 clear hW0
 have ji:=au.lt
 obtain⟨aA,aB,aL,aM,aI,aU⟩ :=au.f4
 refine(xH _).mono ?_
 rintro e w1 ⟨Hh,rfl,BI,DZ,hb⟩
 have D5:=BI.lt
 replace au:=au.below hb
 replace hB:=hB.trans (hb.mono hB.size)
 have sz:=hb.size
 clear hb
 clear aA aB aL aM aI aU
 obtain⟨aA,aB,aL,aM,aI,aU⟩ :=au.f4
 go_wp2_with fail
 refine(vX _).mono ?_
 rintro e w2 ⟨Hl,rfl,bf,dB,hb⟩
 have iG:=bf.lt
 replace au:=au.below hb
 have BI:=BI.step0 hb
 replace hB:=hB.trans (hb.mono hB.size)
 have sz:=hb.size
 clear hb
 clear aA aB aL aM aI aU
 obtain⟨aA,aB,aL,aM,aI,aU⟩ :=au.f4
 go_wp2_with fail
 refine bodyPost_ret (v:= (⟨Hh,Hl⟩ : bY).val lU) (by simp [results,Try.results5,go_sem,aA,aB,aL,aM]) rfl ⟨⟨Hh,Hl⟩,rfl, ⟨BI.bn (F:= [w.heap.size]) bV (fun g hg hm=>by simp only [List.mem_cons,List.not_mem_nil,or_false] at hm;have:=DZ g hg;have:=D5 g hg;omega),bf.bn (F:= [w.heap.size]) bV (fun g hg hm=>by simp only [List.mem_cons,List.not_mem_nil,or_false] at hm;have:=dB g hg;have:=iG g hg;omega),fun b hb hm=>by have:=dB b hm;have:=D5 b hb;omega⟩,fun b hb=>by rcases bY.aZ.1 hb with hb|hb; (have:=DZ b hb;omega); (have:=dB b hb;omega),Below.trans hB fJ⟩
end Go.Proofs.Ytkmggglljkmjoaa
