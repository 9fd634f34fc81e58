/- m -/
import Derived.Test.YtkmggglljkmjoaaGreatUHRanges16
import Derived.Test.YtkmggglljkmjoaaGreatUHRanges19
set_option maxRecDepth 100000
set_option maxHeartbeats 4000000
namespace Go.Proofs.YtkmggglljkmjoaaGreat
open Go.RowKit
theorem JQ (w : World)(H : eX)(x : Heap)(s : Int)(h : iW w w.heap.size H x) :
  Calls Tryz.prog 29 #[.agg #[.slice H.Y.a H.Y.l H.Y.c, .slice H.Z.a H.Z.l H.Z.c], .int .i64 s] w fun e w'=>e= .returned (.int .i64 (nM x s)) ∧Below w.heap.size w w':=by
 have k0:=fun (W : World) (hW : Below w.heap.size w W) =>wQ W H x (fT h hW);have k1:=fun (W : World) (hW : Below w.heap.size w W) hsh=>nk W H x s (fT h hW) hsh;have HV : Hid (nM x s=if fJ x=true then aG x s else -1) :=Hid.aD rfl;generalize fJ x=c0 at k0 k1 HV;generalize aG x s=v at k1 HV;cases c0 with
 |false=>
  replace HV : Hid (nM x s= -1) :=Hid.aD HV.out;obtain⟨w0,hW0⟩ : ∃x,x= (w.alloc (.cells #[.slice H.Y.a H.Y.l H.Y.c, .slice H.Z.a H.Z.l H.Z.c] 26)) := ⟨_,rfl⟩;have ah : aJ w0 (w.heap.size) [.slice H.Y.a H.Y.l H.Y.c, .slice H.Z.a H.Z.l H.Z.c]:=by
   rw [hW0];exact aJ.nw
  have hB : Below w.heap.size w w0:=by
   rw [hW0];exact cO
  go_enter Tryz.func29,Tryz.ntmps29;go_wp2_with fail;rw [←hW0];clear hW0;have jA:=ah.lt;obtain⟨aL,aN,aT,bE⟩ :=ah.f2;refine(k0 _ hB).mono ?_;rintro e w1 ⟨rfl,hb⟩;replace ah:=ah.below hb;replace hB:=hB.trans (hb.mono hB.size);have sz:=hb.size;clear hb;clear aL aN aT bE;obtain⟨aL,aN,aT,bE⟩ :=ah.f2;clear k0;go_wp2_with fail;go_ret;exact⟨cB HV.out.symm,by first|exact hB|exact hB.drew⟩
 |true=>
  replace HV : Hid (nM x s=v) :=Hid.aD HV.out;obtain⟨w0,hW0⟩ : ∃x,x= (w.alloc (.cells #[.slice H.Y.a H.Y.l H.Y.c, .slice H.Z.a H.Z.l H.Z.c] 26)) := ⟨_,rfl⟩;have ah : aJ w0 (w.heap.size) [.slice H.Y.a H.Y.l H.Y.c, .slice H.Z.a H.Z.l H.Z.c]:=by
   rw [hW0];exact aJ.nw
  have hB : Below w.heap.size w w0:=by
   rw [hW0];exact cO
  go_enter Tryz.func29,Tryz.ntmps29;go_wp2_with fail;rw [←hW0];clear hW0;have jA:=ah.lt;obtain⟨aL,aN,aT,bE⟩ :=ah.f2;refine(k0 _ hB).mono ?_;rintro e w1 ⟨rfl,hb⟩;replace ah:=ah.below hb;replace hB:=hB.trans (hb.mono hB.size);have sz:=hb.size;clear hb;clear aL aN aT bE;obtain⟨aL,aN,aT,bE⟩ :=ah.f2;clear k0;go_wp2_with fail;refine(k1 _ hB trivial).mono ?_;rintro e w2 ⟨rfl,hb⟩;replace ah:=ah.below hb;replace hB:=hB.trans (hb.mono hB.size);have sz:=hb.size;clear hb;clear aL aN aT bE;obtain⟨aL,aN,aT,bE⟩ :=ah.f2;clear k1;go_wp2_with fail;go_ret;exact⟨cB HV.out.symm,by first|exact hB|exact hB.drew⟩
theorem KP {x : Heap}{s : Int}(h : ¬ nM x s<0) : fJ x=true∧ ¬ aG x s<0∧nM x s=aG x s:=by
 unfold nM at h⊢;by_cases c : fJ x=true
 ·rw [if_pos c] at h⊢
  exact⟨c,h,rfl⟩
 ·rw [if_neg c] at h
  exact absurd (by decide) h
def nV (x : Base) : Nat→List Int
 |0=> [0,0,0,0,0]
 |k+1=> (nV x k).set (lK x (k : Int)).toNat ((nV x k).getD (lK x (k : Int)).toNat 0+1)
def mW (x : Base) : List Int:=if gT x=true then nV x 24 else [0,0,0,0,0]
theorem uM (x : Base) : ∀k, (nV x k).length=5
 |0=>rfl
 |k+1=>by simp [nV,uM x k]
theorem FJ (x : Base) : ∀ (k j : Nat),0≤ (nV x k).getD j 0∧ (nV x k).getD j 0≤k
 |0,j=>by
  rcases j with _|_|_|_|_|j<;>simp [nV]
 |k+1,j=>by
  have h:=FJ x k j;unfold nV;by_cases e : (lK x (k : Int)).toNat=j
  ·rw [e]
   by_cases hj : j< (nV x k).length
   ·have e2 : ((nV x k).set j ((nV x k).getD j 0+1)).getD j 0= (nV x k).getD j 0+1:=by
     rw [List.getD,X9 hj];rfl
    rw [e2];omega
   ·rw [List.set_eq_of_length_le (by omega)]
    omega
  ·simp [List.getD,List.getElem?_set_ne e] at h⊢
   omega
theorem J3 (x : Base)(s : Int) : 0≤lK x s∧lK x s≤4:=by
 unfold lK;have:=OA x.Mem s
 repeat' split
 all_goals omega
theorem BQ (x : Base)(s : Int) : ∃j : Nat,j<5∧lK x s= (j : Int) := ⟨(lK x s).toNat,by have:=J3 x s;omega,by have:=J3 x s;omega⟩
theorem BR {x : Base}{k j : Nat}(h : lK x (k : Int) = (j : Int)) : nV x (k+1) = (nV x k).set j ((nV x k).getD j 0+1) :=by
 rw [nV,h,X6]
theorem O8 (x : Base)(k : Nat){j : Nat}(hj : j<5) : (nV x k)[j]? =some ((nV x k).getD j 0) :=by
 have:=uM x k;simp [List.getD,this,hj]
theorem GA (x : Base) : (mW x).length=5:=by
 unfold mW;split
 ·exact uM x 24
 ·rfl
theorem ET (w : World)(H : aA)(x : Base)(h : nu w w.heap.size H x)(hs : fO x.aB≤536870912) :
  Calls Tryz.prog 13 #[.agg #[.slice H.Mem.E.Y.a H.Mem.E.Y.l H.Mem.E.Y.c, .slice H.Mem.E.Z.a H.Mem.E.Z.l H.Mem.E.Z.c, .slice H.Mem.I.G.a H.Mem.I.G.l H.Mem.I.G.c, .slice H.Mem.I.O.a H.Mem.I.O.l H.Mem.I.O.c, .int .i64 x.Clock.Epoch, .slice H.Clock.aK.a H.Clock.aK.l H.Clock.aK.c, .slice H.aB.a H.aB.l H.aB.c, .slice H.bf.a H.bf.l H.bf.c]] w fun e w'=> ∃v',e= .returned v'∧aX FI 3 w' v' (mW x) ∧ (∀g∈bq v',w.heap.size≤g) ∧Below w.heap.size w w':=by
 have hmk : ∀w, (Instr.makeSlice 24 (.int .i64 5) (.int .i64 5)).run Tryz.prog w= .ok (.slice (some ⟨w.heap.size,0,none⟩) 5 5) (w.alloc (.cells (madeCells #[.int .i64 0] (5 * FI.n)) 3)) :=lM (P:=Tryz.prog) FI 24 3 (.int .i64 0) 8 Tryz.underlying24 Tryz.infoInt 5 (by omega) (by omega);have jL : aJ (w.alloc (.cells #[.slice H.Mem.E.Y.a H.Mem.E.Y.l H.Mem.E.Y.c, .slice H.Mem.E.Z.a H.Mem.E.Z.l H.Mem.E.Z.c, .slice H.Mem.I.G.a H.Mem.I.G.l H.Mem.I.G.c, .slice H.Mem.I.O.a H.Mem.I.O.l H.Mem.I.O.c, .int .i64 x.Clock.Epoch, .slice H.Clock.aK.a H.Clock.aK.l H.Clock.aK.c, .slice H.aB.a H.aB.l H.aB.c, .slice H.bf.a H.bf.l H.bf.c] 37)) w.heap.size [.slice H.Mem.E.Y.a H.Mem.E.Y.l H.Mem.E.Y.c, .slice H.Mem.E.Z.a H.Mem.E.Z.l H.Mem.E.Z.c, .slice H.Mem.I.G.a H.Mem.I.G.l H.Mem.I.G.c, .slice H.Mem.I.O.a H.Mem.I.O.l H.Mem.I.O.c, .int .i64 x.Clock.Epoch, .slice H.Clock.aK.a H.Clock.aK.l H.Clock.aK.c, .slice H.aB.a H.aB.l H.aB.c, .slice H.bf.a H.bf.l H.bf.c]:=aJ.new w #[.slice H.Mem.E.Y.a H.Mem.E.Y.l H.Mem.E.Y.c, .slice H.Mem.E.Z.a H.Mem.E.Z.l H.Mem.E.Z.c, .slice H.Mem.I.G.a H.Mem.I.G.l H.Mem.I.G.c, .slice H.Mem.I.O.a H.Mem.I.O.l H.Mem.I.O.c, .int .i64 x.Clock.Epoch, .slice H.Clock.aK.a H.Clock.aK.l H.Clock.aK.c, .slice H.aB.a H.aB.l H.aB.c, .slice H.bf.a H.bf.l H.bf.c] _;have hB0 : Below w.heap.size w (w.alloc (.cells #[.slice H.Mem.E.Y.a H.Mem.E.Y.l H.Mem.E.Y.c, .slice H.Mem.E.Z.a H.Mem.E.Z.l H.Mem.E.Z.c, .slice H.Mem.I.G.a H.Mem.I.G.l H.Mem.I.G.c, .slice H.Mem.I.O.a H.Mem.I.O.l H.Mem.I.O.c, .int .i64 x.Clock.Epoch, .slice H.Clock.aK.a H.Clock.aK.l H.Clock.aK.c, .slice H.aB.a H.aB.l H.aB.c, .slice H.bf.a H.bf.l H.bf.c] 37)) :=cO;have qN : aX FI 3 ((w.alloc (.cells #[.slice H.Mem.E.Y.a H.Mem.E.Y.l H.Mem.E.Y.c, .slice H.Mem.E.Z.a H.Mem.E.Z.l H.Mem.E.Z.c, .slice H.Mem.I.G.a H.Mem.I.G.l H.Mem.I.G.c, .slice H.Mem.I.O.a H.Mem.I.O.l H.Mem.I.O.c, .int .i64 x.Clock.Epoch, .slice H.Clock.aK.a H.Clock.aK.l H.Clock.aK.c, .slice H.aB.a H.aB.l H.aB.c, .slice H.bf.a H.bf.l H.bf.c] 37)).alloc (.cells (madeCells #[.int .i64 0] (5 * FI.n)) 3)) (.slice (some ⟨w.heap.size+1,0,none⟩) 5 5) [0,0,0,0,0]:=by
  have ho:=aX.made FI #[.int .i64 0] rfl 5 (by simp [maxLen]) (w.alloc (.cells #[.slice H.Mem.E.Y.a H.Mem.E.Y.l H.Mem.E.Y.c, .slice H.Mem.E.Z.a H.Mem.E.Z.l H.Mem.E.Z.c, .slice H.Mem.I.G.a H.Mem.I.G.l H.Mem.I.G.c, .slice H.Mem.I.O.a H.Mem.I.O.l H.Mem.I.O.c, .int .i64 x.Clock.Epoch, .slice H.Clock.aK.a H.Clock.aK.l H.Clock.aK.c, .slice H.aB.a H.aB.l H.aB.c, .slice H.bf.a H.bf.l H.bf.c] 37)) 3;rw [World.size_alloc] at ho;exact ho
 have FK:=jL.alloc (.cells (madeCells #[.int .i64 0] (5 * FI.n)) 3);have yx:=hB0.alloc hB0.size (.cells (madeCells #[.int .i64 0] (5 * FI.n)) 3);have kB:=fun (W : World) (hW : Below w.heap.size w W) =>CB W H x (nU h hW) hs;have kW:=fun (hsh : fJ x.Mem.E=true) (s : Int) (W : World) (hW : Below w.heap.size w W) =>ER W H x s (nU h hW) hsh hs;clear h;clear hB0 jL;by_cases k1 : gT x=true
 case neg=>
  have k1' : gT x=false:= (XM _).mp k1;have HN:=Hid.aD (show mW x= [0,0,0,0,0] from if_neg k1);clear k1;go_enter Tryz.func13,Tryz.ntmps13;go_wp2_with fail;clear hmk;generalize hW0 : ((w.alloc (.cells #[.slice H.Mem.E.Y.a H.Mem.E.Y.l H.Mem.E.Y.c, .slice H.Mem.E.Z.a H.Mem.E.Z.l H.Mem.E.Z.c, .slice H.Mem.I.G.a H.Mem.I.G.l H.Mem.I.G.c, .slice H.Mem.I.O.a H.Mem.I.O.l H.Mem.I.O.c, .int .i64 x.Clock.Epoch, .slice H.Clock.aK.a H.Clock.aK.l H.Clock.aK.c, .slice H.aB.a H.aB.l H.aB.c, .slice H.bf.a H.bf.l H.bf.c] 37)).alloc (.cells (madeCells #[.int .i64 0] (5 * FI.n)) 3)) =w0 at qN FK yx⊢;clear hW0;refine(kB _ yx).mono ?_;rw [k1'];rintro e w1 ⟨rfl,hb⟩;have P7:=qN.keep (fun g hg=>hb.block g (dQ qN g (aS.2 hg)));have jJ:=FK.below hb;have hB1:=yx.trans (hb.mono yx.size);clear hb qN FK yx kB k1';go_wp2_with fail;go_ret;exact⟨_,rfl,by rw [HN.out];exact P7,by simp [bq,Value.ownBlock],hB1⟩
 have HN:=Hid.aD (show mW x=nV x 24 from if_pos k1);have HS:=Hid.aD (wK k1);have k1':=k1;clear k1;go_enter Tryz.func13,Tryz.ntmps13;go_wp2_with fail;clear hmk;generalize hW0 : ((w.alloc (.cells #[.slice H.Mem.E.Y.a H.Mem.E.Y.l H.Mem.E.Y.c, .slice H.Mem.E.Z.a H.Mem.E.Z.l H.Mem.E.Z.c, .slice H.Mem.I.G.a H.Mem.I.G.l H.Mem.I.G.c, .slice H.Mem.I.O.a H.Mem.I.O.l H.Mem.I.O.c, .int .i64 x.Clock.Epoch, .slice H.Clock.aK.a H.Clock.aK.l H.Clock.aK.c, .slice H.aB.a H.aB.l H.aB.c, .slice H.bf.a H.bf.l H.bf.c] 37)).alloc (.cells (madeCells #[.int .i64 0] (5 * FI.n)) 3)) =w0 at qN FK yx⊢;clear hW0;refine(kB _ yx).mono ?_;rw [k1'];rintro e w1 ⟨rfl,hb⟩;have P7:=qN.keep (fun g hg=>hb.block g (dQ qN g (aS.2 hg)));have jJ:=FK.below hb;have hB1:=yx.trans (hb.mono yx.size);clear hb qN FK yx kB k1';go_wp2_with fail;go_loopw [10] (fun i wr=> ∃k : Nat,k≤24∧i= .int .i64 k∧aX FI 3 wr (.slice (some ⟨w.heap.size+1,0,none⟩) 5 5) (nV x k) ∧aJ wr w.heap.size [.slice H.Mem.E.Y.a H.Mem.E.Y.l H.Mem.E.Y.c, .slice H.Mem.E.Z.a H.Mem.E.Z.l H.Mem.E.Z.c, .slice H.Mem.I.G.a H.Mem.I.G.l H.Mem.I.G.c, .slice H.Mem.I.O.a H.Mem.I.O.l H.Mem.I.O.c, .int .i64 x.Clock.Epoch, .slice H.Clock.aK.a H.Clock.aK.l H.Clock.aK.c, .slice H.aB.a H.aB.l H.aB.c, .slice H.bf.a H.bf.l H.bf.c]∧Below w.heap.size w wr) (fun i _=>24 - (intOf i).toNat)
 case atStart=>exact⟨0,X3 _,rfl,P7,jJ,hB1⟩
 case round=>
  obtain⟨k,hk,rfl,ho,ba,hb⟩ :=hrel;clear P7 jJ hB1;by_cases hlt : k<24
  ·obtain⟨j,hj,hst⟩ :=BQ x (k : Int)
   have HC:=Hid.aD (BR hst);have hcg:=O8 x k hj;have hbd:=FJ x k j;have hq:=kW HS.out (k : Int);rw [hst] at hq;clear hst kW;have jR:=ba.cell 0 _ rfl;have jH:=ba.cell 1 _ rfl;have lD:=ba.cell 2 _ rfl;have lF:=ba.cell 3 _ rfl;have BM:=ba.cell 4 _ rfl;have BN:=ba.cell 5 _ rfl;have BO:=ba.cell 6 _ rfl;have BP:=ba.cell 7 _ rfl;have hlb:=ba.lt;generalize (nV x k).getD j 0=v at *
   go_wp2_with fail;refine(hq _ hb).mono ?_;rintro e w2 ⟨rfl,hb2⟩;have RL:=ho.keep (fun g hg=>hb2.block g (dQ ho g (aS.2 hg)));have Vi:=ba.below hb2;have hBN:=hb.trans (hb2.mono hb.size);clear hb2 hq ho ba hb;have hf:=RL.dM j;have hx:=RL.cell_ hcg FI.pos;have hset:=RL.dG (y:=v+1) (u:= .int .i64 (v+1)) hcg FI.pos rfl;simp only [FI,Nat.mul_one,Nat.add_zero] at hx;have h1 : aX FI 3 (w2.setCell ⟨w.heap.size+1,j,none⟩ (.int .i64 (v+1))) (.slice (some ⟨w.heap.size+1,0,none⟩) 5 5) ((nV x k).set j (v+1)) :=by
    have h1:=hset;rw [show j * FI.n+0=j by simp [FI]] at h1;exact h1
   have hj' : (j : Int) <5:=by omega
   clear hset;clear jR jH lD lF BM BN BO BP hcg;go_wp2;go_roundw
   case rel=>exact⟨k+1,by omega,by go_num,by rw [HC.out];exact h1,Vi.other (by omega) _,hBN.setCell (by simp) _⟩
   case measure=>simp [intOf];omega
  ·go_wp2
   go_ret;obtain rfl : k=24:=by omega
   exact⟨_,rfl,by rw [HN.out];exact ho,by simp [bq,Value.ownBlock],hb⟩
theorem CW (w : World)(H : eX)(x : Heap)(s g : Int)(h : iW w w.heap.size H x)(hs : kE x≤536870912)(g1 : 1≤g)(g7 : g≤7) :
  Calls Tryz.prog 224 #[.agg #[.slice H.Y.a H.Y.l H.Y.c, .slice H.Z.a H.Z.l H.Z.c], .int .i64 s, .int .i64 g] w fun e w'=> ∃ (H' : eX) (y : Heap) (b : Bool),e= .returned (.tuple #[.agg #[.slice H'.Y.a H'.Y.l H'.Y.c, .slice H'.Z.a H'.Z.l H'.Z.c], .bool b]) ∧fM w' H' y∧ (y.Y.length=x.Y.length∧y.Z.length=x.Z.length) ∧ (∀g∈H'.foot,w.heap.size≤g) ∧Below w.heap.size w w':=by
 have hcp:=fun (W : World) (hW : Below w.heap.size w W) =>yc W H x (fT h hW) (by omega);have hq:=fun (W : World) (hW : Below w.heap.size w W) =>JQ W H x s (fT h hW);have hiw : bG 1 7 g=true:=bH.2 ⟨g1,g7⟩;by_cases c : nM x s<0
 case pos=>
  generalize nM x s=v at hq c;obtain⟨w0,hW0⟩ : ∃x,x= ((w.alloc (.cells #[.slice H.Y.a H.Y.l H.Y.c, .slice H.Z.a H.Z.l H.Z.c] 26)).alloc (.cells #[.slice none 0 0, .slice none 0 0] 26)) := ⟨_,rfl⟩;have ah : aJ w0 (w.heap.size) [.slice H.Y.a H.Y.l H.Y.c, .slice H.Z.a H.Z.l H.Z.c]:=by
   rw [hW0];exact aJ.alloc aJ.nw _
  have aj : aJ w0 (w.heap.size+1) [.slice none 0 0, .slice none 0 0]:=by
   rw [hW0];exact aJ.nw
  have hB : Below w.heap.size w w0:=by
   rw [hW0];exact cO
  go_enter Tryz.func224,Tryz.ntmps224;go_wp2_with fail;rw [←hW0];clear hW0;have jA:=ah.lt;have kL:=aj.lt;obtain⟨aL,aN,aT,bE⟩ :=ah.f2;obtain⟨ak,au,aH,aR⟩ :=aj.f2;refine(hcp _ hB).mono ?_;rintro e w1 ⟨aF,rfl,bB,l_c,hb⟩;have u_c:=bB.lt;replace ah:=ah.below hb;replace aj:=aj.below hb;replace hB:=hB.trans (hb.mono hB.size);have sz:=hb.size;clear hb;clear aL aN aT bE;obtain⟨aL,aN,aT,bE⟩ :=ah.f2;clear ak au aH aR;obtain⟨ak,au,aH,aR⟩ :=aj.f2;clear hcp;go_wp2_with fail;generalize hO : Obj.cells #[.slice aF.Y.a aF.Y.l aF.Y.c, .slice aF.Z.a aF.Z.l aF.Z.c] 26=O_;replace ah:=ah.alloc O_;replace aj:=aj.alloc O_;replace bB:=bB.av O_;replace hB:=hB.alloc hB.size O_;have bJ : aJ (w1.alloc O_) w1.heap.size [.slice aF.Y.a aF.Y.l aF.Y.c, .slice aF.Z.a aF.Z.l aF.Z.c]:=hO ▸ aJ.new _ _ _;have jG:=bJ.lt;have sz : w1.heap.size≤ (w1.alloc O_).heap.size:=X7 bJ.lt;generalize hG : (w1.alloc O_) =w2 at ah aj bB hB bJ jG sz⊢;clear hG hO O_;clear aL aN aT bE;obtain⟨aL,aN,aT,bE⟩ :=ah.f2;clear ak au aH aR;obtain⟨ak,au,aH,aR⟩ :=aj.f2;obtain⟨bO,bQ,dn,dW⟩ :=bJ.f2;refine(hq _ hB).mono ?_;rintro e w3 ⟨rfl,hb⟩;replace ah:=ah.below hb;replace aj:=aj.below hb;replace bJ:=bJ.below hb;have bB:=bB.step0 hb;replace hB:=hB.trans (hb.mono hB.size);have sz:=hb.size;clear hb;clear aL aN aT bE;obtain⟨aL,aN,aT,bE⟩ :=ah.f2;clear ak au aH aR;obtain⟨ak,au,aH,aR⟩ :=aj.f2;clear bO bQ dn dW;obtain⟨bO,bQ,dn,dW⟩ :=bJ.f2;clear hq;go_wp2_with fail;refine bodyPost_ret (v:= .tuple #[.agg #[.slice aF.Y.a aF.Y.l aF.Y.c, .slice aF.Z.a aF.Z.l aF.Z.c], .bool false]) (by simp [results,Tryz.results224,go_sem,ak,au]) rfl ⟨aF,x,false,rfl,bB.aM (F:= [w.heap.size+1]) dx (fun g hg hm=>by simp only [Pe,Pd,XK] at hm;have:=l_c g hg;have:=u_c g hg;omega), ⟨rfl,rfl⟩,fun g hg=>by have:=l_c g hg;omega,Below.trans hB dU⟩
 obtain⟨c1,c2,c3⟩ :=KP c;have hgd:=yQ (jr c1) c2;obtain⟨P,hP⟩ : ∃P : Nat,gP s (aG x s) = (P : Int) := ⟨(gP s (aG x s)).toNat,by omega⟩;have hga:=fun W=>pK s (aG x s) W;rw [hP] at hga hgd;have hcl:=fun (W : World) (hW : Below w.heap.size w W) =>nk W H x s (fT h hW) c1;have PD:=Hid.aD (show P+4≤x.Y.length by omega);have hst : ∀ (W : World) (K : SV),aX FI 3 W K.val x.Y→Calls Tryz.prog 86 #[.slice K.a K.l K.c, .int .i64 (P : Int), .int .i64 4, .int .i64 g] W fun e w'=>e= .returned (.slice K.a K.l K.c) ∧aX FI 3 w' K.val (putAt x.Y P (iZ 4 g)) ∧bn (bq K.val) W w':=fun W K o=>tX W _ x.Y P 4 g o (by decide) (by decide) (by omega) (by omega) PD.out;rw [c3] at hq c;clear hP c1 c2 c3 hgd;generalize aG x s=v at hq hga hcl c;obtain⟨w0,hW0⟩ : ∃x,x= ((w.alloc (.cells #[.slice H.Y.a H.Y.l H.Y.c, .slice H.Z.a H.Z.l H.Z.c] 26)).alloc (.cells #[.slice none 0 0, .slice none 0 0] 26)) := ⟨_,rfl⟩;have ah : aJ w0 (w.heap.size) [.slice H.Y.a H.Y.l H.Y.c, .slice H.Z.a H.Z.l H.Z.c]:=by
  rw [hW0];exact aJ.alloc aJ.nw _
 have aj : aJ w0 (w.heap.size+1) [.slice none 0 0, .slice none 0 0]:=by
  rw [hW0];exact aJ.nw
 have hB : Below w.heap.size w w0:=by
  rw [hW0];exact cO
 go_enter Tryz.func224,Tryz.ntmps224;go_wp2_with fail;rw [←hW0];clear hW0;have jA:=ah.lt;have kL:=aj.lt;obtain⟨aL,aN,aT,bE⟩ :=ah.f2;obtain⟨ak,au,aH,aR⟩ :=aj.f2;refine(hcp _ hB).mono ?_;rintro e w1 ⟨aF,rfl,bB,l_c,hb⟩;have u_c:=bB.lt;replace ah:=ah.below hb;replace aj:=aj.below hb;replace hB:=hB.trans (hb.mono hB.size);have sz:=hb.size;clear hb;clear aL aN aT bE;obtain⟨aL,aN,aT,bE⟩ :=ah.f2;clear ak au aH aR;obtain⟨ak,au,aH,aR⟩ :=aj.f2;clear hcp;go_wp2_with fail;generalize hO : Obj.cells #[.slice aF.Y.a aF.Y.l aF.Y.c, .slice aF.Z.a aF.Z.l aF.Z.c] 26=O_;replace ah:=ah.alloc O_;replace aj:=aj.alloc O_;replace bB:=bB.av O_;replace hB:=hB.alloc hB.size O_;have bJ : aJ (w1.alloc O_) w1.heap.size [.slice aF.Y.a aF.Y.l aF.Y.c, .slice aF.Z.a aF.Z.l aF.Z.c]:=hO ▸ aJ.new _ _ _;have jG:=bJ.lt;have sz : w1.heap.size≤ (w1.alloc O_).heap.size:=X7 bJ.lt;generalize hG : (w1.alloc O_) =w2 at ah aj bB hB bJ jG sz⊢;clear hG hO O_;clear aL aN aT bE;obtain⟨aL,aN,aT,bE⟩ :=ah.f2;clear ak au aH aR;obtain⟨ak,au,aH,aR⟩ :=aj.f2;obtain⟨bO,bQ,dn,dW⟩ :=bJ.f2;refine(hq _ hB).mono ?_;rintro e w3 ⟨rfl,hb⟩;replace ah:=ah.below hb;replace aj:=aj.below hb;replace bJ:=bJ.below hb;have bB:=bB.step0 hb;replace hB:=hB.trans (hb.mono hB.size);have sz:=hb.size;clear hb;clear aL aN aT bE;obtain⟨aL,aN,aT,bE⟩ :=ah.f2;clear ak au aH aR;obtain⟨ak,au,aH,aR⟩ :=aj.f2;clear bO bQ dn dW;obtain⟨bO,bQ,dn,dW⟩ :=bJ.f2;clear hq;go_wp2_with (go_at_call 102;refine(dH _ _ _ _).mono ?_;rw [hiw];rintro e wv ⟨rfl,rfl⟩);go_region_with (first| (go_at_call 77; (first| ((with_reducible refine(hcl _ hB.drew).mono ?_);rintro e wq ⟨rfl,hb⟩;replace hb:=o8 hb;replace ah:=ah.below hb;replace aj:=aj.below hb;replace bJ:=bJ.below hb;replace bB:=bB.step0 hb;replace hB:=hB.trans (hb.mono hB.size);have sz:=hb.size;clear hb;clear aL aN aT bE;obtain⟨aL,aN,aT,bE⟩ :=ah.f2;clear ak au aH aR;obtain⟨ak,au,aH,aR⟩ :=aj.f2;clear bO bQ dn dW;obtain⟨bO,bQ,dn,dW⟩ :=bJ.f2))) | (go_at_call 158; (first| ((with_reducible refine(hga _).mono ?_);rintro e wq ⟨rfl,rfl⟩))) | (go_at_call 86; ((with_reducible refine(hst _ aF.Y bB.Y).mono ?_);rintro e wq ⟨rfl,hbN,hx⟩;replace hB:=hB.trans (hx.below hB.size (fun g hm=>by have:=l_c g (eX.jI hm);omega));have sz:=hx.size;replace ah:=ah.aM hx (fun hm=>by have:=l_c _ (eX.jI hm);have:=u_c _ (eX.jI hm);omega);replace aj:=aj.aM hx (fun hm=>by have:=l_c _ (eX.jI hm);have:=u_c _ (eX.jI hm);omega);replace bJ:=bJ.aM hx (fun hm=>by have:=l_c _ (eX.jI hm);have:=u_c _ (eX.jI hm);omega);replace bB:= (show fM _ aF {x with Y:=putAt x.Y P (iZ 4 g)} from bB.setBytes hbN hx);clear hx;clear aL aN aT bE;obtain⟨aL,aN,aT,bE⟩ :=ah.f2;clear ak au aH aR;obtain⟨ak,au,aH,aR⟩ :=aj.f2;clear bO bQ dn dW;obtain⟨bO,bQ,dn,dW⟩ :=bJ.f2)))
 all_goals
  go_wp2_with fail;refine bodyPost_ret (v:= .tuple #[.agg #[.slice aF.Y.a aF.Y.l aF.Y.c, .slice aF.Z.a aF.Z.l aF.Z.c], .bool true]) (by simp [results,Tryz.results224,go_sem,ak,au]) rfl ⟨aF, {x with Y:=putAt x.Y P (iZ 4 g)},true,rfl,bB.aM (F:= [w.heap.size+1,w1.heap.size]) dx (fun g hg hm=>by simp only [Pe,Pd,XK] at hm;have:=l_c g hg;have:=u_c g hg;omega), ⟨u_ (by rw [jO];exact PD.out),rfl⟩,fun g hg=>by have:=l_c g hg;omega,Below.trans hB dU⟩
end Go.Proofs.YtkmggglljkmjoaaGreat
