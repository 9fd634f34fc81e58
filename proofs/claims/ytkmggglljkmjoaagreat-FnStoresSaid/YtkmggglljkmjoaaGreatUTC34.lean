/-
  Several texts in one: lemmas and contracts that the claim rests on.
-/
import Derived.Test.YtkmggglljkmjoaaGreatUTC1
import Derived.Deep.QuietTactic
import Derived.BigQuiet
import Derived.Deep.LoopGhost
import Derived.Deep.RegionHeld3
import Derived.Test.YtkmggglljkmjoaaGreatUTC2
import Derived.WalkSpells
import Derived.Laws.Cover3
import Derived.Test.YtkmggglljkmjoaaGreatUTC26
import Derived.Test.YtkmggglljkmjoaaGreatUTC32
import Derived.Test.YtkmggglljkmjoaaGreatUTC33
import Derived.Test.YtkmggglljkmjoaaGreatUTC21
import Derived.Deep.CutRange
namespace Go.Proofs.YtkmggglljkmjoaaGreat
open Go.RowKit
open Go.Proofs.YtkmggglljkmjoaaGreat.Lim
theorem Ir {m : Mem}{w n : Int}(p : jD m) : jD (dS m w n).1:=by
 by_cases h : (dS m w n).2.2=0
 ·obtain⟨_,_,p2,_⟩ :=Ab h
  exact p2
 ·rw [(yE h).1]
  exact p
theorem JD {m : Mem}{w h : Int}(p : jD m) : jD (iw m w h).1:=by
 by_cases k : (iw m w h).2=0
 ·exact(yF k).2.2.1
 ·rw [Ey k]
  exact p
theorem Iu {m : Mem}{h a k n : Int}(p : jD m) : jD (gL m h a k n).1:=by
 by_cases c : (gL m h a k n).2=0
 ·exact(Ez c).2.2.1
 ·have e : (gL m h a k n).1=m:=by
   unfold gL at c⊢
   split
   ·rfl
   ·rename_i c1
    rw [if_neg c1] at c
    split
    ·rfl
    ·rename_i c2
     rw [if_neg c2] at c
     exact absurd rfl c
  rw [e]
  exact p
theorem DV {m : Mem}(p : jD m) : dx m≤536870912:=Nat.le_trans (o8 p) (by decide)
theorem pR (w : World)(H : bP)(x : Mem)(wk n : Int)(h : gJ w w.heap.size H x)(p : jD x) :
  Calls Tryz.prog 35 #[.agg #[.slice H.E.Y.a H.E.Y.l H.E.Y.c, .slice H.E.Z.a H.E.Z.l H.E.Z.c, .slice H.I.G.a H.I.G.l H.I.G.c, .slice H.I.O.a H.I.O.l H.I.O.c], .int .i64 wk, .int .i64 n] w fun e w'=> ∃ (H' : bP) (y : Mem) (a c : Int),e= .returned (.tuple #[.agg #[.slice H'.E.Y.a H'.E.Y.l H'.E.Y.c, .slice H'.E.Z.a H'.E.Z.l H'.E.Z.c, .slice H'.I.G.a H'.I.G.l H'.I.G.c, .slice H'.I.O.a H'.I.O.l H'.I.O.c], .int .i64 a, .int .i64 c]) ∧d9 w' H' y∧jD y∧ (∀g∈H'.foot,w.heap.size≤g) ∧Below w.heap.size w w':=
 (yV w H x wk n h (DV p)).mono fun _ _ ⟨H',a,b,c,d⟩ => ⟨H',_,_,_,a,b,Ir p,c,d⟩
theorem qD (w : World)(H : bP)(x : Mem)(wk a : Int)(h : gJ w w.heap.size H x)(p : jD x) :
  Calls Tryz.prog 46 #[.agg #[.slice H.E.Y.a H.E.Y.l H.E.Y.c, .slice H.E.Z.a H.E.Z.l H.E.Z.c, .slice H.I.G.a H.I.G.l H.I.G.c, .slice H.I.O.a H.I.O.l H.I.O.c], .int .i64 wk, .int .i64 a] w fun e w'=> ∃ (H' : bP) (y : Mem) (c : Int),e= .returned (.tuple #[.agg #[.slice H'.E.Y.a H'.E.Y.l H'.E.Y.c, .slice H'.E.Z.a H'.E.Z.l H'.E.Z.c, .slice H'.I.G.a H'.I.G.l H'.I.G.c, .slice H'.I.O.a H'.I.O.l H'.I.O.c], .int .i64 c]) ∧d9 w' H' y∧jD y∧ (∀g∈H'.foot,w.heap.size≤g) ∧Below w.heap.size w w':=
 (Ai w H x wk a h (DV p)).mono fun _ _ ⟨H',a,b,c,d⟩ => ⟨H',_,_,a,b,JD p,c,d⟩
theorem qE (w : World)(H : bP)(x : Mem)(s a k n : Int)(h : gJ w w.heap.size H x)(p : jD x)(hn : gZ n) :
  Calls Tryz.prog 25 #[.agg #[.slice H.E.Y.a H.E.Y.l H.E.Y.c, .slice H.E.Z.a H.E.Z.l H.E.Z.c, .slice H.I.G.a H.I.G.l H.I.G.c, .slice H.I.O.a H.I.O.l H.I.O.c], .int .i64 s, .int .i64 a, .int .i64 k, .int .i64 n] w fun e w'=> ∃ (H' : bP) (y : Mem) (c : Int),e= .returned (.tuple #[.agg #[.slice H'.E.Y.a H'.E.Y.l H'.E.Y.c, .slice H'.E.Z.a H'.E.Z.l H'.E.Z.c, .slice H'.I.G.a H'.I.G.l H'.I.G.c, .slice H'.I.O.a H'.I.O.l H'.I.O.c], .int .i64 c]) ∧d9 w' H' y∧jD y∧ (∀g∈H'.foot,w.heap.size≤g) ∧Below w.heap.size w w':=
 (Aj w H x s a k n h (DV p) hn).mono fun _ _ ⟨H',a,b,c,d⟩ => ⟨H',_,_,a,b,Iu p,c,d⟩
def Ld (w : World)(g : Nat)(code : List Int)(e : Ending)(w' : World) : Prop:= ∃ (H : bP) (x : Mem) (a : Int),e= .returned (.tuple #[.agg #[.slice H.E.Y.a H.E.Y.l H.E.Y.c, .slice H.E.Z.a H.E.Z.l H.E.Z.c, .slice H.I.G.a H.I.G.l H.I.G.c, .slice H.I.O.a H.I.O.l H.I.O.c], .int .i64 a]) ∧d9 w' H x∧jD x∧ (∀b∈H.foot,w.heap.size≤b) ∧f_ w' g code∧aY [g] w w'
set_option maxRecDepth 100000 in
set_option maxHeartbeats 16000000 in
theorem JE (w : World)(g : Nat)(code : List Int)(hc : f_ w g code) : Calls Tryz.prog 135 #[.pointer (some ⟨g,0,none⟩), .int .i64 22] w (Ld w g code) :=by
 have hgl:=hc.lt
 obtain⟨w0,hW0⟩ : ∃x,x= (w.alloc (.cells #[.slice none 0 0, .slice none 0 0, .slice none 0 0, .slice none 0 0] 31)) := ⟨_,rfl⟩
 have ah : aB w0 (w.heap.size) [.slice none 0 0, .slice none 0 0, .slice none 0 0, .slice none 0 0]:=by
  rw [hW0]
  exact aB.nw
 have hC : aY [g] w w0:=hW0 ▸ (aY.refl [g] w).aH _
 replace hc : f_ w0 g code:=hW0 ▸ (hc).alloc _
 go_enter Tryz.func135,Tryz.ntmps135
 go_wp2_with fail
 rw [←hW0]
 clear hW0
 have iB:=ah.lt
 have F3 : w.heap.size≤w.heap.size:=by omega
 have sC:=hC.size
 obtain⟨aj,ak,aJ,aK,ay,aI⟩ :=ah.f4
 refine(GL _).mono ?_
 rintro e w1 ⟨dP,rfl,bR,mX,hb⟩
 have jZ:=bR.lt
 replace ah:=ah.below hb
 replace hC:=hC.trans (aY.of_below hb)
 replace hc:=hc.up hb
 have sz:=hb.size
 replace sC:=hC.size
 clear hb
 clear aj ak aJ aK ay aI
 obtain⟨aj,ak,aJ,aK,ay,aI⟩ :=ah.f4
 have HP:=Ad
 generalize lN=x0 at *
 go_wp2_with fail
 generalize hO : Obj.cells #[.slice dP.E.Y.a dP.E.Y.l dP.E.Y.c, .slice dP.E.Z.a dP.E.Z.l dP.E.Z.c, .slice dP.I.G.a dP.I.G.l dP.I.G.c, .slice dP.I.O.a dP.I.O.l dP.I.O.c] 31=O_
 have Iw : (w1.alloc O_).heap.size=w1.heap.size+1:=World.size_alloc _ _
 replace ah:=ah.alloc O_
 replace bR:=bR.aH O_
 replace hC:=hC.aH O_
 replace hc:=hc.alloc O_
 have bn : aB (w1.alloc O_) w1.heap.size [.slice dP.E.Y.a dP.E.Y.l dP.E.Y.c, .slice dP.E.Z.a dP.E.Z.l dP.E.Z.c, .slice dP.I.G.a dP.I.G.l dP.I.G.c, .slice dP.I.O.a dP.I.O.l dP.I.O.c]:=hO ▸ aB.new _ _ _
 have tZ:=bn.lt
 have sz : w1.heap.size≤ (w1.alloc O_).heap.size:=Nat.le_of_lt bn.lt
 have N8 : w.heap.size≤w1.heap.size:=by omega
 generalize hG : (w1.alloc O_) =w2 at Iw ah bR hC hc bn tZ sz⊢
 clear hG hO O_
 replace sC:=hC.size
 clear aj ak aJ aK ay aI
 obtain⟨aj,ak,aJ,aK,ay,aI⟩ :=ah.f4
 obtain⟨bC,bD,bE,bF,bS,dB⟩ :=bn.f4
 replace ah:=ah.alloc (.cells #[.int .i64 0] 3)
 replace bn:=bn.alloc (.cells #[.int .i64 0] 3)
 replace bR:=bR.aH (.cells #[.int .i64 0] 3)
 replace hC:=hC.aH (.cells #[.int .i64 0] 3)
 replace hc:=hc.alloc (.cells #[.int .i64 0] 3)
 have bQ : bA FI 3 (w2.alloc (.cells #[.int .i64 0] 3)) (.slice (some ⟨w2.heap.size,0,none⟩) 1 1) [0]:=bA.lit FI [0] #[.int .i64 0] rfl (by simp [maxLen]) w2 3
 have sz : w2.heap.size≤ (w2.alloc (.cells #[.int .i64 0] 3)).heap.size:=by simp
 have MC : w2.heap.size< (w2.alloc (.cells #[.int .i64 0] 3)).heap.size:=by simp
 generalize hG : (w2.alloc (.cells #[.int .i64 0] 3)) =w3 at ah bn bR hC hc bQ sz MC⊢
 clear hG
 replace sC:=hC.size
 have fJ : ∀b∈cu (.slice (some ⟨w2.heap.size,0,none⟩) 1 1),w2.heap.size≤b:=fun b hb=>by have:=bY.1 hb;omega
 have iD:=iQ bQ
 rw [Iw] at bQ fJ iD MC
 have sz : w1.heap.size+1≤w3.heap.size:=by omega
 clear Iw
 clear aj ak aJ aK ay aI
 obtain⟨aj,ak,aJ,aK,ay,aI⟩ :=ah.f4
 clear bC bD bE bF bS dB
 obtain⟨bC,bD,bE,bF,bS,dB⟩ :=bn.f4
 refine(cK _ g code 22 (by unfold gZ;omega) hc).mono ?_
 rintro e w4 ⟨n0,rfl,Js,Nk,hcn,hx⟩
 replace hc:=hcn
 replace ah:=ah.aM hx (by simp only [List.mem_cons,List.not_mem_nil,or_false];omega)
 replace bn:=bn.aM hx (by simp only [List.mem_cons,List.not_mem_nil,or_false];omega)
 replace bR:=bR.aM hx (fun b hb hm=>by simp only [List.mem_cons,List.not_mem_nil,or_false] at hm;have:=mX b hb;have:=jZ b hb;omega)
 replace bQ:=bQ.aM hx (fun b hb hm=>by simp only [List.mem_cons,List.not_mem_nil,or_false] at hm;have:=fJ b hb;have:=iD b hb;omega)
 replace hC:=hC.trans hx
 have sz:=hx.size
 replace sC:=hC.size
 clear hx
 skip
 clear aj ak aJ aK ay aI
 obtain⟨aj,ak,aJ,aK,ay,aI⟩ :=ah.f4
 clear bC bD bE bF bS dB
 obtain⟨bC,bD,bE,bF,bS,dB⟩ :=bn.f4
 obtain⟨m0,rfl⟩ :=Int.eq_ofNat_of_zero_le Js
 have hah : w.heap.size<w1.heap.size:=by omega
 go_wp2_with fail
 go_loopw [7,8] (fun v i wr=> ∃ (k : Nat) (H : bP) (x : Mem) (l : List Int),i= .int .i64 k∧k≤21∧aB wr (w1.heap.size) [.slice H.E.Y.a H.E.Y.l H.E.Y.c, .slice H.E.Z.a H.E.Z.l H.E.Z.c, .slice H.I.G.a H.I.G.l H.I.G.c, .slice H.I.O.a H.I.O.l H.I.O.c]∧aB wr w.heap.size [.slice none 0 0, .slice none 0 0, .slice none 0 0, .slice none 0 0]∧d9 wr H x∧jD x∧ (∀b∈H.foot,w.heap.size<b∧b≠w1.heap.size) ∧bA FI 3 wr v l∧ (∀b∈cu v,w.heap.size<b∧b≠w1.heap.size∧b∉H.foot) ∧0<l.length∧l.length+k≤22∧f_ wr g code∧aY [g] w wr) (fun _ i _=> (intOf i).toNat)
 case atStart=>exact⟨m0,dP,x0, [0],rfl,by omega,bn,ah,bR,HP,fun b hb=>by have:=mX b hb;have:=jZ b hb;omega,bQ,fun b hb=> ⟨by have:=fJ b hb;omega,by have:=fJ b hb;omega,fun hm=>by have:=fJ b hb;have:=jZ b hm;omega⟩,by decide,by simp;omega,hc,hC⟩
 case round=>
  clear bn bS dB bC bD bE bF
  clear ah ay aI aj ak aJ aK
  clear bR mX jZ HP hc hC sC bQ fJ iD
  obtain⟨wo,rfl⟩ : ∃W : World,W=wr:= ⟨_,rfl⟩
  obtain⟨k,dP,x,l,rfl,Qs,bn,ah,bR,HP,pQ,bQ,pK,hl0,hlk,hc,hC⟩ :=hrel
  obtain⟨gl,cp,rfl,NI⟩ :=bA.kN bQ hl0
  have Ri:=pK gl (bY.2 rfl)
  have jZ:=bR.lt
  have iD:=iQ bQ
  have sC:=hC.size
  obtain⟨bC,bD,bE,bF,bS,dB⟩ :=bn.f4
  obtain⟨aj,ak,aJ,aK,ay,aI⟩ :=ah.f4
  have pL:=bA.kr bQ
  by_cases hk : 0<k
  case neg=>
   go_wp2_with fail
   go_region_held3 (fun w'=>w'.cell? ⟨w1.heap.size,0,none⟩ =some (.slice dP.E.Y.a dP.E.Y.l dP.E.Y.c) ∧w'.cell? ⟨w1.heap.size,1,none⟩ =some (.slice dP.E.Z.a dP.E.Z.l dP.E.Z.c) ∧w'.cell? ⟨w1.heap.size,2,none⟩ =some (.slice dP.I.G.a dP.I.G.l dP.I.G.c) ∧w'.cell? ⟨w1.heap.size,3,none⟩ =some (.slice dP.I.O.a dP.I.O.l dP.I.O.c) ∧ ∀j,j<l.length→w'.cell? ⟨gl,j,none⟩ =some (.int .i64 (l.getD j 0))) (first| (with_reducible exact⟨bC,bD,bE,bF,pL⟩) | (refine⟨?_, ?_, ?_, ?_, ?_⟩ <;> (repeat (first|with_reducible assumption|with_reducible refine fH ?_ (by omega) |with_reducible refine eF ?_ (by omega) |with_reducible refine fu ?_|intro _ _| (with_reducible apply pL;with_reducible assumption)));done) | (go_keep;done)) (first| (go_at_call 63; (first| ((with_reducible refine(cK _ g code _ (by unfold gZ;omega) hc).mono ?_);rintro e wq ⟨c_,rfl,c0,c1,hcn,hx⟩;replace bn:=bn.aM hx (by simp only [List.mem_cons,List.not_mem_nil,or_false];omega);replace ah:=ah.aM hx (by simp only [List.mem_cons,List.not_mem_nil,or_false];omega);replace bR:=bR.aM hx (fun b hb hm=>by simp only [List.mem_cons,List.not_mem_nil,or_false] at hm;have:=pQ b hb;have:=jZ b hb;omega);replace bQ:=bQ.aM hx (fun b hb hm=>by simp only [List.mem_cons,List.not_mem_nil,or_false] at hm;have:=pK b hb;have:=iD b hb;omega);replace hC:=aY.trans hC hx;replace hc:=hcn;have sz:=hx.size;replace sC:=hC.size;clear hx;clear bC bD bE bF bS dB;obtain⟨bC,bD,bE,bF,bS,dB⟩ :=bn.f4;clear aj ak aJ aK ay aI;obtain⟨aj,ak,aJ,aK,ay,aI⟩ :=ah.f4;replace pL:=bA.kr bQ;obtain⟨c,rfl⟩ :=Int.eq_ofNat_of_zero_le c0;have hcl : c<l.length:= (by omega);have DW : (c : Int) < (l.length : Int) := (by omega)) | ((with_reducible refine(cK _ g code _ (by unfold gZ;omega) (hc.bf)).mono ?_);rintro e wq ⟨c_,rfl,c0,c1,hcn,hx⟩;replace bn:=bn.drew.aM hx (by simp only [List.mem_cons,List.not_mem_nil,or_false];omega);replace ah:=ah.drew.aM hx (by simp only [List.mem_cons,List.not_mem_nil,or_false];omega);replace bR:= (bR.bf).aM hx (fun b hb hm=>by simp only [List.mem_cons,List.not_mem_nil,or_false] at hm;have:=pQ b hb;have:=jZ b hb;omega);replace bQ:= (bQ.bf).aM hx (fun b hb hm=>by simp only [List.mem_cons,List.not_mem_nil,or_false] at hm;have:=pK b hb;have:=iD b hb;omega);replace hC:=aY.trans hC.bf hx;replace hc:=hcn;have sz:=jE hx.size;replace sC:=hC.size;clear hx;clear bC bD bE bF bS dB;obtain⟨bC,bD,bE,bF,bS,dB⟩ :=bn.f4;clear aj ak aJ aK ay aI;obtain⟨aj,ak,aJ,aK,ay,aI⟩ :=ah.f4;replace pL:=bA.kr bQ;obtain⟨c,rfl⟩ :=Int.eq_ofNat_of_zero_le c0;have hcl : c<l.length:= (by omega);have DW : (c : Int) < (l.length : Int) := (by omega)))))
   all_goals
    go_wp2_with fail
    refine bodyPost_ret (v:= .tuple #[.agg #[.slice dP.E.Y.a dP.E.Y.l dP.E.Y.c, .slice dP.E.Z.a dP.E.Z.l dP.E.Z.c, .slice dP.I.G.a dP.I.G.l dP.I.G.c, .slice dP.I.O.a dP.I.O.l dP.I.O.c], .int .i64 l[c]]) (by simp [results,Tryz.results135,go_sem,aj,ak,aJ,aK]) rfl ⟨dP,x,l[c],rfl,bR.aM (F:= [w.heap.size]) bW (fun b hb hm=>by simp only [List.mem_cons,List.not_mem_nil,or_false] at hm;have:=pQ b hb;have:=jZ b hb;omega),HP,fun b hb=>by have:=pQ b hb;omega,hc.je (B:=w.heap.size) hgl dQ hC.size,hC.then_ dQ⟩
  go_wp2_with fail
  refine(uM _ g code 3 (by unfold gZ;omega) hc).mono ?_
  rintro e Et ⟨b,rfl,hcn,hx⟩
  replace hc:=hcn
  replace bn:=bn.aM hx (by simp only [List.mem_cons,List.not_mem_nil,or_false];omega)
  replace ah:=ah.aM hx (by simp only [List.mem_cons,List.not_mem_nil,or_false];omega)
  replace bR:=bR.aM hx (fun b hb hm=>by simp only [List.mem_cons,List.not_mem_nil,or_false] at hm;have:=pQ b hb;have:=jZ b hb;omega)
  replace bQ:=bQ.aM hx (fun b hb hm=>by simp only [List.mem_cons,List.not_mem_nil,or_false] at hm;have:=pK b hb;have:=iD b hb;omega)
  replace hC:=hC.trans hx
  have sz:=hx.size
  replace sC:=hC.size
  clear hx
  skip
  clear bC bD bE bF bS dB
  obtain⟨bC,bD,bE,bF,bS,dB⟩ :=bn.f4
  clear aj ak aJ aK ay aI
  obtain⟨aj,ak,aJ,aK,ay,aI⟩ :=ah.f4
  replace pL:=bA.kr bQ
  have hcase : (b=true∧1<l.length) ∨ ¬ (b=true∧1<l.length) :=Classical.em _
  rcases hcase with ⟨hbt,h1⟩ |hnb
  ·subst hbt
   have ME:=dB
   have F4:=aI
   go_upto_region 7 with (fail)
   go_cut [9,10] from 23 to 45 (fun v9 v10 wx=> ∃ (go : Nat) (aG : bP) (y : Mem) (cd : Int),v9= .pointer (some ⟨go,0,none⟩) ∧v10= .int .i64 cd∧ (jD y) ∧aB wx (w1.heap.size) [.slice dP.E.Y.a dP.E.Y.l dP.E.Y.c, .slice dP.E.Z.a dP.E.Z.l dP.E.Z.c, .slice dP.I.G.a dP.I.G.l dP.I.G.c, .slice dP.I.O.a dP.I.O.l dP.I.O.c]∧aB wx (w.heap.size) [.slice none 0 0, .slice none 0 0, .slice none 0 0, .slice none 0 0]∧aB wx go [.slice aG.E.Y.a aG.E.Y.l aG.E.Y.c, .slice aG.E.Z.a aG.E.Z.l aG.E.Z.c, .slice aG.I.G.a aG.I.G.l aG.I.G.c, .slice aG.I.O.a aG.I.O.l aG.I.O.c]∧d9 wx dP x∧bA FI 3 wx (.slice (some ⟨gl,0,none⟩) l.length cp) l∧d9 wx aG y∧ (∀b∈aG.foot,Et.heap.size≤b∧b≠go) ∧Et.heap.size≤go∧f_ wx g code∧aY [g] w wx∧Et.heap.size≤wx.heap.size)
   case first=>
    go_region_held3 (fun w'=>w'.cell? ⟨w1.heap.size,0,none⟩ =some (.slice dP.E.Y.a dP.E.Y.l dP.E.Y.c) ∧w'.cell? ⟨w1.heap.size,1,none⟩ =some (.slice dP.E.Z.a dP.E.Z.l dP.E.Z.c) ∧w'.cell? ⟨w1.heap.size,2,none⟩ =some (.slice dP.I.G.a dP.I.G.l dP.I.G.c) ∧w'.cell? ⟨w1.heap.size,3,none⟩ =some (.slice dP.I.O.a dP.I.O.l dP.I.O.c) ∧ ∀j,j<l.length→w'.cell? ⟨gl,j,none⟩ =some (.int .i64 (l.getD j 0))) (first| (with_reducible exact⟨bC,bD,bE,bF,pL⟩) | (refine⟨?_, ?_, ?_, ?_, ?_⟩ <;> (repeat (first|with_reducible assumption|with_reducible refine fH ?_ (by omega) |with_reducible refine eF ?_ (by omega) |with_reducible refine fu ?_|intro _ _| (with_reducible apply pL;with_reducible assumption)));done) | (go_keep;done)) (first| (go_at_call 63; (first| ((with_reducible refine(cK _ g code _ (by unfold gZ;omega) hc).mono ?_);rintro e wq ⟨c_,rfl,c0,c1,hcn,hx⟩;replace bn:=bn.aM hx (by simp only [List.mem_cons,List.not_mem_nil,or_false];omega);replace ah:=ah.aM hx (by simp only [List.mem_cons,List.not_mem_nil,or_false];omega);replace bR:=bR.aM hx (fun b hb hm=>by simp only [List.mem_cons,List.not_mem_nil,or_false] at hm;have:=pQ b hb;have:=jZ b hb;omega);replace bQ:=bQ.aM hx (fun b hb hm=>by simp only [List.mem_cons,List.not_mem_nil,or_false] at hm;have:=pK b hb;have:=iD b hb;omega); (try replace bZ:=bZ.aM hx (fun b hb hm=>by simp only [List.mem_cons,List.not_mem_nil,or_false] at hm;have:=dY b hb;have:=u_n b hb;omega)); (try replace aU:=aU.aM hx (by simp only [List.mem_cons,List.not_mem_nil,or_false];omega)); (try replace bT:=aU.cell 0 _ rfl); (try replace bU:=aU.cell 1 _ rfl); (try replace dD:=aU.cell 2 _ rfl); (try replace dF:=aU.cell 3 _ rfl); (try replace gN:=aU.dn); (try replace dX:=aU.lt);replace hC:=aY.trans hC hx;replace hc:=hcn;have sz:=hx.size;replace sC:=hC.size;clear hx;clear bC bD bE bF bS dB;obtain⟨bC,bD,bE,bF,bS,dB⟩ :=bn.f4;clear aj ak aJ aK ay aI;obtain⟨aj,ak,aJ,aK,ay,aI⟩ :=ah.f4;replace pL:=bA.kr bQ;obtain⟨c,rfl⟩ :=Int.eq_ofNat_of_zero_le c0; (try have hcl : c<l.length:= (by omega)); (try have DW : (c : Int) < (l.length : Int) := (by omega))) | ((with_reducible refine(cK _ g code _ (by unfold gZ;omega) (hc.alloc _)).mono ?_);rintro e wq ⟨c_,rfl,c0,c1,hcn,hx⟩;have qF:=bn.lt;have jy:=ah.lt;replace bn:= (bn.alloc _).aM hx (by simp only [List.mem_cons,List.not_mem_nil,or_false];omega);replace ah:= (ah.alloc _).aM hx (by simp only [List.mem_cons,List.not_mem_nil,or_false];omega);replace bR:= (bR.aH _).aM hx (fun b hb hm=>by simp only [List.mem_cons,List.not_mem_nil,or_false] at hm;have:=pQ b hb;have:=jZ b hb;omega);replace bQ:= (bQ.aH _).aM hx (fun b hb hm=>by simp only [List.mem_cons,List.not_mem_nil,or_false] at hm;have:=pK b hb;have:=iD b hb;omega); (try replace bZ:= (bZ.aH _).aM hx (fun b hb hm=>by simp only [List.mem_cons,List.not_mem_nil,or_false] at hm;have:=dY b hb;have:=u_n b hb;omega));have aU:=aB.aM (aB.new _ #[.slice none 0 0, .slice none 0 0, .slice none 0 0, .slice none 0 0] 31) hx (by simp only [List.mem_cons,List.not_mem_nil,or_false];omega);have jI:=hC.size;have gN:=aU.dn;have dX:=aU.lt;have bT:=aU.cell 0 _ rfl;have bU:=aU.cell 1 _ rfl;have dD:=aU.cell 2 _ rfl;have dF:=aU.cell 3 _ rfl;replace hC:=aY.trans (hC.aH _) hx;replace hc:=hcn;have sz:=gV hx.size;replace sC:=hC.size;clear hx;clear bC bD bE bF bS dB;obtain⟨bC,bD,bE,bF,bS,dB⟩ :=bn.f4;clear aj ak aJ aK ay aI;obtain⟨aj,ak,aJ,aK,ay,aI⟩ :=ah.f4;replace pL:=bA.kr bQ;obtain⟨c,rfl⟩ :=Int.eq_ofNat_of_zero_le c0; (try have hcl : c<l.length:= (by omega)); (try have DW : (c : Int) < (l.length : Int) := (by omega))) | ((with_reducible refine(cK _ g code _ (by unfold gZ;omega) (hc.bf)).mono ?_);rintro e wq ⟨c_,rfl,c0,c1,hcn,hx⟩;replace bn:=bn.drew.aM hx (by simp only [List.mem_cons,List.not_mem_nil,or_false];omega);replace ah:=ah.drew.aM hx (by simp only [List.mem_cons,List.not_mem_nil,or_false];omega);replace bR:= (bR.bf).aM hx (fun b hb hm=>by simp only [List.mem_cons,List.not_mem_nil,or_false] at hm;have:=pQ b hb;have:=jZ b hb;omega);replace bQ:= (bQ.bf).aM hx (fun b hb hm=>by simp only [List.mem_cons,List.not_mem_nil,or_false] at hm;have:=pK b hb;have:=iD b hb;omega); (try replace bZ:= (bZ.bf).aM hx (fun b hb hm=>by simp only [List.mem_cons,List.not_mem_nil,or_false] at hm;have:=dY b hb;have:=u_n b hb;omega)); (try replace aU:=aU.drew.aM hx (by simp only [List.mem_cons,List.not_mem_nil,or_false];omega)); (try replace bT:=aU.cell 0 _ rfl); (try replace bU:=aU.cell 1 _ rfl); (try replace dD:=aU.cell 2 _ rfl); (try replace dF:=aU.cell 3 _ rfl); (try replace gN:=aU.dn); (try replace dX:=aU.lt);replace hC:=aY.trans hC.bf hx;replace hc:=hcn;have sz:=jE hx.size;replace sC:=hC.size;clear hx;clear bC bD bE bF bS dB;obtain⟨bC,bD,bE,bF,bS,dB⟩ :=bn.f4;clear aj ak aJ aK ay aI;obtain⟨aj,ak,aJ,aK,ay,aI⟩ :=ah.f4;replace pL:=bA.kr bQ;obtain⟨c,rfl⟩ :=Int.eq_ofNat_of_zero_le c0; (try have hcl : c<l.length:= (by omega)); (try have DW : (c : Int) < (l.length : Int) := (by omega))) | ((with_reducible refine(cK _ g code _ (by unfold gZ;omega) ((hc.bf).alloc _)).mono ?_);rintro e wq ⟨c_,rfl,c0,c1,hcn,hx⟩;have qF:=bn.lt;have jy:=ah.lt;replace bn:= ((bn.drew).alloc _).aM hx (by simp only [List.mem_cons,List.not_mem_nil,or_false];omega);replace ah:= ((ah.drew).alloc _).aM hx (by simp only [List.mem_cons,List.not_mem_nil,or_false];omega);replace bR:= ((bR.bf).aH _).aM hx (fun b hb hm=>by simp only [List.mem_cons,List.not_mem_nil,or_false] at hm;have:=pQ b hb;have:=jZ b hb;omega);replace bQ:= ((bQ.bf).aH _).aM hx (fun b hb hm=>by simp only [List.mem_cons,List.not_mem_nil,or_false] at hm;have:=pK b hb;have:=iD b hb;omega); (try replace bZ:= ((bZ.bf).aH _).aM hx (fun b hb hm=>by simp only [List.mem_cons,List.not_mem_nil,or_false] at hm;have:=dY b hb;have:=u_n b hb;omega));have aU:=aB.aM (aB.new _ #[.slice none 0 0, .slice none 0 0, .slice none 0 0, .slice none 0 0] 31) hx (by simp only [List.mem_cons,List.not_mem_nil,or_false];omega); (try simp only [fq] at aU);have jI:=hC.size;have gN:=aU.dn;have dX:=aU.lt;have bT:=aU.cell 0 _ rfl;have bU:=aU.cell 1 _ rfl;have dD:=aU.cell 2 _ rfl;have dF:=aU.cell 3 _ rfl;replace hC:=aY.trans (hC.bf.aH _) hx;replace hc:=hcn;have sz:=iL hx.size;replace sC:=hC.size;clear hx;clear bC bD bE bF bS dB;obtain⟨bC,bD,bE,bF,bS,dB⟩ :=bn.f4;clear aj ak aJ aK ay aI;obtain⟨aj,ak,aJ,aK,ay,aI⟩ :=ah.f4;replace pL:=bA.kr bQ;obtain⟨c,rfl⟩ :=Int.eq_ofNat_of_zero_le c0; (try have hcl : c<l.length:= (by omega)); (try have DW : (c : Int) < (l.length : Int) := (by omega))) | ((with_reducible refine(cK _ g code _ (by unfold gZ;omega) ((hc.alloc _).bf)).mono ?_);rintro e wq ⟨c_,rfl,c0,c1,hcn,hx⟩;have qF:=bn.lt;have jy:=ah.lt;replace bn:= (bn.alloc _).drew.aM hx (by simp only [List.mem_cons,List.not_mem_nil,or_false];omega);replace ah:= (ah.alloc _).drew.aM hx (by simp only [List.mem_cons,List.not_mem_nil,or_false];omega);replace bR:= ((bR.aH _).bf).aM hx (fun b hb hm=>by simp only [List.mem_cons,List.not_mem_nil,or_false] at hm;have:=pQ b hb;have:=jZ b hb;omega);replace bQ:= ((bQ.aH _).bf).aM hx (fun b hb hm=>by simp only [List.mem_cons,List.not_mem_nil,or_false] at hm;have:=pK b hb;have:=iD b hb;omega); (try replace bZ:= ((bZ.aH _).bf).aM hx (fun b hb hm=>by simp only [List.mem_cons,List.not_mem_nil,or_false] at hm;have:=dY b hb;have:=u_n b hb;omega));have aU:=aB.aM (aB.new _ #[.slice none 0 0, .slice none 0 0, .slice none 0 0, .slice none 0 0] 31).drew hx (by simp only [List.mem_cons,List.not_mem_nil,or_false];omega);have jI:=hC.size;have gN:=aU.dn;have dX:=aU.lt;have bT:=aU.cell 0 _ rfl;have bU:=aU.cell 1 _ rfl;have dD:=aU.cell 2 _ rfl;have dF:=aU.cell 3 _ rfl;replace hC:=aY.trans (hC.aH _).bf hx;replace hc:=hcn;have sz:=gV (jE hx.size);replace sC:=hC.size;clear hx;clear bC bD bE bF bS dB;obtain⟨bC,bD,bE,bF,bS,dB⟩ :=bn.f4;clear aj ak aJ aK ay aI;obtain⟨aj,ak,aJ,aK,ay,aI⟩ :=ah.f4;replace pL:=bA.kr bQ;obtain⟨c,rfl⟩ :=Int.eq_ofNat_of_zero_le c0; (try have hcl : c<l.length:= (by omega)); (try have DW : (c : Int) < (l.length : Int) := (by omega))))) | (go_at_call 46; (first| ((with_reducible refine(qD _ dP x _ _ (bR).rd' HP).mono ?_);rintro e wq ⟨aG,y,cd,rfl,bZ,HY,dY,hb⟩;have u_n:=bZ.lt;replace bn:=bn.below hb;replace ah:=ah.below hb;replace bR:=bR.step0 hb;replace bQ:=bQ.step0 hb; (try replace aU:=aU.below hb); (try replace bT:=aU.cell 0 _ rfl); (try replace bU:=aU.cell 1 _ rfl); (try replace dD:=aU.cell 2 _ rfl); (try replace dF:=aU.cell 3 _ rfl); (try replace gN:=aU.dn); (try replace dX:=aU.lt);replace hc:=f_.up hc hb;replace hC:=aY.trans hC (aY.of_below hb);have sz:=hb.size;replace sC:=hC.size;clear hb;clear bC bD bE bF bS dB;obtain⟨bC,bD,bE,bF,bS,dB⟩ :=bn.f4;clear aj ak aJ aK ay aI;obtain⟨aj,ak,aJ,aK,ay,aI⟩ :=ah.f4;replace pL:=bA.kr bQ) | ((with_reducible refine(qD _ dP x _ _ ((bR.aH _)).rd' HP).mono ?_);rintro e wq ⟨aG,y,cd,rfl,bZ,HY,dY,hb⟩;replace dY:=lW dY;have u_n:=bZ.lt;have qF:=bn.lt;have jy:=ah.lt;replace bn:= (bn.alloc _).below hb;replace ah:= (ah.alloc _).below hb;replace bR:= (bR.aH _).step0 hb;replace bQ:= (bQ.aH _).step0 hb;have aU:=aB.below (aB.new _ #[.slice none 0 0, .slice none 0 0, .slice none 0 0, .slice none 0 0] 31) hb;have jI:=hC.size;have gN:=aU.dn;have dX:=aU.lt;have bT:=aU.cell 0 _ rfl;have bU:=aU.cell 1 _ rfl;have dD:=aU.cell 2 _ rfl;have dF:=aU.cell 3 _ rfl;replace hc:=f_.up (hc.alloc _) hb;replace hC:=aY.trans (hC.aH _) (aY.of_below hb);have sz:=gV hb.size;replace sC:=hC.size;clear hb;clear bC bD bE bF bS dB;obtain⟨bC,bD,bE,bF,bS,dB⟩ :=bn.f4;clear aj ak aJ aK ay aI;obtain⟨aj,ak,aJ,aK,ay,aI⟩ :=ah.f4;replace pL:=bA.kr bQ) | ((with_reducible refine(qD _ dP x _ _ ((bR.bf)).rd' HP).mono ?_);rintro e wq ⟨aG,y,cd,rfl,bZ,HY,dY,hb⟩;replace hb:=gq hb;replace dY:=ji dY;have u_n:=bZ.lt;replace bn:=bn.below hb;replace ah:=ah.below hb;replace bR:=bR.step0 hb;replace bQ:=bQ.step0 hb; (try replace aU:=aU.below hb); (try replace bT:=aU.cell 0 _ rfl); (try replace bU:=aU.cell 1 _ rfl); (try replace dD:=aU.cell 2 _ rfl); (try replace dF:=aU.cell 3 _ rfl); (try replace gN:=aU.dn); (try replace dX:=aU.lt);replace hc:=f_.up hc hb;replace hC:=aY.trans hC (aY.of_below hb);have sz:=hb.size;replace sC:=hC.size;clear hb;clear bC bD bE bF bS dB;obtain⟨bC,bD,bE,bF,bS,dB⟩ :=bn.f4;clear aj ak aJ aK ay aI;obtain⟨aj,ak,aJ,aK,ay,aI⟩ :=ah.f4;replace pL:=bA.kr bQ) | ((with_reducible refine(qD _ dP x _ _ (((bR.bf).aH _)).rd' HP).mono ?_);rintro e wq ⟨aG,y,cd,rfl,bZ,HY,dY,hb⟩;replace dY:=mV dY;have u_n:=bZ.lt;have qF:=bn.lt;have jy:=ah.lt;replace bn:= ((bn.drew).alloc _).below hb;replace ah:= ((ah.drew).alloc _).below hb;replace bR:= ((bR.bf).aH _).step0 hb;replace bQ:= ((bQ.bf).aH _).step0 hb;have aU:=aB.below (aB.new _ #[.slice none 0 0, .slice none 0 0, .slice none 0 0, .slice none 0 0] 31) hb; (try simp only [fq] at aU);have jI:=hC.size;have gN:=aU.dn;have dX:=aU.lt;have bT:=aU.cell 0 _ rfl;have bU:=aU.cell 1 _ rfl;have dD:=aU.cell 2 _ rfl;have dF:=aU.cell 3 _ rfl;replace hc:=f_.up ((hc.bf).alloc _) hb;replace hC:=aY.trans (hC.bf.aH _) (aY.of_below hb);have sz:=iL hb.size;replace sC:=hC.size;clear hb;clear bC bD bE bF bS dB;obtain⟨bC,bD,bE,bF,bS,dB⟩ :=bn.f4;clear aj ak aJ aK ay aI;obtain⟨aj,ak,aJ,aK,ay,aI⟩ :=ah.f4;replace pL:=bA.kr bQ) | ((with_reducible refine(qD _ dP x _ _ (((bR.aH _).bf)).rd' HP).mono ?_);rintro e wq ⟨aG,y,cd,rfl,bZ,HY,dY,hb⟩;replace hb:=gq hb;replace dY:=ji dY;replace dY:=lW dY;have u_n:=bZ.lt;have qF:=bn.lt;have jy:=ah.lt;replace bn:= (bn.alloc _).below hb;replace ah:= (ah.alloc _).below hb;replace bR:= (bR.aH _).step0 hb;replace bQ:= (bQ.aH _).step0 hb;have aU:=aB.below (aB.new _ #[.slice none 0 0, .slice none 0 0, .slice none 0 0, .slice none 0 0] 31) hb;have jI:=hC.size;have gN:=aU.dn;have dX:=aU.lt;have bT:=aU.cell 0 _ rfl;have bU:=aU.cell 1 _ rfl;have dD:=aU.cell 2 _ rfl;have dF:=aU.cell 3 _ rfl;replace hc:=f_.up (hc.alloc _) hb;replace hC:=aY.trans (hC.aH _) (aY.of_below hb);have sz:=gV hb.size;replace sC:=hC.size;clear hb;clear bC bD bE bF bS dB;obtain⟨bC,bD,bE,bF,bS,dB⟩ :=bn.f4;clear aj ak aJ aK ay aI;obtain⟨aj,ak,aJ,aK,ay,aI⟩ :=ah.f4;replace pL:=bA.kr bQ))))
    all_goals
     go_wp2_with fail
     go_meet
     first|exact⟨_,aG,y,cd,rfl,rfl,HY,bn.alloc _,ah.alloc _,aB.new _ _ _,bR.aH _,bQ.aH _,bZ.aH _,fun b hb=> ⟨by have:=dY b hb;omega,by have:=u_n b hb;omega⟩,by omega,hc.alloc _,hC.aH _,by simp<;>omega⟩ | (obtain⟨go,hgo,og⟩ :=aU.ad;rw [←hgo];rw [←hgo] at jI;exact⟨go,aG,y,cd,rfl,rfl,HY, ((((bn.other (by omega) _).other (by omega) _).other (by omega) _).other (by omega) _), ((((ah.other (by omega) _).other (by omega) _).other (by omega) _).other (by omega) _), ((((og.set 0 _).set 1 _).set 2 _).set 3 _),bR.aM (F:= [go]) bW (fun b hb hm=>by simp only [List.mem_cons,List.not_mem_nil,or_false] at hm;have:=pQ b hb;have:=jZ b hb;omega),bQ.aM (F:= [go]) bW (fun b hb hm=>by simp only [List.mem_cons,List.not_mem_nil,or_false] at hm;have:=pK b hb;have:=iD b hb;omega),bZ.aM (F:= [go]) bW (fun b hb hm=>by simp only [List.mem_cons,List.not_mem_nil,or_false] at hm;have:=dY b hb;have:=u_n b hb;omega),fun b hb=> ⟨by have:=dY b hb;omega,by have:=dY b hb;have:=u_n b hb;omega⟩,by omega,hc.je (B:=w.heap.size) hgl dQ hC.size, ((((hC.gY (by omega) _).gY (by omega) _).gY (by omega) _).gY (by omega) _),by simp<;>omega⟩)
   case rest=>
    clear bn bS dB bC bD bE bF
    clear ah ay aI aj ak aJ aK
    clear bR
    clear bQ
    clear pL
    clear hC hc
    obtain⟨go,aG,y,cd,rfl,rfl,HY,bn,ah,aU,bR,bQ,bZ,dY,F5,hc,hC,sz⟩ :=hcut
    have rD:=aU.lt
    have jI : w.heap.size≤go:=by omega
    have u_n:=bZ.lt
    have sC:=hC.size
    obtain⟨bC,bD,bE,bF,bS,dB⟩ :=bn.f4
    obtain⟨aj,ak,aJ,aK,ay,aI⟩ :=ah.f4
    obtain⟨bT,bU,dD,dF,eU,dX⟩ :=aU.f4
    have pL:=bA.kr bQ
    go_upto_region 5 with (fail)
    clear bR
    replace bn : aB ((((wc.setCell ⟨w1.heap.size,0,none⟩ (.slice aG.E.Y.a aG.E.Y.l aG.E.Y.c)).setCell ⟨w1.heap.size,1,none⟩ (.slice aG.E.Z.a aG.E.Z.l aG.E.Z.c)).setCell ⟨w1.heap.size,2,none⟩ (.slice aG.I.G.a aG.I.G.l aG.I.G.c)).setCell ⟨w1.heap.size,3,none⟩ (.slice aG.I.O.a aG.I.O.l aG.I.O.c)) (w1.heap.size) [.slice aG.E.Y.a aG.E.Y.l aG.E.Y.c, .slice aG.E.Z.a aG.E.Z.l aG.E.Z.c, .slice aG.I.G.a aG.I.G.l aG.I.G.c, .slice aG.I.O.a aG.I.O.l aG.I.O.c]:= ((((bn.set 0 (.slice aG.E.Y.a aG.E.Y.l aG.E.Y.c)).set 1 (.slice aG.E.Z.a aG.E.Z.l aG.E.Z.c)).set 2 (.slice aG.I.G.a aG.I.G.l aG.I.G.c)).set 3 (.slice aG.I.O.a aG.I.O.l aG.I.O.c))
    replace ah : aB ((((wc.setCell ⟨w1.heap.size,0,none⟩ (.slice aG.E.Y.a aG.E.Y.l aG.E.Y.c)).setCell ⟨w1.heap.size,1,none⟩ (.slice aG.E.Z.a aG.E.Z.l aG.E.Z.c)).setCell ⟨w1.heap.size,2,none⟩ (.slice aG.I.G.a aG.I.G.l aG.I.G.c)).setCell ⟨w1.heap.size,3,none⟩ (.slice aG.I.O.a aG.I.O.l aG.I.O.c)) (w.heap.size) [.slice none 0 0, .slice none 0 0, .slice none 0 0, .slice none 0 0]:= ((((ah.other (by omega) _).other (by omega) _).other (by omega) _).other (by omega) _)
    replace aU : aB ((((wc.setCell ⟨w1.heap.size,0,none⟩ (.slice aG.E.Y.a aG.E.Y.l aG.E.Y.c)).setCell ⟨w1.heap.size,1,none⟩ (.slice aG.E.Z.a aG.E.Z.l aG.E.Z.c)).setCell ⟨w1.heap.size,2,none⟩ (.slice aG.I.G.a aG.I.G.l aG.I.G.c)).setCell ⟨w1.heap.size,3,none⟩ (.slice aG.I.O.a aG.I.O.l aG.I.O.c)) (go) [.slice aG.E.Y.a aG.E.Y.l aG.E.Y.c, .slice aG.E.Z.a aG.E.Z.l aG.E.Z.c, .slice aG.I.G.a aG.I.G.l aG.I.G.c, .slice aG.I.O.a aG.I.O.l aG.I.O.c]:= ((((aU.other (by omega) _).other (by omega) _).other (by omega) _).other (by omega) _)
    replace bQ:=bQ.aM (F:= [w1.heap.size]) (w':= ((((wc.setCell ⟨w1.heap.size,0,none⟩ (.slice aG.E.Y.a aG.E.Y.l aG.E.Y.c)).setCell ⟨w1.heap.size,1,none⟩ (.slice aG.E.Z.a aG.E.Z.l aG.E.Z.c)).setCell ⟨w1.heap.size,2,none⟩ (.slice aG.I.G.a aG.I.G.l aG.I.G.c)).setCell ⟨w1.heap.size,3,none⟩ (.slice aG.I.O.a aG.I.O.l aG.I.O.c))) bW (fun b hb hm=>by simp only [List.mem_cons,List.not_mem_nil,or_false] at hm;have:=pK b hb;have:=iD b hb;omega)
    replace bZ:=bZ.aM (F:= [w1.heap.size]) (w':= ((((wc.setCell ⟨w1.heap.size,0,none⟩ (.slice aG.E.Y.a aG.E.Y.l aG.E.Y.c)).setCell ⟨w1.heap.size,1,none⟩ (.slice aG.E.Z.a aG.E.Z.l aG.E.Z.c)).setCell ⟨w1.heap.size,2,none⟩ (.slice aG.I.G.a aG.I.G.l aG.I.G.c)).setCell ⟨w1.heap.size,3,none⟩ (.slice aG.I.O.a aG.I.O.l aG.I.O.c))) bW (fun b hb hm=>by simp only [List.mem_cons,List.not_mem_nil,or_false] at hm;have:=dY b hb;have:=u_n b hb;omega)
    replace hc : f_ ((((wc.setCell ⟨w1.heap.size,0,none⟩ (.slice aG.E.Y.a aG.E.Y.l aG.E.Y.c)).setCell ⟨w1.heap.size,1,none⟩ (.slice aG.E.Z.a aG.E.Z.l aG.E.Z.c)).setCell ⟨w1.heap.size,2,none⟩ (.slice aG.I.G.a aG.I.G.l aG.I.G.c)).setCell ⟨w1.heap.size,3,none⟩ (.slice aG.I.O.a aG.I.O.l aG.I.O.c)) g code:=hc.je (B:=w.heap.size) hgl dQ hC.size
    replace hC : aY [g] w ((((wc.setCell ⟨w1.heap.size,0,none⟩ (.slice aG.E.Y.a aG.E.Y.l aG.E.Y.c)).setCell ⟨w1.heap.size,1,none⟩ (.slice aG.E.Z.a aG.E.Z.l aG.E.Z.c)).setCell ⟨w1.heap.size,2,none⟩ (.slice aG.I.G.a aG.I.G.l aG.I.G.c)).setCell ⟨w1.heap.size,3,none⟩ (.slice aG.I.O.a aG.I.O.l aG.I.O.c)) := ((((hC.gY (by omega) _).gY (by omega) _).gY (by omega) _).gY (by omega) _)
    have sz : wc.heap.size≤ ((((wc.setCell ⟨w1.heap.size,0,none⟩ (.slice aG.E.Y.a aG.E.Y.l aG.E.Y.c)).setCell ⟨w1.heap.size,1,none⟩ (.slice aG.E.Z.a aG.E.Z.l aG.E.Z.c)).setCell ⟨w1.heap.size,2,none⟩ (.slice aG.I.G.a aG.I.G.l aG.I.G.c)).setCell ⟨w1.heap.size,3,none⟩ (.slice aG.I.O.a aG.I.O.l aG.I.O.c)).heap.size:=by simp
    generalize hG : ((((wc.setCell ⟨w1.heap.size,0,none⟩ (.slice aG.E.Y.a aG.E.Y.l aG.E.Y.c)).setCell ⟨w1.heap.size,1,none⟩ (.slice aG.E.Z.a aG.E.Z.l aG.E.Z.c)).setCell ⟨w1.heap.size,2,none⟩ (.slice aG.I.G.a aG.I.G.l aG.I.G.c)).setCell ⟨w1.heap.size,3,none⟩ (.slice aG.I.O.a aG.I.O.l aG.I.O.c)) =tF at bn ah aU bQ bZ hC hc sz⊢
    clear hG
    replace sC:=hC.size
    clear bC bD bE bF bS dB
    obtain⟨bC,bD,bE,bF,bS,dB⟩ :=bn.f4
    clear aj ak aJ aK ay aI
    obtain⟨aj,ak,aJ,aK,ay,aI⟩ :=ah.f4
    clear bT bU dD dF eU dX
    obtain⟨bT,bU,dD,dF,eU,dX⟩ :=aU.f4
    replace pL:=bA.kr bQ
    go_wp2_with fail
    go_roundw
    case rel=>exact⟨k - 1,aG,y,l,by go_num,by omega,bn,ah,bZ,HY,fun b hb=>by have:=dY b hb;omega,bQ,fun b hb=> ⟨(pK b hb).1, (pK b hb).2.1,fun hm=>by have:=dY b hm;have:=iD b hb;omega⟩,hl0,by omega,hc,hC⟩
    case measure=>simp [intOf];omega
  ·have hbs : b=false∨ (b=true∧ ¬ 1<l.length) :=by cases b with|false=>exact .inl rfl|true=>exact .inr ⟨rfl,fun h=>hnb ⟨rfl,h⟩⟩
   clear hnb
   rcases hbs with rfl| ⟨rfl,Rj⟩
   all_goals
    have ME:=dB
    have F4:=aI
    go_upto_region 9 with (fail)
    go_cut [11,12,13] from 23 to 57 (fun v11 v12 v13 wx=> ∃ (go : Nat) (aG : bP) (y : Mem) (h_ : Int) (cd : Int),v11= .pointer (some ⟨go,0,none⟩) ∧v12= .int .i64 h_∧v13= .int .i64 cd∧ (jD y) ∧aB wx (w1.heap.size) [.slice dP.E.Y.a dP.E.Y.l dP.E.Y.c, .slice dP.E.Z.a dP.E.Z.l dP.E.Z.c, .slice dP.I.G.a dP.I.G.l dP.I.G.c, .slice dP.I.O.a dP.I.O.l dP.I.O.c]∧aB wx (w.heap.size) [.slice none 0 0, .slice none 0 0, .slice none 0 0, .slice none 0 0]∧aB wx go [.slice aG.E.Y.a aG.E.Y.l aG.E.Y.c, .slice aG.E.Z.a aG.E.Z.l aG.E.Z.c, .slice aG.I.G.a aG.I.G.l aG.I.G.c, .slice aG.I.O.a aG.I.O.l aG.I.O.c]∧d9 wx dP x∧bA FI 3 wx (.slice (some ⟨gl,0,none⟩) l.length cp) l∧d9 wx aG y∧ (∀b∈aG.foot,Et.heap.size≤b∧b≠go) ∧Et.heap.size≤go∧f_ wx g code∧aY [g] w wx∧Et.heap.size≤wx.heap.size)
    case first=>
     go_region_held3 (fun w'=>w'.cell? ⟨w1.heap.size,0,none⟩ =some (.slice dP.E.Y.a dP.E.Y.l dP.E.Y.c) ∧w'.cell? ⟨w1.heap.size,1,none⟩ =some (.slice dP.E.Z.a dP.E.Z.l dP.E.Z.c) ∧w'.cell? ⟨w1.heap.size,2,none⟩ =some (.slice dP.I.G.a dP.I.G.l dP.I.G.c) ∧w'.cell? ⟨w1.heap.size,3,none⟩ =some (.slice dP.I.O.a dP.I.O.l dP.I.O.c)) (first| (with_reducible exact⟨bC,bD,bE,bF⟩) | (refine⟨?_, ?_, ?_, ?_⟩ <;> (repeat (first|with_reducible assumption|with_reducible refine fH ?_ (by omega) |with_reducible refine eF ?_ (by omega) |with_reducible refine fu ?_|intro _ _| (with_reducible apply pL;with_reducible assumption)));done) | (go_keep;done)) (first| (go_at_call 63; (first| ((with_reducible refine(cK _ g code _ (by unfold gZ;omega) hc).mono ?_);rintro e wq ⟨c_,rfl,c0,c1,hcn,hx⟩;replace bn:=bn.aM hx (by simp only [List.mem_cons,List.not_mem_nil,or_false];omega);replace ah:=ah.aM hx (by simp only [List.mem_cons,List.not_mem_nil,or_false];omega);replace bR:=bR.aM hx (fun b hb hm=>by simp only [List.mem_cons,List.not_mem_nil,or_false] at hm;have:=pQ b hb;have:=jZ b hb;omega);replace bQ:=bQ.aM hx (fun b hb hm=>by simp only [List.mem_cons,List.not_mem_nil,or_false] at hm;have:=pK b hb;have:=iD b hb;omega); (try replace bZ:=bZ.aM hx (fun b hb hm=>by simp only [List.mem_cons,List.not_mem_nil,or_false] at hm;have:=dY b hb;have:=u_n b hb;omega)); (try replace aU:=aU.aM hx (by simp only [List.mem_cons,List.not_mem_nil,or_false];omega)); (try replace bT:=aU.cell 0 _ rfl); (try replace bU:=aU.cell 1 _ rfl); (try replace dD:=aU.cell 2 _ rfl); (try replace dF:=aU.cell 3 _ rfl); (try replace gN:=aU.dn); (try replace dX:=aU.lt);replace hC:=aY.trans hC hx;replace hc:=hcn;have sz:=hx.size;replace sC:=hC.size;clear hx;clear bC bD bE bF bS dB;obtain⟨bC,bD,bE,bF,bS,dB⟩ :=bn.f4;clear aj ak aJ aK ay aI;obtain⟨aj,ak,aJ,aK,ay,aI⟩ :=ah.f4;replace pL:=bA.kr bQ;obtain⟨c_,rfl⟩ :=Int.eq_ofNat_of_zero_le c0) | ((with_reducible refine(cK _ g code _ (by unfold gZ;omega) (hc.alloc _)).mono ?_);rintro e wq ⟨c_,rfl,c0,c1,hcn,hx⟩;have qF:=bn.lt;have jy:=ah.lt;replace bn:= (bn.alloc _).aM hx (by simp only [List.mem_cons,List.not_mem_nil,or_false];omega);replace ah:= (ah.alloc _).aM hx (by simp only [List.mem_cons,List.not_mem_nil,or_false];omega);replace bR:= (bR.aH _).aM hx (fun b hb hm=>by simp only [List.mem_cons,List.not_mem_nil,or_false] at hm;have:=pQ b hb;have:=jZ b hb;omega);replace bQ:= (bQ.aH _).aM hx (fun b hb hm=>by simp only [List.mem_cons,List.not_mem_nil,or_false] at hm;have:=pK b hb;have:=iD b hb;omega); (try replace bZ:= (bZ.aH _).aM hx (fun b hb hm=>by simp only [List.mem_cons,List.not_mem_nil,or_false] at hm;have:=dY b hb;have:=u_n b hb;omega));have aU:=aB.aM (aB.new _ #[.slice none 0 0, .slice none 0 0, .slice none 0 0, .slice none 0 0] 31) hx (by simp only [List.mem_cons,List.not_mem_nil,or_false];omega);have jI:=hC.size;have gN:=aU.dn;have dX:=aU.lt;have bT:=aU.cell 0 _ rfl;have bU:=aU.cell 1 _ rfl;have dD:=aU.cell 2 _ rfl;have dF:=aU.cell 3 _ rfl;replace hC:=aY.trans (hC.aH _) hx;replace hc:=hcn;have sz:=gV hx.size;replace sC:=hC.size;clear hx;clear bC bD bE bF bS dB;obtain⟨bC,bD,bE,bF,bS,dB⟩ :=bn.f4;clear aj ak aJ aK ay aI;obtain⟨aj,ak,aJ,aK,ay,aI⟩ :=ah.f4;replace pL:=bA.kr bQ;obtain⟨c_,rfl⟩ :=Int.eq_ofNat_of_zero_le c0) | ((with_reducible refine(cK _ g code _ (by unfold gZ;omega) (hc.bf)).mono ?_);rintro e wq ⟨c_,rfl,c0,c1,hcn,hx⟩;replace bn:=bn.drew.aM hx (by simp only [List.mem_cons,List.not_mem_nil,or_false];omega);replace ah:=ah.drew.aM hx (by simp only [List.mem_cons,List.not_mem_nil,or_false];omega);replace bR:= (bR.bf).aM hx (fun b hb hm=>by simp only [List.mem_cons,List.not_mem_nil,or_false] at hm;have:=pQ b hb;have:=jZ b hb;omega);replace bQ:= (bQ.bf).aM hx (fun b hb hm=>by simp only [List.mem_cons,List.not_mem_nil,or_false] at hm;have:=pK b hb;have:=iD b hb;omega); (try replace bZ:= (bZ.bf).aM hx (fun b hb hm=>by simp only [List.mem_cons,List.not_mem_nil,or_false] at hm;have:=dY b hb;have:=u_n b hb;omega)); (try replace aU:=aU.drew.aM hx (by simp only [List.mem_cons,List.not_mem_nil,or_false];omega)); (try replace bT:=aU.cell 0 _ rfl); (try replace bU:=aU.cell 1 _ rfl); (try replace dD:=aU.cell 2 _ rfl); (try replace dF:=aU.cell 3 _ rfl); (try replace gN:=aU.dn); (try replace dX:=aU.lt);replace hC:=aY.trans hC.bf hx;replace hc:=hcn;have sz:=jE hx.size;replace sC:=hC.size;clear hx;clear bC bD bE bF bS dB;obtain⟨bC,bD,bE,bF,bS,dB⟩ :=bn.f4;clear aj ak aJ aK ay aI;obtain⟨aj,ak,aJ,aK,ay,aI⟩ :=ah.f4;replace pL:=bA.kr bQ;obtain⟨c_,rfl⟩ :=Int.eq_ofNat_of_zero_le c0) | ((with_reducible refine(cK _ g code _ (by unfold gZ;omega) ((hc.bf).alloc _)).mono ?_);rintro e wq ⟨c_,rfl,c0,c1,hcn,hx⟩;have qF:=bn.lt;have jy:=ah.lt;replace bn:= ((bn.drew).alloc _).aM hx (by simp only [List.mem_cons,List.not_mem_nil,or_false];omega);replace ah:= ((ah.drew).alloc _).aM hx (by simp only [List.mem_cons,List.not_mem_nil,or_false];omega);replace bR:= ((bR.bf).aH _).aM hx (fun b hb hm=>by simp only [List.mem_cons,List.not_mem_nil,or_false] at hm;have:=pQ b hb;have:=jZ b hb;omega);replace bQ:= ((bQ.bf).aH _).aM hx (fun b hb hm=>by simp only [List.mem_cons,List.not_mem_nil,or_false] at hm;have:=pK b hb;have:=iD b hb;omega); (try replace bZ:= ((bZ.bf).aH _).aM hx (fun b hb hm=>by simp only [List.mem_cons,List.not_mem_nil,or_false] at hm;have:=dY b hb;have:=u_n b hb;omega));have aU:=aB.aM (aB.new _ #[.slice none 0 0, .slice none 0 0, .slice none 0 0, .slice none 0 0] 31) hx (by simp only [List.mem_cons,List.not_mem_nil,or_false];omega); (try simp only [fq] at aU);have jI:=hC.size;have gN:=aU.dn;have dX:=aU.lt;have bT:=aU.cell 0 _ rfl;have bU:=aU.cell 1 _ rfl;have dD:=aU.cell 2 _ rfl;have dF:=aU.cell 3 _ rfl;replace hC:=aY.trans (hC.bf.aH _) hx;replace hc:=hcn;have sz:=iL hx.size;replace sC:=hC.size;clear hx;clear bC bD bE bF bS dB;obtain⟨bC,bD,bE,bF,bS,dB⟩ :=bn.f4;clear aj ak aJ aK ay aI;obtain⟨aj,ak,aJ,aK,ay,aI⟩ :=ah.f4;replace pL:=bA.kr bQ;obtain⟨c_,rfl⟩ :=Int.eq_ofNat_of_zero_le c0) | ((with_reducible refine(cK _ g code _ (by unfold gZ;omega) ((hc.alloc _).bf)).mono ?_);rintro e wq ⟨c_,rfl,c0,c1,hcn,hx⟩;have qF:=bn.lt;have jy:=ah.lt;replace bn:= (bn.alloc _).drew.aM hx (by simp only [List.mem_cons,List.not_mem_nil,or_false];omega);replace ah:= (ah.alloc _).drew.aM hx (by simp only [List.mem_cons,List.not_mem_nil,or_false];omega);replace bR:= ((bR.aH _).bf).aM hx (fun b hb hm=>by simp only [List.mem_cons,List.not_mem_nil,or_false] at hm;have:=pQ b hb;have:=jZ b hb;omega);replace bQ:= ((bQ.aH _).bf).aM hx (fun b hb hm=>by simp only [List.mem_cons,List.not_mem_nil,or_false] at hm;have:=pK b hb;have:=iD b hb;omega); (try replace bZ:= ((bZ.aH _).bf).aM hx (fun b hb hm=>by simp only [List.mem_cons,List.not_mem_nil,or_false] at hm;have:=dY b hb;have:=u_n b hb;omega));have aU:=aB.aM (aB.new _ #[.slice none 0 0, .slice none 0 0, .slice none 0 0, .slice none 0 0] 31).drew hx (by simp only [List.mem_cons,List.not_mem_nil,or_false];omega);have jI:=hC.size;have gN:=aU.dn;have dX:=aU.lt;have bT:=aU.cell 0 _ rfl;have bU:=aU.cell 1 _ rfl;have dD:=aU.cell 2 _ rfl;have dF:=aU.cell 3 _ rfl;replace hC:=aY.trans (hC.aH _).bf hx;replace hc:=hcn;have sz:=gV (jE hx.size);replace sC:=hC.size;clear hx;clear bC bD bE bF bS dB;obtain⟨bC,bD,bE,bF,bS,dB⟩ :=bn.f4;clear aj ak aJ aK ay aI;obtain⟨aj,ak,aJ,aK,ay,aI⟩ :=ah.f4;replace pL:=bA.kr bQ;obtain⟨c_,rfl⟩ :=Int.eq_ofNat_of_zero_le c0))) | (go_at_call 35; (first| ((with_reducible refine(pR _ dP x _ _ (bR).rd' HP).mono ?_);rintro e wq ⟨aG,y,h_,cd,rfl,bZ,HY,dY,hb⟩;have u_n:=bZ.lt;replace bn:=bn.below hb;replace ah:=ah.below hb;replace bR:=bR.step0 hb;replace bQ:=bQ.step0 hb; (try replace aU:=aU.below hb); (try replace bT:=aU.cell 0 _ rfl); (try replace bU:=aU.cell 1 _ rfl); (try replace dD:=aU.cell 2 _ rfl); (try replace dF:=aU.cell 3 _ rfl); (try replace gN:=aU.dn); (try replace dX:=aU.lt);replace hc:=f_.up hc hb;replace hC:=aY.trans hC (aY.of_below hb);have sz:=hb.size;replace sC:=hC.size;clear hb;clear bC bD bE bF bS dB;obtain⟨bC,bD,bE,bF,bS,dB⟩ :=bn.f4;clear aj ak aJ aK ay aI;obtain⟨aj,ak,aJ,aK,ay,aI⟩ :=ah.f4;replace pL:=bA.kr bQ) | ((with_reducible refine(pR _ dP x _ _ ((bR.aH _)).rd' HP).mono ?_);rintro e wq ⟨aG,y,h_,cd,rfl,bZ,HY,dY,hb⟩;replace dY:=lW dY;have u_n:=bZ.lt;have qF:=bn.lt;have jy:=ah.lt;replace bn:= (bn.alloc _).below hb;replace ah:= (ah.alloc _).below hb;replace bR:= (bR.aH _).step0 hb;replace bQ:= (bQ.aH _).step0 hb;have aU:=aB.below (aB.new _ #[.slice none 0 0, .slice none 0 0, .slice none 0 0, .slice none 0 0] 31) hb;have jI:=hC.size;have gN:=aU.dn;have dX:=aU.lt;have bT:=aU.cell 0 _ rfl;have bU:=aU.cell 1 _ rfl;have dD:=aU.cell 2 _ rfl;have dF:=aU.cell 3 _ rfl;replace hc:=f_.up (hc.alloc _) hb;replace hC:=aY.trans (hC.aH _) (aY.of_below hb);have sz:=gV hb.size;replace sC:=hC.size;clear hb;clear bC bD bE bF bS dB;obtain⟨bC,bD,bE,bF,bS,dB⟩ :=bn.f4;clear aj ak aJ aK ay aI;obtain⟨aj,ak,aJ,aK,ay,aI⟩ :=ah.f4;replace pL:=bA.kr bQ) | ((with_reducible refine(pR _ dP x _ _ ((bR.bf)).rd' HP).mono ?_);rintro e wq ⟨aG,y,h_,cd,rfl,bZ,HY,dY,hb⟩;replace hb:=gq hb;replace dY:=ji dY;have u_n:=bZ.lt;replace bn:=bn.below hb;replace ah:=ah.below hb;replace bR:=bR.step0 hb;replace bQ:=bQ.step0 hb; (try replace aU:=aU.below hb); (try replace bT:=aU.cell 0 _ rfl); (try replace bU:=aU.cell 1 _ rfl); (try replace dD:=aU.cell 2 _ rfl); (try replace dF:=aU.cell 3 _ rfl); (try replace gN:=aU.dn); (try replace dX:=aU.lt);replace hc:=f_.up hc hb;replace hC:=aY.trans hC (aY.of_below hb);have sz:=hb.size;replace sC:=hC.size;clear hb;clear bC bD bE bF bS dB;obtain⟨bC,bD,bE,bF,bS,dB⟩ :=bn.f4;clear aj ak aJ aK ay aI;obtain⟨aj,ak,aJ,aK,ay,aI⟩ :=ah.f4;replace pL:=bA.kr bQ) | ((with_reducible refine(pR _ dP x _ _ (((bR.bf).aH _)).rd' HP).mono ?_);rintro e wq ⟨aG,y,h_,cd,rfl,bZ,HY,dY,hb⟩;replace dY:=mV dY;have u_n:=bZ.lt;have qF:=bn.lt;have jy:=ah.lt;replace bn:= ((bn.drew).alloc _).below hb;replace ah:= ((ah.drew).alloc _).below hb;replace bR:= ((bR.bf).aH _).step0 hb;replace bQ:= ((bQ.bf).aH _).step0 hb;have aU:=aB.below (aB.new _ #[.slice none 0 0, .slice none 0 0, .slice none 0 0, .slice none 0 0] 31) hb; (try simp only [fq] at aU);have jI:=hC.size;have gN:=aU.dn;have dX:=aU.lt;have bT:=aU.cell 0 _ rfl;have bU:=aU.cell 1 _ rfl;have dD:=aU.cell 2 _ rfl;have dF:=aU.cell 3 _ rfl;replace hc:=f_.up ((hc.bf).alloc _) hb;replace hC:=aY.trans (hC.bf.aH _) (aY.of_below hb);have sz:=iL hb.size;replace sC:=hC.size;clear hb;clear bC bD bE bF bS dB;obtain⟨bC,bD,bE,bF,bS,dB⟩ :=bn.f4;clear aj ak aJ aK ay aI;obtain⟨aj,ak,aJ,aK,ay,aI⟩ :=ah.f4;replace pL:=bA.kr bQ) | ((with_reducible refine(pR _ dP x _ _ (((bR.aH _).bf)).rd' HP).mono ?_);rintro e wq ⟨aG,y,h_,cd,rfl,bZ,HY,dY,hb⟩;replace hb:=gq hb;replace dY:=ji dY;replace dY:=lW dY;have u_n:=bZ.lt;have qF:=bn.lt;have jy:=ah.lt;replace bn:= (bn.alloc _).below hb;replace ah:= (ah.alloc _).below hb;replace bR:= (bR.aH _).step0 hb;replace bQ:= (bQ.aH _).step0 hb;have aU:=aB.below (aB.new _ #[.slice none 0 0, .slice none 0 0, .slice none 0 0, .slice none 0 0] 31) hb;have jI:=hC.size;have gN:=aU.dn;have dX:=aU.lt;have bT:=aU.cell 0 _ rfl;have bU:=aU.cell 1 _ rfl;have dD:=aU.cell 2 _ rfl;have dF:=aU.cell 3 _ rfl;replace hc:=f_.up (hc.alloc _) hb;replace hC:=aY.trans (hC.aH _) (aY.of_below hb);have sz:=gV hb.size;replace sC:=hC.size;clear hb;clear bC bD bE bF bS dB;obtain⟨bC,bD,bE,bF,bS,dB⟩ :=bn.f4;clear aj ak aJ aK ay aI;obtain⟨aj,ak,aJ,aK,ay,aI⟩ :=ah.f4;replace pL:=bA.kr bQ))))
     all_goals
      go_wp2_with fail
      go_meet
      first|exact⟨_,aG,y,h_,cd,rfl,rfl,rfl,HY,bn.alloc _,ah.alloc _,aB.new _ _ _,bR.aH _,bQ.aH _,bZ.aH _,fun b hb=> ⟨by have:=dY b hb;omega,by have:=u_n b hb;omega⟩,by omega,hc.alloc _,hC.aH _,by simp<;>omega⟩ | (obtain⟨go,hgo,og⟩ :=aU.ad;rw [←hgo];rw [←hgo] at jI;exact⟨go,aG,y,h_,cd,rfl,rfl,rfl,HY, ((((bn.other (by omega) _).other (by omega) _).other (by omega) _).other (by omega) _), ((((ah.other (by omega) _).other (by omega) _).other (by omega) _).other (by omega) _), ((((og.set 0 _).set 1 _).set 2 _).set 3 _),bR.aM (F:= [go]) bW (fun b hb hm=>by simp only [List.mem_cons,List.not_mem_nil,or_false] at hm;have:=pQ b hb;have:=jZ b hb;omega),bQ.aM (F:= [go]) bW (fun b hb hm=>by simp only [List.mem_cons,List.not_mem_nil,or_false] at hm;have:=pK b hb;have:=iD b hb;omega),bZ.aM (F:= [go]) bW (fun b hb hm=>by simp only [List.mem_cons,List.not_mem_nil,or_false] at hm;have:=dY b hb;have:=u_n b hb;omega),fun b hb=> ⟨by have:=dY b hb;omega,by have:=dY b hb;have:=u_n b hb;omega⟩,by omega,hc.je (B:=w.heap.size) hgl dQ hC.size, ((((hC.gY (by omega) _).gY (by omega) _).gY (by omega) _).gY (by omega) _),by simp<;>omega⟩)
    case rest=>
     clear bn bS dB bC bD bE bF
     clear ah ay aI aj ak aJ aK
     clear bR
     clear bQ
     clear pL
     clear hC hc
     obtain⟨go,aG,y,h_,cd,rfl,rfl,rfl,HY,bn,ah,aU,bR,bQ,bZ,dY,F5,hc,hC,sz⟩ :=hcut
     have rD:=aU.lt
     have jI : w.heap.size≤go:=by omega
     have u_n:=bZ.lt
     have sC:=hC.size
     obtain⟨bC,bD,bE,bF,bS,dB⟩ :=bn.f4
     obtain⟨aj,ak,aJ,aK,ay,aI⟩ :=ah.f4
     obtain⟨bT,bU,dD,dF,eU,dX⟩ :=aU.f4
     have pL:=bA.kr bQ
     go_upto_region 11 with (fail)
     clear bR
     replace bn : aB ((((wc.setCell ⟨w1.heap.size,0,none⟩ (.slice aG.E.Y.a aG.E.Y.l aG.E.Y.c)).setCell ⟨w1.heap.size,1,none⟩ (.slice aG.E.Z.a aG.E.Z.l aG.E.Z.c)).setCell ⟨w1.heap.size,2,none⟩ (.slice aG.I.G.a aG.I.G.l aG.I.G.c)).setCell ⟨w1.heap.size,3,none⟩ (.slice aG.I.O.a aG.I.O.l aG.I.O.c)) (w1.heap.size) [.slice aG.E.Y.a aG.E.Y.l aG.E.Y.c, .slice aG.E.Z.a aG.E.Z.l aG.E.Z.c, .slice aG.I.G.a aG.I.G.l aG.I.G.c, .slice aG.I.O.a aG.I.O.l aG.I.O.c]:= ((((bn.set 0 (.slice aG.E.Y.a aG.E.Y.l aG.E.Y.c)).set 1 (.slice aG.E.Z.a aG.E.Z.l aG.E.Z.c)).set 2 (.slice aG.I.G.a aG.I.G.l aG.I.G.c)).set 3 (.slice aG.I.O.a aG.I.O.l aG.I.O.c))
     replace ah : aB ((((wc.setCell ⟨w1.heap.size,0,none⟩ (.slice aG.E.Y.a aG.E.Y.l aG.E.Y.c)).setCell ⟨w1.heap.size,1,none⟩ (.slice aG.E.Z.a aG.E.Z.l aG.E.Z.c)).setCell ⟨w1.heap.size,2,none⟩ (.slice aG.I.G.a aG.I.G.l aG.I.G.c)).setCell ⟨w1.heap.size,3,none⟩ (.slice aG.I.O.a aG.I.O.l aG.I.O.c)) (w.heap.size) [.slice none 0 0, .slice none 0 0, .slice none 0 0, .slice none 0 0]:= ((((ah.other (by omega) _).other (by omega) _).other (by omega) _).other (by omega) _)
     replace aU : aB ((((wc.setCell ⟨w1.heap.size,0,none⟩ (.slice aG.E.Y.a aG.E.Y.l aG.E.Y.c)).setCell ⟨w1.heap.size,1,none⟩ (.slice aG.E.Z.a aG.E.Z.l aG.E.Z.c)).setCell ⟨w1.heap.size,2,none⟩ (.slice aG.I.G.a aG.I.G.l aG.I.G.c)).setCell ⟨w1.heap.size,3,none⟩ (.slice aG.I.O.a aG.I.O.l aG.I.O.c)) (go) [.slice aG.E.Y.a aG.E.Y.l aG.E.Y.c, .slice aG.E.Z.a aG.E.Z.l aG.E.Z.c, .slice aG.I.G.a aG.I.G.l aG.I.G.c, .slice aG.I.O.a aG.I.O.l aG.I.O.c]:= ((((aU.other (by omega) _).other (by omega) _).other (by omega) _).other (by omega) _)
     replace bQ:=bQ.aM (F:= [w1.heap.size]) (w':= ((((wc.setCell ⟨w1.heap.size,0,none⟩ (.slice aG.E.Y.a aG.E.Y.l aG.E.Y.c)).setCell ⟨w1.heap.size,1,none⟩ (.slice aG.E.Z.a aG.E.Z.l aG.E.Z.c)).setCell ⟨w1.heap.size,2,none⟩ (.slice aG.I.G.a aG.I.G.l aG.I.G.c)).setCell ⟨w1.heap.size,3,none⟩ (.slice aG.I.O.a aG.I.O.l aG.I.O.c))) bW (fun b hb hm=>by simp only [List.mem_cons,List.not_mem_nil,or_false] at hm;have:=pK b hb;have:=iD b hb;omega)
     replace bZ:=bZ.aM (F:= [w1.heap.size]) (w':= ((((wc.setCell ⟨w1.heap.size,0,none⟩ (.slice aG.E.Y.a aG.E.Y.l aG.E.Y.c)).setCell ⟨w1.heap.size,1,none⟩ (.slice aG.E.Z.a aG.E.Z.l aG.E.Z.c)).setCell ⟨w1.heap.size,2,none⟩ (.slice aG.I.G.a aG.I.G.l aG.I.G.c)).setCell ⟨w1.heap.size,3,none⟩ (.slice aG.I.O.a aG.I.O.l aG.I.O.c))) bW (fun b hb hm=>by simp only [List.mem_cons,List.not_mem_nil,or_false] at hm;have:=dY b hb;have:=u_n b hb;omega)
     replace hc : f_ ((((wc.setCell ⟨w1.heap.size,0,none⟩ (.slice aG.E.Y.a aG.E.Y.l aG.E.Y.c)).setCell ⟨w1.heap.size,1,none⟩ (.slice aG.E.Z.a aG.E.Z.l aG.E.Z.c)).setCell ⟨w1.heap.size,2,none⟩ (.slice aG.I.G.a aG.I.G.l aG.I.G.c)).setCell ⟨w1.heap.size,3,none⟩ (.slice aG.I.O.a aG.I.O.l aG.I.O.c)) g code:=hc.je (B:=w.heap.size) hgl dQ hC.size
     replace hC : aY [g] w ((((wc.setCell ⟨w1.heap.size,0,none⟩ (.slice aG.E.Y.a aG.E.Y.l aG.E.Y.c)).setCell ⟨w1.heap.size,1,none⟩ (.slice aG.E.Z.a aG.E.Z.l aG.E.Z.c)).setCell ⟨w1.heap.size,2,none⟩ (.slice aG.I.G.a aG.I.G.l aG.I.G.c)).setCell ⟨w1.heap.size,3,none⟩ (.slice aG.I.O.a aG.I.O.l aG.I.O.c)) := ((((hC.gY (by omega) _).gY (by omega) _).gY (by omega) _).gY (by omega) _)
     have sz : wc.heap.size≤ ((((wc.setCell ⟨w1.heap.size,0,none⟩ (.slice aG.E.Y.a aG.E.Y.l aG.E.Y.c)).setCell ⟨w1.heap.size,1,none⟩ (.slice aG.E.Z.a aG.E.Z.l aG.E.Z.c)).setCell ⟨w1.heap.size,2,none⟩ (.slice aG.I.G.a aG.I.G.l aG.I.G.c)).setCell ⟨w1.heap.size,3,none⟩ (.slice aG.I.O.a aG.I.O.l aG.I.O.c)).heap.size:=by simp
     generalize hG : ((((wc.setCell ⟨w1.heap.size,0,none⟩ (.slice aG.E.Y.a aG.E.Y.l aG.E.Y.c)).setCell ⟨w1.heap.size,1,none⟩ (.slice aG.E.Z.a aG.E.Z.l aG.E.Z.c)).setCell ⟨w1.heap.size,2,none⟩ (.slice aG.I.G.a aG.I.G.l aG.I.G.c)).setCell ⟨w1.heap.size,3,none⟩ (.slice aG.I.O.a aG.I.O.l aG.I.O.c)) =JF at bn ah aU bQ bZ hC hc sz⊢
     clear hG
     replace sC:=hC.size
     clear bC bD bE bF bS dB
     obtain⟨bC,bD,bE,bF,bS,dB⟩ :=bn.f4
     clear aj ak aJ aK ay aI
     obtain⟨aj,ak,aJ,aK,ay,aI⟩ :=ah.f4
     clear bT bU dD dF eU dX
     obtain⟨bT,bU,dD,dF,eU,dX⟩ :=aU.f4
     clear aU eU dX bT bU dD dF
     by_cases hcd : cd=0
     case neg=>
      have Qt : (cd == 0) =false:=by simpa using hcd
      go_wp2_with fail
      go_roundw
      case rel=>exact⟨k - 1,aG,y,l,by go_num,by omega,bn,ah,bZ,HY,fun b hb=>by have:=dY b hb;omega,bQ,fun b hb=> ⟨(pK b hb).1, (pK b hb).2.1,fun hm=>by have:=dY b hm;have:=iD b hb;omega⟩,hl0,by omega,hc,hC⟩
      case measure=>simp [intOf];omega
     subst hcd
     have hgn : gl∉aG.foot:=fun hm=>by have:=dY gl hm;omega
     go_wp2_with (at_builtin;refine gu Tryz.stInt rfl _ _ rfl (v:= .slice (some ⟨gl,0,none⟩) l.length cp) (y:= .slice (some ⟨JF.heap.size,0,none⟩) 1 1) (l:=l) (m:= [h_]) rfl rfl (bA.aH bQ _) (bA.lit FI [h_] #[.int .i64 h_] rfl (by simp [maxLen]) JF 3).rd' (by simp;omega) ?_;intro v4 w4 CW hg4 BX;obtain⟨A4,c4,hv4,_⟩ :=id CW.rd';simp only [List.length_append,List.length_cons,List.length_nil] at hv4;subst hv4;have hx4:=aY.jP hg4;have hx5 : aY [gl] (JF.alloc (.cells #[.int .i64 h_] 3)) w4:=hx4.mono (fun b hb=>by have:=bY.1 hb;simp [this]);have MF:= (bZ.aH (.cells #[.int .i64 h_] 3)).aM hx5 (fun b hb hm=>by simp only [List.mem_cons,List.not_mem_nil,or_false] at hm;subst hm;exact hgn hb);replace bn:= (bn.alloc (.cells #[.int .i64 h_] 3)).aM hx5 (by simp;omega);clear bC bD bE bF bS dB;obtain⟨bC,bD,bE,bF,bS,dB⟩ :=bn.f4;replace ah:= (ah.alloc (.cells #[.int .i64 h_] 3)).aM hx5 (by simp;omega);clear aj ak aJ aK ay aI;obtain⟨aj,ak,aJ,aK,ay,aI⟩ :=ah.f4;have xq : Below w.heap.size JF w4:= ((Below.refl _ _).alloc hC.size _).grown hg4 (by simp;omega) (fun b hb=>by have:=bY.1 (bV.2 hb);omega))
     have Nq:=hc.je (B:=w.heap.size) hgl xq hC.size
     have Nr:=hC.then_ xq
     have Nb:=xq.size
     have Pk:=hx5.size
     simp only [World.size_alloc] at Pk
     have f4 : ∀b∈cu (.slice A4 (l.length+ (0+1)) c4),b=gl∨b=JF.heap.size+1:=fun b hb=>by rcases BX with h1|h1; (rw [bV] at hb;rw [h1] at hb;exact .inl (bY.1 (bV.2 hb))); (rw [bV] at hb;rw [h1] at hb;injection hb with hb;simp at hb;exact .inr hb.symm)
     clear hc hC bQ bZ
     have hc:=Nq
     have hC:=Nr
     have bZ:=MF
     have bQ:=CW
     clear Nq Nr MF CW BX hg4 hx4 hx5 xq pL
     replace sC:=hC.size
     have qc:=iQ bQ
     have ME:=dB
     have F4:=aI
     go_upto_region 13 with (fail)
     go_cut [14,15] from 58 to 77 (fun v14 v15 wx=> ∃ (go : Nat) (dI : bP) (z : Mem) (ce : Int),v14= .pointer (some ⟨go,0,none⟩) ∧v15= .int .i64 ce∧ (jD z) ∧aB wx (w1.heap.size) [.slice aG.E.Y.a aG.E.Y.l aG.E.Y.c, .slice aG.E.Z.a aG.E.Z.l aG.E.Z.c, .slice aG.I.G.a aG.I.G.l aG.I.G.c, .slice aG.I.O.a aG.I.O.l aG.I.O.c]∧aB wx (w.heap.size) [.slice none 0 0, .slice none 0 0, .slice none 0 0, .slice none 0 0]∧aB wx go [.slice dI.E.Y.a dI.E.Y.l dI.E.Y.c, .slice dI.E.Z.a dI.E.Z.l dI.E.Z.c, .slice dI.I.G.a dI.I.G.l dI.I.G.c, .slice dI.I.O.a dI.I.O.l dI.I.O.c]∧d9 wx aG y∧bA FI 3 wx (.slice A4 (l.length+ (0+1)) c4) (l++ [h_]) ∧d9 wx dI z∧ (∀b∈dI.foot,w4.heap.size≤b∧b≠go) ∧w4.heap.size≤go∧f_ wx g code∧aY [g] w wx∧w4.heap.size≤wx.heap.size)
     case first=>
      go_region_held3 (fun w'=>w'.cell? ⟨w1.heap.size,0,none⟩ =some (.slice aG.E.Y.a aG.E.Y.l aG.E.Y.c) ∧w'.cell? ⟨w1.heap.size,1,none⟩ =some (.slice aG.E.Z.a aG.E.Z.l aG.E.Z.c) ∧w'.cell? ⟨w1.heap.size,2,none⟩ =some (.slice aG.I.G.a aG.I.G.l aG.I.G.c) ∧w'.cell? ⟨w1.heap.size,3,none⟩ =some (.slice aG.I.O.a aG.I.O.l aG.I.O.c)) (first| (with_reducible exact⟨bC,bD,bE,bF⟩) | (refine⟨?_, ?_, ?_, ?_⟩ <;> (repeat (first|with_reducible assumption|with_reducible refine fH ?_ (by omega) |with_reducible refine eF ?_ (by omega) |with_reducible refine fu ?_));done) | (go_keep;done)) (first| (go_at_call 63; (first| ((with_reducible refine(cK _ g code _ (by unfold gZ;omega) hc).mono ?_);rintro e wq ⟨c_,rfl,c0,c1,hcn,hx⟩;replace bn:=bn.aM hx (by simp only [List.mem_cons,List.not_mem_nil,or_false];omega);replace ah:=ah.aM hx (by simp only [List.mem_cons,List.not_mem_nil,or_false];omega);replace bZ:=bZ.aM hx (fun b hb hm=>by simp only [List.mem_cons,List.not_mem_nil,or_false] at hm;have:=dY b hb;have:=u_n b hb;omega);replace bQ:=bQ.aM hx (fun b hb hm=>by simp only [List.mem_cons,List.not_mem_nil,or_false] at hm;have:=f4 b hb;have:=qc b hb;omega); (try replace lY:=lY.aM hx (fun b hb hm=>by simp only [List.mem_cons,List.not_mem_nil,or_false] at hm;have:=lZ b hb;have:=tH b hb;omega)); (try replace aU:=aU.aM hx (by simp only [List.mem_cons,List.not_mem_nil,or_false];omega)); (try replace bT:=aU.cell 0 _ rfl); (try replace bU:=aU.cell 1 _ rfl); (try replace dD:=aU.cell 2 _ rfl); (try replace dF:=aU.cell 3 _ rfl); (try replace gN:=aU.dn); (try replace dX:=aU.lt);replace hC:=aY.trans hC hx;replace hc:=hcn;have sz:=hx.size;replace sC:=hC.size;clear hx;clear bC bD bE bF bS dB;obtain⟨bC,bD,bE,bF,bS,dB⟩ :=bn.f4;clear aj ak aJ aK ay aI;obtain⟨aj,ak,aJ,aK,ay,aI⟩ :=ah.f4;obtain⟨c_,rfl⟩ :=Int.eq_ofNat_of_zero_le c0) | ((with_reducible refine(cK _ g code _ (by unfold gZ;omega) (hc.alloc _)).mono ?_);rintro e wq ⟨c_,rfl,c0,c1,hcn,hx⟩;have qF:=bn.lt;have jy:=ah.lt;replace bn:= (bn.alloc _).aM hx (by simp only [List.mem_cons,List.not_mem_nil,or_false];omega);replace ah:= (ah.alloc _).aM hx (by simp only [List.mem_cons,List.not_mem_nil,or_false];omega);replace bZ:= (bZ.aH _).aM hx (fun b hb hm=>by simp only [List.mem_cons,List.not_mem_nil,or_false] at hm;have:=dY b hb;have:=u_n b hb;omega);replace bQ:= (bQ.aH _).aM hx (fun b hb hm=>by simp only [List.mem_cons,List.not_mem_nil,or_false] at hm;have:=f4 b hb;have:=qc b hb;omega); (try replace lY:= (lY.aH _).aM hx (fun b hb hm=>by simp only [List.mem_cons,List.not_mem_nil,or_false] at hm;have:=lZ b hb;have:=tH b hb;omega));have aU:=aB.aM (aB.new _ #[.slice none 0 0, .slice none 0 0, .slice none 0 0, .slice none 0 0] 31) hx (by simp only [List.mem_cons,List.not_mem_nil,or_false];omega);have jI:=hC.size;have gN:=aU.dn;have dX:=aU.lt;have bT:=aU.cell 0 _ rfl;have bU:=aU.cell 1 _ rfl;have dD:=aU.cell 2 _ rfl;have dF:=aU.cell 3 _ rfl;replace hC:=aY.trans (hC.aH _) hx;replace hc:=hcn;have sz:=gV hx.size;replace sC:=hC.size;clear hx;clear bC bD bE bF bS dB;obtain⟨bC,bD,bE,bF,bS,dB⟩ :=bn.f4;clear aj ak aJ aK ay aI;obtain⟨aj,ak,aJ,aK,ay,aI⟩ :=ah.f4;obtain⟨c_,rfl⟩ :=Int.eq_ofNat_of_zero_le c0) | ((with_reducible refine(cK _ g code _ (by unfold gZ;omega) (hc.bf)).mono ?_);rintro e wq ⟨c_,rfl,c0,c1,hcn,hx⟩;replace bn:=bn.drew.aM hx (by simp only [List.mem_cons,List.not_mem_nil,or_false];omega);replace ah:=ah.drew.aM hx (by simp only [List.mem_cons,List.not_mem_nil,or_false];omega);replace bZ:= (bZ.bf).aM hx (fun b hb hm=>by simp only [List.mem_cons,List.not_mem_nil,or_false] at hm;have:=dY b hb;have:=u_n b hb;omega);replace bQ:= (bQ.bf).aM hx (fun b hb hm=>by simp only [List.mem_cons,List.not_mem_nil,or_false] at hm;have:=f4 b hb;have:=qc b hb;omega); (try replace lY:= (lY.bf).aM hx (fun b hb hm=>by simp only [List.mem_cons,List.not_mem_nil,or_false] at hm;have:=lZ b hb;have:=tH b hb;omega)); (try replace aU:=aU.drew.aM hx (by simp only [List.mem_cons,List.not_mem_nil,or_false];omega)); (try replace bT:=aU.cell 0 _ rfl); (try replace bU:=aU.cell 1 _ rfl); (try replace dD:=aU.cell 2 _ rfl); (try replace dF:=aU.cell 3 _ rfl); (try replace gN:=aU.dn); (try replace dX:=aU.lt);replace hC:=aY.trans hC.bf hx;replace hc:=hcn;have sz:=jE hx.size;replace sC:=hC.size;clear hx;clear bC bD bE bF bS dB;obtain⟨bC,bD,bE,bF,bS,dB⟩ :=bn.f4;clear aj ak aJ aK ay aI;obtain⟨aj,ak,aJ,aK,ay,aI⟩ :=ah.f4;obtain⟨c_,rfl⟩ :=Int.eq_ofNat_of_zero_le c0) | ((with_reducible refine(cK _ g code _ (by unfold gZ;omega) ((hc.bf).alloc _)).mono ?_);rintro e wq ⟨c_,rfl,c0,c1,hcn,hx⟩;have qF:=bn.lt;have jy:=ah.lt;replace bn:= ((bn.drew).alloc _).aM hx (by simp only [List.mem_cons,List.not_mem_nil,or_false];omega);replace ah:= ((ah.drew).alloc _).aM hx (by simp only [List.mem_cons,List.not_mem_nil,or_false];omega);replace bZ:= ((bZ.bf).aH _).aM hx (fun b hb hm=>by simp only [List.mem_cons,List.not_mem_nil,or_false] at hm;have:=dY b hb;have:=u_n b hb;omega);replace bQ:= ((bQ.bf).aH _).aM hx (fun b hb hm=>by simp only [List.mem_cons,List.not_mem_nil,or_false] at hm;have:=f4 b hb;have:=qc b hb;omega); (try replace lY:= ((lY.bf).aH _).aM hx (fun b hb hm=>by simp only [List.mem_cons,List.not_mem_nil,or_false] at hm;have:=lZ b hb;have:=tH b hb;omega));have aU:=aB.aM (aB.new _ #[.slice none 0 0, .slice none 0 0, .slice none 0 0, .slice none 0 0] 31) hx (by simp only [List.mem_cons,List.not_mem_nil,or_false];omega); (try simp only [fq] at aU);have jI:=hC.size;have gN:=aU.dn;have dX:=aU.lt;have bT:=aU.cell 0 _ rfl;have bU:=aU.cell 1 _ rfl;have dD:=aU.cell 2 _ rfl;have dF:=aU.cell 3 _ rfl;replace hC:=aY.trans (hC.bf.aH _) hx;replace hc:=hcn;have sz:=iL hx.size;replace sC:=hC.size;clear hx;clear bC bD bE bF bS dB;obtain⟨bC,bD,bE,bF,bS,dB⟩ :=bn.f4;clear aj ak aJ aK ay aI;obtain⟨aj,ak,aJ,aK,ay,aI⟩ :=ah.f4;obtain⟨c_,rfl⟩ :=Int.eq_ofNat_of_zero_le c0) | ((with_reducible refine(cK _ g code _ (by unfold gZ;omega) ((hc.alloc _).bf)).mono ?_);rintro e wq ⟨c_,rfl,c0,c1,hcn,hx⟩;have qF:=bn.lt;have jy:=ah.lt;replace bn:= (bn.alloc _).drew.aM hx (by simp only [List.mem_cons,List.not_mem_nil,or_false];omega);replace ah:= (ah.alloc _).drew.aM hx (by simp only [List.mem_cons,List.not_mem_nil,or_false];omega);replace bZ:= ((bZ.aH _).bf).aM hx (fun b hb hm=>by simp only [List.mem_cons,List.not_mem_nil,or_false] at hm;have:=dY b hb;have:=u_n b hb;omega);replace bQ:= ((bQ.aH _).bf).aM hx (fun b hb hm=>by simp only [List.mem_cons,List.not_mem_nil,or_false] at hm;have:=f4 b hb;have:=qc b hb;omega); (try replace lY:= ((lY.aH _).bf).aM hx (fun b hb hm=>by simp only [List.mem_cons,List.not_mem_nil,or_false] at hm;have:=lZ b hb;have:=tH b hb;omega));have aU:=aB.aM (aB.new _ #[.slice none 0 0, .slice none 0 0, .slice none 0 0, .slice none 0 0] 31).drew hx (by simp only [List.mem_cons,List.not_mem_nil,or_false];omega);have jI:=hC.size;have gN:=aU.dn;have dX:=aU.lt;have bT:=aU.cell 0 _ rfl;have bU:=aU.cell 1 _ rfl;have dD:=aU.cell 2 _ rfl;have dF:=aU.cell 3 _ rfl;replace hC:=aY.trans (hC.aH _).bf hx;replace hc:=hcn;have sz:=gV (jE hx.size);replace sC:=hC.size;clear hx;clear bC bD bE bF bS dB;obtain⟨bC,bD,bE,bF,bS,dB⟩ :=bn.f4;clear aj ak aJ aK ay aI;obtain⟨aj,ak,aJ,aK,ay,aI⟩ :=ah.f4;obtain⟨c_,rfl⟩ :=Int.eq_ofNat_of_zero_le c0))) | (go_at_call 25; (first| ((with_reducible refine(qE _ aG y _ _ _ _ (bZ).rd' HY (by unfold gZ;omega)).mono ?_);rintro e wq ⟨dI,z,ce,rfl,lY,HZ,lZ,hb⟩;have tH:=lY.lt;replace bn:=bn.below hb;replace ah:=ah.below hb;replace bZ:=bZ.step0 hb;replace bQ:=bQ.step0 hb; (try replace aU:=aU.below hb); (try replace bT:=aU.cell 0 _ rfl); (try replace bU:=aU.cell 1 _ rfl); (try replace dD:=aU.cell 2 _ rfl); (try replace dF:=aU.cell 3 _ rfl); (try replace gN:=aU.dn); (try replace dX:=aU.lt);replace hc:=f_.up hc hb;replace hC:=aY.trans hC (aY.of_below hb);have sz:=hb.size;replace sC:=hC.size;clear hb;clear bC bD bE bF bS dB;obtain⟨bC,bD,bE,bF,bS,dB⟩ :=bn.f4;clear aj ak aJ aK ay aI;obtain⟨aj,ak,aJ,aK,ay,aI⟩ :=ah.f4) | ((with_reducible refine(qE _ aG y _ _ _ _ ((bZ.aH _)).rd' HY (by unfold gZ;omega)).mono ?_);rintro e wq ⟨dI,z,ce,rfl,lY,HZ,lZ,hb⟩;replace lZ:=lW lZ;have tH:=lY.lt;have qF:=bn.lt;have jy:=ah.lt;replace bn:= (bn.alloc _).below hb;replace ah:= (ah.alloc _).below hb;replace bZ:= (bZ.aH _).step0 hb;replace bQ:= (bQ.aH _).step0 hb;have aU:=aB.below (aB.new _ #[.slice none 0 0, .slice none 0 0, .slice none 0 0, .slice none 0 0] 31) hb;have jI:=hC.size;have gN:=aU.dn;have dX:=aU.lt;have bT:=aU.cell 0 _ rfl;have bU:=aU.cell 1 _ rfl;have dD:=aU.cell 2 _ rfl;have dF:=aU.cell 3 _ rfl;replace hc:=f_.up (hc.alloc _) hb;replace hC:=aY.trans (hC.aH _) (aY.of_below hb);have sz:=gV hb.size;replace sC:=hC.size;clear hb;clear bC bD bE bF bS dB;obtain⟨bC,bD,bE,bF,bS,dB⟩ :=bn.f4;clear aj ak aJ aK ay aI;obtain⟨aj,ak,aJ,aK,ay,aI⟩ :=ah.f4) | ((with_reducible refine(qE _ aG y _ _ _ _ ((bZ.bf)).rd' HY (by unfold gZ;omega)).mono ?_);rintro e wq ⟨dI,z,ce,rfl,lY,HZ,lZ,hb⟩;replace hb:=gq hb;replace lZ:=ji lZ;have tH:=lY.lt;replace bn:=bn.below hb;replace ah:=ah.below hb;replace bZ:=bZ.step0 hb;replace bQ:=bQ.step0 hb; (try replace aU:=aU.below hb); (try replace bT:=aU.cell 0 _ rfl); (try replace bU:=aU.cell 1 _ rfl); (try replace dD:=aU.cell 2 _ rfl); (try replace dF:=aU.cell 3 _ rfl); (try replace gN:=aU.dn); (try replace dX:=aU.lt);replace hc:=f_.up hc hb;replace hC:=aY.trans hC (aY.of_below hb);have sz:=hb.size;replace sC:=hC.size;clear hb;clear bC bD bE bF bS dB;obtain⟨bC,bD,bE,bF,bS,dB⟩ :=bn.f4;clear aj ak aJ aK ay aI;obtain⟨aj,ak,aJ,aK,ay,aI⟩ :=ah.f4) | ((with_reducible refine(qE _ aG y _ _ _ _ (((bZ.bf).aH _)).rd' HY (by unfold gZ;omega)).mono ?_);rintro e wq ⟨dI,z,ce,rfl,lY,HZ,lZ,hb⟩;replace lZ:=mV lZ;have tH:=lY.lt;have qF:=bn.lt;have jy:=ah.lt;replace bn:= ((bn.drew).alloc _).below hb;replace ah:= ((ah.drew).alloc _).below hb;replace bZ:= ((bZ.bf).aH _).step0 hb;replace bQ:= ((bQ.bf).aH _).step0 hb;have aU:=aB.below (aB.new _ #[.slice none 0 0, .slice none 0 0, .slice none 0 0, .slice none 0 0] 31) hb; (try simp only [fq] at aU);have jI:=hC.size;have gN:=aU.dn;have dX:=aU.lt;have bT:=aU.cell 0 _ rfl;have bU:=aU.cell 1 _ rfl;have dD:=aU.cell 2 _ rfl;have dF:=aU.cell 3 _ rfl;replace hc:=f_.up ((hc.bf).alloc _) hb;replace hC:=aY.trans (hC.bf.aH _) (aY.of_below hb);have sz:=iL hb.size;replace sC:=hC.size;clear hb;clear bC bD bE bF bS dB;obtain⟨bC,bD,bE,bF,bS,dB⟩ :=bn.f4;clear aj ak aJ aK ay aI;obtain⟨aj,ak,aJ,aK,ay,aI⟩ :=ah.f4) | ((with_reducible refine(qE _ aG y _ _ _ _ (((bZ.aH _).bf)).rd' HY (by unfold gZ;omega)).mono ?_);rintro e wq ⟨dI,z,ce,rfl,lY,HZ,lZ,hb⟩;replace hb:=gq hb;replace lZ:=ji lZ;replace lZ:=lW lZ;have tH:=lY.lt;have qF:=bn.lt;have jy:=ah.lt;replace bn:= (bn.alloc _).below hb;replace ah:= (ah.alloc _).below hb;replace bZ:= (bZ.aH _).step0 hb;replace bQ:= (bQ.aH _).step0 hb;have aU:=aB.below (aB.new _ #[.slice none 0 0, .slice none 0 0, .slice none 0 0, .slice none 0 0] 31) hb;have jI:=hC.size;have gN:=aU.dn;have dX:=aU.lt;have bT:=aU.cell 0 _ rfl;have bU:=aU.cell 1 _ rfl;have dD:=aU.cell 2 _ rfl;have dF:=aU.cell 3 _ rfl;replace hc:=f_.up (hc.alloc _) hb;replace hC:=aY.trans (hC.aH _) (aY.of_below hb);have sz:=gV hb.size;replace sC:=hC.size;clear hb;clear bC bD bE bF bS dB;obtain⟨bC,bD,bE,bF,bS,dB⟩ :=bn.f4;clear aj ak aJ aK ay aI;obtain⟨aj,ak,aJ,aK,ay,aI⟩ :=ah.f4))))
      all_goals
       go_wp2_with fail
       go_meet
       first|exact⟨_,dI,z,ce,rfl,rfl,HZ,bn.alloc _,ah.alloc _,aB.new _ _ _,bZ.aH _,bQ.aH _,lY.aH _,fun b hb=> ⟨by have:=lZ b hb;omega,by have:=tH b hb;omega⟩,by omega,hc.alloc _,hC.aH _,by simp<;>omega⟩ | (obtain⟨go,hgo,og⟩ :=aU.ad;rw [←hgo];rw [←hgo] at jI;exact⟨go,dI,z,ce,rfl,rfl,HZ, ((((bn.other (by omega) _).other (by omega) _).other (by omega) _).other (by omega) _), ((((ah.other (by omega) _).other (by omega) _).other (by omega) _).other (by omega) _), ((((og.set 0 _).set 1 _).set 2 _).set 3 _),bZ.aM (F:= [go]) bW (fun b hb hm=>by simp only [List.mem_cons,List.not_mem_nil,or_false] at hm;have:=dY b hb;have:=u_n b hb;omega),bQ.aM (F:= [go]) bW (fun b hb hm=>by simp only [List.mem_cons,List.not_mem_nil,or_false] at hm;have:=f4 b hb;have:=qc b hb;omega),lY.aM (F:= [go]) bW (fun b hb hm=>by simp only [List.mem_cons,List.not_mem_nil,or_false] at hm;have:=lZ b hb;have:=tH b hb;omega),fun b hb=> ⟨by have:=lZ b hb;omega,by have:=lZ b hb;have:=tH b hb;omega⟩,by omega,hc.je (B:=w.heap.size) hgl dQ hC.size, ((((hC.gY (by omega) _).gY (by omega) _).gY (by omega) _).gY (by omega) _),by simp<;>omega⟩)
     case rest=>
      clear bn bS dB bC bD bE bF
      clear ah ay aI aj ak aJ aK
      clear bZ
      clear bQ
      clear hC hc
      obtain⟨go,dI,z,ce,rfl,rfl,HZ,bn,ah,aU,bZ,bQ,lY,lZ,F5,hc,hC,sz⟩ :=hcut
      have rD:=aU.lt
      have jI : w.heap.size≤go:=by omega
      have tH:=lY.lt
      have sC:=hC.size
      obtain⟨bC,bD,bE,bF,bS,dB⟩ :=bn.f4
      obtain⟨aj,ak,aJ,aK,ay,aI⟩ :=ah.f4
      obtain⟨bT,bU,dD,dF,eU,dX⟩ :=aU.f4
      go_upto_region 5 with (fail)
      clear bZ
      replace bn : aB ((((wc.setCell ⟨w1.heap.size,0,none⟩ (.slice dI.E.Y.a dI.E.Y.l dI.E.Y.c)).setCell ⟨w1.heap.size,1,none⟩ (.slice dI.E.Z.a dI.E.Z.l dI.E.Z.c)).setCell ⟨w1.heap.size,2,none⟩ (.slice dI.I.G.a dI.I.G.l dI.I.G.c)).setCell ⟨w1.heap.size,3,none⟩ (.slice dI.I.O.a dI.I.O.l dI.I.O.c)) (w1.heap.size) [.slice dI.E.Y.a dI.E.Y.l dI.E.Y.c, .slice dI.E.Z.a dI.E.Z.l dI.E.Z.c, .slice dI.I.G.a dI.I.G.l dI.I.G.c, .slice dI.I.O.a dI.I.O.l dI.I.O.c]:= ((((bn.set 0 (.slice dI.E.Y.a dI.E.Y.l dI.E.Y.c)).set 1 (.slice dI.E.Z.a dI.E.Z.l dI.E.Z.c)).set 2 (.slice dI.I.G.a dI.I.G.l dI.I.G.c)).set 3 (.slice dI.I.O.a dI.I.O.l dI.I.O.c))
      replace ah : aB ((((wc.setCell ⟨w1.heap.size,0,none⟩ (.slice dI.E.Y.a dI.E.Y.l dI.E.Y.c)).setCell ⟨w1.heap.size,1,none⟩ (.slice dI.E.Z.a dI.E.Z.l dI.E.Z.c)).setCell ⟨w1.heap.size,2,none⟩ (.slice dI.I.G.a dI.I.G.l dI.I.G.c)).setCell ⟨w1.heap.size,3,none⟩ (.slice dI.I.O.a dI.I.O.l dI.I.O.c)) (w.heap.size) [.slice none 0 0, .slice none 0 0, .slice none 0 0, .slice none 0 0]:= ((((ah.other (by omega) _).other (by omega) _).other (by omega) _).other (by omega) _)
      replace aU : aB ((((wc.setCell ⟨w1.heap.size,0,none⟩ (.slice dI.E.Y.a dI.E.Y.l dI.E.Y.c)).setCell ⟨w1.heap.size,1,none⟩ (.slice dI.E.Z.a dI.E.Z.l dI.E.Z.c)).setCell ⟨w1.heap.size,2,none⟩ (.slice dI.I.G.a dI.I.G.l dI.I.G.c)).setCell ⟨w1.heap.size,3,none⟩ (.slice dI.I.O.a dI.I.O.l dI.I.O.c)) (go) [.slice dI.E.Y.a dI.E.Y.l dI.E.Y.c, .slice dI.E.Z.a dI.E.Z.l dI.E.Z.c, .slice dI.I.G.a dI.I.G.l dI.I.G.c, .slice dI.I.O.a dI.I.O.l dI.I.O.c]:= ((((aU.other (by omega) _).other (by omega) _).other (by omega) _).other (by omega) _)
      replace bQ:=bQ.aM (F:= [w1.heap.size]) (w':= ((((wc.setCell ⟨w1.heap.size,0,none⟩ (.slice dI.E.Y.a dI.E.Y.l dI.E.Y.c)).setCell ⟨w1.heap.size,1,none⟩ (.slice dI.E.Z.a dI.E.Z.l dI.E.Z.c)).setCell ⟨w1.heap.size,2,none⟩ (.slice dI.I.G.a dI.I.G.l dI.I.G.c)).setCell ⟨w1.heap.size,3,none⟩ (.slice dI.I.O.a dI.I.O.l dI.I.O.c))) bW (fun b hb hm=>by simp only [List.mem_cons,List.not_mem_nil,or_false] at hm;have:=f4 b hb;have:=qc b hb;omega)
      replace lY:=lY.aM (F:= [w1.heap.size]) (w':= ((((wc.setCell ⟨w1.heap.size,0,none⟩ (.slice dI.E.Y.a dI.E.Y.l dI.E.Y.c)).setCell ⟨w1.heap.size,1,none⟩ (.slice dI.E.Z.a dI.E.Z.l dI.E.Z.c)).setCell ⟨w1.heap.size,2,none⟩ (.slice dI.I.G.a dI.I.G.l dI.I.G.c)).setCell ⟨w1.heap.size,3,none⟩ (.slice dI.I.O.a dI.I.O.l dI.I.O.c))) bW (fun b hb hm=>by simp only [List.mem_cons,List.not_mem_nil,or_false] at hm;have:=lZ b hb;have:=tH b hb;omega)
      replace hc : f_ ((((wc.setCell ⟨w1.heap.size,0,none⟩ (.slice dI.E.Y.a dI.E.Y.l dI.E.Y.c)).setCell ⟨w1.heap.size,1,none⟩ (.slice dI.E.Z.a dI.E.Z.l dI.E.Z.c)).setCell ⟨w1.heap.size,2,none⟩ (.slice dI.I.G.a dI.I.G.l dI.I.G.c)).setCell ⟨w1.heap.size,3,none⟩ (.slice dI.I.O.a dI.I.O.l dI.I.O.c)) g code:=hc.je (B:=w.heap.size) hgl dQ hC.size
      replace hC : aY [g] w ((((wc.setCell ⟨w1.heap.size,0,none⟩ (.slice dI.E.Y.a dI.E.Y.l dI.E.Y.c)).setCell ⟨w1.heap.size,1,none⟩ (.slice dI.E.Z.a dI.E.Z.l dI.E.Z.c)).setCell ⟨w1.heap.size,2,none⟩ (.slice dI.I.G.a dI.I.G.l dI.I.G.c)).setCell ⟨w1.heap.size,3,none⟩ (.slice dI.I.O.a dI.I.O.l dI.I.O.c)) := ((((hC.gY (by omega) _).gY (by omega) _).gY (by omega) _).gY (by omega) _)
      have sz : wc.heap.size≤ ((((wc.setCell ⟨w1.heap.size,0,none⟩ (.slice dI.E.Y.a dI.E.Y.l dI.E.Y.c)).setCell ⟨w1.heap.size,1,none⟩ (.slice dI.E.Z.a dI.E.Z.l dI.E.Z.c)).setCell ⟨w1.heap.size,2,none⟩ (.slice dI.I.G.a dI.I.G.l dI.I.G.c)).setCell ⟨w1.heap.size,3,none⟩ (.slice dI.I.O.a dI.I.O.l dI.I.O.c)).heap.size:=by simp
      generalize hG : ((((wc.setCell ⟨w1.heap.size,0,none⟩ (.slice dI.E.Y.a dI.E.Y.l dI.E.Y.c)).setCell ⟨w1.heap.size,1,none⟩ (.slice dI.E.Z.a dI.E.Z.l dI.E.Z.c)).setCell ⟨w1.heap.size,2,none⟩ (.slice dI.I.G.a dI.I.G.l dI.I.G.c)).setCell ⟨w1.heap.size,3,none⟩ (.slice dI.I.O.a dI.I.O.l dI.I.O.c)) =Rk at bn ah aU bQ lY hC hc sz⊢
      clear hG
      replace sC:=hC.size
      clear bC bD bE bF bS dB
      obtain⟨bC,bD,bE,bF,bS,dB⟩ :=bn.f4
      clear aj ak aJ aK ay aI
      obtain⟨aj,ak,aJ,aK,ay,aI⟩ :=ah.f4
      clear bT bU dD dF eU dX
      obtain⟨bT,bU,dD,dF,eU,dX⟩ :=aU.f4
      go_wp2_with fail
      go_roundw
      case rel=>exact⟨k - 1,dI,z,l++ [h_],by go_num,by omega,bn,ah,lY,HZ,fun b hb=>by have:=lZ b hb;omega,bQ,fun b hb=> ⟨by rcases f4 b hb with e|e<;>omega,by rcases f4 b hb with e|e<;>omega,fun hm=>by have:=lZ b hm;have:=qc b hb;omega⟩,by simp,by simp;omega,hc,hC⟩
      case measure=>simp [intOf];omega
end Go.Proofs.YtkmggglljkmjoaaGreat
