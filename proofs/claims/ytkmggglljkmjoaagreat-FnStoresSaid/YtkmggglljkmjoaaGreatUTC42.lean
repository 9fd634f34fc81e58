/-
  Several texts in one: lemmas and contracts that the claim rests on.
-/
import Derived.Test.YtkmggglljkmjoaaGreatUTC1
import Derived.Deep.QuietTactic
import Derived.BigQuiet
import Derived.Deep.LoopGhost
import Derived.Deep.RegionHeld3
import Derived.Test.YtkmggglljkmjoaaGreatUTC2
import Derived.WalkSpells
import Derived.Laws.Cover3
import Derived.Test.YtkmggglljkmjoaaGreatUTC35
import Derived.Test.YtkmggglljkmjoaaGreatUTC9
import Derived.Test.YtkmggglljkmjoaaGreatUTC26
import Derived.Test.YtkmggglljkmjoaaGreatUTC3
namespace Go.Proofs.YtkmggglljkmjoaaGreat
open Go.RowKit
open Go.Proofs.YtkmggglljkmjoaaGreat.Lim
set_option maxRecDepth 100000 in
set_option maxHeartbeats 4000000 in
theorem D7 (w : World)(v : Value)(code : List Int)(h : fE nK w w.heap.size v code)(hb : ∀x∈code,0≤x∧x≤255)(hs : code.length≤1073741824) :
  Calls Tryz.prog 23 #[v] w fun e w'=> ∃ (H : bP) (x : Mem) (a k z n : Int),e= .returned (.tuple #[.agg #[.slice H.E.Y.a H.E.Y.l H.E.Y.c, .slice H.E.Z.a H.E.Z.l H.E.Z.c, .slice H.I.G.a H.I.G.l H.I.G.c, .slice H.I.O.a H.I.O.l H.I.O.c], .int .i64 a, .int .i64 k, .int .i64 z, .int .i64 n]) ∧d9 w' H x∧dx x≤1000∧ (∀g∈H.foot,w.heap.size≤g) ∧ (-1≤k∧k≤17∧0≤z∧z≤8∧ -1≤n∧n≤65536) ∧Below w.heap.size w w':=by
 go_enter Tryz.func23,Tryz.ntmps23
 go_wp2_with fail
 refine(Cb _ _ code (h.aH (Nat.le_refl _) (by simp) _) hb hs).mono ?_
 rintro e w1 ⟨rfl,hc,hb1⟩
 have hsz1:=hb1.size
 simp only [World.size_alloc] at hc hsz1⊢
 have ah : aB w1 w.heap.size [.slice none 0 0, .slice none 0 0, .slice none 0 0, .slice none 0 0]:= (aB.new w #[.slice none 0 0, .slice none 0 0, .slice none 0 0, .slice none 0 0] 31).below hb1
 have hbw : Below w.heap.size w w1:= ((Below.refl _ w).alloc (Nat.le_refl _) _).trans (hb1.mono (by simp))
 have hlt1:=hc.lt
 go_wp2_with fail
 refine(Ca _ _ code hc).mono ?_
 rintro e w2 ⟨H,x,av,rfl,bR,hz,mX,hcn,hx⟩
 have nr : w.heap.size∉ [w.heap.size+1]:=by simp
 replace ah:=ah.aM hx nr
 have hB : Below w.heap.size w w2:=hbw.trans (hx.below hbw.size (fun g hm=>by simp at hm;omega))
 replace hc:=hcn
 have jZ:=bR.lt
 have fl : ∀b∈H.foot,w.heap.size+1<b∧b<w2.heap.size:=fun b hb=>by have:=mX b hb;have:=jZ b hb;omega
 have CK:=hx.size
 clear hb1 hcn mX jZ hbw
 obtain⟨aj,ak,aJ,aK,ay,aI⟩ :=ah.f4
 go_wp2_with fail
 have bn:=aB.new w2 #[.slice H.E.Y.a H.E.Y.l H.E.Y.c, .slice H.E.Z.a H.E.Z.l H.E.Z.c, .slice H.I.G.a H.I.G.l H.I.G.c, .slice H.I.O.a H.I.O.l H.I.O.c] 31
 replace hc:=hc.alloc (.cells #[.slice H.E.Y.a H.E.Y.l H.E.Y.c, .slice H.E.Z.a H.E.Z.l H.E.Z.c, .slice H.I.G.a H.I.G.l H.I.G.c, .slice H.I.O.a H.I.O.l H.I.O.c] 31)
 replace bR:=bR.aH (.cells #[.slice H.E.Y.a H.E.Y.l H.E.Y.c, .slice H.E.Z.a H.E.Z.l H.E.Z.c, .slice H.I.G.a H.I.G.l H.I.G.c, .slice H.I.O.a H.I.O.l H.I.O.c] 31)
 replace ah:=ah.alloc (.cells #[.slice H.E.Y.a H.E.Y.l H.E.Y.c, .slice H.E.Z.a H.E.Z.l H.E.Z.c, .slice H.I.G.a H.I.G.l H.I.G.c, .slice H.I.O.a H.I.O.l H.I.O.c] 31)
 replace hB:=hB.alloc hB.size (.cells #[.slice H.E.Y.a H.E.Y.l H.E.Y.c, .slice H.E.Z.a H.E.Z.l H.E.Z.c, .slice H.I.G.a H.I.G.l H.I.G.c, .slice H.I.O.a H.I.O.l H.I.O.c] 31)
 obtain⟨am,EF⟩ : ∃a,a=w2.heap.size:= ⟨_,rfl⟩
 generalize hG : w2.alloc (.cells #[.slice H.E.Y.a H.E.Y.l H.E.Y.c, .slice H.E.Z.a H.E.Z.l H.E.Z.c, .slice H.I.G.a H.I.G.l H.I.G.c, .slice H.I.O.a H.I.O.l H.I.O.c] 31) =w3 at hc bR ah bn hB⊢
 rw [←EF] at bn fl CK⊢
 clear hG EF
 have nm : am∉ [w.heap.size+1]:=by simp;omega
 have Ns : ¬ w.heap.size=am:=by omega
 have MH : ¬ am=w.heap.size:=by omega
 have nf : ∀b∈H.foot,b∉ [w.heap.size+1]:=fun b hb hm=>by have:=fl b hb;simp at hm;omega
 have bC:=bn.cell 0 _ rfl
 have bD:=bn.cell 1 _ rfl
 have bE:=bn.cell 2 _ rfl
 have bF:=bn.cell 3 _ rfl
 have aj:=ah.cell 0 _ rfl
 have ak:=ah.cell 1 _ rfl
 have aJ:=ah.cell 2 _ rfl
 have aK:=ah.cell 3 _ rfl
 have bS:=bn.dn
 have dB:=bn.lt
 have ay:=ah.dn
 have aI:=ah.lt
 have zc:=hc.lt
 go_region_held3 (fun w'=>w'.cell? ⟨am,0,none⟩ =some (.slice H.E.Y.a H.E.Y.l H.E.Y.c) ∧w'.cell? ⟨am,1,none⟩ =some (.slice H.E.Z.a H.E.Z.l H.E.Z.c) ∧w'.cell? ⟨am,2,none⟩ =some (.slice H.I.G.a H.I.G.l H.I.G.c) ∧w'.cell? ⟨am,3,none⟩ =some (.slice H.I.O.a H.I.O.l H.I.O.c)) (first| (with_reducible exact⟨bC,bD,bE,bF⟩) | (refine⟨?_, ?_, ?_, ?_⟩ <;> (repeat (first|with_reducible assumption|with_reducible refine fH ?_ (by omega) |with_reducible refine eF ?_ (by omega) |with_reducible refine fu ?_));done) | (go_keep;done)) (first| (go_at_call 63; (first| ((with_reducible refine(cK _ _ code 18 (by unfold gZ;omega) (by repeat (first|with_reducible exact hc|with_reducible refine f_.alloc ?_ _|with_reducible refine f_.bf ?_))).mono ?_);rintro e wq ⟨b1,rfl,Rw,Rx,hcn,hx⟩;replace hB:=Below.trans hB ((aY.trans (by repeat (first|with_reducible exact aY.refl _ _|with_reducible refine aY.aH ?_ _|with_reducible refine aY.bf ?_)) hx).below hB.size (fun g hm=>by simp at hm;omega)); (first| (replace B_1:=B_1.aM (aY.trans (by repeat (first|with_reducible exact aY.refl _ _|with_reducible refine aY.aH ?_ _|with_reducible refine aY.bf ?_)) hx) (by simp only [List.mem_cons,List.not_mem_nil,or_false,World.size_alloc,fq];omega)) | (have B_1 : aB wq _ [.int .i64 1, .int .i64 2, .int .i64 4, .int .i64 0, .int .i64 8, .int .i64 3]:=aB.aM (by first|exact(aB.new _ _ _) |exact(aB.alloc (aB.new _ _ _) _) |exact(aB.drew (aB.new _ _ _)) |exact(aB.alloc (aB.alloc (aB.new _ _ _) _) _) |exact(aB.drew (aB.alloc (aB.new _ _ _) _)) |exact(aB.alloc (aB.drew (aB.new _ _ _)) _) |exact(aB.alloc (aB.alloc (aB.alloc (aB.new _ _ _) _) _) _) |exact(aB.drew (aB.alloc (aB.alloc (aB.new _ _ _) _) _)) |exact(aB.alloc (aB.drew (aB.alloc (aB.new _ _ _) _)) _) |exact(aB.alloc (aB.alloc (aB.drew (aB.new _ _ _)) _) _)) hx (by simp only [List.mem_cons,List.not_mem_nil,or_false,World.size_alloc,fq];omega)) |skip); (first| (replace sV:=sV.aM (aY.trans (by repeat (first|with_reducible exact aY.refl _ _|with_reducible refine aY.aH ?_ _|with_reducible refine aY.bf ?_)) hx) (by simp only [List.mem_cons,List.not_mem_nil,or_false,World.size_alloc,fq];omega)) | (have sV : aB wq _ [.int .i64 0, .int .i64 255, .int .i64 256, .int .i64 65536, .int .i64 (-1), .int .i64 y]:=aB.aM (by first|exact(aB.new _ _ _) |exact(aB.alloc (aB.new _ _ _) _) |exact(aB.drew (aB.new _ _ _)) |exact(aB.alloc (aB.alloc (aB.new _ _ _) _) _) |exact(aB.drew (aB.alloc (aB.new _ _ _) _)) |exact(aB.alloc (aB.drew (aB.new _ _ _)) _) |exact(aB.alloc (aB.alloc (aB.alloc (aB.new _ _ _) _) _) _) |exact(aB.drew (aB.alloc (aB.alloc (aB.new _ _ _) _) _)) |exact(aB.alloc (aB.drew (aB.alloc (aB.new _ _ _) _)) _) |exact(aB.alloc (aB.alloc (aB.drew (aB.new _ _ _)) _) _)) hx (by simp only [List.mem_cons,List.not_mem_nil,or_false,World.size_alloc,fq];omega)) |skip);replace bn:=bn.aM (aY.trans (by repeat (first|with_reducible exact aY.refl _ _|with_reducible refine aY.aH ?_ _|with_reducible refine aY.bf ?_)) hx) nm;replace ah:=ah.aM (aY.trans (by repeat (first|with_reducible exact aY.refl _ _|with_reducible refine aY.aH ?_ _|with_reducible refine aY.bf ?_)) hx) nr;replace bR:=bR.aM (aY.trans (by repeat (first|with_reducible exact aY.refl _ _|with_reducible refine aY.aH ?_ _|with_reducible refine aY.bf ?_)) hx) nf;replace hc:=hcn;have zc:=hc.lt;clear hx;replace bC:=bn.cell 0 _ rfl;replace bD:=bn.cell 1 _ rfl;replace bE:=bn.cell 2 _ rfl;replace bF:=bn.cell 3 _ rfl;replace aj:=ah.cell 0 _ rfl;replace ak:=ah.cell 1 _ rfl;replace aJ:=ah.cell 2 _ rfl;replace aK:=ah.cell 3 _ rfl;replace bS:=bn.dn;replace dB:=bn.lt;replace ay:=ah.dn;replace aI:=ah.lt;have hw1 : IntKind.i64.wrap (b1 - 1) =b1 - 1:=by rw [IntKind.wrap_i64];omega) | ((with_reducible refine(cK _ _ code 60000 (by unfold gZ;omega) (by repeat (first|with_reducible exact hc|with_reducible refine f_.alloc ?_ _|with_reducible refine f_.bf ?_))).mono ?_);rintro e wq ⟨y,rfl,ya,yb,hcn,hx⟩;replace hB:=Below.trans hB ((aY.trans (by repeat (first|with_reducible exact aY.refl _ _|with_reducible refine aY.aH ?_ _|with_reducible refine aY.bf ?_)) hx).below hB.size (fun g hm=>by simp at hm;omega)); (first| (replace B_1:=B_1.aM (aY.trans (by repeat (first|with_reducible exact aY.refl _ _|with_reducible refine aY.aH ?_ _|with_reducible refine aY.bf ?_)) hx) (by simp only [List.mem_cons,List.not_mem_nil,or_false,World.size_alloc,fq];omega)) | (have B_1 : aB wq _ [.int .i64 1, .int .i64 2, .int .i64 4, .int .i64 0, .int .i64 8, .int .i64 3]:=aB.aM (by first|exact(aB.new _ _ _) |exact(aB.alloc (aB.new _ _ _) _) |exact(aB.drew (aB.new _ _ _)) |exact(aB.alloc (aB.alloc (aB.new _ _ _) _) _) |exact(aB.drew (aB.alloc (aB.new _ _ _) _)) |exact(aB.alloc (aB.drew (aB.new _ _ _)) _) |exact(aB.alloc (aB.alloc (aB.alloc (aB.new _ _ _) _) _) _) |exact(aB.drew (aB.alloc (aB.alloc (aB.new _ _ _) _) _)) |exact(aB.alloc (aB.drew (aB.alloc (aB.new _ _ _) _)) _) |exact(aB.alloc (aB.alloc (aB.drew (aB.new _ _ _)) _) _)) hx (by simp only [List.mem_cons,List.not_mem_nil,or_false,World.size_alloc,fq];omega)) |skip); (first| (replace sV:=sV.aM (aY.trans (by repeat (first|with_reducible exact aY.refl _ _|with_reducible refine aY.aH ?_ _|with_reducible refine aY.bf ?_)) hx) (by simp only [List.mem_cons,List.not_mem_nil,or_false,World.size_alloc,fq];omega)) | (have sV : aB wq _ [.int .i64 0, .int .i64 255, .int .i64 256, .int .i64 65536, .int .i64 (-1), .int .i64 y]:=aB.aM (by first|exact(aB.new _ _ _) |exact(aB.alloc (aB.new _ _ _) _) |exact(aB.drew (aB.new _ _ _)) |exact(aB.alloc (aB.alloc (aB.new _ _ _) _) _) |exact(aB.drew (aB.alloc (aB.new _ _ _) _)) |exact(aB.alloc (aB.drew (aB.new _ _ _)) _) |exact(aB.alloc (aB.alloc (aB.alloc (aB.new _ _ _) _) _) _) |exact(aB.drew (aB.alloc (aB.alloc (aB.new _ _ _) _) _)) |exact(aB.alloc (aB.drew (aB.alloc (aB.new _ _ _) _)) _) |exact(aB.alloc (aB.alloc (aB.drew (aB.new _ _ _)) _) _)) hx (by simp only [List.mem_cons,List.not_mem_nil,or_false,World.size_alloc,fq];omega)) |skip);replace bn:=bn.aM (aY.trans (by repeat (first|with_reducible exact aY.refl _ _|with_reducible refine aY.aH ?_ _|with_reducible refine aY.bf ?_)) hx) nm;replace ah:=ah.aM (aY.trans (by repeat (first|with_reducible exact aY.refl _ _|with_reducible refine aY.aH ?_ _|with_reducible refine aY.bf ?_)) hx) nr;replace bR:=bR.aM (aY.trans (by repeat (first|with_reducible exact aY.refl _ _|with_reducible refine aY.aH ?_ _|with_reducible refine aY.bf ?_)) hx) nf;replace hc:=hcn;have zc:=hc.lt;clear hx;replace bC:=bn.cell 0 _ rfl;replace bD:=bn.cell 1 _ rfl;replace bE:=bn.cell 2 _ rfl;replace bF:=bn.cell 3 _ rfl;replace aj:=ah.cell 0 _ rfl;replace ak:=ah.cell 1 _ rfl;replace aJ:=ah.cell 2 _ rfl;replace aK:=ah.cell 3 _ rfl;replace bS:=bn.dn;replace dB:=bn.lt;replace ay:=ah.dn;replace aI:=ah.lt) |fail)) | (go_at_call 64; (first| ((with_reducible refine(iZ _ _ _ code [1,2,4,0,8,3] [.int .i64 1, .int .i64 2, .int .i64 4, .int .i64 0, .int .i64 8, .int .i64 3] 6 (by first|exact B_1|exact(aB.new _ _ _) |exact(aB.alloc B_1 _) |exact(aB.alloc (aB.new _ _ _) _) |exact(aB.drew B_1) |exact(aB.drew (aB.new _ _ _)) |exact(aB.alloc (aB.alloc B_1 _) _) |exact(aB.alloc (aB.alloc (aB.new _ _ _) _) _) |exact(aB.drew (aB.alloc B_1 _)) |exact(aB.drew (aB.alloc (aB.new _ _ _) _)) |exact(aB.alloc (aB.drew B_1) _) |exact(aB.alloc (aB.drew (aB.new _ _ _)) _) |exact(aB.alloc (aB.alloc (aB.alloc B_1 _) _) _) |exact(aB.alloc (aB.alloc (aB.alloc (aB.new _ _ _) _) _) _) |exact(aB.drew (aB.alloc (aB.alloc B_1 _) _)) |exact(aB.drew (aB.alloc (aB.alloc (aB.new _ _ _) _) _)) |exact(aB.alloc (aB.drew (aB.alloc B_1 _)) _) |exact(aB.alloc (aB.drew (aB.alloc (aB.new _ _ _) _)) _) |exact(aB.alloc (aB.alloc (aB.drew B_1) _) _) |exact(aB.alloc (aB.alloc (aB.drew (aB.new _ _ _)) _) _)) rfl rfl (by simp only [List.mem_cons,List.not_mem_nil,or_false,World.size_alloc,fq];omega) (by simp) (by simp) (by repeat (first|with_reducible exact hc|with_reducible refine f_.alloc ?_ _|with_reducible refine f_.bf ?_))).mono ?_);rintro e wq ⟨z,rfl,hz1,hcn,hx⟩;replace hB:=Below.trans hB ((aY.trans (by repeat (first|with_reducible exact aY.refl _ _|with_reducible refine aY.aH ?_ _|with_reducible refine aY.bf ?_)) hx).below hB.size (fun g hm=>by simp at hm;omega)); (first| (replace sV:=sV.aM (aY.trans (by repeat (first|with_reducible exact aY.refl _ _|with_reducible refine aY.aH ?_ _|with_reducible refine aY.bf ?_)) hx) (by simp only [List.mem_cons,List.not_mem_nil,or_false,World.size_alloc,fq];omega)) | (have sV : aB wq _ [.int .i64 0, .int .i64 255, .int .i64 256, .int .i64 65536, .int .i64 (-1), .int .i64 y]:=aB.aM (by first|exact(aB.new _ _ _) |exact(aB.alloc (aB.new _ _ _) _) |exact(aB.drew (aB.new _ _ _)) |exact(aB.alloc (aB.alloc (aB.new _ _ _) _) _) |exact(aB.drew (aB.alloc (aB.new _ _ _) _)) |exact(aB.alloc (aB.drew (aB.new _ _ _)) _) |exact(aB.alloc (aB.alloc (aB.alloc (aB.new _ _ _) _) _) _) |exact(aB.drew (aB.alloc (aB.alloc (aB.new _ _ _) _) _)) |exact(aB.alloc (aB.drew (aB.alloc (aB.new _ _ _) _)) _) |exact(aB.alloc (aB.alloc (aB.drew (aB.new _ _ _)) _) _)) hx (by simp only [List.mem_cons,List.not_mem_nil,or_false,World.size_alloc,fq];omega)) |skip);replace bn:=bn.aM (aY.trans (by repeat (first|with_reducible exact aY.refl _ _|with_reducible refine aY.aH ?_ _|with_reducible refine aY.bf ?_)) hx) nm;replace ah:=ah.aM (aY.trans (by repeat (first|with_reducible exact aY.refl _ _|with_reducible refine aY.aH ?_ _|with_reducible refine aY.bf ?_)) hx) nr;replace bR:=bR.aM (aY.trans (by repeat (first|with_reducible exact aY.refl _ _|with_reducible refine aY.aH ?_ _|with_reducible refine aY.bf ?_)) hx) nf;replace hc:=hcn;have zc:=hc.lt;clear hx;replace bC:=bn.cell 0 _ rfl;replace bD:=bn.cell 1 _ rfl;replace bE:=bn.cell 2 _ rfl;replace bF:=bn.cell 3 _ rfl;replace aj:=ah.cell 0 _ rfl;replace ak:=ah.cell 1 _ rfl;replace aJ:=ah.cell 2 _ rfl;replace aK:=ah.cell 3 _ rfl;replace bS:=bn.dn;replace dB:=bn.lt;replace ay:=ah.dn;replace aI:=ah.lt; (try clear B_1)) | ((with_reducible refine(iZ _ _ _ code [0,255,256,65536, -1,y] [.int .i64 0, .int .i64 255, .int .i64 256, .int .i64 65536, .int .i64 (-1), .int .i64 y] 6 (by first|exact sV|exact(aB.new _ _ _) |exact(aB.alloc sV _) |exact(aB.alloc (aB.new _ _ _) _) |exact(aB.drew sV) |exact(aB.drew (aB.new _ _ _)) |exact(aB.alloc (aB.alloc sV _) _) |exact(aB.alloc (aB.alloc (aB.new _ _ _) _) _) |exact(aB.drew (aB.alloc sV _)) |exact(aB.drew (aB.alloc (aB.new _ _ _) _)) |exact(aB.alloc (aB.drew sV) _) |exact(aB.alloc (aB.drew (aB.new _ _ _)) _) |exact(aB.alloc (aB.alloc (aB.alloc sV _) _) _) |exact(aB.alloc (aB.alloc (aB.alloc (aB.new _ _ _) _) _) _) |exact(aB.drew (aB.alloc (aB.alloc sV _) _)) |exact(aB.drew (aB.alloc (aB.alloc (aB.new _ _ _) _) _)) |exact(aB.alloc (aB.drew (aB.alloc sV _)) _) |exact(aB.alloc (aB.drew (aB.alloc (aB.new _ _ _) _)) _) |exact(aB.alloc (aB.alloc (aB.drew sV) _) _) |exact(aB.alloc (aB.alloc (aB.drew (aB.new _ _ _)) _) _)) rfl rfl (by simp only [List.mem_cons,List.not_mem_nil,or_false,World.size_alloc,fq];omega) (by simp) (by simp) (by repeat (first|with_reducible exact hc|with_reducible refine f_.alloc ?_ _|with_reducible refine f_.bf ?_))).mono ?_);rintro e wq ⟨n,rfl,hn1,hcn,hx⟩;replace hB:=Below.trans hB ((aY.trans (by repeat (first|with_reducible exact aY.refl _ _|with_reducible refine aY.aH ?_ _|with_reducible refine aY.bf ?_)) hx).below hB.size (fun g hm=>by simp at hm;omega)); (first| (replace B_1:=B_1.aM (aY.trans (by repeat (first|with_reducible exact aY.refl _ _|with_reducible refine aY.aH ?_ _|with_reducible refine aY.bf ?_)) hx) (by simp only [List.mem_cons,List.not_mem_nil,or_false,World.size_alloc,fq];omega)) | (have B_1 : aB wq _ [.int .i64 1, .int .i64 2, .int .i64 4, .int .i64 0, .int .i64 8, .int .i64 3]:=aB.aM (by first|exact(aB.new _ _ _) |exact(aB.alloc (aB.new _ _ _) _) |exact(aB.drew (aB.new _ _ _)) |exact(aB.alloc (aB.alloc (aB.new _ _ _) _) _) |exact(aB.drew (aB.alloc (aB.new _ _ _) _)) |exact(aB.alloc (aB.drew (aB.new _ _ _)) _) |exact(aB.alloc (aB.alloc (aB.alloc (aB.new _ _ _) _) _) _) |exact(aB.drew (aB.alloc (aB.alloc (aB.new _ _ _) _) _)) |exact(aB.alloc (aB.drew (aB.alloc (aB.new _ _ _) _)) _) |exact(aB.alloc (aB.alloc (aB.drew (aB.new _ _ _)) _) _)) hx (by simp only [List.mem_cons,List.not_mem_nil,or_false,World.size_alloc,fq];omega)) |skip);replace bn:=bn.aM (aY.trans (by repeat (first|with_reducible exact aY.refl _ _|with_reducible refine aY.aH ?_ _|with_reducible refine aY.bf ?_)) hx) nm;replace ah:=ah.aM (aY.trans (by repeat (first|with_reducible exact aY.refl _ _|with_reducible refine aY.aH ?_ _|with_reducible refine aY.bf ?_)) hx) nr;replace bR:=bR.aM (aY.trans (by repeat (first|with_reducible exact aY.refl _ _|with_reducible refine aY.aH ?_ _|with_reducible refine aY.bf ?_)) hx) nf;replace hc:=hcn;have zc:=hc.lt;clear hx;replace bC:=bn.cell 0 _ rfl;replace bD:=bn.cell 1 _ rfl;replace bE:=bn.cell 2 _ rfl;replace bF:=bn.cell 3 _ rfl;replace aj:=ah.cell 0 _ rfl;replace ak:=ah.cell 1 _ rfl;replace aJ:=ah.cell 2 _ rfl;replace aK:=ah.cell 3 _ rfl;replace bS:=bn.dn;replace dB:=bn.lt;replace ay:=ah.dn;replace aI:=ah.lt; (try clear sV)) |fail)))
 all_goals
  go_wp2_with fail
  refine bodyPost_ret (v:= .tuple #[.agg #[.slice H.E.Y.a H.E.Y.l H.E.Y.c, .slice H.E.Z.a H.E.Z.l H.E.Z.c, .slice H.I.G.a H.I.G.l H.I.G.c, .slice H.I.O.a H.I.O.l H.I.O.c], .int .i64 av, .int .i64 (b1 - 1), .int .i64 z, .int .i64 n]) (by simp [results,Tryz.results23,go_sem,aj,ak,aJ,aK]) rfl ⟨H,x,av,b1 - 1,z,n,rfl,bR.aM (F:= [w.heap.size]) bW (fun b hb hm=>by simp only [List.mem_cons,List.not_mem_nil,or_false] at hm;have:=fl b hb;omega),hz,fun b hb=>by have:=fl b hb;omega, ⟨by omega,by omega,by simp at hz1;omega,by simp at hz1;omega,by simp at hn1;omega,by simp at hn1;omega⟩,Below.trans hB dQ⟩
end Go.Proofs.YtkmggglljkmjoaaGreat
namespace Go.Proofs.YtkmggglljkmjoaaGreat
open Go.RowKit
set_option maxHeartbeats 400000 in
theorem Gp (s c : Int)(w : World) : Calls Tryz.prog 31 #[.int .i64 s, .int .i64 c] w fun e w'=>e= .returned (.agg #[.int .i64 (sD s c), .int .i64 (tN s c)]) ∧Below w.heap.size w w':=by
 have hz:=mh c
 have hq:=fun W=>zF s c W
 have hq2:=fun W=>uj c W
 rcases uH s c with ⟨h,h1,h2⟩ | ⟨h,h1,h2,h3⟩
 ·have HS:=Hid.aT h1
  have HT:=Hid.aT h2
  rw [h] at hq
  clear h h1 h2
  go_enter Tryz.func31,Tryz.ntmps31
  go_wp2_with fail
  refine(hq _).mono ?_
  clear hq
  rintro e w1 ⟨rfl,rfl⟩
  go_wp2
  exact bodyPost_ret (v:= .agg #[.int .i64 0, .int .i64 0]) (by simp [results,Tryz.results31,go_sem]) rfl ⟨by rw [HS.out,HT.out],by repeat (first|exact Below.refl _ _|refine Below.alloc ?_ (by simp<;>omega) _|refine dA ?_ (by simp<;>omega) _ _|refine Below.drew ?_|refine below_drewN ?_ _)⟩
 ·have HS:=Hid.aT h1
  have HT:=Hid.aT h2
  rw [h2] at h3
  clear h1 h2
  generalize gH s c=g at *
  generalize gF c=z at *
  have h4 : ¬ g<0:=by omega
  have h5 : g≤384:=by omega
  go_enter Tryz.func31,Tryz.ntmps31
  go_wp2_with fail
  refine(hq _).mono ?_
  clear hq
  rintro e w1 ⟨rfl,rfl⟩
  go_wp2_with (go_at_call 28;refine(hq2 _).mono ?_;clear hq2;rintro e w1 ⟨rfl,rfl⟩)
  exact bodyPost_ret (v:= .agg #[.int .i64 g, .int .i64 (g+z)]) (by simp [results,Tryz.results31,go_sem]) rfl ⟨by rw [HS.out,HT.out],by repeat (first|exact Below.refl _ _|refine Below.alloc ?_ (by simp<;>omega) _|refine dA ?_ (by simp<;>omega) _ _|refine Below.drew ?_|refine below_drewN ?_ _)⟩
theorem IG {m : Mem}{h a k n : Int}(hc : (gL m h a k n).2≠0) : (gL m h a k n).1=m:=by
 by_cases c : (gQ m h a k).2=0
 ·by_cases f : nk n k=true
  ·rw [wM c f] at hc
   exact absurd rfl hc
  ·rw [wL c ((Bool.not_eq_true _).mp f)]
 ·rw [uI c]
theorem II {m : Mem}{h a k n : Int}(hc : (gL m h a k n).2=0) : ∃ (y y2 : Mem) (s cl sz F T : Int),gL m h a k n= (y,0) ∧dx y≤450∧eY h=true∧h%32=s∧jQ m.E s=cl∧gF cl=sz∧0≤sz∧sz≤40∧sD s cl=F∧tN s cl=T∧0≤F∧F≤384∧
  ko y h a k= (n,0) ∧gL y h (sz - k+1) k n= (y2,2) ∧y.I=m.I∧y.E.Y.length=384∧m.E.Y.length=384∧1≤k∧k≤7∧0≤a∧ (∀i : Nat, (i : Int) <F+a∨F+a+k≤i→y.E.Y.getD i 0=m.E.Y.getD i 0) :=by
 obtain⟨p,hl,p2,h1,h2,h3,h4,h5,h6,h7,h8,h9⟩ :=Ez hc
 obtain⟨hok,_,_,_⟩ :=mU.1 hl
 have sh:= (lu.1 p.heap).1
 have hz:=mh (aO m.E (h%32))
 have hF : sD (h%32) (aO m.E (h%32)) =gH (h%32) (aO m.E (h%32)) :=if_neg (by omega)
 have hF2 : gH (h%32) (aO m.E (h%32)) ≤384:=by
  rcases uH (h%32) (aO m.E (h%32)) with ⟨e,_⟩ | ⟨_,_,e,e2⟩ <;>omega
 exact⟨(gL m h a k n).1, (gL (gL m h a k n).1 h (gF (aO m.E (h%32)) - k+1) k n).1,h%32,aO m.E (h%32),_,_,_,Prod.ext rfl hc,o8 p2,hok,rfl,if_pos sh,rfl,hz.1,hz.2,hF,rfl,h8,hF2,h1,Prod.ext rfl h2,h3,h4, (iA sh).bl,h5,h6,h7,h9⟩
end Go.Proofs.YtkmggglljkmjoaaGreat
