/-
  Several texts in one: lemmas and contracts that the claim rests on.
-/
import Derived.Test.YtkmggglljkmjoaaUHNoReuse2
import Derived.Test.YtkmggglljkmjoaaUHNoReuse1
import Derived.Deep.QuietTactic
import Derived.BigQuiet
import Derived.Deep.LoopGhost
import Derived.Deep.RegionHeld3
import Derived.WalkSpells
import Derived.Laws.Cover3
import Derived.Test.YtkmggglljkmjoaaUHNoReuse21
import Derived.Test.YtkmggglljkmjoaaUHNoReuse11
import Derived.Test.YtkmggglljkmjoaaUHNoReuse25
import Derived.Test.YtkmggglljkmjoaaUHNoReuse26
import Derived.Test.YtkmggglljkmjoaaUHNoReuse12
import Derived.Deep.CutRange
namespace Go.Proofs.Ytkmggglljkmjoaa
open Go.RowKit
open Go.Proofs.Ytkmggglljkmjoaa.Lim
set_option maxRecDepth 100000 in
set_option maxHeartbeats 8000000 in
theorem vZ (w : World)(v : Value)(code : List Int)(h : dz kK w w.heap.size v code)(hcb : ∀x∈code,0≤x∧x≤255) :
  Calls Try.prog 3 #[v] w fun e w'=>e= .returned (.bool true) ∧Below w.heap.size w w':=by
 obtain⟨A,c0,hv,q1,q2, -⟩ :=id h
 have kR : code.length≤9223372036854775807:=by unfold maxLen at q2;omega
 subst hv
 clear q1 q2
 by_cases hs : code.length≤1048576
 case neg=>
  go_enter Try.func3,Try.ntmps3
  go_wp2_with fail
  refine(BO _ _ _ _ hs kR).mono ?_
  rintro e w1 ⟨rfl,rfl⟩
  go_wp2_with fail
  go_ret
  exact⟨rfl,Below.refl _ _⟩
 go_enter Try.func3,Try.ntmps3
 go_wp2_with fail
 refine(CJ _ _ _ _ hs).mono ?_
 rintro e w0 ⟨rfl,rfl⟩
 go_wp2_with fail
 have hat : ∀j : Nat,j≤1000→ ∃y : Int,0≤y∧y≤255∧ ∀ (W : World),Below w.heap.size w W→ ∀J : Int,J=j→Calls Try.prog 6 #[.slice A code.length c0, .int .i64 J] W fun e w'=>e= .returned (.int .i64 y) ∧Below W.heap.size W w':=by
  intro j hj
  refine⟨xE code j, (Ah hcb j).1, (Ah hcb j).2,fun W hW J hJ=> ?_⟩
  subst hJ
  exact Dm W _ code j (dh h hW) hcb hj hs
 clear h kR hcb hs
 refine(yj _).mono ?_
 rintro e w1 ⟨cK,rfl,cB,mF,hB⟩
 have CV:=NR.new
 generalize hm0 : lU=m0 at cB CV⊢
 have zm:=hB.size
 have N0:=yL.start hm0 cB mF hB CV
 clear hm0 cB mF hB CV
 go_wp2_with fail
 go_loopw [4,5,6,7,8,9,10,11,12,13,14] (fun v4 v5 v6 v7 _ _ _ _ _ _ _ wr=> ∃ (i : Nat) (K : bY) (m : Mem) (all gone live : List Int) (ba bg bl : Nat),v7= .int .i64 i∧i≤60∧yL w wr w1.heap.size i K m all gone live v4 v5 v6 ba bg bl) (fun _ _ _ i _ _ _ _ _ _ _ _=>60 - (intOf i).toNat)
 case atStart=>exact⟨0,_,_,_,_,_,_,_,_,rfl,by omega,N0⟩
 case round=>
  clear N0
  obtain⟨wo,rfl⟩ : ∃W : World,W=wr:= ⟨_,rfl⟩
  obtain⟨i,cK,m,all,gone,live,ba,bg,bl,rfl,G6,N⟩ :=hrel
  by_cases hlt : i<60
  case pos=>
   obtain⟨y0,G7,G8,k0⟩ :=hat (i) (by omega)
   obtain⟨y1,G9,G_,k1⟩ :=hat (i+1) (by omega)
   obtain⟨y2,y20,y21,k2⟩ :=hat (i+2) (by omega)
   obtain⟨y3,D6,y31,k3⟩ :=hat (i+3) (by omega)
   have hwk : aW 0 2 (y0%3) =true:=bD.2 ⟨by omega,by omega⟩
   have hz1 : 1≤1+y3%40∧1+y3%40≤40:=by omega
   clear hat
   by_cases c1 : y1%3=0
   case neg=>
    obtain⟨bG,cB,bT,bC,bf,mF,iB,gF,dB,NE,LO,HI,nr,LN,ps,hB⟩ :=N
    have hsz : dS m≤536870912:=Nat.le_trans (lu nr.ok) (by decide)
    have qb:=cB.lt
    have uF:=dQ bT
    have jO:=dQ bC
    have iG:=dQ bf
    have xJ:=bG.lt
    obtain⟨bN,bO,bP,bQ,cZ,dO⟩ :=bG.f4
    have c1' : (y1%3 == 0) =false:=by rw [beq_eq_false_iff_ne];exact c1
    obtain⟨rX,lV,hvl, -⟩ :=id bf.rd'
    subst hvl
    go_wp2_with fail
    refine(k0 _ hB _ rfl).mono ?_
    rintro e D7 ⟨rfl,hb⟩
    replace bG:=bG.below hb
    replace cB:=cB.step0 hb
    replace bT:=bT.step0 hb
    replace bC:=bC.step0 hb
    replace bf:=bf.step0 hb
    replace hB:=hB.trans (hb.mono hB.size)
    have sz:=hb.size
    clear hb
    clear bN bO bP bQ cZ dO
    obtain⟨bN,bO,bP,bQ,cZ,dO⟩ :=bG.f4
    go_wp2_with fail
    refine(k1 _ hB _ (by omega)).mono ?_
    rintro e vR ⟨rfl,hb⟩
    replace bG:=bG.below hb
    replace cB:=cB.step0 hb
    replace bT:=bT.step0 hb
    replace bC:=bC.step0 hb
    replace bf:=bf.step0 hb
    replace hB:=hB.trans (hb.mono hB.size)
    have sz:=hb.size
    clear hb
    clear bN bO bP bQ cZ dO
    obtain⟨bN,bO,bP,bQ,cZ,dO⟩ :=bG.f4
    clear k0 k1 k2
    have hw3 : IntKind.i64.wrap ((i : Int) +3) = (i : Int) +3:=by rw [IntKind.wrap_i64];omega
    have ht3 : y3.tmod 40=y3%40:=Int.tmod_eq_emod_of_nonneg D6
    have hw4 : IntKind.i64.wrap (1+y3%40) =1+y3%40:=by rw [IntKind.wrap_i64];omega
    have PS:=Hid.aD ps
    have rY:=Hid.aD nr
    clear ps nr
    have H4:=Hid.aD (And.intro NE (And.intro LO (And.intro HI LN)))
    have H5:=Hid.aD (And.intro hwk hz1)
    clear NE LO HI LN hwk hz1
    obtain⟨y,hd,c,HF⟩ : ∃y hd c,cO m (y0%3) (1+y3%40) = (y,hd,c) := ⟨_,_,_,rfl⟩
    have szB:=hB.size
    go_upto_region 19 with (fail)
    go_cut [12,13,14] from 81 to 93 (fun v12 v13 v14 wx=> ∃ (go : Nat) (ah : bY),v12= .pointer (some ⟨go,0,none⟩) ∧v13= .int .i64 hd∧v14= .int .i64 c∧aJ wx (w1.heap.size) [.slice cK.E.Y.a cK.E.Y.l cK.E.Y.c, .slice cK.E.Z.a cK.E.Z.l cK.E.Z.c, .slice cK.I.G.a cK.I.G.l cK.I.G.c, .slice cK.I.O.a cK.I.O.l cK.I.O.c]∧aJ wx go [.slice ah.E.Y.a ah.E.Y.l ah.E.Y.c, .slice ah.E.Z.a ah.E.Z.l ah.E.Z.c, .slice ah.I.G.a ah.I.G.l ah.I.G.c, .slice ah.I.O.a ah.I.O.l ah.I.O.c]∧eZ wx cK m∧bF FI 3 wx u4 all∧bF FI 3 wx u5 gone∧bF FI 3 wx (.slice rX live.length lV) live∧eZ wx ah y∧ (∀g∈ah.foot,vR.heap.size≤g∧g≠go) ∧vR.heap.size≤go∧Below w.heap.size w wx∧vR.heap.size≤wx.heap.size)
    case first=>
     go_region_held3 (fun w'=>w'.cell? ⟨w1.heap.size,0,none⟩ =some (.slice cK.E.Y.a cK.E.Y.l cK.E.Y.c) ∧w'.cell? ⟨w1.heap.size,1,none⟩ =some (.slice cK.E.Z.a cK.E.Z.l cK.E.Z.c) ∧w'.cell? ⟨w1.heap.size,2,none⟩ =some (.slice cK.I.G.a cK.I.G.l cK.I.G.c) ∧w'.cell? ⟨w1.heap.size,3,none⟩ =some (.slice cK.I.O.a cK.I.O.l cK.I.O.c)) (first| (with_reducible exact⟨bN,bO,bP,bQ⟩) | (refine⟨?_, ?_, ?_, ?_⟩ <;> (repeat (first|with_reducible assumption|with_reducible refine kC ?_ (by omega) |with_reducible refine jL ?_ (by omega) |with_reducible refine jX ?_));done) | (go_keep;done)) (first| (go_at_call 6; (first| ((with_reducible refine(k3 _ hB _ (by omega)).mono ?_);rintro e wq ⟨rfl,hb⟩;replace bG:=bG.below hb;replace cB:=cB.step0 hb;replace bT:=bT.step0 hb;replace bC:=bC.step0 hb;replace bf:=bf.step0 hb; (try replace dI:=dI.step0 hb);replace hB:=hB.trans (hb.mono hB.size);have sz:=hb.size; (try replace ay:=ay.below hb); (try replace aO:=ay.cell 0 _ rfl); (try replace aP:=ay.cell 1 _ rfl); (try replace bA:=ay.cell 2 _ rfl); (try replace bB:=ay.cell 3 _ rfl); (try replace aX:=ay.fP); (try replace bJ:=ay.lt);clear hb;clear bN bO bP bQ cZ dO;obtain⟨bN,bO,bP,bQ,cZ,dO⟩ :=bG.f4) | ((with_reducible refine(k3 _ hB.drew _ (by omega)).mono ?_);rintro e wq ⟨rfl,hb⟩;replace hb:=eY hb;replace bG:=bG.below hb;replace cB:=cB.step0 hb;replace bT:=bT.step0 hb;replace bC:=bC.step0 hb;replace bf:=bf.step0 hb; (try replace dI:=dI.step0 hb);replace hB:=hB.trans (hb.mono hB.size);have sz:=hb.size; (try replace ay:=ay.below hb); (try replace aO:=ay.cell 0 _ rfl); (try replace aP:=ay.cell 1 _ rfl); (try replace bA:=ay.cell 2 _ rfl); (try replace bB:=ay.cell 3 _ rfl); (try replace aX:=ay.fP); (try replace bJ:=ay.lt);clear hb;clear bN bO bP bQ cZ dO;obtain⟨bN,bO,bP,bQ,cZ,dO⟩ :=bG.f4) | ((with_reducible refine(k3 _ (hB.alloc hB.size _) _ (by omega)).mono ?_);rintro e wq ⟨rfl,hb⟩;replace bG:= (bG.alloc _).below hb;replace cB:=cB.step hb;replace bT:=bT.step hb;replace bC:=bC.step hb;replace bf:=bf.step hb; (try replace dI:=dI.step hb);replace hB:=eF hB hb hB.size;have sz:=hb.size;simp only [World.size_alloc] at sz;have ay:=aJ.below (aJ.new _ #[.slice none 0 0, .slice none 0 0, .slice none 0 0, .slice none 0 0] 31) hb;obtain⟨aO,aP,bA,bB,aX,bJ⟩ :=ay.f4;clear hb;clear bN bO bP bQ cZ dO;obtain⟨bN,bO,bP,bQ,cZ,dO⟩ :=bG.f4) | ((with_reducible refine(k3 _ (hB.alloc hB.size _).drew _ (by omega)).mono ?_);rintro e wq ⟨rfl,hb⟩;replace hb:=eY hb;replace bG:= (bG.alloc _).below hb;replace cB:=cB.step hb;replace bT:=bT.step hb;replace bC:=bC.step hb;replace bf:=bf.step hb; (try replace dI:=dI.step hb);replace hB:=eF hB hb hB.size;have sz:=hb.size;simp only [World.size_alloc] at sz;have ay:=aJ.below (aJ.new _ #[.slice none 0 0, .slice none 0 0, .slice none 0 0, .slice none 0 0] 31) hb;obtain⟨aO,aP,bA,bB,aX,bJ⟩ :=ay.f4;clear hb;clear bN bO bP bQ cZ dO;obtain⟨bN,bO,bP,bQ,cZ,dO⟩ :=bG.f4))) | (go_at_call 8; (first| ((with_reducible refine(je HF hsz _ cB.rd').mono ?_);rintro e wq ⟨ah,rfl,dI,dZ,hb⟩;have iD:=dI.lt;replace bG:=bG.below hb;replace cB:=cB.step0 hb;replace bT:=bT.step0 hb;replace bC:=bC.step0 hb;replace bf:=bf.step0 hb;replace hB:=hB.trans (hb.mono hB.size);have sz:=hb.size; (try replace ay:=ay.below hb); (try replace aO:=ay.cell 0 _ rfl); (try replace aP:=ay.cell 1 _ rfl); (try replace bA:=ay.cell 2 _ rfl); (try replace bB:=ay.cell 3 _ rfl); (try replace aX:=ay.fP); (try replace bJ:=ay.lt);clear hb;clear bN bO bP bQ cZ dO;obtain⟨bN,bO,bP,bQ,cZ,dO⟩ :=bG.f4) | ((with_reducible refine(je HF hsz _ (cB.gU).rd').mono ?_);rintro e wq ⟨ah,rfl,dI,dZ,hb⟩;replace hb:=eY hb;replace dZ:=iA dZ;have iD:=dI.lt;replace bG:=bG.below hb;replace cB:=cB.step0 hb;replace bT:=bT.step0 hb;replace bC:=bC.step0 hb;replace bf:=bf.step0 hb;replace hB:=hB.trans (hb.mono hB.size);have sz:=hb.size; (try replace ay:=ay.below hb); (try replace aO:=ay.cell 0 _ rfl); (try replace aP:=ay.cell 1 _ rfl); (try replace bA:=ay.cell 2 _ rfl); (try replace bB:=ay.cell 3 _ rfl); (try replace aX:=ay.fP); (try replace bJ:=ay.lt);clear hb;clear bN bO bP bQ cZ dO;obtain⟨bN,bO,bP,bQ,cZ,dO⟩ :=bG.f4) | ((with_reducible refine(je HF hsz _ (cB.aN _).rd').mono ?_);rintro e wq ⟨ah,rfl,dI,dZ,hb⟩;simp only [World.size_alloc] at dZ;have iD:=dI.lt;replace bG:= (bG.alloc _).below hb;replace cB:=cB.step hb;replace bT:=bT.step hb;replace bC:=bC.step hb;replace bf:=bf.step hb;replace hB:=eF hB hb hB.size;have sz:=hb.size;simp only [World.size_alloc] at sz;have ay:=aJ.below (aJ.new _ #[.slice none 0 0, .slice none 0 0, .slice none 0 0, .slice none 0 0] 31) hb;obtain⟨aO,aP,bA,bB,aX,bJ⟩ :=ay.f4;clear hb;clear bN bO bP bQ cZ dO;obtain⟨bN,bO,bP,bQ,cZ,dO⟩ :=bG.f4) | ((with_reducible refine(je HF hsz _ ((cB.aN _).gU).rd').mono ?_);rintro e wq ⟨ah,rfl,dI,dZ,hb⟩;replace hb:=eY hb;replace dZ:=iA dZ;simp only [World.size_alloc] at dZ;have iD:=dI.lt;replace bG:= (bG.alloc _).below hb;replace cB:=cB.step hb;replace bT:=bT.step hb;replace bC:=bC.step hb;replace bf:=bf.step hb;replace hB:=eF hB hb hB.size;have sz:=hb.size;simp only [World.size_alloc] at sz;have ay:=aJ.below (aJ.new _ #[.slice none 0 0, .slice none 0 0, .slice none 0 0, .slice none 0 0] 31) hb;obtain⟨aO,aP,bA,bB,aX,bJ⟩ :=ay.f4;clear hb;clear bN bO bP bQ cZ dO;obtain⟨bN,bO,bP,bQ,cZ,dO⟩ :=bG.f4))))
     all_goals
      go_wp2_with fail
      go_meet
      first|exact⟨_,ah,rfl,rfl,rfl,bG.alloc _,aJ.new _ _ _,cB.aN _,bT.aN _,bC.aN _,bf.aN _,dI.aN _,fun g hg=> ⟨by have:=dZ g hg;omega,by have:=iD g hg;omega⟩,by omega,hB.alloc hB.size _,by simp<;>omega⟩ | (obtain⟨go,hgo,kT⟩ :=ay.ad;rw [←hgo];exact⟨go,ah,rfl,rfl,rfl, ((((bG.other (by omega) _).other (by omega) _).other (by omega) _).other (by omega) _), ((((kT.set 0 _).set 1 _).set 2 _).set 3 _),cB.bn (F:= [go]) bV (fun g hg hm=>by simp only [List.mem_cons,List.not_mem_nil,or_false] at hm;have:=mF g hg;have:=qb g hg;omega),bT.bn (F:= [go]) bV (fun g hg hm=>by simp only [List.mem_cons,List.not_mem_nil,or_false] at hm;have:=iB g hg;have:=uF g hg;omega),bC.bn (F:= [go]) bV (fun g hg hm=>by simp only [List.mem_cons,List.not_mem_nil,or_false] at hm;have:=gF g hg;have:=jO g hg;omega),bf.bn (F:= [go]) bV (fun g hg hm=>by simp only [List.mem_cons,List.not_mem_nil,or_false] at hm;have:=dB g hg;have:=iG g hg;omega),dI.bn (F:= [go]) bV (fun g hg hm=>by simp only [List.mem_cons,List.not_mem_nil,or_false] at hm;have:=dZ g hg;have:=iD g hg;omega),fun g hg=> ⟨by have:=dZ g hg;omega,by have:=dZ g hg;have:=iD g hg;omega⟩,by omega,Below.trans hB fJ,by simp<;>omega⟩)
    case rest=>
     clear bG cZ dO bN bO bP bQ
     clear cB
     clear bT
     clear bC
     clear bf
     clear hB
     obtain⟨go,ah,rfl,rfl,rfl,bG,ay,cB,bT,bC,bf,dI,kX,sM,hB,sz⟩ :=hcut
     have dZ:=fun g hg=> (kX g hg).1
     have jR:=fun g hg=> (kX g hg).2
     have iD:=dI.lt
     clear kX
     have iF:=ay.lt
     obtain⟨bN,bO,bP,bQ,cZ,dO⟩ :=bG.f4
     obtain⟨aO,aP,bA,bB,aX,bJ⟩ :=ay.f4
     clear cB mF qb
     have ps:=PS.out
     have nr:=rY.out
     obtain⟨NE,LO,HI,LN⟩ :=H4.out
     obtain⟨hwk,hz1⟩ :=H5.out
     clear PS rY H4 H5
     by_cases hc : c=0
     case neg=>
      have ps' : all≠ []:=by
       rcases ps with ⟨_,e1,_⟩ |e
       ·exfalso
        apply hc
        have a:=vO hwk hz1.1 hz1.2
        rw [←e1,HF] at a
        exact a
       ·exact e
      obtain rfl : y=m:=by
       have a:=um (m:=m) (w:=y0%3) (n:=1+y3%40) (by rw [HF];exact hc)
       rw [HF] at a
       exact a.1
      go_upto_region 21 with (fail)
      clear ay aX bJ aO aP bA bB
      replace bG : aJ ((((wc.setCell ⟨w1.heap.size,0,none⟩ (.slice ah.E.Y.a ah.E.Y.l ah.E.Y.c)).setCell ⟨w1.heap.size,1,none⟩ (.slice ah.E.Z.a ah.E.Z.l ah.E.Z.c)).setCell ⟨w1.heap.size,2,none⟩ (.slice ah.I.G.a ah.I.G.l ah.I.G.c)).setCell ⟨w1.heap.size,3,none⟩ (.slice ah.I.O.a ah.I.O.l ah.I.O.c)) w1.heap.size [.slice ah.E.Y.a ah.E.Y.l ah.E.Y.c, .slice ah.E.Z.a ah.E.Z.l ah.E.Z.c, .slice ah.I.G.a ah.I.G.l ah.I.G.c, .slice ah.I.O.a ah.I.O.l ah.I.O.c]:= ((((bG.set 0 (.slice ah.E.Y.a ah.E.Y.l ah.E.Y.c)).set 1 (.slice ah.E.Z.a ah.E.Z.l ah.E.Z.c)).set 2 (.slice ah.I.G.a ah.I.G.l ah.I.G.c)).set 3 (.slice ah.I.O.a ah.I.O.l ah.I.O.c))
      replace dI:=dI.bn (F:= [w1.heap.size]) (w':= ((((wc.setCell ⟨w1.heap.size,0,none⟩ (.slice ah.E.Y.a ah.E.Y.l ah.E.Y.c)).setCell ⟨w1.heap.size,1,none⟩ (.slice ah.E.Z.a ah.E.Z.l ah.E.Z.c)).setCell ⟨w1.heap.size,2,none⟩ (.slice ah.I.G.a ah.I.G.l ah.I.G.c)).setCell ⟨w1.heap.size,3,none⟩ (.slice ah.I.O.a ah.I.O.l ah.I.O.c))) bV (fun b hb hm=>by simp only [List.mem_cons,List.not_mem_nil,or_false] at hm;have:=dZ b hb;omega)
      replace bT:=bT.bn (F:= [w1.heap.size]) (w':= ((((wc.setCell ⟨w1.heap.size,0,none⟩ (.slice ah.E.Y.a ah.E.Y.l ah.E.Y.c)).setCell ⟨w1.heap.size,1,none⟩ (.slice ah.E.Z.a ah.E.Z.l ah.E.Z.c)).setCell ⟨w1.heap.size,2,none⟩ (.slice ah.I.G.a ah.I.G.l ah.I.G.c)).setCell ⟨w1.heap.size,3,none⟩ (.slice ah.I.O.a ah.I.O.l ah.I.O.c))) bV (fun b hb hm=>by simp only [List.mem_cons,List.not_mem_nil,or_false] at hm;have:=iB b hb;omega)
      replace bC:=bC.bn (F:= [w1.heap.size]) (w':= ((((wc.setCell ⟨w1.heap.size,0,none⟩ (.slice ah.E.Y.a ah.E.Y.l ah.E.Y.c)).setCell ⟨w1.heap.size,1,none⟩ (.slice ah.E.Z.a ah.E.Z.l ah.E.Z.c)).setCell ⟨w1.heap.size,2,none⟩ (.slice ah.I.G.a ah.I.G.l ah.I.G.c)).setCell ⟨w1.heap.size,3,none⟩ (.slice ah.I.O.a ah.I.O.l ah.I.O.c))) bV (fun b hb hm=>by simp only [List.mem_cons,List.not_mem_nil,or_false] at hm;have:=gF b hb;omega)
      replace bf:=bf.bn (F:= [w1.heap.size]) (w':= ((((wc.setCell ⟨w1.heap.size,0,none⟩ (.slice ah.E.Y.a ah.E.Y.l ah.E.Y.c)).setCell ⟨w1.heap.size,1,none⟩ (.slice ah.E.Z.a ah.E.Z.l ah.E.Z.c)).setCell ⟨w1.heap.size,2,none⟩ (.slice ah.I.G.a ah.I.G.l ah.I.G.c)).setCell ⟨w1.heap.size,3,none⟩ (.slice ah.I.O.a ah.I.O.l ah.I.O.c))) bV (fun b hb hm=>by simp only [List.mem_cons,List.not_mem_nil,or_false] at hm;have:=dB b hb;omega)
      replace hB : Below w.heap.size w ((((wc.setCell ⟨w1.heap.size,0,none⟩ (.slice ah.E.Y.a ah.E.Y.l ah.E.Y.c)).setCell ⟨w1.heap.size,1,none⟩ (.slice ah.E.Z.a ah.E.Z.l ah.E.Z.c)).setCell ⟨w1.heap.size,2,none⟩ (.slice ah.I.G.a ah.I.G.l ah.I.G.c)).setCell ⟨w1.heap.size,3,none⟩ (.slice ah.I.O.a ah.I.O.l ah.I.O.c)) :=Below.trans hB fJ
      have sz : wc.heap.size≤ ((((wc.setCell ⟨w1.heap.size,0,none⟩ (.slice ah.E.Y.a ah.E.Y.l ah.E.Y.c)).setCell ⟨w1.heap.size,1,none⟩ (.slice ah.E.Z.a ah.E.Z.l ah.E.Z.c)).setCell ⟨w1.heap.size,2,none⟩ (.slice ah.I.G.a ah.I.G.l ah.I.G.c)).setCell ⟨w1.heap.size,3,none⟩ (.slice ah.I.O.a ah.I.O.l ah.I.O.c)).heap.size:=by simp
      generalize hG : ((((wc.setCell ⟨w1.heap.size,0,none⟩ (.slice ah.E.Y.a ah.E.Y.l ah.E.Y.c)).setCell ⟨w1.heap.size,1,none⟩ (.slice ah.E.Z.a ah.E.Z.l ah.E.Z.c)).setCell ⟨w1.heap.size,2,none⟩ (.slice ah.I.G.a ah.I.G.l ah.I.G.c)).setCell ⟨w1.heap.size,3,none⟩ (.slice ah.I.O.a ah.I.O.l ah.I.O.c)) =xK at bG dI bT bC bf hB sz⊢
      clear hG
      go_wp2_with fail
      go_roundw
      case rel=>exact⟨i+1,ah,y,all,gone,live,ba,bg,bl,by go_num,by omega, {bM:=bG,oM:=dI,oA:=bT,oG:=bC,oL:=bf,fM:=fun b hb=>by have:=dZ b hb;have:=iD b hb;omega,fA:=iB,fG:=gF,fL:=dB,ne:=NE,lo:=LO,hi:=by omega,nr:=nr,ln:=by omega,ps:= .inr ps',hB:=hB}⟩
      case measure=>simp [intOf];omega
     subst hc
     obtain⟨hna,hok,nS⟩ :=nr.alloc (w:=y0%3) (n:=1+y3%40) (by rw [HF])
     rw [HF] at hna hok nS
     simp only at hna hok nS
     have hany : (all.any fun y=>y == hd) =false:=by
      rw [List.any_eq_false]
      intro z hz e
      rw [beq_iff_eq] at e
      exact hna (e ▸ hz)
     have yM:=Hid.aD nS
     clear nS nr HF
     go_upto_region 21 with (fail)
     clear ay aX bJ aO aP bA bB
     replace bG : aJ ((((wc.setCell ⟨w1.heap.size,0,none⟩ (.slice ah.E.Y.a ah.E.Y.l ah.E.Y.c)).setCell ⟨w1.heap.size,1,none⟩ (.slice ah.E.Z.a ah.E.Z.l ah.E.Z.c)).setCell ⟨w1.heap.size,2,none⟩ (.slice ah.I.G.a ah.I.G.l ah.I.G.c)).setCell ⟨w1.heap.size,3,none⟩ (.slice ah.I.O.a ah.I.O.l ah.I.O.c)) w1.heap.size [.slice ah.E.Y.a ah.E.Y.l ah.E.Y.c, .slice ah.E.Z.a ah.E.Z.l ah.E.Z.c, .slice ah.I.G.a ah.I.G.l ah.I.G.c, .slice ah.I.O.a ah.I.O.l ah.I.O.c]:= ((((bG.set 0 (.slice ah.E.Y.a ah.E.Y.l ah.E.Y.c)).set 1 (.slice ah.E.Z.a ah.E.Z.l ah.E.Z.c)).set 2 (.slice ah.I.G.a ah.I.G.l ah.I.G.c)).set 3 (.slice ah.I.O.a ah.I.O.l ah.I.O.c))
     replace dI:=dI.bn (F:= [w1.heap.size]) (w':= ((((wc.setCell ⟨w1.heap.size,0,none⟩ (.slice ah.E.Y.a ah.E.Y.l ah.E.Y.c)).setCell ⟨w1.heap.size,1,none⟩ (.slice ah.E.Z.a ah.E.Z.l ah.E.Z.c)).setCell ⟨w1.heap.size,2,none⟩ (.slice ah.I.G.a ah.I.G.l ah.I.G.c)).setCell ⟨w1.heap.size,3,none⟩ (.slice ah.I.O.a ah.I.O.l ah.I.O.c))) bV (fun b hb hm=>by simp only [List.mem_cons,List.not_mem_nil,or_false] at hm;have:=dZ b hb;omega)
     replace bT:=bT.bn (F:= [w1.heap.size]) (w':= ((((wc.setCell ⟨w1.heap.size,0,none⟩ (.slice ah.E.Y.a ah.E.Y.l ah.E.Y.c)).setCell ⟨w1.heap.size,1,none⟩ (.slice ah.E.Z.a ah.E.Z.l ah.E.Z.c)).setCell ⟨w1.heap.size,2,none⟩ (.slice ah.I.G.a ah.I.G.l ah.I.G.c)).setCell ⟨w1.heap.size,3,none⟩ (.slice ah.I.O.a ah.I.O.l ah.I.O.c))) bV (fun b hb hm=>by simp only [List.mem_cons,List.not_mem_nil,or_false] at hm;have:=iB b hb;omega)
     replace bC:=bC.bn (F:= [w1.heap.size]) (w':= ((((wc.setCell ⟨w1.heap.size,0,none⟩ (.slice ah.E.Y.a ah.E.Y.l ah.E.Y.c)).setCell ⟨w1.heap.size,1,none⟩ (.slice ah.E.Z.a ah.E.Z.l ah.E.Z.c)).setCell ⟨w1.heap.size,2,none⟩ (.slice ah.I.G.a ah.I.G.l ah.I.G.c)).setCell ⟨w1.heap.size,3,none⟩ (.slice ah.I.O.a ah.I.O.l ah.I.O.c))) bV (fun b hb hm=>by simp only [List.mem_cons,List.not_mem_nil,or_false] at hm;have:=gF b hb;omega)
     replace bf:=bf.bn (F:= [w1.heap.size]) (w':= ((((wc.setCell ⟨w1.heap.size,0,none⟩ (.slice ah.E.Y.a ah.E.Y.l ah.E.Y.c)).setCell ⟨w1.heap.size,1,none⟩ (.slice ah.E.Z.a ah.E.Z.l ah.E.Z.c)).setCell ⟨w1.heap.size,2,none⟩ (.slice ah.I.G.a ah.I.G.l ah.I.G.c)).setCell ⟨w1.heap.size,3,none⟩ (.slice ah.I.O.a ah.I.O.l ah.I.O.c))) bV (fun b hb hm=>by simp only [List.mem_cons,List.not_mem_nil,or_false] at hm;have:=dB b hb;omega)
     replace hB : Below w.heap.size w ((((wc.setCell ⟨w1.heap.size,0,none⟩ (.slice ah.E.Y.a ah.E.Y.l ah.E.Y.c)).setCell ⟨w1.heap.size,1,none⟩ (.slice ah.E.Z.a ah.E.Z.l ah.E.Z.c)).setCell ⟨w1.heap.size,2,none⟩ (.slice ah.I.G.a ah.I.G.l ah.I.G.c)).setCell ⟨w1.heap.size,3,none⟩ (.slice ah.I.O.a ah.I.O.l ah.I.O.c)) :=Below.trans hB fJ
     have sz : wc.heap.size≤ ((((wc.setCell ⟨w1.heap.size,0,none⟩ (.slice ah.E.Y.a ah.E.Y.l ah.E.Y.c)).setCell ⟨w1.heap.size,1,none⟩ (.slice ah.E.Z.a ah.E.Z.l ah.E.Z.c)).setCell ⟨w1.heap.size,2,none⟩ (.slice ah.I.G.a ah.I.G.l ah.I.G.c)).setCell ⟨w1.heap.size,3,none⟩ (.slice ah.I.O.a ah.I.O.l ah.I.O.c)).heap.size:=by simp
     generalize hG : ((((wc.setCell ⟨w1.heap.size,0,none⟩ (.slice ah.E.Y.a ah.E.Y.l ah.E.Y.c)).setCell ⟨w1.heap.size,1,none⟩ (.slice ah.E.Z.a ah.E.Z.l ah.E.Z.c)).setCell ⟨w1.heap.size,2,none⟩ (.slice ah.I.G.a ah.I.G.l ah.I.G.c)).setCell ⟨w1.heap.size,3,none⟩ (.slice ah.I.O.a ah.I.O.l ah.I.O.c)) =xK at bG dI bT bC bf hB sz⊢
     clear hG
     clear bN bO bP bQ cZ dO
     obtain⟨bN,bO,bP,bQ,cZ,dO⟩ :=bG.f4
     go_wp2_with fail
     refine(Af _ _ all hd bT.rd').mono ?_
     rw [hany]
     rintro e uG ⟨rfl,hb⟩
     replace bG:=bG.below hb
     have dI:=dI.step0 hb
     replace bT:=bT.step0 hb
     replace bC:=bC.step0 hb
     replace bf:=bf.step0 hb
     replace hB:=hB.trans (hb.mono hB.size)
     have sz:=hb.size
     clear hb
     clear bN bO bP bQ cZ dO
     obtain⟨bN,bO,bP,bQ,cZ,dO⟩ :=bG.f4
     have hoc:=fun W=>jB hd W
     rw [hok] at hoc
     have szB:=hB.size
     go_wp2_with (first| (go_at_call 10;refine(hoc _).mono ?_;rintro e wq ⟨rfl,rfl⟩) | (at_builtin;refine dV Try.stInt rfl _ _ rfl (v:=u4) (y:= .slice (some ⟨uG.heap.size,0,none⟩) 1 1) (l:=all) (m:= [hd]) rfl rfl (bF.aN bT _) (bF.lit FI [hd] #[.int .i64 hd] rfl (by simp [maxLen]) uG 3).rd' (by simp;omega) ?_;intro D8 oH ho1 hg1 qV;have hx1:=bW.gP hg1;have xL:=hx1.size;simp only [World.size_alloc] at xL;replace bG:= (bG.alloc (.cells #[.int .i64 hd] 3)).bn hx1 (fun hm=>by have:=iB _ hm;omega);replace dI:= (dI.aN (.cells #[.int .i64 hd] 3)).bn hx1 (fun b hb hm=>by have:=dZ b hb;have:=iB _ hm;omega);replace bC:= (bC.aN (.cells #[.int .i64 hd] 3)).bn hx1 (fun b hb hm=>by have:=gF b hb;have:=iB _ hm;omega);replace bf:= (bf.aN (.cells #[.int .i64 hd] 3)).bn hx1 (fun b hb hm=>by have:=dB b hb;have:=iB _ hm;omega);replace hB : Below w.heap.size w oH:=Below.grown (hB.alloc hB.size (.cells #[.int .i64 hd] 3)) hg1 (by have:=hB.size;simp;omega) (fun k hk=>by have:=iB k (bH.2 hk);omega);obtain⟨yN,vS,Ak⟩ :=kE qV iB (dQ ho1);simp only [World.size_alloc] at Ak;replace bT:=ho1;replace iB:=vS;clear ho1 vS hg1 qV hx1) | (at_builtin;refine dV Try.stInt rfl _ _ rfl (v:= (.slice rX live.length lV)) (y:= .slice (some ⟨oH.heap.size,0,none⟩) 1 1) (l:=live) (m:= [hd]) rfl rfl (bF.aN bf _) (bF.lit FI [hd] #[.int .i64 hd] rfl (by simp [maxLen]) oH 3).rd' (by simp;omega) ?_;intro Fq CW ho2 hg2 nI;have hx2:=bW.gP hg2;have A8:=hx2.size;simp only [World.size_alloc] at A8;replace bG:= (bG.alloc (.cells #[.int .i64 hd] 3)).bn hx2 (fun hm=>by have:=dB _ hm;omega);replace dI:= (dI.aN (.cells #[.int .i64 hd] 3)).bn hx2 (fun b hb hm=>by have:=dZ b hb;have:=dB _ hm;omega);replace bT:= (bT.aN (.cells #[.int .i64 hd] 3)).bn hx2 (fun b hb hm=>by have:=iB b hb;have:=dB _ hm;omega);replace bC:= (bC.aN (.cells #[.int .i64 hd] 3)).bn hx2 (fun b hb hm=>by have:=gF b hb;have:=dB _ hm;omega);replace hB : Below w.heap.size w CW:=Below.grown (hB.alloc hB.size (.cells #[.int .i64 hd] 3)) hg2 (by have:=hB.size;simp;omega) (fun k hk=>by have:=dB k (bH.2 hk);omega);obtain⟨Al,kN,xM⟩ :=kE nI dB (dQ ho2);simp only [World.size_alloc] at xM;replace bf:=ho2;replace dB:=kN;clear ho2 kN hg2 nI hx2))
     go_roundw
     case rel=>exact⟨i+1,ah,y,all++ [hd],gone,live++ [hd],yN,bg,Al,by go_num,by omega, {bM:=bG,oM:=dI,oA:=bT,oG:=bC,oL:=bf,fM:=fun b hb=>by have:=dZ b hb;have:=iD b hb;omega,fA:=iB,fG:=gF,fL:=dB,ne:=by omega,lo:=by omega,hi:=by omega,nr:=yM.out,ln:=by simp only [List.length_append,List.length_cons,List.length_nil];omega,ps:= .inr (by simp),hB:=hB}⟩
     case measure=>simp [intOf];omega
   by_cases hl : 0<live.length
   case neg=>
    obtain⟨bG,cB,bT,bC,bf,mF,iB,gF,dB,NE,LO,HI,nr,LN,ps,hB⟩ :=N
    have hsz : dS m≤536870912:=Nat.le_trans (lu nr.ok) (by decide)
    have qb:=cB.lt
    have uF:=dQ bT
    have jO:=dQ bC
    have iG:=dQ bf
    have xJ:=bG.lt
    obtain⟨bN,bO,bP,bQ,cZ,dO⟩ :=bG.f4
    have c1' : (y1%3 == 0) =true:=by rw [beq_iff_eq];exact c1
    have hd1 : decide ((0 : Int) < (live.length : Int)) =false:=decide_eq_false (by omega)
    have hd2 : decide (0<live.length) =false:=decide_eq_false hl
    clear hl c1
    obtain⟨rX,lV,hvl, -⟩ :=id bf.rd'
    subst hvl
    go_wp2_with fail
    refine(k0 _ hB _ rfl).mono ?_
    rintro e D7 ⟨rfl,hb⟩
    replace bG:=bG.below hb
    replace cB:=cB.step0 hb
    replace bT:=bT.step0 hb
    replace bC:=bC.step0 hb
    replace bf:=bf.step0 hb
    replace hB:=hB.trans (hb.mono hB.size)
    have sz:=hb.size
    clear hb
    clear bN bO bP bQ cZ dO
    obtain⟨bN,bO,bP,bQ,cZ,dO⟩ :=bG.f4
    go_wp2_with fail
    refine(k1 _ hB _ (by omega)).mono ?_
    rintro e vR ⟨rfl,hb⟩
    replace bG:=bG.below hb
    replace cB:=cB.step0 hb
    replace bT:=bT.step0 hb
    replace bC:=bC.step0 hb
    replace bf:=bf.step0 hb
    replace hB:=hB.trans (hb.mono hB.size)
    have sz:=hb.size
    clear hb
    clear bN bO bP bQ cZ dO
    obtain⟨bN,bO,bP,bQ,cZ,dO⟩ :=bG.f4
    clear k0 k1 k2
    have hw3 : IntKind.i64.wrap ((i : Int) +3) = (i : Int) +3:=by rw [IntKind.wrap_i64];omega
    have ht3 : y3.tmod 40=y3%40:=Int.tmod_eq_emod_of_nonneg D6
    have hw4 : IntKind.i64.wrap (1+y3%40) =1+y3%40:=by rw [IntKind.wrap_i64];omega
    have PS:=Hid.aD ps
    have rY:=Hid.aD nr
    clear ps nr
    have H4:=Hid.aD (And.intro NE (And.intro LO (And.intro HI LN)))
    have H5:=Hid.aD (And.intro hwk hz1)
    clear NE LO HI LN hwk hz1
    obtain⟨y,hd,c,HF⟩ : ∃y hd c,cO m (y0%3) (1+y3%40) = (y,hd,c) := ⟨_,_,_,rfl⟩
    have szB:=hB.size
    go_upto_region 19 with (fail)
    go_cut [12,13,14] from 81 to 93 (fun v12 v13 v14 wx=> ∃ (go : Nat) (ah : bY),v12= .pointer (some ⟨go,0,none⟩) ∧v13= .int .i64 hd∧v14= .int .i64 c∧aJ wx (w1.heap.size) [.slice cK.E.Y.a cK.E.Y.l cK.E.Y.c, .slice cK.E.Z.a cK.E.Z.l cK.E.Z.c, .slice cK.I.G.a cK.I.G.l cK.I.G.c, .slice cK.I.O.a cK.I.O.l cK.I.O.c]∧aJ wx go [.slice ah.E.Y.a ah.E.Y.l ah.E.Y.c, .slice ah.E.Z.a ah.E.Z.l ah.E.Z.c, .slice ah.I.G.a ah.I.G.l ah.I.G.c, .slice ah.I.O.a ah.I.O.l ah.I.O.c]∧eZ wx cK m∧bF FI 3 wx u4 all∧bF FI 3 wx u5 gone∧bF FI 3 wx (.slice rX live.length lV) live∧eZ wx ah y∧ (∀g∈ah.foot,vR.heap.size≤g∧g≠go) ∧vR.heap.size≤go∧Below w.heap.size w wx∧vR.heap.size≤wx.heap.size)
    case first=>
     go_region_held3 (fun w'=>w'.cell? ⟨w1.heap.size,0,none⟩ =some (.slice cK.E.Y.a cK.E.Y.l cK.E.Y.c) ∧w'.cell? ⟨w1.heap.size,1,none⟩ =some (.slice cK.E.Z.a cK.E.Z.l cK.E.Z.c) ∧w'.cell? ⟨w1.heap.size,2,none⟩ =some (.slice cK.I.G.a cK.I.G.l cK.I.G.c) ∧w'.cell? ⟨w1.heap.size,3,none⟩ =some (.slice cK.I.O.a cK.I.O.l cK.I.O.c)) (first| (with_reducible exact⟨bN,bO,bP,bQ⟩) | (refine⟨?_, ?_, ?_, ?_⟩ <;> (repeat (first|with_reducible assumption|with_reducible refine kC ?_ (by omega) |with_reducible refine jL ?_ (by omega) |with_reducible refine jX ?_));done) | (go_keep;done)) (first| (go_at_call 6; (first| ((with_reducible refine(k3 _ hB _ (by omega)).mono ?_);rintro e wq ⟨rfl,hb⟩;replace bG:=bG.below hb;replace cB:=cB.step0 hb;replace bT:=bT.step0 hb;replace bC:=bC.step0 hb;replace bf:=bf.step0 hb; (try replace dI:=dI.step0 hb);replace hB:=hB.trans (hb.mono hB.size);have sz:=hb.size; (try replace ay:=ay.below hb); (try replace aO:=ay.cell 0 _ rfl); (try replace aP:=ay.cell 1 _ rfl); (try replace bA:=ay.cell 2 _ rfl); (try replace bB:=ay.cell 3 _ rfl); (try replace aX:=ay.fP); (try replace bJ:=ay.lt);clear hb;clear bN bO bP bQ cZ dO;obtain⟨bN,bO,bP,bQ,cZ,dO⟩ :=bG.f4) | ((with_reducible refine(k3 _ hB.drew _ (by omega)).mono ?_);rintro e wq ⟨rfl,hb⟩;replace hb:=eY hb;replace bG:=bG.below hb;replace cB:=cB.step0 hb;replace bT:=bT.step0 hb;replace bC:=bC.step0 hb;replace bf:=bf.step0 hb; (try replace dI:=dI.step0 hb);replace hB:=hB.trans (hb.mono hB.size);have sz:=hb.size; (try replace ay:=ay.below hb); (try replace aO:=ay.cell 0 _ rfl); (try replace aP:=ay.cell 1 _ rfl); (try replace bA:=ay.cell 2 _ rfl); (try replace bB:=ay.cell 3 _ rfl); (try replace aX:=ay.fP); (try replace bJ:=ay.lt);clear hb;clear bN bO bP bQ cZ dO;obtain⟨bN,bO,bP,bQ,cZ,dO⟩ :=bG.f4) | ((with_reducible refine(k3 _ (hB.alloc hB.size _) _ (by omega)).mono ?_);rintro e wq ⟨rfl,hb⟩;replace bG:= (bG.alloc _).below hb;replace cB:=cB.step hb;replace bT:=bT.step hb;replace bC:=bC.step hb;replace bf:=bf.step hb; (try replace dI:=dI.step hb);replace hB:=eF hB hb hB.size;have sz:=hb.size;simp only [World.size_alloc] at sz;have ay:=aJ.below (aJ.new _ #[.slice none 0 0, .slice none 0 0, .slice none 0 0, .slice none 0 0] 31) hb;obtain⟨aO,aP,bA,bB,aX,bJ⟩ :=ay.f4;clear hb;clear bN bO bP bQ cZ dO;obtain⟨bN,bO,bP,bQ,cZ,dO⟩ :=bG.f4) | ((with_reducible refine(k3 _ (hB.alloc hB.size _).drew _ (by omega)).mono ?_);rintro e wq ⟨rfl,hb⟩;replace hb:=eY hb;replace bG:= (bG.alloc _).below hb;replace cB:=cB.step hb;replace bT:=bT.step hb;replace bC:=bC.step hb;replace bf:=bf.step hb; (try replace dI:=dI.step hb);replace hB:=eF hB hb hB.size;have sz:=hb.size;simp only [World.size_alloc] at sz;have ay:=aJ.below (aJ.new _ #[.slice none 0 0, .slice none 0 0, .slice none 0 0, .slice none 0 0] 31) hb;obtain⟨aO,aP,bA,bB,aX,bJ⟩ :=ay.f4;clear hb;clear bN bO bP bQ cZ dO;obtain⟨bN,bO,bP,bQ,cZ,dO⟩ :=bG.f4))) | (go_at_call 8; (first| ((with_reducible refine(je HF hsz _ cB.rd').mono ?_);rintro e wq ⟨ah,rfl,dI,dZ,hb⟩;have iD:=dI.lt;replace bG:=bG.below hb;replace cB:=cB.step0 hb;replace bT:=bT.step0 hb;replace bC:=bC.step0 hb;replace bf:=bf.step0 hb;replace hB:=hB.trans (hb.mono hB.size);have sz:=hb.size; (try replace ay:=ay.below hb); (try replace aO:=ay.cell 0 _ rfl); (try replace aP:=ay.cell 1 _ rfl); (try replace bA:=ay.cell 2 _ rfl); (try replace bB:=ay.cell 3 _ rfl); (try replace aX:=ay.fP); (try replace bJ:=ay.lt);clear hb;clear bN bO bP bQ cZ dO;obtain⟨bN,bO,bP,bQ,cZ,dO⟩ :=bG.f4) | ((with_reducible refine(je HF hsz _ (cB.gU).rd').mono ?_);rintro e wq ⟨ah,rfl,dI,dZ,hb⟩;replace hb:=eY hb;replace dZ:=iA dZ;have iD:=dI.lt;replace bG:=bG.below hb;replace cB:=cB.step0 hb;replace bT:=bT.step0 hb;replace bC:=bC.step0 hb;replace bf:=bf.step0 hb;replace hB:=hB.trans (hb.mono hB.size);have sz:=hb.size; (try replace ay:=ay.below hb); (try replace aO:=ay.cell 0 _ rfl); (try replace aP:=ay.cell 1 _ rfl); (try replace bA:=ay.cell 2 _ rfl); (try replace bB:=ay.cell 3 _ rfl); (try replace aX:=ay.fP); (try replace bJ:=ay.lt);clear hb;clear bN bO bP bQ cZ dO;obtain⟨bN,bO,bP,bQ,cZ,dO⟩ :=bG.f4) | ((with_reducible refine(je HF hsz _ (cB.aN _).rd').mono ?_);rintro e wq ⟨ah,rfl,dI,dZ,hb⟩;simp only [World.size_alloc] at dZ;have iD:=dI.lt;replace bG:= (bG.alloc _).below hb;replace cB:=cB.step hb;replace bT:=bT.step hb;replace bC:=bC.step hb;replace bf:=bf.step hb;replace hB:=eF hB hb hB.size;have sz:=hb.size;simp only [World.size_alloc] at sz;have ay:=aJ.below (aJ.new _ #[.slice none 0 0, .slice none 0 0, .slice none 0 0, .slice none 0 0] 31) hb;obtain⟨aO,aP,bA,bB,aX,bJ⟩ :=ay.f4;clear hb;clear bN bO bP bQ cZ dO;obtain⟨bN,bO,bP,bQ,cZ,dO⟩ :=bG.f4) | ((with_reducible refine(je HF hsz _ ((cB.aN _).gU).rd').mono ?_);rintro e wq ⟨ah,rfl,dI,dZ,hb⟩;replace hb:=eY hb;replace dZ:=iA dZ;simp only [World.size_alloc] at dZ;have iD:=dI.lt;replace bG:= (bG.alloc _).below hb;replace cB:=cB.step hb;replace bT:=bT.step hb;replace bC:=bC.step hb;replace bf:=bf.step hb;replace hB:=eF hB hb hB.size;have sz:=hb.size;simp only [World.size_alloc] at sz;have ay:=aJ.below (aJ.new _ #[.slice none 0 0, .slice none 0 0, .slice none 0 0, .slice none 0 0] 31) hb;obtain⟨aO,aP,bA,bB,aX,bJ⟩ :=ay.f4;clear hb;clear bN bO bP bQ cZ dO;obtain⟨bN,bO,bP,bQ,cZ,dO⟩ :=bG.f4))))
     all_goals
      go_wp2_with fail
      go_meet
      first|exact⟨_,ah,rfl,rfl,rfl,bG.alloc _,aJ.new _ _ _,cB.aN _,bT.aN _,bC.aN _,bf.aN _,dI.aN _,fun g hg=> ⟨by have:=dZ g hg;omega,by have:=iD g hg;omega⟩,by omega,hB.alloc hB.size _,by simp<;>omega⟩ | (obtain⟨go,hgo,kT⟩ :=ay.ad;rw [←hgo];exact⟨go,ah,rfl,rfl,rfl, ((((bG.other (by omega) _).other (by omega) _).other (by omega) _).other (by omega) _), ((((kT.set 0 _).set 1 _).set 2 _).set 3 _),cB.bn (F:= [go]) bV (fun g hg hm=>by simp only [List.mem_cons,List.not_mem_nil,or_false] at hm;have:=mF g hg;have:=qb g hg;omega),bT.bn (F:= [go]) bV (fun g hg hm=>by simp only [List.mem_cons,List.not_mem_nil,or_false] at hm;have:=iB g hg;have:=uF g hg;omega),bC.bn (F:= [go]) bV (fun g hg hm=>by simp only [List.mem_cons,List.not_mem_nil,or_false] at hm;have:=gF g hg;have:=jO g hg;omega),bf.bn (F:= [go]) bV (fun g hg hm=>by simp only [List.mem_cons,List.not_mem_nil,or_false] at hm;have:=dB g hg;have:=iG g hg;omega),dI.bn (F:= [go]) bV (fun g hg hm=>by simp only [List.mem_cons,List.not_mem_nil,or_false] at hm;have:=dZ g hg;have:=iD g hg;omega),fun g hg=> ⟨by have:=dZ g hg;omega,by have:=dZ g hg;have:=iD g hg;omega⟩,by omega,Below.trans hB fJ,by simp<;>omega⟩)
    case rest=>
     clear bG cZ dO bN bO bP bQ
     clear cB
     clear bT
     clear bC
     clear bf
     clear hB
     obtain⟨go,ah,rfl,rfl,rfl,bG,ay,cB,bT,bC,bf,dI,kX,sM,hB,sz⟩ :=hcut
     have dZ:=fun g hg=> (kX g hg).1
     have jR:=fun g hg=> (kX g hg).2
     have iD:=dI.lt
     clear kX
     have iF:=ay.lt
     obtain⟨bN,bO,bP,bQ,cZ,dO⟩ :=bG.f4
     obtain⟨aO,aP,bA,bB,aX,bJ⟩ :=ay.f4
     clear cB mF qb
     have ps:=PS.out
     have nr:=rY.out
     obtain⟨NE,LO,HI,LN⟩ :=H4.out
     obtain⟨hwk,hz1⟩ :=H5.out
     clear PS rY H4 H5
     by_cases hc : c=0
     case neg=>
      have ps' : all≠ []:=by
       rcases ps with ⟨_,e1,_⟩ |e
       ·exfalso
        apply hc
        have a:=vO hwk hz1.1 hz1.2
        rw [←e1,HF] at a
        exact a
       ·exact e
      obtain rfl : y=m:=by
       have a:=um (m:=m) (w:=y0%3) (n:=1+y3%40) (by rw [HF];exact hc)
       rw [HF] at a
       exact a.1
      go_upto_region 21 with (fail)
      clear ay aX bJ aO aP bA bB
      replace bG : aJ ((((wc.setCell ⟨w1.heap.size,0,none⟩ (.slice ah.E.Y.a ah.E.Y.l ah.E.Y.c)).setCell ⟨w1.heap.size,1,none⟩ (.slice ah.E.Z.a ah.E.Z.l ah.E.Z.c)).setCell ⟨w1.heap.size,2,none⟩ (.slice ah.I.G.a ah.I.G.l ah.I.G.c)).setCell ⟨w1.heap.size,3,none⟩ (.slice ah.I.O.a ah.I.O.l ah.I.O.c)) w1.heap.size [.slice ah.E.Y.a ah.E.Y.l ah.E.Y.c, .slice ah.E.Z.a ah.E.Z.l ah.E.Z.c, .slice ah.I.G.a ah.I.G.l ah.I.G.c, .slice ah.I.O.a ah.I.O.l ah.I.O.c]:= ((((bG.set 0 (.slice ah.E.Y.a ah.E.Y.l ah.E.Y.c)).set 1 (.slice ah.E.Z.a ah.E.Z.l ah.E.Z.c)).set 2 (.slice ah.I.G.a ah.I.G.l ah.I.G.c)).set 3 (.slice ah.I.O.a ah.I.O.l ah.I.O.c))
      replace dI:=dI.bn (F:= [w1.heap.size]) (w':= ((((wc.setCell ⟨w1.heap.size,0,none⟩ (.slice ah.E.Y.a ah.E.Y.l ah.E.Y.c)).setCell ⟨w1.heap.size,1,none⟩ (.slice ah.E.Z.a ah.E.Z.l ah.E.Z.c)).setCell ⟨w1.heap.size,2,none⟩ (.slice ah.I.G.a ah.I.G.l ah.I.G.c)).setCell ⟨w1.heap.size,3,none⟩ (.slice ah.I.O.a ah.I.O.l ah.I.O.c))) bV (fun b hb hm=>by simp only [List.mem_cons,List.not_mem_nil,or_false] at hm;have:=dZ b hb;omega)
      replace bT:=bT.bn (F:= [w1.heap.size]) (w':= ((((wc.setCell ⟨w1.heap.size,0,none⟩ (.slice ah.E.Y.a ah.E.Y.l ah.E.Y.c)).setCell ⟨w1.heap.size,1,none⟩ (.slice ah.E.Z.a ah.E.Z.l ah.E.Z.c)).setCell ⟨w1.heap.size,2,none⟩ (.slice ah.I.G.a ah.I.G.l ah.I.G.c)).setCell ⟨w1.heap.size,3,none⟩ (.slice ah.I.O.a ah.I.O.l ah.I.O.c))) bV (fun b hb hm=>by simp only [List.mem_cons,List.not_mem_nil,or_false] at hm;have:=iB b hb;omega)
      replace bC:=bC.bn (F:= [w1.heap.size]) (w':= ((((wc.setCell ⟨w1.heap.size,0,none⟩ (.slice ah.E.Y.a ah.E.Y.l ah.E.Y.c)).setCell ⟨w1.heap.size,1,none⟩ (.slice ah.E.Z.a ah.E.Z.l ah.E.Z.c)).setCell ⟨w1.heap.size,2,none⟩ (.slice ah.I.G.a ah.I.G.l ah.I.G.c)).setCell ⟨w1.heap.size,3,none⟩ (.slice ah.I.O.a ah.I.O.l ah.I.O.c))) bV (fun b hb hm=>by simp only [List.mem_cons,List.not_mem_nil,or_false] at hm;have:=gF b hb;omega)
      replace bf:=bf.bn (F:= [w1.heap.size]) (w':= ((((wc.setCell ⟨w1.heap.size,0,none⟩ (.slice ah.E.Y.a ah.E.Y.l ah.E.Y.c)).setCell ⟨w1.heap.size,1,none⟩ (.slice ah.E.Z.a ah.E.Z.l ah.E.Z.c)).setCell ⟨w1.heap.size,2,none⟩ (.slice ah.I.G.a ah.I.G.l ah.I.G.c)).setCell ⟨w1.heap.size,3,none⟩ (.slice ah.I.O.a ah.I.O.l ah.I.O.c))) bV (fun b hb hm=>by simp only [List.mem_cons,List.not_mem_nil,or_false] at hm;have:=dB b hb;omega)
      replace hB : Below w.heap.size w ((((wc.setCell ⟨w1.heap.size,0,none⟩ (.slice ah.E.Y.a ah.E.Y.l ah.E.Y.c)).setCell ⟨w1.heap.size,1,none⟩ (.slice ah.E.Z.a ah.E.Z.l ah.E.Z.c)).setCell ⟨w1.heap.size,2,none⟩ (.slice ah.I.G.a ah.I.G.l ah.I.G.c)).setCell ⟨w1.heap.size,3,none⟩ (.slice ah.I.O.a ah.I.O.l ah.I.O.c)) :=Below.trans hB fJ
      have sz : wc.heap.size≤ ((((wc.setCell ⟨w1.heap.size,0,none⟩ (.slice ah.E.Y.a ah.E.Y.l ah.E.Y.c)).setCell ⟨w1.heap.size,1,none⟩ (.slice ah.E.Z.a ah.E.Z.l ah.E.Z.c)).setCell ⟨w1.heap.size,2,none⟩ (.slice ah.I.G.a ah.I.G.l ah.I.G.c)).setCell ⟨w1.heap.size,3,none⟩ (.slice ah.I.O.a ah.I.O.l ah.I.O.c)).heap.size:=by simp
      generalize hG : ((((wc.setCell ⟨w1.heap.size,0,none⟩ (.slice ah.E.Y.a ah.E.Y.l ah.E.Y.c)).setCell ⟨w1.heap.size,1,none⟩ (.slice ah.E.Z.a ah.E.Z.l ah.E.Z.c)).setCell ⟨w1.heap.size,2,none⟩ (.slice ah.I.G.a ah.I.G.l ah.I.G.c)).setCell ⟨w1.heap.size,3,none⟩ (.slice ah.I.O.a ah.I.O.l ah.I.O.c)) =xK at bG dI bT bC bf hB sz⊢
      clear hG
      go_wp2_with fail
      go_roundw
      case rel=>exact⟨i+1,ah,y,all,gone,live,ba,bg,bl,by go_num,by omega, {bM:=bG,oM:=dI,oA:=bT,oG:=bC,oL:=bf,fM:=fun b hb=>by have:=dZ b hb;have:=iD b hb;omega,fA:=iB,fG:=gF,fL:=dB,ne:=NE,lo:=LO,hi:=by omega,nr:=nr,ln:=by omega,ps:= .inr ps',hB:=hB}⟩
      case measure=>simp [intOf];omega
     subst hc
     obtain⟨hna,hok,nS⟩ :=nr.alloc (w:=y0%3) (n:=1+y3%40) (by rw [HF])
     rw [HF] at hna hok nS
     simp only at hna hok nS
     have hany : (all.any fun y=>y == hd) =false:=by
      rw [List.any_eq_false]
      intro z hz e
      rw [beq_iff_eq] at e
      exact hna (e ▸ hz)
     have yM:=Hid.aD nS
     clear nS nr HF
     go_upto_region 21 with (fail)
     clear ay aX bJ aO aP bA bB
     replace bG : aJ ((((wc.setCell ⟨w1.heap.size,0,none⟩ (.slice ah.E.Y.a ah.E.Y.l ah.E.Y.c)).setCell ⟨w1.heap.size,1,none⟩ (.slice ah.E.Z.a ah.E.Z.l ah.E.Z.c)).setCell ⟨w1.heap.size,2,none⟩ (.slice ah.I.G.a ah.I.G.l ah.I.G.c)).setCell ⟨w1.heap.size,3,none⟩ (.slice ah.I.O.a ah.I.O.l ah.I.O.c)) w1.heap.size [.slice ah.E.Y.a ah.E.Y.l ah.E.Y.c, .slice ah.E.Z.a ah.E.Z.l ah.E.Z.c, .slice ah.I.G.a ah.I.G.l ah.I.G.c, .slice ah.I.O.a ah.I.O.l ah.I.O.c]:= ((((bG.set 0 (.slice ah.E.Y.a ah.E.Y.l ah.E.Y.c)).set 1 (.slice ah.E.Z.a ah.E.Z.l ah.E.Z.c)).set 2 (.slice ah.I.G.a ah.I.G.l ah.I.G.c)).set 3 (.slice ah.I.O.a ah.I.O.l ah.I.O.c))
     replace dI:=dI.bn (F:= [w1.heap.size]) (w':= ((((wc.setCell ⟨w1.heap.size,0,none⟩ (.slice ah.E.Y.a ah.E.Y.l ah.E.Y.c)).setCell ⟨w1.heap.size,1,none⟩ (.slice ah.E.Z.a ah.E.Z.l ah.E.Z.c)).setCell ⟨w1.heap.size,2,none⟩ (.slice ah.I.G.a ah.I.G.l ah.I.G.c)).setCell ⟨w1.heap.size,3,none⟩ (.slice ah.I.O.a ah.I.O.l ah.I.O.c))) bV (fun b hb hm=>by simp only [List.mem_cons,List.not_mem_nil,or_false] at hm;have:=dZ b hb;omega)
     replace bT:=bT.bn (F:= [w1.heap.size]) (w':= ((((wc.setCell ⟨w1.heap.size,0,none⟩ (.slice ah.E.Y.a ah.E.Y.l ah.E.Y.c)).setCell ⟨w1.heap.size,1,none⟩ (.slice ah.E.Z.a ah.E.Z.l ah.E.Z.c)).setCell ⟨w1.heap.size,2,none⟩ (.slice ah.I.G.a ah.I.G.l ah.I.G.c)).setCell ⟨w1.heap.size,3,none⟩ (.slice ah.I.O.a ah.I.O.l ah.I.O.c))) bV (fun b hb hm=>by simp only [List.mem_cons,List.not_mem_nil,or_false] at hm;have:=iB b hb;omega)
     replace bC:=bC.bn (F:= [w1.heap.size]) (w':= ((((wc.setCell ⟨w1.heap.size,0,none⟩ (.slice ah.E.Y.a ah.E.Y.l ah.E.Y.c)).setCell ⟨w1.heap.size,1,none⟩ (.slice ah.E.Z.a ah.E.Z.l ah.E.Z.c)).setCell ⟨w1.heap.size,2,none⟩ (.slice ah.I.G.a ah.I.G.l ah.I.G.c)).setCell ⟨w1.heap.size,3,none⟩ (.slice ah.I.O.a ah.I.O.l ah.I.O.c))) bV (fun b hb hm=>by simp only [List.mem_cons,List.not_mem_nil,or_false] at hm;have:=gF b hb;omega)
     replace bf:=bf.bn (F:= [w1.heap.size]) (w':= ((((wc.setCell ⟨w1.heap.size,0,none⟩ (.slice ah.E.Y.a ah.E.Y.l ah.E.Y.c)).setCell ⟨w1.heap.size,1,none⟩ (.slice ah.E.Z.a ah.E.Z.l ah.E.Z.c)).setCell ⟨w1.heap.size,2,none⟩ (.slice ah.I.G.a ah.I.G.l ah.I.G.c)).setCell ⟨w1.heap.size,3,none⟩ (.slice ah.I.O.a ah.I.O.l ah.I.O.c))) bV (fun b hb hm=>by simp only [List.mem_cons,List.not_mem_nil,or_false] at hm;have:=dB b hb;omega)
     replace hB : Below w.heap.size w ((((wc.setCell ⟨w1.heap.size,0,none⟩ (.slice ah.E.Y.a ah.E.Y.l ah.E.Y.c)).setCell ⟨w1.heap.size,1,none⟩ (.slice ah.E.Z.a ah.E.Z.l ah.E.Z.c)).setCell ⟨w1.heap.size,2,none⟩ (.slice ah.I.G.a ah.I.G.l ah.I.G.c)).setCell ⟨w1.heap.size,3,none⟩ (.slice ah.I.O.a ah.I.O.l ah.I.O.c)) :=Below.trans hB fJ
     have sz : wc.heap.size≤ ((((wc.setCell ⟨w1.heap.size,0,none⟩ (.slice ah.E.Y.a ah.E.Y.l ah.E.Y.c)).setCell ⟨w1.heap.size,1,none⟩ (.slice ah.E.Z.a ah.E.Z.l ah.E.Z.c)).setCell ⟨w1.heap.size,2,none⟩ (.slice ah.I.G.a ah.I.G.l ah.I.G.c)).setCell ⟨w1.heap.size,3,none⟩ (.slice ah.I.O.a ah.I.O.l ah.I.O.c)).heap.size:=by simp
     generalize hG : ((((wc.setCell ⟨w1.heap.size,0,none⟩ (.slice ah.E.Y.a ah.E.Y.l ah.E.Y.c)).setCell ⟨w1.heap.size,1,none⟩ (.slice ah.E.Z.a ah.E.Z.l ah.E.Z.c)).setCell ⟨w1.heap.size,2,none⟩ (.slice ah.I.G.a ah.I.G.l ah.I.G.c)).setCell ⟨w1.heap.size,3,none⟩ (.slice ah.I.O.a ah.I.O.l ah.I.O.c)) =xK at bG dI bT bC bf hB sz⊢
     clear hG
     clear bN bO bP bQ cZ dO
     obtain⟨bN,bO,bP,bQ,cZ,dO⟩ :=bG.f4
     go_wp2_with fail
     refine(Af _ _ all hd bT.rd').mono ?_
     rw [hany]
     rintro e uG ⟨rfl,hb⟩
     replace bG:=bG.below hb
     have dI:=dI.step0 hb
     replace bT:=bT.step0 hb
     replace bC:=bC.step0 hb
     replace bf:=bf.step0 hb
     replace hB:=hB.trans (hb.mono hB.size)
     have sz:=hb.size
     clear hb
     clear bN bO bP bQ cZ dO
     obtain⟨bN,bO,bP,bQ,cZ,dO⟩ :=bG.f4
     have hoc:=fun W=>jB hd W
     rw [hok] at hoc
     have szB:=hB.size
     go_wp2_with (first| (go_at_call 10;refine(hoc _).mono ?_;rintro e wq ⟨rfl,rfl⟩) | (at_builtin;refine dV Try.stInt rfl _ _ rfl (v:=u4) (y:= .slice (some ⟨uG.heap.size,0,none⟩) 1 1) (l:=all) (m:= [hd]) rfl rfl (bF.aN bT _) (bF.lit FI [hd] #[.int .i64 hd] rfl (by simp [maxLen]) uG 3).rd' (by simp;omega) ?_;intro D8 oH ho1 hg1 qV;have hx1:=bW.gP hg1;have xL:=hx1.size;simp only [World.size_alloc] at xL;replace bG:= (bG.alloc (.cells #[.int .i64 hd] 3)).bn hx1 (fun hm=>by have:=iB _ hm;omega);replace dI:= (dI.aN (.cells #[.int .i64 hd] 3)).bn hx1 (fun b hb hm=>by have:=dZ b hb;have:=iB _ hm;omega);replace bC:= (bC.aN (.cells #[.int .i64 hd] 3)).bn hx1 (fun b hb hm=>by have:=gF b hb;have:=iB _ hm;omega);replace bf:= (bf.aN (.cells #[.int .i64 hd] 3)).bn hx1 (fun b hb hm=>by have:=dB b hb;have:=iB _ hm;omega);replace hB : Below w.heap.size w oH:=Below.grown (hB.alloc hB.size (.cells #[.int .i64 hd] 3)) hg1 (by have:=hB.size;simp;omega) (fun k hk=>by have:=iB k (bH.2 hk);omega);obtain⟨yN,vS,Ak⟩ :=kE qV iB (dQ ho1);simp only [World.size_alloc] at Ak;replace bT:=ho1;replace iB:=vS;clear ho1 vS hg1 qV hx1) | (at_builtin;refine dV Try.stInt rfl _ _ rfl (v:= (.slice rX live.length lV)) (y:= .slice (some ⟨oH.heap.size,0,none⟩) 1 1) (l:=live) (m:= [hd]) rfl rfl (bF.aN bf _) (bF.lit FI [hd] #[.int .i64 hd] rfl (by simp [maxLen]) oH 3).rd' (by simp;omega) ?_;intro Fq CW ho2 hg2 nI;have hx2:=bW.gP hg2;have A8:=hx2.size;simp only [World.size_alloc] at A8;replace bG:= (bG.alloc (.cells #[.int .i64 hd] 3)).bn hx2 (fun hm=>by have:=dB _ hm;omega);replace dI:= (dI.aN (.cells #[.int .i64 hd] 3)).bn hx2 (fun b hb hm=>by have:=dZ b hb;have:=dB _ hm;omega);replace bT:= (bT.aN (.cells #[.int .i64 hd] 3)).bn hx2 (fun b hb hm=>by have:=iB b hb;have:=dB _ hm;omega);replace bC:= (bC.aN (.cells #[.int .i64 hd] 3)).bn hx2 (fun b hb hm=>by have:=gF b hb;have:=dB _ hm;omega);replace hB : Below w.heap.size w CW:=Below.grown (hB.alloc hB.size (.cells #[.int .i64 hd] 3)) hg2 (by have:=hB.size;simp;omega) (fun k hk=>by have:=dB k (bH.2 hk);omega);obtain⟨Al,kN,xM⟩ :=kE nI dB (dQ ho2);simp only [World.size_alloc] at xM;replace bf:=ho2;replace dB:=kN;clear ho2 kN hg2 nI hx2))
     go_roundw
     case rel=>exact⟨i+1,ah,y,all++ [hd],gone,live++ [hd],yN,bg,Al,by go_num,by omega, {bM:=bG,oM:=dI,oA:=bT,oG:=bC,oL:=bf,fM:=fun b hb=>by have:=dZ b hb;have:=iD b hb;omega,fA:=iB,fG:=gF,fL:=dB,ne:=by omega,lo:=by omega,hi:=by omega,nr:=yM.out,ln:=by simp only [List.length_append,List.length_cons,List.length_nil];omega,ps:= .inr (by simp),hB:=hB}⟩
     case measure=>simp [intOf];omega
   obtain⟨bG,cB,bT,bC,bf,mF,iB,gF,dB,NE,LO,HI,nr,LN,ps,hB⟩ :=N
   have hsz : dS m≤536870912:=Nat.le_trans (lu nr.ok) (by decide)
   have qb:=cB.lt
   have uF:=dQ bT
   have jO:=dQ bC
   have iG:=dQ bf
   have xJ:=bG.lt
   obtain⟨bN,bO,bP,bQ,cZ,dO⟩ :=bG.f4
   have c1' : (y1%3 == 0) =true:=by rw [beq_iff_eq];exact c1
   have hd1 : decide ((0 : Int) < (live.length : Int)) =true:=decide_eq_true (by omega)
   have hd2 : decide (0<live.length) =true:=decide_eq_true hl
   obtain⟨rX,lV,hvl, -⟩ :=id bf.rd'
   subst hvl
   go_wp2_with fail
   refine(k0 _ hB _ rfl).mono ?_
   rintro e D7 ⟨rfl,hb⟩
   replace bG:=bG.below hb
   replace cB:=cB.step0 hb
   replace bT:=bT.step0 hb
   replace bC:=bC.step0 hb
   replace bf:=bf.step0 hb
   replace hB:=hB.trans (hb.mono hB.size)
   have sz:=hb.size
   clear hb
   clear bN bO bP bQ cZ dO
   obtain⟨bN,bO,bP,bQ,cZ,dO⟩ :=bG.f4
   go_wp2_with fail
   refine(k1 _ hB _ (by omega)).mono ?_
   rintro e vR ⟨rfl,hb⟩
   replace bG:=bG.below hb
   replace cB:=cB.step0 hb
   replace bT:=bT.step0 hb
   replace bC:=bC.step0 hb
   replace bf:=bf.step0 hb
   replace hB:=hB.trans (hb.mono hB.size)
   have sz:=hb.size
   clear hb
   clear bN bO bP bQ cZ dO
   obtain⟨bN,bO,bP,bQ,cZ,dO⟩ :=bG.f4
   have hln : (live.length : Int) ≠0:=by omega
   have Gr : live.length≤60:=by omega
   obtain⟨kk,hkk⟩ : ∃kk : Nat,y2% (live.length : Int) = (kk : Int) :=Int.eq_ofNat_of_zero_le (Int.emod_nonneg _ hln)
   have hkl : kk<live.length:=by have:=Int.emod_lt_of_pos y2 (show (0 : Int) < (live.length : Int) by omega);omega
   have hkt : y2.tmod (live.length : Int) = (kk : Int) :=by rw [Int.tmod_eq_emod_of_nonneg y20];exact hkk
   obtain⟨hf0,nS⟩ :=nr.free hwk hkl
   obtain⟨y,hy⟩ : ∃y,y= (iC m (y0%3) live[kk]).1:= ⟨_,rfl⟩
   have HF : iC m (y0%3) live[kk]= (y,0) :=Prod.ext hy.symm hf0
   rw [←hy] at nS
   clear hy hf0
   have HK:=Hid.aD (List.getElem?_eq_getElem hkl)
   generalize live[kk]=hd at HF nS HK
   have yM:=Hid.aD nS
   clear nS nr
   have PS:=Hid.aD ps
   clear ps
   go_wp2_with fail
   refine(k2 _ hB _ (by omega)).mono ?_
   rintro e uG ⟨rfl,hb⟩
   replace bG:=bG.below hb
   replace cB:=cB.step0 hb
   replace bT:=bT.step0 hb
   replace bC:=bC.step0 hb
   replace bf:=bf.step0 hb
   replace hB:=hB.trans (hb.mono hB.size)
   have sz:=hb.size
   clear hb
   clear bN bO bP bQ cZ dO
   obtain⟨bN,bO,bP,bQ,cZ,dO⟩ :=bG.f4
   obtain⟨gl,ol,D9,el,zl, -, -, -⟩ :=bf.rd'.at_ HK.out
   injection el with e1 _ e3
   subst e1 e3
   have p0:=cellL bf HK.out
   have hki : (kk : Int) < (live.length : Int) :=by omega
   clear k0 k1 k2 k3
   have H4:=Hid.aD (And.intro NE (And.intro LO (And.intro HI LN)))
   clear NE LO HI LN
   have szB:=hB.size
   go_upto_region 13 with (fail)
   go_cut [10,11] from 51 to 60 (fun v10 v11 wx=> ∃ (go : Nat) (ah : bY),v10= .pointer (some ⟨go,0,none⟩) ∧v11= .int .i64 0∧aJ wx (w1.heap.size) [.slice cK.E.Y.a cK.E.Y.l cK.E.Y.c, .slice cK.E.Z.a cK.E.Z.l cK.E.Z.c, .slice cK.I.G.a cK.I.G.l cK.I.G.c, .slice cK.I.O.a cK.I.O.l cK.I.O.c]∧aJ wx go [.slice ah.E.Y.a ah.E.Y.l ah.E.Y.c, .slice ah.E.Z.a ah.E.Z.l ah.E.Z.c, .slice ah.I.G.a ah.I.G.l ah.I.G.c, .slice ah.I.O.a ah.I.O.l ah.I.O.c]∧eZ wx cK m∧bF FI 3 wx u4 all∧bF FI 3 wx u5 gone∧bF FI 3 wx (.slice (some ⟨gl,ol,none⟩) live.length lV) live∧eX wx ah y∧ (∀g∈ah.foot,uG.heap.size≤g∧g≠go) ∧uG.heap.size≤go∧Below w.heap.size w wx∧uG.heap.size≤wx.heap.size)
   case first=>
    go_region_held3 (fun w'=>w'.cell? ⟨w1.heap.size,0,none⟩ =some (.slice cK.E.Y.a cK.E.Y.l cK.E.Y.c) ∧w'.cell? ⟨w1.heap.size,1,none⟩ =some (.slice cK.E.Z.a cK.E.Z.l cK.E.Z.c) ∧w'.cell? ⟨w1.heap.size,2,none⟩ =some (.slice cK.I.G.a cK.I.G.l cK.I.G.c) ∧w'.cell? ⟨w1.heap.size,3,none⟩ =some (.slice cK.I.O.a cK.I.O.l cK.I.O.c) ∧w'.cell? ⟨gl,ol+kk,none⟩ =some (.int .i64 hd)) (first| (with_reducible exact⟨bN,bO,bP,bQ,p0⟩) | (refine⟨?_, ?_, ?_, ?_, ?_⟩ <;> (repeat (first|with_reducible assumption|with_reducible refine kC ?_ (by omega) |with_reducible refine jL ?_ (by omega) |with_reducible refine jX ?_));done) | (go_keep;done)) (first| (go_at_call 7; (first| ((with_reducible refine(jm HF hsz _ cB.rd').mono ?_);rintro e wq ⟨ah,rfl,dI,dZ,hb⟩;have iD:=dI.lt;replace bG:=bG.below hb;replace cB:=cB.step0 hb;replace bT:=bT.step0 hb;replace bC:=bC.step0 hb;replace bf:=bf.step0 hb;replace hB:=hB.trans (hb.mono hB.size);have sz:=hb.size; (try replace ay:=ay.below hb); (try replace aO:=ay.cell 0 _ rfl); (try replace aP:=ay.cell 1 _ rfl); (try replace bA:=ay.cell 2 _ rfl); (try replace bB:=ay.cell 3 _ rfl); (try replace aX:=ay.fP); (try replace bJ:=ay.lt);clear hb;replace p0:=cellL bf HK.out;clear bN bO bP bQ cZ dO;obtain⟨bN,bO,bP,bQ,cZ,dO⟩ :=bG.f4) | ((with_reducible refine(jm HF hsz _ (cB.gU).rd').mono ?_);rintro e wq ⟨ah,rfl,dI,dZ,hb⟩;replace hb:=eY hb;replace dZ:=iA dZ;have iD:=dI.lt;replace bG:=bG.below hb;replace cB:=cB.step0 hb;replace bT:=bT.step0 hb;replace bC:=bC.step0 hb;replace bf:=bf.step0 hb;replace hB:=hB.trans (hb.mono hB.size);have sz:=hb.size; (try replace ay:=ay.below hb); (try replace aO:=ay.cell 0 _ rfl); (try replace aP:=ay.cell 1 _ rfl); (try replace bA:=ay.cell 2 _ rfl); (try replace bB:=ay.cell 3 _ rfl); (try replace aX:=ay.fP); (try replace bJ:=ay.lt);clear hb;replace p0:=cellL bf HK.out;clear bN bO bP bQ cZ dO;obtain⟨bN,bO,bP,bQ,cZ,dO⟩ :=bG.f4) | ((with_reducible refine(jm HF hsz _ (cB.aN _).rd').mono ?_);rintro e wq ⟨ah,rfl,dI,dZ,hb⟩;simp only [World.size_alloc] at dZ;have iD:=dI.lt;replace bG:= (bG.alloc _).below hb;replace cB:=cB.step hb;replace bT:=bT.step hb;replace bC:=bC.step hb;replace bf:=bf.step hb;replace hB:=eF hB hb hB.size;have sz:=hb.size;simp only [World.size_alloc] at sz;have ay:=aJ.below (aJ.new _ #[.slice none 0 0, .slice none 0 0, .slice none 0 0, .slice none 0 0] 31) hb;obtain⟨aO,aP,bA,bB,aX,bJ⟩ :=ay.f4;clear hb;replace p0:=cellL bf HK.out;clear bN bO bP bQ cZ dO;obtain⟨bN,bO,bP,bQ,cZ,dO⟩ :=bG.f4) | ((with_reducible refine(jm HF hsz _ ((cB.aN _).gU).rd').mono ?_);rintro e wq ⟨ah,rfl,dI,dZ,hb⟩;replace hb:=eY hb;replace dZ:=iA dZ;simp only [World.size_alloc] at dZ;have iD:=dI.lt;replace bG:= (bG.alloc _).below hb;replace cB:=cB.step hb;replace bT:=bT.step hb;replace bC:=bC.step hb;replace bf:=bf.step hb;replace hB:=eF hB hb hB.size;have sz:=hb.size;simp only [World.size_alloc] at sz;have ay:=aJ.below (aJ.new _ #[.slice none 0 0, .slice none 0 0, .slice none 0 0, .slice none 0 0] 31) hb;obtain⟨aO,aP,bA,bB,aX,bJ⟩ :=ay.f4;clear hb;replace p0:=cellL bf HK.out;clear bN bO bP bQ cZ dO;obtain⟨bN,bO,bP,bQ,cZ,dO⟩ :=bG.f4))))
    all_goals
     go_wp2_with fail
     go_meet
     first|exact⟨_,ah,rfl,rfl,bG.alloc _,aJ.new _ _ _,cB.aN _,bT.aN _,bC.aN _,bf.aN _,dI.aN _,fun g hg=> ⟨by have:=dZ g hg;omega,by have:=iD g hg;omega⟩,by omega,hB.alloc hB.size _,by simp<;>omega⟩ | (obtain⟨go,hgo,kT⟩ :=ay.ad;rw [←hgo];exact⟨go,ah,rfl,rfl, ((((bG.other (by omega) _).other (by omega) _).other (by omega) _).other (by omega) _), ((((kT.set 0 _).set 1 _).set 2 _).set 3 _),cB.bn (F:= [go]) bV (fun g hg hm=>by simp only [List.mem_cons,List.not_mem_nil,or_false] at hm;have:=mF g hg;have:=qb g hg;omega),bT.bn (F:= [go]) bV (fun g hg hm=>by simp only [List.mem_cons,List.not_mem_nil,or_false] at hm;have:=iB g hg;have:=uF g hg;omega),bC.bn (F:= [go]) bV (fun g hg hm=>by simp only [List.mem_cons,List.not_mem_nil,or_false] at hm;have:=gF g hg;have:=jO g hg;omega),bf.bn (F:= [go]) bV (fun g hg hm=>by simp only [List.mem_cons,List.not_mem_nil,or_false] at hm;have:=dB g hg;have:=iG g hg;omega),dI.bn (F:= [go]) bV (fun g hg hm=>by simp only [List.mem_cons,List.not_mem_nil,or_false] at hm;have:=dZ g hg;have:=iD g hg;omega),fun g hg=> ⟨by have:=dZ g hg;omega,by have:=dZ g hg;have:=iD g hg;omega⟩,by omega,Below.trans hB fJ,by simp<;>omega⟩)
   case rest=>
    clear bG cZ dO bN bO bP bQ
    clear cB
    clear bT
    clear bC
    clear bf
    clear hB
    obtain⟨go,ah,rfl,rfl,bG,ay,cB,bT,bC,bf,dI,kX,sM,hB,sz⟩ :=hcut
    have dZ:=fun g hg=> (kX g hg).1
    have jR:=fun g hg=> (kX g hg).2
    have iD:=dI.lt
    clear kX
    have iF:=ay.lt
    obtain⟨bN,bO,bP,bQ,cZ,dO⟩ :=bG.f4
    obtain⟨aO,aP,bA,bB,aX,bJ⟩ :=ay.f4
    clear cB mF qb
    obtain⟨NE,LO,HI,LN⟩ :=H4.out
    clear H4
    go_upto_region 17 with (fail)
    clear ay aX bJ aO aP bA bB
    replace bG : aJ ((((wc.setCell ⟨w1.heap.size,0,none⟩ (.slice ah.E.Y.a ah.E.Y.l ah.E.Y.c)).setCell ⟨w1.heap.size,1,none⟩ (.slice ah.E.Z.a ah.E.Z.l ah.E.Z.c)).setCell ⟨w1.heap.size,2,none⟩ (.slice ah.I.G.a ah.I.G.l ah.I.G.c)).setCell ⟨w1.heap.size,3,none⟩ (.slice ah.I.O.a ah.I.O.l ah.I.O.c)) w1.heap.size [.slice ah.E.Y.a ah.E.Y.l ah.E.Y.c, .slice ah.E.Z.a ah.E.Z.l ah.E.Z.c, .slice ah.I.G.a ah.I.G.l ah.I.G.c, .slice ah.I.O.a ah.I.O.l ah.I.O.c]:= ((((bG.set 0 (.slice ah.E.Y.a ah.E.Y.l ah.E.Y.c)).set 1 (.slice ah.E.Z.a ah.E.Z.l ah.E.Z.c)).set 2 (.slice ah.I.G.a ah.I.G.l ah.I.G.c)).set 3 (.slice ah.I.O.a ah.I.O.l ah.I.O.c))
    replace dI:=dI.bn (F:= [w1.heap.size]) (w':= ((((wc.setCell ⟨w1.heap.size,0,none⟩ (.slice ah.E.Y.a ah.E.Y.l ah.E.Y.c)).setCell ⟨w1.heap.size,1,none⟩ (.slice ah.E.Z.a ah.E.Z.l ah.E.Z.c)).setCell ⟨w1.heap.size,2,none⟩ (.slice ah.I.G.a ah.I.G.l ah.I.G.c)).setCell ⟨w1.heap.size,3,none⟩ (.slice ah.I.O.a ah.I.O.l ah.I.O.c))) bV (fun b hb hm=>by simp only [List.mem_cons,List.not_mem_nil,or_false] at hm;have:=dZ b hb;omega)
    replace bT:=bT.bn (F:= [w1.heap.size]) (w':= ((((wc.setCell ⟨w1.heap.size,0,none⟩ (.slice ah.E.Y.a ah.E.Y.l ah.E.Y.c)).setCell ⟨w1.heap.size,1,none⟩ (.slice ah.E.Z.a ah.E.Z.l ah.E.Z.c)).setCell ⟨w1.heap.size,2,none⟩ (.slice ah.I.G.a ah.I.G.l ah.I.G.c)).setCell ⟨w1.heap.size,3,none⟩ (.slice ah.I.O.a ah.I.O.l ah.I.O.c))) bV (fun b hb hm=>by simp only [List.mem_cons,List.not_mem_nil,or_false] at hm;have:=iB b hb;omega)
    replace bC:=bC.bn (F:= [w1.heap.size]) (w':= ((((wc.setCell ⟨w1.heap.size,0,none⟩ (.slice ah.E.Y.a ah.E.Y.l ah.E.Y.c)).setCell ⟨w1.heap.size,1,none⟩ (.slice ah.E.Z.a ah.E.Z.l ah.E.Z.c)).setCell ⟨w1.heap.size,2,none⟩ (.slice ah.I.G.a ah.I.G.l ah.I.G.c)).setCell ⟨w1.heap.size,3,none⟩ (.slice ah.I.O.a ah.I.O.l ah.I.O.c))) bV (fun b hb hm=>by simp only [List.mem_cons,List.not_mem_nil,or_false] at hm;have:=gF b hb;omega)
    replace bf:=bf.bn (F:= [w1.heap.size]) (w':= ((((wc.setCell ⟨w1.heap.size,0,none⟩ (.slice ah.E.Y.a ah.E.Y.l ah.E.Y.c)).setCell ⟨w1.heap.size,1,none⟩ (.slice ah.E.Z.a ah.E.Z.l ah.E.Z.c)).setCell ⟨w1.heap.size,2,none⟩ (.slice ah.I.G.a ah.I.G.l ah.I.G.c)).setCell ⟨w1.heap.size,3,none⟩ (.slice ah.I.O.a ah.I.O.l ah.I.O.c))) bV (fun b hb hm=>by simp only [List.mem_cons,List.not_mem_nil,or_false] at hm;have:=dB b hb;omega)
    replace hB : Below w.heap.size w ((((wc.setCell ⟨w1.heap.size,0,none⟩ (.slice ah.E.Y.a ah.E.Y.l ah.E.Y.c)).setCell ⟨w1.heap.size,1,none⟩ (.slice ah.E.Z.a ah.E.Z.l ah.E.Z.c)).setCell ⟨w1.heap.size,2,none⟩ (.slice ah.I.G.a ah.I.G.l ah.I.G.c)).setCell ⟨w1.heap.size,3,none⟩ (.slice ah.I.O.a ah.I.O.l ah.I.O.c)) :=Below.trans hB fJ
    have sz : wc.heap.size≤ ((((wc.setCell ⟨w1.heap.size,0,none⟩ (.slice ah.E.Y.a ah.E.Y.l ah.E.Y.c)).setCell ⟨w1.heap.size,1,none⟩ (.slice ah.E.Z.a ah.E.Z.l ah.E.Z.c)).setCell ⟨w1.heap.size,2,none⟩ (.slice ah.I.G.a ah.I.G.l ah.I.G.c)).setCell ⟨w1.heap.size,3,none⟩ (.slice ah.I.O.a ah.I.O.l ah.I.O.c)).heap.size:=by simp
    generalize hG : ((((wc.setCell ⟨w1.heap.size,0,none⟩ (.slice ah.E.Y.a ah.E.Y.l ah.E.Y.c)).setCell ⟨w1.heap.size,1,none⟩ (.slice ah.E.Z.a ah.E.Z.l ah.E.Z.c)).setCell ⟨w1.heap.size,2,none⟩ (.slice ah.I.G.a ah.I.G.l ah.I.G.c)).setCell ⟨w1.heap.size,3,none⟩ (.slice ah.I.O.a ah.I.O.l ah.I.O.c)) =xK at bG dI bT bC bf hB sz⊢
    clear hG
    replace p0:=cellL bf HK.out
    have Cg : gl<xK.heap.size:=by omega
    go_wp2_with (first| (at_builtin;refine dV Try.stInt rfl _ _ rfl (v:=u5) (y:= .slice (some ⟨xK.heap.size,0,none⟩) 1 1) (l:=gone) (m:= [hd]) rfl rfl (bF.aN bC _) (bF.lit FI [hd] #[.int .i64 hd] rfl (by simp [maxLen]) xK 3).rd' (by simp;omega) ?_;intro D8 oH ho1 hg1 qV;have hx1:=bW.gP hg1;have xL:=hx1.size;simp only [World.size_alloc] at xL;replace bG:= (bG.alloc (.cells #[.int .i64 hd] 3)).bn hx1 (fun hm=>by have:=gF _ hm;omega);replace dI:= (dI.aN (.cells #[.int .i64 hd] 3)).bn hx1 (fun b hb hm=>by have:=dZ b hb;have:=gF _ hm;omega);replace bT:= (bT.aN (.cells #[.int .i64 hd] 3)).bn hx1 (fun b hb hm=>by have:=iB b hb;have:=gF _ hm;omega);replace bf:= (bf.aN (.cells #[.int .i64 hd] 3)).bn hx1 (fun b hb hm=>by have:=dB b hb;have:=gF _ hm;omega);replace hB : Below w.heap.size w oH:=Below.grown (hB.alloc hB.size (.cells #[.int .i64 hd] 3)) hg1 (by have:=hB.size;simp;omega) (fun k hk=>by have:=gF k (bH.2 hk);omega);obtain⟨yN,vS,Ak⟩ :=kE qV gF (dQ ho1);simp only [World.size_alloc] at Ak;replace bC:=ho1;replace gF:=vS;clear ho1 vS hg1 qV hx1))
    obtain⟨hlc, -⟩ : live.length≤lV∧True:= ⟨by obtain⟨_,_,ev,e,_⟩ :=id bf.rd';injection ev with _ _ e3;omega,trivial⟩
    have hk1 : (0 : Int) ≤ (kk : Int) +1:=by omega
    have hkc : (kk : Int) ≤ (lV : Int) :=by omega
    have Gs : (kk : Int) +1≤ (lV : Int) :=by omega
    have Gt : (kk : Int) +1≤ (live.length : Int) :=by omega
    have He : IntKind.i64.wrap ((kk : Int) +1) = (kk : Int) +1:=by rw [IntKind.wrap_i64];omega
    clear p0 hkk hkt HF zl Cg hki
    by_cases hcc : lV=kk+1
    case pos=>
     have hdn : live.drop (kk+1) = []:=List.drop_eq_nil_of_le (by omega)
     have hk0 : (kk : Int) ≤ (kk : Int) +1:=by omega
     have hnil : ∀ (W : World) (B : Nat),dz FI W B (.slice (some ⟨gl,ol,none⟩) 0 0) (live.drop (kk+1)) :=fun W B=>by
      rw [hdn]
      exact⟨_,0,rfl,Nat.le_refl _,by simp [maxLen],fun h=>absurd rfl h⟩
     clear hdn
     subst hcc
     go_region_law (first| (refine gV Try.stInt rfl (.tmp 71) (.tmp 74) rfl (v:= .slice (some ⟨oH.heap.size,0,none⟩) 0 0) (y:= .slice (some ⟨gl,ol,none⟩) kk (kk+1)) (l:= []) (m:=live.take kk) (by simp [Act.eval]) (by simp [Act.eval]) (bF.lit FI [] #[] rfl (by simp [maxLen]) oH 3).kM (dz.BF (bF.kM (bF.aN bf _)).rd' kk (by omega)) (by simp;omega) ?_;intro v2 w2 ho2 hg2 nI;have hx2:=bW.gP hg2;have zR:=hx2.size;simp only [World.size_alloc,kD] at zR;replace dI:= (dI.aN (.cells #[] 3)).gU.bn hx2 (fun b hb hm=>by have:=dZ b hb;have:=iD b hb;have e:=dw.1 hm;omega);replace bT:= (bF.aN bT (.cells #[] 3)).kM.bn hx2 (fun b hb hm=>by have:=iB b hb;have e:=dw.1 hm;omega);replace bC:= (bF.aN bC (.cells #[] 3)).kM.bn hx2 (fun b hb hm=>by have:=gF b hb;have e:=dw.1 hm;omega);replace bf:= (bF.aN bf (.cells #[] 3)).kM.bn hx2 (fun b hb hm=>by have:=dB b hb;have e:=dw.1 hm;omega);replace bG:= (bG.alloc (.cells #[] 3)).drew.bn hx2 (fun hm=>by have e:=dw.1 hm;omega);replace hB : Below w.heap.size w w2:=Below.grown (hB.alloc hB.size (.cells #[] 3)).drew hg2 (by have:=hB.size;simp only [World.size_alloc,kD];omega) (fun k hk=>by have e:=dw.1 (bH.2 hk);have:=hB.size;omega);obtain⟨Al,kN,xM⟩ :=kE nI (nH _ _ _) (dQ ho2);simp only [World.size_alloc,kD] at xM;clear hx2 hg2 nI) | (refine gV Try.stInt rfl (.tmp 75) (.tmp 79) rfl (v:=v2) (y:= .slice (some ⟨gl,ol,none⟩) 0 0) (l:= []++live.take kk) (m:=live.drop (kk+1)) (by simp [Act.eval]) (by simp [Act.eval]) ho2 (hnil _ 0) (by simp;omega) ?_;intro v3 w3 ho3 hg3 nE;have hx3:=bW.gP hg3;have Cw:=hx3.size;replace dI:=dI.bn hx3 (fun b hb hm=>by have:=dZ b hb;have:=iD b hb;have:=kN b hm;omega);replace bT:=bT.bn hx3 (fun b hb hm=>by have:=iB b hb;have:=kN b hm;omega);replace bC:=bC.bn hx3 (fun b hb hm=>by have:=gF b hb;have:=kN b hm;omega);replace bf:=bf.bn hx3 (fun b hb hm=>by have:=dB b hb;have:=kN b hm;omega);replace bG:=bG.bn hx3 (fun hm=>by have:=kN _ hm;omega);replace hB : Below w.heap.size w w3:=Below.grown hB hg3 hB.size (fun k hk=>by have:=kN k (bH.2 hk);have:=hB.size;omega);obtain⟨CX,CY,Fu⟩ :=kE nE kN (dQ ho3);clear hx3 hg3 nE))
     all_goals
      go_wp2_with fail
      go_roundw
      case rel=>exact⟨i+1,ah,y,all,gone++ [hd], []++live.take kk++live.drop (kk+1),ba,yN,CX,by go_num,by omega, {bM:=bG,oM:=dI.toW,oA:=bT,oG:=bC,oL:=ho3,fM:=fun b hb=>by have:=dZ b hb;have:=iD b hb;omega,fA:=iB,fG:=gF,fL:=CY,ne:=by omega,lo:=by omega,hi:=by omega,nr:=yM.out,ln:=by simp only [List.length_append,List.length_cons,List.length_nil,List.length_take,List.length_drop];omega,ps:=by rcases PS.out with ⟨_,_,e⟩ |e; (exfalso;rw [e] at hl;simp at hl);exact .inr e,hB:=hB}⟩
      case measure=>simp [intOf];omega
    have hsf : ∀ (W : World),bF FI 3 W (.slice (some ⟨gl,ol,none⟩) live.length lV) live→dz FI W W.heap.size (.slice (some ⟨gl,ol+ (kk+1),none⟩) (live.length - (kk+1)) (lV - (kk+1))) (live.drop (kk+1)) :=fun W h=>by
     have e:=dz.Dl h.rd' (kk+1) (by omega)
     unfold xD at e
     rw [if_neg hcc,show (kk+1) * FI.n=kk+1 from Nat.mul_one _] at e
     exact e
    go_region_law (first| (refine gV Try.stInt rfl (.tmp 71) (.tmp 74) rfl (v:= .slice (some ⟨oH.heap.size,0,none⟩) 0 0) (y:= .slice (some ⟨gl,ol,none⟩) kk lV) (l:= []) (m:=live.take kk) (by simp [Act.eval]) (by simp [Act.eval]) (bF.lit FI [] #[] rfl (by simp [maxLen]) oH 3).kM (dz.BF (bF.kM (bF.aN bf _)).rd' kk (by omega)) (by simp;omega) ?_;intro v2 w2 ho2 hg2 nI;have hx2:=bW.gP hg2;have zR:=hx2.size;simp only [World.size_alloc,kD] at zR;replace dI:= (dI.aN (.cells #[] 3)).gU.bn hx2 (fun b hb hm=>by have:=dZ b hb;have:=iD b hb;have e:=dw.1 hm;omega);replace bT:= (bF.aN bT (.cells #[] 3)).kM.bn hx2 (fun b hb hm=>by have:=iB b hb;have e:=dw.1 hm;omega);replace bC:= (bF.aN bC (.cells #[] 3)).kM.bn hx2 (fun b hb hm=>by have:=gF b hb;have e:=dw.1 hm;omega);replace bf:= (bF.aN bf (.cells #[] 3)).kM.bn hx2 (fun b hb hm=>by have:=dB b hb;have e:=dw.1 hm;omega);replace bG:= (bG.alloc (.cells #[] 3)).drew.bn hx2 (fun hm=>by have e:=dw.1 hm;omega);replace hB : Below w.heap.size w w2:=Below.grown (hB.alloc hB.size (.cells #[] 3)).drew hg2 (by have:=hB.size;simp only [World.size_alloc,kD];omega) (fun k hk=>by have e:=dw.1 (bH.2 hk);have:=hB.size;omega);obtain⟨Al,kN,xM⟩ :=kE nI (nH _ _ _) (dQ ho2);simp only [World.size_alloc,kD] at xM;clear hx2 hg2 nI) | (refine gV Try.stInt rfl (.tmp 75) (.tmp 79) rfl (v:=v2) (y:= .slice (some ⟨gl,ol+ (kk+1),none⟩) (live.length - (kk+1)) (lV - (kk+1))) (l:= []++live.take kk) (m:=live.drop (kk+1)) (by simp [Act.eval]) (by simp [Act.eval]) ho2 (hsf _ bf) (by simp;omega) ?_;intro v3 w3 ho3 hg3 nE;have hx3:=bW.gP hg3;have Cw:=hx3.size;replace dI:=dI.bn hx3 (fun b hb hm=>by have:=dZ b hb;have:=iD b hb;have:=kN b hm;omega);replace bT:=bT.bn hx3 (fun b hb hm=>by have:=iB b hb;have:=kN b hm;omega);replace bC:=bC.bn hx3 (fun b hb hm=>by have:=gF b hb;have:=kN b hm;omega);replace bf:=bf.bn hx3 (fun b hb hm=>by have:=dB b hb;have:=kN b hm;omega);replace bG:=bG.bn hx3 (fun hm=>by have:=kN _ hm;omega);replace hB : Below w.heap.size w w3:=Below.grown hB hg3 hB.size (fun k hk=>by have:=kN k (bH.2 hk);have:=hB.size;omega);obtain⟨CX,CY,Fu⟩ :=kE nE kN (dQ ho3);clear hx3 hg3 nE))
    all_goals
     go_wp2_with fail
     go_roundw
     case rel=>exact⟨i+1,ah,y,all,gone++ [hd], []++live.take kk++live.drop (kk+1),ba,yN,CX,by go_num,by omega, {bM:=bG,oM:=dI.toW,oA:=bT,oG:=bC,oL:=ho3,fM:=fun b hb=>by have:=dZ b hb;have:=iD b hb;omega,fA:=iB,fG:=gF,fL:=CY,ne:=by omega,lo:=by omega,hi:=by omega,nr:=yM.out,ln:=by simp only [List.length_append,List.length_cons,List.length_nil,List.length_take,List.length_drop];omega,ps:=by rcases PS.out with ⟨_,_,e⟩ |e; (exfalso;rw [e] at hl;simp at hl);exact .inr e,hB:=hB}⟩
     case measure=>simp [intOf];omega
  have h6 : ¬ ((i : Int) <60) :=by omega
  clear hat
  have hne : all≠ []:=by
   rcases N.ps with ⟨e,_⟩ |e
   ·exfalso;omega
   ·exact e
  obtain⟨CZ,C8,hva, -⟩ :=id N.oA.rd'
  subst hva
  obtain⟨D_,C9,zX, -⟩ :=id N.oG.rd'
  subst zX
  obtain⟨rX,lV,hvl, -⟩ :=id N.oL.rd'
  subst hvl
  have LN:=N.ln
  obtain⟨Ea,Eb,Ec⟩ :=LN
  go_wp2_with fail
  go_loopw [15,16,17] (fun v15 _ _ wr=> ∃j : Nat,v15= .int .i64 j∧j≤gone.length∧yL w wr w1.heap.size i cK m all gone live (.slice CZ all.length C8) (.slice D_ gone.length C9) (.slice rX live.length lV) ba bg bl) (fun j _ _ _=>gone.length - (intOf j).toNat)
  case atStart=>exact⟨0,rfl,Nat.zero_le _,N⟩
  case round=>
   clear N
   obtain⟨C_,rfl⟩ : ∃W : World,W=wr:= ⟨_,rfl⟩
   obtain⟨j,rfl,hj,N⟩ :=hrel
   by_cases hjl : j<gone.length
   case pos=>
    obtain⟨bG,cB,bT,bC,bf,mF,iB,gF,dB,NE,LO,HI,nr, -, -,hB⟩ :=N
    have rY:=Hid.aD nr
    have hsz : dS m≤536870912:=Nat.le_trans (lu nr.ok) (by decide)
    have qb:=cB.lt
    have uF:=dQ bT
    have jO:=dQ bC
    have iG:=dQ bf
    have xJ:=bG.lt
    obtain⟨bN,bO,bP,bQ,cZ,dO⟩ :=bG.f4
    obtain⟨-,hval,Da⟩ :=nr.stale (List.getElem_mem hjl)
    have HK:=Hid.aD (List.getElem?_eq_getElem hjl)
    generalize gone[j]=hd at hval Da HK
    obtain⟨y,hy⟩ : ∃y,y= (iC m 0 hd).1:= ⟨_,rfl⟩
    have HF : iC m 0 hd= (y,4) :=Prod.ext hy.symm Da
    clear hy Da nr
    obtain⟨gl,ol,D9,el,zl, -, -, -⟩ :=bC.rd'.at_ HK.out
    injection el with e1 _ e3
    subst e1 e3
    have p0:=cellL bC HK.out
    have hji : (j : Int) < (gone.length : Int) :=by omega
    have H4:=Hid.aD (And.intro NE (And.intro LO HI))
    clear NE LO HI
    go_wp2_with fail
    have szB:=hB.size
    go_upto_region 29 with (fail)
    go_cut [16,17] from 119 to 127 (fun v16 v17 wx=> ∃ (go : Nat) (ah : bY),v16= .pointer (some ⟨go,0,none⟩) ∧v17= .int .i64 4∧aJ wx (w1.heap.size) [.slice cK.E.Y.a cK.E.Y.l cK.E.Y.c, .slice cK.E.Z.a cK.E.Z.l cK.E.Z.c, .slice cK.I.G.a cK.I.G.l cK.I.G.c, .slice cK.I.O.a cK.I.O.l cK.I.O.c]∧aJ wx go [.slice ah.E.Y.a ah.E.Y.l ah.E.Y.c, .slice ah.E.Z.a ah.E.Z.l ah.E.Z.c, .slice ah.I.G.a ah.I.G.l ah.I.G.c, .slice ah.I.O.a ah.I.O.l ah.I.O.c]∧eZ wx cK m∧bF FI 3 wx (.slice CZ all.length C8) all∧bF FI 3 wx (.slice (some ⟨gl,ol,none⟩) gone.length C9) gone∧bF FI 3 wx (.slice rX live.length lV) live∧eX wx ah y∧ (∀g∈ah.foot,C_.heap.size≤g∧g≠go) ∧C_.heap.size≤go∧Below w.heap.size w wx∧C_.heap.size≤wx.heap.size)
    case first=>
     go_region_held3 (fun w'=>w'.cell? ⟨w1.heap.size,0,none⟩ =some (.slice cK.E.Y.a cK.E.Y.l cK.E.Y.c) ∧w'.cell? ⟨w1.heap.size,1,none⟩ =some (.slice cK.E.Z.a cK.E.Z.l cK.E.Z.c) ∧w'.cell? ⟨w1.heap.size,2,none⟩ =some (.slice cK.I.G.a cK.I.G.l cK.I.G.c) ∧w'.cell? ⟨w1.heap.size,3,none⟩ =some (.slice cK.I.O.a cK.I.O.l cK.I.O.c) ∧w'.cell? ⟨gl,ol+j,none⟩ =some (.int .i64 hd)) (first| (with_reducible exact⟨bN,bO,bP,bQ,p0⟩) | (refine⟨?_, ?_, ?_, ?_, ?_⟩ <;> (repeat (first|with_reducible assumption|with_reducible refine kC ?_ (by omega) |with_reducible refine jL ?_ (by omega) |with_reducible refine jX ?_));done) | (go_keep;done)) (first| (go_at_call 7; (first| ((with_reducible refine(jm HF hsz _ cB.rd').mono ?_);rintro e wq ⟨ah,rfl,dI,dZ,hb⟩;have iD:=dI.lt;replace bG:=bG.below hb;replace cB:=cB.step0 hb;replace bT:=bT.step0 hb;replace bC:=bC.step0 hb;replace bf:=bf.step0 hb;replace hB:=hB.trans (hb.mono hB.size);have sz:=hb.size; (try replace ay:=ay.below hb); (try replace aO:=ay.cell 0 _ rfl); (try replace aP:=ay.cell 1 _ rfl); (try replace bA:=ay.cell 2 _ rfl); (try replace bB:=ay.cell 3 _ rfl); (try replace aX:=ay.fP); (try replace bJ:=ay.lt);clear hb;replace p0:=cellL bC HK.out;clear bN bO bP bQ cZ dO;obtain⟨bN,bO,bP,bQ,cZ,dO⟩ :=bG.f4) | ((with_reducible refine(jm HF hsz _ (cB.gU).rd').mono ?_);rintro e wq ⟨ah,rfl,dI,dZ,hb⟩;replace hb:=eY hb;replace dZ:=iA dZ;have iD:=dI.lt;replace bG:=bG.below hb;replace cB:=cB.step0 hb;replace bT:=bT.step0 hb;replace bC:=bC.step0 hb;replace bf:=bf.step0 hb;replace hB:=hB.trans (hb.mono hB.size);have sz:=hb.size; (try replace ay:=ay.below hb); (try replace aO:=ay.cell 0 _ rfl); (try replace aP:=ay.cell 1 _ rfl); (try replace bA:=ay.cell 2 _ rfl); (try replace bB:=ay.cell 3 _ rfl); (try replace aX:=ay.fP); (try replace bJ:=ay.lt);clear hb;replace p0:=cellL bC HK.out;clear bN bO bP bQ cZ dO;obtain⟨bN,bO,bP,bQ,cZ,dO⟩ :=bG.f4) | ((with_reducible refine(jm HF hsz _ (cB.aN _).rd').mono ?_);rintro e wq ⟨ah,rfl,dI,dZ,hb⟩;simp only [World.size_alloc] at dZ;have iD:=dI.lt;replace bG:= (bG.alloc _).below hb;replace cB:=cB.step hb;replace bT:=bT.step hb;replace bC:=bC.step hb;replace bf:=bf.step hb;replace hB:=eF hB hb hB.size;have sz:=hb.size;simp only [World.size_alloc] at sz;have ay:=aJ.below (aJ.new _ #[.slice none 0 0, .slice none 0 0, .slice none 0 0, .slice none 0 0] 31) hb;obtain⟨aO,aP,bA,bB,aX,bJ⟩ :=ay.f4;clear hb;replace p0:=cellL bC HK.out;clear bN bO bP bQ cZ dO;obtain⟨bN,bO,bP,bQ,cZ,dO⟩ :=bG.f4) | ((with_reducible refine(jm HF hsz _ ((cB.aN _).gU).rd').mono ?_);rintro e wq ⟨ah,rfl,dI,dZ,hb⟩;replace hb:=eY hb;replace dZ:=iA dZ;simp only [World.size_alloc] at dZ;have iD:=dI.lt;replace bG:= (bG.alloc _).below hb;replace cB:=cB.step hb;replace bT:=bT.step hb;replace bC:=bC.step hb;replace bf:=bf.step hb;replace hB:=eF hB hb hB.size;have sz:=hb.size;simp only [World.size_alloc] at sz;have ay:=aJ.below (aJ.new _ #[.slice none 0 0, .slice none 0 0, .slice none 0 0, .slice none 0 0] 31) hb;obtain⟨aO,aP,bA,bB,aX,bJ⟩ :=ay.f4;clear hb;replace p0:=cellL bC HK.out;clear bN bO bP bQ cZ dO;obtain⟨bN,bO,bP,bQ,cZ,dO⟩ :=bG.f4))))
     all_goals
      go_wp2_with fail
      go_meet
      first|exact⟨_,ah,rfl,rfl,bG.alloc _,aJ.new _ _ _,cB.aN _,bT.aN _,bC.aN _,bf.aN _,dI.aN _,fun g hg=> ⟨by have:=dZ g hg;omega,by have:=iD g hg;omega⟩,by omega,hB.alloc hB.size _,by simp<;>omega⟩ | (obtain⟨go,hgo,kT⟩ :=ay.ad;rw [←hgo];exact⟨go,ah,rfl,rfl, ((((bG.other (by omega) _).other (by omega) _).other (by omega) _).other (by omega) _), ((((kT.set 0 _).set 1 _).set 2 _).set 3 _),cB.bn (F:= [go]) bV (fun g hg hm=>by simp only [List.mem_cons,List.not_mem_nil,or_false] at hm;have:=mF g hg;have:=qb g hg;omega),bT.bn (F:= [go]) bV (fun g hg hm=>by simp only [List.mem_cons,List.not_mem_nil,or_false] at hm;have:=iB g hg;have:=uF g hg;omega),bC.bn (F:= [go]) bV (fun g hg hm=>by simp only [List.mem_cons,List.not_mem_nil,or_false] at hm;have:=gF g hg;have:=jO g hg;omega),bf.bn (F:= [go]) bV (fun g hg hm=>by simp only [List.mem_cons,List.not_mem_nil,or_false] at hm;have:=dB g hg;have:=iG g hg;omega),dI.bn (F:= [go]) bV (fun g hg hm=>by simp only [List.mem_cons,List.not_mem_nil,or_false] at hm;have:=dZ g hg;have:=iD g hg;omega),fun g hg=> ⟨by have:=dZ g hg;omega,by have:=dZ g hg;have:=iD g hg;omega⟩,by omega,Below.trans hB fJ,by simp<;>omega⟩)
    case rest=>
     clear bG cZ dO bN bO bP bQ
     clear cB
     clear bT
     clear bC
     clear bf
     clear hB
     obtain⟨go,ah,rfl,rfl,bG,ay,cB,bT,bC,bf,dI,kX,sM,hB,sz⟩ :=hcut
     have dZ:=fun g hg=> (kX g hg).1
     have jR:=fun g hg=> (kX g hg).2
     have iD:=dI.lt
     clear kX
     have iF:=ay.lt
     obtain⟨bN,bO,bP,bQ,cZ,dO⟩ :=bG.f4
     obtain⟨aO,aP,bA,bB,aX,bJ⟩ :=ay.f4
     clear dI dZ iD jR
     clear ay aX bJ aO aP bA bB
     replace p0:=cellL bC HK.out
     have Cg : gl<wc.heap.size:=by omega
     go_wp2_with fail
     go_region_held3 (fun w'=>w'.cell? ⟨w1.heap.size,0,none⟩ =some (.slice cK.E.Y.a cK.E.Y.l cK.E.Y.c) ∧w'.cell? ⟨w1.heap.size,1,none⟩ =some (.slice cK.E.Z.a cK.E.Z.l cK.E.Z.c) ∧w'.cell? ⟨w1.heap.size,2,none⟩ =some (.slice cK.I.G.a cK.I.G.l cK.I.G.c) ∧w'.cell? ⟨w1.heap.size,3,none⟩ =some (.slice cK.I.O.a cK.I.O.l cK.I.O.c) ∧w'.cell? ⟨gl,ol+j,none⟩ =some (.int .i64 hd)) (first| (with_reducible exact⟨bN,bO,bP,bQ,p0⟩) | (refine⟨?_, ?_, ?_, ?_, ?_⟩ <;> (repeat (first|with_reducible assumption|with_reducible refine kC ?_ (by omega) |with_reducible refine jL ?_ (by omega) |with_reducible refine jX ?_));done) | (go_keep;done)) (first| (go_at_call 11; (first| ((with_reducible refine(mR _ cK m hd cB.rd').mono ?_);rw [hval];rintro e wq ⟨rfl,hb⟩;replace bG:=bG.below hb;replace cB:=cB.step0 hb;replace bT:=bT.step0 hb;replace bC:=bC.step0 hb;replace bf:=bf.step0 hb;replace hB:=hB.trans (hb.mono hB.size);have sz:=hb.size;clear hb;clear bN bO bP bQ cZ dO;obtain⟨bN,bO,bP,bQ,cZ,dO⟩ :=bG.f4;replace p0:=cellL bC HK.out) | ((with_reducible refine(mR _ cK m hd (cB.gU).rd').mono ?_);rw [hval];rintro e wq ⟨rfl,hb⟩;replace hb:=eY hb;replace bG:=bG.below hb;replace cB:=cB.step0 hb;replace bT:=bT.step0 hb;replace bC:=bC.step0 hb;replace bf:=bf.step0 hb;replace hB:=hB.trans (hb.mono hB.size);have sz:=hb.size;clear hb;clear bN bO bP bQ cZ dO;obtain⟨bN,bO,bP,bQ,cZ,dO⟩ :=bG.f4;replace p0:=cellL bC HK.out))))
     all_goals
      go_wp2_with fail
      obtain⟨NE,LO,HI⟩ :=H4.out
      go_roundw
      case rel=>exact⟨j+1,by go_num,by omega, {bM:=bG,oM:=cB,oA:=bT,oG:=bC,oL:=bf,fM:=mF,fA:=iB,fG:=gF,fL:=dB,ne:=NE,lo:=LO,hi:=by omega,nr:=rY.out,ln:= ⟨Ea,Eb,Ec⟩,ps:= .inr hne,hB:=hB}⟩
      case measure=>simp [intOf];omega
   go_wp2_with fail
   go_loopw [18] (fun v18 wr=> ∃j : Nat,v18= .int .i64 j∧j≤live.length∧yL w wr w1.heap.size i cK m all gone live (.slice CZ all.length C8) (.slice D_ gone.length C9) (.slice rX live.length lV) ba bg bl) (fun j _=>live.length - (intOf j).toNat)
   case atStart=>exact⟨0,rfl,Nat.zero_le _,N⟩
   case round=>
    clear N
    obtain⟨Hf,rfl⟩ : ∃W : World,W=wr:= ⟨_,rfl⟩
    clear hj hjl
    obtain⟨j,rfl,hj,N⟩ :=hrel
    by_cases hjl : j<live.length
    case pos=>
     obtain⟨bG,cB,bT,bC,bf,mF,iB,gF,dB,NE,LO,HI,nr, -, -,hB⟩ :=N
     have rY:=Hid.aD nr
     have hsz : dS m≤536870912:=Nat.le_trans (lu nr.ok) (by decide)
     have qb:=cB.lt
     have uF:=dQ bT
     have jO:=dQ bC
     have iG:=dQ bf
     have xJ:=bG.lt
     obtain⟨bN,bO,bP,bQ,cZ,dO⟩ :=bG.f4
     have hval:=nr.valid (List.getElem_mem hjl)
     have HK:=Hid.aD (List.getElem?_eq_getElem hjl)
     generalize live[j]=hd at hval HK
     clear nr
     obtain⟨gl,ol,D9,el,zl, -, -, -⟩ :=bf.rd'.at_ HK.out
     injection el with e1 _ e3
     subst e1 e3
     have hs1 : iJ m.I.G≤536870912:=by unfold dS eU at hsz;omega
     have hs2 : iJ m.I.O≤536870912:=by unfold dS eU at hsz;omega
     have p0:=cellL bf HK.out
     have hji : (j : Int) < (live.length : Int) :=by omega
     have H4:=Hid.aD (And.intro NE (And.intro LO HI))
     clear NE LO HI
     go_wp2_with fail
     go_region_held3 (fun w'=>w'.cell? ⟨w1.heap.size,0,none⟩ =some (.slice cK.E.Y.a cK.E.Y.l cK.E.Y.c) ∧w'.cell? ⟨w1.heap.size,1,none⟩ =some (.slice cK.E.Z.a cK.E.Z.l cK.E.Z.c) ∧w'.cell? ⟨w1.heap.size,2,none⟩ =some (.slice cK.I.G.a cK.I.G.l cK.I.G.c) ∧w'.cell? ⟨w1.heap.size,3,none⟩ =some (.slice cK.I.O.a cK.I.O.l cK.I.O.c) ∧w'.cell? ⟨gl,ol+j,none⟩ =some (.int .i64 hd)) (first| (with_reducible exact⟨bN,bO,bP,bQ,p0⟩) | (refine⟨?_, ?_, ?_, ?_, ?_⟩ <;> (repeat (first|with_reducible assumption|with_reducible refine kC ?_ (by omega) |with_reducible refine jL ?_ (by omega) |with_reducible refine jX ?_));done) | (go_keep;done)) (first| (go_at_call 11; (first| ((with_reducible refine(mR _ cK m hd cB.rd').mono ?_);rw [hval];rintro e wq ⟨rfl,hb⟩;replace bG:=bG.below hb;replace cB:=cB.step0 hb;replace bT:=bT.step0 hb;replace bC:=bC.step0 hb;replace bf:=bf.step0 hb;replace hB:=hB.trans (hb.mono hB.size);have sz:=hb.size;clear hb;clear bN bO bP bQ cZ dO;obtain⟨bN,bO,bP,bQ,cZ,dO⟩ :=bG.f4;replace p0:=cellL bf HK.out) | ((with_reducible refine(mR _ cK m hd (cB.gU).rd').mono ?_);rw [hval];rintro e wq ⟨rfl,hb⟩;replace hb:=eY hb;replace bG:=bG.below hb;replace cB:=cB.step0 hb;replace bT:=bT.step0 hb;replace bC:=bC.step0 hb;replace bf:=bf.step0 hb;replace hB:=hB.trans (hb.mono hB.size);have sz:=hb.size;clear hb;clear bN bO bP bQ cZ dO;obtain⟨bN,bO,bP,bQ,cZ,dO⟩ :=bG.f4;replace p0:=cellL bf HK.out))) | (go_at_call 12; (first| ((with_reducible refine(tX _ cK m hd cB.rd' hs1 hs2).mono ?_);rw [hval];rintro e wq ⟨rfl,hb⟩;replace bG:=bG.below hb;replace cB:=cB.step0 hb;replace bT:=bT.step0 hb;replace bC:=bC.step0 hb;replace bf:=bf.step0 hb;replace hB:=hB.trans (hb.mono hB.size);have sz:=hb.size;clear hb;clear bN bO bP bQ cZ dO;obtain⟨bN,bO,bP,bQ,cZ,dO⟩ :=bG.f4;replace p0:=cellL bf HK.out) | ((with_reducible refine(tX _ cK m hd (cB.gU).rd' hs1 hs2).mono ?_);rw [hval];rintro e wq ⟨rfl,hb⟩;replace hb:=eY hb;replace bG:=bG.below hb;replace cB:=cB.step0 hb;replace bT:=bT.step0 hb;replace bC:=bC.step0 hb;replace bf:=bf.step0 hb;replace hB:=hB.trans (hb.mono hB.size);have sz:=hb.size;clear hb;clear bN bO bP bQ cZ dO;obtain⟨bN,bO,bP,bQ,cZ,dO⟩ :=bG.f4;replace p0:=cellL bf HK.out))))
     all_goals
      go_wp2_with fail
      obtain⟨NE,LO,HI⟩ :=H4.out
      go_roundw
      case rel=>exact⟨j+1,by go_num,by omega, {bM:=bG,oM:=cB,oA:=bT,oG:=bC,oL:=bf,fM:=mF,fA:=iB,fG:=gF,fL:=dB,ne:=NE,lo:=LO,hi:=by omega,nr:=rY.out,ln:= ⟨Ea,Eb,Ec⟩,ps:= .inr hne,hB:=hB}⟩
      case measure=>simp [intOf];omega
    obtain⟨bG,cB,bT,bC,bf,mF,iB,gF,dB,NE,LO,HI,nr, -, -,hB⟩ :=N
    have rY:=Hid.aD nr
    have hsz : dS m≤536870912:=Nat.le_trans (lu nr.ok) (by decide)
    have qb:=cB.lt
    have uF:=dQ bT
    have jO:=dQ bC
    have iG:=dQ bf
    have xJ:=bG.lt
    obtain⟨bN,bO,bP,bQ,cZ,dO⟩ :=bG.f4
    have hs1 : iJ m.I.G≤536870912:=by unfold dS eU at hsz;omega
    have hs2 : iJ m.I.O≤536870912:=by unfold dS eU at hsz;omega
    have hok:=oz nr.ok
    have hpos : 0<all.length:=List.length_pos_iff.2 hne
    go_wp2_with fail
    refine(pE _ cK m cB.rd' hs1 hs2).mono ?_
    rw [hok]
    rintro e Hg ⟨rfl,hb⟩
    replace bG:=bG.below hb
    replace cB:=cB.step0 hb
    replace bT:=bT.step0 hb
    replace bC:=bC.step0 hb
    replace bf:=bf.step0 hb
    replace hB:=hB.trans (hb.mono hB.size)
    have sz:=hb.size
    clear hb
    clear bN bO bP bQ cZ dO
    obtain⟨bN,bO,bP,bQ,cZ,dO⟩ :=bG.f4
    have hg1 : decide ((0 : Int) < (all.length : Int)) =true:=decide_eq_true (by omega)
    have hg2 : decide (0<all.length) =true:=decide_eq_true hpos
    go_wp2_with fail
    go_ret
    exact⟨rfl,hB⟩
end Go.Proofs.Ytkmggglljkmjoaa
