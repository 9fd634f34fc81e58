/-
  Several texts in one: lemmas and contracts that the claim rests on.
-/
import Derived.Test.YtkmggglljkmjoaaGreatUTC1
import Derived.Deep.QuietTactic
import Derived.BigQuiet
import Derived.Deep.LoopGhost
import Derived.Deep.RegionHeld3
import Derived.Test.YtkmggglljkmjoaaGreatUTC2
import Derived.WalkSpells
import Derived.Laws.Cover3
import Derived.Test.YtkmggglljkmjoaaGreatUTC35
import Derived.Test.YtkmggglljkmjoaaGreatUTC36
import Derived.Test.YtkmggglljkmjoaaGreatUTC9
import Derived.Test.YtkmggglljkmjoaaGreatUTC8
import Derived.Test.YtkmggglljkmjoaaGreatUTC14
namespace Go.Proofs.YtkmggglljkmjoaaGreat
open Go.RowKit
open Go.Proofs.YtkmggglljkmjoaaGreat.Lim
set_option maxHeartbeats 1000000 in
theorem EH (w : World)(g : Nat)(code : List Int)(hc : f_ w g code) : Calls Tryz.prog 95 #[.pointer (some ⟨g,0,none⟩)] w (ES (-1) 41 w g code) :=by
 go_enter Tryz.func95,Tryz.ntmps95
 go_wp2_with fail
 refine(cK _ g code 40 (by unfold gZ;omega) hc).mono ?_
 rintro e w1 ⟨a,rfl,a0,a1,hc1,hg1⟩
 go_wp2_with fail
 refine(cK _ g code 16 (by unfold gZ;omega) hc1).mono ?_
 rintro e w2 ⟨b,rfl,b0,b1,hc2,hg2⟩
 have hlt2:=hc2.lt
 go_wp2_with fail
 refine(iZ _ g _ code [1,8,9,16,17,40,41,0, -1,1+a,1+b] _ 11 (aB.new _ _ _) (by simp) (by simp) (by simp;omega) (by simp) (by simp) (hc2.alloc _)).mono ?_
 rintro e w3 ⟨x,rfl,hm,hc3,hg3⟩
 go_wp2_with fail
 go_ret
 refine⟨x,rfl, ?_, ?_,hc3, (hg1.trans hg2).trans hg3.xk⟩
 all_goals (simp at hm;omega)
set_option maxRecDepth 100000 in
set_option maxHeartbeats 4000000 in
theorem Dn (w : World)(v : Value)(code : List Int)(h : fE nK w w.heap.size v code)(hb : ∀x∈code,0≤x∧x≤255)(hs : code.length≤1073741824) :
  Calls Tryz.prog 33 #[v] w fun e w'=> ∃ (H : bP) (x : Mem) (a n : Int),e= .returned (.tuple #[.agg #[.slice H.E.Y.a H.E.Y.l H.E.Y.c, .slice H.E.Z.a H.E.Z.l H.E.Z.c, .slice H.I.G.a H.I.G.l H.I.G.c, .slice H.I.O.a H.I.O.l H.I.O.c], .int .i64 a, .int .i64 n]) ∧d9 w' H x∧dx x≤1000∧ (∀g∈H.foot,w.heap.size≤g) ∧ (-1≤a∧a≤3∧ -1≤n∧n≤41) ∧Below w.heap.size w w':=by
 go_enter Tryz.func33,Tryz.ntmps33
 go_wp2_with fail
 refine(Cb _ _ code (h.aH (Nat.le_refl _) (by simp) _) hb hs).mono ?_
 rintro e w1 ⟨rfl,hc,hb1⟩
 have hsz1:=hb1.size
 simp only [World.size_alloc] at hc hsz1⊢
 have ah : aB w1 w.heap.size [.slice none 0 0, .slice none 0 0, .slice none 0 0, .slice none 0 0]:= (aB.new w #[.slice none 0 0, .slice none 0 0, .slice none 0 0, .slice none 0 0] 31).below hb1
 have hbw : Below w.heap.size w w1:= ((Below.refl _ w).alloc (Nat.le_refl _) _).trans (hb1.mono (by simp))
 have hlt1:=hc.lt
 go_wp2_with fail
 refine(Ca _ _ code hc).mono ?_
 rintro e w2 ⟨H,x,av,rfl,bR,hz,mX,hcn,hx⟩
 have nr : w.heap.size∉ [w.heap.size+1]:=by simp
 replace ah:=ah.aM hx nr
 have hB : Below w.heap.size w w2:=hbw.trans (hx.below hbw.size (fun g hm=>by simp at hm;omega))
 replace hc:=hcn
 have jZ:=bR.lt
 have fl : ∀b∈H.foot,w.heap.size+1<b∧b<w2.heap.size:=fun b hb=>by have:=mX b hb;have:=jZ b hb;omega
 have CK:=hx.size
 clear hb1 hcn mX jZ hbw
 obtain⟨aj,ak,aJ,aK,ay,aI⟩ :=ah.f4
 go_wp2_with fail
 have bn:=aB.new w2 #[.slice H.E.Y.a H.E.Y.l H.E.Y.c, .slice H.E.Z.a H.E.Z.l H.E.Z.c, .slice H.I.G.a H.I.G.l H.I.G.c, .slice H.I.O.a H.I.O.l H.I.O.c] 31
 replace hc:=hc.alloc (.cells #[.slice H.E.Y.a H.E.Y.l H.E.Y.c, .slice H.E.Z.a H.E.Z.l H.E.Z.c, .slice H.I.G.a H.I.G.l H.I.G.c, .slice H.I.O.a H.I.O.l H.I.O.c] 31)
 replace bR:=bR.aH (.cells #[.slice H.E.Y.a H.E.Y.l H.E.Y.c, .slice H.E.Z.a H.E.Z.l H.E.Z.c, .slice H.I.G.a H.I.G.l H.I.G.c, .slice H.I.O.a H.I.O.l H.I.O.c] 31)
 replace ah:=ah.alloc (.cells #[.slice H.E.Y.a H.E.Y.l H.E.Y.c, .slice H.E.Z.a H.E.Z.l H.E.Z.c, .slice H.I.G.a H.I.G.l H.I.G.c, .slice H.I.O.a H.I.O.l H.I.O.c] 31)
 replace hB:=hB.alloc hB.size (.cells #[.slice H.E.Y.a H.E.Y.l H.E.Y.c, .slice H.E.Z.a H.E.Z.l H.E.Z.c, .slice H.I.G.a H.I.G.l H.I.G.c, .slice H.I.O.a H.I.O.l H.I.O.c] 31)
 obtain⟨am,EF⟩ : ∃a,a=w2.heap.size:= ⟨_,rfl⟩
 generalize hG : w2.alloc (.cells #[.slice H.E.Y.a H.E.Y.l H.E.Y.c, .slice H.E.Z.a H.E.Z.l H.E.Z.c, .slice H.I.G.a H.I.G.l H.I.G.c, .slice H.I.O.a H.I.O.l H.I.O.c] 31) =w3 at hc bR ah bn hB⊢
 rw [←EF] at bn fl CK⊢
 clear hG EF
 have nm : am∉ [w.heap.size+1]:=by simp;omega
 have Ns : ¬ w.heap.size=am:=by omega
 have MH : ¬ am=w.heap.size:=by omega
 have nf : ∀b∈H.foot,b∉ [w.heap.size+1]:=fun b hb hm=>by have:=fl b hb;simp at hm;omega
 have bC:=bn.cell 0 _ rfl
 have bD:=bn.cell 1 _ rfl
 have bE:=bn.cell 2 _ rfl
 have bF:=bn.cell 3 _ rfl
 have aj:=ah.cell 0 _ rfl
 have ak:=ah.cell 1 _ rfl
 have aJ:=ah.cell 2 _ rfl
 have aK:=ah.cell 3 _ rfl
 have bS:=bn.dn
 have dB:=bn.lt
 have ay:=ah.dn
 have aI:=ah.lt
 go_region_held3 (fun w'=>w'.cell? ⟨am,0,none⟩ =some (.slice H.E.Y.a H.E.Y.l H.E.Y.c) ∧w'.cell? ⟨am,1,none⟩ =some (.slice H.E.Z.a H.E.Z.l H.E.Z.c) ∧w'.cell? ⟨am,2,none⟩ =some (.slice H.I.G.a H.I.G.l H.I.G.c) ∧w'.cell? ⟨am,3,none⟩ =some (.slice H.I.O.a H.I.O.l H.I.O.c)) (first| (with_reducible exact⟨bC,bD,bE,bF⟩) | (refine⟨?_, ?_, ?_, ?_⟩ <;> (repeat (first|with_reducible assumption|with_reducible refine fH ?_ (by omega) |with_reducible refine eF ?_ (by omega) |with_reducible refine fu ?_));done) | (go_keep;done)) (first| (go_at_call 94; (first| ((with_reducible refine(yI _ _ code hc).mono ?_);rintro e wq ⟨a,rfl,a0,a1,hcn,hx⟩;replace hB:=Below.trans hB (hx.below hB.size (fun g hm=>by simp at hm;omega));replace bn:=bn.aM hx nm;replace ah:=ah.aM hx nr;replace bR:=bR.aM hx nf;replace hc:=hcn;clear hx;replace bC:=bn.cell 0 _ rfl;replace bD:=bn.cell 1 _ rfl;replace bE:=bn.cell 2 _ rfl;replace bF:=bn.cell 3 _ rfl;replace aj:=ah.cell 0 _ rfl;replace ak:=ah.cell 1 _ rfl;replace aJ:=ah.cell 2 _ rfl;replace aK:=ah.cell 3 _ rfl;replace bS:=bn.dn;replace dB:=bn.lt;replace ay:=ah.dn;replace aI:=ah.lt) | ((with_reducible refine(yI _ _ code (hc.bf)).mono ?_);rintro e wq ⟨a,rfl,a0,a1,hcn,hx⟩;replace hB:=Below.trans hB.drew (hx.below hB.size (fun g hm=>by simp at hm;omega));replace bn:=bn.drew.aM hx nm;replace ah:=ah.drew.aM hx nr;replace bR:= (bR.bf).aM hx nf;replace hc:=hcn;clear hx;replace bC:=bn.cell 0 _ rfl;replace bD:=bn.cell 1 _ rfl;replace bE:=bn.cell 2 _ rfl;replace bF:=bn.cell 3 _ rfl;replace aj:=ah.cell 0 _ rfl;replace ak:=ah.cell 1 _ rfl;replace aJ:=ah.cell 2 _ rfl;replace aK:=ah.cell 3 _ rfl;replace bS:=bn.dn;replace dB:=bn.lt;replace ay:=ah.dn;replace aI:=ah.lt))) | (go_at_call 95; (first| ((with_reducible refine(EH _ _ code hc).mono ?_);rintro e wq ⟨n,rfl,n0,n1,hcn,hx⟩;replace hB:=Below.trans hB (hx.below hB.size (fun g hm=>by simp at hm;omega));replace bn:=bn.aM hx nm;replace ah:=ah.aM hx nr;replace bR:=bR.aM hx nf;replace hc:=hcn;clear hx;replace bC:=bn.cell 0 _ rfl;replace bD:=bn.cell 1 _ rfl;replace bE:=bn.cell 2 _ rfl;replace bF:=bn.cell 3 _ rfl;replace aj:=ah.cell 0 _ rfl;replace ak:=ah.cell 1 _ rfl;replace aJ:=ah.cell 2 _ rfl;replace aK:=ah.cell 3 _ rfl;replace bS:=bn.dn;replace dB:=bn.lt;replace ay:=ah.dn;replace aI:=ah.lt) | ((with_reducible refine(EH _ _ code (hc.bf)).mono ?_);rintro e wq ⟨n,rfl,n0,n1,hcn,hx⟩;replace hB:=Below.trans hB.drew (hx.below hB.size (fun g hm=>by simp at hm;omega));replace bn:=bn.drew.aM hx nm;replace ah:=ah.drew.aM hx nr;replace bR:= (bR.bf).aM hx nf;replace hc:=hcn;clear hx;replace bC:=bn.cell 0 _ rfl;replace bD:=bn.cell 1 _ rfl;replace bE:=bn.cell 2 _ rfl;replace bF:=bn.cell 3 _ rfl;replace aj:=ah.cell 0 _ rfl;replace ak:=ah.cell 1 _ rfl;replace aJ:=ah.cell 2 _ rfl;replace aK:=ah.cell 3 _ rfl;replace bS:=bn.dn;replace dB:=bn.lt;replace ay:=ah.dn;replace aI:=ah.lt))))
 all_goals
  go_wp2_with fail
  refine bodyPost_ret (v:= .tuple #[.agg #[.slice H.E.Y.a H.E.Y.l H.E.Y.c, .slice H.E.Z.a H.E.Z.l H.E.Z.c, .slice H.I.G.a H.I.G.l H.I.G.c, .slice H.I.O.a H.I.O.l H.I.O.c], .int .i64 a, .int .i64 n]) (by simp [results,Tryz.results33,go_sem,aj,ak,aJ,aK]) rfl ⟨H,x,a,n,rfl,bR.aM (F:= [w.heap.size]) bW (fun b hb hm=>by simp only [List.mem_cons,List.not_mem_nil,or_false] at hm;have:=fl b hb;omega),hz,fun b hb=>by have:=fl b hb;omega, ⟨a0,a1,n0,n1⟩,Below.trans hB dQ⟩
end Go.Proofs.YtkmggglljkmjoaaGreat
namespace Go.Proofs.YtkmggglljkmjoaaGreat
open Go.RowKit
theorem jO.bf {w : World}{H : bP}{x : Mem}(h : jO w H x) : jO w.drew H x:=h.keep (fun _ _=>rfl)
theorem IE {m : Mem}{w n : Int}(hc : (dS m w n).2.2=0) : ∃ (y : Mem) (a s cl t : Int),dS m w n= (y,a,0) ∧dx y≤450∧dG y=true∧eY a=true∧a%32=s∧0≤s∧s≤23∧oL y a=true∧oL m a=false∧eT n=cl∧jQ y.E s=cl∧kM y s=3∧kM m s=t∧t≠3∧
  (∀i : Nat,i<24→ (i : Int) ≠s→kM m i=3→ ∃g v : Int,xD m.E i=g∧bO 1 6 g=true∧bO 0 23 (i : Int) =true∧ko y (g * 32+i) 0 4= (v,0) ∧ko m (g * 32+i) 0 4= (v,0)) :=by
 obtain⟨p,p2,h1,h2,h3,h4,h5,h6,h7,_,_⟩ :=CX hc
 have ok:=mQ p
 have K7:=mQ p2
 obtain⟨_,_,c,hc3,hn⟩ :=B_ hc
 have hs:=kX h1
 refine⟨(dS m w n).1, (dS m w n).2.1, (dS m w n).2.1%32,eT n,kM m ((dS m w n).2.1%32),Prod.ext rfl (Prod.ext rfl hc),o8 p2,K7,h1,rfl,by omega,by omega,by rw [sO p2,h2],by rw [sO p,h6],rfl, ?_, ?_,rfl, ?_, ?_⟩
 ·unfold jQ
  rw [if_pos (jd K7),h3]
 ·unfold kM
  rw [if_pos K7,h4]
 ·unfold kM
  rw [if_pos ok]
  exact h5
 ·intro i hi hne hst
  have hst' : jw m i=3:=by
   unfold kM at hst
   rwa [if_pos ok] at hst
  obtain⟨k1,k2,k3⟩ :=state3 hst'
  have gb:=FU (o_ ok) k1
  have hcl : jQ m.E i=aO m.E i:=if_pos (jd ok)
  have hg : xD m.E i=dz m.E i:=by
   unfold xD
   rw [hcl,if_neg k1]
  have i1 : bO 0 23 (i : Int) =true:=bJ.2 ⟨by omega,by omega⟩
  have i2 : bO 1 6 (dz m.E i) =true:=bJ.2 ⟨gb.1,k3⟩
  obtain⟨e1,e2,e3⟩ :=Ac i1 i2
  have hl : gM m (dz m.E i * 32+i) =true:=mU.2 ⟨e1,by rw [e2];exact k1,by rw [e2];exact Ap.1 k2,by rw [e2,e3]⟩
  obtain⟨f1,f2⟩ :=h7.load ok K7 (by rw [e2];exact hne) hl
  have f3 : ko m (dz m.E i * 32+i) 0 4= ((ko m (dz m.E i * 32+i) 0 4).1,0) :=Prod.ext rfl f2
  exact⟨_,_,hg,i2,i1,f1.trans f3,f3⟩
end Go.Proofs.YtkmggglljkmjoaaGreat
