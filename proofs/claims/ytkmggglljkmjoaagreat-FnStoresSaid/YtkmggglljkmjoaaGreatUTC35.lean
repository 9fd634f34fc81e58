/-
  Several texts in one: lemmas and contracts that the claim rests on.
-/
import Derived.Test.YtkmggglljkmjoaaGreatUTC1
import Derived.Deep.QuietTactic
import Derived.BigQuiet
import Derived.Deep.LoopGhost
import Derived.Deep.RegionHeld3
import Derived.Test.YtkmggglljkmjoaaGreatUTC2
import Derived.WalkSpells
import Derived.Laws.Cover3
import Derived.Test.YtkmggglljkmjoaaGreatUTC23
import Derived.Test.YtkmggglljkmjoaaGreatUTC25
import Derived.Test.YtkmggglljkmjoaaGreatUTC34
import Derived.Deep.CutRange
import Derived.Deep.RegionLaw
import Derived.Lib.SliceRun
import Derived.Test.YtkmggglljkmjoaaGreatUTC21
import Derived.Test.YtkmggglljkmjoaaGreatUTC9
namespace Go.Proofs.YtkmggglljkmjoaaGreat
open Go.RowKit
open Go.Proofs.YtkmggglljkmjoaaGreat.Lim
def MG (w : World)(g : Nat)(code : List Int)(e : Ending)(w' : World) : Prop:= ∃ (H : bP) (x : Mem) (a : Int),e= .returned (.tuple #[.agg #[.slice H.E.Y.a H.E.Y.l H.E.Y.c, .slice H.E.Z.a H.E.Z.l H.E.Z.c, .slice H.I.G.a H.I.G.l H.I.G.c, .slice H.I.O.a H.I.O.l H.I.O.c], .int .i64 a]) ∧d9 w' H x∧dx x≤1000∧ (∀b∈H.foot,w.heap.size≤b) ∧f_ w' g code∧aY [g] w w'
set_option maxRecDepth 100000 in
set_option maxHeartbeats 8000000 in
theorem Ca (w : World)(g : Nat)(code : List Int)(hc : f_ w g code) : Calls Tryz.prog 69 #[.pointer (some ⟨g,0,none⟩)] w (MG w g code) :=by
 have hgl:=hc.lt
 obtain⟨w0,hW0⟩ : ∃x,x= (w.alloc (.cells #[.slice none 0 0, .slice none 0 0, .slice none 0 0, .slice none 0 0] 31)) := ⟨_,rfl⟩
 have ah : aB w0 (w.heap.size) [.slice none 0 0, .slice none 0 0, .slice none 0 0, .slice none 0 0]:=by
  rw [hW0]
  exact aB.nw
 have hC : aY [g] w w0:=hW0 ▸ (aY.refl [g] w).aH _
 replace hc : f_ w0 g code:=hW0 ▸ (hc).alloc _
 go_enter Tryz.func69,Tryz.ntmps69
 go_wp2_with fail
 rw [←hW0]
 clear hW0
 have iB:=ah.lt
 have F3 : w.heap.size≤w.heap.size:=by omega
 have sC:=hC.size
 obtain⟨aj,ak,aJ,aK,ay,aI⟩ :=ah.f4
 refine(JE _ g code hc).mono ?_
 rintro e w1 ⟨dP,x,a,rfl,bR,HP,mX,hcn,hx⟩
 replace hc:=hcn
 replace ah:=ah.aM hx (by simp only [List.mem_cons,List.not_mem_nil,or_false];omega)
 replace hC:=hC.trans hx
 have sz:=hx.size
 replace sC:=hC.size
 clear hx
 have jZ:=bR.lt
 clear aj ak aJ aK ay aI
 obtain⟨aj,ak,aJ,aK,ay,aI⟩ :=ah.f4
 have hsz:=o8 HP
 clear HP
 go_wp2_with fail
 generalize hO : Obj.cells #[.slice dP.E.Y.a dP.E.Y.l dP.E.Y.c, .slice dP.E.Z.a dP.E.Z.l dP.E.Z.c, .slice dP.I.G.a dP.I.G.l dP.I.G.c, .slice dP.I.O.a dP.I.O.l dP.I.O.c] 31=O_
 replace ah:=ah.alloc O_
 replace bR:=bR.aH O_
 replace hC:=hC.aH O_
 replace hc:=hc.alloc O_
 have bn : aB (w1.alloc O_) w1.heap.size [.slice dP.E.Y.a dP.E.Y.l dP.E.Y.c, .slice dP.E.Z.a dP.E.Z.l dP.E.Z.c, .slice dP.I.G.a dP.I.G.l dP.I.G.c, .slice dP.I.O.a dP.I.O.l dP.I.O.c]:=hO ▸ aB.new _ _ _
 have tZ:=bn.lt
 have sz : w1.heap.size≤ (w1.alloc O_).heap.size:=Nat.le_of_lt bn.lt
 have N8 : w.heap.size≤w1.heap.size:=by omega
 generalize hG : (w1.alloc O_) =w2 at ah bR hC hc bn tZ sz⊢
 clear hG hO O_
 replace sC:=hC.size
 clear aj ak aJ aK ay aI
 obtain⟨aj,ak,aJ,aK,ay,aI⟩ :=ah.f4
 obtain⟨bC,bD,bE,bF,bS,dB⟩ :=bn.f4
 refine(uM _ g code 6 (by unfold gZ;omega) hc).mono ?_
 rintro e w3 ⟨b,rfl,hcn,hx⟩
 replace hc:=hcn
 replace ah:=ah.aM hx (by simp only [List.mem_cons,List.not_mem_nil,or_false];omega)
 replace bn:=bn.aM hx (by simp only [List.mem_cons,List.not_mem_nil,or_false];omega)
 replace bR:=bR.aM hx (fun b hb hm=>by simp only [List.mem_cons,List.not_mem_nil,or_false] at hm;have:=mX b hb;have:=jZ b hb;omega)
 replace hC:=hC.trans hx
 have sz:=hx.size
 replace sC:=hC.size
 clear hx
 skip
 clear aj ak aJ aK ay aI
 obtain⟨aj,ak,aJ,aK,ay,aI⟩ :=ah.f4
 clear bC bD bE bF bS dB
 obtain⟨bC,bD,bE,bF,bS,dB⟩ :=bn.f4
 cases b with
 |false=>
  go_wp2_with fail
  refine(cK _ g code 24 (by unfold gZ;omega) hc).mono ?_
  rintro e Rl ⟨k,rfl,k0,k1,hcn,hx⟩
  replace hc:=hcn
  replace ah:=ah.aM hx (by simp only [List.mem_cons,List.not_mem_nil,or_false];omega)
  replace bn:=bn.aM hx (by simp only [List.mem_cons,List.not_mem_nil,or_false];omega)
  replace bR:=bR.aM hx (fun b hb hm=>by simp only [List.mem_cons,List.not_mem_nil,or_false] at hm;have:=mX b hb;have:=jZ b hb;omega)
  replace hC:=hC.trans hx
  have sz:=hx.size
  replace sC:=hC.size
  clear hx
  skip
  clear aj ak aJ aK ay aI
  obtain⟨aj,ak,aJ,aK,ay,aI⟩ :=ah.f4
  clear bC bD bE bF bS dB
  obtain⟨bC,bD,bE,bF,bS,dB⟩ :=bn.f4
  by_cases e0 : k=0
  case pos=>
   subst e0
   go_wp2_with fail
   refine(F7 _ g code hc).mono ?_
   rintro e wk ⟨dI,y,rfl,lY,hy,lZ,hcn,hx⟩
   replace hc:=hcn
   replace ah:=ah.aM hx (by simp only [List.mem_cons,List.not_mem_nil,or_false];omega)
   replace bn:=bn.aM hx (by simp only [List.mem_cons,List.not_mem_nil,or_false];omega)
   replace bR:=bR.aM hx (fun b hb hm=>by simp only [List.mem_cons,List.not_mem_nil,or_false] at hm;have:=mX b hb;have:=jZ b hb;omega)
   replace hC:=hC.trans hx
   have sz:=hx.size
   replace sC:=hC.size
   clear hx
   clear aj ak aJ aK ay aI
   obtain⟨aj,ak,aJ,aK,ay,aI⟩ :=ah.f4
   clear bC bD bE bF bS dB
   obtain⟨bC,bD,bE,bF,bS,dB⟩ :=bn.f4
   have tH:=lY.lt
   have oW : d9 wk ⟨dI,dP.I⟩ ⟨y,x.I⟩ := ⟨lY,bR.I,fun b hb hm=>by have:=lZ b hb;have:=jZ b (bP.aX.2 (.inr hm));omega⟩
   have gW : ∀b∈bP.foot ⟨dI,dP.I⟩,w.heap.size<b∧b≠w1.heap.size:=fun b hb=>by rcases bP.aX.1 hb with h1|h1; (have:=lZ b h1;omega); (have:=mX b (bP.aX.2 (.inr h1));have:=jZ b (bP.aX.2 (.inr h1));omega)
   go_wp2_with fail
   refine bodyPost_ret (v:= .tuple #[.agg #[.slice dI.Y.a dI.Y.l dI.Y.c, .slice dI.Z.a dI.Z.l dI.Z.c, .slice dP.I.G.a dP.I.G.l dP.I.G.c, .slice dP.I.O.a dP.I.O.l dP.I.O.c], .int .i64 a]) (by simp [results,Tryz.results69,go_sem,aj,ak,aJ,aK]) rfl ⟨⟨dI,dP.I⟩, ⟨y,x.I⟩,a,rfl,oW.aM (F:= [w.heap.size,w1.heap.size]) bW (fun b hb hm=>by simp only [List.mem_cons,List.not_mem_nil,or_false] at hm;have:=gW b hb;omega),by unfold dx at hsz⊢;simp only;omega,fun b hb=>by have:=gW b hb;omega,hc.je (B:=w.heap.size) hgl dQ hC.size,hC.then_ dQ⟩
  have Mc : (k == 0) =false:=by simpa using e0
  by_cases e1 : k=1
  case pos=>
   subst e1
   go_wp2_with fail
   refine(Ga _ g code hc).mono ?_
   rintro e wk ⟨dI,y,rfl,lY,hy,lZ,hcn,hx⟩
   replace hc:=hcn
   replace ah:=ah.aM hx (by simp only [List.mem_cons,List.not_mem_nil,or_false];omega)
   replace bn:=bn.aM hx (by simp only [List.mem_cons,List.not_mem_nil,or_false];omega)
   replace bR:=bR.aM hx (fun b hb hm=>by simp only [List.mem_cons,List.not_mem_nil,or_false] at hm;have:=mX b hb;have:=jZ b hb;omega)
   replace hC:=hC.trans hx
   have sz:=hx.size
   replace sC:=hC.size
   clear hx
   clear aj ak aJ aK ay aI
   obtain⟨aj,ak,aJ,aK,ay,aI⟩ :=ah.f4
   clear bC bD bE bF bS dB
   obtain⟨bC,bD,bE,bF,bS,dB⟩ :=bn.f4
   have tH:=lY.lt
   have oW : d9 wk ⟨dP.E,dI⟩ ⟨x.E,y⟩ := ⟨bR.E,lY,fun b hb hm=>by have:=lZ b hm;have:=jZ b (bP.aX.2 (.inl hb));omega⟩
   have gW : ∀b∈bP.foot ⟨dP.E,dI⟩,w.heap.size<b∧b≠w1.heap.size:=fun b hb=>by rcases bP.aX.1 hb with h1|h1; (have:=mX b (bP.aX.2 (.inl h1));have:=jZ b (bP.aX.2 (.inl h1));omega); (have:=lZ b h1;omega)
   go_wp2_with fail
   refine bodyPost_ret (v:= .tuple #[.agg #[.slice dP.E.Y.a dP.E.Y.l dP.E.Y.c, .slice dP.E.Z.a dP.E.Z.l dP.E.Z.c, .slice dI.G.a dI.G.l dI.G.c, .slice dI.O.a dI.O.l dI.O.c], .int .i64 a]) (by simp [results,Tryz.results69,go_sem,aj,ak,aJ,aK]) rfl ⟨⟨dP.E,dI⟩, ⟨x.E,y⟩,a,rfl,oW.aM (F:= [w.heap.size,w1.heap.size]) bW (fun b hb hm=>by simp only [List.mem_cons,List.not_mem_nil,or_false] at hm;have:=gW b hb;omega),by unfold dx at hsz⊢;simp only;omega,fun b hb=>by have:=gW b hb;omega,hc.je (B:=w.heap.size) hgl dQ hC.size,hC.then_ dQ⟩
  have Md : (k == 1) =false:=by simpa using e1
  clear e0 e1
  go_wp2_with fail
  refine bodyPost_ret (v:= .tuple #[.agg #[.slice dP.E.Y.a dP.E.Y.l dP.E.Y.c, .slice dP.E.Z.a dP.E.Z.l dP.E.Z.c, .slice dP.I.G.a dP.I.G.l dP.I.G.c, .slice dP.I.O.a dP.I.O.l dP.I.O.c], .int .i64 a]) (by simp [results,Tryz.results69,go_sem,aj,ak,aJ,aK]) rfl ⟨dP,x,a,rfl,bR.aM (F:= [w.heap.size]) bW (fun b hb hm=>by simp only [List.mem_cons,List.not_mem_nil,or_false] at hm;have:=mX b hb;have:=jZ b hb;omega),by omega,fun b hb=>by have:=mX b hb;omega,hc.je (B:=w.heap.size) hgl dQ hC.size,hC.then_ dQ⟩
 |true=>
  go_wp2_with fail
  refine(GI _ g code hc).mono ?_
  rintro e Rm ⟨h6,rfl,Rn,Ro,hcn,hx⟩
  replace hc:=hcn
  replace ah:=ah.aM hx (by simp only [List.mem_cons,List.not_mem_nil,or_false];omega)
  replace bn:=bn.aM hx (by simp only [List.mem_cons,List.not_mem_nil,or_false];omega)
  replace bR:=bR.aM hx (fun b hb hm=>by simp only [List.mem_cons,List.not_mem_nil,or_false] at hm;have:=mX b hb;have:=jZ b hb;omega)
  replace hC:=hC.trans hx
  have sz:=hx.size
  replace sC:=hC.size
  clear hx
  skip
  clear aj ak aJ aK ay aI
  obtain⟨aj,ak,aJ,aK,ay,aI⟩ :=ah.f4
  clear bC bD bE bF bS dB
  obtain⟨bC,bD,bE,bF,bS,dB⟩ :=bn.f4
  go_wp2_with fail
  refine(cK _ g code 24 (by unfold gZ;omega) hc).mono ?_
  rintro e Rp ⟨k,rfl,k0,k1,hcn,hx⟩
  replace hc:=hcn
  replace ah:=ah.aM hx (by simp only [List.mem_cons,List.not_mem_nil,or_false];omega)
  replace bn:=bn.aM hx (by simp only [List.mem_cons,List.not_mem_nil,or_false];omega)
  replace bR:=bR.aM hx (fun b hb hm=>by simp only [List.mem_cons,List.not_mem_nil,or_false] at hm;have:=mX b hb;have:=jZ b hb;omega)
  replace hC:=hC.trans hx
  have sz:=hx.size
  replace sC:=hC.size
  clear hx
  skip
  clear aj ak aJ aK ay aI
  obtain⟨aj,ak,aJ,aK,ay,aI⟩ :=ah.f4
  clear bC bD bE bF bS dB
  obtain⟨bC,bD,bE,bF,bS,dB⟩ :=bn.f4
  by_cases e0 : k=0
  case pos=>
   subst e0
   go_wp2_with fail
   refine(F7 _ g code hc).mono ?_
   rintro e wk ⟨dI,y,rfl,lY,hy,lZ,hcn,hx⟩
   replace hc:=hcn
   replace ah:=ah.aM hx (by simp only [List.mem_cons,List.not_mem_nil,or_false];omega)
   replace bn:=bn.aM hx (by simp only [List.mem_cons,List.not_mem_nil,or_false];omega)
   replace bR:=bR.aM hx (fun b hb hm=>by simp only [List.mem_cons,List.not_mem_nil,or_false] at hm;have:=mX b hb;have:=jZ b hb;omega)
   replace hC:=hC.trans hx
   have sz:=hx.size
   replace sC:=hC.size
   clear hx
   clear aj ak aJ aK ay aI
   obtain⟨aj,ak,aJ,aK,ay,aI⟩ :=ah.f4
   clear bC bD bE bF bS dB
   obtain⟨bC,bD,bE,bF,bS,dB⟩ :=bn.f4
   have tH:=lY.lt
   have oW : d9 wk ⟨dI,dP.I⟩ ⟨y,x.I⟩ := ⟨lY,bR.I,fun b hb hm=>by have:=lZ b hb;have:=jZ b (bP.aX.2 (.inr hm));omega⟩
   have gW : ∀b∈bP.foot ⟨dI,dP.I⟩,w.heap.size<b∧b≠w1.heap.size:=fun b hb=>by rcases bP.aX.1 hb with h1|h1; (have:=lZ b h1;omega); (have:=mX b (bP.aX.2 (.inr h1));have:=jZ b (bP.aX.2 (.inr h1));omega)
   go_wp2_with fail
   refine bodyPost_ret (v:= .tuple #[.agg #[.slice dI.Y.a dI.Y.l dI.Y.c, .slice dI.Z.a dI.Z.l dI.Z.c, .slice dP.I.G.a dP.I.G.l dP.I.G.c, .slice dP.I.O.a dP.I.O.l dP.I.O.c], .int .i64 h6]) (by simp [results,Tryz.results69,go_sem,aj,ak,aJ,aK]) rfl ⟨⟨dI,dP.I⟩, ⟨y,x.I⟩,h6,rfl,oW.aM (F:= [w.heap.size,w1.heap.size]) bW (fun b hb hm=>by simp only [List.mem_cons,List.not_mem_nil,or_false] at hm;have:=gW b hb;omega),by unfold dx at hsz⊢;simp only;omega,fun b hb=>by have:=gW b hb;omega,hc.je (B:=w.heap.size) hgl dQ hC.size,hC.then_ dQ⟩
  have Mc : (k == 0) =false:=by simpa using e0
  by_cases e1 : k=1
  case pos=>
   subst e1
   go_wp2_with fail
   refine(Ga _ g code hc).mono ?_
   rintro e wk ⟨dI,y,rfl,lY,hy,lZ,hcn,hx⟩
   replace hc:=hcn
   replace ah:=ah.aM hx (by simp only [List.mem_cons,List.not_mem_nil,or_false];omega)
   replace bn:=bn.aM hx (by simp only [List.mem_cons,List.not_mem_nil,or_false];omega)
   replace bR:=bR.aM hx (fun b hb hm=>by simp only [List.mem_cons,List.not_mem_nil,or_false] at hm;have:=mX b hb;have:=jZ b hb;omega)
   replace hC:=hC.trans hx
   have sz:=hx.size
   replace sC:=hC.size
   clear hx
   clear aj ak aJ aK ay aI
   obtain⟨aj,ak,aJ,aK,ay,aI⟩ :=ah.f4
   clear bC bD bE bF bS dB
   obtain⟨bC,bD,bE,bF,bS,dB⟩ :=bn.f4
   have tH:=lY.lt
   have oW : d9 wk ⟨dP.E,dI⟩ ⟨x.E,y⟩ := ⟨bR.E,lY,fun b hb hm=>by have:=lZ b hm;have:=jZ b (bP.aX.2 (.inl hb));omega⟩
   have gW : ∀b∈bP.foot ⟨dP.E,dI⟩,w.heap.size<b∧b≠w1.heap.size:=fun b hb=>by rcases bP.aX.1 hb with h1|h1; (have:=mX b (bP.aX.2 (.inl h1));have:=jZ b (bP.aX.2 (.inl h1));omega); (have:=lZ b h1;omega)
   go_wp2_with fail
   refine bodyPost_ret (v:= .tuple #[.agg #[.slice dP.E.Y.a dP.E.Y.l dP.E.Y.c, .slice dP.E.Z.a dP.E.Z.l dP.E.Z.c, .slice dI.G.a dI.G.l dI.G.c, .slice dI.O.a dI.O.l dI.O.c], .int .i64 h6]) (by simp [results,Tryz.results69,go_sem,aj,ak,aJ,aK]) rfl ⟨⟨dP.E,dI⟩, ⟨x.E,y⟩,h6,rfl,oW.aM (F:= [w.heap.size,w1.heap.size]) bW (fun b hb hm=>by simp only [List.mem_cons,List.not_mem_nil,or_false] at hm;have:=gW b hb;omega),by unfold dx at hsz⊢;simp only;omega,fun b hb=>by have:=gW b hb;omega,hc.je (B:=w.heap.size) hgl dQ hC.size,hC.then_ dQ⟩
  have Md : (k == 1) =false:=by simpa using e1
  clear e0 e1
  go_wp2_with fail
  refine bodyPost_ret (v:= .tuple #[.agg #[.slice dP.E.Y.a dP.E.Y.l dP.E.Y.c, .slice dP.E.Z.a dP.E.Z.l dP.E.Z.c, .slice dP.I.G.a dP.I.G.l dP.I.G.c, .slice dP.I.O.a dP.I.O.l dP.I.O.c], .int .i64 h6]) (by simp [results,Tryz.results69,go_sem,aj,ak,aJ,aK]) rfl ⟨dP,x,h6,rfl,bR.aM (F:= [w.heap.size]) bW (fun b hb hm=>by simp only [List.mem_cons,List.not_mem_nil,or_false] at hm;have:=mX b hb;have:=jZ b hb;omega),by omega,fun b hb=>by have:=mX b hb;omega,hc.je (B:=w.heap.size) hgl dQ hC.size,hC.then_ dQ⟩
end Go.Proofs.YtkmggglljkmjoaaGreat
namespace Go.Proofs.YtkmggglljkmjoaaGreat
open Go.RowKit
variable {α : Type} {T : FT α} {w : World} {t e : TypeId} {P : Program}
theorem bA.spare {g n c : Nat}{l : List α}(h : bA T e w (.slice (some ⟨g,0,none⟩) n c) l)(j : Nat)(hj : j<c * T.n) : (w.cell? ⟨g,j,none⟩).isSome=true:=by
 rcases h.2 with ⟨h',_⟩ | ⟨g',cap',cur,h',_,hg,hnc,hcm,hcs,htake⟩
 ·simp at h'
 ·simp only [Value.slice.injEq,Option.some.injEq,Addr.mk.injEq,and_true] at h'
  obtain⟨rfl,_,rfl⟩ :=h'
  rw [cell_of_row w g j cur e (0,0) hg,Array.getElem?_eq_getElem (by omega)]
  rfl
end Go.Proofs.YtkmggglljkmjoaaGreat
namespace Go.Proofs.YtkmggglljkmjoaaGreat.Lim
open Go.RowKit
set_option maxRecDepth 1000000 in
set_option maxHeartbeats 1000000 in
theorem Cb (w : World)(v : Value)(code : List Int)(h : fE nK w w.heap.size v code)(hb : ∀x∈code,0≤x∧x≤255)(hs : code.length≤1073741824) :
  Calls Tryz.prog 51 #[v] w fun e w'=>e= .returned (.pointer (some ⟨w.heap.size,0,none⟩)) ∧f_ w' w.heap.size code∧Below w.heap.size w w':=by
 obtain⟨A,cap,hv,_⟩ :=id h
 subst hv
 go_enter Tryz.func51,Tryz.ntmps51
 go_wp2
 go_loop [3,4] (fun h i=> ∃ (k : Nat) (x : Int),k≤code.length∧i= .int .i64 k∧h= .int .i64 x) (fun _ i=>code.length - (intOf i).toNat)
 case atStart=>exact⟨0,_,Nat.zero_le _,rfl,rfl⟩
 case round=>
  obtain⟨k,x,hk,rfl,rfl⟩ :=hrel
  have fin : ∀y : Int,f_ (w.alloc (.cells #[.slice A code.length cap, .int .i64 0, .int .i64 y] 118)) w.heap.size code:=fun y=>
   ⟨by simp,hb, ⟨A,cap,by simp [go_sem],h.keep (fun k hk=>Below.heap_alloc w _ k hk) (Nat.le_refl _)⟩, ⟨0,by simp [go_sem],Nat.zero_le _⟩, ⟨y,by simp [go_sem]⟩,by simp [go_sem],by simp [go_sem]⟩
  have HFin:=Hid.aT fin
  clear fin
  by_cases hlt : k<code.length
  ·by_cases h4 : k<4000
   ·obtain⟨g,off,cap',he,hg,_,_,hc⟩ :=h.at_ (List.getElem?_eq_getElem hlt)
    injection he with he1 he2 jW
    clear he2
    subst he1 jW
    have p0 : w.cell? ⟨g,off+k,none⟩ =some (.int .u8 code[k]) :=by simpa [nK] using hc 0 _ rfl
    have bb:=hb code[k] (List.getElem_mem hlt)
    obtain⟨b0,b1⟩ :=bb
    clear hc
    go_wp2
    go_round
    case rel=>exact⟨k+1,_,by omega,by go_num,rfl⟩
    case measure=>simp [intOf];omega
   ·go_wp2
    go_ret
    exact⟨rfl,HFin.out _, (Below.refl _ _).alloc (Nat.le_refl _) _⟩
  ·go_wp2
   go_ret
   exact⟨rfl,HFin.out _, (Below.refl _ _).alloc (Nat.le_refl _) _⟩
theorem f_.other {w : World}{g gz i : Nat}{code : List Int}(h : f_ w g code)(hg : g<gz)(v : Value) : f_ (w.setCell ⟨gz,i,none⟩ v) g code:=by
 obtain⟨lt,rG, ⟨A,cap,p0,r⟩, ⟨j,p1,hi⟩, ⟨hh,p2⟩,f1,f2⟩ :=h
 have e : ∀k,k≤g→ (w.setCell ⟨gz,i,none⟩ v).heap[k]? =w.heap[k]? :=fun k hk=>Below.heap_setCell _ _ _ _ (by simp;omega)
 have ec : ∀j, (w.setCell ⟨gz,i,none⟩ v).cell? ⟨g,j,none⟩ =w.cell? ⟨g,j,none⟩ :=fun j=>by simp only [World.cell?,e g (Nat.le_refl _)]
 have ef : ∀j, (w.setCell ⟨gz,i,none⟩ v).frozen? ⟨g,j,none⟩ =w.frozen? ⟨g,j,none⟩ :=fun j=>by simp only [World.frozen?,e g (Nat.le_refl _)]
 exact⟨by simpa using lt,rG, ⟨A,cap, (ec 0).trans p0,r.keep (fun k hk=>e k (by omega)) (Nat.le_refl _)⟩, ⟨j, (ec 1).trans p1,hi⟩, ⟨hh, (ec 2).trans p2⟩, (ef 1).trans f1, (ef 2).trans f2⟩
end Go.Proofs.YtkmggglljkmjoaaGreat.Lim
namespace Go.Proofs.YtkmggglljkmjoaaGreat
open Go.RowKit
open Go.Proofs.YtkmggglljkmjoaaGreat.Lim
set_option maxHeartbeats 1000000 in
theorem yI (w : World)(g : Nat)(code : List Int)(hc : f_ w g code) : Calls Tryz.prog 94 #[.pointer (some ⟨g,0,none⟩)] w (ES (-1) 3 w g code) :=by
 go_enter Tryz.func94,Tryz.ntmps94
 go_wp2_with fail
 refine(uM _ g code 14 (by unfold gZ;omega) hc).mono ?_
 rintro e w1 ⟨b,rfl,hc1,hg1⟩
 have hlt1:=hc1.lt
 cases b with
 |true=>
  go_wp2_with fail
  have ho:=bA.lit FI [-1,3] #[.int .i64 (-1), .int .i64 3] rfl (by decide) w1 3
  refine(z_ _ g code _ [-1,3] ho (by simp [cu,Value.ownBlock];omega) (by decide) (by decide) (hc1.alloc _)).mono ?_
  rintro e w2 ⟨x,rfl,hx,hc2,hg2⟩
  go_wp2_with fail
  go_ret
  refine⟨x,rfl, ?_, ?_,hc2,hg1.trans hg2.xk⟩
  all_goals (simp at hx;omega)
 |false=>
  go_wp2_with fail
  refine(cK _ g code 3 (by unfold gZ;omega) hc1).mono ?_
  rintro e w2 ⟨x,rfl,x0,x1,hc2,hg2⟩
  go_wp2_with fail
  go_ret
  exact⟨x,rfl,by omega,by omega,hc2,hg1.trans hg2⟩
end Go.Proofs.YtkmggglljkmjoaaGreat
namespace Go.Proofs.YtkmggglljkmjoaaGreat
open Go.RowKit
open Go.Proofs.YtkmggglljkmjoaaGreat.Lim
set_option maxRecDepth 100000 in
set_option maxHeartbeats 4000000 in
theorem DX (w : World)(v : Value)(code : List Int)(h : fE nK w w.heap.size v code)(hb : ∀x∈code,0≤x∧x≤255)(hs : code.length≤1073741824) :
  Calls Tryz.prog 44 #[v] w fun e w'=> ∃ (H : bP) (x : Mem) (a av : Int),e= .returned (.tuple #[.agg #[.slice H.E.Y.a H.E.Y.l H.E.Y.c, .slice H.E.Z.a H.E.Z.l H.E.Z.c, .slice H.I.G.a H.I.G.l H.I.G.c, .slice H.I.O.a H.I.O.l H.I.O.c], .int .i64 a, .int .i64 av]) ∧d9 w' H x∧dx x≤1000∧ (∀g∈H.foot,w.heap.size≤g) ∧ (-1≤a∧a≤3) ∧Below w.heap.size w w':=by
 go_enter Tryz.func44,Tryz.ntmps44
 go_wp2_with fail
 refine(Cb _ _ code (h.aH (Nat.le_refl _) (by simp) _) hb hs).mono ?_
 rintro e w1 ⟨rfl,hc,hb1⟩
 have hsz1:=hb1.size
 simp only [World.size_alloc] at hc hsz1⊢
 have ah : aB w1 w.heap.size [.slice none 0 0, .slice none 0 0, .slice none 0 0, .slice none 0 0]:= (aB.new w #[.slice none 0 0, .slice none 0 0, .slice none 0 0, .slice none 0 0] 31).below hb1
 have hbw : Below w.heap.size w w1:= ((Below.refl _ w).alloc (Nat.le_refl _) _).trans (hb1.mono (by simp))
 have hlt1:=hc.lt
 go_wp2_with fail
 refine(Ca _ _ code hc).mono ?_
 rintro e w2 ⟨H,x,av,rfl,bR,hz,mX,hcn,hx⟩
 have nr : w.heap.size∉ [w.heap.size+1]:=by simp
 replace ah:=ah.aM hx nr
 have hB : Below w.heap.size w w2:=hbw.trans (hx.below hbw.size (fun g hm=>by simp at hm;omega))
 replace hc:=hcn
 have jZ:=bR.lt
 have fl : ∀b∈H.foot,w.heap.size+1<b∧b<w2.heap.size:=fun b hb=>by have:=mX b hb;have:=jZ b hb;omega
 have CK:=hx.size
 clear hb1 hcn mX jZ hbw
 obtain⟨aj,ak,aJ,aK,ay,aI⟩ :=ah.f4
 go_wp2_with fail
 have bn:=aB.new w2 #[.slice H.E.Y.a H.E.Y.l H.E.Y.c, .slice H.E.Z.a H.E.Z.l H.E.Z.c, .slice H.I.G.a H.I.G.l H.I.G.c, .slice H.I.O.a H.I.O.l H.I.O.c] 31
 replace hc:=hc.alloc (.cells #[.slice H.E.Y.a H.E.Y.l H.E.Y.c, .slice H.E.Z.a H.E.Z.l H.E.Z.c, .slice H.I.G.a H.I.G.l H.I.G.c, .slice H.I.O.a H.I.O.l H.I.O.c] 31)
 replace bR:=bR.aH (.cells #[.slice H.E.Y.a H.E.Y.l H.E.Y.c, .slice H.E.Z.a H.E.Z.l H.E.Z.c, .slice H.I.G.a H.I.G.l H.I.G.c, .slice H.I.O.a H.I.O.l H.I.O.c] 31)
 replace ah:=ah.alloc (.cells #[.slice H.E.Y.a H.E.Y.l H.E.Y.c, .slice H.E.Z.a H.E.Z.l H.E.Z.c, .slice H.I.G.a H.I.G.l H.I.G.c, .slice H.I.O.a H.I.O.l H.I.O.c] 31)
 replace hB:=hB.alloc hB.size (.cells #[.slice H.E.Y.a H.E.Y.l H.E.Y.c, .slice H.E.Z.a H.E.Z.l H.E.Z.c, .slice H.I.G.a H.I.G.l H.I.G.c, .slice H.I.O.a H.I.O.l H.I.O.c] 31)
 obtain⟨am,EF⟩ : ∃a,a=w2.heap.size:= ⟨_,rfl⟩
 generalize hG : w2.alloc (.cells #[.slice H.E.Y.a H.E.Y.l H.E.Y.c, .slice H.E.Z.a H.E.Z.l H.E.Z.c, .slice H.I.G.a H.I.G.l H.I.G.c, .slice H.I.O.a H.I.O.l H.I.O.c] 31) =w3 at hc bR ah bn hB⊢
 rw [←EF] at bn fl CK⊢
 clear hG EF
 have nm : am∉ [w.heap.size+1]:=by simp;omega
 have Ns : ¬ w.heap.size=am:=by omega
 have MH : ¬ am=w.heap.size:=by omega
 have nf : ∀b∈H.foot,b∉ [w.heap.size+1]:=fun b hb hm=>by have:=fl b hb;simp at hm;omega
 have bC:=bn.cell 0 _ rfl
 have bD:=bn.cell 1 _ rfl
 have bE:=bn.cell 2 _ rfl
 have bF:=bn.cell 3 _ rfl
 have aj:=ah.cell 0 _ rfl
 have ak:=ah.cell 1 _ rfl
 have aJ:=ah.cell 2 _ rfl
 have aK:=ah.cell 3 _ rfl
 have bS:=bn.dn
 have dB:=bn.lt
 have ay:=ah.dn
 have aI:=ah.lt
 go_region_held3 (fun w'=>w'.cell? ⟨am,0,none⟩ =some (.slice H.E.Y.a H.E.Y.l H.E.Y.c) ∧w'.cell? ⟨am,1,none⟩ =some (.slice H.E.Z.a H.E.Z.l H.E.Z.c) ∧w'.cell? ⟨am,2,none⟩ =some (.slice H.I.G.a H.I.G.l H.I.G.c) ∧w'.cell? ⟨am,3,none⟩ =some (.slice H.I.O.a H.I.O.l H.I.O.c)) (first| (with_reducible exact⟨bC,bD,bE,bF⟩) | (refine⟨?_, ?_, ?_, ?_⟩ <;> (repeat (first|with_reducible assumption|with_reducible refine fH ?_ (by omega) |with_reducible refine eF ?_ (by omega) |with_reducible refine fu ?_));done) | (go_keep;done)) (first| (go_at_call 94; (first| ((with_reducible refine(yI _ _ code hc).mono ?_);rintro e wq ⟨a,rfl,a0,a1,hcn,hx⟩;replace hB:=Below.trans hB (hx.below hB.size (fun g hm=>by simp at hm;omega));replace bn:=bn.aM hx nm;replace ah:=ah.aM hx nr;replace bR:=bR.aM hx nf;replace hc:=hcn;clear hx;replace bC:=bn.cell 0 _ rfl;replace bD:=bn.cell 1 _ rfl;replace bE:=bn.cell 2 _ rfl;replace bF:=bn.cell 3 _ rfl;replace aj:=ah.cell 0 _ rfl;replace ak:=ah.cell 1 _ rfl;replace aJ:=ah.cell 2 _ rfl;replace aK:=ah.cell 3 _ rfl;replace bS:=bn.dn;replace dB:=bn.lt;replace ay:=ah.dn;replace aI:=ah.lt) | ((with_reducible refine(yI _ _ code (hc.bf)).mono ?_);rintro e wq ⟨a,rfl,a0,a1,hcn,hx⟩;replace hB:=Below.trans hB.drew (hx.below hB.size (fun g hm=>by simp at hm;omega));replace bn:=bn.drew.aM hx nm;replace ah:=ah.drew.aM hx nr;replace bR:= (bR.bf).aM hx nf;replace hc:=hcn;clear hx;replace bC:=bn.cell 0 _ rfl;replace bD:=bn.cell 1 _ rfl;replace bE:=bn.cell 2 _ rfl;replace bF:=bn.cell 3 _ rfl;replace aj:=ah.cell 0 _ rfl;replace ak:=ah.cell 1 _ rfl;replace aJ:=ah.cell 2 _ rfl;replace aK:=ah.cell 3 _ rfl;replace bS:=bn.dn;replace dB:=bn.lt;replace ay:=ah.dn;replace aI:=ah.lt))))
 all_goals
  go_wp2_with fail
  refine bodyPost_ret (v:= .tuple #[.agg #[.slice H.E.Y.a H.E.Y.l H.E.Y.c, .slice H.E.Z.a H.E.Z.l H.E.Z.c, .slice H.I.G.a H.I.G.l H.I.G.c, .slice H.I.O.a H.I.O.l H.I.O.c], .int .i64 a, .int .i64 av]) (by simp [results,Tryz.results44,go_sem,aj,ak,aJ,aK]) rfl ⟨H,x,a,av,rfl,bR.aM (F:= [w.heap.size]) bW (fun b hb hm=>by simp only [List.mem_cons,List.not_mem_nil,or_false] at hm;have:=fl b hb;omega),hz,fun b hb=>by have:=fl b hb;omega, ⟨a0,a1⟩,Below.trans hB dQ⟩
end Go.Proofs.YtkmggglljkmjoaaGreat
namespace Go.Proofs.YtkmggglljkmjoaaGreat
open Go.RowKit
set_option maxHeartbeats 400000 in
theorem Gf (w : World)(A : Option Addr)(n c : Nat)(h : n≤1048576) : Calls Tryz.prog 8 #[.slice A n c] w fun e w'=>e= .returned (.bool false) ∧w=w':=by
 go_enter Tryz.func8,Tryz.ntmps8
 go_wp2
 go_ret
 exact⟨by first|rfl| (simp;omega),rfl⟩
set_option maxHeartbeats 400000 in
theorem DY (w : World)(A : Option Addr)(n c : Nat)(h : ¬ n≤1048576)(h2 : n≤9223372036854775807) : Calls Tryz.prog 8 #[.slice A n c] w fun e w'=>e= .returned (.bool true) ∧w=w':=by
 have h' : 1048576<n:=by omega
 go_enter Tryz.func8,Tryz.ntmps8
 go_wp2
 go_ret
 exact⟨by first|rfl| (simp;omega),rfl⟩
end Go.Proofs.YtkmggglljkmjoaaGreat
namespace Go.Proofs.YtkmggglljkmjoaaGreat
open Go.RowKit
theorem Ak {α : Type}{x y : List α}{i : Nat}(hx : i<x.length)(hy : i<y.length)(h : x.take i=y.take i)(he : x[i]=y[i]) : x.take (i+1) =y.take (i+1) :=by
 rw [List.take_succ_eq_append_getElem hx,List.take_succ_eq_append_getElem hy,h,he]
theorem Bj {α : Type}{x y : List α}(hl : x.length=y.length)(h : x.take x.length=y.take x.length) : x=y:=by
 rw [List.take_length,hl,List.take_length] at h
 exact h
theorem K6 {α : Type}{x y : List α}{i : Nat}(hx : i<x.length)(hy : i<y.length)(he : x[i]≠y[i]) : x≠y:=by
 rintro rfl
 exact he rfl
set_option maxRecDepth 100000 in
set_option maxHeartbeats 1000000 in
theorem uf (w : World)(v1 v2 : Value)(x y : List Int)(h1 : fE FI w w.heap.size v1 x)(h2 : fE FI w w.heap.size v2 y) :
  Calls Tryz.prog 157 #[v1,v2] w fun e w'=>e= .returned (.bool (decide (x=y))) ∧Below w.heap.size w w':=by
 obtain⟨A1,c1,hv1,q1,q2,_⟩ :=id h1
 obtain⟨A2,c2,hv2,_,_,_⟩ :=id h2
 have m_ : x.length≤9223372036854775807:=by unfold maxLen at q2;omega
 subst hv1 hv2
 clear q1 q2
 by_cases hl : x.length=y.length
 case neg=>
  have HN:=Hid.aT (show decide (x=y) =false from decide_eq_false (fun e=>hl (by rw [e])))
  have hl' : ((x.length : Int) != (y.length : Int)) =true:=by simp;omega
  go_enter Tryz.func157,Tryz.ntmps157
  go_wp2
  go_ret
  exact⟨bK HN.out.symm,Below.refl _ _⟩
 have HL:=Hid.aT hl
 rw [←hl] at h2⊢
 clear hl
 go_enter Tryz.func157,Tryz.ntmps157
 go_wp2
 go_loopw [5] (fun i wr=> ∃k : Nat,k≤x.length∧i= .int .i64 k∧Hid (x.take k=y.take k) ∧Below w.heap.size w wr) (fun i _=>x.length - (intOf i).toNat)
 case atStart=>exact⟨0,Nat.zero_le _,rfl,rfl,Below.refl _ _⟩
 case round=>
  obtain⟨i,hi,rfl,HT,hb⟩ :=hrel
  by_cases hlt : i<x.length
  ·have hlt2 : i<y.length:=by rw [←HL.out];exact hlt
   obtain⟨g1,o1,Du,he1,hg1,_,_,hc1⟩ := (h1.below hb).at_ (List.getElem?_eq_getElem hlt)
   obtain⟨g2,o2,cap2,he2,hg2,_,_,hc2⟩ := (h2.below hb).at_ (List.getElem?_eq_getElem hlt2)
   injection he1 with e11 e12 e13
   injection he2 with e21 e22 e23
   clear e12 e22
   subst e11 e13 e21 e23
   have p0 : wr.cell? ⟨g1,o1+i,none⟩ =some (.int .i64 x[i]) :=by simpa [FI] using hc1 0 _ rfl
   have r0 : wr.cell? ⟨g2,o2+i,none⟩ =some (.int .i64 y[i]) :=by simpa [FI] using hc2 0 _ rfl
   clear hc1 hc2 h1 h2
   have HX:=Hid.aT (show ∀ (hh : x[i]=y[i]),x.take (i+1) =y.take (i+1) from fun hh=>Ak hlt hlt2 HT.out hh)
   have HY:=Hid.aT (show ∀ (hh : x[i]≠y[i]),decide (x=y) =false from fun hh=>decide_eq_false (K6 hlt hlt2 hh))
   generalize x[i]=a at *
   generalize y[i]=b at *
   by_cases hh : a=b
   ·have HE:=Hid.aT (HX.out hh)
    have hq : (a != b) =false:=by simp [hh]
    clear hh
    go_wp2
    go_region
    all_goals go_wp2
    all_goals go_roundw
    case rel=>exact⟨i+1,by omega,by go_num,HE,by first|exact hb|exact hb.drew|exact hb.drew.drew|exact hb.drew.drew.drew⟩
    case measure=>simp [intOf];omega
   ·have HN:=Hid.aT (HY.out hh)
    have hq : (a != b) =true:=by simp [hh]
    clear hh
    go_wp2
    go_region
    all_goals go_wp2
    all_goals go_ret
    all_goals exact⟨bK HN.out.symm,by first|exact hb|exact hb.drew|exact hb.drew.drew|exact hb.drew.drew.drew⟩
  ·go_wp2
   go_ret
   obtain rfl : i=x.length:=by omega
   exact⟨bK (decide_eq_true (Bj HL.out HT.out)).symm,hb⟩
end Go.Proofs.YtkmggglljkmjoaaGreat
