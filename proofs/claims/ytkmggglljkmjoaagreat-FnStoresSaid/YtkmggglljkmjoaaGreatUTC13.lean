/-
  Several texts in one: lemmas and contracts that the claim rests on.
-/
import Derived.Test.YtkmggglljkmjoaaGreatUTC1
import Derived.Deep.QuietTactic
import Derived.BigQuiet
import Derived.Deep.LoopGhost
import Derived.Deep.RegionHeld3
import Derived.Test.YtkmggglljkmjoaaGreatUTC2
import Derived.WalkSpells
import Derived.Laws.Cover3
import Derived.Test.YtkmggglljkmjoaaGreatUTC12
import Derived.Deep.RegionLaw
import Derived.Deep.CutRange
import Derived.Test.YtkmggglljkmjoaaGreatUTC9
import Derived.Test.YtkmggglljkmjoaaGreatUTC11
import Derived.Test.YtkmggglljkmjoaaGreatUTC6
import Derived.Test.YtkmggglljkmjoaaGreatUTC4
import Derived.Laws.CopyOwn
namespace Go.Proofs.YtkmggglljkmjoaaGreat
open Go.RowKit
theorem kG {fF : List SV}{i : Nat}{s s' : SV}(hi : fF[i]? =some s)(hf : cu s'.val=cu s.val) : ((fF.set i s').flatMap fun s=>cu s.val) =fF.flatMap fun s=>cu s.val:=by
 induction fF generalizing i with
 |nil=>simp at hi
 |cons x xs ih=>
  cases i with
  |zero=>
   simp only [List.getElem?_cons_zero,Option.some.injEq] at hi
   subst hi
   simp [hf]
  |succ i=>
   simp only [List.getElem?_cons_succ] at hi
   simp only [List.set_cons_succ,List.flatMap_cons,ih hi]
theorem dR.nM {α : Type}{T : FT α}{e E : TypeId}{w w' : World}{g n c : Nat}{fF : List SV}{ll : List (List α)}(h : dR T e E w (.slice (some ⟨g,0,none⟩) n c) fF ll){i : Nat}{s s' : SV}{l' : List α}(hi : fF[i]? =some s)
  (hl : bA T e w' s'.val l') (hg : w.grownBy w' s.val.ownBlock) (hat : s'.val.ownBlock=s.val.ownBlock∨s'.val.ownBlock=some w.heap.size) :
  dR T e E (w'.setCell ⟨g,i,none⟩ s'.val) (.slice (some ⟨g,0,none⟩) n c) (fF.set i s') (ll.set i l') :=by
 have hs : s∈fF:=List.mem_of_getElem? hi
 have hc:=aY.jP hg
 have hn:=h.nodup
 have hlt:=h.lt
 have hgz : g<w.heap.size:=hlt g (cZ.2 (.inl rfl))
 unfold dH at hn
 rw [List.nodup_append] at hn
 obtain⟨hn1,hn2,uY⟩ :=hn
 have hgs : ∀s'∈fF,s'.val.ownBlock≠some g:=fun s' hs' he=>uY g (bV.2 rfl) g (List.mem_flatMap.2 ⟨s',hs',bV.2 he⟩) rfl
 have hg' : s'.val.ownBlock≠some g:=by
  rcases hat with h1|h1
  ·rw [h1];exact hgs s hs
  ·rw [h1];intro he;injection he with he;omega
 have hkeep : ∀b,b≠g→ (w'.setCell ⟨g,i,none⟩ s'.val).heap[b]? =w'.heap[b]? :=fun b hb=>Below.heap_setCell _ _ _ _ hb
 have hik:= (List.getElem?_eq_some_iff.1 hi).1
 refine⟨by rw [List.length_set,List.length_set];exact h.len, ?_,fun k s1 l1 hk hl1=> ?_, ?_⟩
 ·have ho:=h.outer.aM hc (fun b hb hm=>uY b hb b (List.mem_flatMap.2 ⟨s,hs,hm⟩) rfl)
  have:=ho.gD (j:=0) (y:=s') (u:= .slice s'.a s'.l s'.c) hi (by decide) rfl
  rw [show i * FS.n+0=i by simp [FS]] at this
  exact this
 ·by_cases hki : i=k
  ·subst hki
   rw [List.getElem?_set_self hik] at hk
   rw [List.getElem?_set_self (by rw [←h.len];exact hik)] at hl1
   cases hk
   cases hl1
   exact hl.keep fun b hb=>hkeep b fun e=>hg' (by rw [hb,e])
  ·rw [List.getElem?_set_ne hki] at hk hl1
   have ho:=h.inner k s1 l1 hk hl1
   refine(ho.aM hc (fun b hb hm=>Ci hn2 hi hk hki (bV.1 hm) (bV.1 hb))).keep fun b hb=>hkeep b fun e=>hgs s1 (List.mem_of_getElem? hk) (by rw [hb,e])
 ·have hfr : s'.val.ownBlock=some w.heap.size→ ∀b∈cu s'.val,b∉dH (.slice (some ⟨g,0,none⟩) n c) fF:=by
   intro h1 b hb hm
   rw [bV,h1] at hb
   injection hb with hb
   have:=hlt b hm
   omega
  unfold dH
  rw [List.nodup_append]
  rcases hat with h1|h1
  ·have Oz : cu s'.val=cu s.val:=by unfold cu;rw [h1]
   rw [kG hi Oz]
   exact⟨hn1,hn2,uY⟩
  ·refine⟨hn1,ze hn2 (fun b hb hm=>hfr h1 b hb (List.mem_append.2 (.inr hm))),fun a ha b hb e=> ?_⟩
   subst e
   obtain⟨y,hy,hm⟩ :=List.mem_flatMap.1 hb
   rcases List.mem_or_eq_of_mem_set hy with hy|rfl
   ·exact uY a ha a (List.mem_flatMap.2 ⟨y,hy,hm⟩) rfl
   ·exact hfr h1 a hm (List.mem_append.2 (.inl ha))
theorem FC {fF : List SV}{v : Value}{i : Nat}{s s' : SV}{w : World}{B : Nat}(hi : fF[i]? =some s)(hat : s'.val.ownBlock=s.val.ownBlock∨s'.val.ownBlock=some w.heap.size)(hB : B≤w.heap.size)(h : ∀b∈dH v fF,B≤b) : ∀b∈dH v (fF.set i s'),B≤b:=by
 intro b hb
 rcases iU hb with hb|hb
 ·exact h b hb
 ·rw [bV] at hb
  rcases hat with h1|h1
  ·exact h b (cZ.2 (.inr ⟨s,List.mem_of_getElem? hi,by rw [←h1];exact hb⟩))
  ·rw [h1] at hb
   injection hb with hb
   omega
theorem pU {α : Type}(ll : List (List α))(i : Nat)(l : List α) : jh (ll.set i l) ≤jh ll+l.length:=by
 have : ∀ (ll : List (List α)) i, ((ll.set i l).map List.length).sum≤ (ll.map List.length).sum+l.length:=by
  intro ll
  induction ll with
  |nil=>intro i;simp
  |cons x xs ih=>
   intro i
   cases i with
   |zero=>simp;omega
   |succ i=>have:=ih i;simp at this⊢;omega
 have:=this ll i
 unfold jh
 simp only [List.length_set]
 omega
theorem dR.jV {α : Type}{T : FT α}{e E : TypeId}{w : World}{v : Value}{fF : List SV}{ll : List (List α)}(h : dR T e E w v fF ll)(hl : 0<ll.length) : ∃g cap,v= .slice (some ⟨g,0,none⟩) ll.length cap∧g<w.heap.size:=by
 have:=h.outer.kN (by rw [h.len];exact hl)
 rwa [h.len] at this
theorem dR.head_ne {α : Type}{T : FT α}{e E : TypeId}{w : World}{g n c : Nat}{fF : List SV}{ll : List (List α)}(h : dR T e E w (.slice (some ⟨g,0,none⟩) n c) fF ll){i : Nat}{s : SV}(hi : fF[i]? =some s) : g∉cu s.val:=by
 have hn:=h.nodup
 unfold dH at hn
 rw [List.nodup_append] at hn
 exact fun hm=>hn.2.2 g (bV.2 rfl) g (List.mem_flatMap.2 ⟨s,List.mem_of_getElem? hi,hm⟩) rfl
theorem aB.ad {w : World}{g : Nat}{vs : List Value}(b : aB w g vs) : ∃a,a=g∧aB w a vs:= ⟨g,rfl,b⟩
def nI (x : Lists)(k c : Nat)(s : Int) : Lists:=if (x.O.getD k []).length<2 then {x with O:=x.O.set k (x.O.getD k []++ [s])} else {x with G:=x.G.set c (x.G.getD c []++ [s])}
def l6 (h : Heap)(s g : Int) : Heap:= {h with Y:=putAt h.Y (ig s (aO h s)).toNat (fQ 4 g)}
def qm (m : Mem)(w : Nat)(s : Int) : Mem:= {E:=l6 m.E s (dz m.E s+1),I:=if dz m.E s+1≤6 then nI m.I (w * 3+ (aO m.E s).toNat) (aO m.E s).toNat s else m.I}
def iw (m : Mem)(w h : Int) : Mem×Int:=if dG m=false∨bO 0 2 w=false then (m,1) else if gM m h=false then (m,4) else (qm m w.toNat (h%32),0)
theorem wh {m : Mem}{w h : Int}(c : dG m=false∨bO 0 2 w=false) : iw m w h= (m,1) :=if_pos c
theorem wm {m : Mem}{w h : Int}(c1 : dG m=true)(c2 : bO 0 2 w=true)(c3 : gM m h=false) : iw m w h= (m,4) :=by
 unfold iw
 rw [if_neg (by rw [c1,c2];decide),if_pos c3]
theorem tX {m : Mem}{w h : Int}(c1 : dG m=true)(c2 : bO 0 2 w=true)(c3 : gM m h=true) : iw m w h= (qm m w.toNat (h%32),0) :=by
 unfold iw
 rw [if_neg (by rw [c1,c2];decide),if_neg (by rw [c3];decide)]
theorem dU.fO {H : dU}{g : Nat}(h : g∈cu H.Y.val) : g∈H.foot:=dU.aX.2 (.inl h)
theorem fA.setBytes {w w' : World}{H : dU}{x : Heap}{b : List Int}(h : fA w H x)(hb : bA FI 3 w' H.Y.val b)(hc : aY (cu H.Y.val) w w') : fA w' H {x with Y:=b}:=
 ⟨hb,h.Z.aM hc (fun g hg hm=>h.iV g hm hg),h.iV⟩
set_option maxHeartbeats 400000 in
theorem yw (a c : Nat)(ha : a<3)(hc : c<3)(w : World) : Calls Tryz.prog 159 #[.int .i64 a, .int .i64 c] w fun e w'=>e= .returned (.int .i64 ((a * 3+c : Nat) : Int)) ∧w=w':=by
 have k1 : bO 0 2 (a : Int) =true:=bJ.2 ⟨by omega,by omega⟩
 have k2 : bO 0 2 (c : Int) =true:=bJ.2 ⟨by omega,by omega⟩
 go_enter Tryz.func159,Tryz.ntmps159
 go_wp2_with (first| (go_at_call 96;refine(lT _ _).mono ?_;rw [k1];rintro e w1 ⟨rfl,rfl⟩) | (go_at_call 161;refine(rR _ _).mono ?_;rw [k2];rintro e w1 ⟨rfl,rfl⟩))
 go_ret
 exact⟨dN (by omega),rfl⟩
set_option maxRecDepth 100000 in
set_option maxHeartbeats 4000000 in
theorem H8 (w : World)(H : dU)(x : Heap)(s g : Int)(h : gU w w.heap.size H x)(hs : iE x≤536870912)(hsh : gI x=true)(k1 : ¬ aO x s<0)(g1 : 1≤g)(g7 : g≤7) :
  Calls Tryz.prog 166 #[.agg #[.slice H.Y.a H.Y.l H.Y.c, .slice H.Z.a H.Z.l H.Z.c], .int .i64 s, .int .i64 g] w fun e w'=> ∃H' : dU,e= .returned (.tuple #[.agg #[.slice H'.Y.a H'.Y.l H'.Y.c, .slice H'.Z.a H'.Z.l H'.Z.c], .bool true]) ∧fA w' H' (l6 x s g) ∧ (∀g∈H'.foot,w.heap.size≤g) ∧Below w.heap.size w w':=by
 have OA:=Hid.aT (show jQ x s=aO x s from if_pos hsh)
 have hgd:=vQ (iA hsh) k1
 obtain⟨P,hP⟩ : ∃P : Nat,ig s (aO x s) = (P : Int) := ⟨(ig s (aO x s)).toNat,by omega⟩
 have HV : Hid (l6 x s g= {x with Y:=putAt x.Y P (fQ 4 g)}) :=by
  show _=_
  unfold l6
  rw [hP,Int.toNat_natCast]
 have hq:=fun (W : World) (hW : Below w.heap.size w W) =>vR W H x s (dW h hW)
 rw [OA.out] at hq
 have hga:=fun W=>o9 s (aO x s) W
 rw [hP] at hga hgd
 have LJ : g<256 ^ 4:=by
  have : (256 : Int) ^ 4=4294967296:=by decide
  omega
 have hfx : ∀W : World,Calls Tryz.prog 80 #[.int .i64 g, .int .i64 4] W fun e w'=>e= .returned (.string (strOfNums (fQ 4 g))) ∧Below W.heap.size W w':=fun W=>wJ g 4 W (by decide) (by decide) (by omega) LJ
 clear LJ
 have hiw : bO 1 7 g=true:=bJ.2 ⟨g1,g7⟩
 have Je:=Hid.aT (yu 4 g)
 have G5 : Hid ((strOfNums (fQ 4 g)).size≤1000) :=by rw [sG];exact(by decide : 4≤1000)
 have zQ : Hid (P+ (strOfNums (fQ 4 g)).size≤x.Y.length) :=by
  rw [sG]
  show _≤_
  omega
 have k1' : 0≤aO x s:=by omega
 have hcp:=fun (W : World) (hW : Below w.heap.size w W) =>pJ W H x (dW h hW) (by omega)
 clear hgd hsh hP k1 hs
 generalize strOfNums (fQ 4 g) =t at *
 generalize aO x s=c at *
 obtain⟨w0,hW0⟩ : ∃x,x= ((w.alloc (.cells #[.slice H.Y.a H.Y.l H.Y.c, .slice H.Z.a H.Z.l H.Z.c] 26)).alloc (.cells #[.slice none 0 0, .slice none 0 0] 26)) := ⟨_,rfl⟩
 have au : aB w0 (w.heap.size) [.slice H.Y.a H.Y.l H.Y.c, .slice H.Z.a H.Z.l H.Z.c]:=by
  rw [hW0]
  exact aB.alloc aB.nw _
 have ah : aB w0 (w.heap.size+1) [.slice none 0 0, .slice none 0 0]:=by
  rw [hW0]
  exact aB.nw
 have hB : Below w.heap.size w w0:=by
  rw [hW0]
  exact dJ
 go_enter Tryz.func166,Tryz.ntmps166
 go_wp2_with fail
 rw [←hW0]
 clear hW0
 have g_:=au.lt
 have iB:=ah.lt
 obtain⟨aD,aF,aL,aQ⟩ :=au.f2
 obtain⟨aj,ak,ay,aI⟩ :=ah.f2
 go_upto_region 1 with (fail)
 go_cut [8,9] from 8 to 14 (fun v8 v9 wx=> ∃ (go : Nat) (aA : dU),v8= .pointer (some ⟨go,0,none⟩) ∧v9= .int .i64 c∧aB wx (w.heap.size) [.slice H.Y.a H.Y.l H.Y.c, .slice H.Z.a H.Z.l H.Z.c]∧aB wx (w.heap.size+1) [.slice none 0 0, .slice none 0 0]∧aB wx go [.slice aA.Y.a aA.Y.l aA.Y.c, .slice aA.Z.a aA.Z.l aA.Z.c]∧fA wx aA x∧ (∀g∈aA.foot,w0.heap.size≤g∧g≠go) ∧w0.heap.size≤go∧Below w.heap.size w wx∧w0.heap.size≤wx.heap.size)
 case first=>
  go_region_with (first| (go_at_call 152; (first| ((with_reducible refine(hcp _ hB).mono ?_);rintro e wq ⟨aA,rfl,aP,l_c,hb⟩;have u_c:=aP.lt;replace au:=au.below hb;replace ah:=ah.below hb;replace hB:=hB.trans (hb.mono hB.size);have sz:=hb.size; (try replace aN:=aN.below hb); (try replace aV:=aN.cell 0 _ rfl); (try replace aW:=aN.cell 1 _ rfl); (try replace bq:=aN.dn); (try replace bN:=aN.lt);clear hb;clear aD aF aL aQ;obtain⟨aD,aF,aL,aQ⟩ :=au.f2;clear aj ak ay aI;obtain⟨aj,ak,ay,aI⟩ :=ah.f2) | ((with_reducible refine(hcp _ hB.drew).mono ?_);rintro e wq ⟨aA,rfl,aP,l_c,hb⟩;replace hb:=gq hb;replace l_c:=ji l_c;have u_c:=aP.lt;replace au:=au.below hb;replace ah:=ah.below hb;replace hB:=hB.trans (hb.mono hB.size);have sz:=hb.size; (try replace aN:=aN.below hb); (try replace aV:=aN.cell 0 _ rfl); (try replace aW:=aN.cell 1 _ rfl); (try replace bq:=aN.dn); (try replace bN:=aN.lt);clear hb;clear aD aF aL aQ;obtain⟨aD,aF,aL,aQ⟩ :=au.f2;clear aj ak ay aI;obtain⟨aj,ak,ay,aI⟩ :=ah.f2) | ((with_reducible refine(hcp _ (hB.alloc hB.size _)).mono ?_);rintro e wq ⟨aA,rfl,aP,l_c,hb⟩;simp only [World.size_alloc] at l_c;have u_c:=aP.lt;replace au:= (au.alloc _).below hb;replace ah:= (ah.alloc _).below hb;replace hB:=eX hB hb hB.size;have sz:=hb.size;simp only [World.size_alloc] at sz;have aN:=aB.below (aB.new _ #[.slice none 0 0, .slice none 0 0] 26) hb;obtain⟨aV,aW,bq,bN⟩ :=aN.f2;clear hb;clear aD aF aL aQ;obtain⟨aD,aF,aL,aQ⟩ :=au.f2;clear aj ak ay aI;obtain⟨aj,ak,ay,aI⟩ :=ah.f2) | ((with_reducible refine(hcp _ (hB.alloc hB.size _).drew).mono ?_);rintro e wq ⟨aA,rfl,aP,l_c,hb⟩;replace hb:=gq hb;replace l_c:=ji l_c;simp only [World.size_alloc] at l_c;have u_c:=aP.lt;replace au:= (au.alloc _).below hb;replace ah:= (ah.alloc _).below hb;replace hB:=eX hB hb hB.size;have sz:=hb.size;simp only [World.size_alloc] at sz;have aN:=aB.below (aB.new _ #[.slice none 0 0, .slice none 0 0] 26) hb;obtain⟨aV,aW,bq,bN⟩ :=aN.f2;clear hb;clear aD aF aL aQ;obtain⟨aD,aF,aL,aQ⟩ :=au.f2;clear aj ak ay aI;obtain⟨aj,ak,ay,aI⟩ :=ah.f2))) | (go_at_call 201; (first| ((with_reducible refine(hq _ hB).mono ?_);rintro e wq ⟨rfl,hb⟩;replace au:=au.below hb;replace ah:=ah.below hb; (try replace aP:=aP.step0 hb);replace hB:=hB.trans (hb.mono hB.size);have sz:=hb.size; (try replace aN:=aN.below hb); (try replace aV:=aN.cell 0 _ rfl); (try replace aW:=aN.cell 1 _ rfl); (try replace bq:=aN.dn); (try replace bN:=aN.lt);clear hb;clear aD aF aL aQ;obtain⟨aD,aF,aL,aQ⟩ :=au.f2;clear aj ak ay aI;obtain⟨aj,ak,ay,aI⟩ :=ah.f2) | ((with_reducible refine(hq _ hB.drew).mono ?_);rintro e wq ⟨rfl,hb⟩;replace hb:=gq hb;replace au:=au.below hb;replace ah:=ah.below hb; (try replace aP:=aP.step0 hb);replace hB:=hB.trans (hb.mono hB.size);have sz:=hb.size; (try replace aN:=aN.below hb); (try replace aV:=aN.cell 0 _ rfl); (try replace aW:=aN.cell 1 _ rfl); (try replace bq:=aN.dn); (try replace bN:=aN.lt);clear hb;clear aD aF aL aQ;obtain⟨aD,aF,aL,aQ⟩ :=au.f2;clear aj ak ay aI;obtain⟨aj,ak,ay,aI⟩ :=ah.f2) | ((with_reducible refine(hq _ (hB.alloc hB.size _)).mono ?_);rintro e wq ⟨rfl,hb⟩;replace au:= (au.alloc _).below hb;replace ah:= (ah.alloc _).below hb; (try replace aP:=aP.step hb);replace hB:=eX hB hb hB.size;have sz:=hb.size;simp only [World.size_alloc] at sz;have aN:=aB.below (aB.new _ #[.slice none 0 0, .slice none 0 0] 26) hb;obtain⟨aV,aW,bq,bN⟩ :=aN.f2;clear hb;clear aD aF aL aQ;obtain⟨aD,aF,aL,aQ⟩ :=au.f2;clear aj ak ay aI;obtain⟨aj,ak,ay,aI⟩ :=ah.f2) | ((with_reducible refine(hq _ (hB.alloc hB.size _).drew).mono ?_);rintro e wq ⟨rfl,hb⟩;replace hb:=gq hb;replace au:= (au.alloc _).below hb;replace ah:= (ah.alloc _).below hb; (try replace aP:=aP.step hb);replace hB:=eX hB hb hB.size;have sz:=hb.size;simp only [World.size_alloc] at sz;have aN:=aB.below (aB.new _ #[.slice none 0 0, .slice none 0 0] 26) hb;obtain⟨aV,aW,bq,bN⟩ :=aN.f2;clear hb;clear aD aF aL aQ;obtain⟨aD,aF,aL,aQ⟩ :=au.f2;clear aj ak ay aI;obtain⟨aj,ak,ay,aI⟩ :=ah.f2))))
  all_goals
   go_wp2_with fail
   go_meet
   first|exact⟨_,aA,rfl,rfl,au.alloc _,ah.alloc _,aB.new _ _ _,aP.aH _,fun g hg=> ⟨by have:=l_c g hg;omega,by have:=u_c g hg;omega⟩,by omega,hB.alloc hB.size _,by simp<;>omega⟩ | (obtain⟨go,hgo,og⟩ :=aN.ad;rw [←hgo];exact⟨go,aA,rfl,rfl, ((au.other (by omega) _).other (by omega) _), ((ah.other (by omega) _).other (by omega) _), ((og.set 0 _).set 1 _),aP.aM (F:= [go]) (by repeat (first|exact aY.refl _ _|refine aY.gD ?_ (by simp) _|refine aY.aH ?_ _|refine aY.bf ?_)) (fun g hg hm=>by simp only [List.mem_cons,List.not_mem_nil,or_false] at hm;have:=l_c g hg;have:=u_c g hg;omega),fun g hg=> ⟨by have:=l_c g hg;omega,by have:=l_c g hg;have:=u_c g hg;omega⟩,by omega,Below.trans hB (by repeat (first|exact Below.refl _ _|refine Below.setCell ?_ (by simp<;>omega) _|refine Below.alloc ?_ (by simp<;>omega) _|refine Below.drew ?_)),by simp<;>omega⟩)
 case rest=>
  clear au aL aQ aD aF
  clear ah ay aI aj ak
  clear hB
  obtain⟨go,aA,rfl,rfl,au,ah,aN,aP,JX,H_,hB,sz⟩ :=hcut
  have l_c:=fun g hg=> (JX g hg).1
  have rz:=fun g hg=> (JX g hg).2
  have u_c:=aP.lt
  clear JX
  have gy:=aN.lt
  obtain⟨aD,aF,aL,aQ⟩ :=au.f2
  obtain⟨aj,ak,ay,aI⟩ :=ah.f2
  obtain⟨aV,aW,bq,bN⟩ :=aN.f2
  clear hq hcp
  go_wp2_with (go_at_call 154;refine(kC _ _ _ _).mono ?_;rw [hiw];rintro e wv ⟨rfl,rfl⟩)
  go_region_with (first| (go_at_call 121; (first| ((with_reducible refine(hga _).mono ?_);rintro e wq ⟨rfl,rfl⟩) | ((with_reducible refine(hga _).mono ?_);rintro e wq ⟨rfl,rfl⟩))) | (go_at_call 80; (first| ((with_reducible refine(hfx _).mono ?_);rintro e wq ⟨rfl,hb⟩;replace au:=au.below hb;replace ah:=ah.below hb;replace aN:=aN.below hb;replace aP:=aP.step0 hb; (try replace aP:=aP.step0 hb);replace hB:=hB.trans (hb.mono hB.size);have sz:=hb.size;clear hb;clear aD aF aL aQ;obtain⟨aD,aF,aL,aQ⟩ :=au.f2;clear aj ak ay aI;obtain⟨aj,ak,ay,aI⟩ :=ah.f2;clear aV aW bq bN;obtain⟨aV,aW,bq,bN⟩ :=aN.f2) | ((with_reducible refine(hfx _).mono ?_);rintro e wq ⟨rfl,hb⟩;replace hb:=gq hb;replace au:=au.below hb;replace ah:=ah.below hb;replace aN:=aN.below hb;replace aP:=aP.step0 hb; (try replace aP:=aP.step0 hb);replace hB:=hB.trans (hb.mono hB.size);have sz:=hb.size;clear hb;clear aD aF aL aQ;obtain⟨aD,aF,aL,aQ⟩ :=au.f2;clear aj ak ay aI;obtain⟨aj,ak,ay,aI⟩ :=ah.f2;clear aV aW bq bN;obtain⟨aV,aW,bq,bN⟩ :=aN.f2))) | (go_at_call 81; ((with_reducible refine(wY _ _ _ P t (show bA FI 3 _ (.slice aA.Y.a aA.Y.l aA.Y.c) x.Y from aP.Y) G5.out zQ.out).mono ?_);rintro e wq ⟨rfl,hbN,hx⟩;replace hB:=hB.trans (hx.below hB.size (fun g hm=>by have:=l_c g (dU.fO hm);omega));have sz:=hx.size;replace au:=au.aM hx (fun hm=>by have:=l_c _ (dU.fO hm);have:=u_c _ (dU.fO hm);omega);replace ah:=ah.aM hx (fun hm=>by have:=l_c _ (dU.fO hm);have:=u_c _ (dU.fO hm);omega);replace aN:=aN.aM hx (fun hm=>by have:=l_c _ (dU.fO hm);have:=u_c _ (dU.fO hm);have:=rz _ (dU.fO hm);omega);replace aP:= (show fA _ aA {x with Y:=putAt x.Y P (nums t)} from aP.setBytes hbN hx);clear hx;clear aD aF aL aQ;obtain⟨aD,aF,aL,aQ⟩ :=au.f2;clear aj ak ay aI;obtain⟨aj,ak,ay,aI⟩ :=ah.f2;clear aV aW bq bN;obtain⟨aV,aW,bq,bN⟩ :=aN.f2)))
  all_goals
   rw [Je.out] at aP
   go_wp2_with fail
   refine bodyPost_ret (v:= .tuple #[.agg #[.slice aA.Y.a aA.Y.l aA.Y.c, .slice aA.Z.a aA.Z.l aA.Z.c], .bool true]) (by simp [results,Tryz.results166,go_sem,aj,ak]) rfl ⟨aA,rfl,by rw [HV.out];exact aP.aM (F:= [w.heap.size+1]) (by repeat (first|exact aY.refl _ _|refine aY.gD ?_ (by simp) _|refine aY.aH ?_ _|refine aY.bf ?_)) (fun g hg hm=>by simp only [List.mem_cons,List.not_mem_nil,or_false] at hm;have:=l_c g hg;have:=u_c g hg;omega),fun g hg=>by have:=l_c g hg;omega,Below.trans hB (by repeat (first|exact Below.refl _ _|refine Below.setCell ?_ (by simp<;>omega) _|refine Below.alloc ?_ (by simp<;>omega) _|refine Below.drew ?_))⟩
end Go.Proofs.YtkmggglljkmjoaaGreat
namespace Go.Proofs.YtkmggglljkmjoaaGreat
open Go.RowKit
set_option maxRecDepth 100000 in
set_option maxHeartbeats 4000000 in
theorem qP (w : World)(H : dU)(x : Heap)(s g : Int)(h : gU w w.heap.size H x)(hs : iE x≤536870912)(g1 : 1≤g)(g7 : g≤7) :
  Calls Tryz.prog 224 #[.agg #[.slice H.Y.a H.Y.l H.Y.c, .slice H.Z.a H.Z.l H.Z.c], .int .i64 s, .int .i64 g] w fun e w'=> ∃ (H' : dU) (y : Heap) (b : Bool),e= .returned (.tuple #[.agg #[.slice H'.Y.a H'.Y.l H'.Y.c, .slice H'.Z.a H'.Z.l H'.Z.c], .bool b]) ∧fA w' H' y∧ (y.Y.length=x.Y.length∧y.Z.length=x.Z.length) ∧ (∀g∈H'.foot,w.heap.size≤g) ∧Below w.heap.size w w':=by
 have hcp:=fun (W : World) (hW : Below w.heap.size w W) =>uy W H x (dW h hW) (by omega)
 have hq:=fun (W : World) (hW : Below w.heap.size w W) =>sw W H x s (dW h hW)
 have hiw : bO 1 7 g=true:=bJ.2 ⟨g1,g7⟩
 by_cases c : jQ x s<0
 case pos=>
  generalize jQ x s=v at hq c
  obtain⟨w0,hW0⟩ : ∃x,x= ((w.alloc (.cells #[.slice H.Y.a H.Y.l H.Y.c, .slice H.Z.a H.Z.l H.Z.c] 26)).alloc (.cells #[.slice none 0 0, .slice none 0 0] 26)) := ⟨_,rfl⟩
  have au : aB w0 (w.heap.size) [.slice H.Y.a H.Y.l H.Y.c, .slice H.Z.a H.Z.l H.Z.c]:=by
   rw [hW0]
   exact aB.alloc aB.nw _
  have ah : aB w0 (w.heap.size+1) [.slice none 0 0, .slice none 0 0]:=by
   rw [hW0]
   exact aB.nw
  have hB : Below w.heap.size w w0:=by
   rw [hW0]
   exact dJ
  go_enter Tryz.func224,Tryz.ntmps224
  go_wp2_with fail
  rw [←hW0]
  clear hW0
  have g_:=au.lt
  have iB:=ah.lt
  obtain⟨aD,aF,aL,aQ⟩ :=au.f2
  obtain⟨aj,ak,ay,aI⟩ :=ah.f2
  refine(hcp _ hB).mono ?_
  rintro e w1 ⟨aA,rfl,aP,l_c,hb⟩
  have u_c:=aP.lt
  replace au:=au.below hb
  replace ah:=ah.below hb
  replace hB:=hB.trans (hb.mono hB.size)
  have sz:=hb.size
  clear hb
  clear aD aF aL aQ
  obtain⟨aD,aF,aL,aQ⟩ :=au.f2
  clear aj ak ay aI
  obtain⟨aj,ak,ay,aI⟩ :=ah.f2
  clear hcp
  go_wp2_with fail
  generalize hO : Obj.cells #[.slice aA.Y.a aA.Y.l aA.Y.c, .slice aA.Z.a aA.Z.l aA.Z.c] 26=O_
  replace au:=au.alloc O_
  replace ah:=ah.alloc O_
  replace aP:=aP.aH O_
  replace hB:=hB.alloc hB.size O_
  have aN : aB (w1.alloc O_) w1.heap.size [.slice aA.Y.a aA.Y.l aA.Y.c, .slice aA.Z.a aA.Z.l aA.Z.c]:=hO ▸ aB.new _ _ _
  have gy:=aN.lt
  have sz : w1.heap.size≤ (w1.alloc O_).heap.size:=Nat.le_of_lt aN.lt
  generalize hG : (w1.alloc O_) =w2 at au ah aP hB aN gy sz⊢
  clear hG hO O_
  clear aD aF aL aQ
  obtain⟨aD,aF,aL,aQ⟩ :=au.f2
  clear aj ak ay aI
  obtain⟨aj,ak,ay,aI⟩ :=ah.f2
  obtain⟨aV,aW,bq,bN⟩ :=aN.f2
  refine(hq _ hB).mono ?_
  rintro e w3 ⟨rfl,hb⟩
  replace au:=au.below hb
  replace ah:=ah.below hb
  replace aN:=aN.below hb
  have aP:=aP.step0 hb
  replace hB:=hB.trans (hb.mono hB.size)
  have sz:=hb.size
  clear hb
  clear aD aF aL aQ
  obtain⟨aD,aF,aL,aQ⟩ :=au.f2
  clear aj ak ay aI
  obtain⟨aj,ak,ay,aI⟩ :=ah.f2
  clear aV aW bq bN
  obtain⟨aV,aW,bq,bN⟩ :=aN.f2
  clear hq
  go_wp2_with fail
  refine bodyPost_ret (v:= .tuple #[.agg #[.slice aA.Y.a aA.Y.l aA.Y.c, .slice aA.Z.a aA.Z.l aA.Z.c], .bool false]) (by simp [results,Tryz.results224,go_sem,aj,ak]) rfl ⟨aA,x,false,rfl,aP.aM (F:= [w.heap.size+1]) bW (fun g hg hm=>by simp only [List.mem_cons,List.not_mem_nil,or_false] at hm;have:=l_c g hg;have:=u_c g hg;omega), ⟨rfl,rfl⟩,fun g hg=>by have:=l_c g hg;omega,Below.trans hB dQ⟩
 obtain⟨c1,c2,c3⟩ :=AL c
 have hgd:=vQ (iA c1) c2
 obtain⟨P,hP⟩ : ∃P : Nat,ig s (aO x s) = (P : Int) := ⟨(ig s (aO x s)).toNat,by omega⟩
 have hga:=fun W=>nP s (aO x s) W
 rw [hP] at hga hgd
 have hcl:=fun (W : World) (hW : Below w.heap.size w W) =>mD W H x s (dW h hW) c1
 have zQ:=Hid.aT (show P+4≤x.Y.length by omega)
 have hst : ∀ (W : World) (K : SV),bA FI 3 W K.val x.Y→Calls Tryz.prog 86 #[.slice K.a K.l K.c, .int .i64 (P : Int), .int .i64 4, .int .i64 g] W fun e w'=>e= .returned (.slice K.a K.l K.c) ∧bA FI 3 w' K.val (putAt x.Y P (fQ 4 g)) ∧aY (cu K.val) W w':=fun W K o=>sF W _ x.Y P 4 g o (by decide) (by decide) (by omega) (by omega) zQ.out
 rw [c3] at hq c
 clear hP c1 c2 c3 hgd
 generalize aO x s=v at hq hga hcl c
 obtain⟨w0,hW0⟩ : ∃x,x= ((w.alloc (.cells #[.slice H.Y.a H.Y.l H.Y.c, .slice H.Z.a H.Z.l H.Z.c] 26)).alloc (.cells #[.slice none 0 0, .slice none 0 0] 26)) := ⟨_,rfl⟩
 have au : aB w0 (w.heap.size) [.slice H.Y.a H.Y.l H.Y.c, .slice H.Z.a H.Z.l H.Z.c]:=by
  rw [hW0]
  exact aB.alloc aB.nw _
 have ah : aB w0 (w.heap.size+1) [.slice none 0 0, .slice none 0 0]:=by
  rw [hW0]
  exact aB.nw
 have hB : Below w.heap.size w w0:=by
  rw [hW0]
  exact dJ
 go_enter Tryz.func224,Tryz.ntmps224
 go_wp2_with fail
 rw [←hW0]
 clear hW0
 have g_:=au.lt
 have iB:=ah.lt
 obtain⟨aD,aF,aL,aQ⟩ :=au.f2
 obtain⟨aj,ak,ay,aI⟩ :=ah.f2
 refine(hcp _ hB).mono ?_
 rintro e w1 ⟨aA,rfl,aP,l_c,hb⟩
 have u_c:=aP.lt
 replace au:=au.below hb
 replace ah:=ah.below hb
 replace hB:=hB.trans (hb.mono hB.size)
 have sz:=hb.size
 clear hb
 clear aD aF aL aQ
 obtain⟨aD,aF,aL,aQ⟩ :=au.f2
 clear aj ak ay aI
 obtain⟨aj,ak,ay,aI⟩ :=ah.f2
 clear hcp
 go_wp2_with fail
 generalize hO : Obj.cells #[.slice aA.Y.a aA.Y.l aA.Y.c, .slice aA.Z.a aA.Z.l aA.Z.c] 26=O_
 replace au:=au.alloc O_
 replace ah:=ah.alloc O_
 replace aP:=aP.aH O_
 replace hB:=hB.alloc hB.size O_
 have aN : aB (w1.alloc O_) w1.heap.size [.slice aA.Y.a aA.Y.l aA.Y.c, .slice aA.Z.a aA.Z.l aA.Z.c]:=hO ▸ aB.new _ _ _
 have gy:=aN.lt
 have sz : w1.heap.size≤ (w1.alloc O_).heap.size:=Nat.le_of_lt aN.lt
 generalize hG : (w1.alloc O_) =w2 at au ah aP hB aN gy sz⊢
 clear hG hO O_
 clear aD aF aL aQ
 obtain⟨aD,aF,aL,aQ⟩ :=au.f2
 clear aj ak ay aI
 obtain⟨aj,ak,ay,aI⟩ :=ah.f2
 obtain⟨aV,aW,bq,bN⟩ :=aN.f2
 refine(hq _ hB).mono ?_
 rintro e w3 ⟨rfl,hb⟩
 replace au:=au.below hb
 replace ah:=ah.below hb
 replace aN:=aN.below hb
 have aP:=aP.step0 hb
 replace hB:=hB.trans (hb.mono hB.size)
 have sz:=hb.size
 clear hb
 clear aD aF aL aQ
 obtain⟨aD,aF,aL,aQ⟩ :=au.f2
 clear aj ak ay aI
 obtain⟨aj,ak,ay,aI⟩ :=ah.f2
 clear aV aW bq bN
 obtain⟨aV,aW,bq,bN⟩ :=aN.f2
 clear hq
 go_wp2_with (go_at_call 102;refine(fG _ _ _ _).mono ?_;rw [hiw];rintro e wv ⟨rfl,rfl⟩)
 go_region_with (first| (go_at_call 77; (first| ((with_reducible refine(hcl _ hB).mono ?_);rintro e wq ⟨rfl,hb⟩;replace au:=au.below hb;replace ah:=ah.below hb;replace aN:=aN.below hb;replace aP:=aP.step0 hb;replace hB:=hB.trans (hb.mono hB.size);have sz:=hb.size;clear hb;clear aD aF aL aQ;obtain⟨aD,aF,aL,aQ⟩ :=au.f2;clear aj ak ay aI;obtain⟨aj,ak,ay,aI⟩ :=ah.f2;clear aV aW bq bN;obtain⟨aV,aW,bq,bN⟩ :=aN.f2) | ((with_reducible refine(hcl _ hB.drew).mono ?_);rintro e wq ⟨rfl,hb⟩;replace hb:=gq hb;replace au:=au.below hb;replace ah:=ah.below hb;replace aN:=aN.below hb;replace aP:=aP.step0 hb;replace hB:=hB.trans (hb.mono hB.size);have sz:=hb.size;clear hb;clear aD aF aL aQ;obtain⟨aD,aF,aL,aQ⟩ :=au.f2;clear aj ak ay aI;obtain⟨aj,ak,ay,aI⟩ :=ah.f2;clear aV aW bq bN;obtain⟨aV,aW,bq,bN⟩ :=aN.f2))) | (go_at_call 158; (first| ((with_reducible refine(hga _).mono ?_);rintro e wq ⟨rfl,rfl⟩) | ((with_reducible refine(hga _).mono ?_);rintro e wq ⟨rfl,rfl⟩))) | (go_at_call 86; ((with_reducible refine(hst _ aA.Y aP.Y).mono ?_);rintro e wq ⟨rfl,hbN,hx⟩;replace hB:=hB.trans (hx.below hB.size (fun g hm=>by have:=l_c g (dU.fO hm);omega));have sz:=hx.size;replace au:=au.aM hx (fun hm=>by have:=l_c _ (dU.fO hm);have:=u_c _ (dU.fO hm);omega);replace ah:=ah.aM hx (fun hm=>by have:=l_c _ (dU.fO hm);have:=u_c _ (dU.fO hm);omega);replace aN:=aN.aM hx (fun hm=>by have:=l_c _ (dU.fO hm);have:=u_c _ (dU.fO hm);omega);replace aP:= (show fA _ aA {x with Y:=putAt x.Y P (fQ 4 g)} from aP.setBytes hbN hx);clear hx;clear aD aF aL aQ;obtain⟨aD,aF,aL,aQ⟩ :=au.f2;clear aj ak ay aI;obtain⟨aj,ak,ay,aI⟩ :=ah.f2;clear aV aW bq bN;obtain⟨aV,aW,bq,bN⟩ :=aN.f2)))
 all_goals
  go_wp2_with fail
  refine bodyPost_ret (v:= .tuple #[.agg #[.slice aA.Y.a aA.Y.l aA.Y.c, .slice aA.Z.a aA.Z.l aA.Z.c], .bool true]) (by simp [results,Tryz.results224,go_sem,aj,ak]) rfl ⟨aA, {x with Y:=putAt x.Y P (fQ 4 g)},true,rfl,aP.aM (F:= [w.heap.size+1,w1.heap.size]) bW (fun g hg hm=>by simp only [List.mem_cons,List.not_mem_nil,or_false] at hm;have:=l_c g hg;have:=u_c g hg;omega), ⟨nT (by rw [jq];exact zQ.out),rfl⟩,fun g hg=>by have:=l_c g hg;omega,Below.trans hB dQ⟩
end Go.Proofs.YtkmggglljkmjoaaGreat
namespace Go.Proofs.YtkmggglljkmjoaaGreat
open Go.RowKit
theorem KH (l : List Int) : flat FI l=l.map (Value.int .i64) :=by
 unfold flat
 induction l with
 |nil=>rfl
 |cons x l ih=>simp [FI] at ih⊢;rw [ih]
theorem bA.DK {e : TypeId}{w : World}{g n c : Nat}{b : List Int}(h : bA FI e w (.slice (some ⟨g,0,none⟩) n c) b) : ∃cur : Array Value,w.heap[g]? =some (.cells cur e (0,0)) ∧b.length≤cur.size∧
  ∀ (off : Nat) (m : List Int),off+m.length≤b.length→bA FI e (w.setRow g (cur.toList.take off++ (m.map (Value.int .i64) ++cur.toList.drop (off+m.length))).toArray) (.slice (some ⟨g,0,none⟩) n c) (putAt b off m) :=by
 have hnl:=h.len_eq
 obtain⟨h1,h2⟩ :=id h
 rcases h2 with ⟨h2,_⟩ | ⟨g',cap,cur,hv,hb,hc,hl,hm,hz,ht⟩
 ·cases h2
 injection hv with e1 e2 e3
 injection e1 with e1
 injection e1 with e1
 subst e1 e3
 have hz' : cur.size=c:=by simpa [FI] using hz
 have ht' : cur.toList.take b.length=b.map (Value.int .i64) :=by
  have:=ht
  rw [KH] at this
  simpa [FI] using this
 refine⟨cur,hc,by omega,fun off m hf=> ⟨?_, .inr ⟨g,c,_,by rw [hnl,nT hf],hb,setRow_heap w g cur _ e _ hc,by rw [nT hf];omega,hm, ?_, ?_⟩⟩⟩
 ·rw [nu]
 ·simp [FI]
  omega
 ·rw [KH,nT hf]
  show List.take (b.length * 1) (cur.toList.take off++ (m.map (Value.int .i64) ++cur.toList.drop (off+m.length))) =_
  rw [Nat.mul_one]
  have hcl : cur.toList.length=c:=by simpa using hz'
  have e1 : cur.toList.take off= (b.take off).map (Value.int .i64) :=by
   have:=congrArg (List.take off) ht'
   rw [List.take_take,Nat.min_eq_left (by omega), ←List.map_take] at this
   exact this
  have e2 : List.take (b.length - (off+m.length)) (cur.toList.drop (off+m.length)) = (b.drop (off+m.length)).map (Value.int .i64) :=by
   have:=congrArg (List.drop (off+m.length)) ht'
   rw [List.drop_take, ←List.map_drop] at this
   exact this
  have l1 : (List.take off cur.toList).length=off:=by simp;omega
  have l2 : (m.map (Value.int .i64)).length=m.length:=by simp
  have k1 : List.take b.length (List.take off cur.toList) =List.take off cur.toList:=List.take_of_length_le (by rw [l1];omega)
  have k2 : List.take (b.length - off) (m.map (Value.int .i64)) =m.map (Value.int .i64) :=List.take_of_length_le (by rw [l2];omega)
  rw [List.take_append,l1,List.take_append,l2,k1,k2,show b.length - off - m.length=b.length - (off+m.length) by omega,e2,e1]
  simp [putAt]
theorem aY.DL {F : List Nat}{w w' : World}(h : aY F w w'){g : Nat}(hg : g∈F)(cs : Array Value) : aY F w (w'.setRow g cs) :=
 ⟨h.os,h.tape,h.output,by simpa using h.size,fun k hk hn=> (setRow_other w' g k cs (fun e=>hn (e ▸ hg))).trans (h.block k hk hn)⟩
theorem EJ {P : Program}{ops : Array Oper}{o : Oper}{a : Act}{w : World}{K : Act→World→Prop}{Q : Exit→Act→World→Prop}{E : Prop}(hgd : o.guard=none)(d s : Operand)(dT sT : TypeId)
  (ho : o.op= .call {callee:= .builtin .copy,args:= #[d,s],argTypes:= #[dT,sT]}) (elem : TypeId) (hu : P.underlying dT=some (.slice elem)) (hsz : (P.info? elem).map (·.size) =some 1)
  {e : TypeId} {g n c off dLen dCap sCap : Nat} {ad : Addr} {b m : List Int} (hd : a.eval d= .slice (some ⟨g,off,none⟩) dLen dCap) (hs : a.eval s= .slice (some ad) m.length sCap)
  (hown : bA FI e w (.slice (some ⟨g,0,none⟩) n c) b) (hsrc : ∀j v, (m.map (Value.int .i64))[j]? =some v→w.cell? (ad.add j) =some v) (hle : m.length≤dLen) (hfit : off+m.length≤b.length)
  (h : ∀w',bA FI e w' (.slice (some ⟨g,0,none⟩) n c) (putAt b off m) →aY [g] w w'→K (a.put o.dst (goInt m.length)) w') :
  if Region.wanted o (yielded ops a.tmps) =true then Oper.wp P o a w K Q else E:=by
 have hw : Region.wanted o (yielded ops a.tmps) =true:=by simp [Region.wanted,hgd]
 rw [if_pos hw]
 obtain⟨cur,hc,hcb,hput⟩ :=hown.DK
 have hrun:=run_copy_row (P:=P) w dT sT o.type elem g off dLen dCap ad m.length sCap cur e (m.map (Value.int .i64)) hu hsz hc (by simp [Nat.min_eq_left hle]) hsrc (by simp;omega) (by intro v hv;obtain⟨x,_,rfl⟩ :=List.mem_map.1 hv;rfl)
 unfold Oper.wp
 rw [List.length_map] at hrun
 simp [execOp,ho,resolve,invoke,builtin,hd,hs,hrun,Result.andThen]
 refine h _ ?_ ((aY.refl _ _).DL (by simp) _)
 have:=hput off m hfit
 simpa using this
def jH (b : List Int)(p : Nat)(c : Int) : Nat→List Int
 |0=>putAt b (p * 64) [171,c,cO c]
 |i+1=>putAt (jH b p c i) (p * 64+8+i * (eu c).toNat) (fQ 4 1)
def fI (h : Heap)(p : Nat)(c : Int) : Heap:= ⟨jH h.Y p c (cO c).toNat,h.Z.set p c⟩
def d_ (p k : Nat) : List Int:= (List.range k).map fun i=> ((p * 4+i : Nat) : Int)
theorem wu (p k : Nat) : d_ p (k+1) =d_ p k++ [((p * 4+k : Nat) : Int)]:=by simp [d_,List.range_succ]
theorem pV (p k : Nat) : (d_ p k).length=k:=by simp [d_]
theorem oh {b : List Int}{p : Nat}{c : Int}(hb : b.length=384)(hp : p<6)(hc : bO 0 2 c=true) : ∀i,i≤ (cO c).toNat→ (jH b p c i).length=384
 |0,_=>by
  unfold jH
  rw [nT (by simp;omega),hb]
 |i+1,hi=>by
  have hr:=nQ hc (i:=i) (by omega)
  have ih:=oh hb hp hc i (by omega)
  unfold jH
  rw [nT (by rw [jq,ih];omega),ih]
end Go.Proofs.YtkmggglljkmjoaaGreat
