/-
  Several texts in one: lemmas and contracts that the claim rests on.
-/
import Derived.Test.YtkmggglljkmjoaaUHNoReuse2
import Derived.Test.YtkmggglljkmjoaaUHNoReuse1
import Derived.Deep.QuietTactic
import Derived.BigQuiet
import Derived.Deep.LoopGhost
import Derived.Deep.RegionHeld3
import Derived.WalkSpells
import Derived.Laws.Cover3
import Derived.Test.YtkmggglljkmjoaaUHNoReuse13
import Derived.Deep.RegionLaw
import Derived.Deep.CutRange
namespace Go.Proofs.Ytkmggglljkmjoaa
open Go.RowKit
theorem jQ {dG : List SV}{i : Nat}{s s' : SV}(hi : dG[i]? =some s)(hf : bL s'.val=bL s.val) : ((dG.set i s').flatMap fun s=>bL s.val) =dG.flatMap fun s=>bL s.val:=by
 induction dG generalizing i with
 |nil=>simp at hi
 |cons x xs ih=>
  cases i with
  |zero=>
   simp only [List.getElem?_cons_zero,Option.some.injEq] at hi
   subst hi
   simp [hf]
  |succ i=>
   simp only [List.getElem?_cons_succ] at hi
   simp only [List.set_cons_succ,List.flatMap_cons,ih hi]
theorem dJ.qX {α : Type}{T : FT α}{e E : TypeId}{w w' : World}{g n c : Nat}{dG : List SV}{ll : List (List α)}(h : dJ T e E w (.slice (some ⟨g,0,none⟩) n c) dG ll){i : Nat}{s s' : SV}{l' : List α}(hi : dG[i]? =some s)
  (hl : bF T e w' s'.val l') (hg : w.grownBy w' s.val.ownBlock) (hat : s'.val.ownBlock=s.val.ownBlock∨s'.val.ownBlock=some w.heap.size) :
  dJ T e E (w'.setCell ⟨g,i,none⟩ s'.val) (.slice (some ⟨g,0,none⟩) n c) (dG.set i s') (ll.set i l') :=by
 have hs : s∈dG:=List.mem_of_getElem? hi
 have hc:=bW.gP hg
 have hn:=h.nodup
 have hlt:=h.lt
 have hgz : g<w.heap.size:=hlt g (cu.2 (.inl rfl))
 unfold dL at hn
 rw [List.nodup_append] at hn
 obtain⟨hn1,hn2,rG⟩ :=hn
 have hgs : ∀s'∈dG,s'.val.ownBlock≠some g:=fun s' hs' he=>rG g (bH.2 rfl) g (List.mem_flatMap.2 ⟨s',hs',bH.2 he⟩) rfl
 have hg' : s'.val.ownBlock≠some g:=by
  rcases hat with h1|h1
  ·rw [h1];exact hgs s hs
  ·rw [h1];intro he;injection he with he;omega
 have hkeep : ∀b,b≠g→ (w'.setCell ⟨g,i,none⟩ s'.val).heap[b]? =w'.heap[b]? :=fun b hb=>Below.heap_setCell _ _ _ _ hb
 have hik:= (List.getElem?_eq_some_iff.1 hi).1
 refine⟨by rw [List.length_set,List.length_set];exact h.len, ?_,fun k s1 l1 hk hl1=> ?_, ?_⟩
 ·have ho:=h.outer.bn hc (fun b hb hm=>rG b hb b (List.mem_flatMap.2 ⟨s,hs,hm⟩) rfl)
  have:=ho.gI (j:=0) (y:=s') (u:= .slice s'.a s'.l s'.c) hi (by decide) rfl
  rw [show i * FS.n+0=i by simp [FS]] at this
  exact this
 ·by_cases hki : i=k
  ·subst hki
   rw [List.getElem?_set_self hik] at hk
   rw [List.getElem?_set_self (by rw [←h.len];exact hik)] at hl1
   cases hk
   cases hl1
   exact hl.keep fun b hb=>hkeep b fun e=>hg' (by rw [hb,e])
  ·rw [List.getElem?_set_ne hki] at hk hl1
   have ho:=h.inner k s1 l1 hk hl1
   refine(ho.bn hc (fun b hb hm=>sZ hn2 hi hk hki (bH.1 hm) (bH.1 hb))).keep fun b hb=>hkeep b fun e=>hgs s1 (List.mem_of_getElem? hk) (by rw [hb,e])
 ·have hfr : s'.val.ownBlock=some w.heap.size→ ∀b∈bL s'.val,b∉dL (.slice (some ⟨g,0,none⟩) n c) dG:=by
   intro h1 b hb hm
   rw [bH,h1] at hb
   injection hb with hb
   have:=hlt b hm
   omega
  unfold dL
  rw [List.nodup_append]
  rcases hat with h1|h1
  ·have EI : bL s'.val=bL s.val:=by unfold bL;rw [h1]
   rw [jQ hi EI]
   exact⟨hn1,hn2,rG⟩
  ·refine⟨hn1,uZ hn2 (fun b hb hm=>hfr h1 b hb (List.mem_append.2 (.inr hm))),fun a ha b hb e=> ?_⟩
   subst e
   obtain⟨y,hy,hm⟩ :=List.mem_flatMap.1 hb
   rcases List.mem_or_eq_of_mem_set hy with hy|rfl
   ·exact rG a ha a (List.mem_flatMap.2 ⟨y,hy,hm⟩) rfl
   ·exact hfr h1 a hm (List.mem_append.2 (.inl ha))
theorem wW {dG : List SV}{v : Value}{i : Nat}{s s' : SV}{w : World}{B : Nat}(hi : dG[i]? =some s)(hat : s'.val.ownBlock=s.val.ownBlock∨s'.val.ownBlock=some w.heap.size)(hB : B≤w.heap.size)(h : ∀b∈dL v dG,B≤b) : ∀b∈dL v (dG.set i s'),B≤b:=by
 intro b hb
 rcases j4 hb with hb|hb
 ·exact h b hb
 ·rw [bH] at hb
  rcases hat with h1|h1
  ·exact h b (cu.2 (.inr ⟨s,List.mem_of_getElem? hi,by rw [←h1];exact hb⟩))
  ·rw [h1] at hb
   injection hb with hb
   omega
theorem dJ.jK {α : Type}{T : FT α}{e E : TypeId}{w : World}{v : Value}{dG : List SV}{ll : List (List α)}(h : dJ T e E w v dG ll)(hl : 0<ll.length) : ∃g cap,v= .slice (some ⟨g,0,none⟩) ll.length cap∧g<w.heap.size:=by
 have:=h.outer.kS (by rw [h.len];exact hl)
 rwa [h.len] at this
theorem dJ.head_ne {α : Type}{T : FT α}{e E : TypeId}{w : World}{g n c : Nat}{dG : List SV}{ll : List (List α)}(h : dJ T e E w (.slice (some ⟨g,0,none⟩) n c) dG ll){i : Nat}{s : SV}(hi : dG[i]? =some s) : g∉bL s.val:=by
 have hn:=h.nodup
 unfold dL at hn
 rw [List.nodup_append] at hn
 exact fun hm=>hn.2.2 g (bH.2 rfl) g (List.mem_flatMap.2 ⟨s,List.mem_of_getElem? hi,hm⟩) rfl
theorem aJ.ad {w : World}{g : Nat}{vs : List Value}(b : aJ w g vs) : ∃a,a=g∧aJ w a vs:= ⟨g,rfl,b⟩
def mV (x : Lists)(k c : Nat)(s : Int) : Lists:=if (x.O.getD k []).length<2 then {x with O:=x.O.set k (x.O.getD k []++ [s])} else {x with G:=x.G.set c (x.G.getD c []++ [s])}
def jW (h : Heap)(s g : Int) : Heap:= {h with Y:=putAt h.Y (fq s (ak h s)).toNat (eP 4 g)}
def mq (m : Mem)(w : Nat)(s : Int) : Mem:= {E:=jW m.E s (bK m.E s+1),I:=if bK m.E s+1≤6 then mV m.I (w * 3+ (ak m.E s).toNat) (ak m.E s).toNat s else m.I}
def iC (m : Mem)(w h : Int) : Mem×Int:=if bX m=false∨aW 0 2 w=false then (m,1) else if fI m h=false then (m,4) else (mq m w.toNat (h%32),0)
theorem sI {m : Mem}{w h : Int}(c : bX m=false∨aW 0 2 w=false) : iC m w h= (m,1) :=if_pos c
theorem sJ {m : Mem}{w h : Int}(c1 : bX m=true)(c2 : aW 0 2 w=true)(c3 : fI m h=false) : iC m w h= (m,4) :=by
 unfold iC
 rw [if_neg (by rw [c1,c2];decide),if_pos c3]
theorem sK {m : Mem}{w h : Int}(c1 : bX m=true)(c2 : aW 0 2 w=true)(c3 : fI m h=true) : iC m w h= (mq m w.toNat (h%32),0) :=by
 unfold iC
 rw [if_neg (by rw [c1,c2];decide),if_neg (by rw [c3];decide)]
theorem dA.jh {H : dA}{g : Nat}(h : g∈bL H.Y.val) : g∈H.foot:=dA.aZ.2 (.inl h)
theorem eT.setBytes {w w' : World}{H : dA}{x : Heap}{b : List Int}(h : eT w H x)(hb : bF FI 3 w' H.Y.val b)(hc : bW (bL H.Y.val) w w') : eT w' H {x with Y:=b}:=
 ⟨hb,h.Z.bn hc (fun g hg hm=>h.iM g hm hg),h.iM⟩
set_option maxHeartbeats 400000 in
theorem pG (a c : Nat)(ha : a<3)(hc : c<3)(w : World) : Calls Try.prog 46 #[.int .i64 a, .int .i64 c] w fun e w'=>e= .returned (.int .i64 ((a * 3+c : Nat) : Int)) ∧w=w':=by
 have k1 : aW 0 2 (a : Int) =true:=bD.2 ⟨by omega,by omega⟩
 have k2 : aW 0 2 (c : Int) =true:=bD.2 ⟨by omega,by omega⟩
 go_enter Try.func46,Try.ntmps46
 go_wp2_with (first| (go_at_call 17;refine(iH _ _).mono ?_;rw [k1];rintro e w1 ⟨rfl,rfl⟩) | (go_at_call 48;refine(lG _ _).mono ?_;rw [k2];rintro e w1 ⟨rfl,rfl⟩))
 go_ret
 exact⟨bU (by omega),rfl⟩
set_option maxRecDepth 100000 in
set_option maxHeartbeats 4000000 in
theorem y7 (w : World)(H : dA)(x : Heap)(s g : Int)(h : fZ w w.heap.size H x)(hs : iK x≤536870912)(hsh : d_ x=true)(k1 : ¬ ak x s<0)(g1 : 1≤g)(g7 : g≤7) :
  Calls Try.prog 42 #[.agg #[.slice H.Y.a H.Y.l H.Y.c, .slice H.Z.a H.Z.l H.Z.c], .int .i64 s, .int .i64 g] w fun e w'=> ∃H' : dA,e= .returned (.tuple #[.agg #[.slice H'.Y.a H'.Y.l H'.Y.c, .slice H'.Z.a H'.Z.l H'.Z.c], .bool true]) ∧eT w' H' (jW x s g) ∧ (∀g∈H'.foot,w.heap.size≤g) ∧Below w.heap.size w w':=by
 have EJ:=Hid.aD (show m_ x s=ak x s from if_pos hsh)
 have hgd:=sj (gQ hsh) k1
 obtain⟨P,hP⟩ : ∃P : Nat,fq s (ak x s) = (P : Int) := ⟨(fq s (ak x s)).toNat,by omega⟩
 have HV : Hid (jW x s g= {x with Y:=putAt x.Y P (eP 4 g)}) :=by
  show _=_
  unfold jW
  rw [hP,Int.toNat_natCast]
 have hq:=fun (W : World) (hW : Below w.heap.size w W) =>ni W H x s (dH h hW)
 rw [EJ.out] at hq
 have hga:=fun W=>ku s (ak x s) W
 rw [hP] at hga hgd
 have Ct : g<256 ^ 4:=by
  have : (256 : Int) ^ 4=4294967296:=by decide
  omega
 have hfx : ∀W : World,Calls Try.prog 71 #[.int .i64 g, .int .i64 4] W fun e w'=>e= .returned (.string (strOfNums (eP 4 g))) ∧Below W.heap.size W w':=fun W=>vD g 4 W (by decide) (by decide) (by omega) Ct
 clear Ct
 have hiw : aW 1 7 g=true:=bD.2 ⟨g1,g7⟩
 have Cu:=Hid.aD (tZ 4 g)
 have Bu : Hid ((strOfNums (eP 4 g)).size≤1000) :=by rw [pF];exact(by decide : 4≤1000)
 have Bv : Hid (P+ (strOfNums (eP 4 g)).size≤x.Y.length) :=by
  rw [pF]
  show _≤_
  omega
 have k1' : 0≤ak x s:=by omega
 have hcp:=fun (W : World) (hW : Below w.heap.size w W) =>jU W H x (dH h hW) (by omega)
 clear hgd hsh hP k1 hs
 generalize strOfNums (eP 4 g) =t at *
 generalize ak x s=c at *
 obtain⟨w0,hW0⟩ : ∃x,x= ((w.alloc (.cells #[.slice H.Y.a H.Y.l H.Y.c, .slice H.Z.a H.Z.l H.Z.c] 26)).alloc (.cells #[.slice none 0 0, .slice none 0 0] 26)) := ⟨_,rfl⟩
 have aC : aJ w0 (w.heap.size) [.slice H.Y.a H.Y.l H.Y.c, .slice H.Z.a H.Z.l H.Z.c]:=by
  rw [hW0]
  exact aJ.alloc aJ.nw _
 have au : aJ w0 (w.heap.size+1) [.slice none 0 0, .slice none 0 0]:=by
  rw [hW0]
  exact aJ.nw
 have hB : Below w.heap.size w w0:=by
  rw [hW0]
  exact dn
 go_enter Try.func42,Try.ntmps42
 go_wp2_with fail
 rw [←hW0]
 clear hW0
 have jy:=aC.lt
 have ji:=au.lt
 obtain⟨aF,aG,aK,aV⟩ :=aC.f2
 obtain⟨aA,aB,aI,aU⟩ :=au.f2
 go_upto_region 1 with (fail)
 go_cut [8,9] from 8 to 14 (fun v8 v9 wx=> ∃ (go : Nat) (aH : dA),v8= .pointer (some ⟨go,0,none⟩) ∧v9= .int .i64 c∧aJ wx (w.heap.size) [.slice H.Y.a H.Y.l H.Y.c, .slice H.Z.a H.Z.l H.Z.c]∧aJ wx (w.heap.size+1) [.slice none 0 0, .slice none 0 0]∧aJ wx go [.slice aH.Y.a aH.Y.l aH.Y.c, .slice aH.Z.a aH.Z.l aH.Z.c]∧eT wx aH x∧ (∀g∈aH.foot,w0.heap.size≤g∧g≠go) ∧w0.heap.size≤go∧Below w.heap.size w wx∧w0.heap.size≤wx.heap.size)
 case first=>
  go_region_with (first| (go_at_call 37; (first| ((with_reducible refine(hcp _ hB).mono ?_);rintro e wq ⟨aH,rfl,aT,l_c,hb⟩;have u_c:=aT.lt;replace aC:=aC.below hb;replace au:=au.below hb;replace hB:=hB.trans (hb.mono hB.size);have sz:=hb.size; (try replace ay:=ay.below hb); (try replace aO:=ay.cell 0 _ rfl); (try replace aP:=ay.cell 1 _ rfl); (try replace aX:=ay.fP); (try replace bJ:=ay.lt);clear hb;clear aF aG aK aV;obtain⟨aF,aG,aK,aV⟩ :=aC.f2;clear aA aB aI aU;obtain⟨aA,aB,aI,aU⟩ :=au.f2) | ((with_reducible refine(hcp _ hB.drew).mono ?_);rintro e wq ⟨aH,rfl,aT,l_c,hb⟩;replace hb:=eY hb;replace l_c:=iA l_c;have u_c:=aT.lt;replace aC:=aC.below hb;replace au:=au.below hb;replace hB:=hB.trans (hb.mono hB.size);have sz:=hb.size; (try replace ay:=ay.below hb); (try replace aO:=ay.cell 0 _ rfl); (try replace aP:=ay.cell 1 _ rfl); (try replace aX:=ay.fP); (try replace bJ:=ay.lt);clear hb;clear aF aG aK aV;obtain⟨aF,aG,aK,aV⟩ :=aC.f2;clear aA aB aI aU;obtain⟨aA,aB,aI,aU⟩ :=au.f2) | ((with_reducible refine(hcp _ (hB.alloc hB.size _)).mono ?_);rintro e wq ⟨aH,rfl,aT,l_c,hb⟩;simp only [World.size_alloc] at l_c;have u_c:=aT.lt;replace aC:= (aC.alloc _).below hb;replace au:= (au.alloc _).below hb;replace hB:=eF hB hb hB.size;have sz:=hb.size;simp only [World.size_alloc] at sz;have ay:=aJ.below (aJ.new _ #[.slice none 0 0, .slice none 0 0] 26) hb;obtain⟨aO,aP,aX,bJ⟩ :=ay.f2;clear hb;clear aF aG aK aV;obtain⟨aF,aG,aK,aV⟩ :=aC.f2;clear aA aB aI aU;obtain⟨aA,aB,aI,aU⟩ :=au.f2) | ((with_reducible refine(hcp _ (hB.alloc hB.size _).drew).mono ?_);rintro e wq ⟨aH,rfl,aT,l_c,hb⟩;replace hb:=eY hb;replace l_c:=iA l_c;simp only [World.size_alloc] at l_c;have u_c:=aT.lt;replace aC:= (aC.alloc _).below hb;replace au:= (au.alloc _).below hb;replace hB:=eF hB hb hB.size;have sz:=hb.size;simp only [World.size_alloc] at sz;have ay:=aJ.below (aJ.new _ #[.slice none 0 0, .slice none 0 0] 26) hb;obtain⟨aO,aP,aX,bJ⟩ :=ay.f2;clear hb;clear aF aG aK aV;obtain⟨aF,aG,aK,aV⟩ :=aC.f2;clear aA aB aI aU;obtain⟨aA,aB,aI,aU⟩ :=au.f2))) | (go_at_call 67; (first| ((with_reducible refine(hq _ hB).mono ?_);rintro e wq ⟨rfl,hb⟩;replace aC:=aC.below hb;replace au:=au.below hb; (try replace aT:=aT.step0 hb);replace hB:=hB.trans (hb.mono hB.size);have sz:=hb.size; (try replace ay:=ay.below hb); (try replace aO:=ay.cell 0 _ rfl); (try replace aP:=ay.cell 1 _ rfl); (try replace aX:=ay.fP); (try replace bJ:=ay.lt);clear hb;clear aF aG aK aV;obtain⟨aF,aG,aK,aV⟩ :=aC.f2;clear aA aB aI aU;obtain⟨aA,aB,aI,aU⟩ :=au.f2) | ((with_reducible refine(hq _ hB.drew).mono ?_);rintro e wq ⟨rfl,hb⟩;replace hb:=eY hb;replace aC:=aC.below hb;replace au:=au.below hb; (try replace aT:=aT.step0 hb);replace hB:=hB.trans (hb.mono hB.size);have sz:=hb.size; (try replace ay:=ay.below hb); (try replace aO:=ay.cell 0 _ rfl); (try replace aP:=ay.cell 1 _ rfl); (try replace aX:=ay.fP); (try replace bJ:=ay.lt);clear hb;clear aF aG aK aV;obtain⟨aF,aG,aK,aV⟩ :=aC.f2;clear aA aB aI aU;obtain⟨aA,aB,aI,aU⟩ :=au.f2) | ((with_reducible refine(hq _ (hB.alloc hB.size _)).mono ?_);rintro e wq ⟨rfl,hb⟩;replace aC:= (aC.alloc _).below hb;replace au:= (au.alloc _).below hb; (try replace aT:=aT.step hb);replace hB:=eF hB hb hB.size;have sz:=hb.size;simp only [World.size_alloc] at sz;have ay:=aJ.below (aJ.new _ #[.slice none 0 0, .slice none 0 0] 26) hb;obtain⟨aO,aP,aX,bJ⟩ :=ay.f2;clear hb;clear aF aG aK aV;obtain⟨aF,aG,aK,aV⟩ :=aC.f2;clear aA aB aI aU;obtain⟨aA,aB,aI,aU⟩ :=au.f2) | ((with_reducible refine(hq _ (hB.alloc hB.size _).drew).mono ?_);rintro e wq ⟨rfl,hb⟩;replace hb:=eY hb;replace aC:= (aC.alloc _).below hb;replace au:= (au.alloc _).below hb; (try replace aT:=aT.step hb);replace hB:=eF hB hb hB.size;have sz:=hb.size;simp only [World.size_alloc] at sz;have ay:=aJ.below (aJ.new _ #[.slice none 0 0, .slice none 0 0] 26) hb;obtain⟨aO,aP,aX,bJ⟩ :=ay.f2;clear hb;clear aF aG aK aV;obtain⟨aF,aG,aK,aV⟩ :=aC.f2;clear aA aB aI aU;obtain⟨aA,aB,aI,aU⟩ :=au.f2))))
  all_goals
   go_wp2_with fail
   go_meet
   first|exact⟨_,aH,rfl,rfl,aC.alloc _,au.alloc _,aJ.new _ _ _,aT.aN _,fun g hg=> ⟨by have:=l_c g hg;omega,by have:=u_c g hg;omega⟩,by omega,hB.alloc hB.size _,by simp<;>omega⟩ | (obtain⟨go,hgo,kT⟩ :=ay.ad;rw [←hgo];exact⟨go,aH,rfl,rfl, ((aC.other (by omega) _).other (by omega) _), ((au.other (by omega) _).other (by omega) _), ((kT.set 0 _).set 1 _),aT.bn (F:= [go]) (by repeat (first|exact bW.refl _ _|refine bW.gI ?_ (by simp) _|refine bW.aN ?_ _|refine bW.gU ?_)) (fun g hg hm=>by simp only [List.mem_cons,List.not_mem_nil,or_false] at hm;have:=l_c g hg;have:=u_c g hg;omega),fun g hg=> ⟨by have:=l_c g hg;omega,by have:=l_c g hg;have:=u_c g hg;omega⟩,by omega,Below.trans hB (by repeat (first|exact Below.refl _ _|refine Below.setCell ?_ (by simp<;>omega) _|refine Below.alloc ?_ (by simp<;>omega) _|refine Below.drew ?_)),by simp<;>omega⟩)
 case rest=>
  clear aC aK aV aF aG
  clear au aI aU aA aB
  clear hB
  obtain⟨go,aH,rfl,rfl,aC,au,ay,aT,AA,sM,hB,sz⟩ :=hcut
  have l_c:=fun g hg=> (AA g hg).1
  have jR:=fun g hg=> (AA g hg).2
  have u_c:=aT.lt
  clear AA
  have iF:=ay.lt
  obtain⟨aF,aG,aK,aV⟩ :=aC.f2
  obtain⟨aA,aB,aI,aU⟩ :=au.f2
  obtain⟨aO,aP,aX,bJ⟩ :=ay.f2
  clear hq hcp
  go_wp2_with (go_at_call 36;refine(gW _ _ _ _).mono ?_;rw [hiw];rintro e wv ⟨rfl,rfl⟩)
  go_region_with (first| (go_at_call 69; (first| ((with_reducible refine(hga _).mono ?_);rintro e wq ⟨rfl,rfl⟩) | ((with_reducible refine(hga _).mono ?_);rintro e wq ⟨rfl,rfl⟩))) | (go_at_call 71; (first| ((with_reducible refine(hfx _).mono ?_);rintro e wq ⟨rfl,hb⟩;replace aC:=aC.below hb;replace au:=au.below hb;replace ay:=ay.below hb;replace aT:=aT.step0 hb; (try replace aT:=aT.step0 hb);replace hB:=hB.trans (hb.mono hB.size);have sz:=hb.size;clear hb;clear aF aG aK aV;obtain⟨aF,aG,aK,aV⟩ :=aC.f2;clear aA aB aI aU;obtain⟨aA,aB,aI,aU⟩ :=au.f2;clear aO aP aX bJ;obtain⟨aO,aP,aX,bJ⟩ :=ay.f2) | ((with_reducible refine(hfx _).mono ?_);rintro e wq ⟨rfl,hb⟩;replace hb:=eY hb;replace aC:=aC.below hb;replace au:=au.below hb;replace ay:=ay.below hb;replace aT:=aT.step0 hb; (try replace aT:=aT.step0 hb);replace hB:=hB.trans (hb.mono hB.size);have sz:=hb.size;clear hb;clear aF aG aK aV;obtain⟨aF,aG,aK,aV⟩ :=aC.f2;clear aA aB aI aU;obtain⟨aA,aB,aI,aU⟩ :=au.f2;clear aO aP aX bJ;obtain⟨aO,aP,aX,bJ⟩ :=ay.f2))) | (go_at_call 70; ((with_reducible refine(rH _ _ _ P t (show bF FI 3 _ (.slice aH.Y.a aH.Y.l aH.Y.c) x.Y from aT.Y) Bu.out Bv.out).mono ?_);rintro e wq ⟨rfl,hbN,hx⟩;replace hB:=hB.trans (hx.below hB.size (fun g hm=>by have:=l_c g (dA.jh hm);omega));have sz:=hx.size;replace aC:=aC.bn hx (fun hm=>by have:=l_c _ (dA.jh hm);have:=u_c _ (dA.jh hm);omega);replace au:=au.bn hx (fun hm=>by have:=l_c _ (dA.jh hm);have:=u_c _ (dA.jh hm);omega);replace ay:=ay.bn hx (fun hm=>by have:=l_c _ (dA.jh hm);have:=u_c _ (dA.jh hm);have:=jR _ (dA.jh hm);omega);replace aT:= (show eT _ aH {x with Y:=putAt x.Y P (nums t)} from aT.setBytes hbN hx);clear hx;clear aF aG aK aV;obtain⟨aF,aG,aK,aV⟩ :=aC.f2;clear aA aB aI aU;obtain⟨aA,aB,aI,aU⟩ :=au.f2;clear aO aP aX bJ;obtain⟨aO,aP,aX,bJ⟩ :=ay.f2)))
  all_goals
   rw [Cu.out] at aT
   go_wp2_with fail
   refine bodyPost_ret (v:= .tuple #[.agg #[.slice aH.Y.a aH.Y.l aH.Y.c, .slice aH.Z.a aH.Z.l aH.Z.c], .bool true]) (by simp [results,Try.results42,go_sem,aA,aB]) rfl ⟨aH,rfl,by rw [HV.out];exact aT.bn (F:= [w.heap.size+1]) (by repeat (first|exact bW.refl _ _|refine bW.gI ?_ (by simp) _|refine bW.aN ?_ _|refine bW.gU ?_)) (fun g hg hm=>by simp only [List.mem_cons,List.not_mem_nil,or_false] at hm;have:=l_c g hg;have:=u_c g hg;omega),fun g hg=>by have:=l_c g hg;omega,Below.trans hB (by repeat (first|exact Below.refl _ _|refine Below.setCell ?_ (by simp<;>omega) _|refine Below.alloc ?_ (by simp<;>omega) _|refine Below.drew ?_))⟩
end Go.Proofs.Ytkmggglljkmjoaa
