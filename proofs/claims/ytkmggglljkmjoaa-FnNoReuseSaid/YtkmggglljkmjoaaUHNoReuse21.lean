/-
  Several texts in one: lemmas and contracts that the claim rests on.
-/
import Derived.Test.YtkmggglljkmjoaaUHNoReuse2
import Derived.Test.YtkmggglljkmjoaaUHNoReuse1
import Derived.Deep.QuietTactic
import Derived.BigQuiet
import Derived.Deep.LoopGhost
import Derived.Deep.RegionHeld3
import Derived.WalkSpells
import Derived.Laws.Cover3
import Derived.Test.YtkmggglljkmjoaaUHNoReuse20
import Derived.Test.YtkmggglljkmjoaaUHNoReuse16
import Derived.Test.YtkmggglljkmjoaaUHNoReuse12
import Derived.Test.YtkmggglljkmjoaaUHNoReuse3
import Derived.Test.YtkmggglljkmjoaaUHNoReuse18
namespace Go.Proofs.Ytkmggglljkmjoaa
open Go.RowKit
structure yL (w wr : World)(am i : Nat)(K : bY)(m : Mem)(all gone live : List Int)(va vg vl : Value)(ba bg bl : Nat) : Prop where
 bM : aJ wr am [.slice K.E.Y.a K.E.Y.l K.E.Y.c, .slice K.E.Z.a K.E.Z.l K.E.Z.c, .slice K.I.G.a K.I.G.l K.I.G.c, .slice K.I.O.a K.I.O.l K.I.O.c]
 oM : eZ wr K m
 oA : bF FI 3 wr va all
 oG : bF FI 3 wr vg gone
 oL : bF FI 3 wr vl live
 fM : ∀b∈K.foot,w.heap.size≤b∧ (b<am∨am<b) ∧ (b<ba∨ba<b) ∧ (b<bg∨bg<b) ∧ (b<bl∨bl<b)
 fA : ∀b∈bL va,b≤ba∧ba≤b
 fG : ∀b∈bL vg,b≤bg∧bg≤b
 fL : ∀b∈bL vl,b≤bl∧bl≤b
 ne : am≠ba∧am≠bg∧am≠bl∧ba≠bg∧ba≠bl∧bg≠bl
 lo : w.heap.size≤am∧w.heap.size≤ba∧w.heap.size≤bg∧w.heap.size≤bl
 hi : ba<wr.heap.size∧bg<wr.heap.size∧bl<wr.heap.size
 nr : NR m all gone live
 ln : all.length≤i∧gone.length≤i∧live.length≤i
 ps : (i=0∧m=lU∧live= []) ∨all≠ []
 hB : Below w.heap.size w wr
theorem nH (g : Nat)(n c : Nat) : ∀b∈bL (.slice (some ⟨g,0,none⟩) n c),b≤g∧g≤b:=fun b hb=>by
 have:=dw.1 hb
 omega
theorem kC {w : World}{g j a i : Nat}{u v : Value}(h : w.cell? ⟨g,j,none⟩ =some v)(hn : a≠g) : (w.setCell ⟨a,i,none⟩ u).cell? ⟨g,j,none⟩ =some v:=by
 have e:=jo w u (i:=i) hn
 simp only [World.cell?] at h⊢
 rw [e]
 exact h
theorem jL {w : World}{g j : Nat}{o : Obj}{v : Value}(h : w.cell? ⟨g,j,none⟩ =some v)(hn : g<w.heap.size) : (w.alloc o).cell? ⟨g,j,none⟩ =some v:= (oU w o g j hn).trans h
theorem jX {w : World}{g j : Nat}{v : Value}(h : w.cell? ⟨g,j,none⟩ =some v) : w.drew.cell? ⟨g,j,none⟩ =some v:=h
theorem kD (w : World) : w.drew.heap.size=w.heap.size:=rfl
theorem eX.gU {w : World}{H : bY}{x : Mem}(h : eX w H x) : eX w.drew H x:=h.keep (fun _ _=>rfl)
theorem eZ.gU {w : World}{H : bY}{x : Mem}(h : eZ w H x) : eZ w.drew H x:=h.keep (fun _ _=>rfl)
theorem bF.kM {w : World}{v : Value}{l : List Int}(h : bF FI 3 w v l) : bF FI 3 w.drew v l:=h.keep (fun _ _=>rfl)
theorem cellL {w : World}{g o n c kk : Nat}{l : List Int}{hd : Int}(h : bF FI 3 w (.slice (some ⟨g,o,none⟩) n c) l)(e : l[kk]? =some hd) : w.cell? ⟨g,o+kk,none⟩ =some (.int .i64 hd) :=by
 obtain⟨g',off,cap',he,_,_,_,hc⟩ :=h.rd'.at_ e
 injection he with he1
 injection he1 with he1
 injection he1 with a b
 subst a b
 simpa [FI] using hc 0 _ rfl
theorem kE {w : World}{v v' : Value}{b0 n : Nat}(hat : v'.ownBlock=v.ownBlock∨v'.ownBlock=some w.heap.size)(h : ∀b∈bL v,b≤b0∧b0≤b)(hn : ∀b∈bL v',b<n) : ∃b1, (∀b∈bL v',b≤b1∧b1≤b) ∧ (b1=b0∨ (b1=w.heap.size∧b1<n)) :=by
 rcases hat with e|e
 ·exact⟨b0,fun b hb=>h b (bH.2 (by rw [←bH.1 hb,e])), .inl rfl⟩
 ·exact⟨w.heap.size,fun b hb=>by have:=bH.1 hb;rw [e] at this;injection this with this;omega, .inr ⟨rfl,hn _ (bH.2 e)⟩⟩
theorem dz.BF {α : Type}{T : FT α}{w : World}{B : Nat}{A : Option Addr}{n c : Nat}{l : List α}(h : dz T w B (.slice A n c) l)(m : Nat)(hm : m≤l.length) : dz T w B (.slice A m c) (l.take m) :=by
 obtain⟨A',c',hv,h1,h2,h3⟩ :=h
 injection hv with e1 e2 e3
 subst e1 e2 e3
 have hl : (l.take m).length=m:=by rw [List.length_take];omega
 refine⟨A,c,by rw [hl],by rw [hl];omega,h2,fun hne=> ?_⟩
 obtain⟨g,off,hA,hg,hc⟩ :=h3 (by rintro rfl;simp at hne)
 refine⟨g,off,hA,hg,fun j u hu=>hc j u ?_⟩
 have e : flat T l=flat T (l.take m) ++flat T (l.drop m) :=by rw [←nT,List.take_append_drop]
 rw [e,List.getElem?_append_left (List.getElem?_eq_some_iff.1 hu).1]
 exact hu
theorem yL.start {w w1 : World}{K : bY}{m : Mem}(hm : lU=m)(o : eX w1 K m)(l : ∀g∈K.foot,w.heap.size≤g)(hB : Below w.heap.size w w1)(nr : NR m [] [] []) :
  yL w ((((w1.alloc (.cells #[.slice K.E.Y.a K.E.Y.l K.E.Y.c, .slice K.E.Z.a K.E.Z.l K.E.Z.c, .slice K.I.G.a K.I.G.l K.I.G.c, .slice K.I.O.a K.I.O.l K.I.O.c] 31)).alloc (.cells #[] 3)).alloc (.cells #[] 3)).alloc (.cells #[] 3)) w1.heap.size 0 K m [] [] []
   (.slice (some ⟨w1.heap.size+1,0,none⟩) 0 0) (.slice (some ⟨w1.heap.size+1+1,0,none⟩) 0 0) (.slice (some ⟨w1.heap.size+1+1+1,0,none⟩) 0 0) (w1.heap.size+1) (w1.heap.size+1+1) (w1.heap.size+1+1+1) :=by
 have hz:=hB.size
 have hl:=fun (W : World) =>bF.lit FI [] #[] rfl (by simp [maxLen]) W 3
 have h1:= ((hl (w1.alloc (.cells #[.slice K.E.Y.a K.E.Y.l K.E.Y.c, .slice K.E.Z.a K.E.Z.l K.E.Z.c, .slice K.I.G.a K.I.G.l K.I.G.c, .slice K.I.O.a K.I.O.l K.I.O.c] 31))).aN (.cells #[] 3)).aN (.cells #[] 3)
 have h2:= (hl ((w1.alloc (.cells #[.slice K.E.Y.a K.E.Y.l K.E.Y.c, .slice K.E.Z.a K.E.Z.l K.E.Z.c, .slice K.I.G.a K.I.G.l K.I.G.c, .slice K.I.O.a K.I.O.l K.I.O.c] 31)).alloc (.cells #[] 3))).aN (.cells #[] 3)
 have h3:=hl (((w1.alloc (.cells #[.slice K.E.Y.a K.E.Y.l K.E.Y.c, .slice K.E.Z.a K.E.Z.l K.E.Z.c, .slice K.I.G.a K.I.G.l K.I.G.c, .slice K.I.O.a K.I.O.l K.I.O.c] 31)).alloc (.cells #[] 3)).alloc (.cells #[] 3))
 simp only [World.size_alloc] at h1 h2 h3
 exact {bM:= (((aJ.new w1 _ _).alloc _).alloc _).alloc _,oM:= (((o.toW.aN _).aN _).aN _).aN _,oA:=h1,oG:=h2,oL:=h3,fM:=fun b hb=>by have:=l b hb;have:=o.lt b hb;omega,fA:=nH _ _ _,fG:=nH _ _ _,fL:=nH _ _ _,ne:=by omega,lo:=by omega,hi:=by simp only [World.size_alloc];omega,nr:=nr,ln:= ⟨Nat.le_refl _,Nat.le_refl _,Nat.le_refl _⟩,ps:= .inl ⟨rfl,hm.symm,rfl⟩,hB:=by exact(((hB.alloc hB.size _).alloc (by simp;omega) _).alloc (by simp;omega) _).alloc (by simp;omega) _}
end Go.Proofs.Ytkmggglljkmjoaa
namespace Go.Proofs.Ytkmggglljkmjoaa.Lim
open Go.RowKit
def kK : FT Int:= {n:=1,enc:=fun x=> [.int .u8 x],dflt:=0,len:=fun _=>rfl,one:=by intro x u hu;simp at hu;subst hu;rfl,pos:=by decide,small:=by decide}
end Go.Proofs.Ytkmggglljkmjoaa.Lim
namespace Go.Proofs.Ytkmggglljkmjoaa
open Go.RowKit
set_option maxHeartbeats 400000 in
theorem CJ (w : World)(A : Option Addr)(n c : Nat)(h : n≤1048576) : Calls Try.prog 4 #[.slice A n c] w fun e w'=>e= .returned (.bool false) ∧w=w':=by
 go_enter Try.func4,Try.ntmps4
 go_wp2
 go_ret
 exact⟨by first|rfl| (simp;omega),rfl⟩
set_option maxHeartbeats 400000 in
theorem BO (w : World)(A : Option Addr)(n c : Nat)(h : ¬ n≤1048576)(h2 : n≤9223372036854775807) : Calls Try.prog 4 #[.slice A n c] w fun e w'=>e= .returned (.bool true) ∧w=w':=by
 have h' : 1048576<n:=by omega
 go_enter Try.func4,Try.ntmps4
 go_wp2
 go_ret
 exact⟨by first|rfl| (simp;omega),rfl⟩
set_option maxHeartbeats 1000000 in
theorem Af (w : World)(v : Value)(z : List Int)(x : Int)(h : dz FI w w.heap.size v z) :
  Calls Try.prog 9 #[v, .int .i64 x] w fun e w'=>e= .returned (.bool (z.any fun y=>y == x)) ∧Below w.heap.size w w':=by
 obtain⟨A,c,hv,q1,q2,_⟩ :=id h
 have kR : z.length≤9223372036854775807:=by unfold maxLen at q2;omega
 subst hv
 clear q1 q2
 go_enter Try.func9,Try.ntmps9
 go_wp2
 go_loopw [5] (fun i wr=> ∃k : Nat,k≤z.length∧i= .int .i64 k∧Below w.heap.size w wr∧ (z.take k).any (fun y=>y == x) =false) (fun i _=>z.length - (intOf i).toNat)
 case atStart=>exact⟨0,Nat.zero_le _,rfl,Below.refl _ _,rfl⟩
 case round=>
  obtain⟨i,hi,rfl,hb,hno⟩ :=hrel
  have HN:=Hid.aD hno
  clear hno
  by_cases hlt : i<z.length
  ·obtain⟨g,off,cap',he,hg,_,_,hc⟩ := (h.below hb).at_ (List.getElem?_eq_getElem hlt)
   injection he with he1 he2 gq
   clear he2
   subst he1 gq
   have p0 : wr.cell? ⟨g,off+i,none⟩ =some (.int .i64 z[i]) :=by simpa [FI] using hc 0 _ rfl
   clear hc h
   by_cases hz : z[i]=x
   ·have hz1 : (z[i] == x) =true:=by simpa using hz
    have HP:=Hid.aD (show (z.any fun y=>y == x) =true from List.any_eq_true.2 ⟨z[i],List.getElem_mem hlt,hz1⟩)
    clear hz
    go_wp2
    go_ret
    exact⟨aS HP.out.symm,hb⟩
   ·have hz1 : (z[i] == x) =false:=by simpa using hz
    have HP:=Hid.aD (any_take_succ (fun y=>y == x) z i hlt HN.out hz1)
    clear hz
    go_wp2
    go_roundw
    case rel=>exact⟨i+1,by omega,by go_num,hb,HP.out⟩
    case measure=>simp [intOf];omega
  ·go_wp2
   go_ret
   obtain rfl : i=z.length:=by omega
   exact⟨aS (by simpa using HN.out.symm),hb⟩
end Go.Proofs.Ytkmggglljkmjoaa
namespace Go.Proofs.Ytkmggglljkmjoaa
open Go.RowKit
open Go.Proofs.Ytkmggglljkmjoaa.Lim
def xE (code : List Int)(i : Nat) : Int:=if h : i<code.length then code[i] else ((i * 37+code.length * 11 : Nat) : Int) %256
theorem Ah {code : List Int}(hb : ∀x∈code,0≤x∧x≤255)(i : Nat) : 0≤xE code i∧xE code i≤255:=by
 unfold xE
 split
 ·exact hb _ (List.getElem_mem _)
 ·omega
set_option maxHeartbeats 1000000 in
theorem Dm (w : World)(v : Value)(code : List Int)(i : Nat)(h : dz kK w w.heap.size v code)(hb : ∀x∈code,0≤x∧x≤255)(hi : i≤1000)(hs : code.length≤1048576) :
  Calls Try.prog 6 #[v, .int .i64 i] w fun e w'=>e= .returned (.int .i64 (xE code i)) ∧Below w.heap.size w w':=by
 obtain⟨A,c,hv,q1,q2,_⟩ :=id h
 subst hv
 clear q1 q2
 by_cases hlt : i<code.length
 ·obtain⟨g,off,cap',he,hg,_,_,hc⟩ :=h.at_ (List.getElem?_eq_getElem hlt)
  injection he with he1 he2 gq
  clear he2
  subst he1 gq
  have HA:=Hid.aD (show xE code i=code[i] from dif_pos hlt)
  have p0 : w.cell? ⟨g,off+i,none⟩ =some (.int .u8 code[i]) :=by simpa [kK] using hc 0 _ rfl
  have hx:=hb _ (List.getElem_mem hlt)
  have hx1:=hx.1
  have hx2:=hx.2
  clear hc h hx hb
  generalize code[i]=y at *
  have hw : IntKind.i64.wrap y=y:=by rw [IntKind.wrap_i64];omega
  go_enter Try.func6,Try.ntmps6
  go_wp2
  go_ret
  exact⟨by rw [HA.out];rfl,Below.refl _ _⟩
 ·have HA:=Hid.aD (show xE code i= ((i * 37+code.length * 11 : Nat) : Int) %256 from dif_neg hlt)
  go_enter Try.func6,Try.ntmps6
  go_wp2
  go_ret
  exact⟨by rw [HA.out];rfl,Below.refl _ _⟩
end Go.Proofs.Ytkmggglljkmjoaa
namespace Go.Proofs.Ytkmggglljkmjoaa
open Go.RowKit
set_option maxRecDepth 100000 in
set_option maxHeartbeats 4000000 in
theorem xG (w : World)(H : bY)(x : Mem)(wk a : Int)(h : gD w w.heap.size H x)(hs : dS x≤536870912) :
  Calls Try.prog 7 #[.agg #[.slice H.E.Y.a H.E.Y.l H.E.Y.c, .slice H.E.Z.a H.E.Z.l H.E.Z.c, .slice H.I.G.a H.I.G.l H.I.G.c, .slice H.I.O.a H.I.O.l H.I.O.c], .int .i64 wk, .int .i64 a] w fun e w'=> ∃H' : bY,e= .returned (.tuple #[.agg #[.slice H'.E.Y.a H'.E.Y.l H'.E.Y.c, .slice H'.E.Z.a H'.E.Z.l H'.E.Z.c, .slice H'.I.G.a H'.I.G.l H'.I.G.c, .slice H'.I.O.a H'.I.O.l H'.I.O.c], .int .i64 (iC x wk a).2]) ∧eX w' H' (iC x wk a).1∧ (∀g∈H'.foot,w.heap.size≤g) ∧Below w.heap.size w w':=by
 have hcp:=fun (W : World) (hW : Below w.heap.size w W) =>jc W H x (eD h hW) hs
 have hmo:=fun (W : World) (hW : Below w.heap.size w W) =>iT W H x (eD h hW)
 by_cases c1 : bX x=true
 case neg=>
  have c1':= (Bool.not_eq_true _).mp c1
  have HV:=Hid.aD (sI (h:=a) (show bX x=false∨aW 0 2 wk=false from .inl c1'))
  clear c1
  obtain⟨w0,hW0⟩ : ∃x,x= ((w.alloc (.cells #[.slice H.E.Y.a H.E.Y.l H.E.Y.c, .slice H.E.Z.a H.E.Z.l H.E.Z.c, .slice H.I.G.a H.I.G.l H.I.G.c, .slice H.I.O.a H.I.O.l H.I.O.c] 31)).alloc (.cells #[.slice none 0 0, .slice none 0 0, .slice none 0 0, .slice none 0 0] 31)) := ⟨_,rfl⟩
  have aC : aJ w0 (w.heap.size) [.slice H.E.Y.a H.E.Y.l H.E.Y.c, .slice H.E.Z.a H.E.Z.l H.E.Z.c, .slice H.I.G.a H.I.G.l H.I.G.c, .slice H.I.O.a H.I.O.l H.I.O.c]:=by
   rw [hW0]
   exact aJ.alloc aJ.nw _
  have au : aJ w0 (w.heap.size+1) [.slice none 0 0, .slice none 0 0, .slice none 0 0, .slice none 0 0]:=by
   rw [hW0]
   exact aJ.nw
  have hB : Below w.heap.size w w0:=by
   rw [hW0]
   exact dn
  go_enter Try.func7,Try.ntmps7
  go_wp2_with fail
  rw [←hW0]
  clear hW0
  have jy:=aC.lt
  have ji:=au.lt
  obtain⟨aF,aG,aQ,aR,aK,aV⟩ :=aC.f4
  obtain⟨aA,aB,aL,aM,aI,aU⟩ :=au.f4
  refine(hmo _ hB).mono ?_
  rw [c1']
  rintro e w1 ⟨rfl,hb⟩
  replace aC:=aC.below hb
  replace au:=au.below hb
  replace hB:=hB.trans (hb.mono hB.size)
  have sz:=hb.size
  clear hb
  clear aF aG aQ aR aK aV
  obtain⟨aF,aG,aQ,aR,aK,aV⟩ :=aC.f4
  clear aA aB aL aM aI aU
  obtain⟨aA,aB,aL,aM,aI,aU⟩ :=au.f4
  clear hmo
  go_wp2_with fail
  refine(hcp _ hB).mono ?_
  rintro e w2 ⟨aH,rfl,aT,l_c,hb⟩
  have u_c:=aT.lt
  replace aC:=aC.below hb
  replace au:=au.below hb
  replace hB:=hB.trans (hb.mono hB.size)
  have sz:=hb.size
  clear hb
  clear aF aG aQ aR aK aV
  obtain⟨aF,aG,aQ,aR,aK,aV⟩ :=aC.f4
  clear aA aB aL aM aI aU
  obtain⟨aA,aB,aL,aM,aI,aU⟩ :=au.f4
  go_wp2_with fail
  refine bodyPost_ret (v:= .tuple #[.agg #[.slice aH.E.Y.a aH.E.Y.l aH.E.Y.c, .slice aH.E.Z.a aH.E.Z.l aH.E.Z.c, .slice aH.I.G.a aH.I.G.l aH.I.G.c, .slice aH.I.O.a aH.I.O.l aH.I.O.c], .int .i64 1]) (by simp [results,Try.results7,go_sem,aA,aB,aL,aM]) rfl ⟨aH,by rw [HV.out],by rw [HV.out];exact aT.bn (F:= [w.heap.size+1]) bV (fun g hg hm=>by simp only [List.mem_cons,List.not_mem_nil,or_false] at hm;have:=l_c g hg;have:=u_c g hg;omega),fun g hg=>by have:=l_c g hg;omega,Below.trans hB fJ⟩
 by_cases c2 : aW 0 2 wk=true
 case neg=>
  have c2':= (Bool.not_eq_true _).mp c2
  have HV:=Hid.aD (sI (m:=x) (h:=a) (show bX x=false∨aW 0 2 wk=false from .inr c2'))
  clear c2
  obtain⟨w0,hW0⟩ : ∃x,x= ((w.alloc (.cells #[.slice H.E.Y.a H.E.Y.l H.E.Y.c, .slice H.E.Z.a H.E.Z.l H.E.Z.c, .slice H.I.G.a H.I.G.l H.I.G.c, .slice H.I.O.a H.I.O.l H.I.O.c] 31)).alloc (.cells #[.slice none 0 0, .slice none 0 0, .slice none 0 0, .slice none 0 0] 31)) := ⟨_,rfl⟩
  have aC : aJ w0 (w.heap.size) [.slice H.E.Y.a H.E.Y.l H.E.Y.c, .slice H.E.Z.a H.E.Z.l H.E.Z.c, .slice H.I.G.a H.I.G.l H.I.G.c, .slice H.I.O.a H.I.O.l H.I.O.c]:=by
   rw [hW0]
   exact aJ.alloc aJ.nw _
  have au : aJ w0 (w.heap.size+1) [.slice none 0 0, .slice none 0 0, .slice none 0 0, .slice none 0 0]:=by
   rw [hW0]
   exact aJ.nw
  have hB : Below w.heap.size w w0:=by
   rw [hW0]
   exact dn
  go_enter Try.func7,Try.ntmps7
  go_wp2_with fail
  rw [←hW0]
  clear hW0
  have jy:=aC.lt
  have ji:=au.lt
  obtain⟨aF,aG,aQ,aR,aK,aV⟩ :=aC.f4
  obtain⟨aA,aB,aL,aM,aI,aU⟩ :=au.f4
  refine(hmo _ hB).mono ?_
  rw [c1]
  rintro e w1 ⟨rfl,hb⟩
  replace aC:=aC.below hb
  replace au:=au.below hb
  replace hB:=hB.trans (hb.mono hB.size)
  have sz:=hb.size
  clear hb
  clear aF aG aQ aR aK aV
  obtain⟨aF,aG,aQ,aR,aK,aV⟩ :=aC.f4
  clear aA aB aL aM aI aU
  obtain⟨aA,aB,aL,aM,aI,aU⟩ :=au.f4
  clear hmo
  go_wp2_with (go_at_call 17;refine(iH _ _).mono ?_;rw [c2'];rintro e wv ⟨rfl,rfl⟩)
  refine(hcp _ hB).mono ?_
  rintro e w2 ⟨aH,rfl,aT,l_c,hb⟩
  have u_c:=aT.lt
  replace aC:=aC.below hb
  replace au:=au.below hb
  replace hB:=hB.trans (hb.mono hB.size)
  have sz:=hb.size
  clear hb
  clear aF aG aQ aR aK aV
  obtain⟨aF,aG,aQ,aR,aK,aV⟩ :=aC.f4
  clear aA aB aL aM aI aU
  obtain⟨aA,aB,aL,aM,aI,aU⟩ :=au.f4
  go_wp2_with fail
  refine bodyPost_ret (v:= .tuple #[.agg #[.slice aH.E.Y.a aH.E.Y.l aH.E.Y.c, .slice aH.E.Z.a aH.E.Z.l aH.E.Z.c, .slice aH.I.G.a aH.I.G.l aH.I.G.c, .slice aH.I.O.a aH.I.O.l aH.I.O.c], .int .i64 1]) (by simp [results,Try.results7,go_sem,aA,aB,aL,aM]) rfl ⟨aH,by rw [HV.out],by rw [HV.out];exact aT.bn (F:= [w.heap.size+1]) bV (fun g hg hm=>by simp only [List.mem_cons,List.not_mem_nil,or_false] at hm;have:=l_c g hg;have:=u_c g hg;omega),fun g hg=>by have:=l_c g hg;omega,Below.trans hB fJ⟩
 have Fe:=Hid.aD (jN c1)
 have hlv:=fun (W : World) (hW : Below w.heap.size w W) =>rE W H x a (eD h hW) Fe.out
 by_cases c3 : fI x a=true
 case neg=>
  have c3':= (Bool.not_eq_true _).mp c3
  have HV:=Hid.aD (sJ c1 c2 c3')
  clear c3
  obtain⟨w0,hW0⟩ : ∃x,x= ((w.alloc (.cells #[.slice H.E.Y.a H.E.Y.l H.E.Y.c, .slice H.E.Z.a H.E.Z.l H.E.Z.c, .slice H.I.G.a H.I.G.l H.I.G.c, .slice H.I.O.a H.I.O.l H.I.O.c] 31)).alloc (.cells #[.slice none 0 0, .slice none 0 0, .slice none 0 0, .slice none 0 0] 31)) := ⟨_,rfl⟩
  have aC : aJ w0 (w.heap.size) [.slice H.E.Y.a H.E.Y.l H.E.Y.c, .slice H.E.Z.a H.E.Z.l H.E.Z.c, .slice H.I.G.a H.I.G.l H.I.G.c, .slice H.I.O.a H.I.O.l H.I.O.c]:=by
   rw [hW0]
   exact aJ.alloc aJ.nw _
  have au : aJ w0 (w.heap.size+1) [.slice none 0 0, .slice none 0 0, .slice none 0 0, .slice none 0 0]:=by
   rw [hW0]
   exact aJ.nw
  have hB : Below w.heap.size w w0:=by
   rw [hW0]
   exact dn
  go_enter Try.func7,Try.ntmps7
  go_wp2_with fail
  rw [←hW0]
  clear hW0
  have jy:=aC.lt
  have ji:=au.lt
  obtain⟨aF,aG,aQ,aR,aK,aV⟩ :=aC.f4
  obtain⟨aA,aB,aL,aM,aI,aU⟩ :=au.f4
  refine(hmo _ hB).mono ?_
  rw [c1]
  rintro e w1 ⟨rfl,hb⟩
  replace aC:=aC.below hb
  replace au:=au.below hb
  replace hB:=hB.trans (hb.mono hB.size)
  have sz:=hb.size
  clear hb
  clear aF aG aQ aR aK aV
  obtain⟨aF,aG,aQ,aR,aK,aV⟩ :=aC.f4
  clear aA aB aL aM aI aU
  obtain⟨aA,aB,aL,aM,aI,aU⟩ :=au.f4
  clear hmo
  go_wp2_with (go_at_call 17;refine(iH _ _).mono ?_;rw [c2];rintro e wv ⟨rfl,rfl⟩)
  refine(hlv _ hB).mono ?_
  rw [c3']
  rintro e w2 ⟨rfl,hb⟩
  replace aC:=aC.below hb
  replace au:=au.below hb
  replace hB:=hB.trans (hb.mono hB.size)
  have sz:=hb.size
  clear hb
  clear aF aG aQ aR aK aV
  obtain⟨aF,aG,aQ,aR,aK,aV⟩ :=aC.f4
  clear aA aB aL aM aI aU
  obtain⟨aA,aB,aL,aM,aI,aU⟩ :=au.f4
  clear hlv
  go_wp2_with fail
  refine(hcp _ hB).mono ?_
  rintro e w3 ⟨aH,rfl,aT,l_c,hb⟩
  have u_c:=aT.lt
  replace aC:=aC.below hb
  replace au:=au.below hb
  replace hB:=hB.trans (hb.mono hB.size)
  have sz:=hb.size
  clear hb
  clear aF aG aQ aR aK aV
  obtain⟨aF,aG,aQ,aR,aK,aV⟩ :=aC.f4
  clear aA aB aL aM aI aU
  obtain⟨aA,aB,aL,aM,aI,aU⟩ :=au.f4
  go_wp2_with fail
  refine bodyPost_ret (v:= .tuple #[.agg #[.slice aH.E.Y.a aH.E.Y.l aH.E.Y.c, .slice aH.E.Z.a aH.E.Z.l aH.E.Z.c, .slice aH.I.G.a aH.I.G.l aH.I.G.c, .slice aH.I.O.a aH.I.O.l aH.I.O.c], .int .i64 4]) (by simp [results,Try.results7,go_sem,aA,aB,aL,aM]) rfl ⟨aH,by rw [HV.out],by rw [HV.out];exact aT.bn (F:= [w.heap.size+1]) bV (fun g hg hm=>by simp only [List.mem_cons,List.not_mem_nil,or_false] at hm;have:=l_c g hg;have:=u_c g hg;omega),fun g hg=>by have:=l_c g hg;omega,Below.trans hB fJ⟩
 have HV:=Hid.aD (sK c1 c2 c3)
 obtain⟨b1,b2⟩ :=bD.1 c2
 obtain⟨k,rfl⟩ : ∃k : Nat,wk= (k : Int) := ⟨wk.toNat,by omega⟩
 have hk : k<3:=by omega
 rw [Int.toNat_natCast] at HV
 have hfr:=fun (W : World) (hW : Below w.heap.size w W) =>y8 W H x k a (eD h hW) hs c1 hk c3
 obtain⟨w0,hW0⟩ : ∃x,x= ((w.alloc (.cells #[.slice H.E.Y.a H.E.Y.l H.E.Y.c, .slice H.E.Z.a H.E.Z.l H.E.Z.c, .slice H.I.G.a H.I.G.l H.I.G.c, .slice H.I.O.a H.I.O.l H.I.O.c] 31)).alloc (.cells #[.slice none 0 0, .slice none 0 0, .slice none 0 0, .slice none 0 0] 31)) := ⟨_,rfl⟩
 have aC : aJ w0 (w.heap.size) [.slice H.E.Y.a H.E.Y.l H.E.Y.c, .slice H.E.Z.a H.E.Z.l H.E.Z.c, .slice H.I.G.a H.I.G.l H.I.G.c, .slice H.I.O.a H.I.O.l H.I.O.c]:=by
  rw [hW0]
  exact aJ.alloc aJ.nw _
 have au : aJ w0 (w.heap.size+1) [.slice none 0 0, .slice none 0 0, .slice none 0 0, .slice none 0 0]:=by
  rw [hW0]
  exact aJ.nw
 have hB : Below w.heap.size w w0:=by
  rw [hW0]
  exact dn
 go_enter Try.func7,Try.ntmps7
 go_wp2_with fail
 rw [←hW0]
 clear hW0
 have jy:=aC.lt
 have ji:=au.lt
 obtain⟨aF,aG,aQ,aR,aK,aV⟩ :=aC.f4
 obtain⟨aA,aB,aL,aM,aI,aU⟩ :=au.f4
 refine(hmo _ hB).mono ?_
 rw [c1]
 rintro e w1 ⟨rfl,hb⟩
 replace aC:=aC.below hb
 replace au:=au.below hb
 replace hB:=hB.trans (hb.mono hB.size)
 have sz:=hb.size
 clear hb
 clear aF aG aQ aR aK aV
 obtain⟨aF,aG,aQ,aR,aK,aV⟩ :=aC.f4
 clear aA aB aL aM aI aU
 obtain⟨aA,aB,aL,aM,aI,aU⟩ :=au.f4
 clear hmo
 go_wp2_with (go_at_call 17;refine(iH _ _).mono ?_;rw [c2];rintro e wv ⟨rfl,rfl⟩)
 refine(hlv _ hB).mono ?_
 rw [c3]
 rintro e w2 ⟨rfl,hb⟩
 replace aC:=aC.below hb
 replace au:=au.below hb
 replace hB:=hB.trans (hb.mono hB.size)
 have sz:=hb.size
 clear hb
 clear aF aG aQ aR aK aV
 obtain⟨aF,aG,aQ,aR,aK,aV⟩ :=aC.f4
 clear aA aB aL aM aI aU
 obtain⟨aA,aB,aL,aM,aI,aU⟩ :=au.f4
 clear hlv
 go_wp2_with fail
 refine(hfr _ hB).mono ?_
 rintro e w3 ⟨aH,rfl,aT,l_c,hb⟩
 have u_c:=aT.lt
 replace aC:=aC.below hb
 replace au:=au.below hb
 replace hB:=hB.trans (hb.mono hB.size)
 have sz:=hb.size
 clear hb
 clear aF aG aQ aR aK aV
 obtain⟨aF,aG,aQ,aR,aK,aV⟩ :=aC.f4
 clear aA aB aL aM aI aU
 obtain⟨aA,aB,aL,aM,aI,aU⟩ :=au.f4
 go_wp2_with fail
 refine bodyPost_ret (v:= .tuple #[.agg #[.slice aH.E.Y.a aH.E.Y.l aH.E.Y.c, .slice aH.E.Z.a aH.E.Z.l aH.E.Z.c, .slice aH.I.G.a aH.I.G.l aH.I.G.c, .slice aH.I.O.a aH.I.O.l aH.I.O.c], .int .i64 0]) (by simp [results,Try.results7,go_sem,aA,aB,aL,aM]) rfl ⟨aH,by rw [HV.out],by rw [HV.out];exact aT.bn (F:= [w.heap.size+1]) bV (fun g hg hm=>by simp only [List.mem_cons,List.not_mem_nil,or_false] at hm;have:=l_c g hg;have:=u_c g hg;omega),fun g hg=>by have:=l_c g hg;omega,Below.trans hB fJ⟩
end Go.Proofs.Ytkmggglljkmjoaa
namespace Go.Proofs.Ytkmggglljkmjoaa
open Go.RowKit
set_option maxRecDepth 100000 in
set_option maxHeartbeats 8000000 in
theorem zi (w : World)(H : bY)(x : Mem)(c : Nat)(h : gD w w.heap.size H x)(hs : dS x≤536870912)(hok : bX x=true)(hc : c<3)(hp : idxOf (fun y=>y == -1) x.E.Z= -1) :
  Calls Try.prog 24 #[.agg #[.slice H.E.Y.a H.E.Y.l H.E.Y.c, .slice H.E.Z.a H.E.Z.l H.E.Z.c, .slice H.I.G.a H.I.G.l H.I.G.c, .slice H.I.O.a H.I.O.l H.I.O.c], .int .i64 c] w fun e w'=> ∃H' : bY,e= .returned (.tuple #[.agg #[.slice H'.E.Y.a H'.E.Y.l H'.E.Y.c, .slice H'.E.Z.a H'.E.Z.l H'.E.Z.c, .slice H'.I.G.a H'.I.G.l H'.I.G.c, .slice H'.I.O.a H'.I.O.l H'.I.O.c], .int .i64 (-1)]) ∧eX w' H' (x) ∧ (∀g∈H'.foot,w.heap.size≤g) ∧Below w.heap.size w w':=by
 have iO : iK x.E≤536870912∧eU x.I≤536870912:=by unfold dS at hs;omega
 have hgr:=fun (W : World) (hW : Below w.heap.size w W) =>AB W H.E x.E c (dH h.E hW) iO.1 (l5 hok) hc hp
 have hcl:=fun (W : World) (hW : Below w.heap.size w W) =>gN W H.I x.I (dP h.I hW) iO.2
 obtain⟨w0,hW0⟩ : ∃x,x= ((w.alloc (.cells #[.slice H.E.Y.a H.E.Y.l H.E.Y.c, .slice H.E.Z.a H.E.Z.l H.E.Z.c, .slice H.I.G.a H.I.G.l H.I.G.c, .slice H.I.O.a H.I.O.l H.I.O.c] 31)).alloc (.cells #[.slice none 0 0, .slice none 0 0, .slice none 0 0, .slice none 0 0] 31)) := ⟨_,rfl⟩
 have aC : aJ w0 (w.heap.size) [.slice H.E.Y.a H.E.Y.l H.E.Y.c, .slice H.E.Z.a H.E.Z.l H.E.Z.c, .slice H.I.G.a H.I.G.l H.I.G.c, .slice H.I.O.a H.I.O.l H.I.O.c]:=by
  rw [hW0]
  exact aJ.alloc aJ.nw _
 have au : aJ w0 (w.heap.size+1) [.slice none 0 0, .slice none 0 0, .slice none 0 0, .slice none 0 0]:=by
  rw [hW0]
  exact aJ.nw
 have hB : Below w.heap.size w w0:=by
  rw [hW0]
  exact dn
 go_enter Try.func24,Try.ntmps24
 go_wp2_with fail
 rw [←hW0]
 clear hW0
 have jy:=aC.lt
 have ji:=au.lt
 obtain⟨aF,aG,aQ,aR,aK,aV⟩ :=aC.f4
 obtain⟨aA,aB,aL,aM,aI,aU⟩ :=au.f4
 clear iO hs hok hp
 refine(hgr _ hB).mono ?_
 rintro e w1 ⟨dD,GU,GV,rfl,bC,gF,hb⟩
 have jO:=bC.lt
 replace aC:=aC.below hb
 replace au:=au.below hb
 replace hB:=hB.trans (hb.mono hB.size)
 have sz:=hb.size
 clear hb
 clear aF aG aQ aR aK aV
 obtain⟨aF,aG,aQ,aR,aK,aV⟩ :=aC.f4
 clear aA aB aL aM aI aU
 obtain⟨aA,aB,aL,aM,aI,aU⟩ :=au.f4
 clear hgr
 go_upto_region 2 with (fail)
 generalize hO : Obj.cells #[.slice dD.Y.a dD.Y.l dD.Y.c, .slice dD.Z.a dD.Z.l dD.Z.c] 26=O_
 replace aC:=aC.alloc O_
 replace au:=au.alloc O_
 replace bC:=bC.aN O_
 replace hB:=hB.alloc hB.size O_
 have bR : aJ (w1.alloc O_) w1.heap.size [.slice dD.Y.a dD.Y.l dD.Y.c, .slice dD.Z.a dD.Z.l dD.Z.c]:=hO ▸ aJ.new _ _ _
 have l6:=bR.lt
 have sz : w1.heap.size≤ (w1.alloc O_).heap.size:=Nat.le_of_lt bR.lt
 generalize hG : (w1.alloc O_) =w2 at aC au bC hB bR l6 sz⊢
 clear hG hO O_
 clear aF aG aQ aR aK aV
 obtain⟨aF,aG,aQ,aR,aK,aV⟩ :=aC.f4
 clear aA aB aL aM aI aU
 obtain⟨aA,aB,aL,aM,aI,aU⟩ :=au.f4
 obtain⟨bZ,b_,dF,dX⟩ :=bR.f2
 go_upto_region 2 with (fail)
 go_cut [8] from 8 to 20 (fun v8 wx=> ∃ (go : Nat) (fQ : aY),v8= .pointer (some ⟨go,0,none⟩) ∧aJ wx (w.heap.size) [.slice H.E.Y.a H.E.Y.l H.E.Y.c, .slice H.E.Z.a H.E.Z.l H.E.Z.c, .slice H.I.G.a H.I.G.l H.I.G.c, .slice H.I.O.a H.I.O.l H.I.O.c]∧aJ wx (w.heap.size+1) [.slice none 0 0, .slice none 0 0, .slice none 0 0, .slice none 0 0]∧aJ wx (w1.heap.size) [.slice dD.Y.a dD.Y.l dD.Y.c, .slice dD.Z.a dD.Z.l dD.Z.c]∧aJ wx go [.slice dD.Y.a dD.Y.l dD.Y.c, .slice dD.Z.a dD.Z.l dD.Z.c, .slice fQ.G.a fQ.G.l fQ.G.c, .slice fQ.O.a fQ.O.l fQ.O.c]∧eT wx dD x.E∧dW wx fQ x.I∧ (∀g∈fQ.foot,w2.heap.size≤g∧g≠go) ∧w2.heap.size≤go∧Below w.heap.size w wx∧w2.heap.size≤wx.heap.size)
 case first=>
  go_region_with (first| (go_at_call 38; (first| ((with_reducible refine(hcl _ hB).mono ?_);rintro e wq ⟨fQ,rfl,bf,dB,hb⟩;have iG:=bf.lt;replace aC:=aC.below hb;replace au:=au.below hb;replace bR:=bR.below hb;replace bC:=bC.step0 hb;replace hB:=hB.trans (hb.mono hB.size);have sz:=hb.size; (try replace ay:=ay.below hb); (try replace aO:=ay.cell 0 _ rfl); (try replace aP:=ay.cell 1 _ rfl); (try replace bA:=ay.cell 2 _ rfl); (try replace bB:=ay.cell 3 _ rfl); (try replace aX:=ay.fP); (try replace bJ:=ay.lt);clear hb;clear aF aG aQ aR aK aV;obtain⟨aF,aG,aQ,aR,aK,aV⟩ :=aC.f4;clear aA aB aL aM aI aU;obtain⟨aA,aB,aL,aM,aI,aU⟩ :=au.f4;clear bZ b_ dF dX;obtain⟨bZ,b_,dF,dX⟩ :=bR.f2) | ((with_reducible refine(hcl _ hB.drew).mono ?_);rintro e wq ⟨fQ,rfl,bf,dB,hb⟩;replace hb:=eY hb;replace dB:=iA dB;have iG:=bf.lt;replace aC:=aC.below hb;replace au:=au.below hb;replace bR:=bR.below hb;replace bC:=bC.step0 hb;replace hB:=hB.trans (hb.mono hB.size);have sz:=hb.size; (try replace ay:=ay.below hb); (try replace aO:=ay.cell 0 _ rfl); (try replace aP:=ay.cell 1 _ rfl); (try replace bA:=ay.cell 2 _ rfl); (try replace bB:=ay.cell 3 _ rfl); (try replace aX:=ay.fP); (try replace bJ:=ay.lt);clear hb;clear aF aG aQ aR aK aV;obtain⟨aF,aG,aQ,aR,aK,aV⟩ :=aC.f4;clear aA aB aL aM aI aU;obtain⟨aA,aB,aL,aM,aI,aU⟩ :=au.f4;clear bZ b_ dF dX;obtain⟨bZ,b_,dF,dX⟩ :=bR.f2) | ((with_reducible refine(hcl _ (hB.alloc hB.size _)).mono ?_);rintro e wq ⟨fQ,rfl,bf,dB,hb⟩;simp only [World.size_alloc] at dB;have iG:=bf.lt;replace aC:= (aC.alloc _).below hb;replace au:= (au.alloc _).below hb;replace bR:= (bR.alloc _).below hb;replace bC:=bC.step hb;replace hB:=eF hB hb hB.size;have sz:=hb.size;simp only [World.size_alloc] at sz;have ay:=aJ.below (aJ.new _ #[.slice none 0 0, .slice none 0 0, .slice none 0 0, .slice none 0 0] 31) hb;obtain⟨aO,aP,bA,bB,aX,bJ⟩ :=ay.f4;clear hb;clear aF aG aQ aR aK aV;obtain⟨aF,aG,aQ,aR,aK,aV⟩ :=aC.f4;clear aA aB aL aM aI aU;obtain⟨aA,aB,aL,aM,aI,aU⟩ :=au.f4;clear bZ b_ dF dX;obtain⟨bZ,b_,dF,dX⟩ :=bR.f2) | ((with_reducible refine(hcl _ (hB.alloc hB.size _).drew).mono ?_);rintro e wq ⟨fQ,rfl,bf,dB,hb⟩;replace hb:=eY hb;replace dB:=iA dB;simp only [World.size_alloc] at dB;have iG:=bf.lt;replace aC:= (aC.alloc _).below hb;replace au:= (au.alloc _).below hb;replace bR:= (bR.alloc _).below hb;replace bC:=bC.step hb;replace hB:=eF hB hb hB.size;have sz:=hb.size;simp only [World.size_alloc] at sz;have ay:=aJ.below (aJ.new _ #[.slice none 0 0, .slice none 0 0, .slice none 0 0, .slice none 0 0] 31) hb;obtain⟨aO,aP,bA,bB,aX,bJ⟩ :=ay.f4;clear hb;clear aF aG aQ aR aK aV;obtain⟨aF,aG,aQ,aR,aK,aV⟩ :=aC.f4;clear aA aB aL aM aI aU;obtain⟨aA,aB,aL,aM,aI,aU⟩ :=au.f4;clear bZ b_ dF dX;obtain⟨bZ,b_,dF,dX⟩ :=bR.f2))))
  all_goals
   go_wp2_with fail
   go_meet
   first|exact⟨_,fQ,rfl,aC.alloc _,au.alloc _,bR.alloc _,aJ.new _ _ _,bC.aN _,bf.aN _,fun g hg=> ⟨by have:=dB g hg;omega,by have:=iG g hg;omega⟩,by omega,hB.alloc hB.size _,by simp<;>omega⟩ | (obtain⟨go,hgo,kT⟩ :=ay.ad;rw [←hgo];exact⟨go,fQ,rfl, ((((aC.other (by omega) _).other (by omega) _).other (by omega) _).other (by omega) _), ((((au.other (by omega) _).other (by omega) _).other (by omega) _).other (by omega) _), ((((bR.other (by omega) _).other (by omega) _).other (by omega) _).other (by omega) _), ((((kT.set 0 _).set 1 _).set 2 _).set 3 _),bC.bn (F:= [go]) bV (fun g hg hm=>by simp only [List.mem_cons,List.not_mem_nil,or_false] at hm;have:=gF g hg;have:=jO g hg;omega),bf.bn (F:= [go]) bV (fun g hg hm=>by simp only [List.mem_cons,List.not_mem_nil,or_false] at hm;have:=dB g hg;have:=iG g hg;omega),fun g hg=> ⟨by have:=dB g hg;omega,by have:=dB g hg;have:=iG g hg;omega⟩,by omega,Below.trans hB fJ,by simp<;>omega⟩)
 case rest=>
  clear aC aK aV aF aG aQ aR
  clear au aI aU aA aB aL aM
  clear bR dF dX bZ b_
  clear bC
  clear hB
  obtain⟨go,fQ,rfl,aC,au,bR,ay,bC,bf,nG,sM,hB,sz⟩ :=hcut
  have dB:=fun g hg=> (nG g hg).1
  have jR:=fun g hg=> (nG g hg).2
  have iG:=bf.lt
  clear nG
  have iF:=ay.lt
  obtain⟨aF,aG,aQ,aR,aK,aV⟩ :=aC.f4
  obtain⟨aA,aB,aL,aM,aI,aU⟩ :=au.f4
  obtain⟨bZ,b_,dF,dX⟩ :=bR.f2
  obtain⟨aO,aP,bA,bB,aX,bJ⟩ :=ay.f4
  clear hcl
  go_wp2_with fail
  refine bodyPost_ret (v:= .tuple #[.agg #[.slice dD.Y.a dD.Y.l dD.Y.c, .slice dD.Z.a dD.Z.l dD.Z.c, .slice fQ.G.a fQ.G.l fQ.G.c, .slice fQ.O.a fQ.O.l fQ.O.c], .int .i64 (-1)]) (by simp [results,Try.results24,go_sem,aA,aB,aL,aM]) rfl ⟨⟨dD,fQ⟩,rfl, ⟨bC.bn (F:= [w.heap.size+1]) bV (fun g hg hm=>by simp only [List.mem_cons,List.not_mem_nil,or_false] at hm;have:=gF g hg;have:=jO g hg;omega),bf.bn (F:= [w.heap.size+1]) bV (fun g hg hm=>by simp only [List.mem_cons,List.not_mem_nil,or_false] at hm;have:=dB g hg;have:=iG g hg;omega),fun b hb hm=>by have:=jO b hb;have:=gF b hb;have:=iG b hm;have:=dB b hm;omega⟩,fun b hb=>by rcases bY.aZ.1 hb with hb|hb; (have:=gF b hb;omega); (have:=dB b hb;omega),Below.trans hB fJ⟩
end Go.Proofs.Ytkmggglljkmjoaa
