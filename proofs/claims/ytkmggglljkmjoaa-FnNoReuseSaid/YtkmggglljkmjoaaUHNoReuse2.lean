/-
  Several texts in one: lemmas and contracts that the claim rests on.
-/
import Derived.Test.YtkmggglljkmjoaaUHNoReuse1
import Derived.ProofKit
import Derived.Deep.Slices
import Derived.Maps.AppendAt
import Derived.Deep.AppendLies
import Derived.RegionTactic
import Derived.OwnWalk
import Derived.Deep.QuietTactic
import Derived.BigQuiet
import Derived.Deep.LoopGhost
import Derived.Deep.RegionHeld3
import Derived.WalkSpells
import Derived.Laws.Cover3
import Derived.Deep.WholeRow
namespace Go.Proofs.Ytkmggglljkmjoaa
open Go.RowKit
structure SV where
 a : Option Addr
 l : Nat
 c : Nat
def SV.val (s : SV) : Value:= .slice s.a s.l s.c
def FS : FT SV:= {n:=1,enc:=fun s=> [.slice s.a s.l s.c],dflt:= ⟨none,0,0⟩,len:=fun _=>rfl,one:=by intro x u hu;simp at hu;subst hu;rfl,pos:=by decide,small:=by decide}
variable {α : Type} {T : FT α} {w w' : World} {B B' : Nat} {e E : TypeId} {v : Value} {ll : List (List α)} {dG : List SV}
def bL (v : Value) : List Nat:=v.ownBlock.toList
def dL (v : Value)(dG : List SV) : List Nat:=bL v++dG.flatMap fun s=>bL s.val
structure fO (T : FT α)(w : World)(B : Nat)(v : Value)(dG : List SV)(ll : List (List α)) : Prop where
 len : dG.length=ll.length
 outer : dz FS w B v dG
 inner : ∀ (k : Nat) (s : SV) (l : List α),dG[k]? =some s→ll[k]? =some l→dz T w B s.val l
structure dJ (T : FT α)(e E : TypeId)(w : World)(v : Value)(dG : List SV)(ll : List (List α)) : Prop where
 len : dG.length=ll.length
 outer : bF FS E w v dG
 inner : ∀ (k : Nat) (s : SV) (l : List α),dG[k]? =some s→ll[k]? =some l→bF T e w s.val l
 nodup : (dL v dG).Nodup
theorem bH {v : Value}{g : Nat} : g∈bL v↔v.ownBlock=some g:=by simp [bL,eq_comm]
theorem cu {v : Value}{dG : List SV}{g : Nat} : g∈dL v dG↔v.ownBlock=some g∨ ∃s∈dG,s.val.ownBlock=some g:=by
 simp [dL,bH]
theorem fO.keep (h : fO T w B v dG ll)(hk : ∀k,k<B→w'.heap[k]? =w.heap[k]?)(hB : B≤B') : fO T w' B' v dG ll:=
 ⟨h.len,h.outer.keep hk hB,fun k s l h1 h2=> (h.inner k s l h1 h2).keep hk hB⟩
theorem fO.aN (h : fO T w B v dG ll)(hB : B≤w.heap.size)(hB' : B≤B')(o : Obj) : fO T (w.alloc o) B' v dG ll:=
 h.keep (fun k hk=>Below.heap_alloc w o k (by omega)) hB'
theorem fO.below (h : fO T w B v dG ll)(hb : Below B w w') : fO T w' B v dG ll:=h.keep hb.block (Nat.le_refl _)
theorem fO.uH : fO T w B (.slice none 0 0) [] []:= ⟨rfl,dz.uH,fun k s l h=>by simp at h⟩
theorem dJ.lt (h : dJ T e E w v dG ll) : ∀g∈dL v dG,g<w.heap.size:=by
 intro g hg
 rcases cu.1 hg with h1| ⟨s,hs,h1⟩
 ·exact(World.ownsRow.lt h.outer _ h1).2
 ·obtain⟨k,hk,hks⟩ :=List.getElem_of_mem hs
  have hl : k<ll.length:=by rw [←h.len];exact hk
  exact(World.ownsRow.lt (h.inner k s ll[k] (by rw [List.getElem?_eq_getElem hk,hks]) (List.getElem?_eq_getElem hl)) _ h1).2
theorem dJ.rd (h : dJ T e E w v dG ll)(hB : ∀g∈dL v dG,g<B) : fO T w B v dG ll:=
 ⟨h.len,h.outer.rd fun g hg=>hB g (cu.2 (.inl hg)),fun k s l h1 h2=> (h.inner k s l h1 h2).rd fun g hg=>hB g (cu.2 (.inr ⟨s,List.mem_of_getElem? h1,hg⟩))⟩
theorem dJ.rd' (h : dJ T e E w v dG ll) : fO T w w.heap.size v dG ll:=h.rd h.lt
theorem dJ.keep (h : dJ T e E w v dG ll)(hk : ∀g∈dL v dG,w'.heap[g]? =w.heap[g]?) : dJ T e E w' v dG ll:=
 ⟨h.len,h.outer.keep fun g hg=>hk g (cu.2 (.inl hg)),fun k s l h1 h2=> (h.inner k s l h1 h2).keep fun g hg=>hk g (cu.2 (.inr ⟨s,List.mem_of_getElem? h1,hg⟩)),h.nodup⟩
theorem dJ.aN (h : dJ T e E w v dG ll)(o : Obj) : dJ T e E (w.alloc o) v dG ll:=
 h.keep fun g hg=>Below.heap_alloc w o g (h.lt g hg)
theorem sZ : ∀ {dG : List SV}, (dG.flatMap fun s=>bL s.val).Nodup→ ∀ {i k : Nat} {s s' : SV} {g : Nat},dG[i]? =some s→dG[k]? =some s'→i≠k→s.val.ownBlock=some g→s'.val.ownBlock=some g→False
 | [],_,i,k,s,s',g,hi,_,_,_,_=>by simp at hi
 |x::xs,hn,i,k,s,s',g,hi,hk,hne,hs,hs'=>by
  rw [List.flatMap_cons,List.nodup_append] at hn
  obtain⟨_,h2,h3⟩ :=hn
  cases i with
  |zero=>
   cases k with
   |zero=>exact hne rfl
   |succ k=>
    simp only [List.getElem?_cons_zero,Option.some.injEq] at hi
    subst hi
    simp only [List.getElem?_cons_succ] at hk
    exact h3 g (bH.2 hs) g (List.mem_flatMap.2 ⟨s',List.mem_of_getElem? hk,bH.2 hs'⟩) rfl
  |succ i=>
   simp only [List.getElem?_cons_succ] at hi
   cases k with
   |zero=>
    simp only [List.getElem?_cons_zero,Option.some.injEq] at hk
    subst hk
    exact h3 g (bH.2 hs') g (List.mem_flatMap.2 ⟨s,List.mem_of_getElem? hi,bH.2 hs⟩) rfl
   |succ k=>
    simp only [List.getElem?_cons_succ] at hk
    exact sZ h2 hi hk (fun e=>hne (by rw [e])) hs hs'
theorem dh {l : List α}(h : dz T w w.heap.size v l)(hb : Below w.heap.size w w') : dz T w' w'.heap.size v l:=h.keep hb.block hb.size
theorem mW (h : fO T w w.heap.size v dG ll)(hb : Below w.heap.size w w') : fO T w' w'.heap.size v dG ll:=h.keep hb.block hb.size
structure bW (F : List Nat)(w w' : World) : Prop where
 os : w'.os=w.os
 tape : w'.tape=w.tape
 output : w'.output=w.output
 size : w.heap.size≤w'.heap.size
 block : ∀k,k<w.heap.size→k∉F→w'.heap[k]? =w.heap[k]?
theorem bW.refl (F : List Nat)(w : World) : bW F w w:= ⟨rfl,rfl,rfl,Nat.le_refl _,fun _ _ _=>rfl⟩
theorem bW.trans {F : List Nat}{a b c : World}(h : bW F a b)(k : bW F b c) : bW F a c:=
 ⟨k.os.trans h.os,k.tape.trans h.tape,k.output.trans h.output,Nat.le_trans h.size k.size,fun i hi hn=> (k.block i (Nat.lt_of_lt_of_le hi h.size) hn).trans (h.block i hi hn)⟩
theorem bW.mono {F G : List Nat}{a b : World}(h : bW F a b)(hs : ∀g∈F,g∈G) : bW G a b:=
 ⟨h.os,h.tape,h.output,h.size,fun k hk hn=>h.block k hk fun hm=>hn (hs k hm)⟩
theorem bW.of_below {F : List Nat}{a b : World}(h : Below a.heap.size a b) : bW F a b:= ⟨h.os,h.tape,h.output,h.size,fun k hk _=>h.block k hk⟩
theorem bW.gP {a b : World}{v : Value}(h : a.grownBy b v.ownBlock) : bW (bL v) a b:=
 ⟨h.os,h.tape,h.output,h.size,fun k hk hn=>h.block k hk fun e=>hn (bH.2 e.symm)⟩
theorem bW.below {F : List Nat}{a b : World}{B : Nat}(h : bW F a b)(hB : B≤a.heap.size)(hF : ∀g∈F,B≤g) : Below B a b:=
 ⟨h.os,h.tape,h.output,h.size,fun k hk=>h.block k (by omega) fun hm=>by have:=hF k hm;omega⟩
theorem bF.bn {l : List α}{F : List Nat}(h : bF T e w v l)(hc : bW F w w')(hd : ∀g∈bL v,g∉F) : bF T e w' v l:=
 h.keep fun g hg=>hc.block g (World.ownsRow.lt h _ hg).2 (hd g (bH.2 hg))
theorem dJ.bn {F : List Nat}(h : dJ T e E w v dG ll)(hc : bW F w w')(hd : ∀g∈dL v dG,g∉F) : dJ T e E w' v dG ll:=
 h.keep fun g hg=>hc.block g (h.lt g hg) (hd g hg)
theorem dz.bn {l : List α}{F : List Nat}{B : Nat}(h : dz T w B v l)(hc : bW F w w')(hB : B≤w.heap.size)(hd : ∀g∈F,B≤g) : dz T w' B v l:=
 h.keep (fun k hk=>hc.block k (by omega) fun hm=>by have:=hd k hm;omega) (Nat.le_refl _)
theorem bW.cell {F : List Nat}(hc : bW F w w')(b o : Nat)(hb : b<w.heap.size)(hn : b∉F) : w'.cell? ⟨b,o,none⟩ =w.cell? ⟨b,o,none⟩ :=by
 simp [World.cell?,hc.block b hb hn]
theorem bW.frozen {F : List Nat}(hc : bW F w w')(b o : Nat)(hb : b<w.heap.size)(hn : b∉F) : w'.frozen? ⟨b,o,none⟩ =w.frozen? ⟨b,o,none⟩ :=by
 simp [World.frozen?,hc.block b hb hn]
theorem dQ {l : List α}(h : bF T e w v l) : ∀g∈bL v,g<w.heap.size:=fun _ hg=> (World.ownsRow.lt h _ (bH.1 hg)).2
theorem uZ : ∀ {dG : List SV} {i : Nat} {s : SV}, (dG.flatMap fun s=>bL s.val).Nodup→ (∀g∈bL s.val,g∉dG.flatMap fun s=>bL s.val) → ((dG.set i s).flatMap fun s=>bL s.val).Nodup
 | [],_,_,_,_=>by simp
 |x::xs,0,s,h,hs=>by
  rw [List.flatMap_cons,List.nodup_append] at h
  simp only [List.set_cons_zero,List.flatMap_cons,List.nodup_append]
  refine⟨?_,h.2.1,fun a ha b hb e=> ?_⟩
  ·unfold bL
   cases s.val.ownBlock<;>simp
  ·subst e
   exact hs a ha (List.mem_flatMap.2 (by
    obtain⟨y,hy,hm⟩ :=List.mem_flatMap.1 hb
    exact⟨y,List.mem_cons_of_mem _ hy,hm⟩))
 |x::xs,i+1,s,h,hs=>by
  rw [List.flatMap_cons,List.nodup_append] at h
  simp only [List.set_cons_succ,List.flatMap_cons,List.nodup_append]
  refine⟨h.1,uZ h.2.1 (fun g hg hm=>hs g hg ?_),fun a ha b hb e=> ?_⟩
  ·obtain⟨y,hy,hm⟩ :=List.mem_flatMap.1 hm
   exact List.mem_flatMap.2 ⟨y,List.mem_cons_of_mem _ hy,hm⟩
  ·subst e
   obtain⟨y,hy,hm⟩ :=List.mem_flatMap.1 hb
   rcases List.mem_or_eq_of_mem_set hy with hy|rfl
   ·exact h.2.2 a ha a (List.mem_flatMap.2 ⟨y,hy,hm⟩) rfl
   ·exact hs a hm (List.mem_flatMap.2 ⟨x,List.mem_cons_self ..,ha⟩)
theorem dJ.made (z : Array Value)(hz : z.toList= [.slice none 0 0])(n : Nat)(hn : n≤maxLen)(w : World)(T : FT α)(e E : TypeId) :
  dJ T e E (w.alloc (.cells (madeCells z (n * 1)) E)) (.slice (some ⟨w.heap.size,0,none⟩) n n) (List.replicate n ⟨none,0,0⟩) (List.replicate n []) :=by
 refine⟨by simp,bF.made FS z hz n hn w E,fun k s l hk hl=> ?_, ?_⟩
 ·rw [List.getElem?_replicate] at hk hl
  split at hk
  ·rename_i h
   rw [if_pos h] at hl
   cases hk
   cases hl
   exact World.ownsRow_nil _ _ _ _
  ·cases hk
 ·unfold dL
  have : (List.replicate n (⟨none,0,0⟩ : SV)).flatMap (fun s=>bL s.val) = []:=by
   rw [List.flatMap_eq_nil_iff]
   intro x hx
   rw [List.eq_of_mem_replicate hx]
   rfl
  rw [this]
  simp [bL,Value.ownBlock]
theorem fO.row {wr : World}{A : Option Addr}{n c i : Nat}(h : fO T w w.heap.size (.slice A n c) dG ll)(hb : Below w.heap.size w wr)(hi : i<ll.length) :
  ∃g o A' c',A=some ⟨g,o,none⟩ ∧g<w.heap.size∧wr.cell? ⟨g,o+i,none⟩ =some (.slice A' ll[i].length c') ∧dz T w w.heap.size (.slice A' ll[i].length c') ll[i]:=by
 have hs : i<dG.length:=by rw [h.len];exact hi
 obtain⟨g,o,cap,hv,hg,_,_,hc⟩ := (h.outer.below hb).at_ (List.getElem?_eq_getElem hs)
 have r:=h.inner i _ _ (List.getElem?_eq_getElem hs) (List.getElem?_eq_getElem hi)
 obtain⟨A',c',hv',_⟩ :=id r
 injection hv with e1 _ _
 have:=hc 0 _ rfl
 refine⟨g,o,A',c',e1,hg, ?_,by rw [←hv'];exact r⟩
 rw [←hv']
 simpa [FS,SV.val] using this
theorem fO.len' {A : Option Addr}{n c : Nat}(h : fO T w B (.slice A n c) dG ll) : n=ll.length∧ll.length≤c∧c≤maxLen:=by
 obtain⟨A',c',hv,q1,q2,_⟩ :=h.outer
 injection hv with _ e2 e3
 rw [h.len] at e2 q1
 subst e3
 exact⟨e2,q1,q2⟩
theorem j4 {dG : List SV}{i : Nat}{s : SV}{b : Nat}(h : b∈dL v (dG.set i s)) : b∈dL v dG∨b∈bL s.val:=by
 rcases cu.1 h with h1| ⟨y,hy,h1⟩
 ·exact .inl (cu.2 (.inl h1))
 ·rcases List.mem_or_eq_of_mem_set hy with hy|hy
  ·exact .inl (cu.2 (.inr ⟨y,hy,h1⟩))
  ·rw [hy] at h1
   exact .inr (bH.2 h1)
theorem mK (B n : Nat) : ∀g∈dL (.slice (some ⟨B,0,none⟩) n n) (List.replicate n ⟨none,0,0⟩),B≤g:=by
 intro g hg
 rcases cu.1 hg with h| ⟨y,hy,h⟩
 ·simp [Value.ownBlock] at h
  omega
 ·rw [List.eq_of_mem_replicate hy] at h
  simp [SV.val,Value.ownBlock] at h
def iJ (ll : List (List α)) : Nat:=ll.length+ (ll.map List.length).sum
def jE (ll : List (List α)) : Nat:= (ll.map List.length).sum
theorem lD (ll : List (List α))(i : Nat)(hi : i<ll.length) : jE (ll.take (i+1)) =jE (ll.take i) +ll[i].length:=by
 unfold jE
 rw [List.take_succ_eq_append_getElem hi,List.map_append,List.sum_append]
 simp only [List.map_cons,List.map_nil,List.sum_cons,List.sum_nil,Nat.add_zero]
theorem mY (ll : List (List α)) : jE ll=ll.flatten.length:=by unfold jE;rw [List.length_flatten]
theorem mG (ll : List (List α))(i : Nat) : jE (ll.take i) ≤jE ll:=by
 unfold jE
 conv=>rhs;rw [←List.take_append_drop i ll]
 rw [List.map_append,List.sum_append]
 omega
theorem lY {l : List α}(h : l∈ll) : l.length≤iJ ll:=by
 have : l.length≤ (ll.map List.length).sum:=by
  induction ll with
  |nil=>simp at h
  |cons x xs ih=>
   rcases List.mem_cons.1 h with rfl|h
   ·simp
   ·have:=ih h
    simp;omega
 unfold iJ
 omega
end Go.Proofs.Ytkmggglljkmjoaa
namespace Go.Proofs.Ytkmggglljkmjoaa
open Go.RowKit Go.ChangeShapes Go.WideShapes Go.Deep
def Opens (P : Program)(t : TypeId)(R : World→List Value→Prop) : Prop:=
 ∀ (H : Type) (enc : TypeId×Value→H) (W : World) (base : Nat) (spare : Nat→Bool) (held : Bool) (fuel : Nat) (cs : List Value) (x : DataW H×List MemPlace),DataW.trod enc P W base spare held fuel t cs=some x→R W cs
variable {P : Program} {t e : TypeId} {α : Type} {T : FT α}
theorem Opens.trod {R : World→List Value→Prop}(h : Opens P t R){H : Type}{enc : TypeId×Value→H}{W : World}{base : Nat}{spare : Nat→Bool}{held : Bool}{v : Value}{d : DataW H}{ps : List MemPlace}(ht : DataW.Trod enc P W base spare held t v d ps) : R W v.cells.toList:=by
 obtain⟨fuel,hf⟩ :=ht
 exact h H enc W base spare held fuel _ _ hf
theorem cell_spot {W : World}{a : Addr}{v : Value}(h : W.cell? a=some v) : a.spot=none:=by
 unfold World.cell? at h
 split at h
 ·split at h
  ·cases h
  ·rename_i hs
   cases hsp : a.spot with
   |none=>rfl
   |some _=>rw [hsp] at hs;simp at hs
 ·cases h
theorem q8 {R : World→List Value→Prop}{n : Nat}(ht : P.underlying t=some (.slice e))(hc : P.cellsOf e=n)(hn : 0<n)(he : Opens P e R) :
  Opens P t fun W cs=> ∃A len cap,cs= [.slice A len cap]∧len≤cap∧cap≤maxLen∧ (0<len→ ∃g off,A=some ⟨g,off,none⟩ ∧g<W.heap.size∧
   ∀i,i<len→ ∃cs',cs'.length=n∧R W cs'∧ ∀j u,cs'[j]? =some u→W.cell? ⟨g,off+ (i * n+j),none⟩ =some u) :=by
 intro H enc W base spare held fuel cs x h
 rcases open_slice ht h with ⟨rfl,_⟩ | ⟨a,len,cap,m,k,D,Pl,rfl,hb,hl,hm,hmm,_,hi⟩
 ·exact⟨none,0,0,rfl,Nat.le_refl _,by simp [maxLen],fun h=>absurd h (by omega)⟩
 ·refine⟨some a,len,cap,rfl,hl,hm,fun hpos=> ?_⟩
  have hlm : len≤m:=by rw [hmm];split<;>omega
  have hcell : ∀i,i<len→ ∃cs',cs'.length=n∧R W cs'∧ ∀j,j<n→W.cell? ((a.add (i * n)).add j) =cs'[j]? :=by
   intro i hil
   obtain⟨cs',h1,h2⟩ :=hi i (by omega)
   rw [hc] at h1
   obtain⟨_,h3,h4⟩ :=World.cells?_some h1
   exact⟨cs',h3,he H enc W base spare held k _ _ h2,h4⟩
  obtain⟨cs0,h3,_,h4⟩ :=hcell 0 hpos
  have h5:=h4 0 hn
  rw [Nat.zero_mul] at h5
  have ha0 : (a.add 0).add 0=a:=by simp [Addr.add]
  rw [ha0,List.getElem?_eq_getElem (by omega)] at h5
  have hsp:=cell_spot h5
  have hblk:=World.block_lt_of_cell? W _ h5
  obtain⟨g,off,spot⟩ :=a
  simp only at hsp
  subst hsp
  refine⟨g,off,rfl,hblk,fun i hil=> ?_⟩
  obtain⟨cs',q1,q2,q3⟩ :=hcell i hil
  refine⟨cs',q1,q2,fun j u hu=> ?_⟩
  have hj : j<n:=by
   have:= (List.getElem?_eq_some_iff.1 hu).1
   omega
  have q4:=q3 j hj
  rw [hu,Go.Deep.add_add] at q4
  rw [←q4]
  congr 1
  unfold Addr.add
  by_cases h0 : i * n+j=0
  ·rw [if_pos h0,h0];rfl
  ·rw [if_neg h0]
theorem yO (ht : P.underlying t=some (.slice e))(hc : P.cellsOf e=T.n)(he : Opens P e fun _ cs=> ∃y,cs=T.enc y) :
  Opens P t fun W cs=> ∃v l,cs= [v]∧dz T W W.heap.size v l:=by
 intro H enc W base spare held fuel cs x h
 obtain⟨A,len,cap,rfl,h1,h2,h3⟩ :=q8 ht hc T.pos he H enc W base spare held fuel cs x h
 by_cases hpos : 0<len
 ·obtain⟨g,off,rfl,hg,hi⟩ :=h3 hpos
  have : ∃f : Nat→α, ∀i,i<len→ ∀j u, (T.enc (f i))[j]? =some u→W.cell? ⟨g,off+ (i * T.n+j),none⟩ =some u:=by
   have hex : ∀i, ∃y : α,i<len→ ∀j u, (T.enc y)[j]? =some u→W.cell? ⟨g,off+ (i * T.n+j),none⟩ =some u:=by
    intro i
    by_cases hil : i<len
    ·obtain⟨cs',_, ⟨y,rfl⟩,q⟩ :=hi i hil
     exact⟨y,fun _=>q⟩
    ·exact⟨T.dflt,fun h=>absurd h hil⟩
   exact⟨fun i=>Classical.choose (hex i),fun i hil=>Classical.choose_spec (hex i) hil⟩
  obtain⟨f,hf⟩ :=this
  refine⟨_, (List.range len).map f,rfl,some ⟨g,off,none⟩,cap,by simp,by simpa using h1,h2,fun _=> ⟨g,off,rfl,hg,fun j u hu=> ?_⟩⟩
  have hj : j<len * T.n:=by
   have:= (List.getElem?_eq_some_iff.1 hu).1
   rw [kG] at this
   simpa using this
  have hp:=T.pos
  have hq : j / T.n<len:=by rw [Nat.div_lt_iff_lt_mul hp];exact hj
  have hx : ((List.range len).map f)[j / T.n]? =some (f (j / T.n)) :=by simp [hq]
  have hfg:=flat_get T _ (j / T.n) (j%T.n) _ hx (Nat.mod_lt _ hp)
  have hjj : j / T.n * T.n+j%T.n=j:=by rw [Nat.mul_comm];exact Nat.div_add_mod j T.n
  rw [hjj] at hfg
  rw [hfg] at hu
  have:=hf _ hq _ u hu
  rw [hjj] at this
  exact this
 ·have h0 : len=0:=by omega
  subst h0
  exact⟨_, [],rfl,A,cap,rfl,h1,h2,fun hne=>absurd rfl hne⟩
end Go.Proofs.Ytkmggglljkmjoaa
namespace Go.Proofs.Ytkmggglljkmjoaa
def FI : FT Int:= {n:=1,enc:=fun x=> [.int .i64 x],dflt:=0,len:=fun _=>rfl,one:=by intro x u hu;simp at hu;subst hu;rfl,pos:=by decide,small:=by decide}
end Go.Proofs.Ytkmggglljkmjoaa
namespace Go.Proofs.Ytkmggglljkmjoaa
open Go.RowKit
structure ST {α : Type}(P : Program)(T : FT α)(t e : TypeId) : Prop where
 und : P.underlying t=some (.slice e)
 info : ∃z bytes, (P.info? e).map (fun i=> (i.zero,i.size,i.bytes)) =some (some z,T.n,bytes) ∧z.cells.size=T.n∧bytes≤1024
variable {α : Type} {T : FT α} {w : World} {t e : TypeId} {P : Program}
theorem Ap (T : FT α)(l : List α) : ∀u∈flat T l,u.oneCell'=true:=by
 intro u hu
 obtain⟨x,_,hx⟩ :=List.mem_flatMap.1 hu
 exact T.one x u hx
theorem tq {base size : Nat}{i : TypeInfo}(ht : P.underlying t=some (.slice e))(hi : P.info? e=some i)
  (v : Value) (n : Nat) (xs : List Value) (hown : w.ownsRow base e size v n xs) (A : Option Addr) (c : Nat) (ty : TypeId) : (Builtin.append_ #[t,t] ty #[v, .slice A 0 c]).run P w= .ok v w:=by
 have hl : ∀a, (loadCells a 0).run P w= .ok #[] w:=fun a=>run_loadCells_list (P:=P) w a [] (fun j v hv=>by simp at hv)
 rcases hown.2 with ⟨rfl,rfl⟩ | ⟨g,cap,cur,rfl,_,_,hnc,_⟩
 ·cases A<;>simp [Builtin.append_,run_underlying ht,sizeOf,typeInfo,hi,Builtin.lenOf,Builtin.firstCells,hl]
 ·cases A<;>simp [Builtin.append_,run_underlying ht,sizeOf,typeInfo,hi,Builtin.lenOf,Builtin.firstCells,hnc,storeCells,hl]
theorem tu (X : ST P T t e)(ty : TypeId){v x : Value}{l m : List α}{B : Nat}(hown : bF T e w v l)(hr : dz T w B x m)(hlen : l.length+m.length≤1073741824) :
  ∃v' w', (Builtin.append_ #[t,t] ty #[v,x]).run P w= .ok v' w'∧bF T e w' v' (l++m) ∧w.grownBy w' v.ownBlock∧ (v'.ownBlock=v.ownBlock∨v'.ownBlock=some w.heap.size) :=by
 obtain⟨A,cap,rfl,h1,h2,h3⟩ :=hr
 obtain⟨z,bytes,hinfo,hz,hby⟩ :=X.info
 obtain⟨i,hi,hzz⟩ :=Option.map_eq_some_iff.1 hinfo
 simp only [Prod.mk.injEq] at hzz
 obtain⟨q1,q2,q3⟩ :=hzz
 by_cases hm : m= []
 ·subst hm
  refine⟨v,w,tq X.und hi v _ _ hown A cap ty,by simpa using hown,World.grownBy.refl w _, .inl rfl⟩
 ·obtain⟨g,off,rfl,hg,hc⟩ :=h3 hm
  have hcells : ∀j u, (flat T m)[j]? =some u→w.cell? ((⟨g,off,none⟩ : Addr).add j) =some u:=by
   intro j u hu
   rw [←hc j u hu]
   unfold Addr.add
   by_cases hj : j=0<;>simp [hj]
  have hmx : l.length+m.length≤maxLen:=by unfold maxLen;omega
  have hbb : (l.length+m.length) * bytes≤140737488355328:=by
   calc (l.length+m.length) * bytes≤1073741824 * 1024:=Nat.mul_le_mul hlen hby
    _≤_:=by omega
  obtain⟨v',w',hrun,k1,k2,_,k4⟩ :=run_append_own_at (P:=P) w 0 t ty e i z T.n bytes X.und hi q1 q2 q3 hz T.pos v l.length (flat T l) hown ⟨g,off,none⟩ m.length cap (flat T m) (kG T m) hcells (Ap T m) hmx hbb (Nat.zero_le _)
  refine⟨v',w',hrun, ?_,k2,k4⟩
  unfold bF
  rw [List.length_append,nT]
  exact k1
theorem og {o : Oper}{a : Act}{K : Act→World→Prop}{Q : Exit→Act→World→Prop}(X : ST P T t e)(s x : Operand)
  (ho : o.op= .call {callee:= .builtin .append,args:= #[s,x],argTypes:= #[t,t]})
  {v y : Value} {l m : List α} {B : Nat} (hs : a.eval s=v) (hx : a.eval x=y) (hown : bF T e w v l) (hr : dz T w B y m) (hlen : l.length+m.length≤1073741824)
  (h : ∀v' w',bF T e w' v' (l++m) →w.grownBy w' v.ownBlock→ (v'.ownBlock=v.ownBlock∨v'.ownBlock=some w.heap.size) →K (a.put o.dst v') w') : o.wp P a w K Q:=by
 obtain⟨v',w',hrun,h2,h3,h4⟩ :=tu X o.type hown hr hlen
 unfold Oper.wp execOp
 simp only [ho,resolve,invoke,builtin,Sem.run_bind,Sem.run_pure,Result.andThen_ok,List.map_toArray,List.map_cons,List.map_nil,hs,hx,hrun]
 exact h v' w' h2 h3 h4
theorem dV {ops : Array Oper}{rest : List Oper}{o : Oper}{a : Act}{Q : Exit→Act→World→Prop}(X : ST P T t e)(hgd : o.guard=none)(s x : Operand)
  (ho : o.op= .call {callee:= .builtin .append,args:= #[s,x],argTypes:= #[t,t]})
  {v y : Value} {l m : List α} {B : Nat} (hs : a.eval s=v) (hx : a.eval x=y) (hown : bF T e w v l) (hr : dz T w B y m) (hlen : l.length+m.length≤1073741824)
  (h : ∀v' w',bF T e w' v' (l++m) →w.grownBy w' v.ownBlock→ (v'.ownBlock=v.ownBlock∨v'.ownBlock=some w.heap.size) →wpList P ops Q rest (a.put o.dst v') w') : wpList P ops Q (o::rest) a w:=
 wpList_plain hgd fun _ hK=>og X s x ho hs hx hown hr hlen fun v' w' h2 h3 h4=>hK _ _ (h v' w' h2 h3 h4)
theorem gV {ops : Array Oper}{o : Oper}{a : Act}{K : Act→World→Prop}{Q : Exit→Act→World→Prop}{E : Prop}(X : ST P T t e)(hgd : o.guard=none)(s x : Operand)
  (ho : o.op= .call {callee:= .builtin .append,args:= #[s,x],argTypes:= #[t,t]})
  {v y : Value} {l m : List α} {B : Nat} (hs : a.eval s=v) (hx : a.eval x=y) (hown : bF T e w v l) (hr : dz T w B y m) (hlen : l.length+m.length≤1073741824)
  (h : ∀v' w',bF T e w' v' (l++m) →w.grownBy w' v.ownBlock→ (v'.ownBlock=v.ownBlock∨v'.ownBlock=some w.heap.size) →K (a.put o.dst v') w') :
  if Region.wanted o (yielded ops a.tmps) =true then Oper.wp P o a w K Q else E:=by
 have hw : Region.wanted o (yielded ops a.tmps) =true:=by simp [Region.wanted,hgd]
 rw [if_pos hw]
 exact og X s x ho hs hx hown hr hlen h
theorem bF.lit (T : FT α)(l : List α)(cs : Array Value)(hcs : cs.toList=flat T l)(hl : l.length≤maxLen)(w : World)(e : TypeId) :
  bF T e (w.alloc (.cells cs e)) (.slice (some ⟨w.heap.size,0,none⟩) l.length l.length) l:=by
 have h:=World.ownsRow_lit (base:=0) (e:=e) (size:=T.n) w cs l.length (Nat.zero_le _) hl (by rw [←Array.length_toList,hcs,kG])
 rw [hcs] at h
 exact h
theorem iE {w : World}{v v' : Value}(h : v'.ownBlock=v.ownBlock∨v'.ownBlock=some w.heap.size) : ∀g∈bL v',g∈bL v∨g=w.heap.size:=by
 intro g hg
 rw [bH] at hg
 rcases h with h|h
 ·exact .inl (bH.2 (by rw [←h];exact hg))
 ·rw [h] at hg
  injection hg with hg
  exact .inr hg.symm
end Go.Proofs.Ytkmggglljkmjoaa
namespace Go.Proofs.Ytkmggglljkmjoaa
open Go.RowKit
theorem Try.infoInt : (Try.prog.info? 3).map (fun i=> (i.zero,i.size,i.bytes)) =some (some (.int .i64 0),FI.n,8) :=by kernel_rfl
end Go.Proofs.Ytkmggglljkmjoaa
namespace Go.Proofs.Ytkmggglljkmjoaa
open Go.RowKit
end Go.Proofs.Ytkmggglljkmjoaa
namespace Go.Proofs.Ytkmggglljkmjoaa
open Go.RowKit
variable {α : Type} {T : FT α}
structure aJ (w : World)(g : Nat)(vs : List Value) : Prop where
 lt : g<w.heap.size
 cell : ∀j v,vs[j]? =some v→w.cell? ⟨g,j,none⟩ =some v
 fP : ∀j,w.frozen? ⟨g,j,none⟩ =false
theorem aJ.of_block {w w' : World}{g : Nat}{vs : List Value}(h : aJ w g vs)(hs : w.heap.size≤w'.heap.size)(hb : w'.heap[g]? =w.heap[g]?) : aJ w' g vs:=
 ⟨Nat.lt_of_lt_of_le h.lt hs,fun j v hv=>by simpa [World.cell?,hb] using h.cell j v hv,fun j=>by simpa [World.frozen?,hb] using h.fP j⟩
theorem aJ.below {w w' : World}{g : Nat}{vs : List Value}(h : aJ w g vs)(hb : Below w.heap.size w w') : aJ w' g vs:=h.of_block hb.size (hb.block g h.lt)
theorem aJ.bn {w w' : World}{g : Nat}{vs : List Value}{F : List Nat}(h : aJ w g vs)(hc : bW F w w')(hn : g∉F) : aJ w' g vs:=h.of_block hc.size (hc.block g h.lt hn)
theorem jo (w : World){g g' i : Nat}(v : Value)(hn : g≠g') : (w.setCell ⟨g,i,none⟩ v).heap[g']? =w.heap[g']? :=Below.heap_setCell _ _ _ _ (fun e=>hn e.symm)
theorem aJ.other {w : World}{g : Nat}{vs : List Value}(h : aJ w g vs){g' i : Nat}(hn : g'≠g)(v : Value) : aJ (w.setCell ⟨g',i,none⟩ v) g vs:=h.of_block (by simp) (jo w v hn)
theorem aJ.set {w : World}{g : Nat}{vs : List Value}(h : aJ w g vs)(i : Nat)(v : Value) : aJ (w.setCell ⟨g,i,none⟩ v) g (vs.set i v) :=by
 refine⟨by simpa using h.lt,fun j u hu=> ?_,fun j=> ?_⟩
 ·by_cases hij : i=j
  ·subst hij
   rw [List.getElem?_set] at hu
   by_cases hl : i<vs.length
   ·simp [hl] at hu
    subst hu
    have:=h.cell i _ (List.getElem?_eq_getElem hl)
    simp [go_sem,this]
   ·simp [hl] at hu
  ·rw [List.getElem?_set,if_neg hij] at hu
   rw [World.cell?_setCell_other _ _ _ _ (by intro e;simp only [Addr.mk.injEq] at e;omega)]
   exact h.cell j u hu
 ·have:=h.fP j
  simp [go_sem,this]
theorem aJ.alloc {w : World}{g : Nat}{vs : List Value}(h : aJ w g vs)(o : Obj) : aJ (w.alloc o) g vs:=h.of_block (by simp) (Below.heap_alloc w o g h.lt)
theorem aJ.drew {w : World}{g : Nat}{vs : List Value}(h : aJ w g vs) : aJ w.drew g vs:=h.of_block (Nat.le_refl _) rfl
theorem aJ.drewN {w : World}{g : Nat}{vs : List Value}(h : aJ w g vs)(n : Nat) : aJ (w.drewN n) g vs:=h.of_block (Nat.le_refl _) rfl
theorem aJ.new (w : World)(vs : Array Value)(ty : TypeId) : aJ (w.alloc (.cells vs ty)) w.heap.size vs.toList:=by
 refine⟨by simp,fun j v hv=> ?_,fun j=>by simp [go_sem]⟩
 have : vs[j]? =some v:=by simpa using hv
 simp only [World.cell?,heap_alloc_last]
 exact this
theorem bW.gI {F : List Nat}{w w' : World}(h : bW F w w'){g i : Nat}(hg : g∈F)(v : Value) : bW F w (w'.setCell ⟨g,i,none⟩ v) :=
 ⟨h.os,h.tape,h.output,by simpa using h.size,fun k hk hn=> (Below.heap_setCell _ _ _ _ (fun e=>by have e' : k=g:=e;exact hn (e' ▸ hg))).trans (h.block k hk hn)⟩
theorem bW.aN {F : List Nat}{w w' : World}(h : bW F w w')(o : Obj) : bW F w (w'.alloc o) :=
 ⟨h.os,h.tape,h.output,Nat.le_trans h.size (by simp),fun k hk hn=> (Below.heap_alloc w' o k (Nat.lt_of_lt_of_le hk h.size)).trans (h.block k hk hn)⟩
theorem dz.len_ {w : World}{B : Nat}{a : Option Addr}{n c : Nat}{l : List α}(h : dz T w B (.slice a n c) l) : n=l.length∧n≤9223372036854775807:=by
 obtain⟨A,c',hv,q1,q2,_⟩ :=id h
 injection hv with h1 h2 h3
 refine⟨h2, ?_⟩
 unfold maxLen at q2
 omega
theorem bW.gU {F : List Nat}{w w' : World}(h : bW F w w') : bW F w w'.drew:= ⟨h.os,h.tape,h.output,h.size,h.block⟩
theorem bV {F : List Nat}{a b : World}(h : bW F a b:=by repeat (first|with_reducible exact bW.refl _ _|with_reducible refine bW.gI ?_ (by simp) _|with_reducible refine bW.aN ?_ _|with_reducible refine bW.gU ?_)) : bW F a b:=h
theorem aJ.nw {w : World}{vs : Array Value}{ty : TypeId}{n : Nat}(h : w.heap.size=n:=by first|with_reducible rfl|simp only [World.size_alloc]) : aJ (w.alloc (.cells vs ty)) n vs.toList:=h ▸ aJ.new w vs ty
theorem aJ.f1 {w : World}{g : Nat}{a : Value}(h : aJ w g [a]) : w.cell? ⟨g,0,none⟩ =some a∧ (∀j,w.frozen? ⟨g,j,none⟩ =false) ∧g<w.heap.size:= ⟨h.cell 0 a rfl,h.fP,h.lt⟩
theorem aJ.f2 {w : World}{g : Nat}{a b : Value}(h : aJ w g [a,b]) : w.cell? ⟨g,0,none⟩ =some a∧w.cell? ⟨g,1,none⟩ =some b∧ (∀j,w.frozen? ⟨g,j,none⟩ =false) ∧g<w.heap.size:= ⟨h.cell 0 a rfl,h.cell 1 b rfl,h.fP,h.lt⟩
theorem aJ.f3 {w : World}{g : Nat}{a b c : Value}(h : aJ w g [a,b,c]) : w.cell? ⟨g,0,none⟩ =some a∧w.cell? ⟨g,1,none⟩ =some b∧w.cell? ⟨g,2,none⟩ =some c∧ (∀j,w.frozen? ⟨g,j,none⟩ =false) ∧g<w.heap.size:= ⟨h.cell 0 a rfl,h.cell 1 b rfl,h.cell 2 c rfl,h.fP,h.lt⟩
theorem aJ.f4 {w : World}{g : Nat}{a b c d : Value}(h : aJ w g [a,b,c,d]) : w.cell? ⟨g,0,none⟩ =some a∧w.cell? ⟨g,1,none⟩ =some b∧w.cell? ⟨g,2,none⟩ =some c∧w.cell? ⟨g,3,none⟩ =some d∧ (∀j,w.frozen? ⟨g,j,none⟩ =false) ∧g<w.heap.size:= ⟨h.cell 0 a rfl,h.cell 1 b rfl,h.cell 2 c rfl,h.cell 3 d rfl,h.fP,h.lt⟩
end Go.Proofs.Ytkmggglljkmjoaa
namespace Go.Proofs.Ytkmggglljkmjoaa
open Go.RowKit
def aW (lo hi n : Int) : Bool:=decide (lo≤n) &&decide (n≤hi)
theorem bD {lo hi n : Int} : aW lo hi n=true↔lo≤n∧n≤hi:=by simp [aW]
theorem jF {lo hi n : Int}(h : aW lo hi n=false) : ¬ (lo≤n∧n≤hi) :=by
 intro hh
 rw [bD.2 hh] at h
 cases h
theorem wm {lo hi n : Int}(h : ¬ (lo≤n∧n≤hi)) : aW lo hi n=false:=by
 cases hb : aW lo hi n
 ·rfl
 ·exact absurd (bD.1 hb) h
set_option maxHeartbeats 400000 in
theorem gW (n lo hi : Int)(w : World) : Calls Try.prog 36 #[.int .i64 n, .int .i64 lo, .int .i64 hi] w fun e w'=>e= .returned (.bool (aW lo hi n)) ∧w=w':=by
 by_cases h1 : lo≤n
 ·go_enter Try.func36,Try.ntmps36
  go_wp2
  go_ret
  exact⟨aS (by simp [aW,h1]),rfl⟩
 ·go_enter Try.func36,Try.ntmps36
  go_wp2
  go_ret
  exact⟨aS (wm (by omega)).symm,rfl⟩
set_option maxHeartbeats 400000 in
theorem g_ (n lo hi : Int)(w : World) : Calls Try.prog 26 #[.int .i64 n, .int .i64 lo, .int .i64 hi] w fun e w'=>e= .returned (.bool (aW lo hi n)) ∧w=w':=by
 by_cases h1 : lo≤n
 ·go_enter Try.func26,Try.ntmps26
  go_wp2
  go_ret
  exact⟨aS (by simp [aW,h1]),rfl⟩
 ·go_enter Try.func26,Try.ntmps26
  go_wp2
  go_ret
  exact⟨aS (wm (by omega)).symm,rfl⟩
theorem iH (n : Int)(w : World) : Calls Try.prog 17 #[.int .i64 n] w fun e w'=>e= .returned (.bool (aW 0 2 n)) ∧w=w':=by
 go_enter Try.func17,Try.ntmps17
 go_wp2_with (go_at_call 36;refine(gW _ _ _ _).mono ?_;rintro e w1 ⟨rfl,rfl⟩)
 go_ret
 exact⟨rfl,rfl⟩
end Go.Proofs.Ytkmggglljkmjoaa
