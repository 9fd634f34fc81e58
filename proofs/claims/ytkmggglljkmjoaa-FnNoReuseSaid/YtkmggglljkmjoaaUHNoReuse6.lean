/-
  Several texts in one: lemmas and contracts that the claim rests on.
-/
import Derived.Test.YtkmggglljkmjoaaUHNoReuse2
import Derived.Test.YtkmggglljkmjoaaUHNoReuse1
import Derived.Deep.QuietTactic
import Derived.BigQuiet
import Derived.Deep.LoopGhost
import Derived.Deep.RegionHeld3
import Derived.WalkSpells
import Derived.Laws.Cover3
import Derived.Test.YtkmggglljkmjoaaUHNoReuse3
import Derived.Test.YtkmggglljkmjoaaUHNoReuse5
import Derived.Test.YtkmggglljkmjoaaUHNoReuse4
import Derived.Laws.CopyOwn
import Derived.Deep.RegionLaw
namespace Go.Proofs.Ytkmggglljkmjoaa
open Go.RowKit
theorem Bf (l : List Int) : flat FI l=l.map (Value.int .i64) :=by
 unfold flat
 induction l with
 |nil=>rfl
 |cons x l ih=>simp [FI] at ih⊢;rw [ih]
theorem bF.uQ {e : TypeId}{w : World}{g n c : Nat}{b : List Int}(h : bF FI e w (.slice (some ⟨g,0,none⟩) n c) b) : ∃cur : Array Value,w.heap[g]? =some (.cells cur e (0,0)) ∧b.length≤cur.size∧
  ∀ (off : Nat) (m : List Int),off+m.length≤b.length→bF FI e (w.setRow g (cur.toList.take off++ (m.map (Value.int .i64) ++cur.toList.drop (off+m.length))).toArray) (.slice (some ⟨g,0,none⟩) n c) (putAt b off m) :=by
 have hnl:=h.len_eq
 obtain⟨h1,h2⟩ :=id h
 rcases h2 with ⟨h2,_⟩ | ⟨g',cap,cur,hv,hb,hc,hl,hm,hz,ht⟩
 ·cases h2
 injection hv with e1 e2 e3
 injection e1 with e1
 injection e1 with e1
 subst e1 e3
 have hz' : cur.size=c:=by simpa [FI] using hz
 have ht' : cur.toList.take b.length=b.map (Value.int .i64) :=by
  have:=ht
  rw [Bf] at this
  simpa [FI] using this
 refine⟨cur,hc,by omega,fun off m hf=> ⟨?_, .inr ⟨g,c,_,by rw [hnl,j6 hf],hb,setRow_heap w g cur _ e _ hc,by rw [j6 hf];omega,hm, ?_, ?_⟩⟩⟩
 ·rw [kG]
 ·simp [FI]
  omega
 ·rw [Bf,j6 hf]
  show List.take (b.length * 1) (cur.toList.take off++ (m.map (Value.int .i64) ++cur.toList.drop (off+m.length))) =_
  rw [Nat.mul_one]
  have hcl : cur.toList.length=c:=by simpa using hz'
  have e1 : cur.toList.take off= (b.take off).map (Value.int .i64) :=by
   have:=congrArg (List.take off) ht'
   rw [List.take_take,Nat.min_eq_left (by omega), ←List.map_take] at this
   exact this
  have e2 : List.take (b.length - (off+m.length)) (cur.toList.drop (off+m.length)) = (b.drop (off+m.length)).map (Value.int .i64) :=by
   have:=congrArg (List.drop (off+m.length)) ht'
   rw [List.drop_take, ←List.map_drop] at this
   exact this
  have l1 : (List.take off cur.toList).length=off:=by simp;omega
  have l2 : (m.map (Value.int .i64)).length=m.length:=by simp
  have k1 : List.take b.length (List.take off cur.toList) =List.take off cur.toList:=List.take_of_length_le (by rw [l1];omega)
  have k2 : List.take (b.length - off) (m.map (Value.int .i64)) =m.map (Value.int .i64) :=List.take_of_length_le (by rw [l2];omega)
  rw [List.take_append,l1,List.take_append,l2,k1,k2,show b.length - off - m.length=b.length - (off+m.length) by omega,e2,e1]
  simp [putAt]
theorem bW.uR {F : List Nat}{w w' : World}(h : bW F w w'){g : Nat}(hg : g∈F)(cs : Array Value) : bW F w (w'.setRow g cs) :=
 ⟨h.os,h.tape,h.output,by simpa using h.size,fun k hk hn=> (setRow_other w' g k cs (fun e=>hn (e ▸ hg))).trans (h.block k hk hn)⟩
theorem vT {P : Program}{ops : Array Oper}{o : Oper}{a : Act}{w : World}{K : Act→World→Prop}{Q : Exit→Act→World→Prop}{E : Prop}(hgd : o.guard=none)(d s : Operand)(dT sT : TypeId)
  (ho : o.op= .call {callee:= .builtin .copy,args:= #[d,s],argTypes:= #[dT,sT]}) (elem : TypeId) (hu : P.underlying dT=some (.slice elem)) (hsz : (P.info? elem).map (·.size) =some 1)
  {e : TypeId} {g n c off dLen dCap sCap : Nat} {ad : Addr} {b m : List Int} (hd : a.eval d= .slice (some ⟨g,off,none⟩) dLen dCap) (hs : a.eval s= .slice (some ad) m.length sCap)
  (hown : bF FI e w (.slice (some ⟨g,0,none⟩) n c) b) (hsrc : ∀j v, (m.map (Value.int .i64))[j]? =some v→w.cell? (ad.add j) =some v) (hle : m.length≤dLen) (hfit : off+m.length≤b.length)
  (h : ∀w',bF FI e w' (.slice (some ⟨g,0,none⟩) n c) (putAt b off m) →bW [g] w w'→K (a.put o.dst (goInt m.length)) w') :
  if Region.wanted o (yielded ops a.tmps) =true then Oper.wp P o a w K Q else E:=by
 have hw : Region.wanted o (yielded ops a.tmps) =true:=by simp [Region.wanted,hgd]
 rw [if_pos hw]
 obtain⟨cur,hc,hcb,hput⟩ :=hown.uQ
 have hrun:=run_copy_row (P:=P) w dT sT o.type elem g off dLen dCap ad m.length sCap cur e (m.map (Value.int .i64)) hu hsz hc (by simp [Nat.min_eq_left hle]) hsrc (by simp;omega) (by intro v hv;obtain⟨x,_,rfl⟩ :=List.mem_map.1 hv;rfl)
 unfold Oper.wp
 rw [List.length_map] at hrun
 simp [execOp,ho,resolve,invoke,builtin,hd,hs,hrun,Result.andThen]
 refine h _ ?_ ((bW.refl _ _).uR (by simp) _)
 have:=hput off m hfit
 simpa using this
def h_ (b : List Int)(p : Nat)(c : Int) : Nat→List Int
 |0=>putAt b (p * 64) [171,c,bq c]
 |i+1=>putAt (h_ b p c i) (p * 64+8+i * (bS c).toNat) (eP 4 1)
def dR (h : Heap)(p : Nat)(c : Int) : Heap:= ⟨h_ h.Y p c (bq c).toNat,h.Z.set p c⟩
def dN (p k : Nat) : List Int:= (List.range k).map fun i=> ((p * 4+i : Nat) : Int)
theorem wH (p k : Nat) : dN p (k+1) =dN p k++ [((p * 4+k : Nat) : Int)]:=by simp [dN,List.range_succ]
theorem rz (p k : Nat) : (dN p k).length=k:=by simp [dN]
theorem j_ {b : List Int}{p : Nat}{c : Int}(hb : b.length=384)(hp : p<6)(hc : aW 0 2 c=true) : ∀i,i≤ (bq c).toNat→ (h_ b p c i).length=384
 |0,_=>by
  unfold h_
  rw [j6 (by simp;omega),hb]
 |i+1,hi=>by
  have hr:=jM hc (i:=i) (by omega)
  have ih:=j_ hb hp hc i (by omega)
  unfold h_
  rw [j6 (by rw [f_,ih];omega),ih]
end Go.Proofs.Ytkmggglljkmjoaa
