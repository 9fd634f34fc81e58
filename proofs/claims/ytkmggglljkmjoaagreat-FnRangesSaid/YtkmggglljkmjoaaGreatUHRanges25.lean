/- m -/
import Derived.Test.YtkmggglljkmjoaaGreatUHRanges21
import Derived.Test.YtkmggglljkmjoaaGreatUHRanges22
set_option maxHeartbeats 4000000
namespace Go.Proofs.YtkmggglljkmjoaaGreat
open Go.RowKit
theorem aX.prefix_ {α : Type}{T : FT α}{e : TypeId}{w : World}{g n c : Nat}{l r : List α}(h : aX T e w (.slice (some ⟨g,0,none⟩) n c) (l++r)) : aX T e w (.slice (some ⟨g,0,none⟩) l.length c) l:=by
 obtain⟨h1,h2⟩ :=h;refine⟨by rw [nP], ?_⟩;rcases h2 with ⟨h2,_⟩ | ⟨g',cap,cur,hv,hb,hc,hl,hm,hz,ht⟩
 ·cases h2
 ·injection hv with e1 e2 e3
  injection e1 with e1;injection e1 with e1;subst e1 e3;refine .inr ⟨g,c,cur,rfl,hb,hc, ?_,hm,hz, ?_⟩
  ·have : l.length≤ (l++r).length:=by simp
   omega
  ·have hk : l.length * T.n≤ (l++r).length * T.n:=Nat.mul_le_mul_right _ (by simp)
   have:=congrArg (List.take (l.length * T.n)) ht;rw [List.take_take,Nat.min_eq_left hk,rV,List.take_append_of_le_length (by rw [nP];exact XQ _)] at this;rw [this];exact List.take_of_length_le (by rw [nP];exact XQ _)
theorem last_at {l : List Int}{s : Int} : (l++ [s])[l.length]? =some s:=by simp
theorem zf {α : Type}{l : List α}{k : Nat}{v : α}(h : l[k]? =some v) : l.set k v=l:=by
 apply List.ext_getElem?;intro j;by_cases hj : k=j
 ·subst hj
  rw [X9 (XW.1 h).1,h]
 ·rw [List.getElem?_set_ne hj]
theorem dF.BX {α : Type}{T : FT α}{e E : TypeId}{w : World}{g n c : Nat}{eU : List SV}{ll : List (List α)}(h : dF T e E w (.slice (some ⟨g,0,none⟩) n c) eU ll){i : Nat}{s s' : SV}{l' : List α}(hi : eU[i]? =some s)
  (hl : aX T e w s'.val l') (hat : s'.val.ownBlock=s.val.ownBlock) :
  dF T e E (w.setCell ⟨g,i,none⟩ s'.val) (.slice (some ⟨g,0,none⟩) n c) (eU.set i s') (ll.set i l') :=by
 have hn:=h.nodup;have hne:=dF.head_ne h hi;have hfs : bq s'.val=bq s.val:=by unfold bq;rw [hat]
 unfold bT at hn;rw [List.nodup_append] at hn;obtain⟨hn1,hn2,yA⟩ :=hn;refine⟨by rw [X8,X8];exact h.len, ?_,fun k q l hk hl2=> ?_, ?_⟩
 ·have:=h.outer.dG (k:=i) (j:=0) (x:=s) (y:=s') (u:=s'.val) hi (by decide) rfl
  simpa [FS] using this
 ·by_cases hik : i=k
  ·subst hik
   have hil : i<eU.length:= (XW.1 hi).1;rw [X9 hil] at hk;cases hk;rw [X9 (by rw [←h.len];exact hil)] at hl2;cases hl2;exact hl.keep (fun b hb=>j5 w _ (fun e=>by subst e;exact hne (by rw [←hfs];exact aS.2 hb)))
  ·rw [List.getElem?_set_ne hik] at hk hl2
   exact(h.inner k q l hk hl2).keep (fun b hb=>j5 w _ (fun e=>by subst e;exact yA _ (aS.2 rfl) _ (List.mem_flatMap.2 ⟨q,XV hk,aS.2 hb⟩) rfl))
 ·unfold bT
  rw [lH hi hfs,List.nodup_append];exact⟨hn1,hn2,yA⟩
theorem vk (w : World)(A : Option Addr)(c : Nat) : Calls Tryz.prog 164 #[.agg #[.slice A 0 c]] w fun e w'=>e= .returned (.tuple #[.agg #[.slice A 0 c], .int .i64 (-1)]) ∧Below w.heap.size w w':=by
 go_enter Tryz.func164,Tryz.ntmps164;go_wp2_with fail;refine bodyPost_ret (v:= .tuple #[.agg #[.slice A 0 c], .int .i64 (-1)]) (by simp [results,Tryz.results164,go_sem]) rfl ⟨rfl, ((Below.refl _ _).alloc (XQ _) _).alloc (by simp) _⟩
theorem vo (w : World)(gs n c : Nat)(s : Int)(h1 : w.cell? ⟨gs,n,none⟩ =some (.int .i64 s))(hg : gs<w.heap.size)(hn : n≤1073741824)(hc : n+1≤c) : Calls Tryz.prog 164 #[.agg #[.slice (some ⟨gs,0,none⟩) (n+1) c]] w fun e w'=>e= .returned (.tuple #[.agg #[.slice (some ⟨gs,0,none⟩) n c], .int .i64 s]) ∧Below w.heap.size w w':=by
 have hq0 : ∀W,Below w.heap.size w W→W.cell? ⟨gs,n,none⟩ =some (.int .i64 s) :=fun W hb=> (Below.cell hb hg).trans h1;obtain⟨w0,hW0⟩ : ∃x,x= ((w.alloc (.cells #[.slice (some ⟨gs,0,none⟩) (n+1) c] 94)).alloc (.cells #[.slice none 0 0] 94)) := ⟨_,rfl⟩;have ah : aJ w0 (w.heap.size) [.slice (some ⟨gs,0,none⟩) (n+1) c]:=by
  rw [hW0];exact aJ.alloc aJ.nw _
 have aj : aJ w0 (w.heap.size+1) [.slice none 0 0]:=by
  rw [hW0];exact aJ.nw
 have hB : Below w.heap.size w w0:=by
  rw [hW0];exact cO
 go_enter Tryz.func164,Tryz.ntmps164;go_wp2_with fail;rw [←hW0];clear hW0;have jA:=ah.lt;have kL:=aj.lt;obtain⟨aL,aT,bE⟩ :=ah.f1;obtain⟨ak,aH,aR⟩ :=aj.f1;have WM:=hq0 _ hB;have hwr : IntKind.i64.wrap (((n+1 : Nat) : Int) - 1) = (n : Int) :=by rw [show ((n+1 : Nat) : Int) - 1= (n : Int) by omega];rw [IntKind.wrap_i64];omega
 go_region;all_goals go_wp2_with fail
 all_goals refine bodyPost_ret (v:= .tuple #[.agg #[.slice (some ⟨gs,0,none⟩) n c], .int .i64 s]) (by simp [results,Tryz.results164,go_sem,aj.cell 0 _ rfl]) rfl ⟨rfl,Below.trans hB dU⟩
end Go.Proofs.YtkmggglljkmjoaaGreat
