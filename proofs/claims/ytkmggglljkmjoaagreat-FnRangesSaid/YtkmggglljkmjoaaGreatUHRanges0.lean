/-
  The statement holds: from the walk of the law to its row. Conditions: none.
-/
import Derived.Test.YtkmggglljkmjoaaGreatUHRanges3
import Derived.Test.YtkmggglljkmjoaaGreatUHRanges9
import Derived.Lib.SmallJoins
import Derived.Test.YtkmggglljkmjoaaGreatUHRanges52
namespace Go.Proofs.YtkmggglljkmjoaaGreat
open Go.Proofs.YtkmggglljkmjoaaGreat.Lim Go.ChangeShapes Go.WideShapes Go.ChangeAt Go.RowKit Go.Joins
def P9 : FT {x : Int // 0≤x∧x≤255}:= {n:=1,enc:=fun x=> [.int .u8 x.1],dflt:= ⟨0,by decide⟩,len:=fun _=>rfl,one:=by intro x u hu;simp at hu;subst hu;rfl,pos:=by decide,small:=by decide}
theorem Pb (l : List {x : Int // 0≤x∧x≤255}) : flat P9 l=flat Lim.Co (l.map Subtype.val) :=by
 unfold flat;rw [List.flatMap_map];rfl
theorem RS {w : World}{B : Nat}{v : Value}{l : List {x : Int // 0≤x∧x≤255}}(h : dX P9 w B v l) : dX Lim.Co w B v (l.map Subtype.val) ∧ ∀x∈l.map Subtype.val,0≤x∧x≤255:=by
 refine⟨?_,fun x hx=> ?_⟩
 ·obtain⟨A,cap,hv,h1,h2,h3⟩ :=h
  refine⟨A,cap,by rw [List.length_map];exact hv,by rw [List.length_map];exact h1,h2,fun hne=> ?_⟩;obtain⟨g,off,hA,hg,hc⟩ :=h3 (fun e=>hne (by rw [e];rfl));refine⟨g,off,hA,hg,fun j u hu=>hc j u ?_⟩;rw [Pb];exact hu
 ·obtain⟨y,_,rfl⟩ :=List.mem_map.1 hx
  exact y.2
theorem Pf {P : Program}{t : TypeId}(ht : P.underlying t=some (.int .u8)) : Opens P t fun _ cs=> ∃y,cs=P9.enc y:=by
 intro H enc W base spare held fuel cs x h;obtain⟨n,h1,_,h2⟩ :=DataW.trod_int ht h;have hb : 0≤n∧n≤255:=by
  simp [Lit.wf,IntKind.min,IntKind.max,IntKind.signed,IntKind.bits] at h2;omega
 exact⟨⟨n,hb⟩,h1⟩
set_option maxRecDepth 100000 in
theorem EX (os : Os)(started : os.Started)(H : Type)(enc : TypeId×Value→H) :
  ReturnsInHanded {} Tryz.checked os 3 .any (Rows.fnRangesSpec.pre6 enc Tryz.prog Tryz.f3 Rows.fnRangesRow.domain false) (Rows.fnRangesSpec.post enc Tryz.prog Tryz.f3 false true false false) :=by
 refine lift 4 (C:=Tryz.checked) Tryz.own Tryz.laidOut started (by kernel_rfl) Tryz.func3
  (ChangeSpec.witness6 (enc:=enc) (C:=Tryz.checked) false ⟨#[], #[.slice none 0 0], []⟩ 12 (by kernel_rfl) (by kernel_rfl) (by kernel_rfl) (by kernel_rfl))
  rfl (by kernel_rfl) Tryz.underlying4 (by kernel_rfl) (fun ds hds=>by
   match ds,hds with
   | [d0],_=>rfl) ?_
 intro W args ds p hval0 Tt;have hval : ∀ (j : Nat) t v,Tryz.f3.params[j]? =some t→args[j]? =some v→ ∃base,Value.okWide Tryz.prog W .any base t v:=hval0;have hA : DataW.TrodAll enc Tryz.prog W 0 (fun _=>true) true Tryz.f3.params.toList args.toList ds p:=Tt;clear hval0 Tt;rw [Tryz.params3] at hA hval;obtain⟨v0,d0,rfl,rfl,h0⟩ :=trodAll_one hA;obtain⟨_,hv0⟩ :=hval 0 _ v0 rfl rfl;obtain⟨A0,n0,Vm,rfl⟩ :=okWide_slice Tryz.underlying22 hv0;obtain⟨Vn,l,Ug,hl⟩ := (LU (T:=P9) Tryz.underlying22 (by kernel_rfl) (Pf Tryz.underlying5)).trod h0;have Sb : Value.slice A0 n0 Vm=Vn:=by simpa [Value.cells] using Ug
 subst Sb;obtain⟨hr,hbd⟩ :=RS hl;exact J8 W _ _ hr hbd
theorem RU {a b : Bool}(ha : a=true)(hb : b=true) : (a&&b) =true:=by rw [ha,hb];rfl
set_option maxHeartbeats 8000000 in
theorem EY : joinedFacts Tryz.pinned.checked.prog 3 Tryz.f3 Rows.fnRangesSpec Rows.fnRangesRow=true:=by
 unfold joinedFacts
 repeat' (with_reducible refine RU ?_ ?_)
 all_goals (as_aux_lemma=>kernel_rfl)
theorem FnRanges_holds : Rows.FnRangesSaid:=
 OpenClaim.holds_of_wide 3 Tryz.f3 rfl rfl rfl rfl rfl rfl rfl ⟨rfl,rfl,rfl,rfl,rfl⟩ rfl rfl rfl rfl rfl (by kernel_rfl) Tryz.func3 EY
  (of_decide_eq_true (by kernel_rfl)) (by unfold Func.isWrapper;rw [if_neg (of_decide_eq_false (by kernel_rfl))];exact⟨rfl,rfl⟩)
  (fun os started H enc _=>EX os started H enc)
end Go.Proofs.YtkmggglljkmjoaaGreat
