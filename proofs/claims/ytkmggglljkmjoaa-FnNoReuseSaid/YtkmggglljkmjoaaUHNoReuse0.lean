/-
  The statement holds: from the walk of the law to its row. Conditions: none.
-/
import Derived.Test.YtkmggglljkmjoaaUHNoReuse1
import Derived.Test.YtkmggglljkmjoaaUHNoReuse2
import Derived.Lib.SmallJoins
import Derived.Test.YtkmggglljkmjoaaUHNoReuse27
namespace Go.Proofs.Ytkmggglljkmjoaa
open Go.Proofs.Ytkmggglljkmjoaa.Lim Go.ChangeShapes Go.WideShapes Go.ChangeAt Go.RowKit Go.Joins
def BJ : FT {x : Int // 0≤x∧x≤255}:= {n:=1,enc:=fun x=> [.int .u8 x.1],dflt:= ⟨0,by decide⟩,len:=fun _=>rfl,one:=by intro x u hu;simp at hu;subst hu;rfl,pos:=by decide,small:=by decide}
theorem A_ (l : List {x : Int // 0≤x∧x≤255}) : flat BJ l=flat Lim.kK (l.map Subtype.val) :=by
 unfold flat
 rw [List.flatMap_map]
 rfl
theorem Db {w : World}{B : Nat}{v : Value}{l : List {x : Int // 0≤x∧x≤255}}(h : dz BJ w B v l) : dz Lim.kK w B v (l.map Subtype.val) ∧ ∀x∈l.map Subtype.val,0≤x∧x≤255:=by
 refine⟨?_,fun x hx=> ?_⟩
 ·obtain⟨A,cap,hv,h1,h2,h3⟩ :=h
  refine⟨A,cap,by rw [List.length_map];exact hv,by rw [List.length_map];exact h1,h2,fun hne=> ?_⟩
  obtain⟨g,off,hA,hg,hc⟩ :=h3 (fun e=>hne (by rw [e];rfl))
  refine⟨g,off,hA,hg,fun j u hu=>hc j u ?_⟩
  rw [A_]
  exact hu
 ·obtain⟨y,_,rfl⟩ :=List.mem_map.1 hx
  exact y.2
theorem Ba {P : Program}{t : TypeId}(ht : P.underlying t=some (.int .u8)) : Opens P t fun _ cs=> ∃y,cs=BJ.enc y:=by
 intro H enc W base spare held fuel cs x h
 obtain⟨n,h1,_,h2⟩ :=DataW.trod_int ht h
 have hb : 0≤n∧n≤255:=by
  simp [Lit.wf,IntKind.min,IntKind.max,IntKind.signed,IntKind.bits] at h2
  omega
 exact⟨⟨n,hb⟩,h1⟩
set_option maxRecDepth 100000 in
theorem sV (os : Os)(started : os.Started)(H : Type)(enc : TypeId×Value→H) :
  ReturnsInHanded {} Try.checked os 3 .any (Rows.fnNoReuseSpec.pre6 enc Try.prog Try.f3 Rows.fnNoReuseRow.domain false) (Rows.fnNoReuseSpec.post enc Try.prog Try.f3 false true false false) :=by
 refine lift 4 (C:=Try.checked) Try.own Try.laidOut started (by kernel_rfl) Try.func3
  (ChangeSpec.witness6 (enc:=enc) (C:=Try.checked) false ⟨#[], #[.slice none 0 0], []⟩ 12 (by kernel_rfl) (by kernel_rfl) (by kernel_rfl) (by kernel_rfl))
  rfl (by kernel_rfl) Try.underlying4 (by kernel_rfl) (fun ds hds=>by
   match ds,hds with
   | [d0],_=>rfl) ?_
 intro W args ds p hval0 Ed
 have hval : ∀ (j : Nat) t v,Try.f3.params[j]? =some t→args[j]? =some v→ ∃base,Value.okWide Try.prog W .any base t v:=hval0
 have hA : DataW.TrodAll enc Try.prog W 0 (fun _=>true) true Try.f3.params.toList args.toList ds p:=Ed
 clear hval0 Ed
 rw [Try.params3] at hA hval
 obtain⟨v0,d0,rfl,rfl,h0⟩ :=trodAll_one hA
 obtain⟨_,hv0⟩ :=hval 0 _ v0 rfl rfl
 obtain⟨A0,n0,Fv,rfl⟩ :=okWide_slice Try.underlying22 hv0
 obtain⟨Fw,l,Er,hl⟩ := (yO (T:=BJ) Try.underlying22 (by kernel_rfl) (Ba Try.underlying5)).trod h0
 have Dn : Value.slice A0 n0 Fv=Fw:=by simpa [Value.cells] using Er
 subst Dn
 obtain⟨hr,hbd⟩ :=Db hl
 exact vZ W _ _ hr hbd
theorem Dc {a b : Bool}(ha : a=true)(hb : b=true) : (a&&b) =true:=by rw [ha,hb];rfl
set_option maxHeartbeats 8000000 in
theorem sW : joinedFacts Try.pinned.checked.prog 3 Try.f3 Rows.fnNoReuseSpec Rows.fnNoReuseRow=true:=by
 unfold joinedFacts
 repeat' (with_reducible refine Dc ?_ ?_)
 all_goals (as_aux_lemma=>kernel_rfl)
theorem FnNoReuse_holds : Rows.FnNoReuseSaid:=
 OpenClaim.holds_of_wide 3 Try.f3 rfl rfl rfl rfl rfl rfl rfl ⟨rfl,rfl,rfl,rfl,rfl⟩ rfl rfl rfl rfl rfl (by kernel_rfl) Try.func3 sW
  (of_decide_eq_true (by kernel_rfl)) (by unfold Func.isWrapper;rw [if_neg (of_decide_eq_false (by kernel_rfl))];exact⟨rfl,rfl⟩)
  (fun os started H enc _=>sV os started H enc)
end Go.Proofs.Ytkmggglljkmjoaa
