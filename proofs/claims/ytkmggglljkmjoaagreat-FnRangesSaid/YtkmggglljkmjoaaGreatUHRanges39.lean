/- m -/
import Derived.Test.YtkmggglljkmjoaaGreatUHRanges33
import Derived.Test.YtkmggglljkmjoaaGreatUHRanges35
set_option maxRecDepth 100000
namespace Go.Proofs.YtkmggglljkmjoaaGreat
open Go.RowKit
theorem KO (n : Int) : fG n<3:=by
 unfold fG
 repeat' split
 all_goals decide
theorem Oa (f : Int→Bool)(l : List Int) : idxOf f l= -1∨ ∃p : Nat,idxOf f l= (p : Int) :=by
 unfold idxOf;cases l.findIdx? f with
 |none=>exact .inl rfl
 |some i=>exact .inr ⟨i,rfl⟩
theorem Hu (w : World)(H : bV)(x : Mem)(wk n : Int)(h : jN w w.heap.size H x)(hs : eF x≤536870912) :
  Calls Tryz.prog 35 #[.agg #[.slice H.E.Y.a H.E.Y.l H.E.Y.c, .slice H.E.Z.a H.E.Z.l H.E.Z.c, .slice H.I.G.a H.I.G.l H.I.G.c, .slice H.I.O.a H.I.O.l H.I.O.c], .int .i64 wk, .int .i64 n] w fun e w'=> ∃H' : bV,e= .returned (.tuple #[.agg #[.slice H'.E.Y.a H'.E.Y.l H'.E.Y.c, .slice H'.E.Z.a H'.E.Z.l H'.E.Z.c, .slice H'.I.G.a H'.I.G.l H'.I.G.c, .slice H'.I.O.a H'.I.O.l H'.I.O.c], .int .i64 (fH x wk n).2.1, .int .i64 (fH x wk n).2.2]) ∧fq w' H' (fH x wk n).1∧ (∀g∈H'.foot,w.heap.size≤g) ∧Below w.heap.size w w':=by
 by_cases c1 : d9 x=true
 case neg=>
  have c1':= (XM _).mp c1;rw [xK (n:=n) (show d9 x=false∨bG 0 2 wk=false from .inl c1')];exact(Ey w H x wk n h hs c1').mono fun _ _ ⟨K,a,b,c,d⟩ => ⟨K,a,b,c,d⟩
 by_cases c2 : bG 0 2 wk=true
 case neg=>
  have c2':= (XM _).mp c2;rw [xK (m:=x) (n:=n) (show d9 x=false∨bG 0 2 wk=false from .inr c2')];exact(Ez w H x wk n h hs c1 c2').mono fun _ _ ⟨K,a,b,c,d⟩ => ⟨K,a,b,c,d⟩
 by_cases c3 : fG n<0
 case pos=>
  rw [AY c1 c2 c3];exact(EA w H x wk n h hs c1 c2 c3).mono fun _ _ ⟨K,a,b,c,d⟩ => ⟨K,a,b,c,d⟩
 rw [IQ c1 c2 c3];obtain⟨b1,b2⟩ :=bH.1 c2;obtain⟨k,rfl⟩ : ∃k : Nat,wk= (k : Int) := ⟨wk.toNat,by omega⟩;have hk : k<3:=by omega
 have hcb:=KO n;obtain⟨c,hc⟩ : ∃c : Nat,fG n= (c : Int) := ⟨(fG n).toNat,by omega⟩;have hc3 : c<3:=by omega
 rw [hc,X6,X6];obtain⟨hl3,wY⟩ :=oJ (nT c1);obtain⟨ro,hro⟩ : ∃r,x.I.O[k * 3+c]? =some r:= ⟨_,XL (by omega)⟩;rcases List.eq_nil_or_concat ro with rfl| ⟨l,s,hl⟩
 case inr=>
  rw [List.concat_eq_append] at hl;subst hl;rw [Ec hro];exact Ch w H x k c n l s h hs c1 hk hc hc3 hro
 obtain⟨rg,hrg⟩ : ∃r,x.I.G[c]? =some r:= ⟨_,XL (by omega)⟩;rcases List.eq_nil_or_concat rg with rfl| ⟨l,s,hl⟩
 case inr=>
  rw [List.concat_eq_append] at hl;subst hl;rw [zP hro hrg];exact zF w H x k c n l s h hs c1 hk hc hc3 hro hrg
 rcases Oa (fun y=>y == -1) x.E.Z with hp| ⟨p,hp⟩
 ·rw [Cu hro hrg hp]
  exact(Bw w H x k c n h hs c1 hk hc hc3 hro hrg hp).mono fun _ _ ⟨K,a,b,c,d⟩ => ⟨K,a,b,c,d⟩
 ·rw [AZ hro hrg hp]
  exact(Ae w H x k c p n h hs c1 hk hc hc3 hro hrg hp).mono fun _ _ ⟨K,a,b,c,d⟩ => ⟨K,a,b,c,d⟩
end Go.Proofs.YtkmggglljkmjoaaGreat
