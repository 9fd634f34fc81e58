/-
  Several texts in one: lemmas and contracts that the claim rests on.
-/
import Derived.Test.YtkmggglljkmjoaaGreatUTC1
import Derived.Deep.QuietTactic
import Derived.BigQuiet
import Derived.Deep.LoopGhost
import Derived.Deep.RegionHeld3
import Derived.Test.YtkmggglljkmjoaaGreatUTC2
import Derived.WalkSpells
import Derived.Laws.Cover3
import Derived.Test.YtkmggglljkmjoaaGreatUTC35
import Derived.Test.YtkmggglljkmjoaaGreatUTC6
import Derived.Test.YtkmggglljkmjoaaGreatUTC26
import Derived.Test.YtkmggglljkmjoaaGreatUTC17
import Derived.Test.YtkmggglljkmjoaaGreatUTC32
import Derived.Test.YtkmggglljkmjoaaGreatUTC12
import Derived.Test.YtkmggglljkmjoaaGreatUTC9
import Derived.Test.YtkmggglljkmjoaaGreatUTC8
namespace Go.Proofs.YtkmggglljkmjoaaGreat
open Go.RowKit
def nZ (x y : Heap) : Bool:=decide (x.Y=y.Y) &&decide (x.Z=y.Z)
def l5 (x y : Lists) : Bool:=decide (x.G=y.G) &&decide (x.O=y.O)
def rF (x y : Mem) : Bool:=nZ x.E y.E&&l5 x.I y.I
set_option maxRecDepth 100000 in
set_option maxHeartbeats 1000000 in
theorem Bl (w : World)(v1 v2 : Value)(t1 t2 : List SV)(a b : List (List Int))(h1 : jl FI w w.heap.size v1 t1 a)(h2 : jl FI w w.heap.size v2 t2 b) :
  Calls Tryz.prog 93 #[v1,v2] w fun e w'=>e= .returned (.bool (decide (a=b))) ∧Below w.heap.size w w':=by
 obtain⟨A1,c1,hv1,_⟩ :=id h1.outer
 obtain⟨A2,c2,hv2,_⟩ :=id h2.outer
 subst hv1 hv2
 obtain⟨sW,hcap1,MI⟩ :=h1.len'
 obtain⟨sZ,_,MJ⟩ :=h2.len'
 have hlt1 : a.length≤9223372036854775807:=by unfold maxLen at MI;omega
 have hlt2 : b.length≤9223372036854775807:=by unfold maxLen at MJ;omega
 rw [sW] at h1⊢
 rw [sZ] at h2⊢
 clear sW hcap1 MI sZ MJ
 by_cases hl : a.length=b.length
 case neg=>
  have HN:=Hid.aT (show decide (a=b) =false from decide_eq_false (fun e=>hl (by rw [e])))
  have hl' : ((a.length : Int) != (b.length : Int)) =true:=by simp;omega
  go_enter Tryz.func93,Tryz.ntmps93
  go_wp2
  go_ret
  exact⟨bK HN.out.symm,Below.refl _ _⟩
 have HL:=Hid.aT hl
 clear hlt2
 rw [←hl] at h2⊢
 clear hl
 go_enter Tryz.func93,Tryz.ntmps93
 go_wp2
 go_loopw [5] (fun i wr=> ∃k : Nat,k≤a.length∧i= .int .i64 k∧Hid (a.take k=b.take k) ∧Below w.heap.size w wr) (fun i _=>a.length - (intOf i).toNat)
 case atStart=>exact⟨0,Nat.zero_le _,rfl,rfl,Below.refl _ _⟩
 case round=>
  obtain⟨i,hi,rfl,HT,hb⟩ :=hrel
  by_cases hlt : i<a.length
  ·have hlt2 : i<b.length:=by rw [←HL.out];exact hlt
   obtain⟨g1,o1,B1,d1,e1,hg1,p0,r1⟩ :=h1.row hb hlt
   obtain⟨g2,o2,B2,d2,e2,hg2,p1,r2⟩ :=h2.row hb hlt2
   subst e1 e2
   have z2 : g2<wr.heap.size:=Nat.lt_of_lt_of_le hg2 hb.size
   have z1 : g1<wr.heap.size:=Nat.lt_of_lt_of_le hg1 hb.size
   have z0 : w.heap.size≤wr.heap.size:=hb.size
   clear h1 h2
   have HX:=Hid.aT (show ∀ (hh : a[i]=b[i]),a.take (i+1) =b.take (i+1) from fun hh=>Ak hlt hlt2 HT.out hh)
   have HY:=Hid.aT (show ∀ (hh : a[i]≠b[i]),decide (a=b) =false from fun hh=>decide_eq_false (K6 hlt hlt2 hh))
   have hsb:=fun (W : World) (hW : Below w.heap.size w W) =>uf W _ _ a[i] b[i] (eP r1 hW) (eP r2 hW)
   obtain⟨c,hc⟩ : ∃c,c=decide (a[i]=b[i]) := ⟨_,rfl⟩
   rw [←hc] at hsb
   have HC:=Hid.aT hc
   clear hc r1 r2
   generalize a[i].length=na at *
   generalize b[i].length=nb at *
   go_wp2
   go_region_held3 (fun w'=>w'.cell? ⟨g1,o1+i,none⟩ =some (.slice B1 na d1) ∧w'.cell? ⟨g2,o2+i,none⟩ =some (.slice B2 nb d2) ∧g1<w'.heap.size∧g2<w'.heap.size∧Below w.heap.size w w') (first| (go_keep;done) | ((try go_split_ands);refine⟨?_, ?_, ?_, ?_, ?_⟩;all_goals first|assumption|exact Below.drew (by assumption) | (simp [go_sem, *];done) |exact dA (by assumption) (by omega) _ _| (rw [size_grow];omega))) ((go_at_call 157;refine(hsb _ (by go_split_ands;assumption)).mono ?_;rintro e w1 ⟨rfl,hb1⟩;obtain⟨os1,d1,rfl⟩ :=lS hb1;clear hb1))
   all_goals
    cases c with
    |true=>
     have HE:=Hid.aT (HX.out (of_decide_eq_true HC.out.symm))
     go_wp2
     go_roundw
     case rel=>exact⟨i+1,by omega,by go_num,HE,by first|assumption| (try go_split_ands;assumption)⟩
     case measure=>simp [intOf];omega
    |false=>
     have HN:=Hid.aT (HY.out (of_decide_eq_false HC.out.symm))
     go_wp2
     go_ret
     exact⟨bK HN.out.symm,by first|assumption| (try go_split_ands;assumption)⟩
  ·go_wp2
   go_ret
   obtain rfl : i=a.length:=by omega
   exact⟨bK (decide_eq_true (Bj HL.out HT.out)).symm,hb⟩
set_option maxRecDepth 100000 in
set_option maxHeartbeats 1000000 in
theorem EO (w : World)(H K : dU)(x y : Heap)(h1 : gU w w.heap.size H x)(h2 : gU w w.heap.size K y) :
  Calls Tryz.prog 87 #[.agg #[.slice H.Y.a H.Y.l H.Y.c, .slice H.Z.a H.Z.l H.Z.c], .agg #[.slice K.Y.a K.Y.l K.Y.c, .slice K.Z.a K.Z.l K.Z.c]] w fun e w'=>e= .returned (.bool (nZ x y)) ∧Below w.heap.size w w':=by
 have k0:=fun (W : World) (hW : Below w.heap.size w W) =>uf W _ _ x.Y y.Y (eP h1.Y hW) (eP h2.Y hW)
 have k1:=fun (W : World) (hW : Below w.heap.size w W) =>uf W _ _ x.Z y.Z (eP h1.Z hW) (eP h2.Z hW)
 have HV : Hid (nZ x y= (decide (x.Y=y.Y) &&decide (x.Z=y.Z))) := (rfl : _=_)
 generalize decide (x.Y=y.Y) =c0 at k0 HV
 generalize decide (x.Z=y.Z) =c1 at k1 HV
 cases c0 with
 |false=>
  replace HV : Hid (nZ x y=false) :=HV.out.trans (by simp)
  obtain⟨w0,hW0⟩ : ∃x,x= ((w.alloc (.cells #[.slice H.Y.a H.Y.l H.Y.c, .slice H.Z.a H.Z.l H.Z.c] 26)).alloc (.cells #[.slice K.Y.a K.Y.l K.Y.c, .slice K.Z.a K.Z.l K.Z.c] 26)) := ⟨_,rfl⟩
  have au : aB w0 (w.heap.size) [.slice H.Y.a H.Y.l H.Y.c, .slice H.Z.a H.Z.l H.Z.c]:=by
   rw [hW0]
   exact aB.alloc aB.nw _
  have jk : aB w0 (w.heap.size+1) [.slice K.Y.a K.Y.l K.Y.c, .slice K.Z.a K.Z.l K.Z.c]:=by
   rw [hW0]
   exact aB.nw
  have hB : Below w.heap.size w w0:=by
   rw [hW0]
   exact dJ
  go_enter Tryz.func87,Tryz.ntmps87
  go_wp2_with fail
  rw [←hW0]
  clear hW0
  have g_:=au.lt
  have Al:=jk.lt
  obtain⟨aD,aF,aL,aQ⟩ :=au.f2
  obtain⟨jF,jG,kJ,l9⟩ :=jk.f2
  refine(k0 _ hB).mono ?_
  rintro e w1 ⟨rfl,hb⟩
  replace au:=au.below hb
  replace jk:=jk.below hb
  replace hB:=hB.trans (hb.mono hB.size)
  have sz:=hb.size
  clear hb
  clear aD aF aL aQ
  obtain⟨aD,aF,aL,aQ⟩ :=au.f2
  clear jF jG kJ l9
  obtain⟨jF,jG,kJ,l9⟩ :=jk.f2
  clear k0
  go_wp2_with fail
  go_ret
  exact⟨bK HV.out.symm,hB⟩
 |true=>
 cases c1 with
 |false=>
  replace HV : Hid (nZ x y=false) :=HV.out.trans (by simp)
  obtain⟨w0,hW0⟩ : ∃x,x= ((w.alloc (.cells #[.slice H.Y.a H.Y.l H.Y.c, .slice H.Z.a H.Z.l H.Z.c] 26)).alloc (.cells #[.slice K.Y.a K.Y.l K.Y.c, .slice K.Z.a K.Z.l K.Z.c] 26)) := ⟨_,rfl⟩
  have au : aB w0 (w.heap.size) [.slice H.Y.a H.Y.l H.Y.c, .slice H.Z.a H.Z.l H.Z.c]:=by
   rw [hW0]
   exact aB.alloc aB.nw _
  have jk : aB w0 (w.heap.size+1) [.slice K.Y.a K.Y.l K.Y.c, .slice K.Z.a K.Z.l K.Z.c]:=by
   rw [hW0]
   exact aB.nw
  have hB : Below w.heap.size w w0:=by
   rw [hW0]
   exact dJ
  go_enter Tryz.func87,Tryz.ntmps87
  go_wp2_with fail
  rw [←hW0]
  clear hW0
  have g_:=au.lt
  have Al:=jk.lt
  obtain⟨aD,aF,aL,aQ⟩ :=au.f2
  obtain⟨jF,jG,kJ,l9⟩ :=jk.f2
  refine(k0 _ hB).mono ?_
  rintro e w1 ⟨rfl,hb⟩
  replace au:=au.below hb
  replace jk:=jk.below hb
  replace hB:=hB.trans (hb.mono hB.size)
  have sz:=hb.size
  clear hb
  clear aD aF aL aQ
  obtain⟨aD,aF,aL,aQ⟩ :=au.f2
  clear jF jG kJ l9
  obtain⟨jF,jG,kJ,l9⟩ :=jk.f2
  clear k0
  go_wp2_with fail
  refine(k1 _ hB).mono ?_
  rintro e w2 ⟨rfl,hb⟩
  replace au:=au.below hb
  replace jk:=jk.below hb
  replace hB:=hB.trans (hb.mono hB.size)
  have sz:=hb.size
  clear hb
  clear aD aF aL aQ
  obtain⟨aD,aF,aL,aQ⟩ :=au.f2
  clear jF jG kJ l9
  obtain⟨jF,jG,kJ,l9⟩ :=jk.f2
  clear k1
  go_wp2_with fail
  go_ret
  exact⟨bK HV.out.symm,hB⟩
 |true=>
 replace HV : Hid (nZ x y=true) :=HV.out.trans (by simp)
 obtain⟨w0,hW0⟩ : ∃x,x= ((w.alloc (.cells #[.slice H.Y.a H.Y.l H.Y.c, .slice H.Z.a H.Z.l H.Z.c] 26)).alloc (.cells #[.slice K.Y.a K.Y.l K.Y.c, .slice K.Z.a K.Z.l K.Z.c] 26)) := ⟨_,rfl⟩
 have au : aB w0 (w.heap.size) [.slice H.Y.a H.Y.l H.Y.c, .slice H.Z.a H.Z.l H.Z.c]:=by
  rw [hW0]
  exact aB.alloc aB.nw _
 have jk : aB w0 (w.heap.size+1) [.slice K.Y.a K.Y.l K.Y.c, .slice K.Z.a K.Z.l K.Z.c]:=by
  rw [hW0]
  exact aB.nw
 have hB : Below w.heap.size w w0:=by
  rw [hW0]
  exact dJ
 go_enter Tryz.func87,Tryz.ntmps87
 go_wp2_with fail
 rw [←hW0]
 clear hW0
 have g_:=au.lt
 have Al:=jk.lt
 obtain⟨aD,aF,aL,aQ⟩ :=au.f2
 obtain⟨jF,jG,kJ,l9⟩ :=jk.f2
 refine(k0 _ hB).mono ?_
 rintro e w1 ⟨rfl,hb⟩
 replace au:=au.below hb
 replace jk:=jk.below hb
 replace hB:=hB.trans (hb.mono hB.size)
 have sz:=hb.size
 clear hb
 clear aD aF aL aQ
 obtain⟨aD,aF,aL,aQ⟩ :=au.f2
 clear jF jG kJ l9
 obtain⟨jF,jG,kJ,l9⟩ :=jk.f2
 clear k0
 go_wp2_with fail
 refine(k1 _ hB).mono ?_
 rintro e w2 ⟨rfl,hb⟩
 replace au:=au.below hb
 replace jk:=jk.below hb
 replace hB:=hB.trans (hb.mono hB.size)
 have sz:=hb.size
 clear hb
 clear aD aF aL aQ
 obtain⟨aD,aF,aL,aQ⟩ :=au.f2
 clear jF jG kJ l9
 obtain⟨jF,jG,kJ,l9⟩ :=jk.f2
 clear k1
 go_wp2_with fail
 go_ret
 exact⟨bK HV.out.symm,hB⟩
set_option maxRecDepth 100000 in
set_option maxHeartbeats 1000000 in
theorem DZ (w : World)(H K : aZ)(x y : Lists)(h1 : iC w w.heap.size H x)(h2 : iC w w.heap.size K y) :
  Calls Tryz.prog 32 #[.agg #[.slice H.G.a H.G.l H.G.c, .slice H.O.a H.O.l H.O.c], .agg #[.slice K.G.a K.G.l K.G.c, .slice K.O.a K.O.l K.O.c]] w fun e w'=>e= .returned (.bool (l5 x y)) ∧Below w.heap.size w w':=by
 have k0:=fun (W : World) (hW : Below w.heap.size w W) =>Bl W _ _ _ _ x.G y.G (mJ h1.G hW) (mJ h2.G hW)
 have k1:=fun (W : World) (hW : Below w.heap.size w W) =>Bl W _ _ _ _ x.O y.O (mJ h1.O hW) (mJ h2.O hW)
 have HV : Hid (l5 x y= (decide (x.G=y.G) &&decide (x.O=y.O))) := (rfl : _=_)
 generalize decide (x.G=y.G) =c0 at k0 HV
 generalize decide (x.O=y.O) =c1 at k1 HV
 cases c0 with
 |false=>
  replace HV : Hid (l5 x y=false) :=HV.out.trans (by simp)
  obtain⟨w0,hW0⟩ : ∃x,x= ((w.alloc (.cells #[.slice H.G.a H.G.l H.G.c, .slice H.O.a H.O.l H.O.c] 29)).alloc (.cells #[.slice K.G.a K.G.l K.G.c, .slice K.O.a K.O.l K.O.c] 29)) := ⟨_,rfl⟩
  have au : aB w0 (w.heap.size) [.slice H.G.a H.G.l H.G.c, .slice H.O.a H.O.l H.O.c]:=by
   rw [hW0]
   exact aB.alloc aB.nw _
  have jk : aB w0 (w.heap.size+1) [.slice K.G.a K.G.l K.G.c, .slice K.O.a K.O.l K.O.c]:=by
   rw [hW0]
   exact aB.nw
  have hB : Below w.heap.size w w0:=by
   rw [hW0]
   exact dJ
  go_enter Tryz.func32,Tryz.ntmps32
  go_wp2_with fail
  rw [←hW0]
  clear hW0
  have g_:=au.lt
  have Al:=jk.lt
  obtain⟨aD,aF,aL,aQ⟩ :=au.f2
  obtain⟨jF,jG,kJ,l9⟩ :=jk.f2
  refine(k0 _ hB).mono ?_
  rintro e w1 ⟨rfl,hb⟩
  replace au:=au.below hb
  replace jk:=jk.below hb
  replace hB:=hB.trans (hb.mono hB.size)
  have sz:=hb.size
  clear hb
  clear aD aF aL aQ
  obtain⟨aD,aF,aL,aQ⟩ :=au.f2
  clear jF jG kJ l9
  obtain⟨jF,jG,kJ,l9⟩ :=jk.f2
  clear k0
  go_wp2_with fail
  go_ret
  exact⟨bK HV.out.symm,hB⟩
 |true=>
 cases c1 with
 |false=>
  replace HV : Hid (l5 x y=false) :=HV.out.trans (by simp)
  obtain⟨w0,hW0⟩ : ∃x,x= ((w.alloc (.cells #[.slice H.G.a H.G.l H.G.c, .slice H.O.a H.O.l H.O.c] 29)).alloc (.cells #[.slice K.G.a K.G.l K.G.c, .slice K.O.a K.O.l K.O.c] 29)) := ⟨_,rfl⟩
  have au : aB w0 (w.heap.size) [.slice H.G.a H.G.l H.G.c, .slice H.O.a H.O.l H.O.c]:=by
   rw [hW0]
   exact aB.alloc aB.nw _
  have jk : aB w0 (w.heap.size+1) [.slice K.G.a K.G.l K.G.c, .slice K.O.a K.O.l K.O.c]:=by
   rw [hW0]
   exact aB.nw
  have hB : Below w.heap.size w w0:=by
   rw [hW0]
   exact dJ
  go_enter Tryz.func32,Tryz.ntmps32
  go_wp2_with fail
  rw [←hW0]
  clear hW0
  have g_:=au.lt
  have Al:=jk.lt
  obtain⟨aD,aF,aL,aQ⟩ :=au.f2
  obtain⟨jF,jG,kJ,l9⟩ :=jk.f2
  refine(k0 _ hB).mono ?_
  rintro e w1 ⟨rfl,hb⟩
  replace au:=au.below hb
  replace jk:=jk.below hb
  replace hB:=hB.trans (hb.mono hB.size)
  have sz:=hb.size
  clear hb
  clear aD aF aL aQ
  obtain⟨aD,aF,aL,aQ⟩ :=au.f2
  clear jF jG kJ l9
  obtain⟨jF,jG,kJ,l9⟩ :=jk.f2
  clear k0
  go_wp2_with fail
  refine(k1 _ hB).mono ?_
  rintro e w2 ⟨rfl,hb⟩
  replace au:=au.below hb
  replace jk:=jk.below hb
  replace hB:=hB.trans (hb.mono hB.size)
  have sz:=hb.size
  clear hb
  clear aD aF aL aQ
  obtain⟨aD,aF,aL,aQ⟩ :=au.f2
  clear jF jG kJ l9
  obtain⟨jF,jG,kJ,l9⟩ :=jk.f2
  clear k1
  go_wp2_with fail
  go_ret
  exact⟨bK HV.out.symm,hB⟩
 |true=>
 replace HV : Hid (l5 x y=true) :=HV.out.trans (by simp)
 obtain⟨w0,hW0⟩ : ∃x,x= ((w.alloc (.cells #[.slice H.G.a H.G.l H.G.c, .slice H.O.a H.O.l H.O.c] 29)).alloc (.cells #[.slice K.G.a K.G.l K.G.c, .slice K.O.a K.O.l K.O.c] 29)) := ⟨_,rfl⟩
 have au : aB w0 (w.heap.size) [.slice H.G.a H.G.l H.G.c, .slice H.O.a H.O.l H.O.c]:=by
  rw [hW0]
  exact aB.alloc aB.nw _
 have jk : aB w0 (w.heap.size+1) [.slice K.G.a K.G.l K.G.c, .slice K.O.a K.O.l K.O.c]:=by
  rw [hW0]
  exact aB.nw
 have hB : Below w.heap.size w w0:=by
  rw [hW0]
  exact dJ
 go_enter Tryz.func32,Tryz.ntmps32
 go_wp2_with fail
 rw [←hW0]
 clear hW0
 have g_:=au.lt
 have Al:=jk.lt
 obtain⟨aD,aF,aL,aQ⟩ :=au.f2
 obtain⟨jF,jG,kJ,l9⟩ :=jk.f2
 refine(k0 _ hB).mono ?_
 rintro e w1 ⟨rfl,hb⟩
 replace au:=au.below hb
 replace jk:=jk.below hb
 replace hB:=hB.trans (hb.mono hB.size)
 have sz:=hb.size
 clear hb
 clear aD aF aL aQ
 obtain⟨aD,aF,aL,aQ⟩ :=au.f2
 clear jF jG kJ l9
 obtain⟨jF,jG,kJ,l9⟩ :=jk.f2
 clear k0
 go_wp2_with fail
 refine(k1 _ hB).mono ?_
 rintro e w2 ⟨rfl,hb⟩
 replace au:=au.below hb
 replace jk:=jk.below hb
 replace hB:=hB.trans (hb.mono hB.size)
 have sz:=hb.size
 clear hb
 clear aD aF aL aQ
 obtain⟨aD,aF,aL,aQ⟩ :=au.f2
 clear jF jG kJ l9
 obtain⟨jF,jG,kJ,l9⟩ :=jk.f2
 clear k1
 go_wp2_with fail
 go_ret
 exact⟨bK HV.out.symm,hB⟩
set_option maxRecDepth 100000 in
set_option maxHeartbeats 1000000 in
theorem sS (w : World)(H K : bP)(x y : Mem)(h1 : gJ w w.heap.size H x)(h2 : gJ w w.heap.size K y) :
  Calls Tryz.prog 26 #[.agg #[.slice H.E.Y.a H.E.Y.l H.E.Y.c, .slice H.E.Z.a H.E.Z.l H.E.Z.c, .slice H.I.G.a H.I.G.l H.I.G.c, .slice H.I.O.a H.I.O.l H.I.O.c], .agg #[.slice K.E.Y.a K.E.Y.l K.E.Y.c, .slice K.E.Z.a K.E.Z.l K.E.Z.c, .slice K.I.G.a K.I.G.l K.I.G.c, .slice K.I.O.a K.I.O.l K.I.O.c]] w fun e w'=>e= .returned (.bool (rF x y)) ∧Below w.heap.size w w':=by
 have k0:=fun (W : World) (hW : Below w.heap.size w W) =>EO W H.E K.E x.E y.E (dW h1.E hW) (dW h2.E hW)
 have k1:=fun (W : World) (hW : Below w.heap.size w W) =>DZ W H.I K.I x.I y.I (eZ h1.I hW) (eZ h2.I hW)
 have HV : Hid (rF x y= (nZ x.E y.E&&l5 x.I y.I)) := (rfl : _=_)
 generalize nZ x.E y.E=c0 at k0 HV
 generalize l5 x.I y.I=c1 at k1 HV
 cases c0 with
 |false=>
  replace HV : Hid (rF x y=false) :=HV.out.trans (by simp)
  obtain⟨w0,hW0⟩ : ∃x,x= ((w.alloc (.cells #[.slice H.E.Y.a H.E.Y.l H.E.Y.c, .slice H.E.Z.a H.E.Z.l H.E.Z.c, .slice H.I.G.a H.I.G.l H.I.G.c, .slice H.I.O.a H.I.O.l H.I.O.c] 31)).alloc (.cells #[.slice K.E.Y.a K.E.Y.l K.E.Y.c, .slice K.E.Z.a K.E.Z.l K.E.Z.c, .slice K.I.G.a K.I.G.l K.I.G.c, .slice K.I.O.a K.I.O.l K.I.O.c] 31)) := ⟨_,rfl⟩
  have au : aB w0 (w.heap.size) [.slice H.E.Y.a H.E.Y.l H.E.Y.c, .slice H.E.Z.a H.E.Z.l H.E.Z.c, .slice H.I.G.a H.I.G.l H.I.G.c, .slice H.I.O.a H.I.O.l H.I.O.c]:=by
   rw [hW0]
   exact aB.alloc aB.nw _
  have jk : aB w0 (w.heap.size+1) [.slice K.E.Y.a K.E.Y.l K.E.Y.c, .slice K.E.Z.a K.E.Z.l K.E.Z.c, .slice K.I.G.a K.I.G.l K.I.G.c, .slice K.I.O.a K.I.O.l K.I.O.c]:=by
   rw [hW0]
   exact aB.nw
  have hB : Below w.heap.size w w0:=by
   rw [hW0]
   exact dJ
  go_enter Tryz.func26,Tryz.ntmps26
  go_wp2_with fail
  rw [←hW0]
  clear hW0
  have g_:=au.lt
  have Al:=jk.lt
  obtain⟨aD,aF,aR,aS,aL,aQ⟩ :=au.f4
  obtain⟨jF,jG,q9,ru,kJ,l9⟩ :=jk.f4
  refine(k0 _ hB).mono ?_
  rintro e w1 ⟨rfl,hb⟩
  replace au:=au.below hb
  replace jk:=jk.below hb
  replace hB:=hB.trans (hb.mono hB.size)
  have sz:=hb.size
  clear hb
  clear aD aF aR aS aL aQ
  obtain⟨aD,aF,aR,aS,aL,aQ⟩ :=au.f4
  clear jF jG q9 ru kJ l9
  obtain⟨jF,jG,q9,ru,kJ,l9⟩ :=jk.f4
  clear k0
  go_wp2_with fail
  go_ret
  exact⟨bK HV.out.symm,hB⟩
 |true=>
 cases c1 with
 |false=>
  replace HV : Hid (rF x y=false) :=HV.out.trans (by simp)
  obtain⟨w0,hW0⟩ : ∃x,x= ((w.alloc (.cells #[.slice H.E.Y.a H.E.Y.l H.E.Y.c, .slice H.E.Z.a H.E.Z.l H.E.Z.c, .slice H.I.G.a H.I.G.l H.I.G.c, .slice H.I.O.a H.I.O.l H.I.O.c] 31)).alloc (.cells #[.slice K.E.Y.a K.E.Y.l K.E.Y.c, .slice K.E.Z.a K.E.Z.l K.E.Z.c, .slice K.I.G.a K.I.G.l K.I.G.c, .slice K.I.O.a K.I.O.l K.I.O.c] 31)) := ⟨_,rfl⟩
  have au : aB w0 (w.heap.size) [.slice H.E.Y.a H.E.Y.l H.E.Y.c, .slice H.E.Z.a H.E.Z.l H.E.Z.c, .slice H.I.G.a H.I.G.l H.I.G.c, .slice H.I.O.a H.I.O.l H.I.O.c]:=by
   rw [hW0]
   exact aB.alloc aB.nw _
  have jk : aB w0 (w.heap.size+1) [.slice K.E.Y.a K.E.Y.l K.E.Y.c, .slice K.E.Z.a K.E.Z.l K.E.Z.c, .slice K.I.G.a K.I.G.l K.I.G.c, .slice K.I.O.a K.I.O.l K.I.O.c]:=by
   rw [hW0]
   exact aB.nw
  have hB : Below w.heap.size w w0:=by
   rw [hW0]
   exact dJ
  go_enter Tryz.func26,Tryz.ntmps26
  go_wp2_with fail
  rw [←hW0]
  clear hW0
  have g_:=au.lt
  have Al:=jk.lt
  obtain⟨aD,aF,aR,aS,aL,aQ⟩ :=au.f4
  obtain⟨jF,jG,q9,ru,kJ,l9⟩ :=jk.f4
  refine(k0 _ hB).mono ?_
  rintro e w1 ⟨rfl,hb⟩
  replace au:=au.below hb
  replace jk:=jk.below hb
  replace hB:=hB.trans (hb.mono hB.size)
  have sz:=hb.size
  clear hb
  clear aD aF aR aS aL aQ
  obtain⟨aD,aF,aR,aS,aL,aQ⟩ :=au.f4
  clear jF jG q9 ru kJ l9
  obtain⟨jF,jG,q9,ru,kJ,l9⟩ :=jk.f4
  clear k0
  go_wp2_with fail
  refine(k1 _ hB).mono ?_
  rintro e w2 ⟨rfl,hb⟩
  replace au:=au.below hb
  replace jk:=jk.below hb
  replace hB:=hB.trans (hb.mono hB.size)
  have sz:=hb.size
  clear hb
  clear aD aF aR aS aL aQ
  obtain⟨aD,aF,aR,aS,aL,aQ⟩ :=au.f4
  clear jF jG q9 ru kJ l9
  obtain⟨jF,jG,q9,ru,kJ,l9⟩ :=jk.f4
  clear k1
  go_wp2_with fail
  go_ret
  exact⟨bK HV.out.symm,hB⟩
 |true=>
 replace HV : Hid (rF x y=true) :=HV.out.trans (by simp)
 obtain⟨w0,hW0⟩ : ∃x,x= ((w.alloc (.cells #[.slice H.E.Y.a H.E.Y.l H.E.Y.c, .slice H.E.Z.a H.E.Z.l H.E.Z.c, .slice H.I.G.a H.I.G.l H.I.G.c, .slice H.I.O.a H.I.O.l H.I.O.c] 31)).alloc (.cells #[.slice K.E.Y.a K.E.Y.l K.E.Y.c, .slice K.E.Z.a K.E.Z.l K.E.Z.c, .slice K.I.G.a K.I.G.l K.I.G.c, .slice K.I.O.a K.I.O.l K.I.O.c] 31)) := ⟨_,rfl⟩
 have au : aB w0 (w.heap.size) [.slice H.E.Y.a H.E.Y.l H.E.Y.c, .slice H.E.Z.a H.E.Z.l H.E.Z.c, .slice H.I.G.a H.I.G.l H.I.G.c, .slice H.I.O.a H.I.O.l H.I.O.c]:=by
  rw [hW0]
  exact aB.alloc aB.nw _
 have jk : aB w0 (w.heap.size+1) [.slice K.E.Y.a K.E.Y.l K.E.Y.c, .slice K.E.Z.a K.E.Z.l K.E.Z.c, .slice K.I.G.a K.I.G.l K.I.G.c, .slice K.I.O.a K.I.O.l K.I.O.c]:=by
  rw [hW0]
  exact aB.nw
 have hB : Below w.heap.size w w0:=by
  rw [hW0]
  exact dJ
 go_enter Tryz.func26,Tryz.ntmps26
 go_wp2_with fail
 rw [←hW0]
 clear hW0
 have g_:=au.lt
 have Al:=jk.lt
 obtain⟨aD,aF,aR,aS,aL,aQ⟩ :=au.f4
 obtain⟨jF,jG,q9,ru,kJ,l9⟩ :=jk.f4
 refine(k0 _ hB).mono ?_
 rintro e w1 ⟨rfl,hb⟩
 replace au:=au.below hb
 replace jk:=jk.below hb
 replace hB:=hB.trans (hb.mono hB.size)
 have sz:=hb.size
 clear hb
 clear aD aF aR aS aL aQ
 obtain⟨aD,aF,aR,aS,aL,aQ⟩ :=au.f4
 clear jF jG q9 ru kJ l9
 obtain⟨jF,jG,q9,ru,kJ,l9⟩ :=jk.f4
 clear k0
 go_wp2_with fail
 refine(k1 _ hB).mono ?_
 rintro e w2 ⟨rfl,hb⟩
 replace au:=au.below hb
 replace jk:=jk.below hb
 replace hB:=hB.trans (hb.mono hB.size)
 have sz:=hb.size
 clear hb
 clear aD aF aR aS aL aQ
 obtain⟨aD,aF,aR,aS,aL,aQ⟩ :=au.f4
 clear jF jG q9 ru kJ l9
 obtain⟨jF,jG,q9,ru,kJ,l9⟩ :=jk.f4
 clear k1
 go_wp2_with fail
 go_ret
 exact⟨bK HV.out.symm,hB⟩
end Go.Proofs.YtkmggglljkmjoaaGreat
namespace Go.Proofs.YtkmggglljkmjoaaGreat
open Go.RowKit
theorem sU (x : Mem) : rF x x=true:=by simp [rF,nZ,l5]
theorem Le (x : Lists) : l5 x x=true:=by simp [l5]
theorem Iy {m : Mem}{w h : Int}(k : (iw m w h).2=0) : dG (iw m w h).1=true∧oL (iw m w h).1 h=false∧ (ko (iw m w h).1 h 0 1).2=4∧iw (iw m w h).1 w h= ((iw m w h).1,4) ∧dx (iw m w h).1≤450:=by
 obtain⟨p,hl,p2,hg,_⟩ :=yF k
 obtain⟨_,hw,_⟩ :=Hf k
 have ok:=mQ p2
 have hn : gM (iw m w h).1 h=false:=by
  cases e : gM (iw m w h).1 h with
  |false=>rfl
  |true=>
   obtain⟨_,_,_,d⟩ :=mU.1 e
   rw [hg] at d
   omega
 refine⟨ok,by rw [sO p2,hn], ?_,wm ok hw hn,o8 p2⟩
 have e:=yg (a:=0) (k:=1) ok (by decide) hn
 unfold ko
 rw [e]
 rfl
theorem EG {m : Mem}{i : Nat}(k : uW m i) : dx m≤450:=by
 rcases k with ⟨_,rfl⟩ | ⟨_,_,k⟩
 ·exact o8 Ad
 ·exact o8 k.ok
theorem Df {i : Nat}(h1 : 1≤i)(h6 : i≤6) : eY ((i * 32 : Nat) : Int) =true∧ ((i * 32 : Nat) : Int) %32=0∧ ((i * 32 : Nat) : Int) / 32= (i : Int) :=by
 unfold eY
 simp only [Bool.and_eq_true,decide_eq_true_eq]
 omega
theorem Hq {m : Mem}{i : Nat}(k : uW m i)(h1 : 1≤i)(h6 : i≤6) : ∃y z : Mem,dS m 0 40= (y, ((i * 32 : Nat) : Int),0) ∧iw y 0 ((i * 32 : Nat) : Int) = (z,0) ∧dx y≤450∧uW z (i+1) :=by
 obtain⟨a,b,c,_⟩ :=EA k h6
 obtain⟨d,e⟩ :=Kh k h1 h6
 refine⟨(dS m 0 40).1, (iw (dS m 0 40).1 0 ((i * 32 : Nat) : Int)).1, ?_, ?_,o8 c.ok,e⟩
 ·exact Prod.ext rfl (Prod.ext a b)
 ·exact Prod.ext rfl d
theorem Gg {m : Mem}(k : uW m 7) : ∃ (y : Mem) (h : Int),dS m 0 40= (y,h,0) ∧kM m 0=2∧eY h=true∧h%32=4:=by
 obtain⟨a,b,c,d⟩ :=run_end k
 exact⟨(dS m 0 40).1, (dS m 0 40).2.1,Prod.ext rfl (Prod.ext rfl b),a,c,d⟩
end Go.Proofs.YtkmggglljkmjoaaGreat
namespace Go.Proofs.YtkmggglljkmjoaaGreat
open Go.RowKit
set_option maxRecDepth 100000 in
set_option maxHeartbeats 4000000 in
theorem Gh (w : World)(H : bP)(x : Mem)(wk a : Int)(h : gJ w w.heap.size H x)(hs : dx x≤536870912) :
  Calls Tryz.prog 45 #[.agg #[.slice H.E.Y.a H.E.Y.l H.E.Y.c, .slice H.E.Z.a H.E.Z.l H.E.Z.c, .slice H.I.G.a H.I.G.l H.I.G.c, .slice H.I.O.a H.I.O.l H.I.O.c], .int .i64 wk, .int .i64 a] w fun e w'=> ∃H' : bP,e= .returned (.tuple #[.agg #[.slice H'.E.Y.a H'.E.Y.l H'.E.Y.c, .slice H'.E.Z.a H'.E.Z.l H'.E.Z.c, .slice H'.I.G.a H'.I.G.l H'.I.G.c, .slice H'.I.O.a H'.I.O.l H'.I.O.c], .int .i64 (iw x wk a).2]) ∧d9 w' H' (iw x wk a).1∧ (∀g∈H'.foot,w.heap.size≤g) ∧Below w.heap.size w w':=by
 have hcp:=fun (W : World) (hW : Below w.heap.size w W) =>kV W H x (dO h hW) hs
 have hmo:=fun (W : World) (hW : Below w.heap.size w W) =>jS W H x (dO h hW)
 by_cases c1 : dG x=true
 case neg=>
  have c1':= (Bool.not_eq_true _).mp c1
  have HV:=Hid.aT (wh (h:=a) (show dG x=false∨bO 0 2 wk=false from .inl c1'))
  clear c1
  obtain⟨w0,hW0⟩ : ∃x,x= ((w.alloc (.cells #[.slice H.E.Y.a H.E.Y.l H.E.Y.c, .slice H.E.Z.a H.E.Z.l H.E.Z.c, .slice H.I.G.a H.I.G.l H.I.G.c, .slice H.I.O.a H.I.O.l H.I.O.c] 31)).alloc (.cells #[.slice none 0 0, .slice none 0 0, .slice none 0 0, .slice none 0 0] 31)) := ⟨_,rfl⟩
  have au : aB w0 (w.heap.size) [.slice H.E.Y.a H.E.Y.l H.E.Y.c, .slice H.E.Z.a H.E.Z.l H.E.Z.c, .slice H.I.G.a H.I.G.l H.I.G.c, .slice H.I.O.a H.I.O.l H.I.O.c]:=by
   rw [hW0]
   exact aB.alloc aB.nw _
  have ah : aB w0 (w.heap.size+1) [.slice none 0 0, .slice none 0 0, .slice none 0 0, .slice none 0 0]:=by
   rw [hW0]
   exact aB.nw
  have hB : Below w.heap.size w w0:=by
   rw [hW0]
   exact dJ
  go_enter Tryz.func45,Tryz.ntmps45
  go_wp2_with fail
  rw [←hW0]
  clear hW0
  have g_:=au.lt
  have iB:=ah.lt
  obtain⟨aD,aF,aR,aS,aL,aQ⟩ :=au.f4
  obtain⟨aj,ak,aJ,aK,ay,aI⟩ :=ah.f4
  refine(hmo _ hB).mono ?_
  rw [c1']
  rintro e w1 ⟨rfl,hb⟩
  replace au:=au.below hb
  replace ah:=ah.below hb
  replace hB:=hB.trans (hb.mono hB.size)
  have sz:=hb.size
  clear hb
  clear aD aF aR aS aL aQ
  obtain⟨aD,aF,aR,aS,aL,aQ⟩ :=au.f4
  clear aj ak aJ aK ay aI
  obtain⟨aj,ak,aJ,aK,ay,aI⟩ :=ah.f4
  clear hmo
  go_wp2_with fail
  refine(hcp _ hB).mono ?_
  rintro e w2 ⟨aA,rfl,aP,l_c,hb⟩
  have u_c:=aP.lt
  replace au:=au.below hb
  replace ah:=ah.below hb
  replace hB:=hB.trans (hb.mono hB.size)
  have sz:=hb.size
  clear hb
  clear aD aF aR aS aL aQ
  obtain⟨aD,aF,aR,aS,aL,aQ⟩ :=au.f4
  clear aj ak aJ aK ay aI
  obtain⟨aj,ak,aJ,aK,ay,aI⟩ :=ah.f4
  go_wp2_with fail
  refine bodyPost_ret (v:= .tuple #[.agg #[.slice aA.E.Y.a aA.E.Y.l aA.E.Y.c, .slice aA.E.Z.a aA.E.Z.l aA.E.Z.c, .slice aA.I.G.a aA.I.G.l aA.I.G.c, .slice aA.I.O.a aA.I.O.l aA.I.O.c], .int .i64 1]) (by simp [results,Tryz.results45,go_sem,aj,ak,aJ,aK]) rfl ⟨aA,by rw [HV.out],by rw [HV.out];exact aP.aM (F:= [w.heap.size+1]) bW (fun g hg hm=>by simp only [List.mem_cons,List.not_mem_nil,or_false] at hm;have:=l_c g hg;have:=u_c g hg;omega),fun g hg=>by have:=l_c g hg;omega,Below.trans hB dQ⟩
 by_cases c2 : bO 0 2 wk=true
 case neg=>
  have c2':= (Bool.not_eq_true _).mp c2
  have HV:=Hid.aT (wh (m:=x) (h:=a) (show dG x=false∨bO 0 2 wk=false from .inr c2'))
  clear c2
  obtain⟨w0,hW0⟩ : ∃x,x= ((w.alloc (.cells #[.slice H.E.Y.a H.E.Y.l H.E.Y.c, .slice H.E.Z.a H.E.Z.l H.E.Z.c, .slice H.I.G.a H.I.G.l H.I.G.c, .slice H.I.O.a H.I.O.l H.I.O.c] 31)).alloc (.cells #[.slice none 0 0, .slice none 0 0, .slice none 0 0, .slice none 0 0] 31)) := ⟨_,rfl⟩
  have au : aB w0 (w.heap.size) [.slice H.E.Y.a H.E.Y.l H.E.Y.c, .slice H.E.Z.a H.E.Z.l H.E.Z.c, .slice H.I.G.a H.I.G.l H.I.G.c, .slice H.I.O.a H.I.O.l H.I.O.c]:=by
   rw [hW0]
   exact aB.alloc aB.nw _
  have ah : aB w0 (w.heap.size+1) [.slice none 0 0, .slice none 0 0, .slice none 0 0, .slice none 0 0]:=by
   rw [hW0]
   exact aB.nw
  have hB : Below w.heap.size w w0:=by
   rw [hW0]
   exact dJ
  go_enter Tryz.func45,Tryz.ntmps45
  go_wp2_with fail
  rw [←hW0]
  clear hW0
  have g_:=au.lt
  have iB:=ah.lt
  obtain⟨aD,aF,aR,aS,aL,aQ⟩ :=au.f4
  obtain⟨aj,ak,aJ,aK,ay,aI⟩ :=ah.f4
  refine(hmo _ hB).mono ?_
  rw [c1]
  rintro e w1 ⟨rfl,hb⟩
  replace au:=au.below hb
  replace ah:=ah.below hb
  replace hB:=hB.trans (hb.mono hB.size)
  have sz:=hb.size
  clear hb
  clear aD aF aR aS aL aQ
  obtain⟨aD,aF,aR,aS,aL,aQ⟩ :=au.f4
  clear aj ak aJ aK ay aI
  obtain⟨aj,ak,aJ,aK,ay,aI⟩ :=ah.f4
  clear hmo
  go_wp2_with (go_at_call 96;refine(lT _ _).mono ?_;rw [c2'];rintro e wv ⟨rfl,rfl⟩)
  refine(hcp _ hB).mono ?_
  rintro e w2 ⟨aA,rfl,aP,l_c,hb⟩
  have u_c:=aP.lt
  replace au:=au.below hb
  replace ah:=ah.below hb
  replace hB:=hB.trans (hb.mono hB.size)
  have sz:=hb.size
  clear hb
  clear aD aF aR aS aL aQ
  obtain⟨aD,aF,aR,aS,aL,aQ⟩ :=au.f4
  clear aj ak aJ aK ay aI
  obtain⟨aj,ak,aJ,aK,ay,aI⟩ :=ah.f4
  go_wp2_with fail
  refine bodyPost_ret (v:= .tuple #[.agg #[.slice aA.E.Y.a aA.E.Y.l aA.E.Y.c, .slice aA.E.Z.a aA.E.Z.l aA.E.Z.c, .slice aA.I.G.a aA.I.G.l aA.I.G.c, .slice aA.I.O.a aA.I.O.l aA.I.O.c], .int .i64 1]) (by simp [results,Tryz.results45,go_sem,aj,ak,aJ,aK]) rfl ⟨aA,by rw [HV.out],by rw [HV.out];exact aP.aM (F:= [w.heap.size+1]) bW (fun g hg hm=>by simp only [List.mem_cons,List.not_mem_nil,or_false] at hm;have:=l_c g hg;have:=u_c g hg;omega),fun g hg=>by have:=l_c g hg;omega,Below.trans hB dQ⟩
 have AV:=Hid.aT (jd c1)
 have hlv:=fun (W : World) (hW : Below w.heap.size w W) =>qO W H x a (dO h hW) AV.out
 by_cases c3 : gM x a=true
 case neg=>
  have c3':= (Bool.not_eq_true _).mp c3
  have HV:=Hid.aT (wm c1 c2 c3')
  clear c3
  obtain⟨w0,hW0⟩ : ∃x,x= ((w.alloc (.cells #[.slice H.E.Y.a H.E.Y.l H.E.Y.c, .slice H.E.Z.a H.E.Z.l H.E.Z.c, .slice H.I.G.a H.I.G.l H.I.G.c, .slice H.I.O.a H.I.O.l H.I.O.c] 31)).alloc (.cells #[.slice none 0 0, .slice none 0 0, .slice none 0 0, .slice none 0 0] 31)) := ⟨_,rfl⟩
  have au : aB w0 (w.heap.size) [.slice H.E.Y.a H.E.Y.l H.E.Y.c, .slice H.E.Z.a H.E.Z.l H.E.Z.c, .slice H.I.G.a H.I.G.l H.I.G.c, .slice H.I.O.a H.I.O.l H.I.O.c]:=by
   rw [hW0]
   exact aB.alloc aB.nw _
  have ah : aB w0 (w.heap.size+1) [.slice none 0 0, .slice none 0 0, .slice none 0 0, .slice none 0 0]:=by
   rw [hW0]
   exact aB.nw
  have hB : Below w.heap.size w w0:=by
   rw [hW0]
   exact dJ
  go_enter Tryz.func45,Tryz.ntmps45
  go_wp2_with fail
  rw [←hW0]
  clear hW0
  have g_:=au.lt
  have iB:=ah.lt
  obtain⟨aD,aF,aR,aS,aL,aQ⟩ :=au.f4
  obtain⟨aj,ak,aJ,aK,ay,aI⟩ :=ah.f4
  refine(hmo _ hB).mono ?_
  rw [c1]
  rintro e w1 ⟨rfl,hb⟩
  replace au:=au.below hb
  replace ah:=ah.below hb
  replace hB:=hB.trans (hb.mono hB.size)
  have sz:=hb.size
  clear hb
  clear aD aF aR aS aL aQ
  obtain⟨aD,aF,aR,aS,aL,aQ⟩ :=au.f4
  clear aj ak aJ aK ay aI
  obtain⟨aj,ak,aJ,aK,ay,aI⟩ :=ah.f4
  clear hmo
  go_wp2_with (go_at_call 96;refine(lT _ _).mono ?_;rw [c2];rintro e wv ⟨rfl,rfl⟩)
  refine(hlv _ hB).mono ?_
  rw [c3']
  rintro e w2 ⟨rfl,hb⟩
  replace au:=au.below hb
  replace ah:=ah.below hb
  replace hB:=hB.trans (hb.mono hB.size)
  have sz:=hb.size
  clear hb
  clear aD aF aR aS aL aQ
  obtain⟨aD,aF,aR,aS,aL,aQ⟩ :=au.f4
  clear aj ak aJ aK ay aI
  obtain⟨aj,ak,aJ,aK,ay,aI⟩ :=ah.f4
  clear hlv
  go_wp2_with fail
  refine(hcp _ hB).mono ?_
  rintro e w3 ⟨aA,rfl,aP,l_c,hb⟩
  have u_c:=aP.lt
  replace au:=au.below hb
  replace ah:=ah.below hb
  replace hB:=hB.trans (hb.mono hB.size)
  have sz:=hb.size
  clear hb
  clear aD aF aR aS aL aQ
  obtain⟨aD,aF,aR,aS,aL,aQ⟩ :=au.f4
  clear aj ak aJ aK ay aI
  obtain⟨aj,ak,aJ,aK,ay,aI⟩ :=ah.f4
  go_wp2_with fail
  refine bodyPost_ret (v:= .tuple #[.agg #[.slice aA.E.Y.a aA.E.Y.l aA.E.Y.c, .slice aA.E.Z.a aA.E.Z.l aA.E.Z.c, .slice aA.I.G.a aA.I.G.l aA.I.G.c, .slice aA.I.O.a aA.I.O.l aA.I.O.c], .int .i64 4]) (by simp [results,Tryz.results45,go_sem,aj,ak,aJ,aK]) rfl ⟨aA,by rw [HV.out],by rw [HV.out];exact aP.aM (F:= [w.heap.size+1]) bW (fun g hg hm=>by simp only [List.mem_cons,List.not_mem_nil,or_false] at hm;have:=l_c g hg;have:=u_c g hg;omega),fun g hg=>by have:=l_c g hg;omega,Below.trans hB dQ⟩
 have HV:=Hid.aT (tX c1 c2 c3)
 obtain⟨b1,b2⟩ :=bJ.1 c2
 obtain⟨k,rfl⟩ : ∃k : Nat,wk= (k : Int) := ⟨wk.toNat,by omega⟩
 have hk : k<3:=by omega
 rw [Int.toNat_natCast] at HV
 have hfr:=fun (W : World) (hW : Below w.heap.size w W) =>Ia W H x k a (dO h hW) hs c1 hk c3
 obtain⟨w0,hW0⟩ : ∃x,x= ((w.alloc (.cells #[.slice H.E.Y.a H.E.Y.l H.E.Y.c, .slice H.E.Z.a H.E.Z.l H.E.Z.c, .slice H.I.G.a H.I.G.l H.I.G.c, .slice H.I.O.a H.I.O.l H.I.O.c] 31)).alloc (.cells #[.slice none 0 0, .slice none 0 0, .slice none 0 0, .slice none 0 0] 31)) := ⟨_,rfl⟩
 have au : aB w0 (w.heap.size) [.slice H.E.Y.a H.E.Y.l H.E.Y.c, .slice H.E.Z.a H.E.Z.l H.E.Z.c, .slice H.I.G.a H.I.G.l H.I.G.c, .slice H.I.O.a H.I.O.l H.I.O.c]:=by
  rw [hW0]
  exact aB.alloc aB.nw _
 have ah : aB w0 (w.heap.size+1) [.slice none 0 0, .slice none 0 0, .slice none 0 0, .slice none 0 0]:=by
  rw [hW0]
  exact aB.nw
 have hB : Below w.heap.size w w0:=by
  rw [hW0]
  exact dJ
 go_enter Tryz.func45,Tryz.ntmps45
 go_wp2_with fail
 rw [←hW0]
 clear hW0
 have g_:=au.lt
 have iB:=ah.lt
 obtain⟨aD,aF,aR,aS,aL,aQ⟩ :=au.f4
 obtain⟨aj,ak,aJ,aK,ay,aI⟩ :=ah.f4
 refine(hmo _ hB).mono ?_
 rw [c1]
 rintro e w1 ⟨rfl,hb⟩
 replace au:=au.below hb
 replace ah:=ah.below hb
 replace hB:=hB.trans (hb.mono hB.size)
 have sz:=hb.size
 clear hb
 clear aD aF aR aS aL aQ
 obtain⟨aD,aF,aR,aS,aL,aQ⟩ :=au.f4
 clear aj ak aJ aK ay aI
 obtain⟨aj,ak,aJ,aK,ay,aI⟩ :=ah.f4
 clear hmo
 go_wp2_with (go_at_call 96;refine(lT _ _).mono ?_;rw [c2];rintro e wv ⟨rfl,rfl⟩)
 refine(hlv _ hB).mono ?_
 rw [c3]
 rintro e w2 ⟨rfl,hb⟩
 replace au:=au.below hb
 replace ah:=ah.below hb
 replace hB:=hB.trans (hb.mono hB.size)
 have sz:=hb.size
 clear hb
 clear aD aF aR aS aL aQ
 obtain⟨aD,aF,aR,aS,aL,aQ⟩ :=au.f4
 clear aj ak aJ aK ay aI
 obtain⟨aj,ak,aJ,aK,ay,aI⟩ :=ah.f4
 clear hlv
 go_wp2_with fail
 refine(hfr _ hB).mono ?_
 rintro e w3 ⟨aA,rfl,aP,l_c,hb⟩
 have u_c:=aP.lt
 replace au:=au.below hb
 replace ah:=ah.below hb
 replace hB:=hB.trans (hb.mono hB.size)
 have sz:=hb.size
 clear hb
 clear aD aF aR aS aL aQ
 obtain⟨aD,aF,aR,aS,aL,aQ⟩ :=au.f4
 clear aj ak aJ aK ay aI
 obtain⟨aj,ak,aJ,aK,ay,aI⟩ :=ah.f4
 go_wp2_with fail
 refine bodyPost_ret (v:= .tuple #[.agg #[.slice aA.E.Y.a aA.E.Y.l aA.E.Y.c, .slice aA.E.Z.a aA.E.Z.l aA.E.Z.c, .slice aA.I.G.a aA.I.G.l aA.I.G.c, .slice aA.I.O.a aA.I.O.l aA.I.O.c], .int .i64 0]) (by simp [results,Tryz.results45,go_sem,aj,ak,aJ,aK]) rfl ⟨aA,by rw [HV.out],by rw [HV.out];exact aP.aM (F:= [w.heap.size+1]) bW (fun g hg hm=>by simp only [List.mem_cons,List.not_mem_nil,or_false] at hm;have:=l_c g hg;have:=u_c g hg;omega),fun g hg=>by have:=l_c g hg;omega,Below.trans hB dQ⟩
end Go.Proofs.YtkmggglljkmjoaaGreat
namespace Go.Proofs.YtkmggglljkmjoaaGreat
open Go.RowKit
theorem oq {H : bP}{x : Mem}{a b : Int}{y : Mem}{c : Int}(hf : iw x a b= (y,c))(hs : dx x≤536870912)(w : World)(h : gJ w w.heap.size H x) :
  Calls Tryz.prog 45 #[.agg #[.slice H.E.Y.a H.E.Y.l H.E.Y.c, .slice H.E.Z.a H.E.Z.l H.E.Z.c, .slice H.I.G.a H.I.G.l H.I.G.c, .slice H.I.O.a H.I.O.l H.I.O.c], .int .i64 a, .int .i64 b] w fun e w'=> ∃K : bP,e= .returned (.tuple #[.agg #[.slice K.E.Y.a K.E.Y.l K.E.Y.c, .slice K.E.Z.a K.E.Z.l K.E.Z.c, .slice K.I.G.a K.I.G.l K.I.G.c, .slice K.I.O.a K.I.O.l K.I.O.c], .int .i64 c]) ∧d9 w' K y∧ (∀g∈K.foot,w.heap.size≤g) ∧Below w.heap.size w w':=by
 have k:=Gh w H x a b h hs
 rw [hf] at k
 exact k
theorem Bn {H : bP}{x : Mem}{a b : Int}{y : Mem}{c : Int}(hf : iw x a b= (y,c))(hs : dx x≤536870912)(w : World)(h : gJ w w.heap.size H x) :
  Calls Tryz.prog 46 #[.agg #[.slice H.E.Y.a H.E.Y.l H.E.Y.c, .slice H.E.Z.a H.E.Z.l H.E.Z.c, .slice H.I.G.a H.I.G.l H.I.G.c, .slice H.I.O.a H.I.O.l H.I.O.c], .int .i64 a, .int .i64 b] w fun e w'=> ∃K : bP,e= .returned (.tuple #[.agg #[.slice K.E.Y.a K.E.Y.l K.E.Y.c, .slice K.E.Z.a K.E.Z.l K.E.Z.c, .slice K.I.G.a K.I.G.l K.I.G.c, .slice K.I.O.a K.I.O.l K.I.O.c], .int .i64 c]) ∧d9 w' K y∧ (∀g∈K.foot,w.heap.size≤g) ∧Below w.heap.size w w':=by
 have k:=Ai w H x a b h hs
 rw [hf] at k
 exact k
theorem mI {H : bP}{x : Mem}{a b : Int}{y : Mem}{c d : Int}(hf : dS x a b= (y,c,d))(hs : dx x≤536870912)(w : World)(h : gJ w w.heap.size H x) :
  Calls Tryz.prog 34 #[.agg #[.slice H.E.Y.a H.E.Y.l H.E.Y.c, .slice H.E.Z.a H.E.Z.l H.E.Z.c, .slice H.I.G.a H.I.G.l H.I.G.c, .slice H.I.O.a H.I.O.l H.I.O.c], .int .i64 a, .int .i64 b] w fun e w'=> ∃K : bP,e= .returned (.tuple #[.agg #[.slice K.E.Y.a K.E.Y.l K.E.Y.c, .slice K.E.Z.a K.E.Z.l K.E.Z.c, .slice K.I.G.a K.I.G.l K.I.G.c, .slice K.I.O.a K.I.O.l K.I.O.c], .int .i64 c, .int .i64 d]) ∧jO w' K y∧ (∀g∈K.foot,w.heap.size≤g) ∧Below w.heap.size w w':=by
 have k:=EN w H x a b h hs
 rw [hf] at k
 exact k
theorem Am {H : bP}{x : Mem}{a b : Int}{y : Mem}{c d : Int}(hf : dS x a b= (y,c,d))(hs : dx x≤536870912)(w : World)(h : gJ w w.heap.size H x) :
  Calls Tryz.prog 35 #[.agg #[.slice H.E.Y.a H.E.Y.l H.E.Y.c, .slice H.E.Z.a H.E.Z.l H.E.Z.c, .slice H.I.G.a H.I.G.l H.I.G.c, .slice H.I.O.a H.I.O.l H.I.O.c], .int .i64 a, .int .i64 b] w fun e w'=> ∃K : bP,e= .returned (.tuple #[.agg #[.slice K.E.Y.a K.E.Y.l K.E.Y.c, .slice K.E.Z.a K.E.Z.l K.E.Z.c, .slice K.I.G.a K.I.G.l K.I.G.c, .slice K.I.O.a K.I.O.l K.I.O.c], .int .i64 c, .int .i64 d]) ∧d9 w' K y∧ (∀g∈K.foot,w.heap.size≤g) ∧Below w.heap.size w w':=by
 have k:=yV w H x a b h hs
 rw [hf] at k
 exact k
theorem yJ {H : bP}{x : Mem}{s a k : Int}{c : Int}{d : Int}(hf : ko x s a k= (c,d))(w : World)(h : gJ w w.heap.size H x) :
  Calls Tryz.prog 27 #[.agg #[.slice H.E.Y.a H.E.Y.l H.E.Y.c, .slice H.E.Z.a H.E.Z.l H.E.Z.c, .slice H.I.G.a H.I.G.l H.I.G.c, .slice H.I.O.a H.I.O.l H.I.O.c], .int .i64 s, .int .i64 a, .int .i64 k] w fun e w'=>e= .returned (.tuple #[.int .i64 c, .int .i64 d]) ∧Below w.heap.size w w':=by
 have k:=wX w H x s a k h
 rw [hf] at k
 exact k
theorem Iz {H : bP}{x : Mem}{s a k : Int}{c : Int}{d : Int}(hf : ko x s a k= (c,d))(hs : dx x≤536870912)(w : World)(h : gJ w w.heap.size H x) :
  Calls Tryz.prog 43 #[.agg #[.slice H.E.Y.a H.E.Y.l H.E.Y.c, .slice H.E.Z.a H.E.Z.l H.E.Z.c, .slice H.I.G.a H.I.G.l H.I.G.c, .slice H.I.O.a H.I.O.l H.I.O.c], .int .i64 s, .int .i64 a, .int .i64 k] w fun e w'=>e= .returned (.tuple #[.int .i64 c, .int .i64 d]) ∧Below w.heap.size w w':=by
 have k:=Gu w H x s a k h (by unfold dx bX at hs;omega) (by unfold dx bX at hs;omega)
 rw [hf] at k
 exact k
theorem pW {H : bP}{x : Mem}{s a k n : Int}{y : Mem}{c : Int}(hf : gL x s a k n= (y,c))(hs : dx x≤536870912)(w : World)(h : gJ w w.heap.size H x) :
  Calls Tryz.prog 24 #[.agg #[.slice H.E.Y.a H.E.Y.l H.E.Y.c, .slice H.E.Z.a H.E.Z.l H.E.Z.c, .slice H.I.G.a H.I.G.l H.I.G.c, .slice H.I.O.a H.I.O.l H.I.O.c], .int .i64 s, .int .i64 a, .int .i64 k, .int .i64 n] w fun e w'=> ∃K : bP,e= .returned (.tuple #[.agg #[.slice K.E.Y.a K.E.Y.l K.E.Y.c, .slice K.E.Z.a K.E.Z.l K.E.Z.c, .slice K.I.G.a K.I.G.l K.I.G.c, .slice K.I.O.a K.I.O.l K.I.O.c], .int .i64 c]) ∧d9 w' K y∧ (∀g∈K.foot,w.heap.size≤g) ∧Below w.heap.size w w':=by
 have k:=Fz w H x s a k n h hs
 rw [hf] at k
 exact k
theorem Bo {H : bP}{x : Mem}{s a k n : Int}{y : Mem}{c : Int}(hf : gL x s a k n= (y,c))(hs : dx x≤536870912)(w : World)(h : gJ w w.heap.size H x)(hn : gZ n) :
  Calls Tryz.prog 25 #[.agg #[.slice H.E.Y.a H.E.Y.l H.E.Y.c, .slice H.E.Z.a H.E.Z.l H.E.Z.c, .slice H.I.G.a H.I.G.l H.I.G.c, .slice H.I.O.a H.I.O.l H.I.O.c], .int .i64 s, .int .i64 a, .int .i64 k, .int .i64 n] w fun e w'=> ∃K : bP,e= .returned (.tuple #[.agg #[.slice K.E.Y.a K.E.Y.l K.E.Y.c, .slice K.E.Z.a K.E.Z.l K.E.Z.c, .slice K.I.G.a K.I.G.l K.I.G.c, .slice K.I.O.a K.I.O.l K.I.O.c], .int .i64 c]) ∧d9 w' K y∧ (∀g∈K.foot,w.heap.size≤g) ∧Below w.heap.size w w':=by
 have k:=Aj w H x s a k n h hs hn
 rw [hf] at k
 exact k
end Go.Proofs.YtkmggglljkmjoaaGreat
namespace Go.Proofs.YtkmggglljkmjoaaGreat
open Go.RowKit
set_option maxHeartbeats 400000 in
theorem qg (h : Int)(w : World)(k : eY h=true) : Calls Tryz.prog 48 #[.int .i64 h] w fun e w'=>e= .returned (.int .i64 (h%32)) ∧w=w':=by
 obtain⟨a,b,_,_,c,d⟩ :=kX k
 have HC:=Hid.aT c
 clear c d
 go_enter Tryz.func48,Tryz.ntmps48
 go_wp2_with (go_at_call 114;refine(pI _ _).mono ?_;rw [k];rintro e w1 ⟨rfl,rfl⟩)
 go_ret
 exact⟨dN (by first|rfl|rw [HC.out]),rfl⟩
set_option maxHeartbeats 400000 in
theorem xO (h : Int)(w : World)(k : eY h=true) : Calls Tryz.prog 49 #[.int .i64 h] w fun e w'=>e= .returned (.int .i64 (h / 32)) ∧w=w':=by
 obtain⟨a,b,_,_,c,d⟩ :=kX k
 have HC:=Hid.aT d
 clear c d
 go_enter Tryz.func49,Tryz.ntmps49
 go_wp2_with (go_at_call 114;refine(pI _ _).mono ?_;rw [k];rintro e w1 ⟨rfl,rfl⟩)
 go_ret
 exact⟨dN (by first|rfl|rw [HC.out]),rfl⟩
end Go.Proofs.YtkmggglljkmjoaaGreat
