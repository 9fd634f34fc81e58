/-
  Several texts in one: lemmas and contracts that the claim rests on.
-/
import Derived.Test.YtkmggglljkmjoaaUHNoReuse2
import Derived.Test.YtkmggglljkmjoaaUHNoReuse1
import Derived.Deep.QuietTactic
import Derived.BigQuiet
import Derived.Deep.LoopGhost
import Derived.Deep.RegionHeld3
import Derived.WalkSpells
import Derived.Laws.Cover3
import Derived.Test.YtkmggglljkmjoaaUHNoReuse11
import Derived.Test.YtkmggglljkmjoaaUHNoReuse4
namespace Go.Proofs.Ytkmggglljkmjoaa
open Go.RowKit
theorem Av {B g0 : Nat}{v0 v1 v2 v3 : Value}{W w w' : World}(h : w.cell? ⟨g0,0,none⟩ =some v0∧w.cell? ⟨g0,1,none⟩ =some v1∧w.cell? ⟨g0,2,none⟩ =some v2∧w.cell? ⟨g0,3,none⟩ =some v3∧g0<w.heap.size∧Below B W w)(hb : Below w.heap.size w w')(hB : B≤g0) :
  w'.cell? ⟨g0,0,none⟩ =some v0∧w'.cell? ⟨g0,1,none⟩ =some v1∧w'.cell? ⟨g0,2,none⟩ =some v2∧w'.cell? ⟨g0,3,none⟩ =some v3∧g0<w'.heap.size∧Below B W w':=by
 obtain⟨a,b,a',b',d,f⟩ :=h
 exact⟨fV hb d a,fV hb d b,fV hb d a',fV hb d b',Nat.lt_of_lt_of_le d hb.size,f.trans (hb.mono (by omega))⟩
set_option maxRecDepth 100000 in
set_option maxHeartbeats 4000000 in
theorem rE (w : World)(H : bY)(x : Mem)(s : Int)(h : gD w w.heap.size H x)(hs : d_ x.E=true) :
  Calls Try.prog 19 #[.agg #[.slice H.E.Y.a H.E.Y.l H.E.Y.c, .slice H.E.Z.a H.E.Z.l H.E.Z.c, .slice H.I.G.a H.I.G.l H.I.G.c, .slice H.I.O.a H.I.O.l H.I.O.c], .int .i64 s] w fun e w'=>e= .returned (.bool (fI x s)) ∧Below w.heap.size w w':=by
 have ig : aJ (w.alloc (.cells #[.slice H.E.Y.a H.E.Y.l H.E.Y.c, .slice H.E.Z.a H.E.Z.l H.E.Z.c, .slice H.I.G.a H.I.G.l H.I.G.c, .slice H.I.O.a H.I.O.l H.I.O.c] 31)) w.heap.size [.slice H.E.Y.a H.E.Y.l H.E.Y.c, .slice H.E.Z.a H.E.Z.l H.E.Z.c, .slice H.I.G.a H.I.G.l H.I.G.c, .slice H.I.O.a H.I.O.l H.I.O.c]:=aJ.new w #[.slice H.E.Y.a H.E.Y.l H.E.Y.c, .slice H.E.Z.a H.E.Z.l H.E.Z.c, .slice H.I.G.a H.I.G.l H.I.G.c, .slice H.I.O.a H.I.O.l H.I.O.c] _
 have hB0 : Below w.heap.size w (w.alloc (.cells #[.slice H.E.Y.a H.E.Y.l H.E.Y.c, .slice H.E.Z.a H.E.Z.l H.E.Z.c, .slice H.I.G.a H.I.G.l H.I.G.c, .slice H.I.O.a H.I.O.l H.I.O.c] 31)) :=dn
 have HE:=Hid.aD (show fI x s= (dY s&& (gu x (s%32) == 3) && (bK x.E (s%32) == s / 32)) from rfl)
 have HS:=Hid.aD hs
 clear hs
 go_enter Try.func19,Try.ntmps19
 by_cases k1 : dY s=true
 case neg=>
  have k1' : dY s=false:= (Bool.not_eq_true _).mp k1
  have HN:=Hid.aD (show fI x s=false by rw [HE.out,k1'];rfl)
  clear k1
  go_wp2_with (go_at_call 39;refine(p8 _ _).mono ?_;rw [k1'];rintro e w1 ⟨rfl,rfl⟩)
  go_ret
  exact⟨aS HN.out.symm,hB0⟩
 obtain⟨a1,a2,a3,a4,a5,a6⟩ :=jV k1
 have K1:=Hid.aD k1
 go_wp2_with (go_at_call 39;refine(p8 _ _).mono ?_;rw [k1];rintro e w1 ⟨rfl,rfl⟩)
 clear k1
 refine(wR _ H x (s%32) (eD h hB0) HS.out).mono ?_
 rintro e w1 ⟨rfl,hb⟩
 have gy:=ig.below hb
 have hB1:=hB0.trans (hb.mono hB0.size)
 clear hb ig hB0
 by_cases k2 : (gu x (s%32) == 3) =true
 case neg=>
  have k2' : (gu x (s%32) == 3) =false:= (Bool.not_eq_true _).mp k2
  have HN:=Hid.aD (show fI x s=false by rw [HE.out,k2'];simp)
  clear k2
  go_wp2
  go_ret
  exact⟨aS HN.out.symm,hB1⟩
 have K2:=Hid.aD k2
 have gZ:=gy.cell 0 _ rfl
 have gL:=gy.cell 1 _ rfl
 have iY:=gy.cell 2 _ rfl
 have iZ:=gy.cell 3 _ rfl
 go_wp2_with fail
 refine(mO _ H.E x.E (s%32) (dH h.E hB1) HS.out).mono ?_
 rintro e w3 ⟨rfl,hb⟩
 have hB3:=hB1.trans (hb.mono hB1.size)
 clear gZ gL iY iZ hb gy hB1 k2
 by_cases k3 : (bK x.E (s%32) == s / 32) =true
 ·have HN:=Hid.aD (show fI x s=true by rw [HE.out,K1.out,K2.out,k3];rfl)
  go_wp2
  go_ret
  exact⟨aS HN.out.symm,hB3⟩
 ·have lJ : (bK x.E (s%32) == s / 32) =false:= (Bool.not_eq_true _).mp k3
  have HN:=Hid.aD (show fI x s=false by rw [HE.out,lJ];simp)
  clear k3
  go_wp2
  go_ret
  exact⟨aS HN.out.symm,hB3⟩
set_option maxRecDepth 100000 in
set_option maxHeartbeats 8000000 in
theorem wT (w : World)(H : bY)(x : Mem)(s : Int)(h : gD w w.heap.size H x)(hs : d_ x.E=true)(hs1 : iJ x.I.G≤536870912)(hs2 : iJ x.I.O≤536870912) :
  Calls Try.prog 27 #[.agg #[.slice H.E.Y.a H.E.Y.l H.E.Y.c, .slice H.E.Z.a H.E.Z.l H.E.Z.c, .slice H.I.G.a H.I.G.l H.I.G.c, .slice H.I.O.a H.I.O.l H.I.O.c], .int .i64 s] w fun e w'=>e= .returned (.bool (fI x s)) ∧Below w.heap.size w w':=by
 have ig : aJ (w.alloc (.cells #[.slice H.E.Y.a H.E.Y.l H.E.Y.c, .slice H.E.Z.a H.E.Z.l H.E.Z.c, .slice H.I.G.a H.I.G.l H.I.G.c, .slice H.I.O.a H.I.O.l H.I.O.c] 31)) w.heap.size [.slice H.E.Y.a H.E.Y.l H.E.Y.c, .slice H.E.Z.a H.E.Z.l H.E.Z.c, .slice H.I.G.a H.I.G.l H.I.G.c, .slice H.I.O.a H.I.O.l H.I.O.c]:=aJ.new w #[.slice H.E.Y.a H.E.Y.l H.E.Y.c, .slice H.E.Z.a H.E.Z.l H.E.Z.c, .slice H.I.G.a H.I.G.l H.I.G.c, .slice H.I.O.a H.I.O.l H.I.O.c] _
 have hB0 : Below w.heap.size w (w.alloc (.cells #[.slice H.E.Y.a H.E.Y.l H.E.Y.c, .slice H.E.Z.a H.E.Z.l H.E.Z.c, .slice H.I.G.a H.I.G.l H.I.G.c, .slice H.I.O.a H.I.O.l H.I.O.c] 31)) :=dn
 have HE:=Hid.aD (show fI x s= (dY s&& (gu x (s%32) == 3) && (bK x.E (s%32) == s / 32)) from rfl)
 have HS:=Hid.aD hs
 clear hs
 go_enter Try.func27,Try.ntmps27
 go_wp2
 generalize (w.alloc (.cells #[.slice H.E.Y.a H.E.Y.l H.E.Y.c, .slice H.E.Z.a H.E.Z.l H.E.Z.c, .slice H.I.G.a H.I.G.l H.I.G.c, .slice H.I.O.a H.I.O.l H.I.O.c] 31)) =w0 at ig hB0⊢
 have gZ:=ig.cell 0 _ rfl
 have gL:=ig.cell 1 _ rfl
 have iY:=ig.cell 2 _ rfl
 have iZ:=ig.cell 3 _ rfl
 have zl:=ig.lt
 by_cases k1 : dY s=true
 case neg=>
  have k1' : dY s=false:= (Bool.not_eq_true _).mp k1
  have HN:=Hid.aD (show fI x s=false by rw [HE.out,k1'];rfl)
  have hq1 : ∀W : World,Calls Try.prog 10 #[.int .i64 s] W fun e w'=>e= .returned (.bool false) ∧W=w':=fun W=> (jB s W).mono fun e w' ⟨u,v⟩ => ⟨by rw [u,k1'],v⟩
  clear k1 k1'
  go_quiet ((go_at_call 10;exact dx (hq1 _)))
  go_wp2
  go_ret
  exact⟨aS HN.out.symm,by first|exact hB0|exact hB0.drew|exact below_drewN hB0 _⟩
 have hq1 : ∀W : World,Calls Try.prog 10 #[.int .i64 s] W fun e w'=>e= .returned (.bool true) ∧W=w':=fun W=> (jB s W).mono fun e w' ⟨u,v⟩ => ⟨by rw [u,k1],v⟩
 have hq2:=fun W : World=>tT s W k1
 have hq3:=fun W : World=>uW s W k1
 have HF:=Hid.aD (show fI x s= ((gu x (s%32) == 3) && (bK x.E (s%32) == s / 32)) by rw [HE.out,k1];rfl)
 have hq4:=fun (W : World) (hW : Below w.heap.size w W) =>wS W H x (s%32) (eD h hW) HS.out hs1 hs2
 have yA:=fun (W : World) (hW : Below w.heap.size w W) (k : gu x (s%32) ≠0) =>oV W H.E x.E (s%32) (dH h.E hW) HS.out (zM k)
 clear k1 HE
 generalize s%32=sl at hq2 hq4 yA HF
 generalize s / 32=gn at hq3 HF
 generalize gu x sl=st at hq4 yA HF
 generalize bK x.E sl=ge at yA HF
 by_cases k2 : st=3
 case neg=>
  have HN:=Hid.aD (show fI x s=false by rw [HF.out,show (st == 3) =false by simpa using k2];rfl)
  have k2' : (st == 3) =false:=by simpa using k2
  clear k2 HF yA hq3
  first| (go_region_with (first| (go_at_call 10;refine(hq1 _).mono ?_;rintro e w1 ⟨rfl,rfl⟩) | (go_at_call 52;refine(hq2 _).mono ?_;rintro e w1 ⟨rfl,rfl⟩) | (go_at_call 51;refine(hq4 _ (by first|exact hB0.drew|exact below_drewN hB0 _|exact hB0)).mono ?_;rintro e w1 ⟨rfl,hb1⟩;obtain⟨os1,d1,rfl⟩ :=iR hb1;clear hb1))) |fail
  all_goals go_wp2
  all_goals go_ret
  all_goals exact⟨aS HN.out.symm,by first|exact bE hB0 (by omega) _ _|repeat (first|exact Below.refl _ _|refine Below.alloc ?_ (by simp<;>omega) _|refine bE ?_ (by simp<;>omega) _ _|refine Below.drew ?_|refine below_drewN ?_ _)⟩
 subst k2
 have El:=fun (W : World) (hW : Below w.heap.size w W) =>yA W hW (by decide)
 clear yA
 have HG:=Hid.aD (show fI x s= (ge == gn) by rw [HF.out];simp)
 clear HF
 go_region_held3 (fun w'=>w'.cell? ⟨w.heap.size,0,none⟩ =some (.slice H.E.Y.a H.E.Y.l H.E.Y.c) ∧w'.cell? ⟨w.heap.size,1,none⟩ =some (.slice H.E.Z.a H.E.Z.l H.E.Z.c) ∧w'.cell? ⟨w.heap.size,2,none⟩ =some (.slice H.I.G.a H.I.G.l H.I.G.c) ∧w'.cell? ⟨w.heap.size,3,none⟩ =some (.slice H.I.O.a H.I.O.l H.I.O.c) ∧w.heap.size<w'.heap.size∧Below w.heap.size w w') (first| (go_keep;done) |exact Av (by assumption) (by assumption) (Nat.le_refl _) |exact⟨by assumption,by assumption,by assumption,by assumption,by assumption,Below.drew (by assumption)⟩) (first| (go_at_call 10;refine(hq1 _).mono ?_;rintro e w1 ⟨rfl,rfl⟩) | (go_at_call 52;refine(hq2 _).mono ?_;rintro e w1 ⟨rfl,rfl⟩) | (go_at_call 54;refine(hq3 _).mono ?_;rintro e w1 ⟨rfl,rfl⟩) | (go_at_call 51;refine(hq4 _ (by go_split_ands;assumption)).mono ?_;rintro e w1 ⟨rfl,hb1⟩) | (go_at_call 53;refine(El _ (by go_split_ands;assumption)).mono ?_;rintro e w1 ⟨rfl,hb1⟩))
 go_wp2
 go_ret
 exact⟨aS HG.out.symm,by first|assumption| (go_split_ands;assumption)⟩
end Go.Proofs.Ytkmggglljkmjoaa
namespace Go.Proofs.Ytkmggglljkmjoaa
open Go.RowKit
def kJ (m : Mem)(h : Int) : Bool:=bX m&&fI m h
theorem jN {m : Mem}(k : bX m=true) : d_ m.E=true:=mQ (l5 k)
theorem vB {m : Mem}(k : bX m=false)(h : Int) : kJ m h=false:=by unfold kJ;rw [k];rfl
theorem tV {m : Mem}(k : bX m=true)(h : Int) : kJ m h=fI m h:=by unfold kJ;rw [k];rfl
set_option maxRecDepth 100000 in
set_option maxHeartbeats 1000000 in
theorem mR (w : World)(H : bY)(x : Mem)(s : Int)(h : gD w w.heap.size H x) :
  Calls Try.prog 11 #[.agg #[.slice H.E.Y.a H.E.Y.l H.E.Y.c, .slice H.E.Z.a H.E.Z.l H.E.Z.c, .slice H.I.G.a H.I.G.l H.I.G.c, .slice H.I.O.a H.I.O.l H.I.O.c], .int .i64 s] w fun e w'=>e= .returned (.bool (kJ x s)) ∧Below w.heap.size w w':=by
 have ig : aJ (w.alloc (.cells #[.slice H.E.Y.a H.E.Y.l H.E.Y.c, .slice H.E.Z.a H.E.Z.l H.E.Z.c, .slice H.I.G.a H.I.G.l H.I.G.c, .slice H.I.O.a H.I.O.l H.I.O.c] 31)) w.heap.size [.slice H.E.Y.a H.E.Y.l H.E.Y.c, .slice H.E.Z.a H.E.Z.l H.E.Z.c, .slice H.I.G.a H.I.G.l H.I.G.c, .slice H.I.O.a H.I.O.l H.I.O.c]:=aJ.new w #[.slice H.E.Y.a H.E.Y.l H.E.Y.c, .slice H.E.Z.a H.E.Z.l H.E.Z.c, .slice H.I.G.a H.I.G.l H.I.G.c, .slice H.I.O.a H.I.O.l H.I.O.c] _
 have hB0 : Below w.heap.size w (w.alloc (.cells #[.slice H.E.Y.a H.E.Y.l H.E.Y.c, .slice H.E.Z.a H.E.Z.l H.E.Z.c, .slice H.I.G.a H.I.G.l H.I.G.c, .slice H.I.O.a H.I.O.l H.I.O.c] 31)) :=dn
 by_cases k1 : bX x=true
 case neg=>
  have k1' : bX x=false:= (Bool.not_eq_true _).mp k1
  have HN:=Hid.aD (vB k1' s)
  clear k1
  go_enter Try.func11,Try.ntmps11
  go_wp2_with fail
  refine(iT _ H x (eD h hB0)).mono ?_
  rw [k1']
  rintro e w1 ⟨rfl,hb⟩
  have hB1:=hB0.trans (hb.mono hB0.size)
  clear hb ig hB0
  go_wp2
  go_ret
  exact⟨aS HN.out.symm,hB1⟩
 have HN:=Hid.aD (tV k1 s)
 have HS:=Hid.aD (jN k1)
 go_enter Try.func11,Try.ntmps11
 go_wp2_with fail
 refine(iT _ H x (eD h hB0)).mono ?_
 rw [k1]
 rintro e w1 ⟨rfl,hb⟩
 have gy:=ig.below hb
 have hB1:=hB0.trans (hb.mono hB0.size)
 clear hb ig hB0 k1
 have gZ:=gy.cell 0 _ rfl
 have gL:=gy.cell 1 _ rfl
 have iY:=gy.cell 2 _ rfl
 have iZ:=gy.cell 3 _ rfl
 go_wp2_with fail
 refine(rE _ H x s (eD h hB1) HS.out).mono ?_
 rintro e w2 ⟨rfl,hb⟩
 have hB2:=hB1.trans (hb.mono hB1.size)
 clear gZ gL iY iZ hb gy hB1
 go_wp2
 go_ret
 exact⟨aS HN.out.symm,hB2⟩
set_option maxRecDepth 100000 in
set_option maxHeartbeats 1000000 in
theorem tX (w : World)(H : bY)(x : Mem)(s : Int)(h : gD w w.heap.size H x)(hs1 : iJ x.I.G≤536870912)(hs2 : iJ x.I.O≤536870912) :
  Calls Try.prog 12 #[.agg #[.slice H.E.Y.a H.E.Y.l H.E.Y.c, .slice H.E.Z.a H.E.Z.l H.E.Z.c, .slice H.I.G.a H.I.G.l H.I.G.c, .slice H.I.O.a H.I.O.l H.I.O.c], .int .i64 s] w fun e w'=>e= .returned (.bool (kJ x s)) ∧Below w.heap.size w w':=by
 have ig : aJ (w.alloc (.cells #[.slice H.E.Y.a H.E.Y.l H.E.Y.c, .slice H.E.Z.a H.E.Z.l H.E.Z.c, .slice H.I.G.a H.I.G.l H.I.G.c, .slice H.I.O.a H.I.O.l H.I.O.c] 31)) w.heap.size [.slice H.E.Y.a H.E.Y.l H.E.Y.c, .slice H.E.Z.a H.E.Z.l H.E.Z.c, .slice H.I.G.a H.I.G.l H.I.G.c, .slice H.I.O.a H.I.O.l H.I.O.c]:=aJ.new w #[.slice H.E.Y.a H.E.Y.l H.E.Y.c, .slice H.E.Z.a H.E.Z.l H.E.Z.c, .slice H.I.G.a H.I.G.l H.I.G.c, .slice H.I.O.a H.I.O.l H.I.O.c] _
 have hB0 : Below w.heap.size w (w.alloc (.cells #[.slice H.E.Y.a H.E.Y.l H.E.Y.c, .slice H.E.Z.a H.E.Z.l H.E.Z.c, .slice H.I.G.a H.I.G.l H.I.G.c, .slice H.I.O.a H.I.O.l H.I.O.c] 31)) :=dn
 by_cases k1 : bX x=true
 case neg=>
  have k1' : bX x=false:= (Bool.not_eq_true _).mp k1
  have HN:=Hid.aD (vB k1' s)
  clear k1
  go_enter Try.func12,Try.ntmps12
  go_wp2_with fail
  refine(pE _ H x (eD h hB0) hs1 hs2).mono ?_
  rw [k1']
  rintro e w1 ⟨rfl,hb⟩
  have hB1:=hB0.trans (hb.mono hB0.size)
  clear hb ig hB0
  go_wp2
  go_ret
  exact⟨aS HN.out.symm,hB1⟩
 have HN:=Hid.aD (tV k1 s)
 have HS:=Hid.aD (jN k1)
 go_enter Try.func12,Try.ntmps12
 go_wp2_with fail
 refine(pE _ H x (eD h hB0) hs1 hs2).mono ?_
 rw [k1]
 rintro e w1 ⟨rfl,hb⟩
 have gy:=ig.below hb
 have hB1:=hB0.trans (hb.mono hB0.size)
 clear hb ig hB0 k1
 have gZ:=gy.cell 0 _ rfl
 have gL:=gy.cell 1 _ rfl
 have iY:=gy.cell 2 _ rfl
 have iZ:=gy.cell 3 _ rfl
 go_wp2_with fail
 refine(wT _ H x s (eD h hB1) HS.out hs1 hs2).mono ?_
 rintro e w2 ⟨rfl,hb⟩
 have hB2:=hB1.trans (hb.mono hB1.size)
 clear gZ gL iY iZ hb gy hB1
 go_wp2
 go_ret
 exact⟨aS HN.out.symm,hB2⟩
end Go.Proofs.Ytkmggglljkmjoaa
namespace Go.Proofs.Ytkmggglljkmjoaa
open Go.RowKit
end Go.Proofs.Ytkmggglljkmjoaa
namespace Go.Proofs.Ytkmggglljkmjoaa
open Go.RowKit
theorem jg {m : Mem}{h : Int}(c : fI m h=true) : dY h=true∧gu m (h%32) =3∧bK m.E (h%32) =h / 32:=by
 unfold fI at c
 simp only [Bool.and_eq_true,beq_iff_eq] at c
 exact⟨c.1.1,c.1.2,c.2⟩
end Go.Proofs.Ytkmggglljkmjoaa
namespace Go.Proofs.Ytkmggglljkmjoaa
open Go.RowKit
theorem Try.infoSList : (Try.prog.info? 57).map (fun i=> (i.zero,i.size,i.bytes)) =some (some (.agg #[.slice none 0 0]),FS.n,24) :=by kernel_rfl
end Go.Proofs.Ytkmggglljkmjoaa
namespace Go.Proofs.Ytkmggglljkmjoaa
open Go.RowKit
end Go.Proofs.Ytkmggglljkmjoaa
namespace Go.Proofs.Ytkmggglljkmjoaa
open Go.RowKit
end Go.Proofs.Ytkmggglljkmjoaa
namespace Go.Proofs.Ytkmggglljkmjoaa
open Go.RowKit
end Go.Proofs.Ytkmggglljkmjoaa
namespace Go.Proofs.Ytkmggglljkmjoaa
open Go.RowKit
theorem eF {B : Nat}{w0 w w' : World}{o : Obj}(hB : Below B w0 w)(hb : Below (w.alloc o).heap.size (w.alloc o) w')(h : B≤w.heap.size) : Below B w0 w':= (hB.alloc h o).trans (hb.mono (by simp;omega))
theorem bF.step {α : Type}{T : FT α}{e : TypeId}{w w' : World}{o : Obj}{v : Value}{l : List α}(h : bF T e w v l)(hb : Below (w.alloc o).heap.size (w.alloc o) w') : bF T e w' v l:= (h.aN o).keep (fun g hg=>hb.block g (dQ (h.aN o) g (bH.2 hg)))
theorem bF.step0 {α : Type}{T : FT α}{e : TypeId}{w w' : World}{v : Value}{l : List α}(h : bF T e w v l)(hb : Below w.heap.size w w') : bF T e w' v l:=h.keep (fun g hg=>hb.block g (dQ h g (bH.2 hg)))
theorem dJ.step {α : Type}{T : FT α}{e E : TypeId}{w w' : World}{o : Obj}{v : Value}{s : List SV}{l : List (List α)}(h : dJ T e E w v s l)(hb : Below (w.alloc o).heap.size (w.alloc o) w') : dJ T e E w' v s l:= (h.aN o).keep (fun g hg=>hb.block g ((h.aN o).lt g hg))
theorem dJ.step0 {α : Type}{T : FT α}{e E : TypeId}{w w' : World}{v : Value}{s : List SV}{l : List (List α)}(h : dJ T e E w v s l)(hb : Below w.heap.size w w') : dJ T e E w' v s l:=h.keep (fun g hg=>hb.block g (h.lt g hg))
theorem eY {w w' : World}(hb : Below w.drew.heap.size w.drew w') : Below w.heap.size w w':= ⟨hb.os,hb.tape,hb.output,hb.size,hb.block⟩
theorem iA {w : World}{F : List Nat}(h : ∀g∈F,w.drew.heap.size≤g) : ∀g∈F,w.heap.size≤g:=h
theorem eT.aN {w : World}{H : dA}{x : Heap}(h : eT w H x)(o : Obj) : eT (w.alloc o) H x:=h.keep fun g hg=>Below.heap_alloc w o g (h.lt g hg)
theorem eT.step {w w' : World}{o : Obj}{H : dA}{x : Heap}(h : eT w H x)(hb : Below (w.alloc o).heap.size (w.alloc o) w') : eT w' H x:= (h.aN o).keep (fun g hg=>hb.block g ((h.aN o).lt g hg))
theorem eT.step0 {w w' : World}{H : dA}{x : Heap}(h : eT w H x)(hb : Below w.heap.size w w') : eT w' H x:=h.keep (fun g hg=>hb.block g (h.lt g hg))
theorem dW.aN {w : World}{H : aY}{x : Lists}(h : dW w H x)(o : Obj) : dW (w.alloc o) H x:=h.keep fun g hg=>Below.heap_alloc w o g (h.lt g hg)
theorem dW.step {w w' : World}{o : Obj}{H : aY}{x : Lists}(h : dW w H x)(hb : Below (w.alloc o).heap.size (w.alloc o) w') : dW w' H x:= (h.aN o).keep (fun g hg=>hb.block g ((h.aN o).lt g hg))
theorem dW.step0 {w w' : World}{H : aY}{x : Lists}(h : dW w H x)(hb : Below w.heap.size w w') : dW w' H x:=h.keep (fun g hg=>hb.block g (h.lt g hg))
theorem eX.aN {w : World}{H : bY}{x : Mem}(h : eX w H x)(o : Obj) : eX (w.alloc o) H x:=h.keep fun g hg=>Below.heap_alloc w o g (h.lt g hg)
theorem eX.step {w w' : World}{o : Obj}{H : bY}{x : Mem}(h : eX w H x)(hb : Below (w.alloc o).heap.size (w.alloc o) w') : eX w' H x:= (h.aN o).keep (fun g hg=>hb.block g ((h.aN o).lt g hg))
theorem eX.step0 {w w' : World}{H : bY}{x : Mem}(h : eX w H x)(hb : Below w.heap.size w w') : eX w' H x:=h.keep (fun g hg=>hb.block g (h.lt g hg))
end Go.Proofs.Ytkmggglljkmjoaa
namespace Go.Proofs.Ytkmggglljkmjoaa
open Go.RowKit
theorem rF (v : Value) : (bL v).Nodup:=by
 unfold bL
 cases v.ownBlock<;>simp
theorem dJ.snoc {α : Type}{T : FT α}{e E : TypeId}{w w' : World}{v v' : Value}{dG : List SV}{ll : List (List α)}(h : dJ T e E w v dG ll){s : SV}{l : List α}(hl : bF T e w s.val l)(hd : ∀g∈bL s.val,g∉dL v dG)
  (ho : bF FS E w' v' (dG++ [s])) (hg : w.grownBy w' v.ownBlock) (hat : v'.ownBlock=v.ownBlock∨v'.ownBlock=some w.heap.size) : dJ T e E w' v' (dG++ [s]) (ll++ [l]) :=by
 have hc:=bW.gP hg
 have hn:=h.nodup
 unfold dL at hn
 rw [List.nodup_append] at hn
 obtain⟨hn1,hn2,rG⟩ :=hn
 refine⟨by simp [h.len],ho,fun k s' l' hk hl'=> ?_, ?_⟩
 ·by_cases hks : k<dG.length
  ·rw [List.getElem?_append_left hks] at hk
   rw [List.getElem?_append_left (by rw [←h.len];exact hks)] at hl'
   have hi:=h.inner k s' l' hk hl'
   exact hi.bn hc fun g hg1 hg2=>rG g hg2 g (List.mem_flatMap.2 ⟨s',List.mem_of_getElem? hk,hg1⟩) rfl
  ·rw [List.getElem?_append_right (by omega)] at hk
   rw [List.getElem?_append_right (by rw [←h.len];omega), ←h.len] at hl'
   have hk0 : k - dG.length=0:=by
    have:= (List.getElem?_eq_some_iff.1 hk).1
    simp at this
    omega
   rw [hk0] at hk hl'
   cases hk
   cases hl'
   exact hl.bn hc fun g hg1 hg2=>hd g hg1 (cu.2 (.inl (bH.1 hg2)))
 ·unfold dL
  rw [List.flatMap_append,List.nodup_append]
  refine⟨rF _, ?_,fun a ha b hb=> ?_⟩
  ·rw [List.nodup_append]
   refine⟨hn2,by simpa using rF s.val,fun a ha b hb=> ?_⟩
   rintro rfl
   have hb' : a∈bL s.val:=by simpa using hb
   exact hd a hb' (by unfold dL;exact List.mem_append.2 (.inr ha))
  ·rintro rfl
   rcases iE hat a ha with h1|h1
   ·rcases List.mem_append.1 hb with h2|h2
    ·exact rG a h1 a h2 rfl
    ·have h2' : a∈bL s.val:=by simpa using h2
     exact hd a h2' (cu.2 (.inl (bH.1 h1)))
   ·rcases List.mem_append.1 hb with h2|h2
    ·have:=h.lt a (by unfold dL;exact List.mem_append.2 (.inr h2))
     omega
    ·have h2' : a∈bL s.val:=by simpa using h2
     have:=dQ hl a h2'
     omega
set_option maxHeartbeats 400000 in
theorem nY (w : World)(v : Value)(l : List Int)(h : dz FI w w.heap.size v l)(hs : l.length≤1073741824) :
  Calls Try.prog 65 #[v] w fun e w'=> ∃v',e= .returned v'∧bF FI 3 w' v' l∧ (∀g∈bL v',w.heap.size≤g) ∧Below w.heap.size w w':=by
 obtain⟨A,c,hv,_,_,q3⟩ :=id h
 subst hv
 have heq:=fun w=>Lib.run_eql_slice_nil (P:=Try.prog) w 24 3 A l.length c 0 0 Try.underlying24
 cases A with
 |none=>
  have hl : l= []:=by
   apply Classical.byContradiction
   intro hne
   obtain⟨g,off,hA,_⟩ :=q3 hne
   cases hA
  have HL:=Hid.aD hl
  clear hl q3 h
  go_enter Try.func65,Try.ntmps65
  go_wp2
  go_ret
  exact⟨_,rfl,by rw [HL.out];exact World.ownsRow_nil _ _ _ _,by simp [bL,Value.ownBlock],Below.refl _ _⟩
 |some a=>
  go_enter Try.func65,Try.ntmps65
  go_wp2_with (at_builtin;refine dV Try.stInt rfl _ _ rfl (v:= .slice (some ⟨w.heap.size,0,none⟩) 0 0) (y:= .slice (some a) l.length c) (l:= []) (m:=l) rfl rfl (bF.lit FI [] #[] rfl (by simp [maxLen]) _ _) (h.aN (Nat.le_refl _) (Nat.le_succ _) _) (by simpa using hs) ?_;intro v' w1 ho hg hat)
  go_ret
  have hb : Below w.heap.size w w1:= ((Below.refl _ _).alloc (Nat.le_refl _) _).grown hg (by simp) (by simp [Value.ownBlock])
  exact⟨v',rfl,by simpa using ho,fun g hg'=>by rcases iE hat g hg' with h|h; (simp [bL,Value.ownBlock] at h;omega); (simp at h;omega),hb⟩
theorem mU (w : World)(K : SV)(l : List Int)(h : dz FI w w.heap.size K.val l)(hs : l.length≤1073741824) :
  Calls Try.prog 65 #[.slice K.a K.l K.c] w fun e w'=> ∃K' : SV,e= .returned (.slice K'.a K'.l K'.c) ∧bF FI 3 w' K'.val l∧ (∀g∈bL K'.val,w.heap.size≤g) ∧Below w.heap.size w w':=by
 refine(nY w _ l h hs).mono ?_
 rintro e w1 ⟨v,rfl,ho,hf,hb⟩
 obtain⟨A,c,hv,_⟩ :=ho.rd'
 subst hv
 exact⟨⟨A,l.length,c⟩,rfl,ho,hf,hb⟩
set_option maxRecDepth 100000 in
set_option maxHeartbeats 2000000 in
theorem jU (w : World)(H : dA)(x : Heap)(h : fZ w w.heap.size H x)(hs : iK x≤1073741824) :
  Calls Try.prog 37 #[.agg #[.slice H.Y.a H.Y.l H.Y.c, .slice H.Z.a H.Z.l H.Z.c]] w fun e w'=> ∃H' : dA,e= .returned (H'.val x) ∧eT w' H' x∧ (∀g∈H'.foot,w.heap.size≤g) ∧Below w.heap.size w w':=by
 have hs1 : x.Y.length≤1073741824:=Nat.le_trans (Nat.le_add_right _ _) hs
 have hs2 : x.Z.length≤1073741824:=Nat.le_trans (Nat.le_add_left _ _) hs
 clear hs
 have ba : aJ ((w.alloc (.cells #[.slice H.Y.a H.Y.l H.Y.c, .slice H.Z.a H.Z.l H.Z.c] 26)).alloc (.cells #[.slice none 0 0, .slice none 0 0] 26)) w.heap.size [.slice H.Y.a H.Y.l H.Y.c, .slice H.Z.a H.Z.l H.Z.c]:= (aJ.new w #[.slice H.Y.a H.Y.l H.Y.c, .slice H.Z.a H.Z.l H.Z.c] _).alloc _
 have br : aJ ((w.alloc (.cells #[.slice H.Y.a H.Y.l H.Y.c, .slice H.Z.a H.Z.l H.Z.c] 26)).alloc (.cells #[.slice none 0 0, .slice none 0 0] 26)) (w.heap.size+1) [.slice none 0 0, .slice none 0 0]:=by
  have hb:=aJ.new (w.alloc (.cells #[.slice H.Y.a H.Y.l H.Y.c, .slice H.Z.a H.Z.l H.Z.c] 26)) #[.slice none 0 0, .slice none 0 0] 26
  rw [World.size_alloc] at hb
  exact hb
 have hB : Below w.heap.size w ((w.alloc (.cells #[.slice H.Y.a H.Y.l H.Y.c, .slice H.Z.a H.Z.l H.Z.c] 26)).alloc (.cells #[.slice none 0 0, .slice none 0 0] 26)) :=dn
 go_enter Try.func37,Try.ntmps37
 go_wp2_with fail
 generalize hW0 : ((w.alloc (.cells #[.slice H.Y.a H.Y.l H.Y.c, .slice H.Z.a H.Z.l H.Z.c] 26)).alloc (.cells #[.slice none 0 0, .slice none 0 0] 26)) =w0 at ba br hB⊢
 clear hW0
 have gZ:=ba.cell 0 _ rfl
 have qH:=br.cell 0 _ rfl
 have gL:=ba.cell 1 _ rfl
 have qI:=br.cell 1 _ rfl
 have fr:=br.fP
 have z0:=br.lt
 go_region_with (first| (go_at_call 65; (first| ((with_reducible refine(mU _ H.Y x.Y (dh h.Y hB) hs1).mono ?_);rintro e w1 ⟨K0,rfl,o0,f0,hb⟩;replace ba:=ba.below hb;replace br:=br.below hb;replace hB:=hB.trans (hb.mono hB.size);have sz:=hb.size;have u0:=dQ o0; (try replace o1:=o1.step0 hb);replace gZ:=ba.cell 0 _ rfl;replace qH:=br.cell 0 _ rfl;replace gL:=ba.cell 1 _ rfl;replace qI:=br.cell 1 _ rfl;replace fr:=br.fP;clear hb) | ((with_reducible refine(mU _ H.Y x.Y (dh h.Y hB.drew) hs1).mono ?_);rintro e w1 ⟨K0,rfl,o0,f0,hb⟩;replace hb:=eY hb;replace f0:=iA f0;replace ba:=ba.below hb;replace br:=br.below hb;replace hB:=hB.trans (hb.mono hB.size);have sz:=hb.size;have u0:=dQ o0; (try replace o1:=o1.step0 hb);replace gZ:=ba.cell 0 _ rfl;replace qH:=br.cell 0 _ rfl;replace gL:=ba.cell 1 _ rfl;replace qI:=br.cell 1 _ rfl;replace fr:=br.fP;clear hb) | ((with_reducible refine(mU _ H.Z x.Z (dh h.Z hB) hs2).mono ?_);rintro e w2 ⟨K1,rfl,o1,f1,hb⟩;replace ba:=ba.below hb;replace br:=br.below hb;replace hB:=hB.trans (hb.mono hB.size);have sz:=hb.size;have u1:=dQ o1; (try replace o0:=o0.step0 hb);replace gZ:=ba.cell 0 _ rfl;replace qH:=br.cell 0 _ rfl;replace gL:=ba.cell 1 _ rfl;replace qI:=br.cell 1 _ rfl;replace fr:=br.fP;clear hb) | ((with_reducible refine(mU _ H.Z x.Z (dh h.Z hB.drew) hs2).mono ?_);rintro e w2 ⟨K1,rfl,o1,f1,hb⟩;replace hb:=eY hb;replace f1:=iA f1;replace ba:=ba.below hb;replace br:=br.below hb;replace hB:=hB.trans (hb.mono hB.size);have sz:=hb.size;have u1:=dQ o1; (try replace o0:=o0.step0 hb);replace gZ:=ba.cell 0 _ rfl;replace qH:=br.cell 0 _ rfl;replace gL:=ba.cell 1 _ rfl;replace qI:=br.cell 1 _ rfl;replace fr:=br.fP;clear hb))))
 all_goals
  go_wp2_with fail
  refine bodyPost_ret (v:= .agg #[.slice K0.a K0.l K0.c, .slice K1.a K1.l K1.c]) (by simp [results,Try.results37,go_sem,qH,qI]) rfl ⟨⟨K0,K1⟩,rfl, ⟨o0.bn (F:= [w.heap.size+1]) (by repeat (first|exact bW.refl _ _|refine bW.gI ?_ (by simp) _|refine bW.gU ?_)) (fun g hg hm=>by simp only [List.mem_cons,List.not_mem_nil,or_false] at hm;have:=f0 g hg;omega),o1.bn (F:= [w.heap.size+1]) (by repeat (first|exact bW.refl _ _|refine bW.gI ?_ (by simp) _|refine bW.gU ?_)) (fun g hg hm=>by simp only [List.mem_cons,List.not_mem_nil,or_false] at hm;have:=f1 g hg;omega),fun g hg hm=>by have:=u0 g hg;have:=f0 g hg;have:=u1 g hm;have:=f1 g hm;omega⟩,fun g hg=> ?_, ?_⟩
  ·rcases dA.aZ.1 hg with hg|hg
   ·have:=f0 g hg
    omega
   ·have:=f1 g hg
    omega
  ·exact Below.trans hB (by repeat (first|exact Below.refl _ _|refine Below.setCell ?_ (by simp<;>omega) _|refine Below.drew ?_))
end Go.Proofs.Ytkmggglljkmjoaa
