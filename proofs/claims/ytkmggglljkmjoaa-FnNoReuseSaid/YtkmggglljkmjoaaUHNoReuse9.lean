/-
  Several texts in one: lemmas and contracts that the claim rests on.
-/
import Derived.Test.YtkmggglljkmjoaaUHNoReuse2
import Derived.Test.YtkmggglljkmjoaaUHNoReuse1
import Derived.Deep.QuietTactic
import Derived.BigQuiet
import Derived.Deep.LoopGhost
import Derived.Deep.RegionHeld3
import Derived.WalkSpells
import Derived.Laws.Cover3
import Derived.Test.YtkmggglljkmjoaaUHNoReuse8
import Derived.Lib.AppendZerosOnto
import Derived.Lib.SliceRun
import Derived.Lib.Walk
namespace Go.Proofs.Ytkmggglljkmjoaa
open Go.RowKit
theorem Try.infoSL : (Try.prog.info? 57).map (fun i=> (i.zero,i.size,i.bytes)) =some (some (.agg #[.slice none 0 0]),FS.n,24) :=by kernel_rfl
theorem Try.stSL : ST Try.prog FS 27 57:= ⟨Try.underlying27, .agg #[.slice none 0 0],24,by kernel_rfl,rfl,by decide⟩
set_option maxRecDepth 100000 in
set_option maxHeartbeats 1000000 in
theorem zD (w : World)(n : Nat)(hn : 0<n)(hn2 : n≤1000) :
  Calls Try.prog 90 #[.slice none 0 0, .int .i64 n] w fun e w'=> ∃v,e= .returned v∧bF FS 57 w' v []∧ (∀g∈bL v,w.heap.size≤g) ∧Below w.heap.size w w':=by
 obtain⟨i,hi,hzz⟩ :=Option.map_eq_some_iff.1 Try.infoSL
 simp only [Prod.mk.injEq] at hzz
 obtain⟨q1,q2,q3⟩ :=hzz
 have hrz : ∀ty, (Builtin.append_ #[27,3] ty #[.slice none 0 0, .int .i64 (n : Int)]).run Try.prog w=
   .ok (.slice (some ⟨w.heap.size,0,none⟩) n (grownCap w n 0 57)) (w.drew.alloc (.cells (Builtin.zeroCells #[.slice none 0 0] n++Builtin.zeroCells #[.slice none 0 0] (grownCap w n 0 57 - n)) 57)) :=fun ty=>by
  have h:=Lib.run_append_grow_zeros w 27 3 ty 57 i _ .i64 .i64 Try.underlying27 Try.underlying3 hi q1 none 0 0 [] (run_firstCells_none w.drew i.size 0 0 0) n hn (by rw [q2];decide) (by omega) (by omega) (by rw [q3];omega) (by rw [q3];exact growslice_fits (by omega) (by omega))
  simpa [Value.cells] using h
 have hG0:=grownCap_ge w n 0 57
 have Bh:=grownCap_le_maxLen w n 0 57 (by unfold maxLen;omega)
 generalize grownCap w n 0 57=G at hrz hG0 Bh
 have hG1 : G≤9223372036854775807:=by unfold maxLen at Bh;omega
 have how:=World.ownsRow_made (base:=0) (e:=57) (size:=1) w.drew (Builtin.zeroCells #[.slice none 0 0] n++Builtin.zeroCells #[.slice none 0 0] (G - n)) G (Nat.zero_le _) Bh (by simp [Builtin.zeroCells];omega)
 have hGn : ¬ (n : Int) ≤0:=by omega
 clear hi q1 q2 q3 Bh
 go_enter Try.func90,Try.ntmps90
 go_wp2_with (at_builtin;refine Lib.wpList_append_run _ rfl _ _ _ _ rfl _ _ rfl rfl _ _ (hrz _) ?_)
 go_ret
 refine⟨_,rfl, ?_, ?_, ?_⟩
 ·unfold bF
  exact how
 ·simp [bL,Value.ownBlock]
 ·exact Below.alloc (Below.drew (Below.refl _ _)) (by simp) _
theorem below_app {w w' : World}{B : Nat}(h : Below B w w')(hB : B≤w.heap.size)(v : Value)(w2 : World)(hg : w'.grownBy w2 v.ownBlock)(hf : ∀g∈bL v,B≤g) : Below B w w2:=h.grown hg (Nat.le_trans hB h.size) (fun k hk=>hf k (bH.2 hk))
set_option maxRecDepth 100000 in
set_option maxHeartbeats 1000000 in
theorem xV (w : World)(gb : Nat)(A1 A2 : Option Addr)(c1 c2 : Nat)(T1 T2 : List SV)(bb : aJ w gb [.slice A1 9 c1, .slice A2 3 c2])(h1 : dz FS w w.heap.size (.slice A1 9 c1) T1)(h2 : dz FS w w.heap.size (.slice A2 3 c2) T2) :
  Calls Try.prog 63 #[.slice (some ⟨gb,0,none⟩) 2 2] w fun e w'=> ∃v,e= .returned v∧bF FS 57 w' v (T1++T2) ∧ (∀g∈bL v,w.heap.size≤g) ∧Below w.heap.size w w':=by
 have l1:= (dz.len_ h1).1
 have l2:= (dz.len_ h2).1
 have p0:=bb.cell 0 _ rfl
 have p1:=bb.cell 1 _ rfl
 have Gu:=bb.lt
 have Bj:=Hid.aD l1
 have HL2:=Hid.aD l2
 clear l1 l2
 go_enter Try.func63,Try.ntmps63
 go_wp2
 go_loop [3,5,11] (fun s _ i=> ∃k : Nat,k≤2∧i= .int .i64 k∧s= .int .i64 (if k=0 then 0 else if k=1 then 9 else 12)) (fun _ _ i=>2 - (intOf i).toNat)
 case atStart=>exact⟨0,by omega,rfl,rfl⟩
 case round=>
  obtain⟨k,hk,rfl,rfl⟩ :=hrel
  rcases(show k=0∨k=1∨k=2 by omega) with rfl|rfl|rfl
  ·go_wp2
   go_round
   case rel=>exact⟨1,by omega,rfl,rfl⟩
   case measure=>simp [intOf]
  ·go_wp2
   go_round
   case rel=>exact⟨2,by omega,rfl,rfl⟩
   case measure=>simp [intOf]
  ·go_wp2_with fail
   refine(zD _ 12 (by decide) (by decide)).mono ?_
   rintro e w1 ⟨v1,rfl,ho,hf,hb⟩
   clear p0 p1
   go_wp2
   go_loopw [6,8,27] (fun o _ i wr=> ∃k : Nat,k≤2∧i= .int .i64 k∧bF FS 57 wr o (if k=0 then [] else if k=1 then T1 else T1++T2) ∧ (∀g∈bL o,w.heap.size≤g) ∧Below w.heap.size w wr) (fun _ _ i _=>2 - (intOf i).toNat)
   case atStart=>exact⟨0,by omega,rfl,ho,hf,hb⟩
   case round=>
    obtain⟨k,hk,rfl,ho,hf,hb⟩ :=hrel
    have bw:=bb.below hb
    have p0:=bw.cell 0 _ rfl
    have p1:=bw.cell 1 _ rfl
    have zl:=bw.lt
    rcases(show k=0∨k=1∨k=2 by omega) with rfl|rfl|rfl
    ·go_wp2_with (at_builtin;refine dV Try.stSL rfl _ _ rfl (v:=u6) (y:= .slice A1 9 c1) (l:= []) (m:=T1) rfl rfl ho (dh h1 hb) (by simp;rw [←Bj.out];omega) ?_;intro v' w3 ho' hg' hat')
     go_roundw
     case rel=>exact⟨1,by omega,rfl,by simpa using ho',fun g hg=>by rcases iE hat' g hg with h|h; (exact hf g h); (have:=hb.size;omega),below_app hb (Nat.le_refl _) _ _ hg' hf⟩
     case measure=>simp [intOf]
    ·go_wp2_with (at_builtin;refine dV Try.stSL rfl _ _ rfl (v:=u6) (y:= .slice A2 3 c2) (l:=T1) (m:=T2) rfl rfl ho (dh h2 hb) (by rw [←Bj.out, ←HL2.out];omega) ?_;intro v' w3 ho' hg' hat')
     go_roundw
     case rel=>exact⟨2,by omega,rfl,ho',fun g hg=>by rcases iE hat' g hg with h|h; (exact hf g h); (have:=hb.size;omega),below_app hb (Nat.le_refl _) _ _ hg' hf⟩
     case measure=>simp [intOf]
    ·go_wp2
     go_ret
     exact⟨_,rfl,ho,hf,hb⟩
end Go.Proofs.Ytkmggglljkmjoaa
namespace Go.Proofs.Ytkmggglljkmjoaa
open Go.RowKit
theorem dz.pre {g off n c B : Nat}{w : World}{l : List Int}(h : dz FI w B (.slice (some ⟨g,off,none⟩) n c) l)(m : Nat)(h1 : m≤l.length) : dz FI w B (.slice (some ⟨g,off,none⟩) m c) (l.take m) :=by
 have a:=h.uM 0 m (by omega)
 simpa using a
set_option maxHeartbeats 1000000 in
theorem zF (w : World)(v : Value)(z : List Int)(x : Int)(B : Nat)(h : dz FI w B v z) :
  Calls Try.prog 58 #[v, .int .i64 x] w fun e w'=>e= .returned (.bool (z.any fun y=>y == x)) ∧w=w':=by
 obtain⟨A,c,hv,q1,q2,_⟩ :=id h
 have kR : z.length≤9223372036854775807:=by unfold maxLen at q2;omega
 subst hv
 clear q1 q2
 go_enter Try.func58,Try.ntmps58
 go_wp2
 go_loop [5] (fun i=> ∃k : Nat,k≤z.length∧i= .int .i64 k∧Hid ((z.take k).any (fun y=>y == x) =false)) (fun i=>z.length - (intOf i).toNat)
 case atStart=>exact⟨0,Nat.zero_le _,rfl,rfl⟩
 case round=>
  obtain⟨i,hi,rfl,HN⟩ :=hrel
  by_cases hlt : i<z.length
  ·obtain⟨g,off,cap',he,hg,_,_,hc⟩ :=h.at_ (List.getElem?_eq_getElem hlt)
   injection he with he1 he2 gq
   clear he2
   subst he1 gq
   have p0 : w.cell? ⟨g,off+i,none⟩ =some (.int .i64 z[i]) :=by simpa [FI] using hc 0 _ rfl
   clear hc h
   by_cases hz : z[i]=x
   ·have hz1 : (z[i] == x) =true:=by simpa using hz
    have HP:=Hid.aD (show (z.any fun y=>y == x) =true from List.any_eq_true.2 ⟨z[i],List.getElem_mem hlt,hz1⟩)
    clear hz
    go_wp2
    go_ret
    exact⟨aS HP.out.symm,rfl⟩
   ·have hz1 : (z[i] == x) =false:=by simpa using hz
    have HP:=Hid.aD (any_take_succ (fun y=>y == x) z i hlt HN.out hz1)
    clear hz
    go_wp2
    go_round
    case rel=>exact⟨i+1,by omega,by go_num,HP⟩
    case measure=>simp [intOf];omega
  ·go_wp2
   go_ret
   obtain rfl : i=z.length:=by omega
   exact⟨aS (by simpa using HN.out.symm),rfl⟩
set_option maxRecDepth 100000 in
set_option maxHeartbeats 2000000 in
theorem wM (w : World)(H : aY)(x : Lists)(h : gM w w.heap.size H x)(hs1 : iJ x.G≤536870912)(hs2 : iJ x.O≤536870912) :
  Calls Try.prog 29 #[.agg #[.slice H.G.a H.G.l H.G.c, .slice H.O.a H.O.l H.O.c]] w fun e w'=>e= .returned (.bool (dM x)) ∧Below w.heap.size w w':=by
 obtain⟨⟨A1,n1,c1⟩,T1, ⟨A2,n2,c2⟩,T2⟩ :=H
 obtain⟨gl,ow⟩ :=x
 have hr1 : fO FI w w.heap.size (.slice A1 n1 c1) T1 gl:=h.G
 have hr2 : fO FI w w.heap.size (.slice A2 n2 c2) T2 ow:=h.O
 obtain⟨nu,_,hmx⟩ :=hr1.len'
 have hlt1 : gl.length≤9223372036854775807:=by unfold maxLen at hmx;omega
 clear hmx
 obtain⟨ny,_,hmx⟩ :=hr2.len'
 have hlt2 : ow.length≤9223372036854775807:=by unfold maxLen at hmx;omega
 clear hmx h
 subst nu ny
 simp only at hs1 hs2
 have HE:=Hid.aD (show dM ⟨gl,ow⟩ = ((gl.length == 3) && (ow.length == 9) &&ow.all iW&&gT (fB ⟨gl,ow⟩)) from rfl)
 have ig : aJ (w.alloc (.cells #[.slice A1 gl.length c1, .slice A2 ow.length c2] 29)) w.heap.size [.slice A1 gl.length c1, .slice A2 ow.length c2]:=aJ.new w #[.slice A1 gl.length c1, .slice A2 ow.length c2] _
 have hB0 : Below w.heap.size w (w.alloc (.cells #[.slice A1 gl.length c1, .slice A2 ow.length c2] 29)) :=dn
 show Calls Try.prog 29 #[.agg #[.slice A1 gl.length c1, .slice A2 ow.length c2]] _ _
 by_cases k1 : gl.length=3
 case neg=>
  have k1' : ((gl.length : Int) != 3) =true:=by simp;omega
  have HF:=Hid.aD (show dM ⟨gl,ow⟩ =false by rw [HE.out];simp [k1])
  clear k1
  go_enter Try.func29,Try.ntmps29
  go_wp2
  go_ret
  exact⟨aS HF.out.symm,hB0⟩
 have k1' : ((gl.length : Int) != 3) =false:=by simp;omega
 have K1:=Hid.aD k1
 clear k1
 by_cases k2 : ow.length=9
 case neg=>
  have k2' : ((ow.length : Int) != 9) =true:=by simp;omega
  have HF:=Hid.aD (show dM ⟨gl,ow⟩ =false by rw [HE.out];simp [k2])
  clear k2
  go_enter Try.func29,Try.ntmps29
  go_wp2
  go_ret
  exact⟨aS HF.out.symm,hB0⟩
 have k2' : ((ow.length : Int) != 9) =false:=by simp;omega
 have HF:=Hid.aD (show dM ⟨gl,ow⟩ = (ow.all iW&&gT (fB ⟨gl,ow⟩)) by rw [HE.out,K1.out,k2];simp)
 clear k2 HE
 go_enter Try.func29,Try.ntmps29
 go_wp2
 generalize (w.alloc (.cells #[.slice A1 gl.length c1, .slice A2 ow.length c2] 29)) =w0 at ig hB0
 have gZ:=ig.cell 0 _ rfl
 have gL:=ig.cell 1 _ rfl
 go_loop [3] (fun i=> ∃k : Nat,k≤ow.length∧i= .int .i64 k∧Hid ((ow.take k).all iW=true)) (fun i=>ow.length - (intOf i).toNat)
 case atStart=>exact⟨0,Nat.zero_le _,rfl,rfl⟩
 case round=>
  obtain⟨i,hi,rfl,HT⟩ :=hrel
  by_cases hlt : i<ow.length
  ·obtain⟨g,o,A',c',kH,hg,p0,Bg⟩ :=hr2.row hB0 hlt
   subst kH
   by_cases hz : ow[i].length≤2
   ·have HN:=Hid.aD (o_ (p:=iW) hlt HT.out (by simp [iW,hz]))
    go_wp2
    go_round
    case rel=>exact⟨i+1,by omega,by go_num,HN⟩
    case measure=>simp [intOf];omega
   ·have HN:=Hid.aD (show dM ⟨gl,ow⟩ =false by rw [HF.out,tL (p:=iW) hlt (by simp [iW];omega)];rfl)
    go_wp2
    go_ret
    exact⟨aS HN.out.symm,hB0⟩
  ·obtain rfl : i=ow.length:=by omega
   have HG:=Hid.aD (show dM ⟨gl,ow⟩ =gT (fB ⟨gl,ow⟩) by have a:=HT.out;rw [List.take_length] at a;rw [HF.out,a];rfl)
   clear HT HF
   go_wp2_with fail
   refine(wK _ ⟨⟨A1,gl.length,c1⟩,T1, ⟨A2,ow.length,c2⟩,T2⟩ ⟨gl,ow⟩ ⟨mW hr1 hB0,mW hr2 hB0⟩ hs1 hs2).mono ?_
   rintro e w1 ⟨v',rfl,ho,hf,hb0⟩
   have hB1:=hB0.trans (hb0.mono hB0.size)
   clear hf hb0 gZ gL ig hB0
   generalize fB ⟨gl,ow⟩ =L at ho HG
   obtain⟨A,c,hv,_,q2,_⟩ :=ho.rd'
   subst hv
   have hL0 : L.length≤9223372036854775807:=by unfold maxLen at q2;omega
   clear q2
   have hor:=ho.rd'
   clear ho
   go_wp2
   go_loopw [5] (fun i wr=> ∃k : Nat,k≤L.length∧i= .int .i64 k∧Below w1.heap.size w1 wr∧Hid (gT (L.take k) =true)) (fun i _=>L.length - (intOf i).toNat)
   case atStart=>exact⟨0,Nat.zero_le _,rfl,Below.refl _ _,rfl⟩
   case round=>
    obtain⟨i,hi,rfl,hb,HR⟩ :=hrel
    by_cases hlt : i<L.length
    ·obtain⟨g,off,cap',he,hg,_,_,hc⟩ := (hor.below hb).at_ (List.getElem?_eq_getElem hlt)
     injection he with he1 he2 gq
     clear he2
     subst he1 gq
     have p0 : wr.cell? ⟨g,off+i,none⟩ =some (.int .i64 L[i]) :=by simpa [FI] using hc 0 _ rfl
     clear hc
     have hpre:= (hor.below hb).pre i (by omega)
     have hgw : g<wr.heap.size:=Nat.lt_of_lt_of_le hg hb.size
     have nA:=Hid.aD (su (L:=L) hlt)
     have nC:=Hid.aD (sw (L:=L) hlt)
     have nD:=Hid.aD (qE (L:=L) hlt HR.out)
     generalize L[i]=x at p0 nA nC nD
     have hBW:=hB1.trans (hb.mono hB1.size)
     have tN : ∀ (W : World) (b : Bool),aW 0 23 x=b→Calls Try.prog 26 #[.int .i64 x, .int .i64 0, .int .i64 23] W fun e w'=>e= .returned (.bool b) ∧W=w':=fun W b hb=> (g_ _ _ _ _).mono fun e w' ⟨u,v⟩ => ⟨by rw [u,hb],v⟩
     have zG : ∀ (n : Nat) (b : Bool), ((L.take i).any fun y=>y == x) =b→Calls Try.prog 58 #[.slice (some ⟨g,off,none⟩) i c, .int .i64 x] (wr.drewN n) fun e w'=>e= .returned (.bool b) ∧wr.drewN n=w':=fun n b hb=> (zF _ _ (L.take i) x _ (hpre.keep (w':=wr.drewN n) (fun _ _=>rfl) (Nat.le_refl _))).mono fun e w' ⟨u,v⟩ => ⟨by rw [u,hb],v⟩
     by_cases d1 : aW 0 23 x=true
     case neg=>
      have d1' : aW 0 23 x=false:= (Bool.not_eq_true _).mp d1
      have HN:=Hid.aD (show dM ⟨gl,ow⟩ =false by rw [HG.out];exact nA.out d1')
      have hq1:=fun W=>tN W _ d1'
      clear d1 d1' nA nC nD tN zG
      go_wp2
      go_quiet ((go_at_call 26;exact dx (hq1 _)))
      go_wp2
      go_ret
      exact⟨aS HN.out.symm,by first|exact hBW|exact hBW.drew|exact below_drewN hBW _⟩
     by_cases d2 : ((L.take i).any fun y=>y == x) =true
     ·have HN:=Hid.aD (show dM ⟨gl,ow⟩ =false by rw [HG.out];exact nC.out d2)
      have hq1:=fun W=>tN W _ d1
      have hq2:=fun n=>zG n _ d2
      clear d1 d2 nA nC nD tN zG
      go_wp2
      go_quiet (first| (go_at_call 26;exact dx (hq1 _)) | (go_at_call 58;exact dx (hq2 _)))
      go_wp2
      go_ret
      exact⟨aS HN.out.symm,by first|exact hBW|exact hBW.drew|exact below_drewN hBW _⟩
     ·have qF : ((L.take i).any fun y=>y == x) =false:= (Bool.not_eq_true _).mp d2
      have HN:=Hid.aD (nD.out d1 qF)
      have hq1:=fun W=>tN W _ d1
      have hq2:=fun n=>zG n _ qF
      clear d1 d2 qF nA nC nD tN zG
      go_wp2
      go_quiet (first| (go_at_call 26;exact dx (hq1 _)) | (go_at_call 58;exact dx (hq2 _)))
      go_wp2
      go_roundw
      case rel=>exact⟨i+1,by omega,by go_num,below_drewN hb _,HN⟩
      case measure=>simp [intOf];omega
    ·obtain rfl : i=L.length:=by omega
     have HN:=Hid.aD (show dM ⟨gl,ow⟩ =true by have a:=HR.out;rw [List.take_length] at a;rw [HG.out,a])
     go_wp2
     go_ret
     exact⟨aS HN.out.symm,hB1.trans (hb.mono hB1.size)⟩
end Go.Proofs.Ytkmggglljkmjoaa
