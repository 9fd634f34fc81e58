/-
  Several texts in one: lemmas and contracts that the claim rests on.
-/
import Derived.Test.YtkmggglljkmjoaaGreatUTC1
import Derived.Deep.QuietTactic
import Derived.BigQuiet
import Derived.Deep.LoopGhost
import Derived.Deep.RegionHeld3
import Derived.Test.YtkmggglljkmjoaaGreatUTC2
import Derived.WalkSpells
import Derived.Laws.Cover3
import Derived.Test.YtkmggglljkmjoaaGreatUTC9
namespace Go.Proofs.YtkmggglljkmjoaaGreat
open Go.RowKit
theorem AP (v : Value) : (cu v).Nodup:=by
 unfold cu
 cases v.ownBlock<;>simp
theorem dR.snoc {α : Type}{T : FT α}{e E : TypeId}{w w' : World}{v v' : Value}{fF : List SV}{ll : List (List α)}(h : dR T e E w v fF ll){s : SV}{l : List α}(hl : bA T e w s.val l)(hd : ∀g∈cu s.val,g∉dH v fF)
  (ho : bA FS E w' v' (fF++ [s])) (hg : w.grownBy w' v.ownBlock) (hat : v'.ownBlock=v.ownBlock∨v'.ownBlock=some w.heap.size) : dR T e E w' v' (fF++ [s]) (ll++ [l]) :=by
 have hc:=aY.jP hg
 have hn:=h.nodup
 unfold dH at hn
 rw [List.nodup_append] at hn
 obtain⟨hn1,hn2,uY⟩ :=hn
 refine⟨by simp [h.len],ho,fun k s' l' hk hl'=> ?_, ?_⟩
 ·by_cases hks : k<fF.length
  ·rw [List.getElem?_append_left hks] at hk
   rw [List.getElem?_append_left (by rw [←h.len];exact hks)] at hl'
   have hi:=h.inner k s' l' hk hl'
   exact hi.aM hc fun g hg1 hg2=>uY g hg2 g (List.mem_flatMap.2 ⟨s',List.mem_of_getElem? hk,hg1⟩) rfl
  ·rw [List.getElem?_append_right (by omega)] at hk
   rw [List.getElem?_append_right (by rw [←h.len];omega), ←h.len] at hl'
   have hk0 : k - fF.length=0:=by
    have:= (List.getElem?_eq_some_iff.1 hk).1
    simp at this
    omega
   rw [hk0] at hk hl'
   cases hk
   cases hl'
   exact hl.aM hc fun g hg1 hg2=>hd g hg1 (cZ.2 (.inl (bV.1 hg2)))
 ·unfold dH
  rw [List.flatMap_append,List.nodup_append]
  refine⟨AP _, ?_,fun a ha b hb=> ?_⟩
  ·rw [List.nodup_append]
   refine⟨hn2,by simpa using AP s.val,fun a ha b hb=> ?_⟩
   rintro rfl
   have hb' : a∈cu s.val:=by simpa using hb
   exact hd a hb' (by unfold dH;exact List.mem_append.2 (.inr ha))
  ·rintro rfl
   rcases iy hat a ha with h1|h1
   ·rcases List.mem_append.1 hb with h2|h2
    ·exact uY a h1 a h2 rfl
    ·have h2' : a∈cu s.val:=by simpa using h2
     exact hd a h2' (cZ.2 (.inl (bV.1 h1)))
   ·rcases List.mem_append.1 hb with h2|h2
    ·have:=h.lt a (by unfold dH;exact List.mem_append.2 (.inr h2))
     omega
    ·have h2' : a∈cu s.val:=by simpa using h2
     have:=iQ hl a h2'
     omega
set_option maxHeartbeats 400000 in
theorem uw (w : World)(v : Value)(l : List Int)(h : fE FI w w.heap.size v l)(hs : l.length≤1073741824) :
  Calls Tryz.prog 204 #[v] w fun e w'=> ∃v',e= .returned v'∧bA FI 3 w' v' l∧ (∀g∈cu v',w.heap.size≤g) ∧Below w.heap.size w w':=by
 obtain⟨A,c,hv,_,_,q3⟩ :=id h
 subst hv
 have heq:=fun w=>Lib.run_eql_slice_nil (P:=Tryz.prog) w 24 3 A l.length c 0 0 Tryz.underlying24
 cases A with
 |none=>
  have hl : l= []:=by
   apply Classical.byContradiction
   intro hne
   obtain⟨g,off,hA,_⟩ :=q3 hne
   cases hA
  have HL:=Hid.aT hl
  clear hl q3 h
  go_enter Tryz.func204,Tryz.ntmps204
  go_wp2
  go_ret
  exact⟨_,rfl,by rw [HL.out];exact World.ownsRow_nil _ _ _ _,by simp [cu,Value.ownBlock],Below.refl _ _⟩
 |some a=>
  go_enter Tryz.func204,Tryz.ntmps204
  go_wp2_with (at_builtin;refine gu Tryz.stInt rfl _ _ rfl (v:= .slice (some ⟨w.heap.size,0,none⟩) 0 0) (y:= .slice (some a) l.length c) (l:= []) (m:=l) rfl rfl (bA.lit FI [] #[] rfl (by simp [maxLen]) _ _) (h.aH (Nat.le_refl _) (Nat.le_succ _) _) (by simpa using hs) ?_;intro v' w1 ho hg hat)
  go_ret
  have hb : Below w.heap.size w w1:= ((Below.refl _ _).alloc (Nat.le_refl _) _).grown hg (by simp) (by simp [Value.ownBlock])
  exact⟨v',rfl,by simpa using ho,fun g hg'=>by rcases iy hat g hg' with h|h; (simp [cu,Value.ownBlock] at h;omega); (simp at h;omega),hb⟩
set_option maxHeartbeats 400000 in
theorem zJ (w : World)(v : Value)(l : List Int)(h : fE FI w w.heap.size v l)(hs : l.length≤1073741824) :
  Calls Tryz.prog 205 #[v] w fun e w'=> ∃v',e= .returned v'∧bA FI 3 w' v' l∧ (∀g∈cu v',w.heap.size≤g) ∧Below w.heap.size w w':=by
 obtain⟨A,c,hv,_,_,q3⟩ :=id h
 subst hv
 go_enter Tryz.func205,Tryz.ntmps205
 go_wp2_with (at_builtin;refine gu Tryz.stInt rfl _ _ rfl (v:= .slice (some ⟨w.heap.size,0,none⟩) 0 0) (y:= .slice A l.length c) (l:= []) (m:=l) rfl rfl (bA.lit FI [] #[] rfl (by simp [maxLen]) _ _) (h.aH (Nat.le_refl _) (Nat.le_succ _) _) (by simpa using hs) ?_;intro v' w1 ho hg hat)
 go_ret
 have hb : Below w.heap.size w w1:= ((Below.refl _ _).alloc (Nat.le_refl _) _).grown hg (by simp) (by simp [Value.ownBlock])
 exact⟨v',rfl,by simpa using ho,fun g hg'=>by rcases iy hat g hg' with h|h; (simp [cu,Value.ownBlock] at h;omega); (simp at h;omega),hb⟩
set_option maxRecDepth 100000 in
set_option maxHeartbeats 1000000 in
theorem Gv (w : World)(v : Value)(t : List SV)(ll : List (List Int))(h : jl FI w w.heap.size v t ll)(hs : jh ll≤536870912) :
  Calls Tryz.prog 206 #[v] w fun e w'=> ∃v' t',e= .returned v'∧dR FI 3 94 w' v' t' ll∧ (∀g∈dH v' t',w.heap.size≤g) ∧Below w.heap.size w w':=by
 obtain⟨A,c,hv,_⟩ :=id h.outer
 subst hv
 obtain⟨en,hcap,hmx⟩ :=h.len'
 have m_ : ll.length≤9223372036854775807:=by unfold maxLen at hmx;omega
 rw [en] at h⊢
 clear en hcap hmx
 have hs0 : ll.length≤536870912:=Nat.le_trans (Nat.le_add_right _ _) hs
 have o0 : dR FI 3 94 (w.alloc (.cells #[] 94)) (.slice (some ⟨w.heap.size,0,none⟩) 0 0) [] []:= ⟨rfl,bA.lit FS [] #[] rfl (by decide) w 94,fun k s l h=>by simp at h,by simp [dH,cu,Value.ownBlock]⟩
 go_enter Tryz.func206,Tryz.ntmps206
 go_wp2
 go_loopw [3,4] (fun o i wr=> ∃k : Nat,k≤ll.length∧i= .int .i64 k∧ (∃t',dR FI 3 94 wr o t' (ll.take k) ∧ (∀g∈dH o t',w.heap.size≤g)) ∧Below w.heap.size w wr) (fun _ i _=>ll.length - (intOf i).toNat)
 case atStart=>exact⟨0,Nat.zero_le _,rfl, ⟨[],o0,by simp [dH,cu,Value.ownBlock]⟩, (Below.refl _ _).alloc (Nat.le_refl _) _⟩
 case round=>
  obtain⟨i,hi,rfl, ⟨t',ho,hfo⟩,hb⟩ :=hrel
  clear o0
  by_cases hlt : i<ll.length
  ·obtain⟨g,o,A',c',rfl,hg,p0,r1⟩ :=h.row hb hlt
   have hlen : ll[i].length≤1073741824:=by have:=mK (List.getElem_mem hlt);omega
   have htl : t'.length≤536870912:=by rw [ho.len,List.length_take];omega
   have z1 : g<wr.heap.size:=Nat.lt_of_lt_of_le hg hb.size
   have I_:=Hid.aT (List.take_succ_eq_append_getElem hlt)
   clear h
   go_wp2_with (first| (go_at_call 205;refine(zJ _ _ ll[i] (eP r1 hb) hlen).mono ?_;rintro e w1 ⟨vs,rfl,hos,zK,hbb⟩;obtain⟨A2,c2,hv2,_⟩ :=hos.rd';subst hv2) | (at_builtin;refine gu Tryz.stSL rfl _ _ rfl (v:=u3) (y:= .slice (some ⟨w1.heap.size,0,none⟩) 1 1) (l:=t') (m:= [⟨A2,ll[i].length,c2⟩]) rfl rfl ((ho.keep (fun g hg=>hbb.block g (ho.lt g hg))).outer.aH _) (bA.lit FS [⟨A2,ll[i].length,c2⟩] #[.slice A2 ll[i].length c2] rfl (by simp [maxLen]) w1 94).rd' (by simp only [List.length_singleton];omega) ?_;intro v' w3 ho' hg' hat'))
   have hsn:=dR.snoc ((ho.keep (fun g hg=>hbb.block g (ho.lt g hg))).aH (.cells #[.slice A2 ll[i].length c2] 94)) (s:= ⟨A2,ll[i].length,c2⟩) (hos.aH _) (fun g hg hm=>by have a:=zK g hg;have b:=ho.lt g hm;omega) ho' hg' hat'
   have Hz : Below w.heap.size w w1:=hb.trans (hbb.mono hb.size)
   have hb3 : Below w.heap.size w w3:= (Hz.alloc Hz.size _).grown hg' (by simp;exact Nat.le_succ_of_le Hz.size) (fun k hk=>hfo k (cZ.2 (.inl hk)))
   go_roundw
   case rel=>
    refine⟨i+1,by omega,by go_num, ⟨_,by rw [I_.out];exact hsn,fun b hb'=> ?_⟩,hb3⟩
    unfold dH at hb'
    rw [List.flatMap_append] at hb'
    rcases List.mem_append.1 hb' with h1|h1
    ·rcases iy hat' b h1 with h2|h2
     ·exact hfo b (cZ.2 (.inl (bV.1 h2)))
     ·have:=Hz.size
      simp at h2
      omega
    ·rcases List.mem_append.1 h1 with h2|h2
     ·exact hfo b (by unfold dH;exact List.mem_append.2 (.inr h2))
     ·have h4 : b∈cu (SV.val ⟨A2,ll[i].length,c2⟩) :=by simpa using h2
      have:=zK b h4
      have:=hb.size
      omega
   case measure=>simp [intOf];omega
  ·go_wp2
   go_ret
   obtain rfl : i=ll.length:=by omega
   exact⟨u3,t',rfl,by simpa using ho,hfo,hb⟩
theorem vB (w : World)(K : SV)(l : List Int)(h : fE FI w w.heap.size K.val l)(hs : l.length≤1073741824) :
  Calls Tryz.prog 204 #[.slice K.a K.l K.c] w fun e w'=> ∃K' : SV,e= .returned (.slice K'.a K'.l K'.c) ∧bA FI 3 w' K'.val l∧ (∀g∈cu K'.val,w.heap.size≤g) ∧Below w.heap.size w w':=by
 refine(uw w _ l h hs).mono ?_
 rintro e w1 ⟨v,rfl,ho,hf,hb⟩
 obtain⟨A,c,hv,_⟩ :=ho.rd'
 subst hv
 exact⟨⟨A,l.length,c⟩,rfl,ho,hf,hb⟩
theorem yj (w : World)(K : SV)(l : List Int)(h : fE FI w w.heap.size K.val l)(hs : l.length≤1073741824) :
  Calls Tryz.prog 205 #[.slice K.a K.l K.c] w fun e w'=> ∃K' : SV,e= .returned (.slice K'.a K'.l K'.c) ∧bA FI 3 w' K'.val l∧ (∀g∈cu K'.val,w.heap.size≤g) ∧Below w.heap.size w w':=by
 refine(zJ w _ l h hs).mono ?_
 rintro e w1 ⟨v,rfl,ho,hf,hb⟩
 obtain⟨A,c,hv,_⟩ :=ho.rd'
 subst hv
 exact⟨⟨A,l.length,c⟩,rfl,ho,hf,hb⟩
theorem yt (w : World)(K : SV)(t : List SV)(ll : List (List Int))(h : jl FI w w.heap.size K.val t ll)(hs : jh ll≤536870912) :
  Calls Tryz.prog 206 #[.slice K.a K.l K.c] w fun e w'=> ∃ (K' : SV) (t' : List SV),e= .returned (.slice K'.a K'.l K'.c) ∧dR FI 3 94 w' K'.val t' ll∧ (∀g∈dH K'.val t',w.heap.size≤g) ∧Below w.heap.size w w':=by
 refine(Gv w _ t ll h hs).mono ?_
 rintro e w1 ⟨v,t',rfl,ho,hf,hb⟩
 obtain⟨A,c,hv,_⟩ :=ho.rd'.outer
 subst hv
 exact⟨⟨A,t'.length,c⟩,t',rfl,ho,hf,hb⟩
set_option maxRecDepth 100000 in
set_option maxHeartbeats 2000000 in
theorem pJ (w : World)(H : dU)(x : Heap)(h : gU w w.heap.size H x)(hs : iE x≤1073741824) :
  Calls Tryz.prog 152 #[.agg #[.slice H.Y.a H.Y.l H.Y.c, .slice H.Z.a H.Z.l H.Z.c]] w fun e w'=> ∃H' : dU,e= .returned (H'.val x) ∧fA w' H' x∧ (∀g∈H'.foot,w.heap.size≤g) ∧Below w.heap.size w w':=by
 have hs1 : x.Y.length≤1073741824:=Nat.le_trans (Nat.le_add_right _ _) hs
 have hs2 : x.Z.length≤1073741824:=Nat.le_trans (Nat.le_add_left _ _) hs
 clear hs
 have ba : aB ((w.alloc (.cells #[.slice H.Y.a H.Y.l H.Y.c, .slice H.Z.a H.Z.l H.Z.c] 26)).alloc (.cells #[.slice none 0 0, .slice none 0 0] 26)) w.heap.size [.slice H.Y.a H.Y.l H.Y.c, .slice H.Z.a H.Z.l H.Z.c]:= (aB.new w #[.slice H.Y.a H.Y.l H.Y.c, .slice H.Z.a H.Z.l H.Z.c] _).alloc _
 have br : aB ((w.alloc (.cells #[.slice H.Y.a H.Y.l H.Y.c, .slice H.Z.a H.Z.l H.Z.c] 26)).alloc (.cells #[.slice none 0 0, .slice none 0 0] 26)) (w.heap.size+1) [.slice none 0 0, .slice none 0 0]:=by
  have hb:=aB.new (w.alloc (.cells #[.slice H.Y.a H.Y.l H.Y.c, .slice H.Z.a H.Z.l H.Z.c] 26)) #[.slice none 0 0, .slice none 0 0] 26
  rw [World.size_alloc] at hb
  exact hb
 have hB : Below w.heap.size w ((w.alloc (.cells #[.slice H.Y.a H.Y.l H.Y.c, .slice H.Z.a H.Z.l H.Z.c] 26)).alloc (.cells #[.slice none 0 0, .slice none 0 0] 26)) :=dJ
 go_enter Tryz.func152,Tryz.ntmps152
 go_wp2_with fail
 generalize hW0 : ((w.alloc (.cells #[.slice H.Y.a H.Y.l H.Y.c, .slice H.Z.a H.Z.l H.Z.c] 26)).alloc (.cells #[.slice none 0 0, .slice none 0 0] 26)) =w0 at ba br hB⊢
 clear hW0
 have iH:=ba.cell 0 _ rfl
 have nR:=br.cell 0 _ rfl
 have iq:=ba.cell 1 _ rfl
 have nS:=br.cell 1 _ rfl
 have fr:=br.dn
 have z0:=br.lt
 go_region_with (first| (go_at_call 204; (first| ((with_reducible refine(vB _ H.Y x.Y (eP h.Y hB) hs1).mono ?_);rintro e w1 ⟨K0,rfl,o0,f0,hb⟩;replace ba:=ba.below hb;replace br:=br.below hb;replace hB:=hB.trans (hb.mono hB.size);have sz:=hb.size;have u0:=iQ o0; (try replace o1:=o1.step0 hb);replace iH:=ba.cell 0 _ rfl;replace nR:=br.cell 0 _ rfl;replace iq:=ba.cell 1 _ rfl;replace nS:=br.cell 1 _ rfl;replace fr:=br.dn;clear hb) | ((with_reducible refine(vB _ H.Y x.Y (eP h.Y hB.drew) hs1).mono ?_);rintro e w1 ⟨K0,rfl,o0,f0,hb⟩;replace hb:=gq hb;replace f0:=ji f0;replace ba:=ba.below hb;replace br:=br.below hb;replace hB:=hB.trans (hb.mono hB.size);have sz:=hb.size;have u0:=iQ o0; (try replace o1:=o1.step0 hb);replace iH:=ba.cell 0 _ rfl;replace nR:=br.cell 0 _ rfl;replace iq:=ba.cell 1 _ rfl;replace nS:=br.cell 1 _ rfl;replace fr:=br.dn;clear hb) | ((with_reducible refine(vB _ H.Z x.Z (eP h.Z hB) hs2).mono ?_);rintro e w2 ⟨K1,rfl,o1,f1,hb⟩;replace ba:=ba.below hb;replace br:=br.below hb;replace hB:=hB.trans (hb.mono hB.size);have sz:=hb.size;have u1:=iQ o1; (try replace o0:=o0.step0 hb);replace iH:=ba.cell 0 _ rfl;replace nR:=br.cell 0 _ rfl;replace iq:=ba.cell 1 _ rfl;replace nS:=br.cell 1 _ rfl;replace fr:=br.dn;clear hb) | ((with_reducible refine(vB _ H.Z x.Z (eP h.Z hB.drew) hs2).mono ?_);rintro e w2 ⟨K1,rfl,o1,f1,hb⟩;replace hb:=gq hb;replace f1:=ji f1;replace ba:=ba.below hb;replace br:=br.below hb;replace hB:=hB.trans (hb.mono hB.size);have sz:=hb.size;have u1:=iQ o1; (try replace o0:=o0.step0 hb);replace iH:=ba.cell 0 _ rfl;replace nR:=br.cell 0 _ rfl;replace iq:=ba.cell 1 _ rfl;replace nS:=br.cell 1 _ rfl;replace fr:=br.dn;clear hb))))
 all_goals
  go_wp2_with fail
  refine bodyPost_ret (v:= .agg #[.slice K0.a K0.l K0.c, .slice K1.a K1.l K1.c]) (by simp [results,Tryz.results152,go_sem,nR,nS]) rfl ⟨⟨K0,K1⟩,rfl, ⟨o0.aM (F:= [w.heap.size+1]) (by repeat (first|exact aY.refl _ _|refine aY.gD ?_ (by simp) _|refine aY.bf ?_)) (fun g hg hm=>by simp only [List.mem_cons,List.not_mem_nil,or_false] at hm;have:=f0 g hg;omega),o1.aM (F:= [w.heap.size+1]) (by repeat (first|exact aY.refl _ _|refine aY.gD ?_ (by simp) _|refine aY.bf ?_)) (fun g hg hm=>by simp only [List.mem_cons,List.not_mem_nil,or_false] at hm;have:=f1 g hg;omega),fun g hg hm=>by have:=u0 g hg;have:=f0 g hg;have:=u1 g hm;have:=f1 g hm;omega⟩,fun g hg=> ?_, ?_⟩
  ·rcases dU.aX.1 hg with hg|hg
   ·have:=f0 g hg
    omega
   ·have:=f1 g hg
    omega
  ·exact Below.trans hB (by repeat (first|exact Below.refl _ _|refine Below.setCell ?_ (by simp<;>omega) _|refine Below.drew ?_))
set_option maxRecDepth 100000 in
set_option maxHeartbeats 2000000 in
theorem uy (w : World)(H : dU)(x : Heap)(h : gU w w.heap.size H x)(hs : iE x≤1073741824) :
  Calls Tryz.prog 155 #[.agg #[.slice H.Y.a H.Y.l H.Y.c, .slice H.Z.a H.Z.l H.Z.c]] w fun e w'=> ∃H' : dU,e= .returned (H'.val x) ∧fA w' H' x∧ (∀g∈H'.foot,w.heap.size≤g) ∧Below w.heap.size w w':=by
 have hs1 : x.Y.length≤1073741824:=Nat.le_trans (Nat.le_add_right _ _) hs
 have hs2 : x.Z.length≤1073741824:=Nat.le_trans (Nat.le_add_left _ _) hs
 clear hs
 have ba : aB ((w.alloc (.cells #[.slice H.Y.a H.Y.l H.Y.c, .slice H.Z.a H.Z.l H.Z.c] 26)).alloc (.cells #[.slice none 0 0, .slice none 0 0] 26)) w.heap.size [.slice H.Y.a H.Y.l H.Y.c, .slice H.Z.a H.Z.l H.Z.c]:= (aB.new w #[.slice H.Y.a H.Y.l H.Y.c, .slice H.Z.a H.Z.l H.Z.c] _).alloc _
 have br : aB ((w.alloc (.cells #[.slice H.Y.a H.Y.l H.Y.c, .slice H.Z.a H.Z.l H.Z.c] 26)).alloc (.cells #[.slice none 0 0, .slice none 0 0] 26)) (w.heap.size+1) [.slice none 0 0, .slice none 0 0]:=by
  have hb:=aB.new (w.alloc (.cells #[.slice H.Y.a H.Y.l H.Y.c, .slice H.Z.a H.Z.l H.Z.c] 26)) #[.slice none 0 0, .slice none 0 0] 26
  rw [World.size_alloc] at hb
  exact hb
 have hB : Below w.heap.size w ((w.alloc (.cells #[.slice H.Y.a H.Y.l H.Y.c, .slice H.Z.a H.Z.l H.Z.c] 26)).alloc (.cells #[.slice none 0 0, .slice none 0 0] 26)) :=dJ
 go_enter Tryz.func155,Tryz.ntmps155
 go_wp2_with fail
 generalize hW0 : ((w.alloc (.cells #[.slice H.Y.a H.Y.l H.Y.c, .slice H.Z.a H.Z.l H.Z.c] 26)).alloc (.cells #[.slice none 0 0, .slice none 0 0] 26)) =w0 at ba br hB⊢
 clear hW0
 have iH:=ba.cell 0 _ rfl
 have nR:=br.cell 0 _ rfl
 have iq:=ba.cell 1 _ rfl
 have nS:=br.cell 1 _ rfl
 have fr:=br.dn
 have z0:=br.lt
 go_region_with (first| (go_at_call 205; (first| ((with_reducible refine(yj _ H.Y x.Y (eP h.Y hB) hs1).mono ?_);rintro e w1 ⟨K0,rfl,o0,f0,hb⟩;replace ba:=ba.below hb;replace br:=br.below hb;replace hB:=hB.trans (hb.mono hB.size);have sz:=hb.size;have u0:=iQ o0; (try replace o1:=o1.step0 hb);replace iH:=ba.cell 0 _ rfl;replace nR:=br.cell 0 _ rfl;replace iq:=ba.cell 1 _ rfl;replace nS:=br.cell 1 _ rfl;replace fr:=br.dn;clear hb) | ((with_reducible refine(yj _ H.Y x.Y (eP h.Y hB.drew) hs1).mono ?_);rintro e w1 ⟨K0,rfl,o0,f0,hb⟩;replace hb:=gq hb;replace f0:=ji f0;replace ba:=ba.below hb;replace br:=br.below hb;replace hB:=hB.trans (hb.mono hB.size);have sz:=hb.size;have u0:=iQ o0; (try replace o1:=o1.step0 hb);replace iH:=ba.cell 0 _ rfl;replace nR:=br.cell 0 _ rfl;replace iq:=ba.cell 1 _ rfl;replace nS:=br.cell 1 _ rfl;replace fr:=br.dn;clear hb) | ((with_reducible refine(yj _ H.Z x.Z (eP h.Z hB) hs2).mono ?_);rintro e w2 ⟨K1,rfl,o1,f1,hb⟩;replace ba:=ba.below hb;replace br:=br.below hb;replace hB:=hB.trans (hb.mono hB.size);have sz:=hb.size;have u1:=iQ o1; (try replace o0:=o0.step0 hb);replace iH:=ba.cell 0 _ rfl;replace nR:=br.cell 0 _ rfl;replace iq:=ba.cell 1 _ rfl;replace nS:=br.cell 1 _ rfl;replace fr:=br.dn;clear hb) | ((with_reducible refine(yj _ H.Z x.Z (eP h.Z hB.drew) hs2).mono ?_);rintro e w2 ⟨K1,rfl,o1,f1,hb⟩;replace hb:=gq hb;replace f1:=ji f1;replace ba:=ba.below hb;replace br:=br.below hb;replace hB:=hB.trans (hb.mono hB.size);have sz:=hb.size;have u1:=iQ o1; (try replace o0:=o0.step0 hb);replace iH:=ba.cell 0 _ rfl;replace nR:=br.cell 0 _ rfl;replace iq:=ba.cell 1 _ rfl;replace nS:=br.cell 1 _ rfl;replace fr:=br.dn;clear hb))))
 all_goals
  go_wp2_with fail
  refine bodyPost_ret (v:= .agg #[.slice K0.a K0.l K0.c, .slice K1.a K1.l K1.c]) (by simp [results,Tryz.results155,go_sem,nR,nS]) rfl ⟨⟨K0,K1⟩,rfl, ⟨o0.aM (F:= [w.heap.size+1]) (by repeat (first|exact aY.refl _ _|refine aY.gD ?_ (by simp) _|refine aY.bf ?_)) (fun g hg hm=>by simp only [List.mem_cons,List.not_mem_nil,or_false] at hm;have:=f0 g hg;omega),o1.aM (F:= [w.heap.size+1]) (by repeat (first|exact aY.refl _ _|refine aY.gD ?_ (by simp) _|refine aY.bf ?_)) (fun g hg hm=>by simp only [List.mem_cons,List.not_mem_nil,or_false] at hm;have:=f1 g hg;omega),fun g hg hm=>by have:=u0 g hg;have:=f0 g hg;have:=u1 g hm;have:=f1 g hm;omega⟩,fun g hg=> ?_, ?_⟩
  ·rcases dU.aX.1 hg with hg|hg
   ·have:=f0 g hg
    omega
   ·have:=f1 g hg
    omega
  ·exact Below.trans hB (by repeat (first|exact Below.refl _ _|refine Below.setCell ?_ (by simp<;>omega) _|refine Below.drew ?_))
set_option maxRecDepth 100000 in
set_option maxHeartbeats 2000000 in
theorem n_ (w : World)(H : aZ)(x : Lists)(h : iC w w.heap.size H x)(hs : bX x≤536870912) :
  Calls Tryz.prog 156 #[.agg #[.slice H.G.a H.G.l H.G.c, .slice H.O.a H.O.l H.O.c]] w fun e w'=> ∃H' : aZ,e= .returned (H'.val x) ∧dZ w' H' x∧ (∀g∈H'.foot,w.heap.size≤g) ∧Below w.heap.size w w':=by
 have hs1 : jh x.G≤536870912:=Nat.le_trans (Nat.le_add_right _ _) hs
 have hs2 : jh x.O≤536870912:=Nat.le_trans (Nat.le_add_left _ _) hs
 clear hs
 have ba : aB ((w.alloc (.cells #[.slice H.G.a H.G.l H.G.c, .slice H.O.a H.O.l H.O.c] 29)).alloc (.cells #[.slice none 0 0, .slice none 0 0] 29)) w.heap.size [.slice H.G.a H.G.l H.G.c, .slice H.O.a H.O.l H.O.c]:= (aB.new w #[.slice H.G.a H.G.l H.G.c, .slice H.O.a H.O.l H.O.c] _).alloc _
 have br : aB ((w.alloc (.cells #[.slice H.G.a H.G.l H.G.c, .slice H.O.a H.O.l H.O.c] 29)).alloc (.cells #[.slice none 0 0, .slice none 0 0] 29)) (w.heap.size+1) [.slice none 0 0, .slice none 0 0]:=by
  have hb:=aB.new (w.alloc (.cells #[.slice H.G.a H.G.l H.G.c, .slice H.O.a H.O.l H.O.c] 29)) #[.slice none 0 0, .slice none 0 0] 29
  rw [World.size_alloc] at hb
  exact hb
 have hB : Below w.heap.size w ((w.alloc (.cells #[.slice H.G.a H.G.l H.G.c, .slice H.O.a H.O.l H.O.c] 29)).alloc (.cells #[.slice none 0 0, .slice none 0 0] 29)) :=dJ
 go_enter Tryz.func156,Tryz.ntmps156
 go_wp2_with fail
 generalize hW0 : ((w.alloc (.cells #[.slice H.G.a H.G.l H.G.c, .slice H.O.a H.O.l H.O.c] 29)).alloc (.cells #[.slice none 0 0, .slice none 0 0] 29)) =w0 at ba br hB⊢
 clear hW0
 have iH:=ba.cell 0 _ rfl
 have nR:=br.cell 0 _ rfl
 have iq:=ba.cell 1 _ rfl
 have nS:=br.cell 1 _ rfl
 have fr:=br.dn
 have z0:=br.lt
 go_region_with (first| (go_at_call 206; (first| ((with_reducible refine(yt _ H.G H.nC x.G (mJ h.G hB) hs1).mono ?_);rintro e w1 ⟨K0,t0,rfl,o0,f0,hb⟩;replace ba:=ba.below hb;replace br:=br.below hb;replace hB:=hB.trans (hb.mono hB.size);have sz:=hb.size;have u0:=o0.lt; (try replace o1:=o1.step0 hb);replace iH:=ba.cell 0 _ rfl;replace nR:=br.cell 0 _ rfl;replace iq:=ba.cell 1 _ rfl;replace nS:=br.cell 1 _ rfl;replace fr:=br.dn;clear hb) | ((with_reducible refine(yt _ H.G H.nC x.G (mJ h.G hB.drew) hs1).mono ?_);rintro e w1 ⟨K0,t0,rfl,o0,f0,hb⟩;replace hb:=gq hb;replace f0:=ji f0;replace ba:=ba.below hb;replace br:=br.below hb;replace hB:=hB.trans (hb.mono hB.size);have sz:=hb.size;have u0:=o0.lt; (try replace o1:=o1.step0 hb);replace iH:=ba.cell 0 _ rfl;replace nR:=br.cell 0 _ rfl;replace iq:=ba.cell 1 _ rfl;replace nS:=br.cell 1 _ rfl;replace fr:=br.dn;clear hb) | ((with_reducible refine(yt _ H.O H.tK x.O (mJ h.O hB) hs2).mono ?_);rintro e w2 ⟨K1,t1,rfl,o1,f1,hb⟩;replace ba:=ba.below hb;replace br:=br.below hb;replace hB:=hB.trans (hb.mono hB.size);have sz:=hb.size;have u1:=o1.lt; (try replace o0:=o0.step0 hb);replace iH:=ba.cell 0 _ rfl;replace nR:=br.cell 0 _ rfl;replace iq:=ba.cell 1 _ rfl;replace nS:=br.cell 1 _ rfl;replace fr:=br.dn;clear hb) | ((with_reducible refine(yt _ H.O H.tK x.O (mJ h.O hB.drew) hs2).mono ?_);rintro e w2 ⟨K1,t1,rfl,o1,f1,hb⟩;replace hb:=gq hb;replace f1:=ji f1;replace ba:=ba.below hb;replace br:=br.below hb;replace hB:=hB.trans (hb.mono hB.size);have sz:=hb.size;have u1:=o1.lt; (try replace o0:=o0.step0 hb);replace iH:=ba.cell 0 _ rfl;replace nR:=br.cell 0 _ rfl;replace iq:=ba.cell 1 _ rfl;replace nS:=br.cell 1 _ rfl;replace fr:=br.dn;clear hb))))
 all_goals
  go_wp2_with fail
  refine bodyPost_ret (v:= .agg #[.slice K0.a K0.l K0.c, .slice K1.a K1.l K1.c]) (by simp [results,Tryz.results156,go_sem,nR,nS]) rfl ⟨⟨K0,t0,K1,t1⟩,rfl, ⟨o0.aM (F:= [w.heap.size+1]) (by repeat (first|exact aY.refl _ _|refine aY.gD ?_ (by simp) _|refine aY.bf ?_)) (fun g hg hm=>by simp only [List.mem_cons,List.not_mem_nil,or_false] at hm;have:=f0 g hg;omega),o1.aM (F:= [w.heap.size+1]) (by repeat (first|exact aY.refl _ _|refine aY.gD ?_ (by simp) _|refine aY.bf ?_)) (fun g hg hm=>by simp only [List.mem_cons,List.not_mem_nil,or_false] at hm;have:=f1 g hg;omega),fun g hg hm=>by have:=u0 g hg;have:=f0 g hg;have:=u1 g hm;have:=f1 g hm;omega⟩,fun g hg=> ?_, ?_⟩
  ·rcases aZ.aX.1 hg with hg|hg
   ·have:=f0 g hg
    omega
   ·have:=f1 g hg
    omega
  ·exact Below.trans hB (by repeat (first|exact Below.refl _ _|refine Below.setCell ?_ (by simp<;>omega) _|refine Below.drew ?_))
end Go.Proofs.YtkmggglljkmjoaaGreat
