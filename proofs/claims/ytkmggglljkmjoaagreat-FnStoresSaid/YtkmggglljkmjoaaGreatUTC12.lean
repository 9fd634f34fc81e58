/-
  Several texts in one: lemmas and contracts that the claim rests on.
-/
import Derived.Test.YtkmggglljkmjoaaGreatUTC1
import Derived.Deep.QuietTactic
import Derived.BigQuiet
import Derived.Deep.LoopGhost
import Derived.Deep.RegionHeld3
import Derived.Test.YtkmggglljkmjoaaGreatUTC2
import Derived.WalkSpells
import Derived.Laws.Cover3
import Derived.Test.YtkmggglljkmjoaaGreatUTC11
import Derived.Test.YtkmggglljkmjoaaGreatUTC6
import Derived.Laws.BytesArg
import Derived.Lib.Bytes
namespace Go.Proofs.YtkmggglljkmjoaaGreat
open Go.RowKit
def nK : FT Int:= {n:=1,enc:=fun x=> [.int .u8 x],dflt:=0,len:=fun _=>rfl,one:=by intro x u hu;simp at hu;subst hu;rfl,pos:=by decide,small:=by decide}
theorem Tryz.infoU8 : (Tryz.prog.info? 5).map (fun i=> (i.zero,i.size,i.bytes)) =some (some (.int .u8 0),nK.n,1) :=by kernel_rfl
theorem bA.kN {α : Type}{T : FT α}{e : TypeId}{w : World}{v : Value}{l : List α}(h : bA T e w v l)(hl : 0<l.length) : ∃g cap,v= .slice (some ⟨g,0,none⟩) l.length cap∧g<w.heap.size:=by
 rcases h.form with ⟨_,rfl⟩ | ⟨g,cap,hv,hg,_,_⟩
 ·simp at hl
 ·exact⟨g,cap,hv,hg⟩
theorem seven {k : Int}(h1 : 1≤k)(h7 : k≤7) : k=1∨k=2∨k=3∨k=4∨k=5∨k=6∨k=7:=by omega
theorem KG {k : Int}(h1 : 1≤k)(h7 : k≤7) : wrap64 (2 ^ (8 * k).toNat) =256 ^ k.toNat:=by
 rcases seven h1 h7 with rfl|rfl|rfl|rfl|rfl|rfl|rfl<;>decide+kernel
theorem LG {K : Nat}(h1 : 1≤K)(h7 : K≤7) : wrap64 (2 ^ (8 * K)) =256 ^ K:=by
 have h:=KG (k:= (K : Int)) (by omega) (by omega)
 rw [Int.toNat_natCast,show (8 * (K : Int)).toNat=8 * K by omega] at h
 exact h
set_option maxRecDepth 100000 in
set_option maxHeartbeats 400000 in
theorem Fu (n k : Int)(w : World)(h : ¬ (1≤k∧k≤7∧0≤n∧n<256 ^ k.toNat)) : Calls Tryz.prog 80 #[.int .i64 n, .int .i64 k] w fun e w'=>e= .returned (.string ⟨#[]⟩) ∧w=w':=by
 by_cases hk : bO 1 7 k=true
 case neg=>
  have hk' : bO 1 7 k=false:= (Bool.not_eq_true _).mp hk
  clear h hk
  go_enter Tryz.func80,Tryz.ntmps80
  go_wp2_with (go_at_call 88;refine(nO _ _).mono ?_;rw [hk'];rintro e w2 ⟨rfl,rfl⟩)
  go_ret
  exact⟨rfl,rfl⟩
 obtain⟨h1,h7⟩ :=bJ.1 hk
 by_cases h0 : 0≤n
 case neg=>
  have h0' : n<0:=by omega
  clear h h0
  go_enter Tryz.func80,Tryz.ntmps80
  go_wp2_with (go_at_call 88;refine(nO _ _).mono ?_;rw [hk];rintro e w2 ⟨rfl,rfl⟩)
  go_ret
  exact⟨rfl,rfl⟩
 have hp:=KG h1 h7
 have hn : 256 ^ k.toNat≤n:=by
  apply Int.not_lt.1
  intro hh
  exact h ⟨h1,h7,h0,hh⟩
 clear h
 generalize (256 : Int) ^ k.toNat=p at *
 go_enter Tryz.func80,Tryz.ntmps80
 go_wp2_with (go_at_call 88;refine(nO _ _).mono ?_;rw [hk];rintro e w2 ⟨rfl,rfl⟩)
 go_ret
 exact⟨rfl,rfl⟩
theorem BI {n : Int}(_h0 : 0≤n)(j : Nat) : n / 256 ^ j / 256=n / 256 ^ (j+1) :=by
 rw [Int.ediv_ediv_of_nonneg (Int.pow_nonneg (by decide)), ←Int.pow_succ]
set_option maxRecDepth 100000 in
set_option maxHeartbeats 1000000 in
theorem wJ (n : Int)(K : Nat)(w : World)(h1 : 1≤K)(h7 : K≤7)(h0 : 0≤n)(hn : n<256 ^ K) : Calls Tryz.prog 80 #[.int .i64 n, .int .i64 (K : Int)] w fun e w'=>e= .returned (.string (strOfNums (fQ K n))) ∧Below w.heap.size w w':=by
 have hk : bO 1 7 (K : Int) =true:=bJ.2 ⟨by omega,by omega⟩
 have hp:=LG h1 h7
 have hmk:=l7 (P:=Tryz.prog) nK 22 5 (.int .u8 0) 1 Tryz.underlying22 Tryz.infoU8 K (by omega) (by omega)
 have HN:=Hid.aT h0
 have hdl:=jq K n
 have HD:=Hid.aT (fun j (hj : j<K) =>DJ K n j hj)
 have hO:=bA.made nK #[.int .u8 0] rfl K (by simp [maxLen];omega) w 5
 have M8 : bA nK 5 (w.alloc (.cells (madeCells (Value.int .u8 0).cells (K * nK.n)) 5)) (.slice (some ⟨w.heap.size,0,none⟩) K K) (backTo (List.replicate K 0) 0 (fQ K n) K) :=by
  have e : backTo (List.replicate K 0) 0 (fQ K n) K=List.replicate K nK.dflt:=by
   have:=CF (b:=List.replicate K 0) (a:=0) (ds:=fQ K n)
   rw [hdl] at this
   exact this
  rw [e]
  exact hO
 have HL:=Hid.aT (fun (i : Nat) (hi : i≤K) =>CG (b:=List.replicate K 0) (a:=0) (ds:=fQ K n) (i:=i) (by simp [hdl]) (by rw [hdl];exact hi))
 clear hO
 generalize (256 : Int) ^ K=p at hn hp
 go_enter Tryz.func80,Tryz.ntmps80
 go_wp2_with (go_at_call 88;refine(nO _ _).mono ?_;rw [hk];rintro e w2 ⟨rfl,rfl⟩)
 clear hmk hp
 go_loopw [0,6] (fun v i wr=> ∃m : Nat,m≤K∧i= .int .i64 ((m : Int) - 1) ∧v= .int .i64 (n / 256 ^ (K - m)) ∧bA nK 5 wr (.slice (some ⟨w.heap.size,0,none⟩) K K) (backTo (List.replicate K 0) 0 (fQ K n) m) ∧Below w.heap.size w wr) (fun _ i _=> (intOf i+1).toNat)
 case atStart=>exact⟨K,Nat.le_refl _,rfl,by simp,M8, (Below.refl _ _).alloc (Nat.le_refl _) _⟩
 case round=>
  obtain⟨m,hm,rfl,rfl,ho,hb⟩ :=hrel
  clear M8
  have hbt:=HL.out m hm
  cases m with
  |zero=>
   have hcell : ∀i,i<K→wr.cell? ⟨w.heap.size,0+i,none⟩ =some (.int .u8 ((fQ K n).getD i 0)) :=by
    intro i hi
    rw [AQ] at ho
    have e : putAt (List.replicate K 0) 0 (fQ K n) =fQ K n:=by simp [putAt,hdl]
    rw [e] at ho
    have hx : (fQ K n)[i]? =some ((fQ K n).getD i 0) :=by simp [List.getD,hdl,hi]
    simpa [nK] using ho.cell_ hx nK.pos
   have hcv:=run_convert_bytes_arg (P:=Tryz.prog) (w:=wr) 22 5 Tryz.underlying22 Tryz.underlying5 w.heap.size 0 K K (fQ K n) hdl hcell 9 Tryz.underlying9
   clear hcell
   go_wp2
   go_ret
   exact⟨rfl,hb⟩
  |succ q=>
   have hi0 : (((q+1 : Nat) : Int) - 1) = (q : Int) :=by omega
   rw [hi0]
   have hv0 : 0≤n / 256 ^ (K - (q+1)) :=Int.ediv_nonneg HN.out (Int.pow_nonneg (by decide))
   have HV:=Hid.aT (BI HN.out (K - (q+1)))
   have HG:=Hid.aT (HD.out (K - (q+1)) (by omega))
   rw [show K - 1 - (K - (q+1)) =q by omega] at HG
   have HT:=Hid.aT (AU (b:=List.replicate K 0) (a:=0) (ds:=fQ K n) (i:=q) (by simp [hdl]) (by rw [hdl];omega))
   generalize n / 256 ^ (K - (q+1)) =v at *
   have hf:=ho.eD q
   have hz1 : q< (backTo (List.replicate K 0) 0 (fQ K n) (q+1)).length:=by rw [hbt];simp;omega
   have hx:=ho.cell_ (List.getElem?_eq_getElem hz1) nK.pos
   have hset:=fun (y : Int) =>ho.gD (y:=y) (u:= .int .u8 y) (List.getElem?_eq_getElem hz1) nK.pos rfl
   simp only [nK,Nat.mul_one,Nat.add_zero] at hx
   have Fv:=Hid.aT hset
   clear hset
   go_wp2
   have HE : bA nK 5 (wr.setCell ⟨w.heap.size,q,none⟩ (.int .u8 (v%256))) (.slice (some ⟨w.heap.size,0,none⟩) K K) (backTo (List.replicate K 0) 0 (fQ K n) q) :=by
    have a:=Fv.out (v%256)
    have b:=HT.out
    have c:=HG.out
    obtain⟨_,d⟩ :=List.getElem?_eq_some_iff.1 c
    rw [d,Nat.zero_add] at b
    rw [b,show q * nK.n+0=q by simp [nK]] at a
    exact a
   have LH : Value.int .i64 (v / 256) =Value.int .i64 (n / 256 ^ (K - q)) :=by
    rw [HV.out,show K - (q+1) +1=K - q by omega]
   go_roundw
   case rel=>exact⟨q,by omega,rfl,LH,HE,hb.setCell (by simp) _⟩
   case measure=>simp [intOf]
theorem H7 {xs : List Int}(h : xs.all (bO 0 255) =true) : ((strOfNums xs).data.toList.map fun c=> (c.toNat : Int)) =xs:=by
 rw [strOfNums_data,List.map_map]
 conv=>rhs;rw [←List.map_id xs]
 apply List.map_congr_left
 intro x hx
 obtain⟨a,b⟩ :=bJ.1 (List.all_eq_true.1 h x hx)
 simp
 omega
def nums (t : ByteArray) : List Int:=t.data.toList.map fun c=> (c.toNat : Int)
theorem JU (t : ByteArray) : (nums t).length=t.size:=by simp [nums]
theorem yu (k : Nat)(n : Int) : nums (strOfNums (fQ k n)) =fQ k n:=H7 (xE k n)
theorem La (t : ByteArray){i : Nat}(h : i<t.size) : (nums t)[i]? =some (t[i].toNat : Int) :=by
 have : t.data.toList[i]? =some t[i]:=by
  rw [List.getElem?_eq_getElem (by simpa using h)]
  rfl
 simp [nums,this]
set_option maxRecDepth 100000 in
set_option maxHeartbeats 1000000 in
theorem wY (w : World)(v : Value)(b : List Int)(a : Nat)(t : ByteArray)(h : bA FI 3 w v b)(ht : t.size≤1000)(ha : a+t.size≤b.length) :
  Calls Tryz.prog 81 #[v, .int .i64 (a : Int), .string t] w fun e w'=>e= .returned (.tuple #[]) ∧bA FI 3 w' v (putAt b a (nums t)) ∧aY (cu v) w w':=by
 obtain⟨A,c,hv,q1,q2,_⟩ :=id h.rd'
 have m_ : b.length≤9223372036854775807:=by unfold maxLen at q2;omega
 subst hv
 have hnl:=JU t
 have h0 : bA FI 3 w (.slice A b.length c) (putAt b a ((nums t).take 0)) :=by
  rw [List.take_zero,Ja]
  exact h
 go_enter Tryz.func81,Tryz.ntmps81
 go_wp2
 go_loopw [9] (fun i wr=> ∃k : Nat,k≤t.size∧i= .int .i64 k∧bA FI 3 wr (.slice A b.length c) (putAt b a ((nums t).take k)) ∧aY (cu (.slice A b.length c)) w wr) (fun i _=>t.size - (intOf i).toNat)
 case atStart=>exact⟨0,Nat.zero_le _,rfl,h0,aY.refl _ _⟩
 case round=>
  obtain⟨k,hk,rfl,ho,hc⟩ :=hrel
  clear h h0
  by_cases hlt : k<t.size
  ·have hgl : a+k< (putAt b a ((nums t).take k)).length:=by rw [nT (by simp [hnl];omega)];omega
   obtain⟨g,cap,hv,hg⟩ :=ho.kN (by omega)
   injection hv with e1 e2 e3
   clear e2
   subst e1 e3
   have hf:=ho.eD (a+k)
   have hx:=ho.cell_ (List.getElem?_eq_getElem hgl) FI.pos
   have Fv:=Hid.aT (fun (y : Int) =>ho.gD (y:=y) (u:= .int .i64 y) (List.getElem?_eq_getElem hgl) FI.pos rfl)
   simp only [FI,Nat.mul_one,Nat.add_zero] at hx
   have HS:=Hid.aT (H6 (b:=b) (a:=a) (ds:=nums t) (i:=k) (by omega) (by omega))
   have HA:=Hid.aT (La t hlt)
   have hu : t[k].toNat<256:=t[k].toNat_lt
   have hw : wrap64 (t[k].toNat : Int) = (t[k].toNat : Int) := (by unfold wrap64;omega)
   have HU:=Hid.aT hw
   clear hu hw
   go_wp2
   have HE : bA FI 3 (wr.setCell ⟨g,a+k,none⟩ (.int .i64 (t[k].toNat : Int))) (.slice (some ⟨g,0,none⟩) b.length c) (putAt b a ((nums t).take (k+1))) :=by
    have p:=Fv.out (t[k].toNat : Int)
    have q:=HS.out
    obtain⟨_,d⟩ :=List.getElem?_eq_some_iff.1 HA.out
    rw [d] at q
    rw [q,show (a+k) * FI.n+0=a+k by simp [FI]] at p
    exact p
   rw [HU.out]
   go_roundw
   case rel=>exact⟨k+1,by omega,by go_num,HE,hc.gD (by simp [cu,Value.ownBlock]) _⟩
   case measure=>simp [intOf];omega
  ·go_wp2
   go_end0
   obtain rfl : k=t.size:=by omega
   exact⟨rfl,by rw [←hnl,List.take_length] at ho;exact ho,hc⟩
theorem fE.Oy {w : World}{B : Nat}{v : Value}{l : List Int}(h : fE FI w B v l) : ∃A c,v= .slice A l.length c∧l.length≤9223372036854775807:=by
 obtain⟨A,c,hv,q1,q2,_⟩ :=h
 exact⟨A,c,hv,by unfold maxLen at q2;omega⟩
set_option maxRecDepth 100000 in
set_option maxHeartbeats 1000000 in
theorem sF (w : World)(v : Value)(b : List Int)(a K : Nat)(n : Int)(h : bA FI 3 w v b)(h1 : 1≤K)(h7 : K≤7)(h0 : 0≤n)(hm0 : n≤72057594037927936)(ha : a+K≤b.length) :
  Calls Tryz.prog 86 #[v, .int .i64 (a : Int), .int .i64 (K : Int), .int .i64 n] w fun e w'=>e= .returned v∧bA FI 3 w' v (putAt b a (fQ K n)) ∧aY (cu v) w w':=by
 obtain⟨A,c,hv,m_⟩ :=h.rd'.Oy
 subst hv
 have hdl:=jq K n
 have HN:=Hid.aT h0
 have HD:=Hid.aT (fun j (hj : j<K) =>DJ K n j hj)
 have hO : bA FI 3 w (.slice A b.length c) (backTo b a (fQ K n) K) :=by
  have e:=CF (b:=b) (a:=a) (ds:=fQ K n)
  rw [hdl] at e
  rw [e]
  exact h
 have HL:=Hid.aT (fun (i : Nat) (hi : i≤K) =>CG (b:=b) (a:=a) (ds:=fQ K n) (i:=i) (by omega) (by omega))
 go_enter Tryz.func86,Tryz.ntmps86
 go_wp2
 go_loopw [3,9] (fun u i wr=> ∃m : Nat,m≤K∧i= .int .i64 ((m : Int) - 1) ∧u= .int .i64 (n / 256 ^ (K - m)) ∧bA FI 3 wr (.slice A b.length c) (backTo b a (fQ K n) m) ∧aY (cu (.slice A b.length c)) w wr) (fun _ i _=> (intOf i+1).toNat)
 case atStart=>exact⟨K,Nat.le_refl _,rfl,by simp,hO,aY.refl _ _⟩
 case round=>
  obtain⟨m,hm,rfl,rfl,ho,hc⟩ :=hrel
  clear hO h
  have hbt:=HL.out m hm
  cases m with
  |zero=>
   rw [AQ] at ho
   go_wp2
   go_ret
   exact⟨rfl,ho,hc⟩
  |succ q=>
   have hi0 : (((q+1 : Nat) : Int) - 1) = (q : Int) :=by omega
   rw [hi0]
   have hv0 : 0≤n / 256 ^ (K - (q+1)) :=Int.ediv_nonneg HN.out (Int.pow_nonneg (by decide))
   have HV:=Hid.aT (BI HN.out (K - (q+1)))
   have HG:=Hid.aT (HD.out (K - (q+1)) (by omega))
   rw [show K - 1 - (K - (q+1)) =q by omega] at HG
   have HT:=Hid.aT (AU (b:=b) (a:=a) (ds:=fQ K n) (i:=q) (by omega) (by omega))
   have hv1 : n / 256 ^ (K - (q+1)) ≤72057594037927936:=Int.le_trans (Int.ediv_le_self _ HN.out) hm0
   generalize n / 256 ^ (K - (q+1)) =v at *
   obtain⟨g,cap,hv,hg⟩ :=ho.kN (by omega)
   injection hv with e1 e2 e3
   clear e2
   subst e1 e3
   have hz1 : a+q< (backTo b a (fQ K n) (q+1)).length:=by rw [hbt];omega
   have hf:=ho.eD (a+q)
   have hx:=ho.cell_ (List.getElem?_eq_getElem hz1) FI.pos
   have Fv:=Hid.aT (fun (y : Int) =>ho.gD (y:=y) (u:= .int .i64 y) (List.getElem?_eq_getElem hz1) FI.pos rfl)
   simp only [FI,Nat.mul_one,Nat.add_zero] at hx
   go_wp2
   have HE : bA FI 3 (wr.setCell ⟨g,a+q,none⟩ (.int .i64 (v%256))) (.slice (some ⟨g,0,none⟩) b.length c) (backTo b a (fQ K n) q) :=by
    have p:=Fv.out (v%256)
    have r:=HT.out
    obtain⟨_,d⟩ :=List.getElem?_eq_some_iff.1 HG.out
    rw [d] at r
    rw [r,show (a+q) * FI.n+0=a+q by simp [FI]] at p
    exact p
   have LH : Value.int .i64 (v / 256) =Value.int .i64 (n / 256 ^ (K - q)) :=by
    rw [HV.out,show K - (q+1) +1=K - q by omega]
   go_roundw
   case rel=>exact⟨q,by omega,rfl,LH,HE,hc.gD (by simp [cu,Value.ownBlock]) _⟩
   case measure=>simp [intOf]
theorem sG {k : Nat}{n : Int} : (strOfNums (fQ k n)).size=k:=by rw [strOfNums_size,jq]
theorem EI {k : Nat}{n : Int}(hk : 1≤k) : (strOfNums (fQ k n)).toList.isEmpty=false:=by
 rw [Lib.strOfNums_toList]
 cases hx : fQ k n with
 |nil=>have:=jq k n;rw [hx] at this;simp at this;omega
 |cons _ _=>rfl
def nk (n k : Int) : Bool:=bO 1 7 k&&decide (0≤n) &&decide (n<256 ^ k.toNat)
theorem Fw {n k : Int}(h : nk n k=false) : ¬ (1≤k∧k≤7∧0≤n∧n<256 ^ k.toNat) :=by
 rintro⟨a,b,c,d⟩
 have e : nk n k=true:=by
  unfold nk
  rw [bJ.2 ⟨a,b⟩,decide_eq_true c,decide_eq_true d]
  rfl
 rw [e] at h
 exact absurd h (by decide)
theorem wK {n k : Int}(h : nk n k=true) : 1≤k∧k≤7∧0≤n∧n<256 ^ k.toNat:=by
 unfold nk at h
 simp only [Bool.and_eq_true,decide_eq_true_eq] at h
 obtain⟨⟨a,b⟩,c⟩ :=h
 exact⟨(bJ.1 a).1, (bJ.1 a).2,b,c⟩
theorem Jb {K : Nat}(h7 : K≤7) : (256 : Int) ^ K≤72057594037927936:=by
 have : K=0∨K=1∨K=2∨K=3∨K=4∨K=5∨K=6∨K=7:=by omega
 rcases this with rfl|rfl|rfl|rfl|rfl|rfl|rfl|rfl<;>decide
theorem sH {s : ByteArray} : s.toList.isEmpty=decide (s.size=0) :=by
 have h : s.toList.length=s.size:=by rw [Lib.toList_data];simp
 cases hx : s.toList with
 |nil=>rw [hx] at h;simp at h;rw [←h];rfl
 |cons a l=>rw [hx] at h;simp at h;rw [←h];simp
set_option maxRecDepth 100000 in
set_option maxHeartbeats 1000000 in
theorem zP (n k : Int)(w : World)(h : bO 1 7 k=false∨n<0) : Calls Tryz.prog 85 #[.int .i64 n, .int .i64 k] w fun e w'=>e= .returned (.string ⟨#[]⟩) ∧w=w':=by
 by_cases hk : bO 1 7 k=true
 case neg=>
  have hk' : bO 1 7 k=false:= (Bool.not_eq_true _).mp hk
  clear h hk
  go_enter Tryz.func85,Tryz.ntmps85
  go_wp2_with (go_at_call 102;refine(fG _ _ _ _).mono ?_;rw [hk'];rintro e w2 ⟨rfl,rfl⟩)
  go_ret
  exact⟨rfl,rfl⟩
 have h0 : n<0:=by
  rcases h with h|h
  ·rw [hk] at h
   exact absurd h (by decide)
  ·exact h
 clear h
 go_enter Tryz.func85,Tryz.ntmps85
 go_wp2_with (go_at_call 102;refine(fG _ _ _ _).mono ?_;rw [hk];rintro e w2 ⟨rfl,rfl⟩)
 go_ret
 exact⟨rfl,rfl⟩
theorem Fx {n : Int}(h0 : 0≤n)(K : Nat) : (0<n / 256 ^ K) ↔256 ^ K≤n:=by
 have hp : (0 : Int) <256 ^ K:=Int.pow_pos (by decide)
 constructor
 ·intro h
  apply Int.not_lt.1
  intro hh
  rw [Int.ediv_eq_zero_of_lt h0 hh] at h
  omega
 ·intro h
  have : 1 * (256 : Int) ^ K≤n:=by omega
  have:= (Int.le_ediv_iff_mul_le hp).2 this
  omega
def JV (n : Int)(K : Nat)(w : World)(e : Ending)(w' : World) : Prop:= (∃s : ByteArray,e= .returned (.string s) ∧s.toList.isEmpty= !(decide (n<256 ^ K))) ∧Below w.heap.size w w'
def JW (n : Int)(K : Nat)(w : World)(v o i : Value)(wr : World) : Prop:= ∃ (j : Nat) (s : ByteArray),j≤K∧i= .int .i64 j∧v= .int .i64 (n / 256 ^ j) ∧o= .string s∧s.size=j∧Below w.heap.size w wr
set_option maxRecDepth 100000 in
set_option maxHeartbeats 1000000 in
theorem Fy (n : Int)(K : Nat)(w : World)(h1 : 1≤K)(h7 : K≤7)(h0 : 0≤n)(hm : n≤9223372036854775807) : Calls Tryz.prog 85 #[.int .i64 n, .int .i64 (K : Int)] w (JV n K w) :=by
 have hk : bO 1 7 (K : Int) =true:=bJ.2 ⟨by omega,by omega⟩
 have HN:=Hid.aT h0
 have HM:=Hid.aT hm
 have HD:=Hid.aT (Fx h0 K)
 clear hm
 go_enter Tryz.func85,Tryz.ntmps85
 go_wp2_with (go_at_call 102;refine(fG _ _ _ _).mono ?_;rw [hk];rintro e w2 ⟨rfl,rfl⟩)
 go_loopw [0,5,6] (fun v o i wr=>JW n K w v o i wr) (fun _ _ i _=>K - (intOf i).toNat)
 case atStart=>exact⟨0,_,Nat.zero_le _,rfl,by simp,rfl,rfl,Below.refl _ _⟩
 case round=>
  obtain⟨j,s,hj,rfl,rfl,rfl,hs0,hb⟩ :=hrel
  have hs:=Hid.aT hs0
  clear hs0
  have hv0 : 0≤n / 256 ^ j:=Int.ediv_nonneg HN.out (Int.pow_nonneg (by decide))
  have hv1 : n / 256 ^ j≤9223372036854775807:=Int.le_trans (Int.ediv_le_self _ HN.out) HM.out
  have HV:=Hid.aT (BI HN.out j)
  by_cases hlt : j<K
  ·generalize n / 256 ^ j=v at *
   have hcv:=fun (u : Int) =>run_convert_bytes_arg (P:=Tryz.prog) (w:=wr.alloc (.cells #[.int .u8 u] 5)) 22 5 Tryz.underlying22 Tryz.underlying5 wr.heap.size 0 1 1 [u] rfl (fun i hi=>by
    obtain rfl : i=0:=by omega
    simp [go_sem]) 9 Tryz.underlying9
   have hs1 : (strOfNums [v%256]).size≤1:=by rw [strOfNums_size];exact Nat.le_refl _
   have hs2 : s.size≤7:=by rw [hs.out];omega
   go_wp2
   go_roundw
   case rel=>exact⟨j+1,_,by omega,by go_num,by rw [HV.out],rfl,by rw [ByteArray.size_append,strOfNums_size,hs.out];simp;omega,hb.alloc hb.size _⟩
   case measure=>simp [intOf];omega
  ·obtain rfl : j=K:=by omega
   have HD2:=Hid.aT (HD.out)
   by_cases hp : 0<n / 256 ^ j
   ·have HX : Hid (decide (n<256 ^ j) =false) :=decide_eq_false (Int.not_lt.2 (HD2.out.1 hp))
    generalize n / 256 ^ j=v at *
    go_wp2
    go_ret
    exact⟨⟨_,rfl,by rw [HX.out,sH];rfl⟩,hb⟩
   ·have HX : Hid (decide (n<256 ^ j) =true) :=decide_eq_true (Classical.byContradiction (fun hh=>hp (HD2.out.2 (Int.not_lt.1 hh))))
    generalize n / 256 ^ j=v at *
    go_wp2
    go_ret
    exact⟨⟨_,rfl,by rw [HX.out,sH,hs.out];simp;omega⟩,hb⟩
end Go.Proofs.YtkmggglljkmjoaaGreat
namespace Go.Proofs.YtkmggglljkmjoaaGreat
open Go.RowKit
theorem Jc (n k : Int)(w : World)(h : ¬ (1≤k∧k≤7∧0≤n∧n<256 ^ k.toNat)) : Calls Tryz.prog 80 #[.int .i64 n, .int .i64 k] w fun e w'=>e= .returned (.string ⟨#[]⟩) ∧Below w.heap.size w w':= (Fu n k w h).mono fun _ _ ⟨a,b⟩ => ⟨a,b ▸ Below.refl _ _⟩
theorem bP.fO {H : bP}{g : Nat}(h : g∈cu H.E.Y.val) : g∈H.foot:=bP.aX.2 (.inl (dU.aX.2 (.inl h)))
theorem d9.setBytes {w w' : World}{H : bP}{x : Mem}{b : List Int}(h : d9 w H x)(hb : bA FI 3 w' H.E.Y.val b)(hc : aY (cu H.E.Y.val) w w') : d9 w' H {x with E:= {x.E with Y:=b}}:=
 ⟨⟨hb,h.E.Z.aM hc (fun g hg hm=>h.E.iV g hm hg),h.E.iV⟩,h.I.aM hc (fun g hg hm=>h.iV g (dU.aX.2 (.inl hm)) hg),h.iV⟩
def gL (m : Mem)(h a k n : Int) : Mem×Int:=if (gQ m h a k).2≠0 then (m, (gQ m h a k).2) else if nk n k=false then (m,1) else ({m with E:= {m.E with Y:=Fq m.E.Y (gQ m h a k).1 k n}},0)
theorem uI {m : Mem}{h a k n : Int}(c : (gQ m h a k).2≠0) : gL m h a k n= (m, (gQ m h a k).2) :=if_pos c
theorem wL {m : Mem}{h a k n : Int}(c : (gQ m h a k).2=0)(f : nk n k=false) : gL m h a k n= (m,1) :=by
 unfold gL
 rw [if_neg (by rw [c];decide),if_pos f]
theorem wM {m : Mem}{h a k n : Int}(c : (gQ m h a k).2=0)(f : nk n k=true) : gL m h a k n= ({m with E:= {m.E with Y:=Fq m.E.Y (gQ m h a k).1 k n}},0) :=by
 unfold gL
 rw [if_neg (by rw [c];decide),if_neg (by rw [f];decide)]
theorem Jd (n k : Int) : ∃t : ByteArray, ∀w : World,Calls Tryz.prog 80 #[.int .i64 n, .int .i64 k] w fun e w'=>e= .returned (.string t) ∧Below w.heap.size w w':=by
 by_cases hf : nk n k=true
 ·obtain⟨h1,h7,h0,hn⟩ :=wK hf
  obtain⟨K,rfl⟩ : ∃K : Nat,k= (K : Int) := ⟨k.toNat,by omega⟩
  rw [Int.toNat_natCast] at hn
  exact⟨_,fun w=>wJ n K w (by omega) (by omega) h0 hn⟩
 ·exact⟨_,fun w=> (Fu n k w (Fw ((Bool.not_eq_true _).mp hf))).mono fun e w1 ⟨a,b⟩ => ⟨a,b ▸ Below.refl _ _⟩⟩
set_option maxRecDepth 100000 in
set_option maxHeartbeats 4000000 in
theorem Fz (w : World)(H : bP)(x : Mem)(s a k n : Int)(h : gJ w w.heap.size H x)(hs : dx x≤536870912) :
  Calls Tryz.prog 24 #[.agg #[.slice H.E.Y.a H.E.Y.l H.E.Y.c, .slice H.E.Z.a H.E.Z.l H.E.Z.c, .slice H.I.G.a H.I.G.l H.I.G.c, .slice H.I.O.a H.I.O.l H.I.O.c], .int .i64 s, .int .i64 a, .int .i64 k, .int .i64 n] w fun e w'=> ∃H' : bP,e= .returned (.tuple #[.agg #[.slice H'.E.Y.a H'.E.Y.l H'.E.Y.c, .slice H'.E.Z.a H'.E.Z.l H'.E.Z.c, .slice H'.I.G.a H'.I.G.l H'.I.G.c, .slice H'.I.O.a H'.I.O.l H'.I.O.c], .int .i64 (gL x s a k n).2]) ∧d9 w' H' (gL x s a k n).1∧ (∀g∈H'.foot,w.heap.size≤g) ∧Below w.heap.size w w':=by
 by_cases c1 : (gQ x s a k).2=0
 case neg=>
  have HN:=Hid.aT (uI (n:=n) c1)
  have HL:=Hid.aT (vM (m:=x) (h:=s) (a:=a) (k:=k) (c:= (gQ x s a k).2) (by rcases Ee x s a k with h| ⟨h,_⟩;exact absurd h c1;rw [←h]) c1)
  have c1' : ((gQ x s a k).2 != 0) =true:=by simpa using c1
  have hl:=fun (W : World) (hW : Below w.heap.size w W) =>wX W H x s a k (dO h hW)
  rw [HL.out] at hl
  have HV:=Hid.aT (show gL x s a k n= (x, (gQ x s a k).2) from HN.out)
  clear c1 HN HL
  generalize (gQ x s a k).2=c at *
  obtain⟨w0,hW0⟩ : ∃x,x= ((w.alloc (.cells #[.slice H.E.Y.a H.E.Y.l H.E.Y.c, .slice H.E.Z.a H.E.Z.l H.E.Z.c, .slice H.I.G.a H.I.G.l H.I.G.c, .slice H.I.O.a H.I.O.l H.I.O.c] 31)).alloc (.cells #[.slice none 0 0, .slice none 0 0, .slice none 0 0, .slice none 0 0] 31)) := ⟨_,rfl⟩
  have au : aB w0 (w.heap.size) [.slice H.E.Y.a H.E.Y.l H.E.Y.c, .slice H.E.Z.a H.E.Z.l H.E.Z.c, .slice H.I.G.a H.I.G.l H.I.G.c, .slice H.I.O.a H.I.O.l H.I.O.c]:=by
   rw [hW0]
   exact aB.alloc aB.nw _
  have ah : aB w0 (w.heap.size+1) [.slice none 0 0, .slice none 0 0, .slice none 0 0, .slice none 0 0]:=by
   rw [hW0]
   exact aB.nw
  have hB : Below w.heap.size w w0:=by
   rw [hW0]
   exact dJ
  go_enter Tryz.func24,Tryz.ntmps24
  go_wp2_with fail
  rw [←hW0]
  clear hW0
  have g_:=au.lt
  have iB:=ah.lt
  obtain⟨aD,aF,aR,aS,aL,aQ⟩ :=au.f4
  obtain⟨aj,ak,aJ,aK,ay,aI⟩ :=ah.f4
  refine(kV _ H x (dO h hB) hs).mono ?_
  rintro e w1 ⟨aA,rfl,aP,l_c,hb⟩
  have u_c:=aP.lt
  replace au:=au.below hb
  replace ah:=ah.below hb
  replace hB:=hB.trans (hb.mono hB.size)
  have sz:=hb.size
  clear hb
  clear aD aF aR aS aL aQ
  obtain⟨aD,aF,aR,aS,aL,aQ⟩ :=au.f4
  clear aj ak aJ aK ay aI
  obtain⟨aj,ak,aJ,aK,ay,aI⟩ :=ah.f4
  obtain⟨t,hq⟩ :=Jd n k
  go_wp2_with fail
  refine(hq _).mono ?_
  rintro e w2 ⟨rfl,hb⟩
  replace au:=au.below hb
  replace ah:=ah.below hb
  have aP:=aP.step0 hb
  replace hB:=hB.trans (hb.mono hB.size)
  have sz:=hb.size
  clear hb
  clear aD aF aR aS aL aQ
  obtain⟨aD,aF,aR,aS,aL,aQ⟩ :=au.f4
  clear aj ak aJ aK ay aI
  obtain⟨aj,ak,aJ,aK,ay,aI⟩ :=ah.f4
  clear hq
  go_wp2_with fail
  refine(hl _ (hB.alloc hB.size _)).mono ?_
  rintro e w3 ⟨rfl,hb⟩
  replace au:= (au.alloc _).below hb
  replace ah:= (ah.alloc _).below hb
  replace aP:=aP.step hb
  replace hB:=eX hB hb hB.size
  have sz:=hb.size
  simp only [World.size_alloc] at sz
  have aN:= (aB.new w2 #[.slice aA.E.Y.a aA.E.Y.l aA.E.Y.c, .slice aA.E.Z.a aA.E.Z.l aA.E.Z.c, .slice aA.I.G.a aA.I.G.l aA.I.G.c, .slice aA.I.O.a aA.I.O.l aA.I.O.c] 31).below hb
  have gy:=aN.lt
  clear hb
  clear aD aF aR aS aL aQ
  obtain⟨aD,aF,aR,aS,aL,aQ⟩ :=au.f4
  clear aj ak aJ aK ay aI
  obtain⟨aj,ak,aJ,aK,ay,aI⟩ :=ah.f4
  obtain⟨aV,aW,bG,bH,bq,bN⟩ :=aN.f4
  clear hl
  go_wp2_with fail
  refine bodyPost_ret (v:= .tuple #[.agg #[.slice aA.E.Y.a aA.E.Y.l aA.E.Y.c, .slice aA.E.Z.a aA.E.Z.l aA.E.Z.c, .slice aA.I.G.a aA.I.G.l aA.I.G.c, .slice aA.I.O.a aA.I.O.l aA.I.O.c], .int .i64 c]) (by simp [results,Tryz.results24,go_sem,aj,ak,aJ,aK]) rfl ⟨aA,by rw [HV.out],by rw [HV.out];exact aP.aM (F:= [w.heap.size+1]) (by repeat (first|exact aY.refl _ _|refine aY.gD ?_ (by simp) _|refine aY.aH ?_ _|refine aY.bf ?_)) (fun g hg hm=>by simp only [List.mem_cons,List.not_mem_nil,or_false] at hm;have:=l_c g hg;have:=u_c g hg;omega),fun g hg=>by have:=l_c g hg;omega,Below.trans hB (by repeat (first|exact Below.refl _ _|refine Below.setCell ?_ (by simp<;>omega) _|refine Below.alloc ?_ (by simp<;>omega) _|refine Below.drew ?_))⟩
 have HL:=Hid.aT (tV (m:=x) (h:=s) (a:=a) (k:=k) (p:= (gQ x s a k).1) (by rw [←c1]))
 have hl:=fun (W : World) (hW : Below w.heap.size w W) =>wX W H x s a k (dO h hW)
 rw [HL.out] at hl
 by_cases c2 : nk n k=true
 case neg=>
  have c2':= (Bool.not_eq_true _).mp c2
  have HV:=Hid.aT (wL c1 c2')
  have hq:=fun W=>Jc n k W (Fw c2')
  clear c1 c2 c2' HL
  generalize iF x.E.Y (gQ x s a k).1 k=v at *
  obtain⟨w0,hW0⟩ : ∃x,x= ((w.alloc (.cells #[.slice H.E.Y.a H.E.Y.l H.E.Y.c, .slice H.E.Z.a H.E.Z.l H.E.Z.c, .slice H.I.G.a H.I.G.l H.I.G.c, .slice H.I.O.a H.I.O.l H.I.O.c] 31)).alloc (.cells #[.slice none 0 0, .slice none 0 0, .slice none 0 0, .slice none 0 0] 31)) := ⟨_,rfl⟩
  have au : aB w0 (w.heap.size) [.slice H.E.Y.a H.E.Y.l H.E.Y.c, .slice H.E.Z.a H.E.Z.l H.E.Z.c, .slice H.I.G.a H.I.G.l H.I.G.c, .slice H.I.O.a H.I.O.l H.I.O.c]:=by
   rw [hW0]
   exact aB.alloc aB.nw _
  have ah : aB w0 (w.heap.size+1) [.slice none 0 0, .slice none 0 0, .slice none 0 0, .slice none 0 0]:=by
   rw [hW0]
   exact aB.nw
  have hB : Below w.heap.size w w0:=by
   rw [hW0]
   exact dJ
  go_enter Tryz.func24,Tryz.ntmps24
  go_wp2_with fail
  rw [←hW0]
  clear hW0
  have g_:=au.lt
  have iB:=ah.lt
  obtain⟨aD,aF,aR,aS,aL,aQ⟩ :=au.f4
  obtain⟨aj,ak,aJ,aK,ay,aI⟩ :=ah.f4
  refine(kV _ H x (dO h hB) hs).mono ?_
  rintro e w1 ⟨aA,rfl,aP,l_c,hb⟩
  have u_c:=aP.lt
  replace au:=au.below hb
  replace ah:=ah.below hb
  replace hB:=hB.trans (hb.mono hB.size)
  have sz:=hb.size
  clear hb
  clear aD aF aR aS aL aQ
  obtain⟨aD,aF,aR,aS,aL,aQ⟩ :=au.f4
  clear aj ak aJ aK ay aI
  obtain⟨aj,ak,aJ,aK,ay,aI⟩ :=ah.f4
  go_wp2_with fail
  refine(hq _).mono ?_
  rintro e w2 ⟨rfl,hb⟩
  replace au:=au.below hb
  replace ah:=ah.below hb
  have aP:=aP.step0 hb
  replace hB:=hB.trans (hb.mono hB.size)
  have sz:=hb.size
  clear hb
  clear aD aF aR aS aL aQ
  obtain⟨aD,aF,aR,aS,aL,aQ⟩ :=au.f4
  clear aj ak aJ aK ay aI
  obtain⟨aj,ak,aJ,aK,ay,aI⟩ :=ah.f4
  clear hq
  go_wp2_with fail
  refine(hl _ (hB.alloc hB.size _)).mono ?_
  rintro e w3 ⟨rfl,hb⟩
  replace au:= (au.alloc _).below hb
  replace ah:= (ah.alloc _).below hb
  replace aP:=aP.step hb
  replace hB:=eX hB hb hB.size
  have sz:=hb.size
  simp only [World.size_alloc] at sz
  have aN:= (aB.new w2 #[.slice aA.E.Y.a aA.E.Y.l aA.E.Y.c, .slice aA.E.Z.a aA.E.Z.l aA.E.Z.c, .slice aA.I.G.a aA.I.G.l aA.I.G.c, .slice aA.I.O.a aA.I.O.l aA.I.O.c] 31).below hb
  have gy:=aN.lt
  clear hb
  clear aD aF aR aS aL aQ
  obtain⟨aD,aF,aR,aS,aL,aQ⟩ :=au.f4
  clear aj ak aJ aK ay aI
  obtain⟨aj,ak,aJ,aK,ay,aI⟩ :=ah.f4
  obtain⟨aV,aW,bG,bH,bq,bN⟩ :=aN.f4
  clear hl
  go_wp2_with fail
  refine bodyPost_ret (v:= .tuple #[.agg #[.slice aA.E.Y.a aA.E.Y.l aA.E.Y.c, .slice aA.E.Z.a aA.E.Z.l aA.E.Z.c, .slice aA.I.G.a aA.I.G.l aA.I.G.c, .slice aA.I.O.a aA.I.O.l aA.I.O.c], .int .i64 1]) (by simp [results,Tryz.results24,go_sem,aj,ak,aJ,aK]) rfl ⟨aA,by rw [HV.out],by rw [HV.out];exact aP.aM (F:= [w.heap.size+1]) (by repeat (first|exact aY.refl _ _|refine aY.gD ?_ (by simp) _|refine aY.aH ?_ _|refine aY.bf ?_)) (fun g hg hm=>by simp only [List.mem_cons,List.not_mem_nil,or_false] at hm;have:=l_c g hg;have:=u_c g hg;omega),fun g hg=>by have:=l_c g hg;omega,Below.trans hB (by repeat (first|exact Below.refl _ _|refine Below.setCell ?_ (by simp<;>omega) _|refine Below.alloc ?_ (by simp<;>omega) _|refine Below.drew ?_))⟩
 have HV:=Hid.aT (wM c1 c2)
 obtain⟨z1,z2,z3,z4,z5,z6,z7,z8⟩ :=wI c1
 obtain⟨y1,y2,y3,y4⟩ :=wK c2
 obtain⟨K,rfl⟩ : ∃K : Nat,k= (K : Int) := ⟨k.toNat,by omega⟩
 rw [Int.toNat_natCast] at y4
 have hq:=fun W=>wJ n K W (by omega) (by omega) y3 y4
 have AV:=Hid.aT (jd z1)
 have hbl : x.E.Y.length=384:= (iA AV.out).bl
 obtain⟨P,hP⟩ : ∃P : Nat, (gQ x s a K).1= (P : Int) := ⟨(gQ x s a K).1.toNat,by omega⟩
 have hir:=fun (W : World) (hW : Below w.heap.size w W) =>zH W H.E x.E (s%32) a K (dW h.E hW) AV.out z2 z3
 rw [zI (vY z4),if_pos z7, ←z8,hP] at hir
 have NC:= (kX (kR z4).1)
 obtain⟨e1,e2,_,_,_,_⟩ :=NC
 have HP : Hid (gL x s a K n= ({x with E:= {x.E with Y:=putAt x.E.Y P (fQ K n)}},0)) :=by
  have:=HV.out
  rw [hP] at this
  unfold Fq at this
  rw [Int.toNat_natCast,Int.toNat_natCast] at this
  exact this
 have zQ : Hid (P+ (strOfNums (fQ K n)).size≤x.E.Y.length) :=by
  have:=sG (k:=K) (n:=n)
  show _≤_
  omega
 have G5 : Hid ((strOfNums (fQ K n)).size≤1000) :=by
  have:=sG (k:=K) (n:=n)
  show _≤_
  omega
 have Je:=Hid.aT (yu K n)
 have hte : (strOfNums (fQ K n)).toList.isEmpty=false:=EI (by omega)
 rw [hP] at hl
 clear z1 z4 z5 z6 z7 z8 y3 y4 HV hbl hP c1 c2 HL y1 y2
 generalize iF x.E.Y (P : Int) K=v at *
 generalize strOfNums (fQ K n) =t at *
 obtain⟨w0,hW0⟩ : ∃x,x= ((w.alloc (.cells #[.slice H.E.Y.a H.E.Y.l H.E.Y.c, .slice H.E.Z.a H.E.Z.l H.E.Z.c, .slice H.I.G.a H.I.G.l H.I.G.c, .slice H.I.O.a H.I.O.l H.I.O.c] 31)).alloc (.cells #[.slice none 0 0, .slice none 0 0, .slice none 0 0, .slice none 0 0] 31)) := ⟨_,rfl⟩
 have au : aB w0 (w.heap.size) [.slice H.E.Y.a H.E.Y.l H.E.Y.c, .slice H.E.Z.a H.E.Z.l H.E.Z.c, .slice H.I.G.a H.I.G.l H.I.G.c, .slice H.I.O.a H.I.O.l H.I.O.c]:=by
  rw [hW0]
  exact aB.alloc aB.nw _
 have ah : aB w0 (w.heap.size+1) [.slice none 0 0, .slice none 0 0, .slice none 0 0, .slice none 0 0]:=by
  rw [hW0]
  exact aB.nw
 have hB : Below w.heap.size w w0:=by
  rw [hW0]
  exact dJ
 go_enter Tryz.func24,Tryz.ntmps24
 go_wp2_with fail
 rw [←hW0]
 clear hW0
 have g_:=au.lt
 have iB:=ah.lt
 obtain⟨aD,aF,aR,aS,aL,aQ⟩ :=au.f4
 obtain⟨aj,ak,aJ,aK,ay,aI⟩ :=ah.f4
 refine(kV _ H x (dO h hB) hs).mono ?_
 rintro e w1 ⟨aA,rfl,aP,l_c,hb⟩
 have u_c:=aP.lt
 replace au:=au.below hb
 replace ah:=ah.below hb
 replace hB:=hB.trans (hb.mono hB.size)
 have sz:=hb.size
 clear hb
 clear aD aF aR aS aL aQ
 obtain⟨aD,aF,aR,aS,aL,aQ⟩ :=au.f4
 clear aj ak aJ aK ay aI
 obtain⟨aj,ak,aJ,aK,ay,aI⟩ :=ah.f4
 go_wp2_with fail
 refine(hq _).mono ?_
 rintro e w2 ⟨rfl,hb⟩
 replace au:=au.below hb
 replace ah:=ah.below hb
 have aP:=aP.step0 hb
 replace hB:=hB.trans (hb.mono hB.size)
 have sz:=hb.size
 clear hb
 clear aD aF aR aS aL aQ
 obtain⟨aD,aF,aR,aS,aL,aQ⟩ :=au.f4
 clear aj ak aJ aK ay aI
 obtain⟨aj,ak,aJ,aK,ay,aI⟩ :=ah.f4
 clear hq
 go_wp2_with fail
 refine(hl _ (hB.alloc hB.size _)).mono ?_
 rintro e w3 ⟨rfl,hb⟩
 replace au:= (au.alloc _).below hb
 replace ah:= (ah.alloc _).below hb
 replace aP:=aP.step hb
 replace hB:=eX hB hb hB.size
 have sz:=hb.size
 simp only [World.size_alloc] at sz
 have aN:= (aB.new w2 #[.slice aA.E.Y.a aA.E.Y.l aA.E.Y.c, .slice aA.E.Z.a aA.E.Z.l aA.E.Z.c, .slice aA.I.G.a aA.I.G.l aA.I.G.c, .slice aA.I.O.a aA.I.O.l aA.I.O.c] 31).below hb
 have gy:=aN.lt
 clear hb
 clear aD aF aR aS aL aQ
 obtain⟨aD,aF,aR,aS,aL,aQ⟩ :=au.f4
 clear aj ak aJ aK ay aI
 obtain⟨aj,ak,aJ,aK,ay,aI⟩ :=ah.f4
 obtain⟨aV,aW,bG,bH,bq,bN⟩ :=aN.f4
 clear hl
 go_wp2_with fail
 go_region_with (first| (go_at_call 82; (first| ((with_reducible refine(hir _ hB).mono ?_);rintro e wq ⟨rfl,hb⟩;replace au:=au.below hb;replace ah:=ah.below hb;replace aN:=aN.below hb;replace aP:=aP.step0 hb;replace hB:=hB.trans (hb.mono hB.size);have sz:=hb.size;clear hb;clear aD aF aR aS aL aQ;obtain⟨aD,aF,aR,aS,aL,aQ⟩ :=au.f4;clear aj ak aJ aK ay aI;obtain⟨aj,ak,aJ,aK,ay,aI⟩ :=ah.f4;clear aV aW bG bH bq bN;obtain⟨aV,aW,bG,bH,bq,bN⟩ :=aN.f4) | ((with_reducible refine(hir _ hB.drew).mono ?_);rintro e wq ⟨rfl,hb⟩;replace hb:=gq hb;replace au:=au.below hb;replace ah:=ah.below hb;replace aN:=aN.below hb;replace aP:=aP.step0 hb;replace hB:=hB.trans (hb.mono hB.size);have sz:=hb.size;clear hb;clear aD aF aR aS aL aQ;obtain⟨aD,aF,aR,aS,aL,aQ⟩ :=au.f4;clear aj ak aJ aK ay aI;obtain⟨aj,ak,aJ,aK,ay,aI⟩ :=ah.f4;clear aV aW bG bH bq bN;obtain⟨aV,aW,bG,bH,bq,bN⟩ :=aN.f4))) | (go_at_call 81; ((with_reducible refine(wY _ _ _ P t (show bA FI 3 _ (.slice aA.E.Y.a aA.E.Y.l aA.E.Y.c) x.E.Y from aP.E.Y) G5.out zQ.out).mono ?_);rintro e wq ⟨rfl,hbN,hx⟩;replace hB:=hB.trans (hx.below hB.size (fun g hm=>by have:=l_c g (bP.fO hm);omega));have sz:=hx.size;replace au:=au.aM hx (fun hm=>by have:=l_c _ (bP.fO hm);have:=u_c _ (bP.fO hm);omega);replace ah:=ah.aM hx (fun hm=>by have:=l_c _ (bP.fO hm);have:=u_c _ (bP.fO hm);omega);replace aN:=aN.aM hx (fun hm=>by have:=l_c _ (bP.fO hm);have:=u_c _ (bP.fO hm);omega);replace aP:= (show d9 _ aA {x with E:= {x.E with Y:=putAt x.E.Y P (nums t)}} from aP.setBytes hbN hx);clear hx;clear aD aF aR aS aL aQ;obtain⟨aD,aF,aR,aS,aL,aQ⟩ :=au.f4;clear aj ak aJ aK ay aI;obtain⟨aj,ak,aJ,aK,ay,aI⟩ :=ah.f4;clear aV aW bG bH bq bN;obtain⟨aV,aW,bG,bH,bq,bN⟩ :=aN.f4)))
 all_goals
  rw [Je.out] at aP
  go_wp2_with fail
  refine bodyPost_ret (v:= .tuple #[.agg #[.slice aA.E.Y.a aA.E.Y.l aA.E.Y.c, .slice aA.E.Z.a aA.E.Z.l aA.E.Z.c, .slice aA.I.G.a aA.I.G.l aA.I.G.c, .slice aA.I.O.a aA.I.O.l aA.I.O.c], .int .i64 0]) (by simp [results,Tryz.results24,go_sem,aj,ak,aJ,aK]) rfl ⟨aA,by rw [HP.out],by rw [HP.out];exact aP.aM (F:= [w.heap.size+1]) (by repeat (first|exact aY.refl _ _|refine aY.gD ?_ (by simp) _|refine aY.aH ?_ _|refine aY.bf ?_)) (fun g hg hm=>by simp only [List.mem_cons,List.not_mem_nil,or_false] at hm;have:=l_c g hg;have:=u_c g hg;omega),fun g hg=>by have:=l_c g hg;omega,Below.trans hB (by repeat (first|exact Below.refl _ _|refine Below.setCell ?_ (by simp<;>omega) _|refine Below.alloc ?_ (by simp<;>omega) _|refine Below.drew ?_))⟩
end Go.Proofs.YtkmggglljkmjoaaGreat
