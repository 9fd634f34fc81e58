/- m -/
import Derived.Deep.RegionLaw
import Derived.Test.YtkmggglljkmjoaaGreatUHRanges5
set_option maxRecDepth 100000
set_option maxHeartbeats 2000000
namespace Go.Proofs.YtkmggglljkmjoaaGreat.Lim
open Go.RowKit
theorem Tryz.infoLList : (Tryz.prog.info? 123).map (fun i=> (i.zero,i.size,i.bytes)) =some (some (.agg #[.slice none 0 0]),FS.n,24) :=by kernel_rfl
end Go.Proofs.YtkmggglljkmjoaaGreat.Lim
namespace Go.Proofs.YtkmggglljkmjoaaGreat
open Go.RowKit
variable {α : Type} {T : FT α} {w : World} {t e : TypeId} {P : Program}
theorem NM (T : FT α)(l : List α)(i : Nat) : flat T (l.take i) = (flat T l).take (i * T.n) :=by
 induction l generalizing i with
 |nil=>simp [flat]
 |cons x l ih=>
  cases i with
  |zero=>simp [flat]
  |succ i=>
   show T.enc x++flat T (l.take i) = (T.enc x++flat T l).take ((i+1) * T.n);rw [ih i,List.take_append,T.len,List.take_of_length_le (l:=T.enc x) (by rw [T.len,Nat.succ_mul];omega)];congr 2;rw [Nat.succ_mul];omega
theorem NP (T : FT α)(l : List α)(i : Nat) : flat T (l.drop i) = (flat T l).drop (i * T.n) :=by
 induction l generalizing i with
 |nil=>simp [flat]
 |cons x l ih=>
  cases i with
  |zero=>simp [flat]
  |succ i=>
   show flat T (l.drop i) = (T.enc x++flat T l).drop ((i+1) * T.n);have hd : (T.enc x).drop ((i+1) * T.n) = []:=List.drop_of_length_le (by rw [T.len,Nat.succ_mul];omega);rw [ih i,List.drop_append,T.len,hd,List.nil_append];congr 1;rw [Nat.succ_mul];omega
theorem aX.Cc {g n c : Nat}{l : List α}(h : aX T e w (.slice (some ⟨g,0,none⟩) n c) l){i : Nat}(hi : i≤l.length) : aX T e w (.slice (some ⟨g,0,none⟩) i c) (l.take i) :=by
 obtain rfl:=h.len_eq;have hlen : (l.take i).length=i:=by rw [List.length_take];omega
 unfold aX;rw [hlen];refine⟨by rw [nP,hlen], .inr ?_⟩;rcases h.2 with ⟨h',_⟩ | ⟨g',cap',cur,h',_,hg,hnc,hcm,hcs,htake⟩
 ·simp at h'
 ·simp only [Ya,Option.some.injEq,Addr.mk.injEq,and_true,true_and] at h'
  obtain⟨rfl,rfl⟩ :=h';refine⟨g,c,cur,rfl,X3 _,hg,by omega,hcm,hcs, ?_⟩;rw [NM, ←htake,List.take_take,Nat.min_eq_left (Nat.mul_le_mul_right _ hi)]
def Es (g off c k n : Nat) : Option Addr:=if c=k then some ⟨g,off,none⟩ else some ⟨g,off+k * n,none⟩
theorem dX.R4 {g off len c B : Nat}{l : List α}(h : dX T w B (.slice (some ⟨g,off,none⟩) len c) l)(k : Nat)(hk : k≤len) : dX T w B (.slice (Es g off c k T.n) (len - k) (c - k)) (l.drop k) :=by
 obtain⟨A,cap,hv,h1,h2,h3⟩ :=h;injection hv with e1 e2 e3;subst e2 e3;refine⟨_,c - k,by rw [List.length_drop],by rw [List.length_drop];omega,by omega,fun hne=> ?_⟩;have hl : l≠ []:=by rintro rfl;simp at hne
 have hlt : k<l.length:=by
  rcases Nat.lt_or_ge k l.length with h|h
  ·exact h
  ·exact absurd (List.drop_eq_nil_of_le h) hne
 obtain⟨g',off',hA,hg,hc⟩ :=h3 hl;rw [←e1] at hA;simp only [Option.some.injEq,Addr.mk.injEq,and_true] at hA;obtain⟨rfl,rfl⟩ :=hA;refine⟨g,off+k * T.n, ?_,hg,fun j u hu=> ?_⟩
 ·unfold Es
  rw [if_neg (by omega)]
 ·rw [NP,List.getElem?_drop] at hu
  rw [Nat.add_assoc];exact hc _ u hu
theorem zu (X : ST P T t e)(ty : TypeId){g n c : Nat}{x : Value}{l m : List α}{B : Nat}(hown : aX T e w (.slice (some ⟨g,0,none⟩) n c) l)(hr : dX T w B x m)(hroom : n+m.length≤c) :
  ∃w', (Builtin.append_ #[t,t] ty #[.slice (some ⟨g,0,none⟩) n c,x]).run P w= .ok (.slice (some ⟨g,0,none⟩) (n+m.length) c) w'∧aX T e w' (.slice (some ⟨g,0,none⟩) (n+m.length) c) (l++m) ∧w.grownBy w' (some g) :=by
 obtain rfl:=hown.len_eq;obtain⟨A,cap,rfl,h1,h2,h3⟩ :=hr;obtain⟨z,bytes,hinfo,hz,hby⟩ :=X.info;obtain⟨i,hi,hzz⟩ :=Option.map_eq_some_iff.1 hinfo;simp only [Prod.mk.injEq] at hzz;obtain⟨q1,q2,q3⟩ :=hzz;by_cases hm : m= []
 ·subst hm
  exact⟨w,xG X.und hi _ _ _ hown A cap ty,by simpa using hown,World.grownBy.refl w _⟩
 ·obtain⟨g',off,rfl,hg,hc⟩ :=h3 hm
  have hcells : ∀j u, (flat T m)[j]? =some u→w.cell? ((⟨g',off,none⟩ : Addr).add j) =some u:=by
   intro j u hu;rw [←hc j u hu];unfold Addr.add;by_cases hj : j=0<;>simp [hj]
  obtain⟨w',hrun,k1,k2⟩ :=run_append_fits (P:=P) w 0 t ty e i T.n X.und hi q2 g l.length c (flat T l) hown ⟨g',off,none⟩ m.length cap (flat T m) (nP T m) hcells (H7 T m) hroom;refine⟨w',hrun, ?_,k2⟩;unfold aX;rw [XU,rV];exact k1
theorem yJ {ops : Array Oper}{o : Oper}{a : Act}{K : Act→World→Prop}{Q : Exit→Act→World→Prop}{E : Prop}(X : ST P T t e)(hgd : o.guard=none)(s x : Operand)
  (ho : o.op= .call {callee:= .builtin .append,args:= #[s,x],argTypes:= #[t,t]})
  {g n c : Nat} {y : Value} {l m : List α} {B : Nat} (hs : a.eval s= .slice (some ⟨g,0,none⟩) n c) (hx : a.eval x=y) (hown : aX T e w (.slice (some ⟨g,0,none⟩) n c) l) (hr : dX T w B y m) (N : Nat) (hN : n+m.length=N) (hroom : N≤c)
  (h : ∀w',aX T e w' (.slice (some ⟨g,0,none⟩) N c) (l++m) →w.grownBy w' (some g) →K (a.put o.dst (.slice (some ⟨g,0,none⟩) N c)) w') :
  if Region.wanted o (yielded ops a.tmps) =true then Oper.wp P o a w K Q else E:=by
 have hw : Region.wanted o (yielded ops a.tmps) =true:=by simp [Region.wanted,hgd]
 rw [if_pos hw];subst hN;obtain⟨w',hrun,h2,h3⟩ :=zu X o.type hown hr hroom;unfold Oper.wp execOp;simp only [ho,resolve,invoke,builtin,Sem.run_bind,Sem.run_pure,Result.andThen_ok,List.map_toArray,List.map_cons,List.map_nil,hs,hx,hrun];exact h w' h2 h3
theorem aX.spare {g n c : Nat}{l : List α}(h : aX T e w (.slice (some ⟨g,0,none⟩) n c) l)(j : Nat)(hj : j<c * T.n) : (w.cell? ⟨g,j,none⟩).isSome=true:=by
 rcases h.2 with ⟨h',_⟩ | ⟨g',cap',cur,h',_,hg,hnc,hcm,hcs,htake⟩
 ·simp at h'
 ·simp only [Ya,Option.some.injEq,Addr.mk.injEq,and_true] at h'
  obtain⟨rfl,_,rfl⟩ :=h';rw [cell_of_row w g j cur e (0,0) hg,Array.getElem?_eq_getElem (by omega)];rfl
end Go.Proofs.YtkmggglljkmjoaaGreat
namespace Go.Proofs.YtkmggglljkmjoaaGreat.Lim
open Go.RowKit
theorem Tryz.stInt : ST Tryz.prog FI 24 3:= ⟨Tryz.underlying24, .int .i64 0,8,by kernel_rfl,rfl,by decide⟩
def idxOf {α : Type}(p : α→Bool)(l : List α) : Int:=match l.findIdx? p with|some i=>i|none=> -1
theorem idxOf_hit {α : Type}(p : α→Bool)(l : List α)(i : Nat)(hi : i<l.length)(h : (l.take i).any p=false)(hp : p l[i]=true) : idxOf p l=i:=by
 have hf : l.findIdx? p=some i:=by
  rw [List.findIdx?_eq_some_iff_getElem];refine⟨hi,hp,fun j hj=> ?_⟩;rw [List.any_eq_false] at h;exact h l[j] (List.mem_take_iff_getElem.2 ⟨j,by omega,rfl⟩)
 unfold idxOf;rw [hf]
theorem mF {α : Type}(p : α→Bool)(l : List α)(h : l.any p=false) : idxOf p l= -1:=by
 have hf : l.findIdx? p=none:=by
  rw [List.findIdx?_eq_none_iff];intro x hx;rw [List.any_eq_false] at h;simpa using h x hx
 unfold idxOf;rw [hf]
theorem any_take_succ {α : Type}(p : α→Bool)(l : List α)(i : Nat)(hi : i<l.length)(h : (l.take i).any p=false)(hp : p l[i]=false) : (l.take (i+1)).any p=false:=by
 rw [XZ hi,List.any_append,h];simp [hp]
theorem og {α : Type}(p : α→Bool)(l : List α) : decide (0≤idxOf p l) =l.any p:=by
 unfold idxOf;cases h : l.findIdx? p with
 |none=>
  rw [List.findIdx?_eq_none_iff] at h;have : l.any p=false:=by
   rw [List.any_eq_false];intro x hx;simp [h x hx]
  rw [this];rfl
 |some i=>
  rw [List.findIdx?_eq_some_iff_getElem] at h;obtain⟨hi,hp,_⟩ :=h;have : l.any p=true:=List.any_eq_true.2 ⟨l[i],X0 hi,hp⟩;rw [this];simp
theorem tC (w : World)(v : Value)(l : List Int)(h : dX FI w w.heap.size v l)(fid : FuncId)(cap : Array Value)(p : Int→Bool)(hent : ∀ (x : Int) (W : World), (callFunc fid (#[.int .i64 x]++cap)).run Tryz.prog W= .ok (.enter fid (#[.int .i64 x]++cap)) W)
  (hf : ∀ (x : Int) (W : World),x∈l→Below w.heap.size w W→Calls Tryz.prog fid (#[.int .i64 x]++cap) W fun e W'=>e= .returned (.bool (p x)) ∧Below W.heap.size W W') :
  Calls Tryz.prog 220 #[v, .func (.func fid) #[] cap] w fun e w'=>e= .returned (.int .i64 (idxOf p l)) ∧Below w.heap.size w w':=by
 obtain⟨A,c,hv,q1,q2,_⟩ :=id h;have kT : l.length≤9223372036854775807:=by unfold maxLen at q2;omega
 subst hv;have HF:=Hid.aD hf;clear hf q1 q2;go_enter Tryz.func220,Tryz.ntmps220;go_wp2;go_loopw [5,8] (fun _ i wr=> ∃i' : Nat,i'≤l.length∧i= .int .i64 i'∧Below w.heap.size w wr∧ (l.take i').any p=false) (fun _ i _=>l.length - (intOf i).toNat)
 case atStart=>exact⟨0,X3 _,rfl,Below.refl _ _,rfl⟩
 case round=>
  obtain⟨i,hi,rfl,hb,hno⟩ :=hrel;have HN:=Hid.aD hno;clear hno;by_cases hlt : i<l.length
  ·obtain⟨g,off,cap',he,hg,_,_,hc⟩ := (h.below hb).at_ (XL hlt)
   injection he with he1 he2 gq;clear he2;subst he1 gq;have p0 : wr.cell? ⟨g,off+i,none⟩ =some (.int .i64 l[i]) :=by simpa [FI] using hc 0 _ rfl
   clear hc h;go_wp2_with fail;refine(HF.out l[i] wr (X0 hlt) hb).mono ?_;rintro e w1 ⟨rfl,hb1⟩;have hb2:=hb.trans (hb1.mono hb.size);by_cases hp : p l[i]=true
   ·have HP:=Hid.aD (idxOf_hit p l i hlt HN.out hp)
    rw [hp];clear hp;go_wp2;go_ret;exact⟨cB HP.out.symm,hb2⟩
   ·have hp' : p l[i]=false:=by simpa using hp
    have HP:=Hid.aD (any_take_succ p l i hlt HN.out hp');rw [hp'];clear hp hp';go_wp2;go_roundw
    case rel=>exact⟨i+1,by omega,by go_num,hb2,HP.out⟩
    case measure=>simp [intOf];omega
  ·go_wp2
   go_ret;obtain rfl : i=l.length:=by omega
   exact⟨cB (mF p l (by simpa using HN.out)).symm,hb⟩
theorem uZ (w : World)(v : Value)(l : List Int)(h : dX FI w w.heap.size v l)(fid : FuncId)(cap : Array Value)(p : Int→Bool)(hent : ∀ (x : Int) (W : World), (callFunc fid (#[.int .i64 x]++cap)).run Tryz.prog W= .ok (.enter fid (#[.int .i64 x]++cap)) W)
  (hf : ∀ (x : Int) (W : World),x∈l→Below w.heap.size w W→Calls Tryz.prog fid (#[.int .i64 x]++cap) W fun e W'=>e= .returned (.bool (p x)) ∧Below W.heap.size W W') :
  Calls Tryz.prog 184 #[v, .func (.func fid) #[] cap] w fun e w'=>e= .returned (.bool (l.any p)) ∧Below w.heap.size w w':=by
 have HF:=Hid.aD hf;clear hf;go_enter Tryz.func184,Tryz.ntmps184;go_wp2_with fail;refine(tC w v l h fid cap p hent HF.out).mono ?_;rintro e w1 ⟨rfl,hb1⟩;have HP:=Hid.aD (og p l);go_wp2;go_ret;exact⟨aU HP.out,hb1⟩
def dO (h : Int) : Bool:=decide (32≤h) &&decide (h≤223) &&decide (h%32<24)
def sN (h : Int) : Bool:= (h == 0) ||dO h
theorem jv (h : Int)(w : World) : Calls Tryz.prog 91 #[.int .i64 h] w fun e w'=>e= .returned (.bool (dO h)) ∧w'=w:=by
 by_cases h1 : 32≤h
 ·by_cases h2 : h≤223
  ·go_enter Tryz.func91,Tryz.ntmps91
   go_wp2;go_ret;exact⟨aU (by simp [dO,h1,h2]),rfl⟩
  ·go_enter Tryz.func91,Tryz.ntmps91
   go_wp2;go_ret;exact⟨aU (by simp [dO];omega),rfl⟩
 ·go_enter Tryz.func91,Tryz.ntmps91
  go_wp2;go_ret;exact⟨aU (by simp [dO];omega),rfl⟩
theorem kK (h : Int)(w : World) : Calls Tryz.prog 114 #[.int .i64 h] w fun e w'=>e= .returned (.bool (dO h)) ∧w'=w:=by
 by_cases h1 : 32≤h
 ·by_cases h2 : h≤223
  ·go_enter Tryz.func114,Tryz.ntmps114
   go_wp2;go_ret;exact⟨aU (by simp [dO,h1,h2]),rfl⟩
  ·go_enter Tryz.func114,Tryz.ntmps114
   go_wp2;go_ret;exact⟨aU (by simp [dO];omega),rfl⟩
 ·go_enter Tryz.func114,Tryz.ntmps114
  go_wp2;go_ret;exact⟨aU (by simp [dO];omega),rfl⟩
theorem Kr (h : Int)(w : World) : Calls Tryz.prog 186 #[.int .i64 h] w fun e w'=>e= .returned (.bool (sN h)) ∧w'=w:=by
 by_cases h1 : h=0
 ·subst h1
  go_enter Tryz.func186,Tryz.ntmps186;go_wp2;go_ret;exact⟨rfl,rfl⟩
 ·have h2 : (h == 0) =false:=by simpa using h1
  go_enter Tryz.func186,Tryz.ntmps186;go_wp2_with (go_at_call 114;refine(kK _ _).mono ?_;rintro e w1 ⟨rfl,rfl⟩);go_ret;exact⟨aU (by simp [sN,h2]),rfl⟩
theorem Kt (h : Int)(w : World) : Calls Tryz.prog 185 #[.int .i64 h] w fun e w'=>e= .returned (.bool (!sN h)) ∧w'=w:=by
 go_enter Tryz.func185,Tryz.ntmps185;go_wp2_with (go_at_call 186;refine(Kr _ _).mono ?_;rintro e w1 ⟨rfl,rfl⟩);go_ret;exact⟨rfl,rfl⟩
def mE (z : List Int) : Bool:= (z.length == 3) && !(z.any fun h=> !sN h)
theorem Mg (w : World)(v : Value)(z : List Int)(h : dX FI w w.heap.size v z) : Calls Tryz.prog 126 #[v] w fun e w'=>e= .returned (.bool (mE z)) ∧Below w.heap.size w w':=by
 obtain⟨A,c,hv,_⟩ :=id h;subst hv;by_cases h3 : z.length=3
 ·have h4 : ((z.length : Int) == 3) =true:=by simp;omega
  have H3:=Hid.aD h3;clear h3;go_enter Tryz.func126,Tryz.ntmps126;go_wp2_with fail;refine(uZ w _ z h 185 #[] (fun h=> !sN h) (fun _ _=>by kernel_rfl) (fun x W _ _=> (Kt x W).mono fun e W' hh=> ⟨hh.1,by rw [hh.2];exact Below.refl _ _⟩)).mono ?_;rintro e w1 ⟨rfl,hb1⟩;go_wp2;go_ret;exact⟨aU (by simp [mE,H3.out]),hb1⟩
 ·have h4 : ((z.length : Int) == 3) =false:=by simp;omega
  go_enter Tryz.func126,Tryz.ntmps126;go_wp2;go_ret;exact⟨aU (by simp [mE,h3]),Below.refl _ _⟩
theorem nA (w : World)(v : Value)(z : List Int)(h : dX FI w w.heap.size v z) : Calls Tryz.prog 57 #[v] w fun e w'=>e= .returned (.bool (mE z)) ∧Below w.heap.size w w':=by
 obtain⟨A,c,hv,q1,q2,_⟩ :=id h;have kT : z.length≤9223372036854775807:=by unfold maxLen at q2;omega
 subst hv;clear q1 q2;go_enter Tryz.func57,Tryz.ntmps57;go_wp2;go_loopw [3] (fun i wr=> ∃i' : Nat,i'≤z.length∧i= .int .i64 i'∧Below w.heap.size w wr∧Hid ((z.take i').any (fun h=> !sN h) =false)) (fun i _=>z.length - (intOf i).toNat)
 case atStart=>exact⟨0,X3 _,rfl,Below.refl _ _,rfl⟩
 case round=>
  obtain⟨i,hi,rfl,hb,HN⟩ :=hrel;by_cases hlt : i<z.length
  ·obtain⟨g,off,cap',he,hg,_,_,hc⟩ := (h.below hb).at_ (XL hlt)
   injection he with he1 he2 gq;clear he2;subst he1 gq;have p0 : wr.cell? ⟨g,off+i,none⟩ =some (.int .i64 z[i]) :=by simpa [FI] using hc 0 _ rfl
   clear hc h;by_cases hz : z[i]=0
   ·have hz1 : (z[i] != 0) =false:=by simpa using hz
    have HS:=Hid.aD (any_take_succ (fun h=> !sN h) z i hlt HN.out (by simp [sN,hz]));clear hz;go_wp2_with (go_at_call 91;refine(jv _ _).mono ?_;rintro e w1 ⟨rfl,rfl⟩);go_roundw
    case rel=>exact⟨i+1,by omega,by go_num,hb,HS⟩
    case measure=>simp [intOf];omega
   ·have hz1 : (z[i] != 0) =true:=by simpa using hz
    by_cases hh : dO z[i]=true
    ·have HS:=Hid.aD (any_take_succ (fun h=> !sN h) z i hlt HN.out (by simp [sN,hh]))
     clear hz;go_wp2_with (go_at_call 91;refine(jv _ _).mono ?_;rintro e w1 ⟨rfl,rfl⟩);go_roundw
     case rel=>exact⟨i+1,by omega,by go_num,hb,HS⟩
     case measure=>simp [intOf];omega
    ·have hh' : dO z[i]=false:=by simpa using hh
     have HS:=Hid.aD (show mE z=false from by
      have : (z.any fun h=> !sN h) =true:=List.any_eq_true.2 ⟨z[i],X0 hlt,by simp [sN,hh',hz]⟩;simp [mE,this])
     clear hz hh;go_wp2_with (go_at_call 91;refine(jv _ _).mono ?_;rintro e w1 ⟨rfl,rfl⟩);go_ret;exact⟨aU HS.out.symm,hb⟩
  ·go_wp2
   go_ret;obtain rfl : i=z.length:=by omega
   refine⟨aU ?_,hb⟩;have:=HN.out;rw [List.take_length] at this;simp only [mE,this];rw [Bool.eq_iff_iff];simp;try omega
def qX (z : List Int)(wk h : Int) : List Int×Bool:=if mE z=true∧0≤wk∧wk≤2∧dO h=true then (z.set wk.toNat h,true) else (z,false)
theorem jX {v : Value}{a b : Bool}(h : a=b) : Ending.returned (.tuple #[v, .bool a]) = .returned (.tuple #[v, .bool b]) :=by rw [h]
theorem Gi {z : List Int}(h : mE z=true) : z.length=3:=by
 simp [mE] at h;exact h.1
theorem aX.nI {e : TypeId}{w : World}{g n c k : Nat}{l : List Int}{x : Int}(h : aX FI e w (.slice (some ⟨g,0,none⟩) n c) l)(hx : l[k]? =some x) : w.cell? ⟨g,k,none⟩ =some (.int .i64 x) :=by simpa [FI] using h.cell_ (k:=k) (j:=0) hx (by decide)
theorem _root_.Go.Proofs.YtkmggglljkmjoaaGreat.aX.jf {α : Type}{T : FT α}{e : TypeId}{w : World}{v : Value}{l : List α}(h : aX T e w v l)(hl : 0<l.length) : ∃g cap,v= .slice (some ⟨g,0,none⟩) l.length cap∧g<w.heap.size:=by
 rcases h.form with ⟨_,rfl⟩ | ⟨g,cap,hv,hg,_,_⟩
 ·simp at hl
 ·exact⟨g,cap,hv,hg⟩
theorem mR (w : World)(v : Value)(l : List Int)(h : dX FI w w.heap.size v l)(hs : l.length≤1073741824) :
  Calls Tryz.prog 205 #[v] w fun e w'=> ∃v',e= .returned v'∧aX FI 3 w' v' l∧ (∀g∈bq v',w.heap.size≤g) ∧Below w.heap.size w w':=by
 obtain⟨A,c,hv,_,_,q3⟩ :=id h;subst hv;go_enter Tryz.func205,Tryz.ntmps205;go_wp2_with (at_builtin;refine eP Tryz.stInt rfl _ _ rfl (v:= .slice (some ⟨w.heap.size,0,none⟩) 0 0) (y:= .slice A l.length c) (l:= []) (m:=l) rfl rfl (aX.lit FI [] #[] rfl (by simp [maxLen]) _ _) (h.av (XQ _) (Nat.le_succ _) _) (by simpa using hs) ?_;intro v' w1 ho hg hat);go_ret;have hb : Below w.heap.size w w1:= ((Below.refl _ _).alloc (XQ _) _).grown hg (by simp) (by simp [Value.ownBlock]);exact⟨v',rfl,by simpa using ho,fun g hg'=>by rcases iY hat g hg' with h|h; (simp [bq,Value.ownBlock] at h;omega); (simp at h;omega),hb⟩
def vD (z : List Int)(wk : Int) : List Int×Bool:=if mE z=true∧0≤wk∧wk≤2∧z[wk.toNat]? ≠some 0 then (z.set wk.toNat 0,true) else (z,false)
theorem Ba (w : World)(v : Value)(z : List Int)(wk h0 : Int)(h : dX FI w w.heap.size v z)(hs : z.length≤1048576) :
  Calls Tryz.prog 174 #[v, .int .i64 wk, .int .i64 h0] w fun e w'=> ∃v',e= .returned (.tuple #[v', .bool (qX z wk h0).2]) ∧aX FI 3 w' v' (qX z wk h0).1∧ (∀g∈bq v',w.heap.size≤g) ∧Below w.heap.size w w':=by
 by_cases c1 : mE z=true
 case neg=>
  have hn : qX z wk h0= (z,false) :=if_neg (fun hh=>c1 hh.1);have c1' : mE z=false:=by simpa using c1
  have HN:=Hid.aD hn;clear hn c1;go_enter Tryz.func174,Tryz.ntmps174;go_wp2_with (first| (go_at_call 205;refine(mR _ _ z h (by omega)).mono ?_;rintro e w1 ⟨v',rfl,ho,hf,hb⟩) | (go_at_call 57;refine(nA _ _ z (bY h hb)).mono ?_;rintro e w2 ⟨rfl,hb2⟩) |go_in)
  go_ret2
  exact⟨v',jX (by rw [HN.out]),by rw [HN.out];exact ho.keep (fun g hg=>hb2.block g (dQ ho g (aS.2 hg))),hf,hb.trans (hb2.mono hb.size)⟩
 by_cases c2 : 0≤wk∧wk≤2
 case neg=>
  have hn : qX z wk h0= (z,false) :=if_neg (fun hh=>c2 ⟨hh.2.1,hh.2.2.1⟩);have HN:=Hid.aD hn;clear hn;by_cases c3 : 0≤wk
  ·have c4 : decide (wk≤2) =false:=by simp;omega
   clear c2;go_enter Tryz.func174,Tryz.ntmps174;go_wp2_with (first| (go_at_call 205;refine(mR _ _ z h (by omega)).mono ?_;rintro e w1 ⟨v',rfl,ho,hf,hb⟩) | (go_at_call 57;refine(nA _ _ z (bY h hb)).mono ?_;rintro e w2 ⟨rfl,hb2⟩) |go_in)
   go_ret2
   exact⟨v',jX (by rw [HN.out]),by rw [HN.out];exact ho.keep (fun g hg=>hb2.block g (dQ ho g (aS.2 hg))),hf,hb.trans (hb2.mono hb.size)⟩
  ·clear c2
   go_enter Tryz.func174,Tryz.ntmps174;go_wp2_with (first| (go_at_call 205;refine(mR _ _ z h (by omega)).mono ?_;rintro e w1 ⟨v',rfl,ho,hf,hb⟩) | (go_at_call 57;refine(nA _ _ z (bY h hb)).mono ?_;rintro e w2 ⟨rfl,hb2⟩) |go_in)
   go_ret2
   exact⟨v',jX (by rw [HN.out]),by rw [HN.out];exact ho.keep (fun g hg=>hb2.block g (dQ ho g (aS.2 hg))),hf,hb.trans (hb2.mono hb.size)⟩
 obtain⟨c3,c4⟩ :=c2;by_cases c5 : dO h0=true
 case neg=>
  have hn : qX z wk h0= (z,false) :=if_neg (fun hh=>c5 hh.2.2.2);have Sq : dO h0=false:=by simpa using c5
  have HN:=Hid.aD hn;clear hn c5;go_enter Tryz.func174,Tryz.ntmps174;go_wp2_with (first| (go_at_call 205;refine(mR _ _ z h (by omega)).mono ?_;rintro e w1 ⟨v',rfl,ho,hf,hb⟩) | (go_at_call 57;refine(nA _ _ z (bY h hb)).mono ?_;rintro e w2 ⟨rfl,hb2⟩) | (go_at_call 91;refine(jv _ _).mono ?_;rintro e w3 ⟨rfl,rfl⟩) |go_in)
  go_ret2
  exact⟨v',jX (by rw [HN.out]),by rw [HN.out];exact ho.keep (fun g hg=>hb2.block g (dQ ho g (aS.2 hg))),hf,hb.trans (hb2.mono hb.size)⟩
 have hn : qX z wk h0= (z.set wk.toNat h0,true) :=if_pos ⟨c1,c3,c4,c5⟩;have HN:=Hid.aD hn;have hz3:=Gi c1;have HZ:=Hid.aD hz3;clear hn hz3;obtain⟨k,rfl⟩ :=XP c3;have hk : k<3:=by omega
 have hz0 : 0<z.length:=by rw [HZ.out];decide
 obtain⟨x,hx⟩ : ∃x,z[k]? =some x:= ⟨_,XL (by rw [HZ.out];exact hk)⟩;have HX:=Hid.aD hx;clear hx;go_enter Tryz.func174,Tryz.ntmps174;go_wp2_with (first| (go_at_call 205;refine(mR _ _ z h (by omega)).mono ?_;rintro e w1 ⟨v',rfl,ho,hf,hb⟩;obtain⟨g,cap,hv,hg⟩ :=ho.jf hz0;subst hv) | (go_at_call 57;refine(nA _ _ z (bY h hb)).mono ?_;rintro e w2 ⟨rfl,hb2⟩;have ho2:=ho.keep (fun g hg=>hb2.block g (dQ ho g (aS.2 hg)));have hf2:=ho2.dM k;have hc2:=aX.nI ho2 HX.out;rw [HZ.out]) | (go_at_call 91;refine(jv _ _).mono ?_;rintro e w3 ⟨rfl,rfl⟩) |go_in);have hs2:=ho2.dG (k:=k) (j:=0) (y:=h0) (u:= .int .i64 h0) HX.out (by decide) rfl;rw [show k * FI.n+0=k by simp [FI],HZ.out] at hs2
 go_ret2
 exact⟨_,jX (by rw [HN.out]),by rw [HN.out];exact hs2,hf, (hb.trans (hb2.mono hb.size)).setCell (hf g (by simp [bq,Value.ownBlock])) _⟩
theorem Mh (w : World)(v : Value)(z : List Int)(wk : Int)(h : dX FI w w.heap.size v z)(hs : z.length≤1048576) :
  Calls Tryz.prog 175 #[v, .int .i64 wk] w fun e w'=> ∃v',e= .returned (.tuple #[v', .bool (vD z wk).2]) ∧aX FI 3 w' v' (vD z wk).1∧ (∀g∈bq v',w.heap.size≤g) ∧Below w.heap.size w w':=by
 by_cases c1 : mE z=true
 case neg=>
  have HN:=Hid.aD (show vD z wk= (z,false) from if_neg (fun hh=>c1 hh.1));have c1' : mE z=false:=by simpa using c1
  clear c1;go_enter Tryz.func175,Tryz.ntmps175;go_wp2_with (first| (go_at_call 205;refine(mR _ _ z h (by omega)).mono ?_;rintro e w1 ⟨v',rfl,ho,hf,hb⟩) | (go_at_call 57;refine(nA _ _ z (bY h hb)).mono ?_;rintro e w2 ⟨rfl,hb2⟩) |go_in)
  go_ret2
  exact⟨v',jX (by rw [HN.out]),by rw [HN.out];exact ho.keep (fun g hg=>hb2.block g (dQ ho g (aS.2 hg))),hf,hb.trans (hb2.mono hb.size)⟩
 by_cases c2 : 0≤wk∧wk≤2
 case neg=>
  have HN:=Hid.aD (show vD z wk= (z,false) from if_neg (fun hh=>c2 ⟨hh.2.1,hh.2.2.1⟩));by_cases c3 : 0≤wk
  ·have c4 : decide (wk≤2) =false:=by simp;omega
   clear c2;go_enter Tryz.func175,Tryz.ntmps175;go_wp2_with (first| (go_at_call 205;refine(mR _ _ z h (by omega)).mono ?_;rintro e w1 ⟨v',rfl,ho,hf,hb⟩) | (go_at_call 57;refine(nA _ _ z (bY h hb)).mono ?_;rintro e w2 ⟨rfl,hb2⟩) |go_in)
   go_ret2
   exact⟨v',jX (by rw [HN.out]),by rw [HN.out];exact ho.keep (fun g hg=>hb2.block g (dQ ho g (aS.2 hg))),hf,hb.trans (hb2.mono hb.size)⟩
  ·clear c2
   go_enter Tryz.func175,Tryz.ntmps175;go_wp2_with (first| (go_at_call 205;refine(mR _ _ z h (by omega)).mono ?_;rintro e w1 ⟨v',rfl,ho,hf,hb⟩) | (go_at_call 57;refine(nA _ _ z (bY h hb)).mono ?_;rintro e w2 ⟨rfl,hb2⟩) |go_in)
   go_ret2
   exact⟨v',jX (by rw [HN.out]),by rw [HN.out];exact ho.keep (fun g hg=>hb2.block g (dQ ho g (aS.2 hg))),hf,hb.trans (hb2.mono hb.size)⟩
 obtain⟨c3,c4⟩ :=c2;have HZ:=Hid.aD (Gi c1);obtain⟨k,rfl⟩ :=XP c3;have hk : k<3:=by omega
 have hz0 : 0<z.length:=by rw [HZ.out];decide
 obtain⟨x,hx⟩ : ∃x,z[k]? =some x:= ⟨_,XL (by rw [HZ.out];exact hk)⟩;obtain⟨g0,off,cap0,hv,hg0,_,_,hq⟩ :=h.at_ hx;subst hv;have q0 : w.cell? ⟨g0,off+k,none⟩ =some (.int .i64 x) :=by simpa [FI] using hq 0 _ rfl
 have HX:=Hid.aD hx;clear hx hq;by_cases c5 : x=0
 ·have HN:=Hid.aD (show vD z (k : Int) = (z,false) from if_neg (fun hh=>hh.2.2.2 (by rw [X6,HX.out,c5])))
  have c6 : (x == 0) =true:=by simpa using c5
  clear c5;go_enter Tryz.func175,Tryz.ntmps175;go_wp2_with (first| (go_at_call 205;refine(mR _ _ z h (by omega)).mono ?_;rintro e w1 ⟨v',rfl,ho,hf,hb⟩) | (go_at_call 57;refine(nA _ _ z (bY h hb)).mono ?_;rintro e w2 ⟨rfl,hb2⟩;have hq2:= ((hb.trans (hb2.mono hb.size)).cell (p:= ⟨g0,off+k,none⟩) hg0).trans q0;rw [HZ.out]) |go_in)
  go_ret2
  exact⟨v',jX (by rw [HN.out]),by rw [HN.out];exact ho.keep (fun g hg=>hb2.block g (dQ ho g (aS.2 hg))),hf,hb.trans (hb2.mono hb.size)⟩
 ·have HN:=Hid.aD (show vD z (k : Int) = (z.set (k : Int).toNat 0,true) from if_pos ⟨c1,c3,c4,by rw [X6,HX.out];simpa using c5⟩)
  have c6 : (x == 0) =false:=by simpa using c5
  clear c5;go_enter Tryz.func175,Tryz.ntmps175;go_wp2_with (first| (go_at_call 205;refine(mR _ _ z h (by omega)).mono ?_;rintro e w1 ⟨v',rfl,ho,hf,hb⟩;obtain⟨g,cap,hv,hg⟩ :=ho.jf hz0;subst hv) | (go_at_call 57;refine(nA _ _ z (bY h hb)).mono ?_;rintro e w2 ⟨rfl,hb2⟩;have hq2:= ((hb.trans (hb2.mono hb.size)).cell (p:= ⟨g0,off+k,none⟩) hg0).trans q0;have ho2:=ho.keep (fun g hg=>hb2.block g (dQ ho g (aS.2 hg)));have hf2:=ho2.dM k;have hc2:=aX.nI ho2 HX.out;rw [HZ.out]) |go_in);have hs2:=ho2.dG (k:=k) (j:=0) (y:=0) (u:= .int .i64 0) HX.out (by decide) rfl;rw [show k * FI.n+0=k by simp [FI],HZ.out] at hs2
  go_ret2
  exact⟨_,jX (by rw [HN.out]),by rw [HN.out];exact hs2,hf, (hb.trans (hb2.mono hb.size)).setCell (hf g (by simp [bq,Value.ownBlock])) _⟩
theorem Tryz.stLRow : ST Tryz.prog gZ 80 83:= ⟨Tryz.underlying80, .agg #[.int .i64 0, .int .i64 0],16,by kernel_rfl,rfl,by decide⟩
theorem Fx (w : World)(v : Value)(t : List SV)(ll : List (List fP))(h : ig gZ w w.heap.size v t ll)(hs : fO ll≤1073741824) :
  Calls Tryz.prog 183 #[v] w fun e w'=>e= .returned (.int .i64 (ku ll : Nat)) ∧Below w.heap.size w w':=by
 obtain⟨A,c,hv,_⟩ :=id h.outer;subst hv;obtain⟨en,hcap,hmx⟩ :=h.len';have kT : ll.length≤9223372036854775807:=by unfold maxLen at hmx;omega
 rw [en] at h⊢;clear en hcap hmx;go_enter Tryz.func183,Tryz.ntmps183;go_wp2;go_loopw [3,5,8] (fun q _ i wr=> ∃k : Nat,k≤ll.length∧i= .int .i64 k∧q= .int .i64 (ku (ll.take k) : Nat) ∧Below w.heap.size w wr) (fun _ _ i _=>ll.length - (intOf i).toNat)
 case atStart=>exact⟨0,X3 _,rfl,rfl,Below.refl _ _⟩
 case round=>
  obtain⟨i,hi,rfl,rfl,hb⟩ :=hrel;by_cases hlt : i<ll.length
  ·obtain⟨g,o,A',c',rfl,hg,p0,r1⟩ :=h.row hb hlt
   have ht1:=Hid.aD (nW ll i hlt);have ht2:=nE ll i;have ht3 : ll[i].length≤1073741824:=XR (nX (X0 hlt)) hs;have Uy : ku ll≤1073741824:=XR (Nat.le_add_left _ _) hs;clear h r1 hs;go_wp2;go_roundw
   case rel=>exact⟨i+1,by omega,by go_num,by rw [ht1.out];go_num,hb.alloc hb.size _⟩
   case measure=>simp [intOf];omega
  ·go_wp2
   go_ret;obtain rfl : i=ll.length:=by omega
   exact⟨cB (by rw [List.take_length]),hb⟩
theorem vE (w : World)(v : Value)(t : List SV)(ll : List (List fP))(h : ig gZ w w.heap.size v t ll)(hs : fO ll≤536870912) :
  Calls Tryz.prog 58 #[v] w fun e w'=> ∃v',e= .returned v'∧aX gZ 83 w' v' ll.flatten∧ (∀g∈bq v',w.heap.size≤g) ∧Below w.heap.size w w':=by
 obtain⟨A,c,hv,_⟩ :=id h.outer;subst hv;obtain⟨en,hcap,hmx⟩ :=h.len';have kT : ll.length≤9223372036854775807:=by unfold maxLen at hmx;omega
 rw [en] at h⊢;clear en hcap hmx;go_enter Tryz.func58,Tryz.ntmps58;go_wp2;go_loopw [3,4] (fun o i wr=> ∃k : Nat,k≤ll.length∧i= .int .i64 k∧aX gZ 83 wr o (ll.take k).flatten∧ (∀g∈bq o,w.heap.size≤g) ∧Below w.heap.size w wr) (fun _ i _=>ll.length - (intOf i).toNat)
 case atStart=>exact⟨0,X3 _,rfl,aX.lit gZ [] #[] rfl (by decide) w 83,by simp [bq,Value.ownBlock], (Below.refl _ _).alloc (XQ _) _⟩
 case round=>
  obtain⟨i,hi,rfl,ho,hfo,hb⟩ :=hrel;by_cases hlt : i<ll.length
  ·obtain⟨g,o,A',c',rfl,hg,p0,r1⟩ :=h.row hb hlt
   have hfl : (ll.take i).flatten.length+ll[i].length≤1073741824:=by
    rw [←qh];have a:=nW ll i hlt;have b:=nE ll (i+1);have c : ku ll≤fO ll:=Nat.le_add_left _ _;omega
   have HF:=Hid.aD (show (ll.take (i+1)).flatten= (ll.take i).flatten++ll[i] from by rw [XZ hlt,List.flatten_append,List.flatten_singleton]);clear h;go_wp2_with (at_builtin;refine eP Tryz.stLRow rfl _ _ rfl (v:=u3) (y:= .slice A' ll[i].length c') (l:= (ll.take i).flatten) (m:=ll[i]) rfl rfl ho (bY r1 hb) hfl ?_;intro v' w3 ho' hg' hat');have hb3 : Below w.heap.size w w3:=hb.grown hg' hb.size (fun k hk=>hfo k (aS.2 hk));go_roundw
   case rel=>exact⟨i+1,by omega,by go_num,by rw [HF.out];exact ho',fun b hb'=>by rcases iY hat' b hb' with h|h; (exact hfo b h); (have:=hb.size;omega),hb3⟩
   case measure=>simp [intOf];omega
  ·go_wp2
   go_ret;obtain rfl : i=ll.length:=by omega
   exact⟨u3,rfl,by simpa using ho,hfo,hb⟩
theorem Dx (w : World)(v : Value)(l : List fP)(h : dX gZ w w.heap.size v l)(fid : FuncId)(cap : Array Value)(p : fP→Bool)(hent : ∀ (x : fP) (W : World), (callFunc fid (#[.agg #[.int .i64 x.Handle, .int .i64 x.Epoch]]++cap)).run Tryz.prog W= .ok (.enter fid (#[.agg #[.int .i64 x.Handle, .int .i64 x.Epoch]]++cap)) W)
  (hf : ∀ (x : fP) (W : World),x∈l→Below w.heap.size w W→Calls Tryz.prog fid (#[.agg #[.int .i64 x.Handle, .int .i64 x.Epoch]]++cap) W fun e W'=>e= .returned (.bool (p x)) ∧Below W.heap.size W W') :
  Calls Tryz.prog 188 #[v, .func (.func fid) #[] cap] w fun e w'=>e= .returned (.int .i64 (idxOf p l)) ∧Below w.heap.size w w':=by
 obtain⟨A,c,hv,q1,q2,_⟩ :=id h;have kT : l.length≤9223372036854775807:=by unfold maxLen at q2;omega
 subst hv;have HF:=Hid.aD hf;clear hf q1 q2;go_enter Tryz.func188,Tryz.ntmps188;go_wp2;go_loopw [5,8] (fun _ i wr=> ∃i' : Nat,i'≤l.length∧i= .int .i64 i'∧Below w.heap.size w wr∧ (l.take i').any p=false) (fun _ i _=>l.length - (intOf i).toNat)
 case atStart=>exact⟨0,X3 _,rfl,Below.refl _ _,rfl⟩
 case round=>
  obtain⟨i,hi,rfl,hb,hno⟩ :=hrel;have HN:=Hid.aD hno;clear hno;by_cases hlt : i<l.length
  ·obtain⟨g,off,cap',he,hg,_,_,hc⟩ := (h.below hb).at_ (XL hlt)
   injection he with he1 he2 gq;clear he2;subst he1 gq;have p0 : wr.cell? ⟨g,off+i * 2,none⟩ =some (.int .i64 l[i].Handle) :=hc 0 _ rfl;have p1 : wr.cell? ⟨g,off+i * 2+1,none⟩ =some (.int .i64 l[i].Epoch) :=hc 1 _ rfl;clear hc h;go_wp2_with fail;refine(HF.out l[i] wr (X0 hlt) hb).mono ?_;rintro e w1 ⟨rfl,hb1⟩;have hb2:=hb.trans (hb1.mono hb.size);by_cases hp : p l[i]=true
   ·have HP:=Hid.aD (idxOf_hit p l i hlt HN.out hp)
    rw [hp];clear hp;go_wp2;go_ret;exact⟨cB HP.out.symm,hb2⟩
   ·have hp' : p l[i]=false:=by simpa using hp
    have HP:=Hid.aD (any_take_succ p l i hlt HN.out hp');rw [hp'];clear hp hp';go_wp2;go_roundw
    case rel=>exact⟨i+1,by omega,by go_num,hb2,HP.out⟩
    case measure=>simp [intOf];omega
  ·go_wp2
   go_ret;obtain rfl : i=l.length:=by omega
   exact⟨cB (mF p l (by simpa using HN.out)).symm,hb⟩
theorem uq (w : World)(v : Value)(l : List fP)(h : dX gZ w w.heap.size v l)(fid : FuncId)(cap : Array Value)(p : fP→Bool)(hent : ∀ (x : fP) (W : World), (callFunc fid (#[.agg #[.int .i64 x.Handle, .int .i64 x.Epoch]]++cap)).run Tryz.prog W= .ok (.enter fid (#[.agg #[.int .i64 x.Handle, .int .i64 x.Epoch]]++cap)) W)
  (hf : ∀ (x : fP) (W : World),x∈l→Below w.heap.size w W→Calls Tryz.prog fid (#[.agg #[.int .i64 x.Handle, .int .i64 x.Epoch]]++cap) W fun e W'=>e= .returned (.bool (p x)) ∧Below W.heap.size W W') :
  Calls Tryz.prog 129 #[v, .func (.func fid) #[] cap] w fun e w'=>e= .returned (.bool (l.any p)) ∧Below w.heap.size w w':=by
 have HF:=Hid.aD hf;clear hf;go_enter Tryz.func129,Tryz.ntmps129;go_wp2_with fail;refine(Dx w v l h fid cap p hent HF.out).mono ?_;rintro e w1 ⟨rfl,hb1⟩;have HP:=Hid.aD (og p l);go_wp2;go_ret;exact⟨aU HP.out,hb1⟩
theorem Fy (w : World)(v : Value)(t : List SV)(ll : List (List fP))(h : ig gZ w w.heap.size v t ll)(fid : FuncId)(cap : Array Value)(p : List fP→Bool)(hent : ∀ (A : Option Addr) (n c : Nat) (W : World), (callFunc fid (#[.agg #[.slice A n c]]++cap)).run Tryz.prog W= .ok (.enter fid (#[.agg #[.slice A n c]]++cap)) W)(hf : ∀ (A : Option Addr) (c : Nat) (l : List fP) (W : World),Below w.heap.size w W→dX gZ W W.heap.size (.slice A l.length c) l→Calls Tryz.prog fid (#[.agg #[.slice A l.length c]]++cap) W fun e W'=>e= .returned (.bool (p l)) ∧Below W.heap.size W W') :
  Calls Tryz.prog 187 #[v, .func (.func fid) #[] cap] w fun e w'=>e= .returned (.int .i64 (idxOf p ll)) ∧Below w.heap.size w w':=by
 obtain⟨A,c,hv,_⟩ :=id h.outer;subst hv;obtain⟨en,hcap,hmx⟩ :=h.len';have kT : ll.length≤9223372036854775807:=by unfold maxLen at hmx;omega
 rw [en] at h⊢;clear en hcap hmx;have HF:=Hid.aD hf;clear hf;go_enter Tryz.func187,Tryz.ntmps187;go_wp2;go_loopw [5,8] (fun _ i wr=> ∃i' : Nat,i'≤ll.length∧i= .int .i64 i'∧Below w.heap.size w wr∧ (ll.take i').any p=false) (fun _ i _=>ll.length - (intOf i).toNat)
 case atStart=>exact⟨0,X3 _,rfl,Below.refl _ _,rfl⟩
 case round=>
  obtain⟨i,hi,rfl,hb,hno⟩ :=hrel;have HN:=Hid.aD hno;clear hno;by_cases hlt : i<ll.length
  ·obtain⟨g,o,A',c',rfl,hg,p0,r1⟩ :=h.row hb hlt
   clear h;go_wp2_with fail;refine(HF.out A' c' ll[i] wr hb (bY r1 hb)).mono ?_;rintro e w1 ⟨rfl,hb1⟩;have hb2:=hb.trans (hb1.mono hb.size);by_cases hp : p ll[i]=true
   ·have HP:=Hid.aD (idxOf_hit p ll i hlt HN.out hp)
    rw [hp];clear hp;go_wp2;go_ret;exact⟨cB HP.out.symm,hb2⟩
   ·have hp' : p ll[i]=false:=by simpa using hp
    have HP:=Hid.aD (any_take_succ p ll i hlt HN.out hp');rw [hp'];clear hp hp';go_wp2;go_roundw
    case rel=>exact⟨i+1,by omega,by go_num,hb2,HP.out⟩
    case measure=>simp [intOf];omega
  ·go_wp2
   go_ret;obtain rfl : i=ll.length:=by omega
   exact⟨cB (mF p ll (by simpa using HN.out)).symm,hb⟩
theorem vR (w : World)(v : Value)(t : List SV)(ll : List (List fP))(h : ig gZ w w.heap.size v t ll)(fid : FuncId)(cap : Array Value)(p : List fP→Bool)(hent : ∀ (A : Option Addr) (n c : Nat) (W : World), (callFunc fid (#[.agg #[.slice A n c]]++cap)).run Tryz.prog W= .ok (.enter fid (#[.agg #[.slice A n c]]++cap)) W)(hf : ∀ (A : Option Addr) (c : Nat) (l : List fP) (W : World),Below w.heap.size w W→dX gZ W W.heap.size (.slice A l.length c) l→Calls Tryz.prog fid (#[.agg #[.slice A l.length c]]++cap) W fun e W'=>e= .returned (.bool (p l)) ∧Below W.heap.size W W') :
  Calls Tryz.prog 127 #[v, .func (.func fid) #[] cap] w fun e w'=>e= .returned (.bool (ll.any p)) ∧Below w.heap.size w w':=by
 have HF:=Hid.aD hf;clear hf;go_enter Tryz.func127,Tryz.ntmps127;go_wp2_with fail;refine(Fy w v t ll h fid cap p hent HF.out).mono ?_;rintro e w1 ⟨rfl,hb1⟩;have HP:=Hid.aD (og p ll);go_wp2;go_ret;exact⟨aU HP.out,hb1⟩
def oh (slot : Int)(r : fP) : Bool:=dO r.Handle&& (r.Handle%32 == slot)
def nC (ll : List (List fP))(slot : Int) : Bool:=ll.any fun l=>l.any (oh slot)
theorem tQ {α : Type}(p : α→Bool)(ll : List (List α)) : ll.flatten.any p=ll.any fun l=>l.any p:=by
 induction ll with
 |nil=>rfl
 |cons a l ih=>simp [ih]
theorem GK (r : fP)(slot : Int)(b : Nat)(w : World)(h0 : w.cell? ⟨b,0,none⟩ =some (.int .i64 slot))(hb : b<w.heap.size) :
  Calls Tryz.prog 190 #[.agg #[.int .i64 r.Handle, .int .i64 r.Epoch], .pointer (some ⟨b,0,none⟩)] w fun e w'=>e= .returned (.bool (oh slot r)) ∧Below w.heap.size w w':=by
 by_cases c1 : dO r.Handle=true
 ·go_enter Tryz.func190,Tryz.ntmps190
  go_wp2_with (go_at_call 114;refine(kK _ _).mono ?_;rw [c1];rintro e w1 ⟨rfl,rfl⟩);go_ret;exact⟨aU (by have h0 : 0≤r.Handle:= (by simp [dO] at c1;omega);simp [oh,c1,Int.tmod_eq_emod_of_nonneg h0]),by repeat (first|exact Below.refl _ _|refine Below.alloc ?_ (by simp<;>omega) _|refine bA ?_ (by simp<;>omega) _ _|refine Below.drew ?_)⟩
 ·have c1' : dO r.Handle=false:=by simpa using c1
  go_enter Tryz.func190,Tryz.ntmps190;go_wp2_with (go_at_call 114;refine(kK _ _).mono ?_;rw [c1'];rintro e w1 ⟨rfl,rfl⟩);go_ret;exact⟨aU (by simp [oh,c1']),by repeat (first|exact Below.refl _ _|refine Below.alloc ?_ (by simp<;>omega) _|refine bA ?_ (by simp<;>omega) _ _|refine Below.drew ?_)⟩
theorem GL (A : Option Addr)(c : Nat)(l : List fP)(slot : Int)(b : Nat)(w : World)(h : dX gZ w w.heap.size (.slice A l.length c) l)(h0 : w.cell? ⟨b,0,none⟩ =some (.int .i64 slot))(hb : b<w.heap.size) :
  Calls Tryz.prog 189 #[.agg #[.slice A l.length c], .pointer (some ⟨b,0,none⟩)] w fun e w'=>e= .returned (.bool (l.any (oh slot))) ∧Below w.heap.size w w':=by
 go_enter Tryz.func189,Tryz.ntmps189;go_wp2_with fail;refine(uq _ _ l (bY h cO) 190 #[.pointer (some ⟨b,0,none⟩)] (oh slot) (fun _ _=>by kernel_rfl) (fun x W _ hW=>GK x slot b W ((hW.cell (p:= ⟨b,0,none⟩) (by simp;omega)).trans ((((Below.refl w.heap.size w).alloc (XQ _) _).cell (p:= ⟨b,0,none⟩) hb).trans h0)) (by have:=hW.size;simp at this;omega))).mono ?_;rintro e w1 ⟨rfl,hb1⟩;go_wp2;go_ret;exact⟨rfl, ((Below.refl _ _).alloc (XQ _) _).trans (hb1.mono (by simp))⟩
theorem I6 (w : World)(v : Value)(t : List SV)(ll : List (List fP))(slot : Int)(h : ig gZ w w.heap.size v t ll)(_hs : fO ll≤1073741824) :
  Calls Tryz.prog 131 #[v, .int .i64 slot] w fun e w'=>e= .returned (.bool (nC ll slot)) ∧Below w.heap.size w w':=by
 obtain⟨A,c,hv,_⟩ :=id h.outer;subst hv;obtain⟨en,hcap,hmx⟩ :=h.len';have kT : ll.length≤9223372036854775807:=by unfold maxLen at hmx;omega
 rw [en] at h⊢;clear en hcap hmx;go_enter Tryz.func131,Tryz.ntmps131;go_wp2_with fail;refine(vR _ _ t ll (h.av (XQ _) (by simp) _) 189 #[.pointer (some ⟨w.heap.size,0,none⟩)] (fun l=>l.any (oh slot)) (fun _ _ _ _=>by kernel_rfl) (fun A c l W hW hr=>GL A c l slot w.heap.size W hr ((hW.cell (p:= ⟨w.heap.size,0,none⟩) (by simp)).trans (by simp)) (by have:=hW.size;simp at this;omega))).mono ?_;rintro e w1 ⟨rfl,hb1⟩;go_wp2;go_ret;exact⟨rfl, ((Below.refl _ _).alloc (XQ _) _).trans (hb1.mono (by simp))⟩
def yG (h : Int) : Int:=if dO h=true then h%32 else -1
theorem iT (h : Int)(w : World) : Calls Tryz.prog 30 #[.int .i64 h] w fun e w'=>e= .returned (.int .i64 (yG h)) ∧w'=w:=by
 by_cases c1 : dO h=true
 ·have h0 : 0≤h:=by simp [dO] at c1;omega
  have HS:=Hid.aD (show yG h=h%32 from if_pos c1);go_enter Tryz.func30,Tryz.ntmps30;go_wp2_with (go_at_call 91;refine(jv _ _).mono ?_;rw [c1];rintro e w1 ⟨rfl,rfl⟩);go_ret;exact⟨cB (by rw [HS.out]),rfl⟩
 ·have HS:=Hid.aD (show yG h= -1 from if_neg c1)
  have c1' : dO h=false:=by simpa using c1
  go_enter Tryz.func30,Tryz.ntmps30;go_wp2_with (go_at_call 91;refine(jv _ _).mono ?_;rw [c1'];rintro e w1 ⟨rfl,rfl⟩);go_ret;exact⟨cB HS.out.symm,rfl⟩
theorem xg (w : World)(v : Value)(t : List SV)(ll : List (List fP))(slot : Int)(h : ig gZ w w.heap.size v t ll)(hs : fO ll≤536870912) :
  Calls Tryz.prog 191 #[v, .int .i64 slot] w fun e w'=>e= .returned (.bool (nC ll slot)) ∧Below w.heap.size w w':=by
 have HI:=Hid.aD (tQ (oh slot) ll);go_enter Tryz.func191,Tryz.ntmps191;go_wp2_with (first| (go_at_call 58;refine(vE _ _ t ll h hs).mono ?_;rintro e w1 ⟨v',rfl,ho,hf,hb0⟩;clear hf;generalize ll.flatten=L at ho HI;obtain⟨A,c,hv,_,q2,_⟩ :=ho.rd';subst hv));have kT : L.length≤9223372036854775807:=by unfold maxLen at q2;omega
 clear q2 h;go_loopw [6] (fun i wr=> ∃k : Nat,k≤L.length∧i= .int .i64 k∧Below w1.heap.size w1 wr∧ (L.take k).any (oh slot) =false) (fun i _=>L.length - (intOf i).toNat)
 case atStart=>exact⟨0,X3 _,rfl,Below.refl _ _,rfl⟩
 case round=>
  obtain⟨i,hi,rfl,hb,hno⟩ :=hrel;have HN:=Hid.aD hno;clear hno;by_cases hlt : i<L.length
  ·obtain⟨g,off,cap',he,hg,_,_,hc⟩ := (ho.rd'.below hb).at_ (XL hlt)
   injection he with he1 he2 gq;clear he2;subst he1 gq;have p0 : wr.cell? ⟨g,off+i * 2,none⟩ =some (.int .i64 L[i].Handle) :=hc 0 _ rfl;have p1 : wr.cell? ⟨g,off+i * 2+1,none⟩ =some (.int .i64 L[i].Epoch) :=hc 1 _ rfl;clear hc ho;by_cases c1 : dO L[i].Handle=true
   case neg=>
    have c1' : dO L[i].Handle=false:=by simpa using c1
    have HP:=Hid.aD (any_take_succ (oh slot) L i hlt HN.out (by simp [oh,c1']));clear c1;go_wp2_with (first| (go_at_call 91;refine(jv _ _).mono ?_;rw [c1'];rintro e w2 ⟨rfl,rfl⟩) | (go_at_call 30;refine(iT _ _).mono ?_;rw [hsl];rintro e w2 ⟨rfl,rfl⟩));go_roundw
    case rel=>exact⟨i+1,by omega,by go_num,hb,HP.out⟩
    case measure=>simp [intOf];omega
   have hsl : yG L[i].Handle=L[i].Handle%32:=if_pos c1;by_cases c2 : L[i].Handle%32=slot
   ·have c2' : (L[i].Handle%32 == slot) =true:=by simpa using c2
    have HP:=Hid.aD (show L.any (oh slot) =true from List.any_eq_true.2 ⟨L[i],X0 hlt,by simp [oh,c1,c2]⟩);clear c2;go_wp2_with (first| (go_at_call 91;refine(jv _ _).mono ?_;rw [c1];rintro e w2 ⟨rfl,rfl⟩) | (go_at_call 30;refine(iT _ _).mono ?_;rw [hsl];rintro e w2 ⟨rfl,rfl⟩));go_ret;exact⟨aU (by rw [nC, ←HI.out,HP.out]),hb0.trans (hb.mono hb0.size)⟩
   ·have c2' : (L[i].Handle%32 == slot) =false:=by simpa using c2
    have HP:=Hid.aD (any_take_succ (oh slot) L i hlt HN.out (by simp [oh,c2']));clear c2;go_wp2_with (first| (go_at_call 91;refine(jv _ _).mono ?_;rw [c1];rintro e w2 ⟨rfl,rfl⟩) | (go_at_call 30;refine(iT _ _).mono ?_;rw [hsl];rintro e w2 ⟨rfl,rfl⟩));go_roundw
    case rel=>exact⟨i+1,by omega,by go_num,hb,HP.out⟩
    case measure=>simp [intOf];omega
  ·go_wp2
   go_ret;obtain rfl : i=L.length:=by omega
   exact⟨aU (by rw [nC, ←HI.out];simpa using HN.out.symm),hb0.trans (hb.mono hb0.size)⟩
def eT (L : List fP)(i : Nat) : List Int:= (L.take i).map fun q=>q.Handle%32
def nY (L : List fP)(i : Nat)(r : fP) : Bool:=dO r.Handle&&decide (0≤r.Epoch) &&decide (r.Epoch≤100000) && !((eT L i).any fun z=>z == r.Handle%32)
def lZ (L : List fP)(k : Nat) : Bool:= (List.range k).all fun i=>match L[i]? with|some r=>nY L i r|none=>true
def gX (ll : List (List fP)) : Bool:= (ll.length == 3) &&decide (ll.flatten.length≤24) &&lZ ll.flatten ll.flatten.length
theorem Cz (L : List fP)(k : Nat)(hk : k<L.length)(h : lZ L k=true)(hr : nY L k L[k]=true) : lZ L (k+1) =true:=by
 unfold lZ at h⊢;rw [List.range_succ,List.all_append,h,List.all_cons,XL hk];simp [hr]
theorem qY (L : List fP)(k : Nat)(hk : k<L.length)(hr : nY L k L[k]=false) : lZ L L.length=false:=by
 unfold lZ;rw [List.all_eq_false];refine⟨k,List.mem_range.2 hk, ?_⟩;rw [XL hk];simp [hr]
theorem tK (L : List fP)(k : Nat)(hk : k<L.length) : eT L (k+1) =eT L k++ [L[k].Handle%32]:=by
 unfold eT;rw [XZ hk,List.map_append];rfl
theorem rY (L : List fP)(k : Nat) : (eT L k).length≤k:=by unfold eT;simp;omega
theorem Gj {h : Int}(c : dO h=true) : yG h=h%32∧0≤h%32∧h%32<24:=by
 refine⟨if_pos c,Int.emod_nonneg _ (by decide), ?_⟩;simp [dO] at c;exact c.2
theorem uI (w : World)(v : Value)(z : List Int)(x : Int)(h : dX FI w w.heap.size v z) :
  Calls Tryz.prog 122 #[v, .int .i64 x] w fun e w'=>e= .returned (.bool (z.any fun y=>y == x)) ∧Below w.heap.size w w':=by
 obtain⟨A,c,hv,q1,q2,_⟩ :=id h;have kT : z.length≤9223372036854775807:=by unfold maxLen at q2;omega
 subst hv;clear q1 q2;go_enter Tryz.func122,Tryz.ntmps122;go_wp2;go_loopw [5] (fun i wr=> ∃k : Nat,k≤z.length∧i= .int .i64 k∧Below w.heap.size w wr∧ (z.take k).any (fun y=>y == x) =false) (fun i _=>z.length - (intOf i).toNat)
 case atStart=>exact⟨0,X3 _,rfl,Below.refl _ _,rfl⟩
 case round=>
  obtain⟨i,hi,rfl,hb,hno⟩ :=hrel;have HN:=Hid.aD hno;clear hno;by_cases hlt : i<z.length
  ·obtain⟨g,off,cap',he,hg,_,_,hc⟩ := (h.below hb).at_ (XL hlt)
   injection he with he1 he2 gq;clear he2;subst he1 gq;have p0 : wr.cell? ⟨g,off+i,none⟩ =some (.int .i64 z[i]) :=by simpa [FI] using hc 0 _ rfl
   clear hc h;by_cases hz : z[i]=x
   ·have hz1 : (z[i] == x) =true:=by simpa using hz
    have HP:=Hid.aD (show (z.any fun y=>y == x) =true from List.any_eq_true.2 ⟨z[i],X0 hlt,hz1⟩);clear hz;go_wp2;go_ret;exact⟨aU HP.out.symm,hb⟩
   ·have hz1 : (z[i] == x) =false:=by simpa using hz
    have HP:=Hid.aD (any_take_succ (fun y=>y == x) z i hlt HN.out hz1);clear hz;go_wp2;go_roundw
    case rel=>exact⟨i+1,by omega,by go_num,hb,HP.out⟩
    case measure=>simp [intOf];omega
  ·go_wp2
   go_ret;obtain rfl : i=z.length:=by omega
   exact⟨aU (by simpa using HN.out.symm),hb⟩
theorem pX (w : World)(v : Value)(t : List SV)(ll : List (List fP))(h : ig gZ w w.heap.size v t ll)(hs : fO ll≤536870912) :
  Calls Tryz.prog 56 #[v] w fun e w'=>e= .returned (.bool (gX ll)) ∧Below w.heap.size w w':=by
 obtain⟨A,c,hv,_⟩ :=id h.outer;subst hv;obtain⟨en,hcap,hmx⟩ :=h.len';have kT : ll.length≤9223372036854775807:=by unfold maxLen at hmx;omega
 rw [en] at h⊢;clear en hcap hmx;have HI:=Hid.aD (show gX ll= ((ll.length == 3) &&decide (ll.flatten.length≤24) &&lZ ll.flatten ll.flatten.length) from rfl);by_cases n3 : ll.length=3
 case neg=>
  have hx : ((ll.length : Int) != 3) =true:=by simp;omega
  have HF:=Hid.aD (show gX ll=false by rw [HI.out];simp [n3]);clear n3;go_enter Tryz.func56,Tryz.ntmps56;go_wp2_with (go_at_call 58;refine(vE _ _ t ll h hs).mono ?_;rintro e w1 ⟨v',rfl,ho,hf,hb0⟩;clear hf;generalize hL : ll.flatten=L at ho HI;obtain⟨A,c,hv,_,q2,_⟩ :=ho.rd';subst hv);go_ret;exact⟨aU HF.out.symm,hb0⟩
 have hx : ((ll.length : Int) != 3) =false:=by simp;omega
 have N3:=Hid.aD n3;clear n3;by_cases n24 : ll.flatten.length≤24
 case neg=>
  have HF:=Hid.aD (show gX ll=false by rw [HI.out];simp only [n24,decide_false,Bool.and_false,Bool.false_and]);go_enter Tryz.func56,Tryz.ntmps56;go_wp2_with (go_at_call 58;refine(vE _ _ t ll h hs).mono ?_;rintro e w1 ⟨v',rfl,ho,hf,hb0⟩;clear hf;generalize hL : ll.flatten=L at ho HI n24;obtain⟨A,c,hv,_,q2,_⟩ :=ho.rd';subst hv);go_ret;exact⟨aU HF.out.symm,hb0⟩
 have HJ:=Hid.aD (show gX ll=lZ ll.flatten ll.flatten.length by rw [HI.out];simp only [N3.out,n24,decide_true,Bool.and_true,Bool.true_and,beq_self_eq_true]);clear HI;go_enter Tryz.func56,Tryz.ntmps56;go_wp2_with (go_at_call 58;refine(vE _ _ t ll h hs).mono ?_;rintro e w1 ⟨v',rfl,ho,hf,hb0⟩;clear hf;generalize hL : ll.flatten=L at ho HJ n24;obtain⟨A,c,hv,_,q2,_⟩ :=ho.rd';subst hv);have hw0 : Below w1.heap.size w1 (w1.alloc (.cells #[] 3)) := (Below.refl _ _).alloc (XQ _) _;have Sr:=aX.lit FI [] #[] rfl (by decide) w1 3;go_loopw [4,5,6] (fun o i _ wr=> ∃k : Nat,k≤L.length∧i= .int .i64 k∧aX FI 3 wr o (eT L k) ∧ (∀g∈bq o,w1.heap.size≤g) ∧Below w1.heap.size w1 wr∧Hid (lZ L k=true)) (fun _ i _ _=>L.length - (intOf i).toNat)
 case atStart=>exact⟨0,X3 _,rfl,Sr,by simp [bq,Value.ownBlock],hw0,rfl⟩
 case round=>
  obtain⟨i,hi,rfl,ow,hfo,hb,HR⟩ :=hrel;clear Sr hw0;by_cases hlt : i<L.length
  ·obtain⟨g,off,cap',he,hg,_,_,hc⟩ := (ho.rd'.below hb).at_ (XL hlt)
   injection he with he1 he2 gq;clear he2;subst he1 gq;have p0 : wr.cell? ⟨g,off+i * 2,none⟩ =some (.int .i64 L[i].Handle) :=hc 0 _ rfl;have p1 : wr.cell? ⟨g,off+i * 2+1,none⟩ =some (.int .i64 L[i].Epoch) :=hc 1 _ rfl;clear hc ho;by_cases c1 : dO L[i].Handle=true
   case neg=>
    have c1' : dO L[i].Handle=false:=by simpa using c1
    have hsl : yG L[i].Handle= -1:=if_neg c1;have HN:=Hid.aD (show gX ll=false by rw [HJ.out];exact qY L i hlt (by simp [nY,c1']));clear c1;go_wp2_with (go_at_call 30;refine(iT _ _).mono ?_;rw [hsl];rintro e w2 ⟨rfl,rfl⟩);go_ret;exact⟨aU HN.out.symm,hb0.trans (hb.mono hb0.size)⟩
   obtain⟨hsl,hs0,hs1⟩ :=Gj c1;by_cases c2 : 0≤L[i].Epoch
   case neg=>
    have HN:=Hid.aD (show gX ll=false by rw [HJ.out];exact qY L i hlt (by simp [nY,c2]));go_wp2_with (first| (go_at_call 30;refine(iT _ _).mono ?_;rw [hsl];rintro e w2 ⟨rfl,rfl⟩) |go_in);go_ret;exact⟨aU HN.out.symm,hb0.trans (hb.mono hb0.size)⟩
   by_cases c3 : L[i].Epoch≤100000
   case neg=>
    have HN:=Hid.aD (show gX ll=false by rw [HJ.out];exact qY L i hlt (by simp [nY,c3]));go_wp2_with (first| (go_at_call 30;refine(iT _ _).mono ?_;rw [hsl];rintro e w2 ⟨rfl,rfl⟩) |go_in);go_ret;exact⟨aU HN.out.symm,hb0.trans (hb.mono hb0.size)⟩
   by_cases c4 : ((eT L i).any fun z=>z == L[i].Handle%32) =true
   ·have HN:=Hid.aD (show gX ll=false by rw [HJ.out];exact qY L i hlt (by simp only [nY,c4];simp))
    go_wp2_with (first| (go_at_call 30;refine(iT _ _).mono ?_;rw [hsl];rintro e w2 ⟨rfl,rfl⟩) | (go_at_call 122;refine(uI _ _ (eT L i) (L[i].Handle%32) (ow.rd')).mono ?_;rw [c4];rintro e w2 ⟨rfl,hb2⟩) |go_in);go_ret;exact⟨aU HN.out.symm,hb0.trans ((hb.trans (hb2.mono hb.size)).mono hb0.size)⟩
   have D9 : ((eT L i).any fun z=>z == L[i].Handle%32) =false:= (XM _).mp c4;have HN:=Hid.aD (Cz L i hlt HR.out (by simp only [nY,c1,D9];simp [c2,c3]));have HS:=Hid.aD (tK L i hlt);clear c4;go_wp2_with (first| (go_at_call 30;refine(iT _ _).mono ?_;rw [hsl];rintro e w2 ⟨rfl,rfl⟩) | (go_at_call 122;refine(uI _ _ (eT L i) (L[i].Handle%32) (ow.rd')).mono ?_;rw [D9];rintro e w2 ⟨rfl,hb2⟩;have hbb:=hb.trans (hb2.mono hb.size);have Uz:=ow.keep (fun g hg=>hb2.block g (dQ ow g (aS.2 hg)))) | (at_builtin;refine eP Tryz.stInt rfl _ _ rfl (v:=u4) (y:= .slice (some ⟨w2.heap.size,0,none⟩) 1 1) (l:=eT L i) (m:= [L[i].Handle%32]) rfl rfl (Uz.av _) (aX.lit FI [L[i].Handle%32] #[.int .i64 (L[i].Handle%32)] rfl (by simp [maxLen]) w2 3).rd' (by have:=rY L i;simp;omega) ?_;intro v' w3 ho' hg' hat') |go_in);have hb3 : Below w1.heap.size w1 w3:= (hbb.alloc hbb.size _).grown hg' (by simp;exact Nat.le_succ_of_le hbb.size) (fun k hk=>hfo k (aS.2 hk));go_roundw
   case rel=>exact⟨i+1,by omega,by go_num,by rw [HS.out];exact ho',fun b hb'=>by rcases iY hat' b hb' with h|h; (exact hfo b h); (have:=hbb.size;simp at h;omega),hb3,HN.out⟩
   case measure=>simp [intOf];omega
  ·go_wp2
   go_ret;obtain rfl : i=L.length:=by omega
   exact⟨aU (by rw [HJ.out];exact HR.out.symm),hb0.trans (hb.mono hb0.size)⟩
def FB : FT Bool:= {n:=1,enc:=fun b=> [.bool b],dflt:=false,len:=fun _=>rfl,one:=by intro x u hu;simp at hu;subst hu;rfl,pos:=by decide,small:=by decide}
def uf (L : List fP)(p : Nat) : List Bool:= (List.range 24).map fun (s : Nat) => (eT L p).any fun z=>z == (s : Int)
theorem Bb (L : List fP)(p : Nat) : (uf L p).length=24:=by simp [uf]
theorem Mi (L : List fP) : uf L 0=List.replicate 24 false:=rfl
theorem Bc (L : List fP)(p s : Nat)(hs : s<24) : (uf L p)[s]? =some ((eT L p).any fun z=>z == (s : Int)) :=by simp [uf,hs]
theorem Nw (L : List fP)(p s : Nat)(hp : p<L.length)(hm : L[p].Handle%32= (s : Int)) : (uf L p).set s true=uf L (p+1) :=by
 apply List.ext_getElem?;intro k;by_cases hk : k<24
 ·rw [List.getElem?_set,Bc _ _ _ hk,Bc _ _ _ hk,tK L p hp,List.any_append,Bb]
  by_cases hks : s=k
  ·subst hks
   simp [hm,hk]
  ·have : ((s : Int) == (k : Int)) =false:=by simp;omega
   simp only [if_neg hks,List.any_cons,List.any_nil,hm,this,Bool.or_false]
 ·rw [List.getElem?_eq_none (by simp [Bb];omega),List.getElem?_eq_none (by simp [Bb];omega)]
theorem Fh {α : Type}(ll : List (List α))(i j : Nat)(hi : i<ll.length)(hj : j<ll[i].length) : ll.flatten[ku (ll.take i) +j]? =some ll[i][j]:=by
 have e : ll.flatten= (ll.take i).flatten++ (ll[i]++ (ll.drop (i+1)).flatten) :=by
  rw [←List.flatten_cons, ←List.flatten_append, ←List.drop_eq_getElem_cons hi,List.take_append_drop]
 rw [e,qh,List.getElem?_append_right (by omega),Nat.add_sub_cancel_left,List.getElem?_append_left hj,XL hj]
theorem Dy {P : Program}{ops : Array Oper}{rest : List Oper}{o : Oper}{a : Act}{w : World}{Q : Exit→Act→World→Prop}(hgd : o.guard=none)(ty : TypeId)(x y : Operand)(ho : o.op= .store ty x y)(c : Array Value)
  (hx : a.eval x= .pointer (some ⟨w.heap.size,0,none⟩)) (hy : a.eval y= .agg c) (hi : (P.info? ty).map (·.size) =some c.size) (h1 : c.all (·.oneCell') =true)
  (h : wpList P ops Q rest (a.put o.dst undef) (w.alloc (.cells c ty))) : wpList P ops Q (o::rest) a (w.alloc (.cells c ty)) :=by
 refine wpList_store_row hgd ty x y ho w.heap.size c hx hy ty c (heap_alloc_last w _) hi rfl h1 ?_;rw [World.setRow_alloc_new];exact h
theorem vg : Tryz.prog.built 167 []=some #[.bool false, .bool false, .bool false, .bool false, .bool false, .bool false, .bool false, .bool false, .bool false, .bool false, .bool false, .bool false, .bool false, .bool false, .bool false, .bool false, .bool false, .bool false, .bool false, .bool false, .bool false, .bool false, .bool false, .bool false]:=by kernel_rfl
theorem uK {ops : Array Oper}{rest : List Oper}{o : Oper}{a : Act}{w : World}{Q : Exit→Act→World→Prop}(hg : o.guard=none)(ho : o.op= .build 167 #[])
  (h : wpList Tryz.prog ops Q rest (a.put o.dst (.agg #[.bool false, .bool false, .bool false, .bool false, .bool false, .bool false, .bool false, .bool false, .bool false, .bool false, .bool false, .bool false, .bool false, .bool false, .bool false, .bool false, .bool false, .bool false, .bool false, .bool false, .bool false, .bool false, .bool false, .bool false])) w) : wpList Tryz.prog ops Q (o::rest) a w:=by
 exact wpList_build hg 167 #[] ho (by simp [vg]) (by simpa [vg] using h)
theorem AB (w : World)(L : List fP) : aX FB 167 (w.alloc (.cells #[.bool false, .bool false, .bool false, .bool false, .bool false, .bool false, .bool false, .bool false, .bool false, .bool false, .bool false, .bool false, .bool false, .bool false, .bool false, .bool false, .bool false, .bool false, .bool false, .bool false, .bool false, .bool false, .bool false, .bool false] 167)) (.slice (some ⟨w.heap.size,0,none⟩) 24 24) (uf L 0) :=by
 rw [Mi];exact aX.lit FB (List.replicate 24 false) #[.bool false, .bool false, .bool false, .bool false, .bool false, .bool false, .bool false, .bool false, .bool false, .bool false, .bool false, .bool false, .bool false, .bool false, .bool false, .bool false, .bool false, .bool false, .bool false, .bool false, .bool false, .bool false, .bool false, .bool false] rfl (by simp [maxLen]) w 167
theorem I7 (w : World)(v : Value)(t : List SV)(ll : List (List fP))(h : ig gZ w w.heap.size v t ll)(hs : fO ll≤536870912) :
  Calls Tryz.prog 125 #[v] w fun e w'=>e= .returned (.bool (gX ll)) ∧Below w.heap.size w w':=by
 obtain⟨A,c,hv,_⟩ :=id h.outer;subst hv;obtain⟨en,hcap,hmx⟩ :=h.len';have kT : ll.length≤9223372036854775807:=by unfold maxLen at hmx;omega
 rw [en] at h⊢;clear en hcap hmx;have HI:=Hid.aD (show gX ll= ((ll.length == 3) &&decide (ll.flatten.length≤24) &&lZ ll.flatten ll.flatten.length) from rfl);by_cases n3 : ll.length=3
 case neg=>
  have hx : ((ll.length : Int) != 3) =true:=by simp;omega
  have HF:=Hid.aD (show gX ll=false by rw [HI.out];simp [n3]);clear n3;go_enter Tryz.func125,Tryz.ntmps125;go_wp2;go_ret;exact⟨aU HF.out.symm,Below.refl _ _⟩
 have hx : ((ll.length : Int) != 3) =false:=by simp;omega
 have N3:=Hid.aD n3;have HJ:=Hid.aD (fun hr : lZ ll.flatten ll.flatten.length=false=> (show gX ll=false by rw [HI.out,hr];simp));have HK:=Hid.aD (fun hr : lZ ll.flatten ll.flatten.length=true=> (show gX ll=decide (ku ll≤24) by rw [HI.out,hr,qh];simp [n3]));have HT0:=Hid.aD (qh ll);have KX:=Hid.aD (Fh ll);have KY:=AB w ll.flatten;generalize ll.flatten=L at HJ HK HT0 KX KY;have hw0 : Below w.heap.size w (w.alloc (.cells #[.bool false, .bool false, .bool false, .bool false, .bool false, .bool false, .bool false, .bool false, .bool false, .bool false, .bool false, .bool false, .bool false, .bool false, .bool false, .bool false, .bool false, .bool false, .bool false, .bool false, .bool false, .bool false, .bool false, .bool false] 167)) := (Below.refl _ _).alloc (XQ _) _;clear n3;go_enter Tryz.func125,Tryz.ntmps125;go_wp2_with (first| (refine uK rfl rfl ?_) | (refine Dy rfl 167 (.tmp 3) (.tmp 11) rfl _ rfl rfl (by kernel_rfl) (by simp [Value.oneCell']) ?_));go_loopw [5,7,14,21] (fun _ _ i _ wr=> ∃k : Nat,k≤ll.length∧i= .int .i64 k∧Hid (lZ L (ku (ll.take k)) =true) ∧Below w.heap.size w wr∧aX FB 167 wr (.slice (some ⟨w.heap.size,0,none⟩) 24 24) (uf L (ku (ll.take k)))) (fun _ _ i _ _=>ll.length - (intOf i).toNat)
 case atStart=>exact⟨0,X3 _,rfl,rfl,hw0,KY⟩
 case round=>
  obtain⟨i,hi,rfl,HR,hb,om⟩ :=hrel;clear KY hw0;by_cases hlt : i<ll.length
  ·obtain⟨g,o,A',c',rfl,hg,p0,r1⟩ :=h.row hb hlt
   have HP:=Hid.aD (nW ll i hlt);have FN:=Hid.aD (fun j hj=>KX.out i j hlt hj);have hr0 : ll[i].length≤9223372036854775807:=by
    obtain⟨_,_,_,u1,u2,_⟩ :=id r1;unfold maxLen at u2;omega
   have htot : ku (ll.take i) +ll[i].length≤L.length:=by
    have a:=nE ll (i+1);have b:=HT0.out;have d:=HP.out;omega
   generalize ll[i]=x at p0 r1 HP FN hr0 htot;generalize ku (ll.take i) =p at HR om HP FN htot;clear h;go_wp2;obtain⟨wo,rfl⟩ : ∃wo : World,wo=wr:= ⟨_,rfl⟩;go_loopw [7,21] (fun _ j wq=> ∃k : Nat,k≤x.length∧j= .int .i64 k∧Hid (lZ L (p+k) =true) ∧Below w.heap.size w wq∧aX FB 167 wq (.slice (some ⟨w.heap.size,0,none⟩) 24 24) (uf L (p+k))) (fun _ j _=>x.length - (intOf j).toNat)
   case atStart=>exact⟨0,X3 _,rfl,HR,hb.alloc hb.size _,om.av _⟩
   case round=>
    obtain⟨j,hj,rfl,FQ,hbq,uj⟩ :=hrel;clear om hb p0;by_cases hlj : j<x.length
    ·obtain⟨g1,o1,E5,he1,hg1,_,_,hc1⟩ := (r1.below hbq).at_ (XL hlj)
     injection he1 with e11 e12 e13;clear e12;subst e11 e13;have p0 : wr.cell? ⟨g1,o1+j * 2,none⟩ =some (.int .i64 x[j].Handle) :=hc1 0 _ rfl;have p1 : wr.cell? ⟨g1,o1+j * 2+1,none⟩ =some (.int .i64 x[j].Epoch) :=hc1 1 _ rfl;clear hc1;have tV : p+j<L.length:=by omega
     have FR : L[p+j]=x[j]:=by
      have a:=FN.out j hlj;rw [XL tV] at a;exact Option.some.inj a
     have QM:=Hid.aD (Cz L (p+j) tV FQ.out);have Lh:=Hid.aD (fun hr=>HJ.out (qY L (p+j) tV hr));have yD:=Hid.aD (fun s hm=>Nw L (p+j) s tV hm);rw [FR] at QM Lh yD;generalize x[j]=r at p0 p1 QM Lh yD;clear FR tV r1;by_cases c1 : dO r.Handle=true
     case neg=>
      have c1' : dO r.Handle=false:=by simpa using c1
      have HN:=Hid.aD (Lh.out (by simp [nY,c1']));clear c1;go_wp2_with (first| (go_at_call 114;refine(kK _ _).mono ?_;rw [c1'];rintro e w2 ⟨rfl,rfl⟩) |go_in);go_ret;exact⟨aU HN.out.symm,by first|exact hbq|exact hbq.alloc hbq.size _⟩
     obtain⟨hsl,hs0,hs1⟩ :=Gj c1;have h0 : 0≤r.Handle:=by simp [dO] at c1;omega
     obtain⟨s,hs2⟩ :=XP hs0;have hs3 : s<24:=by omega
     have Ej : r.Handle.tmod 32= (s : Int) :=by rw [Int.tmod_eq_emod_of_nonneg h0];exact hs2
     by_cases c2 : 0≤r.Epoch
     case neg=>
      have HN:=Hid.aD (Lh.out (by simp [nY,c2]));clear hsl hs0 hs1 h0 hs2;go_wp2_with (first| (go_at_call 114;refine(kK _ _).mono ?_;rw [c1];rintro e w2 ⟨rfl,rfl⟩) |go_in);go_ret;exact⟨aU HN.out.symm,by first|exact hbq|exact hbq.alloc hbq.size _⟩
     by_cases c3 : r.Epoch≤100000
     case neg=>
      have HN:=Hid.aD (Lh.out (by simp [nY,c3]));clear hsl hs0 hs1 h0 hs2;go_wp2_with (first| (go_at_call 114;refine(kK _ _).mono ?_;rw [c1];rintro e w2 ⟨rfl,rfl⟩) |go_in);go_ret;exact⟨aU HN.out.symm,by first|exact hbq|exact hbq.alloc hbq.size _⟩
     have hgm:=Bc L (p+j) s hs3;have cm : wr.cell? ⟨w.heap.size,s,none⟩ =some (.bool ((eT L (p+j)).any fun z=>z == (s : Int))) :=by simpa [FB] using uj.cell_ (k:=s) (j:=0) hgm (by decide)
     have hfz:=uj.dM s;have hzz : w.heap.size<wr.heap.size:= (World.ownsRow.lt uj _ rfl).2;by_cases c4 : ((eT L (p+j)).any fun z=>z == (s : Int)) =true
     ·have HN:=Hid.aD (Lh.out (by simp only [nY,hs2,c4];simp))
      rw [c4] at cm;clear hsl hs0 hs1 h0 hs2 c4 hgm uj;go_wp2_with (first| (go_at_call 114;refine(kK _ _).mono ?_;rw [c1];rintro e w2 ⟨rfl,rfl⟩) |go_in);go_ret;exact⟨aU HN.out.symm,by first|exact hbq|exact hbq.alloc hbq.size _⟩
     have D9 : ((eT L (p+j)).any fun z=>z == (s : Int)) =false:= (XM _).mp c4;have HN:=Hid.aD (QM.out (by simp only [nY,hs2,c1,D9];simp [c2,c3]));have HM:=Hid.aD (yD.out s hs2);rw [D9] at cm;clear hsl hs0 hs1 h0 hs2 c4;go_wp2_with (first| (go_at_call 114;refine(kK _ _).mono ?_;rw [c1];rintro e w2 ⟨rfl,rfl⟩) |go_in);go_roundw
     case rel=>
      have hset:=uj.dG (k:=s) (j:=0) (y:=true) (u:= .bool true) hgm (by decide) rfl;rw [HM.out] at hset;have D7 : aX FB 167 (wr.setCell ⟨w.heap.size,s,none⟩ (.bool true)) (.slice (some ⟨w.heap.size,0,none⟩) 24 24) (uf L (p+j+1)) :=by simpa [FB] using hset
      exact⟨j+1,by omega,by go_num,HN.out, (Below.setCell hbq (XQ _) _).alloc (by simp;exact hbq.size) _,D7.av _⟩
     case measure=>simp [intOf];omega
    ·go_wp2
     go_roundw
     case rel=>
      obtain rfl : j=x.length:=by omega
      exact⟨i+1,by omega,by go_num,by rw [HP.out];exact FQ,hbq,by rw [HP.out];exact uj⟩
     case measure=>simp [intOf];omega
  ·obtain rfl : i=ll.length:=by omega
   rw [List.take_length] at HR om;have hfin:=HK.out (by rw [←HT0.out];exact HR.out);have HFin:=Hid.aD hfin;have Uy : ku ll≤536870912:=XR (Nat.le_add_left _ _) hs;clear hfin;go_wp2_with (go_at_call 183;refine(Fx _ _ t ll (kY h hb) (by omega)).mono ?_;rintro e w2 ⟨rfl,hb2⟩);go_ret;exact⟨aU (by rw [HFin.out,decide_eq_decide];omega),hb.trans (hb2.mono hb.size)⟩
end Go.Proofs.YtkmggglljkmjoaaGreat.Lim
namespace Go.Proofs.YtkmggglljkmjoaaGreat.Clk
open Go.RowKit
instance : DecidableEq Pin:=fun a b=>decidable_of_iff (a.On=b.On∧a.Epoch=b.Epoch∧a.Marked=b.Marked∧a.Seen=b.Seen) (by cases a;cases b;simp)
def lV : Pin:= ⟨false,0,false,0⟩
def rU (ep : Int)(p : Pin) : Bool:=bG 0 ep p.Epoch&&bG 0 2 p.Seen&& (p.On||decide (p=lV))
def iU (x : Clock) : Bool:=bG 0 100000 x.Epoch&& (x.aK.length == 3) &&x.aK.all (rU x.Epoch)
theorem uV {x : Clock}(h : iU x=true) : x.aK.length=3:=by
 simp [iU] at h;exact h.1.2
theorem Bd (x y : Pin)(w : World) : (binOp .neq 120 (.agg #[.bool x.On, .int .i64 x.Epoch, .bool x.Marked, .int .i64 x.Seen]) (.agg #[.bool y.On, .int .i64 y.Epoch, .bool y.Marked, .int .i64 y.Seen])).run Tryz.prog w= .ok (.bool (! decide (x=y))) w:=by
 have hu:=Tryz.underlying120;obtain⟨x0,x1,x2,x3⟩ :=x;obtain⟨y0,y1,y2,y3⟩ :=y;by_cases h0 : x0=y0
 ·by_cases h1 : x1=y1
  ·by_cases h2 : x2=y2
   ·by_cases h3 : x3=y3
    ·go_simp
    ·go_simp
   ·go_simp
  ·go_simp
 ·go_simp
theorem GN (p : Pin)(ep : Int)(b : Nat)(w : World)(h0 : w.cell? ⟨b,0,none⟩ =some (.int .i64 ep))(hb : b<w.heap.size) :
  Calls Tryz.prog 182 #[.agg #[.bool p.On, .int .i64 p.Epoch, .bool p.Marked, .int .i64 p.Seen], .pointer (some ⟨b,0,none⟩)] w fun e w'=>e= .returned (.bool (!rU ep p)) ∧Below w.heap.size w w':=by
 obtain⟨on,e1,mk,sn⟩ :=p;have HP:=Hid.aD (show rU ep ⟨on,e1,mk,sn⟩ = (bG 0 ep e1&&bG 0 2 sn&& (on||decide ((⟨on,e1,mk,sn⟩ : Pin) =lV))) from rfl);by_cases c1 : bG 0 ep e1=true
 case neg=>
  have c1' : bG 0 ep e1=false:= (XM _).mp c1;clear c1;go_enter Tryz.func182,Tryz.ntmps182;go_wp2_with (go_at_call 154;refine(kQ _ _ _ _).mono ?_;rintro e w1 ⟨rfl,rfl⟩);go_ret;exact⟨aU (by rw [HP.out,c1'];rfl),by repeat (first|exact Below.refl _ _|refine Below.alloc ?_ (by simp<;>omega) _|refine bA ?_ (by simp<;>omega) _ _|refine Below.drew ?_)⟩
 by_cases c2 : bG 0 2 sn=true
 case neg=>
  have c2' : bG 0 2 sn=false:= (XM _).mp c2;clear c2;go_enter Tryz.func182,Tryz.ntmps182;go_wp2_with (go_at_call 154;refine(kQ _ _ _ _).mono ?_;rintro e w1 ⟨rfl,rfl⟩);go_ret;exact⟨aU (by rw [HP.out,c2'];simp),by repeat (first|exact Below.refl _ _|refine Below.alloc ?_ (by simp<;>omega) _|refine bA ?_ (by simp<;>omega) _ _|refine Below.drew ?_)⟩
 cases on with
 |true=>
  go_enter Tryz.func182,Tryz.ntmps182;go_wp2_with (go_at_call 154;refine(kQ _ _ _ _).mono ?_;rintro e w1 ⟨rfl,rfl⟩);go_ret;exact⟨aU (by rw [HP.out,c1,c2];rfl),by repeat (first|exact Below.refl _ _|refine Below.alloc ?_ (by simp<;>omega) _|refine bA ?_ (by simp<;>omega) _ _|refine Below.drew ?_)⟩
 |false=>
  have hq:=Bd ⟨false,e1,mk,sn⟩ lV;generalize decide ((⟨false,e1,mk,sn⟩ : Pin) =lV) =z at hq HP;simp only [lV] at hq;go_enter Tryz.func182,Tryz.ntmps182;go_wp2_with (go_at_call 154;refine(kQ _ _ _ _).mono ?_;rintro e w1 ⟨rfl,rfl⟩);go_ret;exact⟨aU (by rw [HP.out,c1,c2];rfl),by repeat (first|exact Below.refl _ _|refine Below.alloc ?_ (by simp<;>omega) _|refine bA ?_ (by simp<;>omega) _ _|refine Below.drew ?_)⟩
theorem Tryz.stPin : ST Tryz.prog iP 32 120:= ⟨Tryz.underlying32, .agg #[.bool false, .int .i64 0, .bool false, .int .i64 0],32,by kernel_rfl,rfl,by decide⟩
theorem lu (w : World)(o : Obj)(g i : Nat)(hg : g<w.heap.size) : (w.alloc o).cell? ⟨g,i,none⟩ =w.cell? ⟨g,i,none⟩ :=by
 simp [World.cell?,Below.heap_alloc w o g hg]
theorem jm (w : World)(o : Obj)(g i : Nat)(hg : g<w.heap.size) : (w.alloc o).frozen? ⟨g,i,none⟩ =w.frozen? ⟨g,i,none⟩ :=by
 simp [World.frozen?,Below.heap_alloc w o g hg]
theorem aZ {w w' : World}{g i : Nat}{u : Value}(hb : Below w.heap.size w w')(hg : g<w.heap.size)(h : w.cell? ⟨g,i,none⟩ =some u) : w'.cell? ⟨g,i,none⟩ =some u:= (hb.cell (p:= ⟨g,i,none⟩) hg).trans h
def idxOf {α : Type}(p : α→Bool)(l : List α) : Int:=match l.findIdx? p with|some i=>i|none=> -1
theorem idxOf_hit {α : Type}(p : α→Bool)(l : List α)(i : Nat)(hi : i<l.length)(h : (l.take i).any p=false)(hp : p l[i]=true) : idxOf p l=i:=by
 have hf : l.findIdx? p=some i:=by
  rw [List.findIdx?_eq_some_iff_getElem];refine⟨hi,hp,fun j hj=> ?_⟩;rw [List.any_eq_false] at h;exact h l[j] (List.mem_take_iff_getElem.2 ⟨j,by omega,rfl⟩)
 unfold idxOf;rw [hf]
theorem mF {α : Type}(p : α→Bool)(l : List α)(h : l.any p=false) : idxOf p l= -1:=by
 have hf : l.findIdx? p=none:=by
  rw [List.findIdx?_eq_none_iff];intro x hx;rw [List.any_eq_false] at h;simpa using h x hx
 unfold idxOf;rw [hf]
theorem any_take_succ {α : Type}(p : α→Bool)(l : List α)(i : Nat)(hi : i<l.length)(h : (l.take i).any p=false)(hp : p l[i]=false) : (l.take (i+1)).any p=false:=by
 rw [XZ hi,List.any_append,h];simp [hp]
theorem og {α : Type}(p : α→Bool)(l : List α) : decide (0≤idxOf p l) =l.any p:=by
 unfold idxOf;cases h : l.findIdx? p with
 |none=>
  rw [List.findIdx?_eq_none_iff] at h;have : l.any p=false:=by
   rw [List.any_eq_false];intro x hx;simp [h x hx]
  rw [this];rfl
 |some i=>
  rw [List.findIdx?_eq_some_iff_getElem] at h;obtain⟨hi,hp,_⟩ :=h;have : l.any p=true:=List.any_eq_true.2 ⟨l[i],X0 hi,hp⟩;rw [this];simp
theorem El (w : World)(v : Value)(l : List Pin)(h : dX iP w w.heap.size v l)(fid : FuncId)(cap : Array Value)(p : Pin→Bool)(hent : ∀ (x : Pin) (W : World), (callFunc fid (#[.agg #[.bool x.On, .int .i64 x.Epoch, .bool x.Marked, .int .i64 x.Seen]]++cap)).run Tryz.prog W= .ok (.enter fid (#[.agg #[.bool x.On, .int .i64 x.Epoch, .bool x.Marked, .int .i64 x.Seen]]++cap)) W)
  (hf : ∀ (x : Pin) (W : World),x∈l→Below w.heap.size w W→Calls Tryz.prog fid (#[.agg #[.bool x.On, .int .i64 x.Epoch, .bool x.Marked, .int .i64 x.Seen]]++cap) W fun e W'=>e= .returned (.bool (p x)) ∧Below W.heap.size W W') :
  Calls Tryz.prog 219 #[v, .func (.func fid) #[] cap] w fun e w'=>e= .returned (.int .i64 (idxOf p l)) ∧Below w.heap.size w w':=by
 obtain⟨A,c,hv,q1,q2,_⟩ :=id h;have kT : l.length≤9223372036854775807:=by unfold maxLen at q2;omega
 subst hv;have HF:=Hid.aD hf;clear hf q1 q2;go_enter Tryz.func219,Tryz.ntmps219;go_wp2;go_loopw [5,8] (fun _ i wr=> ∃i' : Nat,i'≤l.length∧i= .int .i64 i'∧Below w.heap.size w wr∧ (l.take i').any p=false) (fun _ i _=>l.length - (intOf i).toNat)
 case atStart=>exact⟨0,X3 _,rfl,Below.refl _ _,rfl⟩
 case round=>
  obtain⟨i,hi,rfl,hb,hno⟩ :=hrel;have HN:=Hid.aD hno;clear hno;by_cases hlt : i<l.length
  ·obtain⟨g,off,cap',he,hg,_,_,hc⟩ := (h.below hb).at_ (XL hlt)
   injection he with he1 he2 gq;clear he2;subst he1 gq;have p0 : wr.cell? ⟨g,off+i * 4,none⟩ =some (.bool l[i].On) :=hc 0 _ rfl;have p1 : wr.cell? ⟨g,off+i * 4+1,none⟩ =some (.int .i64 l[i].Epoch) :=hc 1 _ rfl;have p2 : wr.cell? ⟨g,off+i * 4+2,none⟩ =some (.bool l[i].Marked) :=hc 2 _ rfl;have p3 : wr.cell? ⟨g,off+i * 4+3,none⟩ =some (.int .i64 l[i].Seen) :=hc 3 _ rfl;clear hc h;go_wp2_with fail;refine(HF.out l[i] wr (X0 hlt) hb).mono ?_;rintro e w1 ⟨rfl,hb1⟩;have hb2:=hb.trans (hb1.mono hb.size);by_cases hp : p l[i]=true
   ·have HP:=Hid.aD (idxOf_hit p l i hlt HN.out hp)
    rw [hp];clear hp;go_wp2;go_ret;exact⟨cB HP.out.symm,hb2⟩
   ·have hp' : p l[i]=false:=by simpa using hp
    have HP:=Hid.aD (any_take_succ p l i hlt HN.out hp');rw [hp'];clear hp hp';go_wp2;go_roundw
    case rel=>exact⟨i+1,by omega,by go_num,hb2,HP.out⟩
    case measure=>simp [intOf];omega
  ·go_wp2
   go_ret;obtain rfl : i=l.length:=by omega
   exact⟨cB (mF p l (by simpa using HN.out)).symm,hb⟩
theorem Bf (w : World)(v : Value)(l : List Pin)(h : dX iP w w.heap.size v l)(fid : FuncId)(cap : Array Value)(p : Pin→Bool)(hent : ∀ (x : Pin) (W : World), (callFunc fid (#[.agg #[.bool x.On, .int .i64 x.Epoch, .bool x.Marked, .int .i64 x.Seen]]++cap)).run Tryz.prog W= .ok (.enter fid (#[.agg #[.bool x.On, .int .i64 x.Epoch, .bool x.Marked, .int .i64 x.Seen]]++cap)) W)
  (hf : ∀ (x : Pin) (W : World),x∈l→Below w.heap.size w W→Calls Tryz.prog fid (#[.agg #[.bool x.On, .int .i64 x.Epoch, .bool x.Marked, .int .i64 x.Seen]]++cap) W fun e W'=>e= .returned (.bool (p x)) ∧Below W.heap.size W W') :
  Calls Tryz.prog 181 #[v, .func (.func fid) #[] cap] w fun e w'=>e= .returned (.bool (l.any p)) ∧Below w.heap.size w w':=by
 have HF:=Hid.aD hf;clear hf;go_enter Tryz.func181,Tryz.ntmps181;go_wp2_with fail;refine(El w v l h fid cap p hent HF.out).mono ?_;rintro e w1 ⟨rfl,hb1⟩;have HP:=Hid.aD (og p l);go_wp2;go_ret;exact⟨aU HP.out,hb1⟩
theorem Clock.eta (ep : Int)(l : List Pin) : iU ⟨ep,l⟩ = (bG 0 100000 ep&& (l.length == 3) &&l.all (rU ep)) :=rfl
theorem rW {α : Type}(p : α→Bool)(l : List α) : l.all p= !(l.any fun x=> !p x) :=by
 induction l with
 |nil=>rfl
 |cons x l ih=>simp [ih]
theorem I8 (w : World)(H : fV)(x : Clock)(h : nN w w.heap.size H x) :
  Calls Tryz.prog 124 #[.agg #[.int .i64 x.Epoch, .slice H.aK.a H.aK.l H.aK.c]] w fun e w'=>e= .returned (.bool (iU x)) ∧Below w.heap.size w w':=by
 obtain⟨⟨A,n,c⟩⟩ :=H;obtain⟨ep,l⟩ :=x;have hr : dX iP w w.heap.size (.slice A n c) l:=h.aK;obtain⟨_,_,hv,q1,q2,qx⟩ :=id hr;simp only [Ya] at hv;obtain⟨rfl,rfl,rfl⟩ :=hv;have kT : l.length≤9223372036854775807:=by unfold maxLen at q2;omega
 clear q1 q2 qx h;have HE:=Hid.aD (Clock.eta ep l);show Calls Tryz.prog 124 #[.agg #[.int .i64 ep, .slice A l.length c]] _ _;by_cases c1 : bG 0 100000 ep=true
 case neg=>
  have c1' : bG 0 100000 ep=false:= (XM _).mp c1;clear c1;go_enter Tryz.func124,Tryz.ntmps124;go_wp2_with (go_at_call 154;refine(kQ _ _ _ _).mono ?_;rintro e w1 ⟨rfl,rfl⟩);go_ret;exact⟨aU (by rw [HE.out,c1'];rfl),by repeat (first|exact Below.refl _ _|refine Below.alloc ?_ (by simp<;>omega) _|refine bA ?_ (by simp<;>omega) _ _|refine Below.drew ?_)⟩
 by_cases c2 : l.length=3
 case neg=>
  have c2' : ((l.length : Int) == 3) =false:=by simp;omega
  have HF:=Hid.aD (show (l.length == 3) =false by simpa using c2);clear c2;go_enter Tryz.func124,Tryz.ntmps124;go_wp2_with (go_at_call 154;refine(kQ _ _ _ _).mono ?_;rintro e w1 ⟨rfl,rfl⟩);go_ret;exact⟨aU (by rw [HE.out,HF.out];simp),by repeat (first|exact Below.refl _ _|refine Below.alloc ?_ (by simp<;>omega) _|refine bA ?_ (by simp<;>omega) _ _|refine Below.drew ?_)⟩
 have c2' : ((l.length : Int) == 3) =true:=by simp;omega
 have HF:=Hid.aD (show (l.length == 3) =true by simpa using c2);clear c2;have HA:=Hid.aD (rW (rU ep) l);go_enter Tryz.func124,Tryz.ntmps124;go_wp2_with (go_at_call 154;refine(kQ _ _ _ _).mono ?_;rintro e w1 ⟨rfl,rfl⟩);refine(Bf _ _ l (bY hr cO) 182 #[.pointer (some ⟨w.heap.size,0,none⟩)] (fun p=> !rU ep p) (fun _ _=>by kernel_rfl) (fun x W _ hW=>GN x ep w.heap.size W ((hW.cell (p:= ⟨w.heap.size,0,none⟩) (by simp)).trans (by simp [go_sem])) (by have:=hW.size;simp at this;omega))).mono ?_;rintro e w2 ⟨rfl,hb2⟩;go_wp2;go_ret;exact⟨aU (by rw [HE.out,c1,HF.out,HA.out];rfl), ((Below.refl _ _).alloc (XQ _) _).trans (hb2.mono (by simp))⟩
theorem iJ (w : World)(H : fV)(x : Clock)(h : nN w w.heap.size H x) :
  Calls Tryz.prog 55 #[.agg #[.int .i64 x.Epoch, .slice H.aK.a H.aK.l H.aK.c]] w fun e w'=>e= .returned (.bool (iU x)) ∧Below w.heap.size w w':=by
 obtain⟨⟨A,n,c⟩⟩ :=H;obtain⟨ep,l⟩ :=x;have hr : dX iP w w.heap.size (.slice A n c) l:=h.aK;obtain⟨_,_,hv,q1,q2,qx⟩ :=id hr;simp only [Ya] at hv;obtain⟨rfl,rfl,rfl⟩ :=hv;have kT : l.length≤9223372036854775807:=by unfold maxLen at q2;omega
 clear q1 q2 qx h;have HE:=Hid.aD (Clock.eta ep l);show Calls Tryz.prog 55 #[.agg #[.int .i64 ep, .slice A l.length c]] _ _;by_cases c1 : bG 0 100000 ep=true
 case neg=>
  have c1' : bG 0 100000 ep=false:= (XM _).mp c1;clear c1;go_enter Tryz.func55,Tryz.ntmps55;go_wp2_with (go_at_call 102;refine(dH _ _ _ _).mono ?_;rintro e w1 ⟨rfl,rfl⟩);go_ret;exact⟨aU (by rw [HE.out,c1'];rfl),by repeat (first|exact Below.refl _ _|refine Below.alloc ?_ (by simp<;>omega) _|refine bA ?_ (by simp<;>omega) _ _|refine Below.drew ?_)⟩
 by_cases c2 : l.length=3
 case neg=>
  have c2' : ((l.length : Int) != 3) =true:=by simp;omega
  have HF:=Hid.aD (show (l.length == 3) =false by simpa using c2);clear c2;go_enter Tryz.func55,Tryz.ntmps55;go_wp2_with (go_at_call 102;refine(dH _ _ _ _).mono ?_;rintro e w1 ⟨rfl,rfl⟩);go_ret;exact⟨aU (by rw [HE.out,HF.out];simp),by repeat (first|exact Below.refl _ _|refine Below.alloc ?_ (by simp<;>omega) _|refine bA ?_ (by simp<;>omega) _ _|refine Below.drew ?_)⟩
 have c2' : ((l.length : Int) != 3) =false:=by simp;omega
 have H3:=Hid.aD c2;have HF:=Hid.aD (show (l.length == 3) =true by simpa using c2);clear c2;go_enter Tryz.func55,Tryz.ntmps55;go_wp2_with (go_at_call 102;refine(dH _ _ _ _).mono ?_;rintro e w1 ⟨rfl,rfl⟩);have hW0 : Below w.heap.size w (w.alloc (.cells #[.int .i64 ep, .slice A l.length c] 34)) := (Below.refl _ _).alloc (XQ _) _;go_loopw [3,4] (fun i _ wr=> ∃k : Nat,k≤3∧i= .int .i64 k∧Hid ((l.take k).all (rU ep) =true) ∧Below w.heap.size w wr∧wr.cell? ⟨w.heap.size,0,none⟩ =some (.int .i64 ep) ∧wr.cell? ⟨w.heap.size,1,none⟩ =some (.slice A l.length c) ∧w.heap.size<wr.heap.size) (fun i _ _=>3 - (intOf i).toNat)
 case atStart=>exact⟨0,X3 _,rfl,rfl,hW0,by simp [go_sem],by simp [go_sem],by simp⟩
 case round=>
  obtain⟨i,hi,rfl,HT,hb,UA,pc1,hz⟩ :=hrel;by_cases hl3 : i<3
  ·have hlt : i<l.length:=by rw [H3.out];exact hl3
   obtain⟨g,off,cap',he,hg,_,_,hc⟩ := (hr.below hb).at_ (XL hlt);injection he with he1 he2 gq;clear he2;subst he1 gq;have p0 : wr.cell? ⟨g,off+i * 4,none⟩ =some (.bool l[i].On) :=hc 0 _ rfl;have p1 : wr.cell? ⟨g,off+i * 4+1,none⟩ =some (.int .i64 l[i].Epoch) :=hc 1 _ rfl;have p2 : wr.cell? ⟨g,off+i * 4+2,none⟩ =some (.bool l[i].Marked) :=hc 2 _ rfl;have p3 : wr.cell? ⟨g,off+i * 4+3,none⟩ =some (.int .i64 l[i].Seen) :=hc 3 _ rfl;clear hc hr hW0;have HS:=Hid.aD (show (l.take (i+1)).all (rU ep) = ((l.take i).all (rU ep) &&rU ep l[i]) by rw [XZ hlt,List.all_append];simp);have HX:=Hid.aD (fun hp : rU ep l[i]=false=> (show l.all (rU ep) =false from List.all_eq_false.2 ⟨l[i],X0 hlt,by rw [hp];decide⟩));generalize l[i]=p at p0 p1 p2 p3 HS HX;obtain⟨on,e1,mk,sn⟩ :=p;simp only at p0 p1 p2 p3;have HP:=Hid.aD (show rU ep ⟨on,e1,mk,sn⟩ = (bG 0 ep e1&&bG 0 2 sn&& (on||decide ((⟨on,e1,mk,sn⟩ : Pin) =lV))) from rfl);have step : ∀ (b1 : Bool), (∀W : World, (binOp .neq 120 (.agg #[.bool on, .int .i64 e1, .bool mk, .int .i64 sn]) (.agg #[.bool false, .int .i64 0, .bool false, .int .i64 0])).run Tryz.prog W= .ok (.bool (!b1)) W) →True:=fun _ _=>trivial;clear step;by_cases c3 : (on||decide ((⟨on,e1,mk,sn⟩ : Pin) =lV)) =true
   case neg=>
    have c3' : on=false∧decide ((⟨on,e1,mk,sn⟩ : Pin) =lV) =false:=by simpa using c3
    obtain⟨rfl,c4⟩ :=c3';have hq:=Bd ⟨false,e1,mk,sn⟩ lV;rw [c4] at hq;simp only [lV] at hq;have HN:=Hid.aD (HX.out (by rw [HP.out,c4];simp));clear c3 c4;go_wp2_with (go_at_call 102;refine(dH _ _ _ _).mono ?_;rintro e w1 ⟨rfl,rfl⟩);go_ret;exact⟨aU (by rw [HE.out,HN.out];simp),hb.alloc hb.size _⟩
   have hq : on=true∨ (on=false∧ ∀W : World, (binOp .neq 120 (.agg #[.bool false, .int .i64 e1, .bool mk, .int .i64 sn]) (.agg #[.bool false, .int .i64 0, .bool false, .int .i64 0])).run Tryz.prog W= .ok (.bool false) W) :=by
    cases on with
    |true=>exact .inl rfl
    |false=>
     have c4 : decide ((⟨false,e1,mk,sn⟩ : Pin) =lV) =true:=by simpa using c3
     have hq:=Bd ⟨false,e1,mk,sn⟩ lV;rw [c4] at hq;exact .inr ⟨rfl,hq⟩
   rw [c3,Bool.and_true] at HP;clear c3;by_cases c5 : bG 0 ep e1=true
   case neg=>
    have Sq : bG 0 ep e1=false:= (XM _).mp c5;have HN:=Hid.aD (HX.out (by rw [HP.out,Sq];rfl));clear c5;rcases hq with rfl| ⟨rfl,hq⟩
    all_goals
     go_wp2_with (go_at_call 102;refine(dH _ _ _ _).mono ?_;rintro e w1 ⟨rfl,rfl⟩);go_ret;exact⟨aU (by rw [HE.out,HN.out];simp),hb.alloc hb.size _⟩
   by_cases c6 : bG 0 2 sn=true
   case neg=>
    have UC : bG 0 2 sn=false:= (XM _).mp c6;have HN:=Hid.aD (HX.out (by rw [HP.out,UC];simp));clear c6;rcases hq with rfl| ⟨rfl,hq⟩
    all_goals
     go_wp2_with (go_at_call 102;refine(dH _ _ _ _).mono ?_;rintro e w1 ⟨rfl,rfl⟩);go_ret;exact⟨aU (by rw [HE.out,HN.out];simp),hb.alloc hb.size _⟩
   have HN:=Hid.aD (show (l.take (i+1)).all (rU ep) =true by rw [HS.out,HT.out,HP.out,c5,c6];rfl);clear HS HX HP;rcases hq with rfl| ⟨rfl,hq⟩
   all_goals
    go_wp2_with (go_at_call 102;refine(dH _ _ _ _).mono ?_;rintro e w1 ⟨rfl,rfl⟩);go_roundw
    case rel=>exact⟨i+1,by omega,by go_num,HN,hb.alloc hb.size _, (lu wr _ _ _ hz).trans UA, (lu wr _ _ _ hz).trans pc1,by simp;omega⟩
    case measure=>simp [intOf];omega
  ·obtain rfl : i=3:=by omega
   have HN:=Hid.aD (show l.all (rU ep) =true by have a:=HT.out;rwa [show (3 : Nat) =l.length from H3.out.symm,List.take_length] at a);go_wp2;go_ret;exact⟨aU (by rw [HE.out,c1,HF.out,HN.out];rfl),hb⟩
end Go.Proofs.YtkmggglljkmjoaaGreat.Clk
