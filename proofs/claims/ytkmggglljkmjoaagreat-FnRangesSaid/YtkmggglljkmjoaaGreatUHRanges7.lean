/- m -/
import Derived.Test.YtkmggglljkmjoaaGreatUHRanges6
import Derived.Lib.Bytes
set_option maxRecDepth 100000
set_option maxHeartbeats 1000000
namespace Go.Proofs.YtkmggglljkmjoaaGreat
open Go.RowKit
end Go.Proofs.YtkmggglljkmjoaaGreat
namespace Go.Proofs.YtkmggglljkmjoaaGreat.Lim
open Go.RowKit
def Co : FT Int:= {n:=1,enc:=fun x=> [.int .u8 x],dflt:=0,len:=fun _=>rfl,one:=by intro x u hu;simp at hu;subst hu;rfl,pos:=by decide,small:=by decide}
structure fQ (w : World)(g : Nat)(code : List Int) : Prop where
 lt : g<w.heap.size
 bytes : ∀x∈code,0≤x∧x≤255
 c0 : ∃A cap,w.cell? ⟨g,0,none⟩ =some (.slice A code.length cap) ∧dX Co w g (.slice A code.length cap) code
 c1 : ∃i : Nat,w.cell? ⟨g,1,none⟩ =some (.int .i64 i) ∧i≤code.length
 c2 : ∃h : Int,w.cell? ⟨g,2,none⟩ =some (.int .i64 h)
 f1 : w.frozen? ⟨g,1,none⟩ =false
 f2 : w.frozen? ⟨g,2,none⟩ =false
theorem fQ.up {w w' : World}{g : Nat}{code : List Int}(h : fQ w g code)(hb : Below w.heap.size w w') : fQ w' g code:=by
 obtain⟨lt,sS, ⟨A,cap,p0,r⟩, ⟨i,p1,hi⟩, ⟨hh,p2⟩,f1,f2⟩ :=h;have e : ∀j,w'.cell? ⟨g,j,none⟩ =w.cell? ⟨g,j,none⟩ :=fun j=>hb.cell (p:= ⟨g,j,none⟩) lt;have ef : ∀j,w'.frozen? ⟨g,j,none⟩ =w.frozen? ⟨g,j,none⟩ :=fun j=>hb.frozen (p:= ⟨g,j,none⟩) lt;exact⟨XO lt hb.size,sS, ⟨A,cap, (e 0).trans p0,r.keep (fun k hk=>hb.block k (by omega)) (XQ _)⟩, ⟨i, (e 1).trans p1,hi⟩, ⟨hh, (e 2).trans p2⟩, (ef 1).trans f1, (ef 2).trans f2⟩
theorem fQ.set2 {w : World}{g : Nat}{code : List Int}(h : fQ w g code)(x : Int) : fQ (w.setCell ⟨g,2,none⟩ (.int .i64 x)) g code:=by
 obtain⟨lt,sS, ⟨A,cap,p0,r⟩, ⟨i,p1,hi⟩, ⟨hh,p2⟩,f1,f2⟩ :=h;refine⟨by simpa using lt,sS, ⟨A,cap,by simp [go_sem,p0],r.keep (fun k hk=>Below.heap_setCell _ _ _ _ (by simp;omega)) (XQ _)⟩, ⟨i,by simp [go_sem,p1],hi⟩, ⟨x,by simp [go_sem,p2]⟩,by simp [go_sem,f1],by simp [go_sem,f2]⟩
theorem fQ.set1 {w : World}{g : Nat}{code : List Int}(h : fQ w g code)(j : Nat)(hj : j≤code.length) : fQ (w.setCell ⟨g,1,none⟩ (.int .i64 j)) g code:=by
 obtain⟨lt,sS, ⟨A,cap,p0,r⟩, ⟨i,p1,hi⟩, ⟨hh,p2⟩,f1,f2⟩ :=h;refine⟨by simpa using lt,sS, ⟨A,cap,by simp [go_sem,p0],r.keep (fun k hk=>Below.heap_setCell _ _ _ _ (by simp;omega)) (XQ _)⟩, ⟨j,by simp [go_sem,p1],hj⟩, ⟨hh,by simp [go_sem,p2]⟩,by simp [go_sem,f1],by simp [go_sem,f2]⟩
theorem fQ.drewN {w : World}{g : Nat}{code : List Int}(h : fQ w g code)(n : Nat) : fQ (w.drewN n) g code:=by
 obtain⟨lt,sS, ⟨A,cap,p0,r⟩,c1,c2,f1,f2⟩ :=h;exact⟨lt,sS, ⟨A,cap,p0,r.keep (fun _ _=>rfl) (XQ _)⟩,c1,c2,f1,f2⟩
theorem _root_.Go.Proofs.YtkmggglljkmjoaaGreat.bn.set {F : List Nat}{w w' : World}(h : bn F w w'){g i : Nat}(hg : g∈F)(v : Value) : bn F w (w'.setCell ⟨g,i,none⟩ v) :=
 ⟨h.os,h.tape,h.output,by simpa using h.size,fun k hk hn=> (Below.heap_setCell _ _ _ _ (fun e=>by have e' : k=g:=e;exact hn (e' ▸ hg))).trans (h.block k hk hn)⟩
theorem _root_.Go.Proofs.YtkmggglljkmjoaaGreat.bn.drewN {F : List Nat}{w w' : World}(h : bn F w w')(n : Nat) : bn F w (w'.drewN n) := ⟨h.os,h.tape,h.output,h.size,h.block⟩
def Pw (lo hi : Int)(w : World)(g : Nat)(code : List Int)(e : Ending)(w' : World) : Prop:= ∃x : Int,e= .returned (.int .i64 x) ∧lo≤x∧x≤hi∧fQ w' g code∧bn [g] w w'
theorem QT (n : Int) : bits .and .i64 n 255=n%256:=by
 have hm : (BitVec.ofInt 64 255).toNat=2 ^ 8 - 1:=by decide
 have key : (BitVec.ofInt 64 n&&& BitVec.ofInt 64 255).toNat= (n% ((2 ^ 64 : Nat) : Int)).toNat%2 ^ 8:=by
  rw [BitVec.toNat_and,BitVec.toNat_ofInt,hm,Nat.and_two_pow_sub_one_eq_mod]
 show IntKind.i64.wrap ((BitVec.ofInt 64 n&&& BitVec.ofInt 64 255).toNat : Nat) =n%256;rw [key,IntKind.wrap_i64];omega
theorem xR (n : Int) : 0≤bits .and .i64 n 255∧bits .and .i64 n 255≤255:=by
 rw [QT];omega
theorem vF (w : World)(g : Nat)(code : List Int)(hc : fQ w g code) : Calls Tryz.prog 133 #[.pointer (some ⟨g,0,none⟩)] w (Pw 0 255 w g code) :=by
 obtain⟨lt,sS, ⟨A,cap,p0,r⟩, ⟨i,p1,hi⟩, ⟨hh,p2⟩,f1,f2⟩ :=id hc;by_cases hlt : i<code.length
 case neg=>
  go_enter Tryz.func133,Tryz.ntmps133;go_wp2;go_quiet (fail);go_wp2;go_quiet (fail);go_wp2;go_ret;refine⟨_,rfl, (xR _).1, (xR _).2, ?_, ?_⟩
  ·exact((hc.set2 _).drewN _).drewN _
  ·exact(((bn.refl _ _).set (by simp) _).drewN _).drewN _
 have hi1 : i+1≤code.length:=hlt;obtain⟨gb,ob,cb,hvb,hgb,_,hcapb,Sv⟩ :=r.at_ (XL hlt);injection hvb with e1 e2 e3;clear e2;subst e1 e3;have pb : w.cell? ⟨gb,ob+i,none⟩ =some (.int .u8 code[i]) :=by simpa [Co] using Sv 0 _ rfl
 have bb:=sS code[i] (X0 hlt);obtain⟨b0,b1⟩ :=bb;clear Sv;have WR : ¬ gb=g:=by omega
 have V9 : ¬ g=gb:=by omega
 have hlc : code.length≤9223372036854775807:=by obtain⟨_,_,hv,u1,u2,_⟩ :=id r;injection hv with _ _ e;unfold maxLen at u2;omega
 generalize code[i]=b at *
 go_enter Tryz.func133,Tryz.ntmps133;go_wp2;go_quiet (fail);go_wp2;go_quiet (fail);go_wp2;go_quiet (fail);go_wp2;go_ret;refine⟨_,rfl, (xR _).1, (xR _).2, ?_, ?_⟩
 ·exact((hc.set2 _).drewN _).set1 (i+1) hi1
 ·exact((((bn.refl _ _).set (by simp) _).drewN _).set (by simp) _)
end Go.Proofs.YtkmggglljkmjoaaGreat.Lim
namespace Go.Proofs.YtkmggglljkmjoaaGreat
open Go.RowKit
def iZ : Nat→Int→List Int
 |0,_=> []
 |k+1,n=>iZ k (n / 256) ++ [n%256]
theorem FL (k : Nat)(n : Int) : iZ (k+1) n=iZ k (n / 256) ++ [n%256]:=rfl
theorem jO : ∀ (k : Nat) (n : Int), (iZ k n).length=k
 |0,_=>rfl
 |k+1,n=>by simp [iZ,jO k]
theorem KW : ∀ (k : Nat) (n : Int) (j : Nat),j<k→ (iZ k n)[k - 1 - j]? =some (n / 256 ^ j%256)
 |0,_,j,h=>absurd h (by omega)
 |k+1,n,0,_=>by
  have:=jO k (n / 256);simp [iZ,this]
 |k+1,n,j+1,h=>by
  have hl:=jO k (n / 256);have ih:=KW k (n / 256) j (by omega);have e : k+1 - 1 - (j+1) =k - 1 - j:=by omega
  rw [e];unfold iZ;rw [List.getElem?_append_left (by omega),ih,Int.ediv_ediv_of_nonneg (by omega),Int.pow_succ',Int.mul_comm]
theorem BU : ∀ (k : Nat) (n : Int), (iZ k n).all (bG 0 255) =true
 |0,_=>rfl
 |k+1,n=>by
  have h1 : 0≤n%256:=Int.emod_nonneg _ (by omega);have h2 : n%256<256:=Int.emod_lt_of_pos _ (by omega);unfold iZ;rw [List.all_append,BU k];simp [bG];omega
def putAt (b : List Int)(a : Nat)(ds : List Int) : List Int:=b.take a++ds++b.drop (a+ds.length)
def backTo (b : List Int)(a : Nat)(ds : List Int)(i : Nat) : List Int:=b.take (a+i) ++ds.drop i++b.drop (a+ds.length)
def LV (b : List Int)(a k n : Int) : List Int:=putAt b a.toNat (iZ k.toNat n)
theorem u_ {b : List Int}{a : Nat}{ds : List Int}(h : a+ds.length≤b.length) : (putAt b a ds).length=b.length:=by
 simp [putAt];omega
theorem LW {b : List Int}{a : Nat}{ds : List Int} : backTo b a ds ds.length=b:=by simp [backTo]
theorem Kc {b : List Int}{a : Nat}{ds : List Int} : backTo b a ds 0=putAt b a ds:=by simp [backTo,putAt]
theorem LX {b : List Int}{a : Nat}{ds : List Int}{i : Nat}(h : a+ds.length≤b.length)(hi : i≤ds.length) : (backTo b a ds i).length=b.length:=by
 simp [backTo];omega
theorem Ke {b : List Int}{a : Nat}{ds : List Int}{i : Nat}(h : a+ds.length≤b.length)(hi : i<ds.length) : (backTo b a ds (i+1)).set (a+i) ds[i]=backTo b a ds i:=by
 have hd : ds.drop i=ds[i]::ds.drop (i+1) :=List.drop_eq_getElem_cons hi;have ht : b.take (a+ (i+1)) =b.take (a+i) ++ [b[a+i]'(by omega)]:=by rw [←Nat.add_assoc,XZ (by omega)]
 unfold backTo;rw [hd,ht,List.append_assoc,List.append_assoc,List.set_append_right _ _ (by simp;omega)];have e : a+i - (b.take (a+i)).length=0:=by simp;omega
 rw [e];simp only [List.append_assoc,List.cons_append,List.nil_append,List.set_cons_zero]
theorem Aq {p : Int→Bool}{b : List Int}{a : Nat}{ds : List Int}(hb : b.all p=true)(hd : ds.all p=true) : (putAt b a ds).all p=true:=by
 unfold putAt;rw [List.all_append,List.all_append,hd,Bool.and_true,X4];exact⟨X5.2 fun x hx=>X5.1 hb x (List.mem_of_mem_take hx),X5.2 fun x hx=>X5.1 hb x (List.mem_of_mem_drop hx)⟩
theorem vM {b : List Int}{a : Nat}{ds : List Int}{i : Nat}(h : a+ds.length≤b.length)(hi : i<a∨a+ds.length≤i) : (putAt b a ds)[i]? =b[i]? :=by
 unfold putAt;rcases hi with hi|hi
 ·rw [List.append_assoc,List.getElem?_append_left (by simp;omega),List.getElem?_take_of_lt hi]
 ·rw [List.getElem?_append_right (by simp;omega),List.getElem?_drop]
  congr 1;simp;omega
theorem wP {b : List Int}{a : Nat}{ds : List Int}{j : Nat}(h : a+ds.length≤b.length)(hj : j<ds.length) : (putAt b a ds)[a+j]? =ds[j]? :=by
 unfold putAt;rw [List.append_assoc,List.getElem?_append_right (by simp;omega),List.getElem?_append_left (by simp;omega)];congr 1;simp;omega
theorem vW : ∀ (k : Nat) (n : Int) (b : List Int) (a : Nat), (∀j<k,b.getD (a+j) 0= (iZ k n).getD j 0) →0≤n→n<256 ^ k→iH b a k=n
 |0,n,_,_,_,h0,h1=>by simp at h1;simp [iH];omega
 |k+1,n,b,a,hb,h0,h1=>by
  have hl:=jO k (n / 256);have h3 : n / 256<256 ^ k:=by
   rw [Int.pow_succ] at h1;exact Int.ediv_lt_of_lt_mul (by omega) h1
  have ih:=vW k (n / 256) b a (fun j hj=>by
   rw [hb j (by omega),FL];simp [List.getD,List.getElem?_append_left,hl,hj]) (Int.ediv_nonneg h0 (by omega)) h3
  have hk:=hb k (by omega);have e : (iZ (k+1) n).getD k 0=n%256:=by
   rw [FL];simp [List.getD,hl]
  rw [e] at hk;simp only [iH];rw [ih,hk];omega
def Co : FT Int:= {n:=1,enc:=fun x=> [.int .u8 x],dflt:=0,len:=fun _=>rfl,one:=by intro x u hu;simp at hu;subst hu;rfl,pos:=by decide,small:=by decide}
theorem IG {n : Int}(_h0 : 0≤n)(j : Nat) : n / 256 ^ j / 256=n / 256 ^ (j+1) :=by
 rw [Int.ediv_ediv_of_nonneg (Int.pow_nonneg (by decide)), ←Int.pow_succ]
theorem dX.Us {w : World}{B : Nat}{v : Value}{l : List Int}(h : dX FI w B v l) : ∃A c,v= .slice A l.length c∧l.length≤9223372036854775807:=by
 obtain⟨A,c,hv,q1,q2,_⟩ :=h;exact⟨A,c,hv,by unfold maxLen at q2;omega⟩
theorem tX (w : World)(v : Value)(b : List Int)(a K : Nat)(n : Int)(h : aX FI 3 w v b)(h1 : 1≤K)(h7 : K≤7)(h0 : 0≤n)(hm0 : n≤72057594037927936)(ha : a+K≤b.length) :
  Calls Tryz.prog 86 #[v, .int .i64 (a : Int), .int .i64 (K : Int), .int .i64 n] w fun e w'=>e= .returned v∧aX FI 3 w' v (putAt b a (iZ K n)) ∧bn (bq v) w w':=by
 obtain⟨A,c,hv,kT⟩ :=h.rd'.Us;subst hv;have hdl:=jO K n;have HN:=Hid.aD h0;have HD:=Hid.aD (fun j (hj : j<K) =>KW K n j hj);have hO : aX FI 3 w (.slice A b.length c) (backTo b a (iZ K n) K) :=by
  have e:=LW (b:=b) (a:=a) (ds:=iZ K n);rw [hdl] at e;rw [e];exact h
 have HL:=Hid.aD (fun (i : Nat) (hi : i≤K) =>LX (b:=b) (a:=a) (ds:=iZ K n) (i:=i) (by omega) (by omega));go_enter Tryz.func86,Tryz.ntmps86;go_wp2;go_loopw [3,9] (fun u i wr=> ∃m : Nat,m≤K∧i= .int .i64 ((m : Int) - 1) ∧u= .int .i64 (n / 256 ^ (K - m)) ∧aX FI 3 wr (.slice A b.length c) (backTo b a (iZ K n) m) ∧bn (bq (.slice A b.length c)) w wr) (fun _ i _=> (intOf i+1).toNat)
 case atStart=>exact⟨K,XQ _,rfl,by simp,hO,bn.refl _ _⟩
 case round=>
  obtain⟨m,hm,rfl,rfl,ho,hc⟩ :=hrel;clear hO h;have hbt:=HL.out m hm;cases m with
  |zero=>
   rw [Kc] at ho;go_wp2;go_ret;exact⟨rfl,ho,hc⟩
  |succ q=>
   have hi0 : (((q+1 : Nat) : Int) - 1) = (q : Int) :=by omega
   rw [hi0];have hv0 : 0≤n / 256 ^ (K - (q+1)) :=Int.ediv_nonneg HN.out (Int.pow_nonneg (by decide));have HV:=Hid.aD (IG HN.out (K - (q+1)));have HG:=Hid.aD (HD.out (K - (q+1)) (by omega));rw [show K - 1 - (K - (q+1)) =q by omega] at HG;have HT:=Hid.aD (Ke (b:=b) (a:=a) (ds:=iZ K n) (i:=q) (by omega) (by omega));have hv1 : n / 256 ^ (K - (q+1)) ≤72057594037927936:=Int.le_trans (Int.ediv_le_self _ HN.out) hm0;generalize n / 256 ^ (K - (q+1)) =v at *
   obtain⟨g,cap,hv,hg⟩ :=ho.jf (by omega);injection hv with e1 e2 e3;clear e2;subst e1 e3;have hz1 : a+q< (backTo b a (iZ K n) (q+1)).length:=by rw [hbt];omega
   have hf:=ho.dM (a+q);have hx:=ho.cell_ (XL hz1) FI.pos;have TD:=Hid.aD (fun (y : Int) =>ho.dG (y:=y) (u:= .int .i64 y) (XL hz1) FI.pos rfl);simp only [FI,Nat.mul_one,Nat.add_zero] at hx;go_wp2;have HE : aX FI 3 (wr.setCell ⟨g,a+q,none⟩ (.int .i64 (v%256))) (.slice (some ⟨g,0,none⟩) b.length c) (backTo b a (iZ K n) q) :=by
    have p:=TD.out (v%256);have r:=HT.out;obtain⟨_,d⟩ :=XW.1 HG.out;rw [d] at r;rw [r,show (a+q) * FI.n+0=a+q by simp [FI]] at p;exact p
   have Ut : Value.int .i64 (v / 256) =Value.int .i64 (n / 256 ^ (K - q)) :=by
    rw [HV.out,show K - (q+1) +1=K - q by omega]
   go_roundw
   case rel=>exact⟨q,by omega,rfl,Ut,HE,hc.dG (by simp [bq,Value.ownBlock]) _⟩
   case measure=>simp [intOf]
def rE (n k : Int) : Bool:=bG 1 7 k&&decide (0≤n) &&decide (n<256 ^ k.toNat)
theorem F3 {n k : Int}(h : rE n k=true) : 1≤k∧k≤7∧0≤n∧n<256 ^ k.toNat:=by
 unfold rE at h;simp only [X4,decide_eq_true_eq] at h;obtain⟨⟨a,b⟩,c⟩ :=h;exact⟨(bH.1 a).1, (bH.1 a).2,b,c⟩
theorem Nk {K : Nat}(h7 : K≤7) : (256 : Int) ^ K≤72057594037927936:=by
 have : K=0∨K=1∨K=2∨K=3∨K=4∨K=5∨K=6∨K=7:=by omega
 rcases this with rfl|rfl|rfl|rfl|rfl|rfl|rfl|rfl<;>decide
theorem tY {s : ByteArray} : s.toList.isEmpty=decide (s.size=0) :=by
 have h : s.toList.length=s.size:=by rw [Lib.toList_data];simp
 cases hx : s.toList with
 |nil=>rw [hx] at h;simp at h;rw [←h];rfl
 |cons a l=>rw [hx] at h;simp at h;rw [←h];simp
theorem AQ (n k : Int)(w : World)(h : bG 1 7 k=false∨n<0) : Calls Tryz.prog 85 #[.int .i64 n, .int .i64 k] w fun e w'=>e= .returned (.string ⟨#[]⟩) ∧w=w':=by
 by_cases hk : bG 1 7 k=true
 case neg=>
  have hk' : bG 1 7 k=false:= (XM _).mp hk;clear h hk;go_enter Tryz.func85,Tryz.ntmps85;go_wp2_with (go_at_call 102;refine(dH _ _ _ _).mono ?_;rw [hk'];rintro e w2 ⟨rfl,rfl⟩);go_ret;exact⟨rfl,rfl⟩
 have h0 : n<0:=by
  rcases h with h|h
  ·rw [hk] at h
   exact absurd h (by decide)
  ·exact h
 clear h;go_enter Tryz.func85,Tryz.ntmps85;go_wp2_with (go_at_call 102;refine(dH _ _ _ _).mono ?_;rw [hk];rintro e w2 ⟨rfl,rfl⟩);go_ret;exact⟨rfl,rfl⟩
theorem II {n : Int}(h0 : 0≤n)(K : Nat) : (0<n / 256 ^ K) ↔256 ^ K≤n:=by
 have hp : (0 : Int) <256 ^ K:=Int.pow_pos (by decide);constructor
 ·intro h
  apply Int.not_lt.1;intro hh;rw [Int.ediv_eq_zero_of_lt h0 hh] at h;omega
 ·intro h
  have : 1 * (256 : Int) ^ K≤n:=by omega
  have:= (Int.le_ediv_iff_mul_le hp).2 this;omega
def OD (n : Int)(K : Nat)(w : World)(e : Ending)(w' : World) : Prop:= (∃s : ByteArray,e= .returned (.string s) ∧s.toList.isEmpty= !(decide (n<256 ^ K))) ∧Below w.heap.size w w'
def OE (n : Int)(K : Nat)(w : World)(v o i : Value)(wr : World) : Prop:= ∃ (j : Nat) (s : ByteArray),j≤K∧i= .int .i64 j∧v= .int .i64 (n / 256 ^ j) ∧o= .string s∧s.size=j∧Below w.heap.size w wr
theorem IJ (n : Int)(K : Nat)(w : World)(h1 : 1≤K)(h7 : K≤7)(h0 : 0≤n)(hm : n≤9223372036854775807) : Calls Tryz.prog 85 #[.int .i64 n, .int .i64 (K : Int)] w (OD n K w) :=by
 have hk : bG 1 7 (K : Int) =true:=bH.2 ⟨by omega,by omega⟩;have HN:=Hid.aD h0;have HM:=Hid.aD hm;have HD:=Hid.aD (II h0 K);clear hm;go_enter Tryz.func85,Tryz.ntmps85;go_wp2_with (go_at_call 102;refine(dH _ _ _ _).mono ?_;rw [hk];rintro e w2 ⟨rfl,rfl⟩);go_loopw [0,5,6] (fun v o i wr=>OE n K w v o i wr) (fun _ _ i _=>K - (intOf i).toNat)
 case atStart=>exact⟨0,_,X3 _,rfl,by simp,rfl,rfl,Below.refl _ _⟩
 case round=>
  obtain⟨j,s,hj,rfl,rfl,rfl,hs0,hb⟩ :=hrel;have hs:=Hid.aD hs0;clear hs0;have hv0 : 0≤n / 256 ^ j:=Int.ediv_nonneg HN.out (Int.pow_nonneg (by decide));have hv1 : n / 256 ^ j≤9223372036854775807:=Int.le_trans (Int.ediv_le_self _ HN.out) HM.out;have HV:=Hid.aD (IG HN.out j);by_cases hlt : j<K
  ·generalize n / 256 ^ j=v at *
   have hcv:=fun (u : Int) =>run_convert_bytes_arg (P:=Tryz.prog) (w:=wr.alloc (.cells #[.int .u8 u] 5)) 22 5 Tryz.underlying22 Tryz.underlying5 wr.heap.size 0 1 1 [u] rfl (fun i hi=>by
    obtain rfl : i=0:=by omega
    simp [go_sem]) 9 Tryz.underlying9
   have hs1 : (strOfNums [v%256]).size≤1:=by rw [strOfNums_size];exact XQ _
   have hs2 : s.size≤7:=by rw [hs.out];omega
   go_wp2;go_roundw
   case rel=>exact⟨j+1,_,by omega,by go_num,by rw [HV.out],rfl,by rw [ByteArray.size_append,strOfNums_size,hs.out];simp;omega,hb.alloc hb.size _⟩
   case measure=>simp [intOf];omega
  ·obtain rfl : j=K:=by omega
   have HD2:=Hid.aD (HD.out);by_cases hp : 0<n / 256 ^ j
   ·have HX : Hid (decide (n<256 ^ j) =false) :=decide_eq_false (Int.not_lt.2 (HD2.out.1 hp))
    generalize n / 256 ^ j=v at *
    go_wp2;go_ret;exact⟨⟨_,rfl,by rw [HX.out,tY];rfl⟩,hb⟩
   ·have HX : Hid (decide (n<256 ^ j) =true) :=decide_eq_true (Classical.byContradiction (fun hh=>hp (HD2.out.2 (Int.not_lt.1 hh))))
    generalize n / 256 ^ j=v at *
    go_wp2;go_ret;exact⟨⟨_,rfl,by rw [HX.out,tY,hs.out];simp;omega⟩,hb⟩
theorem iX {w1 w2 : World}{o : Obj}{g i : Nat}{u : Value}(hb : Below (w1.alloc o).heap.size (w1.alloc o) w2)(hg : g<w1.heap.size)(h : w1.cell? ⟨g,i,none⟩ =some u) : w2.cell? ⟨g,i,none⟩ =some u:=aZ hb (by simp;omega) ((lu w1 o g i hg).trans h)
theorem y8 {B : Nat}{w0 w w' : World}{o : Obj}(hB : Below B w0 w)(hb : Below (w.alloc o).heap.size (w.alloc o) w')(h : B≤w.heap.size) : Below B w0 w':= (hB.alloc h o).trans (hb.mono (by simp;omega))
theorem aX.step {α : Type}{T : FT α}{e : TypeId}{w w' : World}{o : Obj}{v : Value}{l : List α}(h : aX T e w v l)(hb : Below (w.alloc o).heap.size (w.alloc o) w') : aX T e w' v l:= (h.av o).keep (fun g hg=>hb.block g (dQ (h.av o) g (aS.2 hg)))
theorem aX.step0 {α : Type}{T : FT α}{e : TypeId}{w w' : World}{v : Value}{l : List α}(h : aX T e w v l)(hb : Below w.heap.size w w') : aX T e w' v l:=h.keep (fun g hg=>hb.block g (dQ h g (aS.2 hg)))
theorem dF.step {α : Type}{T : FT α}{e E : TypeId}{w w' : World}{o : Obj}{v : Value}{s : List SV}{l : List (List α)}(h : dF T e E w v s l)(hb : Below (w.alloc o).heap.size (w.alloc o) w') : dF T e E w' v s l:= (h.av o).keep (fun g hg=>hb.block g ((h.av o).lt g hg))
theorem dF.step0 {α : Type}{T : FT α}{e E : TypeId}{w w' : World}{v : Value}{s : List SV}{l : List (List α)}(h : dF T e E w v s l)(hb : Below w.heap.size w w') : dF T e E w' v s l:=h.keep (fun g hg=>hb.block g (h.lt g hg))
theorem o8 {w w' : World}(hb : Below w.drew.heap.size w.drew w') : Below w.heap.size w w':= ⟨hb.os,hb.tape,hb.output,hb.size,hb.block⟩
theorem D_ {w : World}{F : List Nat}(h : ∀g∈F,w.drew.heap.size≤g) : ∀g∈F,w.heap.size≤g:=h
theorem fM.av {w : World}{H : eX}{x : Heap}(h : fM w H x)(o : Obj) : fM (w.alloc o) H x:=h.keep fun g hg=>Below.heap_alloc w o g (h.lt g hg)
theorem fM.step {w w' : World}{o : Obj}{H : eX}{x : Heap}(h : fM w H x)(hb : Below (w.alloc o).heap.size (w.alloc o) w') : fM w' H x:= (h.av o).keep (fun g hg=>hb.block g ((h.av o).lt g hg))
theorem fM.step0 {w w' : World}{H : eX}{x : Heap}(h : fM w H x)(hb : Below w.heap.size w w') : fM w' H x:=h.keep (fun g hg=>hb.block g (h.lt g hg))
theorem eZ.av {w : World}{H : bF}{x : Lists}(h : eZ w H x)(o : Obj) : eZ (w.alloc o) H x:=h.keep fun g hg=>Below.heap_alloc w o g (h.lt g hg)
theorem eZ.step {w w' : World}{o : Obj}{H : bF}{x : Lists}(h : eZ w H x)(hb : Below (w.alloc o).heap.size (w.alloc o) w') : eZ w' H x:= (h.av o).keep (fun g hg=>hb.block g ((h.av o).lt g hg))
theorem eZ.step0 {w w' : World}{H : bF}{x : Lists}(h : eZ w H x)(hb : Below w.heap.size w w') : eZ w' H x:=h.keep (fun g hg=>hb.block g (h.lt g hg))
theorem fq.av {w : World}{H : bV}{x : Mem}(h : fq w H x)(o : Obj) : fq (w.alloc o) H x:=h.keep fun g hg=>Below.heap_alloc w o g (h.lt g hg)
theorem fq.step {w w' : World}{o : Obj}{H : bV}{x : Mem}(h : fq w H x)(hb : Below (w.alloc o).heap.size (w.alloc o) w') : fq w' H x:= (h.av o).keep (fun g hg=>hb.block g ((h.av o).lt g hg))
theorem fq.step0 {w w' : World}{H : bV}{x : Mem}(h : fq w H x)(hb : Below w.heap.size w w') : fq w' H x:=h.keep (fun g hg=>hb.block g (h.lt g hg))
theorem iO.av {w : World}{H : fV}{x : Clock}(h : iO w H x)(o : Obj) : iO (w.alloc o) H x:=h.keep fun g hg=>Below.heap_alloc w o g (h.lt g hg)
theorem iO.step {w w' : World}{o : Obj}{H : fV}{x : Clock}(h : iO w H x)(hb : Below (w.alloc o).heap.size (w.alloc o) w') : iO w' H x:= (h.av o).keep (fun g hg=>hb.block g ((h.av o).lt g hg))
theorem iO.step0 {w w' : World}{H : fV}{x : Clock}(h : iO w H x)(hb : Below w.heap.size w w') : iO w' H x:=h.keep (fun g hg=>hb.block g (h.lt g hg))
theorem dz.av {w : World}{H : aA}{x : Base}(h : dz w H x)(o : Obj) : dz (w.alloc o) H x:=h.keep fun g hg=>Below.heap_alloc w o g (h.lt g hg)
theorem dz.step {w w' : World}{o : Obj}{H : aA}{x : Base}(h : dz w H x)(hb : Below (w.alloc o).heap.size (w.alloc o) w') : dz w' H x:= (h.av o).keep (fun g hg=>hb.block g ((h.av o).lt g hg))
theorem dz.step0 {w w' : World}{H : aA}{x : Base}(h : dz w H x)(hb : Below w.heap.size w w') : dz w' H x:=h.keep (fun g hg=>hb.block g (h.lt g hg))
def B_ : Heap:= ⟨List.replicate 384 0,List.replicate 6 (-1)⟩
def zi : Lists:= ⟨List.replicate 3 [],List.replicate 9 []⟩
def w_ : Mem:= ⟨B_,zi⟩
theorem zT (w : World) : Calls Tryz.prog 222 #[] w fun e w'=> ∃H' : bF,e= .returned (.agg #[.slice H'.G.a H'.G.l H'.G.c, .slice H'.O.a H'.O.l H'.O.c]) ∧eZ w' H' zi∧ (∀g∈H'.foot,w.heap.size≤g) ∧Below w.heap.size w w':=by
 have WO : ∀w, (Instr.makeSlice 27 (.int .i64 3) (.int .i64 3)).run Tryz.prog w= .ok (.slice (some ⟨w.heap.size,0,none⟩) 3 3) (w.alloc (.cells (madeCells #[.slice none 0 0] (3 * FS.n)) 94)) :=lM (P:=Tryz.prog) FS 27 94 (.agg #[.slice none 0 0]) 24 Tryz.underlying27 Tryz.infoSList 3 (by omega) (by omega);have WQ : ∀w, (Instr.makeSlice 27 (.int .i64 9) (.int .i64 9)).run Tryz.prog w= .ok (.slice (some ⟨w.heap.size,0,none⟩) 9 9) (w.alloc (.cells (madeCells #[.slice none 0 0] (9 * FS.n)) 94)) :=lM (P:=Tryz.prog) FS 27 94 (.agg #[.slice none 0 0]) 24 Tryz.underlying27 Tryz.infoSList 9 (by omega) (by omega);obtain⟨w0,hW0⟩ : ∃x,x= (w.alloc (.cells #[.slice none 0 0, .slice none 0 0] 29)) := ⟨_,rfl⟩;have aj : aJ w0 (w.heap.size) [.slice none 0 0, .slice none 0 0]:=by
  rw [hW0];exact aJ.nw
 have hB : Below w.heap.size w w0:=by
  rw [hW0];exact cO
 go_enter Tryz.func222,Tryz.ntmps222;go_wp2_with fail;rw [←hW0];clear hW0;have kL:=aj.lt;obtain⟨ak,au,aH,aR⟩ :=aj.f2;go_region;all_goals go_wp2_with fail
 ·have br:= (((((aj.set 0 (.slice (some ⟨w0.heap.size,0,none⟩) 3 3)).set 1 (.slice (some ⟨w0.heap.size+1,0,none⟩) 9 9)).alloc (.cells (madeCells #[.slice none 0 0] (3 * FS.n)) 94)).alloc (.cells (madeCells #[.slice none 0 0] (9 * FS.n)) 94)).drew)
  have e2 : ((w0.setCell ⟨w.heap.size,0,none⟩ (.slice (some ⟨w0.heap.size,0,none⟩) 3 3)).setCell ⟨w.heap.size,1,none⟩ (.slice (some ⟨w0.heap.size+1,0,none⟩) 9 9)).heap.size=w0.heap.size:=by simp
  have oa:=dF.made #[.slice none 0 0] rfl 3 (by simp [maxLen]) ((w0.setCell ⟨w.heap.size,0,none⟩ (.slice (some ⟨w0.heap.size,0,none⟩) 3 3)).setCell ⟨w.heap.size,1,none⟩ (.slice (some ⟨w0.heap.size+1,0,none⟩) 9 9)) FI 3 94;rw [e2] at oa;have ob:=dF.made #[.slice none 0 0] rfl 9 (by simp [maxLen]) (((w0.setCell ⟨w.heap.size,0,none⟩ (.slice (some ⟨w0.heap.size,0,none⟩) 3 3)).setCell ⟨w.heap.size,1,none⟩ (.slice (some ⟨w0.heap.size+1,0,none⟩) 9 9)).alloc (.cells (madeCells #[.slice none 0 0] (3 * FS.n)) 94)) FI 3 94;rw [World.size_alloc,e2] at ob;have la:=oa.lt;rw [World.size_alloc,e2] at la;have fa:=rD w0.heap.size 3;have fb:=rD (w0.heap.size+1) 9;have r0:=br.cell 0 _ rfl;have r1:=br.cell 1 _ rfl;exact bodyPost_ret (v:= .agg #[.slice (some ⟨w0.heap.size,0,none⟩) 3 3, .slice (some ⟨w0.heap.size+1,0,none⟩) 9 9]) (by simp [results,Tryz.results222,go_sem,r0,r1]) rfl ⟨⟨⟨some ⟨w0.heap.size,0,none⟩,3,3⟩, (List.replicate 3 ⟨none,0,0⟩), ⟨some ⟨w0.heap.size+1,0,none⟩,9,9⟩, (List.replicate 9 ⟨none,0,0⟩)⟩,rfl, ⟨(oa.av (.cells (madeCells #[.slice none 0 0] (9 * FS.n)) 94)).keep (fun _ _=>rfl),ob.keep (fun _ _=>rfl),fun b hb hm=>by have h1:=la b hb;have h2:=fb b hm;omega⟩,fun b hb=>by rcases bF.aI.1 hb with hb|hb; (have:=fa b hb;omega); (have:=fb b hb;omega),Below.trans hB dU⟩
 ·have br:= (((((aj.set 0 (.slice (some ⟨w0.heap.size+1,0,none⟩) 3 3)).set 1 (.slice (some ⟨w0.heap.size,0,none⟩) 9 9)).alloc (.cells (madeCells #[.slice none 0 0] (9 * FS.n)) 94)).alloc (.cells (madeCells #[.slice none 0 0] (3 * FS.n)) 94)).drew)
  have e2 : ((w0.setCell ⟨w.heap.size,0,none⟩ (.slice (some ⟨w0.heap.size+1,0,none⟩) 3 3)).setCell ⟨w.heap.size,1,none⟩ (.slice (some ⟨w0.heap.size,0,none⟩) 9 9)).heap.size=w0.heap.size:=by simp
  have oa:=dF.made #[.slice none 0 0] rfl 9 (by simp [maxLen]) ((w0.setCell ⟨w.heap.size,0,none⟩ (.slice (some ⟨w0.heap.size+1,0,none⟩) 3 3)).setCell ⟨w.heap.size,1,none⟩ (.slice (some ⟨w0.heap.size,0,none⟩) 9 9)) FI 3 94;rw [e2] at oa;have ob:=dF.made #[.slice none 0 0] rfl 3 (by simp [maxLen]) (((w0.setCell ⟨w.heap.size,0,none⟩ (.slice (some ⟨w0.heap.size+1,0,none⟩) 3 3)).setCell ⟨w.heap.size,1,none⟩ (.slice (some ⟨w0.heap.size,0,none⟩) 9 9)).alloc (.cells (madeCells #[.slice none 0 0] (9 * FS.n)) 94)) FI 3 94;rw [World.size_alloc,e2] at ob;have la:=oa.lt;rw [World.size_alloc,e2] at la;have fa:=rD w0.heap.size 9;have fb:=rD (w0.heap.size+1) 3;have r0:=br.cell 0 _ rfl;have r1:=br.cell 1 _ rfl;exact bodyPost_ret (v:= .agg #[.slice (some ⟨w0.heap.size+1,0,none⟩) 3 3, .slice (some ⟨w0.heap.size,0,none⟩) 9 9]) (by simp [results,Tryz.results222,go_sem,r0,r1]) rfl ⟨⟨⟨some ⟨w0.heap.size+1,0,none⟩,3,3⟩, (List.replicate 3 ⟨none,0,0⟩), ⟨some ⟨w0.heap.size,0,none⟩,9,9⟩, (List.replicate 9 ⟨none,0,0⟩)⟩,rfl, ⟨ob.keep (fun _ _=>rfl), (oa.av (.cells (madeCells #[.slice none 0 0] (3 * FS.n)) 94)).keep (fun _ _=>rfl),fun b hb hm=>by have h1:=la b hm;have h2:=fb b hb;omega⟩,fun b hb=>by rcases bF.aI.1 hb with hb|hb; (have:=fb b hb;omega); (have:=fa b hb;omega),Below.trans hB dU⟩
end Go.Proofs.YtkmggglljkmjoaaGreat
