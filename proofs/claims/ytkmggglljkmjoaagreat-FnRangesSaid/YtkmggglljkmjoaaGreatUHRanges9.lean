/- m -/
import Derived.Deep.Slices
import Derived.Test.YtkmggglljkmjoaaGreatUHRanges7
import Derived.Test.YtkmggglljkmjoaaGreatUHRanges8
import Derived.Laws.CopyOwn
set_option maxRecDepth 100000
set_option maxHeartbeats 2000000
namespace Go.Proofs.YtkmggglljkmjoaaGreat
open Go.RowKit Go.ChangeShapes Go.WideShapes Go.Deep
def Opens (P : Program)(t : TypeId)(R : World→List Value→Prop) : Prop:=
 ∀ (H : Type) (enc : TypeId×Value→H) (W : World) (base : Nat) (spare : Nat→Bool) (held : Bool) (fuel : Nat) (cs : List Value) (x : DataW H×List MemPlace),DataW.trod enc P W base spare held fuel t cs=some x→R W cs
variable {P : Program} {t e : TypeId} {α : Type} {T : FT α}
theorem Opens.trod {R : World→List Value→Prop}(h : Opens P t R){H : Type}{enc : TypeId×Value→H}{W : World}{base : Nat}{spare : Nat→Bool}{held : Bool}{v : Value}{d : DataW H}{ps : List MemPlace}(ht : DataW.Trod enc P W base spare held t v d ps) : R W v.cells.toList:=by
 obtain⟨fuel,hf⟩ :=ht;exact h H enc W base spare held fuel _ _ hf
theorem cell_spot {W : World}{a : Addr}{v : Value}(h : W.cell? a=some v) : a.spot=none:=by
 unfold World.cell? at h;split at h
 ·split at h
  ·cases h
  ·rename_i hs
   cases hsp : a.spot with
   |none=>rfl
   |some _=>rw [hsp] at hs;simp at hs
 ·cases h
theorem Cg {R : World→List Value→Prop}{n : Nat}(ht : P.underlying t=some (.slice e))(hc : P.cellsOf e=n)(hn : 0<n)(he : Opens P e R) :
  Opens P t fun W cs=> ∃A len cap,cs= [.slice A len cap]∧len≤cap∧cap≤maxLen∧ (0<len→ ∃g off,A=some ⟨g,off,none⟩ ∧g<W.heap.size∧
   ∀i,i<len→ ∃cs',cs'.length=n∧R W cs'∧ ∀j u,cs'[j]? =some u→W.cell? ⟨g,off+ (i * n+j),none⟩ =some u) :=by
 intro H enc W base spare held fuel cs x h;rcases open_slice ht h with ⟨rfl,_⟩ | ⟨a,len,cap,m,k,D,Pl,rfl,hb,hl,hm,hmm,_,hi⟩
 ·exact⟨none,0,0,rfl,XQ _,by simp [maxLen],fun h=>absurd h (by omega)⟩
 ·refine⟨some a,len,cap,rfl,hl,hm,fun hpos=> ?_⟩
  have hlm : len≤m:=by rw [hmm];split<;>omega
  have hcell : ∀i,i<len→ ∃cs',cs'.length=n∧R W cs'∧ ∀j,j<n→W.cell? ((a.add (i * n)).add j) =cs'[j]? :=by
   intro i hil;obtain⟨cs',h1,h2⟩ :=hi i (by omega);rw [hc] at h1;obtain⟨_,h3,h4⟩ :=World.cells?_some h1;exact⟨cs',h3,he H enc W base spare held k _ _ h2,h4⟩
  obtain⟨cs0,h3,_,h4⟩ :=hcell 0 hpos;have h5:=h4 0 hn;rw [Nat.zero_mul] at h5;have ha0 : (a.add 0).add 0=a:=by simp [Addr.add]
  rw [ha0,XL (by omega)] at h5;have hsp:=cell_spot h5;have hblk:=World.block_lt_of_cell? W _ h5;obtain⟨g,off,spot⟩ :=a;simp only at hsp;subst hsp;refine⟨g,off,rfl,hblk,fun i hil=> ?_⟩;obtain⟨cs',q1,q2,q3⟩ :=hcell i hil;refine⟨cs',q1,q2,fun j u hu=> ?_⟩;have hj : j<n:=by
   have:= (XW.1 hu).1;omega
  have q4:=q3 j hj;rw [hu,Go.Deep.add_add] at q4;rw [←q4];congr 1;unfold Addr.add;by_cases h0 : i * n+j=0
  ·rw [if_pos h0,h0];rfl
  ·rw [if_neg h0]
theorem LU (ht : P.underlying t=some (.slice e))(hc : P.cellsOf e=T.n)(he : Opens P e fun _ cs=> ∃y,cs=T.enc y) :
  Opens P t fun W cs=> ∃v l,cs= [v]∧dX T W W.heap.size v l:=by
 intro H enc W base spare held fuel cs x h;obtain⟨A,len,cap,rfl,h1,h2,h3⟩ :=Cg ht hc T.pos he H enc W base spare held fuel cs x h;by_cases hpos : 0<len
 ·obtain⟨g,off,rfl,hg,hi⟩ :=h3 hpos
  have : ∃f : Nat→α, ∀i,i<len→ ∀j u, (T.enc (f i))[j]? =some u→W.cell? ⟨g,off+ (i * T.n+j),none⟩ =some u:=by
   have hex : ∀i, ∃y : α,i<len→ ∀j u, (T.enc y)[j]? =some u→W.cell? ⟨g,off+ (i * T.n+j),none⟩ =some u:=by
    intro i;by_cases hil : i<len
    ·obtain⟨cs',_, ⟨y,rfl⟩,q⟩ :=hi i hil
     exact⟨y,fun _=>q⟩
    ·exact⟨T.dflt,fun h=>absurd h hil⟩
   exact⟨fun i=>Classical.choose (hex i),fun i hil=>Classical.choose_spec (hex i) hil⟩
  obtain⟨f,hf⟩ :=this;refine⟨_, (List.range len).map f,rfl,some ⟨g,off,none⟩,cap,by simp,by simpa using h1,h2,fun _=> ⟨g,off,rfl,hg,fun j u hu=> ?_⟩⟩;have hj : j<len * T.n:=by
   have:= (XW.1 hu).1;rw [nP] at this;simpa using this
  have hp:=T.pos;have hq : j / T.n<len:=by rw [Nat.div_lt_iff_lt_mul hp];exact hj
  have hx : ((List.range len).map f)[j / T.n]? =some (f (j / T.n)) :=by simp [hq]
  have hfg:=flat_get T _ (j / T.n) (j%T.n) _ hx (Nat.mod_lt _ hp);have hjj : j / T.n * T.n+j%T.n=j:=by rw [Nat.mul_comm];exact Nat.div_add_mod j T.n
  rw [hjj] at hfg;rw [hfg] at hu;have:=hf _ hq _ u hu;rw [hjj] at this;exact this
 ·have h0 : len=0:=by omega
  subst h0;exact⟨_, [],rfl,A,cap,rfl,h1,h2,fun hne=>absurd rfl hne⟩
end Go.Proofs.YtkmggglljkmjoaaGreat
namespace Go.Proofs.YtkmggglljkmjoaaGreat.Dj
open Go.RowKit
def kr (a b : Span) : Bool:=decide (a.To≤a.From) ||decide (b.To≤b.From) ||decide (a.To≤b.From) ||decide (b.To≤a.From)
def uP (l : List Span)(i : Nat)(s : Span) : Bool:=decide (0≤s.From) &&decide (s.To≤384) && !((l.take i).any fun o=> !kr s o)
def sH (l : List Span)(k : Nat) : Bool:= (List.range k).all fun i=>match l[i]? with|some s=>uP l i s|none=>true
def zK (l : List Span) : Bool:=sH l l.length
theorem GJ (l : List Span)(k : Nat)(hk : k<l.length) : sH l (k+1) = (sH l k&&uP l k l[k]) :=by
 simp [sH,List.range_succ,List.all_append,hk]
theorem rM (l : List Span)(k : Nat)(hk : k<l.length)(h : uP l k l[k]=false) : zK l=false:=by
 unfold zK sH;rw [List.all_eq_false];refine⟨k,by simpa using hk, ?_⟩;simp [hk,h]
theorem EW (a b : Span)(w : World) : Calls Tryz.prog 68 #[.agg #[.int .i64 a.From, .int .i64 a.To], .agg #[.int .i64 b.From, .int .i64 b.To]] w fun e w'=>e= .returned (.bool (kr a b)) ∧Below w.heap.size w w':=by
 by_cases h1 : a.To≤a.From
 ·go_enter Tryz.func68,Tryz.ntmps68
  go_wp2;go_ret;exact⟨aU (by simp [kr,h1]),by repeat (first|exact Below.refl _ _|refine Below.alloc ?_ (by simp<;>omega) _|refine bA ?_ (by simp<;>omega) _ _|refine Below.drew ?_)⟩
 by_cases h2 : b.To≤b.From
 ·go_enter Tryz.func68,Tryz.ntmps68
  go_wp2;go_ret;exact⟨aU (by simp [kr,h2]),by repeat (first|exact Below.refl _ _|refine Below.alloc ?_ (by simp<;>omega) _|refine bA ?_ (by simp<;>omega) _ _|refine Below.drew ?_)⟩
 by_cases h3 : a.To≤b.From
 ·go_enter Tryz.func68,Tryz.ntmps68
  go_wp2;go_ret;exact⟨aU (by simp [kr,h3]),by repeat (first|exact Below.refl _ _|refine Below.alloc ?_ (by simp<;>omega) _|refine bA ?_ (by simp<;>omega) _ _|refine Below.drew ?_)⟩
 go_enter Tryz.func68,Tryz.ntmps68;go_wp2;go_ret;exact⟨aU (by rw [Bool.eq_iff_iff];simp [kr];omega),by repeat (first|exact Below.refl _ _|refine Below.alloc ?_ (by simp<;>omega) _|refine bA ?_ (by simp<;>omega) _ _|refine Below.drew ?_)⟩
theorem M0 (a b : Span)(w : World) : Calls Tryz.prog 67 #[.agg #[.int .i64 a.From, .int .i64 a.To], .agg #[.int .i64 b.From, .int .i64 b.To]] w fun e w'=>e= .returned (.bool (kr a b)) ∧Below w.heap.size w w':=by
 by_cases h1 : a.To≤a.From
 ·go_enter Tryz.func67,Tryz.ntmps67
  go_wp2;go_ret;exact⟨aU (by simp [kr,h1]),by repeat (first|exact Below.refl _ _|refine Below.alloc ?_ (by simp<;>omega) _|refine bA ?_ (by simp<;>omega) _ _|refine Below.drew ?_)⟩
 by_cases h2 : b.To≤b.From
 ·go_enter Tryz.func67,Tryz.ntmps67
  go_wp2;go_ret;exact⟨aU (by simp [kr,h2]),by repeat (first|exact Below.refl _ _|refine Below.alloc ?_ (by simp<;>omega) _|refine bA ?_ (by simp<;>omega) _ _|refine Below.drew ?_)⟩
 by_cases h3 : a.To≤b.From
 ·go_enter Tryz.func67,Tryz.ntmps67
  go_wp2;go_ret;exact⟨aU (by simp [kr,h3]),by repeat (first|exact Below.refl _ _|refine Below.alloc ?_ (by simp<;>omega) _|refine bA ?_ (by simp<;>omega) _ _|refine Below.drew ?_)⟩
 go_enter Tryz.func67,Tryz.ntmps67;go_wp2;go_ret;exact⟨aU (by rw [Bool.eq_iff_iff];simp [kr];omega),by repeat (first|exact Below.refl _ _|refine Below.alloc ?_ (by simp<;>omega) _|refine bA ?_ (by simp<;>omega) _ _|refine Below.drew ?_)⟩
theorem O9 (l : List Span)(i m : Nat)(hi : i<l.length)(hm : m<i)(h : kr l[i] l[m]=false) : uP l i l[i]=false:=by
 have : ((l.take i).any fun o=> !kr l[i] o) =true:=List.any_eq_true.2 ⟨l[m],List.mem_take_iff_getElem.2 ⟨m,by omega,rfl⟩,by simp [h]⟩;simp [uP,this]
theorem KV (l : List Span)(i m : Nat)(hi : i<l.length)(hm : m<i)(h : ((l.take m).any fun o=> !kr l[i] o) =false)(ha : kr l[i] l[m]=true) : ((l.take (m+1)).any fun o=> !kr l[i] o) =false:=by
 rw [XZ (by omega),List.any_append,h];simp [ha]
theorem Aa (w : World)(v : Value)(l : List Span)(h : dX nQ w w.heap.size v l)(hs : l.length≤1073741824) :
  Calls Tryz.prog 16 #[v] w fun e w'=>e= .returned (.bool (zK l)) ∧Below w.heap.size w w':=by
 obtain⟨A,c,hv,_,_,_⟩ :=id h;subst hv;go_enter Tryz.func16,Tryz.ntmps16;go_wp2;go_loopw [3,4] (fun i _ wr=> ∃k : Nat,k≤l.length∧i= .int .i64 k∧Hid (sH l k=true) ∧Below w.heap.size w wr) (fun i _ _=>l.length - (intOf i).toNat)
 case atStart=>exact⟨0,X3 _,rfl,rfl,Below.refl _ _⟩
 case round=>
  obtain⟨i,hi,rfl,HD,hb⟩ :=hrel;by_cases hlt : i<l.length
  ·obtain⟨g1,o1,cap',he,hg,_,_,hc⟩ := (h.below hb).at_ (XL hlt)
   injection he with he1 he2 gq;clear he2;subst he1 gq;have z1 : g1<wr.heap.size:=XO hg hb.size;have p0 : wr.cell? ⟨g1,o1+i * 2,none⟩ =some (.int .i64 l[i].From) :=hc 0 _ rfl;have p1 : wr.cell? ⟨g1,o1+i * 2+1,none⟩ =some (.int .i64 l[i].To) :=hc 1 _ rfl;clear hc;by_cases hf : l[i].From<0
   ·have HS:=Hid.aD (rM l i hlt (by simp [uP];omega))
    go_wp2;go_ret;exact⟨aU HS.out.symm,hb⟩
   by_cases ht : 384<l[i].To
   ·have HS:=Hid.aD (rM l i hlt (by simp [uP];omega))
    go_wp2;go_ret;exact⟨aU HS.out.symm,hb⟩
   go_wp2;clear p0 p1;obtain⟨wo,rfl⟩ : ∃wo : World,wo=wr:= ⟨_,rfl⟩;go_loopw [4] (fun k wi=> ∃m : Nat,m≤i∧k= .int .i64 m∧Hid (((l.take m).any fun o=> !kr l[i] o) =false) ∧Below w.heap.size w wi) (fun k _=>i - (intOf k).toNat)
   case atStart=>exact⟨0,X3 _,rfl,rfl,hb⟩
   case round=>
    obtain⟨m,hm,rfl,HA,hbi⟩ :=hrel;by_cases hlm : m<i
    ·obtain⟨g1',Vj,xI,he,hg',_,_,hq⟩ := (h.below hbi).at_ (XL hlt)
     injection he with he1 he2 gq;clear he2 gq;injection he1 with he1;injection he1 with qP RN;subst qP RN;obtain⟨g1',Vj,VA,he,hg'',_,_,hq'⟩ := (h.below hbi).at_ (XL (show m<l.length by omega));injection he with he1 he2 Vk;clear he2 Vk;injection he1 with he1;injection he1 with qP RN;subst qP RN;have WE : m<l.length:=by omega
     have z2 : g1<wr.heap.size:=XO hg hbi.size;have z0 : w.heap.size≤wr.heap.size:=hbi.size;have p0 : wr.cell? ⟨g1,o1+i * 2,none⟩ =some (.int .i64 l[i].From) :=hq 0 _ rfl;have p1 : wr.cell? ⟨g1,o1+i * 2+1,none⟩ =some (.int .i64 l[i].To) :=hq 1 _ rfl;have r0 : wr.cell? ⟨g1,o1+m * 2,none⟩ =some (.int .i64 l[m].From) :=hq' 0 _ rfl;have r1 : wr.cell? ⟨g1,o1+m * 2+1,none⟩ =some (.int .i64 l[m].To) :=hq' 1 _ rfl;clear hq hq' h;by_cases ha : kr l[i] l[m]=true
     ·have HT:=Hid.aD (KV l i m hlt hlm HA.out ha)
      have HX:=Hid.aD ha;clear ha;go_wp2;go_region_held3 (fun w'=>w'.cell? ⟨g1,o1+i * 2,none⟩ =some (.int .i64 l[i].From) ∧w'.cell? ⟨g1,o1+i * 2+1,none⟩ =some (.int .i64 l[i].To) ∧w'.cell? ⟨g1,o1+m * 2,none⟩ =some (.int .i64 l[m].From) ∧w'.cell? ⟨g1,o1+m * 2+1,none⟩ =some (.int .i64 l[m].To) ∧g1<w'.heap.size∧Below w.heap.size w w') (first| (go_keep;done) | ((try go_split_ands);refine⟨?_, ?_, ?_, ?_, ?_, ?_⟩;all_goals first|assumption|exact Below.drew (by assumption) | (simp [go_sem, *];done) |exact bA (by assumption) (by omega) _ _| (rw [size_grow];omega))) ((go_at_call 68;refine(EW l[i] l[m] _).mono ?_;rintro e w1 ⟨rfl,hb1⟩;obtain⟨os1,d1,rfl⟩ :=bN hb1;clear hb1));rw [HX.out];go_wp2;go_roundw
      case rel=>first|exact⟨m+1,by omega,by go_num,HT,by first|assumption| (go_split_ands;assumption)⟩ | ((repeat apply Exists.intro);exact⟨⟨m+1,by omega,by go_num,HT,by first|assumption| (go_split_ands;assumption)⟩,rfl⟩)
      case measure=>simp [intOf];omega
     ·have ha' : kr l[i] l[m]=false:=by simpa using ha
      have HX:=Hid.aD ha';have HS:=Hid.aD (rM l i hlt (O9 l i m hlt hlm ha'));clear ha ha';go_wp2;go_region_held3 (fun w'=>w'.cell? ⟨g1,o1+i * 2,none⟩ =some (.int .i64 l[i].From) ∧w'.cell? ⟨g1,o1+i * 2+1,none⟩ =some (.int .i64 l[i].To) ∧w'.cell? ⟨g1,o1+m * 2,none⟩ =some (.int .i64 l[m].From) ∧w'.cell? ⟨g1,o1+m * 2+1,none⟩ =some (.int .i64 l[m].To) ∧g1<w'.heap.size∧Below w.heap.size w w') (first| (go_keep;done) | ((try go_split_ands);refine⟨?_, ?_, ?_, ?_, ?_, ?_⟩;all_goals first|assumption|exact Below.drew (by assumption) | (simp [go_sem, *];done) |exact bA (by assumption) (by omega) _ _| (rw [size_grow];omega))) ((go_at_call 68;refine(EW l[i] l[m] _).mono ?_;rintro e w1 ⟨rfl,hb1⟩;obtain⟨os1,d1,rfl⟩ :=bN hb1;clear hb1));rw [HX.out];go_wp2;go_ret;exact⟨aU HS.out.symm,by first|assumption| (go_split_ands;assumption)⟩
    ·obtain rfl : m=i:=by omega
     have HS:=Hid.aD (show sH l (m+1) =true from by
      rw [GJ l m hlt,HD.out];simp only [uP,HA.out];simp;omega)
     go_wp2;go_roundw
     case rel=>exact⟨m+1,by omega,by go_num,HS,hbi⟩
     case measure=>simp [intOf];omega
  ·go_wp2
   go_ret;obtain rfl : i=l.length:=by omega
   exact⟨aU HD.out.symm,hb⟩
def idxOf {α : Type}(p : α→Bool)(l : List α) : Int:=match l.findIdx? p with|some i=>i|none=> -1
theorem idxOf_hit {α : Type}(p : α→Bool)(l : List α)(i : Nat)(hi : i<l.length)(h : (l.take i).any p=false)(hp : p l[i]=true) : idxOf p l=i:=by
 have hf : l.findIdx? p=some i:=by
  rw [List.findIdx?_eq_some_iff_getElem];refine⟨hi,hp,fun j hj=> ?_⟩;rw [List.any_eq_false] at h;exact h l[j] (List.mem_take_iff_getElem.2 ⟨j,by omega,rfl⟩)
 unfold idxOf;rw [hf]
theorem mF {α : Type}(p : α→Bool)(l : List α)(h : l.any p=false) : idxOf p l= -1:=by
 have hf : l.findIdx? p=none:=by
  rw [List.findIdx?_eq_none_iff];intro x hx;rw [List.any_eq_false] at h;simpa using h x hx
 unfold idxOf;rw [hf]
theorem any_take_succ {α : Type}(p : α→Bool)(l : List α)(i : Nat)(hi : i<l.length)(h : (l.take i).any p=false)(hp : p l[i]=false) : (l.take (i+1)).any p=false:=by
 rw [XZ hi,List.any_append,h];simp [hp]
theorem og {α : Type}(p : α→Bool)(l : List α) : decide (0≤idxOf p l) =l.any p:=by
 unfold idxOf;cases h : l.findIdx? p with
 |none=>
  rw [List.findIdx?_eq_none_iff] at h;have : l.any p=false:=by
   rw [List.any_eq_false];intro x hx;simp [h x hx]
  rw [this];rfl
 |some i=>
  rw [List.findIdx?_eq_some_iff_getElem] at h;obtain⟨hi,hp,_⟩ :=h;have : l.any p=true:=List.any_eq_true.2 ⟨l[i],X0 hi,hp⟩;rw [this];simp
theorem DL (w : World)(v : Value)(l : List Span)(h : dX nQ w w.heap.size v l)(fid : FuncId)(cap : Array Value)(p : Span→Bool)(hent : ∀ (x : Span) (W : World), (callFunc fid (#[.agg #[.int .i64 x.From, .int .i64 x.To]]++cap)).run Tryz.prog W= .ok (.enter fid (#[.agg #[.int .i64 x.From, .int .i64 x.To]]++cap)) W)
  (hf : ∀ (x : Span) (W : World),x∈l→Below w.heap.size w W→Calls Tryz.prog fid (#[.agg #[.int .i64 x.From, .int .i64 x.To]]++cap) W fun e W'=>e= .returned (.bool (p x)) ∧Below W.heap.size W W') :
  Calls Tryz.prog 134 #[v, .func (.func fid) #[] cap] w fun e w'=>e= .returned (.int .i64 (idxOf p l)) ∧Below w.heap.size w w':=by
 obtain⟨A,c,hv,q1,q2,_⟩ :=id h;have kT : l.length≤9223372036854775807:=by unfold maxLen at q2;omega
 subst hv;have HF:=Hid.aD hf;clear hf q1 q2;go_enter Tryz.func134,Tryz.ntmps134;go_wp2;go_loopw [5,8] (fun _ i wr=> ∃i' : Nat,i'≤l.length∧i= .int .i64 i'∧Below w.heap.size w wr∧ (l.take i').any p=false) (fun _ i _=>l.length - (intOf i).toNat)
 case atStart=>exact⟨0,X3 _,rfl,Below.refl _ _,rfl⟩
 case round=>
  obtain⟨i,hi,rfl,hb,hno⟩ :=hrel;have HN:=Hid.aD hno;clear hno;by_cases hlt : i<l.length
  ·obtain⟨g,off,cap',he,hg,_,_,hc⟩ := (h.below hb).at_ (XL hlt)
   injection he with he1 he2 gq;clear he2;subst he1 gq;have p0 : wr.cell? ⟨g,off+i * 2,none⟩ =some (.int .i64 l[i].From) :=hc 0 _ rfl;have p1 : wr.cell? ⟨g,off+i * 2+1,none⟩ =some (.int .i64 l[i].To) :=hc 1 _ rfl;clear hc h;go_wp2_with fail;refine(HF.out l[i] wr (X0 hlt) hb).mono ?_;rintro e w1 ⟨rfl,hb1⟩;have hb2:=hb.trans (hb1.mono hb.size);by_cases hp : p l[i]=true
   ·have HP:=Hid.aD (idxOf_hit p l i hlt HN.out hp)
    rw [hp];clear hp;go_wp2;go_ret;exact⟨cB HP.out.symm,hb2⟩
   ·have hp' : p l[i]=false:=by simpa using hp
    have HP:=Hid.aD (any_take_succ p l i hlt HN.out hp');rw [hp'];clear hp hp';go_wp2;go_roundw
    case rel=>exact⟨i+1,by omega,by go_num,hb2,HP.out⟩
    case measure=>simp [intOf];omega
  ·go_wp2
   go_ret;obtain rfl : i=l.length:=by omega
   exact⟨cB (mF p l (by simpa using HN.out)).symm,hb⟩
theorem uH (w : World)(v : Value)(l : List Span)(h : dX nQ w w.heap.size v l)(fid : FuncId)(cap : Array Value)(p : Span→Bool)(hent : ∀ (x : Span) (W : World), (callFunc fid (#[.agg #[.int .i64 x.From, .int .i64 x.To]]++cap)).run Tryz.prog W= .ok (.enter fid (#[.agg #[.int .i64 x.From, .int .i64 x.To]]++cap)) W)
  (hf : ∀ (x : Span) (W : World),x∈l→Below w.heap.size w W→Calls Tryz.prog fid (#[.agg #[.int .i64 x.From, .int .i64 x.To]]++cap) W fun e W'=>e= .returned (.bool (p x)) ∧Below W.heap.size W W') :
  Calls Tryz.prog 65 #[v, .func (.func fid) #[] cap] w fun e w'=>e= .returned (.bool (l.any p)) ∧Below w.heap.size w w':=by
 have HF:=Hid.aD hf;clear hf;go_enter Tryz.func65,Tryz.ntmps65;go_wp2_with fail;refine(DL w v l h fid cap p hent HF.out).mono ?_;rintro e w1 ⟨rfl,hb1⟩;have HP:=Hid.aD (og p l);go_wp2;go_ret;exact⟨aU HP.out,hb1⟩
theorem dX.P8 {α : Type}{T : FT α}{w : World}{B : Nat}{A : Option Addr}{n c : Nat}{l : List α}(h : dX T w B (.slice A n c) l)(k : Nat)(hk : k≤l.length) : dX T w B (.slice A k c) (l.take k) :=by
 obtain⟨A',cap,hv,h1,h2,h3⟩ :=h;injection hv with e1 e2 e3;subst e1 e3;refine⟨A,c,by rw [List.length_take,Nat.min_eq_left hk],by rw [List.length_take];omega,h2,fun hne=> ?_⟩;have hl : l≠ []:=by rintro rfl;simp at hne
 obtain⟨g,off,hA,hg,hc⟩ :=h3 hl;refine⟨g,off,hA,hg,fun j u hu=>hc j u ?_⟩;have he : flat T l=flat T (l.take k) ++flat T (l.drop k) :=by rw [←rV,List.take_append_drop]
 rw [he,List.getElem?_append,if_pos (XW.1 hu).1];exact hu
theorem yO (s o : Span)(b : Nat)(w : World)(h0 : w.cell? ⟨b,0,none⟩ =some (.int .i64 s.From))(h1 : w.cell? ⟨b,1,none⟩ =some (.int .i64 s.To))(hb : b<w.heap.size) :
  Calls Tryz.prog 66 #[.agg #[.int .i64 o.From, .int .i64 o.To], .pointer (some ⟨b,0,none⟩)] w fun e w'=>e= .returned (.bool (!kr s o)) ∧Below w.heap.size w w':=by
 go_enter Tryz.func66,Tryz.ntmps66;go_wp2_with (go_at_call 67;refine(M0 s o _).mono ?_;rintro e w1 ⟨rfl,hb1⟩;obtain⟨os1,d1,rfl⟩ :=bN hb1;clear hb1);go_ret;exact⟨rfl,by repeat (first|exact Below.refl _ _|refine Below.alloc ?_ (by simp<;>omega) _|refine bA ?_ (by simp<;>omega) _ _|refine Below.drew ?_)⟩
theorem Ab (w : World)(v : Value)(l : List Span)(h : dX nQ w w.heap.size v l)(hs : l.length≤1073741824) :
  Calls Tryz.prog 15 #[v] w fun e w'=>e= .returned (.bool (zK l)) ∧Below w.heap.size w w':=by
 obtain⟨A,c,hv,_,_,_⟩ :=id h;subst hv;go_enter Tryz.func15,Tryz.ntmps15;go_wp2;go_loopw [3,4,7] (fun _ _ i wr=> ∃k : Nat,k≤l.length∧i= .int .i64 k∧Hid (sH l k=true) ∧Below w.heap.size w wr) (fun _ _ i _=>l.length - (intOf i).toNat)
 case atStart=>exact⟨0,X3 _,rfl,rfl,Below.refl _ _⟩
 case round=>
  obtain⟨i,hi,rfl,HD,hb⟩ :=hrel;by_cases hlt : i<l.length
  ·obtain⟨g1,o1,cap',he,hg,_,_,hc⟩ := (h.below hb).at_ (XL hlt)
   injection he with he1 he2 gq;clear he2;subst he1 gq;have z1 : g1<wr.heap.size:=XO hg hb.size;have p0 : wr.cell? ⟨g1,o1+i * 2,none⟩ =some (.int .i64 l[i].From) :=hc 0 _ rfl;have p1 : wr.cell? ⟨g1,o1+i * 2+1,none⟩ =some (.int .i64 l[i].To) :=hc 1 _ rfl;clear hc;by_cases hf : l[i].From<0
   ·have HS:=Hid.aD (rM l i hlt (by simp [uP];omega))
    go_wp2;go_ret;exact⟨aU HS.out.symm,hb.alloc hb.size _⟩
   by_cases ht : 384<l[i].To
   ·have HS:=Hid.aD (rM l i hlt (by simp [uP];omega))
    go_wp2;go_ret;exact⟨aU HS.out.symm,hb.alloc hb.size _⟩
   by_cases ha : ((l.take i).any fun o=> !kr l[i] o) =true
   ·have HA:=Hid.aD ha
    have HS:=Hid.aD (rM l i hlt (by simp only [uP,ha];simp));clear ha;go_wp2_with (go_at_call 65;refine(uH _ _ (l.take i) ((dX.P8 (bY h hb) i hi).av (XQ _) (by simp) _) 66 #[.pointer (some ⟨wr.heap.size,0,none⟩)] (fun o=> !kr l[i] o) (fun _ _=>by kernel_rfl) (fun x W _ hW=>yO l[i] x wr.heap.size W ((hW.cell (p:= ⟨wr.heap.size,0,none⟩) (by simp)).trans (by simp)) ((hW.cell (p:= ⟨wr.heap.size,1,none⟩) (by simp)).trans (by simp)) (by have:=hW.size;simp at this;omega))).mono ?_;rw [HA.out];rintro e w1 ⟨rfl,hb1⟩);go_ret;exact⟨aU HS.out.symm, (hb.alloc hb.size _).trans (hb1.mono (by have:=hb.size;simp;omega))⟩
   ·have ha' : ((l.take i).any fun o=> !kr l[i] o) =false:=by simpa using ha
    have HA:=Hid.aD ha';have HS:=Hid.aD (show sH l (i+1) =true from by
     rw [GJ l i hlt,HD.out];simp only [uP,ha'];simp;omega)
    clear ha ha';go_wp2_with (go_at_call 65;refine(uH _ _ (l.take i) ((dX.P8 (bY h hb) i hi).av (XQ _) (by simp) _) 66 #[.pointer (some ⟨wr.heap.size,0,none⟩)] (fun o=> !kr l[i] o) (fun _ _=>by kernel_rfl) (fun x W _ hW=>yO l[i] x wr.heap.size W ((hW.cell (p:= ⟨wr.heap.size,0,none⟩) (by simp)).trans (by simp)) ((hW.cell (p:= ⟨wr.heap.size,1,none⟩) (by simp)).trans (by simp)) (by have:=hW.size;simp at this;omega))).mono ?_;rw [HA.out];rintro e w1 ⟨rfl,hb1⟩);go_roundw
    case rel=>exact⟨i+1,by omega,by go_num,HS, (hb.alloc hb.size _).trans (hb1.mono (by have:=hb.size;simp;omega))⟩
    case measure=>simp [intOf];omega
  ·go_wp2
   go_ret;obtain rfl : i=l.length:=by omega
   exact⟨aU HD.out.symm,hb⟩
end Go.Proofs.YtkmggglljkmjoaaGreat.Dj
namespace Go.Proofs.YtkmggglljkmjoaaGreat
open Go.RowKit
theorem RO (w : World)(A : Option Addr)(n c : Nat)(h : n≤1048576) : Calls Tryz.prog 8 #[.slice A n c] w fun e w'=>e= .returned (.bool false) ∧w=w':=by
 go_enter Tryz.func8,Tryz.ntmps8;go_wp2;go_ret;exact⟨by first|rfl| (simp;omega),rfl⟩
theorem Qn (w : World)(A : Option Addr)(n c : Nat)(h : ¬ n≤1048576)(h2 : n≤9223372036854775807) : Calls Tryz.prog 8 #[.slice A n c] w fun e w'=>e= .returned (.bool true) ∧w=w':=by
 have h' : 1048576<n:=by omega
 go_enter Tryz.func8,Tryz.ntmps8;go_wp2;go_ret;exact⟨by first|rfl| (simp;omega),rfl⟩
theorem CX {l : List Int}(hb : ∀x∈l,0≤x∧x≤1000) : ∀k,0≤ (l.take k).sum∧ (l.take k).sum≤1000 * k
 |0=>by simp
 |k+1=>by
  have ih:=CX hb k;by_cases h : k<l.length
  ·rw [XZ h,List.sum_append,List.sum_singleton]
   have:=hb _ (X0 h);omega
  ·rw [List.take_of_length_le (by omega)] at ih⊢
   omega
theorem Ov (w : World)(v : Value)(l : List Int)(h : dX FI w w.heap.size v l)(hb : ∀x∈l,0≤x∧x≤1000)(hl : l.length≤1000) :
  Calls Tryz.prog 12 #[v] w fun e w'=>e= .returned (.int .i64 l.sum) ∧Below w.heap.size w w':=by
 obtain⟨A,c,hv,q1,q2,_⟩ :=id h;subst hv;clear q1 q2;go_enter Tryz.func12,Tryz.ntmps12;go_wp2;go_loopw [3,4] (fun n i wr=> ∃k : Nat,k≤l.length∧i= .int .i64 k∧n= .int .i64 (l.take k).sum∧Below w.heap.size w wr) (fun _ i _=>l.length - (intOf i).toNat)
 case atStart=>exact⟨0,X3 _,rfl,rfl,Below.refl _ _⟩
 case round=>
  obtain⟨k,hk,rfl,rfl,hB⟩ :=hrel;have hs:=CX hb k;have hs1:=hs.1;have hs2:=hs.2;clear hs;by_cases hlt : k<l.length
  ·obtain⟨g,off,cap',he,hg,_,_,hc⟩ := (h.below hB).at_ (XL hlt)
   injection he with he1 he2 gq;clear he2;subst he1 gq;have p0 : wr.cell? ⟨g,off+k,none⟩ =some (.int .i64 l[k]) :=by simpa [FI] using hc 0 _ rfl
   have hx:=hb _ (X0 hlt);have hx1:=hx.1;have hx2:=hx.2;have HS:=Hid.aD (show (l.take (k+1)).sum= (l.take k).sum+l[k] by rw [XZ hlt,List.sum_append,List.sum_singleton]);clear hc h hx;generalize l[k]=y at *
   generalize (l.take k).sum=m at *
   go_wp2;go_roundw
   case rel=>exact⟨k+1,by omega,by go_num,by rw [HS.out],hB⟩
   case measure=>simp [intOf];omega
  ·go_wp2
   go_ret;obtain rfl : k=l.length:=by omega
   exact⟨cB (by simp),hB⟩
end Go.Proofs.YtkmggglljkmjoaaGreat
namespace Go.Proofs.YtkmggglljkmjoaaGreat.Lim
open Go.RowKit
theorem x9 (v : Value) : (bq v).Nodup:=by
 unfold bq;cases v.ownBlock<;>simp
theorem _root_.Go.Proofs.YtkmggglljkmjoaaGreat.dF.snoc {α : Type}{T : FT α}{e E : TypeId}{w w' : World}{v v' : Value}{eU : List SV}{ll : List (List α)}(h : dF T e E w v eU ll){s : SV}{l : List α}(hl : aX T e w s.val l)(hd : ∀g∈bq s.val,g∉bT v eU)
  (ho : aX FS E w' v' (eU++ [s])) (hg : w.grownBy w' v.ownBlock) (hat : v'.ownBlock=v.ownBlock∨v'.ownBlock=some w.heap.size) : dF T e E w' v' (eU++ [s]) (ll++ [l]) :=by
 have hc:=bn.iD hg;have hn:=h.nodup;unfold bT at hn;rw [List.nodup_append] at hn;obtain⟨hn1,hn2,yA⟩ :=hn;refine⟨by simp [h.len],ho,fun k s' l' hk hl'=> ?_, ?_⟩
 ·by_cases hks : k<eU.length
  ·rw [List.getElem?_append_left hks] at hk
   rw [List.getElem?_append_left (by rw [←h.len];exact hks)] at hl';have hi:=h.inner k s' l' hk hl';exact hi.aM hc fun g hg1 hg2=>yA g hg2 g (List.mem_flatMap.2 ⟨s',XV hk,hg1⟩) rfl
  ·rw [List.getElem?_append_right (by omega)] at hk
   rw [List.getElem?_append_right (by rw [←h.len];omega), ←h.len] at hl';have hk0 : k - eU.length=0:=by
    have:= (XW.1 hk).1;simp at this;omega
   rw [hk0] at hk hl';cases hk;cases hl';exact hl.aM hc fun g hg1 hg2=>hd g hg1 (dw.2 (.inl (aS.1 hg2)))
 ·unfold bT
  rw [List.flatMap_append,List.nodup_append];refine⟨x9 _, ?_,fun a ha b hb=> ?_⟩
  ·rw [List.nodup_append]
   refine⟨hn2,by simpa using x9 s.val,fun a ha b hb=> ?_⟩;rintro rfl;have hb' : a∈bq s.val:=by simpa using hb
   exact hd a hb' (by unfold bT;exact XT.2 (.inr ha))
  ·rintro rfl
   rcases iY hat a ha with h1|h1
   ·rcases XT.1 hb with h2|h2
    ·exact yA a h1 a h2 rfl
    ·have h2' : a∈bq s.val:=by simpa using h2
     exact hd a h2' (dw.2 (.inl (aS.1 h1)))
   ·rcases XT.1 hb with h2|h2
    ·have:=h.lt a (by unfold bT;exact XT.2 (.inr h2))
     omega
    ·have h2' : a∈bq s.val:=by simpa using h2
     have:=dQ hl a h2';omega
theorem Tryz.stSV : ST Tryz.prog FS 35 123:= ⟨Tryz.underlying35, .agg #[.slice none 0 0],24,by kernel_rfl,rfl,by decide⟩
theorem pY (w : World)(v : Value)(t : List SV)(ll : List (List fP))(h : ig gZ w w.heap.size v t ll)(hs : fO ll≤536870912) :
  Calls Tryz.prog 233 #[v] w fun e w'=> ∃v' t',e= .returned v'∧dF gZ 83 123 w' v' t' ll∧ (∀g∈bT v' t',w.heap.size≤g) ∧Below w.heap.size w w':=by
 obtain⟨A,c,hv,_⟩ :=id h.outer;subst hv;obtain⟨en,hcap,hmx⟩ :=h.len';have kT : ll.length≤9223372036854775807:=by unfold maxLen at hmx;omega
 rw [en] at h⊢;clear en hcap hmx;have hs0 : ll.length≤536870912:=XR (Nat.le_add_right _ _) hs;have o0 : dF gZ 83 123 (w.alloc (.cells #[] 123)) (.slice (some ⟨w.heap.size,0,none⟩) 0 0) [] []:= ⟨rfl,aX.lit FS [] #[] rfl (by decide) w 123,fun k s l h=>by simp at h,by simp [bT,bq,Value.ownBlock]⟩;go_enter Tryz.func233,Tryz.ntmps233;go_wp2;go_loopw [3,4] (fun o i wr=> ∃k : Nat,k≤ll.length∧i= .int .i64 k∧ (∃t',dF gZ 83 123 wr o t' (ll.take k) ∧ (∀g∈bT o t',w.heap.size≤g)) ∧Below w.heap.size w wr) (fun _ i _=>ll.length - (intOf i).toNat)
 case atStart=>exact⟨0,X3 _,rfl, ⟨[],o0,by simp [bT,bq,Value.ownBlock]⟩, (Below.refl _ _).alloc (XQ _) _⟩
 case round=>
  obtain⟨i,hi,rfl, ⟨t',ho,hfo⟩,hb⟩ :=hrel;clear o0;by_cases hlt : i<ll.length
  ·obtain⟨g,o,A',c',rfl,hg,p0,r1⟩ :=h.row hb hlt
   have hlen : ll[i].length≤1073741824:=by have:=nX (X0 hlt);omega
   have htl : t'.length≤536870912:=by rw [ho.len,List.length_take];omega
   have hbW : Below w.heap.size w (wr.alloc (.cells #[] 83)) :=hb.alloc hb.size _;have z1 : g<wr.heap.size:=XO hg hb.size;have Qz:=Hid.aD (XZ hlt);clear h;go_wp2_with (first| (at_builtin;refine eP Tryz.stLRow rfl _ _ rfl (v:= .slice (some ⟨wr.heap.size,0,none⟩) 0 0) (y:= .slice A' ll[i].length c') (l:= []) (m:=ll[i]) rfl rfl (aX.lit gZ [] #[] rfl (by simp [maxLen]) _ _) (bY r1 hbW) (by simpa using hlen) ?_;intro vs w1 hos hg hat;rw [List.nil_append] at hos;have hbb : Below wr.heap.size wr w1:= ((Below.refl _ _).alloc (XQ _) _).grown hg (by simp) (by simp [Value.ownBlock]);have IC : ∀g∈bq vs,wr.heap.size≤g:= (fun g hg'=>by rcases iY hat g hg' with h|h; (simp [bq,Value.ownBlock] at h;omega); (simp at h;omega));obtain⟨A2,c2,hv2,_⟩ :=hos.rd';subst hv2) | (at_builtin;refine eP Tryz.stSV rfl _ _ rfl (v:=u3) (y:= .slice (some ⟨w1.heap.size,0,none⟩) 1 1) (l:=t') (m:= [⟨A2,ll[i].length,c2⟩]) rfl rfl ((ho.keep (fun g hg=>hbb.block g (ho.lt g hg))).outer.av _) (aX.lit FS [⟨A2,ll[i].length,c2⟩] #[.slice A2 ll[i].length c2] rfl (by simp [maxLen]) w1 123).rd' (by simp only [List.length_singleton];omega) ?_;intro v' w3 ho' hg' hat'));have hsn:=dF.snoc ((ho.keep (fun g hg=>hbb.block g (ho.lt g hg))).av (.cells #[.slice A2 ll[i].length c2] 123)) (s:= ⟨A2,ll[i].length,c2⟩) (hos.av _) (fun g hg hm=>by have a:=IC g hg;have b:=ho.lt g hm;omega) ho' hg' hat';have y9 : Below w.heap.size w w1:=hb.trans (hbb.mono hb.size);have hb3 : Below w.heap.size w w3:= (y9.alloc y9.size _).grown hg' (by simp;exact Nat.le_succ_of_le y9.size) (fun k hk=>hfo k (dw.2 (.inl hk)));go_roundw
   case rel=>
    refine⟨i+1,by omega,by go_num, ⟨_,by rw [Qz.out];exact hsn,fun b hb'=> ?_⟩,hb3⟩;unfold bT at hb';rw [List.flatMap_append] at hb';rcases XT.1 hb' with h1|h1
    ·rcases iY hat' b h1 with h2|h2
     ·exact hfo b (dw.2 (.inl (aS.1 h2)))
     ·have:=y9.size
      simp at h2;omega
    ·rcases XT.1 h1 with h2|h2
     ·exact hfo b (by unfold bT;exact XT.2 (.inr h2))
     ·have h4 : b∈bq (SV.val ⟨A2,ll[i].length,c2⟩) :=by simpa using h2
      have:=IC b h4;have:=hb.size;omega
   case measure=>simp [intOf];omega
  ·go_wp2
   go_ret;obtain rfl : i=ll.length:=by omega
   exact⟨u3,t',rfl,by simpa using ho,hfo,hb⟩
def RZ (n : Int)(w : World)(g : Nat)(code : List Int)(e : Ending)(w' : World) : Prop:= ∃x : Int,e= .returned (.int .i64 x) ∧0≤x∧ (x<n∨x=0) ∧fQ w' g code∧bn [g] w w'
theorem bU (w : World)(g : Nat)(code : List Int)(n : Int)(hn : dV n)(hc : fQ w g code) : Calls Tryz.prog 63 #[.pointer (some ⟨g,0,none⟩), .int .i64 n] w (RZ n w g code) :=by
 unfold dV at hn;by_cases h1 : n≤0
 ·go_enter Tryz.func63,Tryz.ntmps63
  go_wp2;go_ret;exact⟨0,rfl,by omega, .inr rfl,hc,bn.refl _ _⟩
 have h1' : 0<n:=by omega
 have hnz : ¬ n=0:=by omega
 by_cases h2 : n≤256
 ·go_enter Tryz.func63,Tryz.ntmps63
  go_wp2_with fail;refine(vF _ g code hc).mono ?_;rintro e w1 ⟨x,rfl,x0,x1,hc1,hg1⟩;go_wp2_with fail;go_ret;exact⟨_,rfl,Int.emod_nonneg _ hnz, .inl (Int.emod_lt_of_pos _ h1'),hc1,hg1⟩
 ·go_enter Tryz.func63,Tryz.ntmps63
  go_wp2_with fail;refine(vF _ g code hc).mono ?_;rintro e w1 ⟨x,rfl,x0,x1,hc1,hg1⟩;go_wp2_with fail;refine(vF _ g code hc1).mono ?_;rintro e w2 ⟨y,rfl,y0,y1,hc2,hg2⟩;go_wp2_with fail;refine(vF _ g code hc2).mono ?_;rintro e w3 ⟨z,rfl,z0,z1,hc3,hg3⟩;go_wp2_with fail;refine(vF _ g code hc3).mono ?_;rintro e w4 ⟨u,rfl,u0,u1,hc4,hg4⟩;go_wp2_with fail;go_ret;exact⟨_,rfl,Int.emod_nonneg _ hnz, .inl (Int.emod_lt_of_pos _ h1'),hc4, ((hg1.trans hg2).trans hg3).trans hg4⟩
def R3 (w : World)(g : Nat)(code : List Int)(e : Ending)(w' : World) : Prop:= ∃b : Bool,e= .returned (.bool b) ∧fQ w' g code∧bn [g] w w'
theorem vG (w : World)(g : Nat)(code : List Int)(n : Int)(hn : dV n)(hc : fQ w g code) : Calls Tryz.prog 136 #[.pointer (some ⟨g,0,none⟩), .int .i64 n] w (R3 w g code) :=by
 go_enter Tryz.func136,Tryz.ntmps136;go_wp2_with fail;refine(bU _ g code n hn hc).mono ?_;rintro e w1 ⟨x,rfl,x0,x1,hc1,hg1⟩;go_wp2_with fail;go_ret;exact⟨_,rfl,hc1,hg1⟩
def Px (l : List Int)(w : World)(g : Nat)(code : List Int)(e : Ending)(w' : World) : Prop:= ∃x : Int,e= .returned (.int .i64 x) ∧x∈l∧fQ w' g code∧bn [g] w w'
theorem q8 (w : World)(g : Nat)(code : List Int)(v : Value)(l : List Int)(ho : aX FI 3 w v l)(hd : g∉bq v)(hl : 0<l.length)(hl2 : l.length≤1048576)(hc : fQ w g code) : Calls Tryz.prog 64 #[.pointer (some ⟨g,0,none⟩),v] w (Px l w g code) :=by
 obtain⟨b,cap,rfl,hb⟩ :=ho.jf hl;go_enter Tryz.func64,Tryz.ntmps64;go_wp2_with fail;refine(bU _ g code l.length (by unfold dV;omega) hc).mono ?_;rintro e w1 ⟨x,rfl,x0,x1,hc1,hg1⟩;obtain⟨k,rfl⟩ :=XP x0;have hk : k<l.length:=by rcases x1 with h|h<;>omega
 have ho1:=ho.aM hg1 (fun b hb hm=>by simp at hm;subst hm;exact hd hb);have p0:=aX.nI ho1 (XL hk);have hm:=X0 hk;generalize l[k]=y at p0 hm;go_wp2_with fail;go_ret;exact⟨y,rfl,hm,hc1,hg1⟩
theorem _root_.Go.Proofs.YtkmggglljkmjoaaGreat.bn.uX {F : List Nat}{w w' : World}{o : Obj}(h : bn F (w.alloc o) w') : bn F w w':=
 ⟨h.os,h.tape,h.output,XR (by simp) h.size,fun k hk hn=> (h.block k (by simp;omega) hn).trans (Below.heap_alloc w o k hk)⟩
theorem fQ.alloc {w : World}{g : Nat}{code : List Int}(h : fQ w g code)(o : Obj) : fQ (w.alloc o) g code:=h.up ((Below.refl _ _).alloc (XQ _) _)
def q9 (s k : Int) : Int:=if bG 0 23 s=true∧bG 1 6 k=true then k * 32+s else 0
theorem CG (s k : Int) : 0≤q9 s k∧q9 s k≤223:=by
 unfold q9;split
 ·rename_i h
  have a:=bH.1 h.1;have b:=bH.1 h.2;omega
 ·omega
theorem sK (s k : Int)(w : World) : Calls Tryz.prog 41 #[.int .i64 s, .int .i64 k] w fun e w'=>e= .returned (.int .i64 (q9 s k)) ∧w=w':=by
 by_cases c1 : bG 0 23 s=true
 case neg=>
  have c1':= (XM _).mp c1;have HN:=Hid.aD (show q9 s k=0 from if_neg (fun h=>c1 h.1));clear c1;go_enter Tryz.func41,Tryz.ntmps41;go_wp2_with (go_at_call 102;refine(dH _ _ _ _).mono ?_;rintro e w3 ⟨rfl,rfl⟩);go_ret;exact⟨cB HN.out.symm,rfl⟩
 by_cases c2 : bG 1 6 k=true
 case neg=>
  have c2':= (XM _).mp c2;have HN:=Hid.aD (show q9 s k=0 from if_neg (fun h=>c2 h.2));clear c2;go_enter Tryz.func41,Tryz.ntmps41;go_wp2_with (go_at_call 102;refine(dH _ _ _ _).mono ?_;rintro e w3 ⟨rfl,rfl⟩);go_ret;exact⟨cB HN.out.symm,rfl⟩
 have HN:=Hid.aD (show q9 s k=k * 32+s from if_pos ⟨c1,c2⟩);have a:=bH.1 c1;have b:=bH.1 c2;go_enter Tryz.func41,Tryz.ntmps41;go_wp2_with (go_at_call 102;refine(dH _ _ _ _).mono ?_;rintro e w3 ⟨rfl,rfl⟩);go_ret;exact⟨cB HN.out.symm,rfl⟩
theorem yt (w : World)(g : Nat)(code : List Int)(hc : fQ w g code) : Calls Tryz.prog 137 #[.pointer (some ⟨g,0,none⟩)] w (Pw (-1) 224 w g code) :=by
 go_enter Tryz.func137,Tryz.ntmps137;go_wp2_with fail;refine(vG _ g code 8 (by unfold dV;omega) hc).mono ?_;rintro e w1 ⟨b,rfl,hc1,hg1⟩;have hlt1:=hc1.lt;cases b with
 |true=>
  go_wp2_with fail;have ho:=aX.lit FI [0, -1,31,32,55,56,63,64,192,215,216,223,224] #[.int .i64 0, .int .i64 (-1), .int .i64 31, .int .i64 32, .int .i64 55, .int .i64 56, .int .i64 63, .int .i64 64, .int .i64 192, .int .i64 215, .int .i64 216, .int .i64 223, .int .i64 224] rfl (by decide) w1 3;refine(q8 _ g code _ [0, -1,31,32,55,56,63,64,192,215,216,223,224] ho (by simp [bq,Value.ownBlock];omega) (by decide) (by decide) (hc1.alloc _)).mono ?_;rintro e w2 ⟨x,rfl,hx,hc2,hg2⟩;go_wp2_with fail;go_ret;refine⟨x,rfl, ?_, ?_,hc2,hg1.trans hg2.uX⟩;all_goals (simp at hx;omega)
 |false=>
  go_wp2_with fail;refine(bU _ g code 24 (by unfold dV;omega) hc1).mono ?_;rintro e w2 ⟨x,rfl,x0,x1,hc2,hg2⟩;go_wp2_with fail;refine(bU _ g code 6 (by unfold dV;omega) hc2).mono ?_;rintro e w3 ⟨y,rfl,y0,y1,hc3,hg3⟩;have y6 : y≤6:=by omega
  go_wp2_with fail;refine(sK _ _ _).mono ?_;rintro e w4 ⟨rfl,rfl⟩;go_wp2_with fail;go_ret;exact⟨_,rfl,by have:= (CG x (1+y)).1;omega,by have:= (CG x (1+y)).2;omega,hc3, (hg1.trans hg2).trans hg3⟩
end Go.Proofs.YtkmggglljkmjoaaGreat.Lim
namespace Go.Proofs.YtkmggglljkmjoaaGreat
open Go.RowKit
def kU (b : List Int)(p : Nat)(c : Int) : Nat→List Int
 |0=>putAt b (p * 64) [171,c,bS c]
 |i+1=>putAt (kU b p c i) (p * 64+8+i * (d_ c).toNat) (iZ 4 1)
def fU (h : Heap)(p : Nat)(c : Int) : Heap:= ⟨kU h.Y p c (bS c).toNat,h.Z.set p c⟩
def eT (p k : Nat) : List Int:= (List.range k).map fun i=> ((p * 4+i : Nat) : Int)
theorem tK (p k : Nat) : eT p (k+1) =eT p k++ [((p * 4+k : Nat) : Int)]:=by simp [eT,List.range_succ]
theorem rY (p k : Nat) : (eT p k).length=k:=by simp [eT]
theorem qm {b : List Int}{p : Nat}{c : Int}(hb : b.length=384)(hp : p<6)(hc : bG 0 2 c=true) : ∀i,i≤ (bS c).toNat→ (kU b p c i).length=384
 |0,_=>by
  unfold kU;rw [u_ (by simp;omega),hb]
 |i+1,hi=>by
  have hr:=qd hc (i:=i) (by omega);have ih:=qm hb hp hc i (by omega);unfold kU;rw [u_ (by rw [jO,ih];omega),ih]
theorem BA (w : World) : Calls Tryz.prog 221 #[] w fun e w'=> ∃H' : eX,e= .returned (.agg #[.slice H'.Y.a H'.Y.l H'.Y.c, .slice H'.Z.a H'.Z.l H'.Z.c]) ∧fM w' H' B_∧ (∀g∈H'.foot,w.heap.size≤g) ∧Below w.heap.size w w':=by
 have hmk : ∀w, (Instr.makeSlice 24 (.int .i64 384) (.int .i64 384)).run Tryz.prog w= .ok (.slice (some ⟨w.heap.size,0,none⟩) 384 384) (w.alloc (.cells (madeCells #[.int .i64 0] (384 * FI.n)) 3)) :=lM (P:=Tryz.prog) FI 24 3 (.int .i64 0) 8 Tryz.underlying24 Tryz.infoInt 384 (by omega) (by omega);have aj : aJ (((w.alloc (.cells #[.slice none 0 0, .slice none 0 0] 26)).alloc (.cells (madeCells #[.int .i64 0] (384 * FI.n)) 3)).alloc (.cells #[.slice (some ⟨w.heap.size+1,0,none⟩) 384 384, .slice none 0 0] 26)) w.heap.size [.slice none 0 0, .slice none 0 0]:= ((aJ.new w #[.slice none 0 0, .slice none 0 0] 26).alloc (.cells (madeCells #[.int .i64 0] (384 * FI.n)) 3)).alloc (.cells #[.slice (some ⟨w.heap.size+1,0,none⟩) 384 384, .slice none 0 0] 26);have iL : aJ (((w.alloc (.cells #[.slice none 0 0, .slice none 0 0] 26)).alloc (.cells (madeCells #[.int .i64 0] (384 * FI.n)) 3)).alloc (.cells #[.slice (some ⟨w.heap.size+1,0,none⟩) 384 384, .slice none 0 0] 26)) (w.heap.size+1+1) [.slice (some ⟨w.heap.size+1,0,none⟩) 384 384, .slice none 0 0]:=by
  have hb:=aJ.new ((w.alloc (.cells #[.slice none 0 0, .slice none 0 0] 26)).alloc (.cells (madeCells #[.int .i64 0] (384 * FI.n)) 3)) #[.slice (some ⟨w.heap.size+1,0,none⟩) 384 384, .slice none 0 0] 26;simp only [World.size_alloc] at hb;exact hb
 have oB:= (aX.made FI #[.int .i64 0] rfl 384 (by simp [maxLen]) (w.alloc (.cells #[.slice none 0 0, .slice none 0 0] 26)) 3).av (.cells #[.slice (some ⟨w.heap.size+1,0,none⟩) 384 384, .slice none 0 0] 26);simp only [World.size_alloc] at oB;have hB : Below w.heap.size w (((w.alloc (.cells #[.slice none 0 0, .slice none 0 0] 26)).alloc (.cells (madeCells #[.int .i64 0] (384 * FI.n)) 3)).alloc (.cells #[.slice (some ⟨w.heap.size+1,0,none⟩) 384 384, .slice none 0 0] 26)) :=cO;go_enter Tryz.func221,Tryz.ntmps221;go_wp2_with fail;generalize hW0 : (((w.alloc (.cells #[.slice none 0 0, .slice none 0 0] 26)).alloc (.cells (madeCells #[.int .i64 0] (384 * FI.n)) 3)).alloc (.cells #[.slice (some ⟨w.heap.size+1,0,none⟩) 384 384, .slice none 0 0] 26)) =w0 at aj iL oB hB⊢;clear hW0 hmk;go_loopw [2] (fun i wr=> ∃ (k : Nat) (A : Option Addr) (cp : Nat),k≤6∧i= .int .i64 k∧aJ wr w.heap.size [.slice none 0 0, .slice none 0 0]∧aJ wr (w.heap.size+1+1) [.slice (some ⟨w.heap.size+1,0,none⟩) 384 384, .slice A k cp]∧aX FI 3 wr (.slice (some ⟨w.heap.size+1,0,none⟩) 384 384) (List.replicate 384 0) ∧aX FI 3 wr (.slice A k cp) (List.replicate k (-1)) ∧ (∀b∈bq (.slice A k cp),w.heap.size+2<b) ∧Below w.heap.size w wr) (fun i _=>6 - (intOf i).toNat)
 case atStart=>exact⟨0,none,0,by omega,rfl,aj,iL,oB, ⟨rfl, .inl ⟨rfl,rfl⟩⟩,fun b hb=>by simp [bq,Value.ownBlock] at hb,hB⟩
 case round=>
  clear aj iL oB hB;obtain⟨k,A,cp,hk,rfl,aj,iL,oB,oC,fC,hB⟩ :=hrel;obtain⟨jV,jW,l6,nZ⟩ :=iL.f2;have aR:=aj.lt;by_cases hlt : k<6
  ·have zz:=nZ
   go_wp2_with (at_builtin;refine eP Tryz.stInt rfl _ _ rfl (v:= .slice A k cp) (y:= .slice (some ⟨wr.heap.size,0,none⟩) 1 1) (l:=List.replicate k (-1)) (m:= [(-1 : Int)]) rfl rfl (oC.av _) (aX.lit FI [(-1 : Int)] #[.int .i64 (-1)] rfl (by simp [maxLen]) wr 3).rd' (by simp;omega) ?_;intro v7 w7 Rk QI Rl;obtain⟨A7,c7,hv7,_⟩ :=Rk.rd';simp only [XU,List.length_replicate,List.length_singleton] at hv7;subst hv7;have hx:=bn.iD QI;replace iL:= (iL.alloc _).aM hx (fun hm=>by have:=fC _ hm;omega);clear jV jW l6 nZ;obtain⟨jV,jW,l6,nZ⟩ :=iL.f2);have Rc:= (hB.alloc hB.size (.cells #[.int .i64 (-1)] 3)).trans (hx.below (by simp;exact Nat.le_succ_of_le hB.size) (fun b hb=>by have:=fC b hb;omega));go_roundw
   case rel=>
    refine⟨k+1,A7,c7,by omega,by go_num, ((aj.alloc _).aM hx (fun hm=>by have:=fC _ hm;omega)).other (by omega) _,iL.set 1 _, ?_, ?_,fun b hb=> ?_,Rc.setCell (by simp;omega) _⟩
    ·exact((oB.av _).aM hx (fun b hb hm=>by have e1:=aS.1 hb;simp [Value.ownBlock] at e1;have:=fC b hm;omega)).keep (fun b hb=>j5 w7 _ (fun e=>by simp [Value.ownBlock] at hb;have e3 : b=w.heap.size+1+1:=e.symm;omega))
    ·have e : List.replicate k (-1 : Int) ++ [-1]=List.replicate (k+1) (-1) :=by rw [List.replicate_succ', ]
     rw [e] at Rk;exact Rk.keep (fun b hb=>j5 w7 _ (fun e=>by
      have e3 : b=w.heap.size+1+1:=e.symm;rcases iY Rl b (aS.2 hb) with hh|hh
      ·have:=fC b hh
       omega
      ·simp at hh
       omega))
    ·rcases iY Rl b hb with hh|hh
     ·exact fC b hh
     ·simp at hh
      omega
   case measure=>simp [intOf];omega
  ·obtain rfl : k=6:=by omega
   have ak:=aj.cell 0 _ rfl;have au:=aj.cell 1 _ rfl;have aH:=aj.dN;go_wp2_with fail;refine bodyPost_ret (v:= .agg #[.slice (some ⟨w.heap.size+1,0,none⟩) 384 384, .slice A 6 cp]) (by simp [results,Tryz.results221,go_sem,ak,au]) rfl ⟨⟨⟨some ⟨w.heap.size+1,0,none⟩,384,384⟩, ⟨A,6,cp⟩⟩,rfl, ⟨oB.aM (F:= [w.heap.size]) dx (fun b hb hm=>by have e1:=aS.1 hb;simp [SV.val,Value.ownBlock] at e1;simp only [Pe,Pd,XK] at hm;omega),oC.aM (F:= [w.heap.size]) dx (fun b hb hm=>by have:=fC b hb;simp only [Pe,Pd,XK] at hm;omega),fun b hb hm=>by have e1:=aS.1 hb;simp [SV.val,Value.ownBlock] at e1;have:=fC b hm;omega⟩,fun b hb=> ?_,Below.trans hB dU⟩;rcases eX.aI.1 hb with hb|hb
   ·have e1:=aS.1 hb
    simp [SV.val,Value.ownBlock] at e1;omega
   ·have:=fC b hb
    omega
end Go.Proofs.YtkmggglljkmjoaaGreat
