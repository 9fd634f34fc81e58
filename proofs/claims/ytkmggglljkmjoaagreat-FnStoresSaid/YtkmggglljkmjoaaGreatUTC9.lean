/-
  Several texts in one: lemmas and contracts that the claim rests on.
-/
import Derived.Test.YtkmggglljkmjoaaGreatUTC1
import Derived.Test.YtkmggglljkmjoaaGreatUTC8
import Derived.Test.YtkmggglljkmjoaaGreatUTC2
import Derived.Deep.QuietTactic
import Derived.BigQuiet
import Derived.Deep.LoopGhost
import Derived.Deep.RegionHeld3
import Derived.WalkSpells
import Derived.Laws.Cover3
import Derived.Test.YtkmggglljkmjoaaGreatUTC3
namespace Go.Proofs.YtkmggglljkmjoaaGreat
open Go.RowKit
structure Base where
 Mem : Mem
 Clock : Clock
 ni : List (List zf)
 su : List Int
structure lq where
 Mem : bP
 Clock : lM
 ni : SV
 vX : List SV
 su : SV
@[reducible] def lq.val (H : lq) (x : Base) : Value:= .agg #[.slice H.Mem.E.Y.a H.Mem.E.Y.l H.Mem.E.Y.c, .slice H.Mem.E.Z.a H.Mem.E.Z.l H.Mem.E.Z.c, .slice H.Mem.I.G.a H.Mem.I.G.l H.Mem.I.G.c, .slice H.Mem.I.O.a H.Mem.I.O.l H.Mem.I.O.c, .int .i64 x.Clock.Epoch, .slice H.Clock.pq.a H.Clock.pq.l H.Clock.pq.c, .slice H.ni.a H.ni.l H.ni.c, .slice H.su.a H.su.l H.su.c]
def lq.foot (H : lq) : List Nat:=H.Mem.foot++H.Clock.foot++dH H.ni.val H.vX++cu H.su.val
structure zD (w : World)(B : Nat)(H : lq)(x : Base) : Prop where
 Mem : gJ w B H.Mem x.Mem
 Clock : vL w B H.Clock x.Clock
 ni : jl Kn w B H.ni.val H.vX x.ni
 su : fE FI w B H.su.val x.su
structure lI (w : World)(H : lq)(x : Base) : Prop where
 Mem : d9 w H.Mem x.Mem
 Clock : kF w H.Clock x.Clock
 ni : dR Kn 83 123 w H.ni.val H.vX x.ni
 su : bA FI 3 w H.su.val x.su
 iV : ∀g∈H.Mem.foot,g∉H.Clock.foot
 Ol : ∀g∈H.Mem.foot,g∉dH H.ni.val H.vX
 Om : ∀g∈H.Mem.foot,g∉cu H.su.val
 Oo : ∀g∈H.Clock.foot,g∉dH H.ni.val H.vX
 Oq : ∀g∈H.Clock.foot,g∉cu H.su.val
 Ot : ∀g∈dH H.ni.val H.vX,g∉cu H.su.val
theorem zD.keep {w w' : World}{B B' : Nat}{H : lq}{x : Base}(h : zD w B H x)(hk : ∀k,k<B→w'.heap[k]? =w.heap[k]?)(hB : B≤B') : zD w' B' H x:=
 ⟨h.Mem.keep hk hB,h.Clock.keep hk hB,h.ni.keep hk hB,h.su.keep hk hB⟩
theorem lq.aX {H : lq}{g : Nat} : g∈H.foot↔g∈H.Mem.foot∨g∈H.Clock.foot∨g∈dH H.ni.val H.vX∨g∈cu H.su.val:=by
 unfold lq.foot
 simp only [List.mem_append,or_assoc]
theorem lI.lt {w : World}{H : lq}{x : Base}(h : lI w H x) : ∀g∈H.foot,g<w.heap.size:=by
 intro g hg
 rcases lq.aX.1 hg with hg|hg|hg|hg
 ·exact h.Mem.lt g hg
 ·exact h.Clock.lt g hg
 ·exact h.ni.lt g hg
 ·exact(iQ h.su) g hg
theorem lI.keep {w w' : World}{H : lq}{x : Base}(h : lI w H x)(hk : ∀g∈H.foot,w'.heap[g]? =w.heap[g]?) : lI w' H x:=
 ⟨h.Mem.keep (fun g hg=>hk g (lq.aX.2 (.inl hg))),h.Clock.keep (fun g hg=>hk g (lq.aX.2 ((.inr (.inl hg))))),h.ni.keep (fun g hg=>hk g (lq.aX.2 ((.inr ((.inr (.inl hg))))))),h.su.keep (fun g hg=>hk g (lq.aX.2 ((.inr ((.inr ((.inr (bV.2 hg))))))))),h.iV,h.Ol,h.Om,h.Oo,h.Oq,h.Ot⟩
theorem lI.aM {w w' : World}{H : lq}{x : Base}{F : List Nat}(h : lI w H x)(hc : aY F w w')(hd : ∀g∈H.foot,g∉F) : lI w' H x:=h.keep fun g hg=>hc.block g (h.lt g hg) (hd g hg)
theorem lI.rd {w : World}{B : Nat}{H : lq}{x : Base}(h : lI w H x)(hB : ∀g∈H.foot,g<B) : zD w B H x:=
 ⟨h.Mem.rd (fun g hg=>hB g (lq.aX.2 (.inl hg))),h.Clock.rd (fun g hg=>hB g (lq.aX.2 ((.inr (.inl hg))))),h.ni.rd (fun g hg=>hB g (lq.aX.2 ((.inr ((.inr (.inl hg))))))),h.su.rd (fun g hg=>hB g (lq.aX.2 ((.inr ((.inr ((.inr (bV.2 hg)))))))))⟩
theorem lI.rd' {w : World}{H : lq}{x : Base}(h : lI w H x) : zD w w.heap.size H x:=h.rd h.lt
end Go.Proofs.YtkmggglljkmjoaaGreat
namespace Go.Proofs.YtkmggglljkmjoaaGreat
open Go.RowKit
end Go.Proofs.YtkmggglljkmjoaaGreat
namespace Go.Proofs.YtkmggglljkmjoaaGreat
open Go.RowKit
end Go.Proofs.YtkmggglljkmjoaaGreat
namespace Go.Proofs.YtkmggglljkmjoaaGreat
open Go.RowKit
end Go.Proofs.YtkmggglljkmjoaaGreat
namespace Go.Proofs.YtkmggglljkmjoaaGreat
open Go.RowKit
end Go.Proofs.YtkmggglljkmjoaaGreat
namespace Go.Proofs.YtkmggglljkmjoaaGreat
open Go.RowKit
end Go.Proofs.YtkmggglljkmjoaaGreat
namespace Go.Proofs.YtkmggglljkmjoaaGreat
open Go.RowKit
theorem eX {B : Nat}{w0 w w' : World}{o : Obj}(hB : Below B w0 w)(hb : Below (w.alloc o).heap.size (w.alloc o) w')(h : B≤w.heap.size) : Below B w0 w':= (hB.alloc h o).trans (hb.mono (by simp;omega))
theorem bA.step {α : Type}{T : FT α}{e : TypeId}{w w' : World}{o : Obj}{v : Value}{l : List α}(h : bA T e w v l)(hb : Below (w.alloc o).heap.size (w.alloc o) w') : bA T e w' v l:= (h.aH o).keep (fun g hg=>hb.block g (iQ (h.aH o) g (bV.2 hg)))
theorem bA.step0 {α : Type}{T : FT α}{e : TypeId}{w w' : World}{v : Value}{l : List α}(h : bA T e w v l)(hb : Below w.heap.size w w') : bA T e w' v l:=h.keep (fun g hg=>hb.block g (iQ h g (bV.2 hg)))
theorem dR.step {α : Type}{T : FT α}{e E : TypeId}{w w' : World}{o : Obj}{v : Value}{s : List SV}{l : List (List α)}(h : dR T e E w v s l)(hb : Below (w.alloc o).heap.size (w.alloc o) w') : dR T e E w' v s l:= (h.aH o).keep (fun g hg=>hb.block g ((h.aH o).lt g hg))
theorem dR.step0 {α : Type}{T : FT α}{e E : TypeId}{w w' : World}{v : Value}{s : List SV}{l : List (List α)}(h : dR T e E w v s l)(hb : Below w.heap.size w w') : dR T e E w' v s l:=h.keep (fun g hg=>hb.block g (h.lt g hg))
theorem gq {w w' : World}(hb : Below w.drew.heap.size w.drew w') : Below w.heap.size w w':= ⟨hb.os,hb.tape,hb.output,hb.size,hb.block⟩
theorem ji {w : World}{F : List Nat}(h : ∀g∈F,w.drew.heap.size≤g) : ∀g∈F,w.heap.size≤g:=h
theorem fA.aH {w : World}{H : dU}{x : Heap}(h : fA w H x)(o : Obj) : fA (w.alloc o) H x:=h.keep fun g hg=>Below.heap_alloc w o g (h.lt g hg)
theorem fA.step {w w' : World}{o : Obj}{H : dU}{x : Heap}(h : fA w H x)(hb : Below (w.alloc o).heap.size (w.alloc o) w') : fA w' H x:= (h.aH o).keep (fun g hg=>hb.block g ((h.aH o).lt g hg))
theorem fA.step0 {w w' : World}{H : dU}{x : Heap}(h : fA w H x)(hb : Below w.heap.size w w') : fA w' H x:=h.keep (fun g hg=>hb.block g (h.lt g hg))
theorem dZ.aH {w : World}{H : aZ}{x : Lists}(h : dZ w H x)(o : Obj) : dZ (w.alloc o) H x:=h.keep fun g hg=>Below.heap_alloc w o g (h.lt g hg)
theorem dZ.step {w w' : World}{o : Obj}{H : aZ}{x : Lists}(h : dZ w H x)(hb : Below (w.alloc o).heap.size (w.alloc o) w') : dZ w' H x:= (h.aH o).keep (fun g hg=>hb.block g ((h.aH o).lt g hg))
theorem dZ.step0 {w w' : World}{H : aZ}{x : Lists}(h : dZ w H x)(hb : Below w.heap.size w w') : dZ w' H x:=h.keep (fun g hg=>hb.block g (h.lt g hg))
theorem d9.aH {w : World}{H : bP}{x : Mem}(h : d9 w H x)(o : Obj) : d9 (w.alloc o) H x:=h.keep fun g hg=>Below.heap_alloc w o g (h.lt g hg)
theorem d9.step {w w' : World}{o : Obj}{H : bP}{x : Mem}(h : d9 w H x)(hb : Below (w.alloc o).heap.size (w.alloc o) w') : d9 w' H x:= (h.aH o).keep (fun g hg=>hb.block g ((h.aH o).lt g hg))
theorem d9.step0 {w w' : World}{H : bP}{x : Mem}(h : d9 w H x)(hb : Below w.heap.size w w') : d9 w' H x:=h.keep (fun g hg=>hb.block g (h.lt g hg))
theorem kF.aH {w : World}{H : lM}{x : Clock}(h : kF w H x)(o : Obj) : kF (w.alloc o) H x:=h.keep fun g hg=>Below.heap_alloc w o g (h.lt g hg)
theorem kF.step {w w' : World}{o : Obj}{H : lM}{x : Clock}(h : kF w H x)(hb : Below (w.alloc o).heap.size (w.alloc o) w') : kF w' H x:= (h.aH o).keep (fun g hg=>hb.block g ((h.aH o).lt g hg))
theorem kF.step0 {w w' : World}{H : lM}{x : Clock}(h : kF w H x)(hb : Below w.heap.size w w') : kF w' H x:=h.keep (fun g hg=>hb.block g (h.lt g hg))
theorem lI.aH {w : World}{H : lq}{x : Base}(h : lI w H x)(o : Obj) : lI (w.alloc o) H x:=h.keep fun g hg=>Below.heap_alloc w o g (h.lt g hg)
theorem lI.step {w w' : World}{o : Obj}{H : lq}{x : Base}(h : lI w H x)(hb : Below (w.alloc o).heap.size (w.alloc o) w') : lI w' H x:= (h.aH o).keep (fun g hg=>hb.block g ((h.aH o).lt g hg))
theorem lI.step0 {w w' : World}{H : lq}{x : Base}(h : lI w H x)(hb : Below w.heap.size w w') : lI w' H x:=h.keep (fun g hg=>hb.block g (h.lt g hg))
end Go.Proofs.YtkmggglljkmjoaaGreat
namespace Go.Proofs.YtkmggglljkmjoaaGreat
open Go.RowKit
set_option maxRecDepth 100000 in
set_option maxHeartbeats 2000000 in
theorem sw (w : World)(H : dU)(x : Heap)(s : Int)(h : gU w w.heap.size H x) :
  Calls Tryz.prog 29 #[.agg #[.slice H.Y.a H.Y.l H.Y.c, .slice H.Z.a H.Z.l H.Z.c], .int .i64 s] w fun e w'=>e= .returned (.int .i64 (jQ x s)) ∧Below w.heap.size w w':=by
 have k0:=fun (W : World) (hW : Below w.heap.size w W) =>vP W H x (dW h hW)
 have k1:=fun (W : World) (hW : Below w.heap.size w W) hsh=>mD W H x s (dW h hW) hsh
 have HV : Hid (jQ x s=if gI x=true then aO x s else -1) :=Hid.aT rfl
 generalize gI x=c0 at k0 k1 HV
 generalize aO x s=v at k1 HV
 cases c0 with
 |false=>
  replace HV : Hid (jQ x s= -1) :=Hid.aT HV.out
  obtain⟨w0,hW0⟩ : ∃x,x= (w.alloc (.cells #[.slice H.Y.a H.Y.l H.Y.c, .slice H.Z.a H.Z.l H.Z.c] 26)) := ⟨_,rfl⟩
  have au : aB w0 (w.heap.size) [.slice H.Y.a H.Y.l H.Y.c, .slice H.Z.a H.Z.l H.Z.c]:=by
   rw [hW0]
   exact aB.nw
  have hB : Below w.heap.size w w0:=by
   rw [hW0]
   exact dJ
  go_enter Tryz.func29,Tryz.ntmps29
  go_wp2_with fail
  rw [←hW0]
  clear hW0
  have g_:=au.lt
  obtain⟨aD,aF,aL,aQ⟩ :=au.f2
  refine(k0 _ hB).mono ?_
  rintro e w1 ⟨rfl,hb⟩
  replace au:=au.below hb
  replace hB:=hB.trans (hb.mono hB.size)
  have sz:=hb.size
  clear hb
  clear aD aF aL aQ
  obtain⟨aD,aF,aL,aQ⟩ :=au.f2
  clear k0
  go_wp2_with fail
  go_ret
  exact⟨dN HV.out.symm,by first|exact hB|exact hB.drew⟩
 |true=>
  replace HV : Hid (jQ x s=v) :=Hid.aT HV.out
  obtain⟨w0,hW0⟩ : ∃x,x= (w.alloc (.cells #[.slice H.Y.a H.Y.l H.Y.c, .slice H.Z.a H.Z.l H.Z.c] 26)) := ⟨_,rfl⟩
  have au : aB w0 (w.heap.size) [.slice H.Y.a H.Y.l H.Y.c, .slice H.Z.a H.Z.l H.Z.c]:=by
   rw [hW0]
   exact aB.nw
  have hB : Below w.heap.size w w0:=by
   rw [hW0]
   exact dJ
  go_enter Tryz.func29,Tryz.ntmps29
  go_wp2_with fail
  rw [←hW0]
  clear hW0
  have g_:=au.lt
  obtain⟨aD,aF,aL,aQ⟩ :=au.f2
  refine(k0 _ hB).mono ?_
  rintro e w1 ⟨rfl,hb⟩
  replace au:=au.below hb
  replace hB:=hB.trans (hb.mono hB.size)
  have sz:=hb.size
  clear hb
  clear aD aF aL aQ
  obtain⟨aD,aF,aL,aQ⟩ :=au.f2
  clear k0
  go_wp2_with fail
  refine(k1 _ hB trivial).mono ?_
  rintro e w2 ⟨rfl,hb⟩
  replace au:=au.below hb
  replace hB:=hB.trans (hb.mono hB.size)
  have sz:=hb.size
  clear hb
  clear aD aF aL aQ
  obtain⟨aD,aF,aL,aQ⟩ :=au.f2
  clear k1
  go_wp2_with fail
  go_ret
  exact⟨dN HV.out.symm,by first|exact hB|exact hB.drew⟩
def xD (x : Heap)(s : Int) : Int:=if jQ x s<0 then 0 else dz x s
theorem AL {x : Heap}{s : Int}(h : ¬ jQ x s<0) : gI x=true∧ ¬ aO x s<0∧jQ x s=aO x s:=by
 unfold jQ at h⊢
 by_cases c : gI x=true
 ·rw [if_pos c] at h⊢
  exact⟨c,h,rfl⟩
 ·rw [if_neg c] at h
  exact absurd (by decide) h
set_option maxRecDepth 100000 in
set_option maxHeartbeats 2000000 in
theorem Hy (w : World)(H : dU)(x : Heap)(s : Int)(h : gU w w.heap.size H x) :
  Calls Tryz.prog 42 #[.agg #[.slice H.Y.a H.Y.l H.Y.c, .slice H.Z.a H.Z.l H.Z.c], .int .i64 s] w fun e w'=>e= .returned (.int .i64 (xD x s)) ∧Below w.heap.size w w':=by
 have k0:=fun (W : World) (hW : Below w.heap.size w W) =>sw W H x s (dW h hW)
 by_cases c : jQ x s<0
 case pos=>
  have HV : Hid (xD x s=0) :=Hid.aT (if_pos c)
  generalize jQ x s=v at k0 c
  obtain⟨w0,hW0⟩ : ∃x,x= (w.alloc (.cells #[.slice H.Y.a H.Y.l H.Y.c, .slice H.Z.a H.Z.l H.Z.c] 26)) := ⟨_,rfl⟩
  have au : aB w0 (w.heap.size) [.slice H.Y.a H.Y.l H.Y.c, .slice H.Z.a H.Z.l H.Z.c]:=by
   rw [hW0]
   exact aB.nw
  have hB : Below w.heap.size w w0:=by
   rw [hW0]
   exact dJ
  go_enter Tryz.func42,Tryz.ntmps42
  go_wp2_with fail
  rw [←hW0]
  clear hW0
  have g_:=au.lt
  obtain⟨aD,aF,aL,aQ⟩ :=au.f2
  refine(k0 _ hB).mono ?_
  rintro e w1 ⟨rfl,hb⟩
  replace au:=au.below hb
  replace hB:=hB.trans (hb.mono hB.size)
  have sz:=hb.size
  clear hb
  clear aD aF aL aQ
  obtain⟨aD,aF,aL,aQ⟩ :=au.f2
  clear k0
  go_wp2_with fail
  go_ret
  exact⟨dN HV.out.symm,by first|exact hB|exact hB.drew⟩
 case neg=>
  obtain⟨c1,c2,c3⟩ :=AL c
  have HV : Hid (xD x s=dz x s) :=Hid.aT (if_neg c)
  have k1:=fun (W : World) (hW : Below w.heap.size w W) =>qH W H x s (dW h hW) c1 c2
  clear c1 c2 c3
  generalize jQ x s=v at k0 c
  generalize dz x s=u at k1 HV
  obtain⟨w0,hW0⟩ : ∃x,x= (w.alloc (.cells #[.slice H.Y.a H.Y.l H.Y.c, .slice H.Z.a H.Z.l H.Z.c] 26)) := ⟨_,rfl⟩
  have au : aB w0 (w.heap.size) [.slice H.Y.a H.Y.l H.Y.c, .slice H.Z.a H.Z.l H.Z.c]:=by
   rw [hW0]
   exact aB.nw
  have hB : Below w.heap.size w w0:=by
   rw [hW0]
   exact dJ
  go_enter Tryz.func42,Tryz.ntmps42
  go_wp2_with fail
  rw [←hW0]
  clear hW0
  have g_:=au.lt
  obtain⟨aD,aF,aL,aQ⟩ :=au.f2
  refine(k0 _ hB).mono ?_
  rintro e w1 ⟨rfl,hb⟩
  replace au:=au.below hb
  replace hB:=hB.trans (hb.mono hB.size)
  have sz:=hb.size
  clear hb
  clear aD aF aL aQ
  obtain⟨aD,aF,aL,aQ⟩ :=au.f2
  clear k0
  go_wp2_with fail
  refine(k1 _ hB).mono ?_
  rintro e w2 ⟨rfl,hb⟩
  replace au:=au.below hb
  replace hB:=hB.trans (hb.mono hB.size)
  have sz:=hb.size
  clear hb
  clear aD aF aL aQ
  obtain⟨aD,aF,aL,aQ⟩ :=au.f2
  clear k1
  go_wp2_with fail
  go_ret
  exact⟨dN HV.out.symm,by first|exact hB|exact hB.drew⟩
end Go.Proofs.YtkmggglljkmjoaaGreat
namespace Go.Proofs.YtkmggglljkmjoaaGreat
open Go.RowKit
def sD (s c : Int) : Int:=if gH s c<0 then 0 else gH s c
def tN (s c : Int) : Int:=if gH s c<0 then 0 else gH s c+gF c
def tQ (h : Heap)(s a k : Int) : Int:=if bO 0 (tN s (aO h s) - sD s (aO h s) - k) a=true then sD s (aO h s) +a else -1
theorem qZ (s c : Int) : (ig s c= -1∧gH s c= -1) ∨ (8≤ig s c∧ig s c+4+gF c≤384∧gH s c=ig s c+4) :=by
 rcases Bp s c with hg| ⟨hg1,hg2⟩
 ·exact .inl ⟨hg,if_pos (by rw [hg];decide)⟩
 ·exact .inr ⟨hg1,hg2,if_neg (by omega)⟩
theorem uH (s c : Int) : (gH s c= -1∧sD s c=0∧tN s c=0) ∨ (12≤gH s c∧sD s c=gH s c∧tN s c=gH s c+gF c∧tN s c≤384) :=by
 rcases qZ s c with ⟨_,h⟩ | ⟨h1,h2,h3⟩
 ·exact .inl ⟨h,if_pos (by rw [h];decide),if_pos (by rw [h];decide)⟩
 ·have e : tN s c=gH s c+gF c:=if_neg (by omega)
  exact .inr ⟨by omega,if_neg (by omega),e,by omega⟩
set_option maxHeartbeats 400000 in
theorem Fg (s c : Int)(w : World) : Calls Tryz.prog 119 #[.int .i64 s, .int .i64 c] w fun e w'=>e= .returned (.int .i64 (gH s c)) ∧w=w':=by
 have hz:=mh c
 have hq:=fun W=>o9 s c W
 rcases qZ s c with ⟨h,h1⟩ | ⟨h,h2,h3⟩
 ·have HS:=Hid.aT h1
  rw [h] at hq
  clear h h1
  go_enter Tryz.func119,Tryz.ntmps119
  go_wp2_with fail
  refine(hq _).mono ?_
  clear hq
  rintro e w1 ⟨rfl,rfl⟩
  go_wp2
  go_ret
  exact⟨dN HS.out.symm,rfl⟩
 ·have HS:=Hid.aT h3
  clear h3
  generalize ig s c=g at *
  have h4 : ¬ g<0:=by omega
  have h5 : g≤384:=by omega
  clear h2
  go_enter Tryz.func119,Tryz.ntmps119
  go_wp2_with fail
  refine(hq _).mono ?_
  clear hq
  rintro e w1 ⟨rfl,rfl⟩
  go_wp2
  go_ret
  exact⟨dN HS.out.symm,rfl⟩
set_option maxHeartbeats 400000 in
theorem zF (s c : Int)(w : World) : Calls Tryz.prog 92 #[.int .i64 s, .int .i64 c] w fun e w'=>e= .returned (.int .i64 (gH s c)) ∧w=w':=by
 have hz:=mh c
 have hq:=fun W=>nP s c W
 rcases qZ s c with ⟨h,h1⟩ | ⟨h,h2,h3⟩
 ·have HS:=Hid.aT h1
  rw [h] at hq
  clear h h1
  go_enter Tryz.func92,Tryz.ntmps92
  go_wp2_with fail
  refine(hq _).mono ?_
  clear hq
  rintro e w1 ⟨rfl,rfl⟩
  go_wp2
  go_ret
  exact⟨dN HS.out.symm,rfl⟩
 ·have HS:=Hid.aT h3
  clear h3
  generalize ig s c=g at *
  have h4 : ¬ g<0:=by omega
  have h5 : g≤384:=by omega
  clear h2
  go_enter Tryz.func92,Tryz.ntmps92
  go_wp2_with fail
  refine(hq _).mono ?_
  clear hq
  rintro e w1 ⟨rfl,rfl⟩
  go_wp2
  go_ret
  exact⟨dN HS.out.symm,rfl⟩
set_option maxHeartbeats 400000 in
theorem Fh (s c : Int)(w : World) : Calls Tryz.prog 53 #[.int .i64 s, .int .i64 c] w fun e w'=>e= .returned (.agg #[.int .i64 (sD s c), .int .i64 (tN s c)]) ∧Below w.heap.size w w':=by
 have hz:=mh c
 have hq:=fun W=>Fg s c W
 have hq2:=fun W=>Aw c W
 rcases uH s c with ⟨h,h1,h2⟩ | ⟨h,h1,h2,h3⟩
 ·have HS:=Hid.aT h1
  have HT:=Hid.aT h2
  rw [h] at hq
  clear h h1 h2
  go_enter Tryz.func53,Tryz.ntmps53
  go_wp2_with fail
  refine(hq _).mono ?_
  clear hq
  rintro e w1 ⟨rfl,rfl⟩
  go_wp2
  exact bodyPost_ret (v:= .agg #[.int .i64 0, .int .i64 0]) (by simp [results,Tryz.results53,go_sem]) rfl ⟨by rw [HS.out,HT.out],by repeat (first|exact Below.refl _ _|refine Below.alloc ?_ (by simp<;>omega) _|refine dA ?_ (by simp<;>omega) _ _|refine Below.drew ?_|refine below_drewN ?_ _)⟩
 ·have HS:=Hid.aT h1
  have HT:=Hid.aT h2
  rw [h2] at h3
  clear h1 h2
  generalize gH s c=g at *
  generalize gF c=z at *
  have h4 : ¬ g<0:=by omega
  have h5 : g≤384:=by omega
  go_enter Tryz.func53,Tryz.ntmps53
  go_wp2_with fail
  refine(hq _).mono ?_
  clear hq
  rintro e w1 ⟨rfl,rfl⟩
  go_wp2_with (go_at_call 107;refine(hq2 _).mono ?_;clear hq2;rintro e w1 ⟨rfl,rfl⟩)
  exact bodyPost_ret (v:= .agg #[.int .i64 g, .int .i64 (g+z)]) (by simp [results,Tryz.results53,go_sem]) rfl ⟨by rw [HS.out,HT.out],by repeat (first|exact Below.refl _ _|refine Below.alloc ?_ (by simp<;>omega) _|refine dA ?_ (by simp<;>omega) _ _|refine Below.drew ?_|refine below_drewN ?_ _)⟩
set_option maxRecDepth 100000 in
set_option maxHeartbeats 1000000 in
theorem zH (w : World)(H : dU)(x : Heap)(s a k : Int)(h : gU w w.heap.size H x)(hs : gI x=true)(hk1 : 1≤k)(Ko : k≤7) :
  Calls Tryz.prog 82 #[.agg #[.slice H.Y.a H.Y.l H.Y.c, .slice H.Z.a H.Z.l H.Z.c], .int .i64 s, .int .i64 a, .int .i64 k] w fun e w'=>e= .returned (.int .i64 (tQ x s a k)) ∧Below w.heap.size w w':=by
 have hB0 : Below w.heap.size w (w.alloc (.cells #[.slice H.Y.a H.Y.l H.Y.c, .slice H.Z.a H.Z.l H.Z.c] 26)) :=dJ
 have HE:=Hid.aT (show tQ x s a k= (if bO 0 (tN s (aO x s) - sD s (aO x s) - k) a=true then sD s (aO x s) +a else -1) from rfl)
 have HS:=Hid.aT hs
 clear hs
 go_enter Tryz.func82,Tryz.ntmps82
 go_wp2_with fail
 refine(ql _ H x s (dW h hB0) HS.out).mono ?_
 rintro e w1 ⟨rfl,hb⟩
 have hB1:=hB0.trans (hb.mono hB0.size)
 clear hb hB0 HS
 have hc:=uH s (aO x s)
 have hz:=mh (aO x s)
 generalize aO x s=c at *
 have hq:=fun W=>Fh s c W
 obtain⟨q1,q2,q3⟩ : 0≤sD s c∧sD s c≤tN s c∧tN s c≤384:=by omega
 clear hc hz
 generalize sD s c=f at *
 generalize tN s c=t at *
 by_cases ki : bO 0 (t - f - k) a=true
 ·have HF:=Hid.aT (show tQ x s a k=f+a by rw [HE.out,if_pos ki])
  obtain⟨k1,k2⟩ :=bJ.1 ki
  have ha : a≤384:=by omega
  clear k2
  go_wp2_with fail
  refine(hq _).mono ?_
  clear hq
  rintro e w2 ⟨rfl,hb⟩
  have hB2:=hB1.trans (hb.mono hB1.size)
  clear hb hB1
  go_wp2_with (go_at_call 154;refine(kC _ _ _ _).mono ?_;rw [ki];rintro e w3 ⟨rfl,rfl⟩)
  go_ret
  exact⟨dN HF.out.symm,hB2.alloc hB2.size _⟩
 ·have Ou:= (Bool.not_eq_true _).mp ki
  have HF:=Hid.aT (show tQ x s a k= -1 by rw [HE.out,if_neg ki])
  clear ki
  go_wp2_with fail
  refine(hq _).mono ?_
  clear hq
  rintro e w2 ⟨rfl,hb⟩
  have hB2:=hB1.trans (hb.mono hB1.size)
  clear hb hB1
  go_wp2_with (go_at_call 154;refine(kC _ _ _ _).mono ?_;rw [Ou];rintro e w3 ⟨rfl,rfl⟩)
  go_ret
  exact⟨dN HF.out.symm,hB2.alloc hB2.size _⟩
end Go.Proofs.YtkmggglljkmjoaaGreat
namespace Go.Proofs.YtkmggglljkmjoaaGreat
open Go.RowKit
def gQ (m : Mem)(h a k : Int) : Int×Int:=
 if dG m=false∨bO 1 7 k=false then (0,1) else if gM m h=false then (0,4)
 else if bO 0 (gF (aO m.E (h%32)) - k) a=true then (gH (h%32) (aO m.E (h%32)) +a,0) else (0,2)
def ko (m : Mem)(h a k : Int) : Int×Int:=if (gQ m h a k).2=0 then (iF m.E.Y (gQ m h a k).1 k,0) else (0, (gQ m h a k).2)
theorem BG {m : Mem}{h a k : Int}(c : dG m=false) : gQ m h a k= (0,1) :=if_pos (.inl c)
theorem BH {m : Mem}{h a k : Int}(c : bO 1 7 k=false) : gQ m h a k= (0,1) :=if_pos (.inr c)
theorem yg {m : Mem}{h a k : Int}(c : dG m=true)(c2 : bO 1 7 k=true)(c3 : gM m h=false) : gQ m h a k= (0,4) :=by
 unfold gQ
 rw [if_neg (by rw [c,c2];decide),if_pos c3]
theorem yh {m : Mem}{h a k : Int}(c : dG m=true)(c2 : bO 1 7 k=true)(c3 : gM m h=true)(c4 : bO 0 (gF (aO m.E (h%32)) - k) a=false) : gQ m h a k= (0,2) :=by
 unfold gQ
 rw [if_neg (by rw [c,c2];decide),if_neg (by rw [c3];decide),if_neg (by rw [c4];decide)]
theorem tT {m : Mem}{h a k : Int}(c : dG m=true)(c2 : bO 1 7 k=true)(c3 : gM m h=true)(c4 : bO 0 (gF (aO m.E (h%32)) - k) a=true) : gQ m h a k= (gH (h%32) (aO m.E (h%32)) +a,0) :=by
 unfold gQ
 rw [if_neg (by rw [c,c2];decide),if_neg (by rw [c3];decide),if_pos c4]
theorem kR {m : Mem}{h : Int}(c : gM m h=true) : eY h=true∧jw m (h%32) =3∧dz m.E (h%32) =h / 32:=by
 unfold gM at c
 simp only [Bool.and_eq_true,beq_iff_eq] at c
 exact⟨c.1.1,c.1.2,c.2⟩
theorem vY {m : Mem}{h : Int}(c : gM m h=true) : ¬ aO m.E (h%32) <0:=Ec (by rw [(kR c).2.1];decide)
theorem wH {h : Heap}{s : Int}(c : ¬ aO h s<0) : 12≤gH s (aO h s) ∧gH s (aO h s) +gF (aO h s) ≤384∧sD s (aO h s) =gH s (aO h s) ∧tN s (aO h s) =gH s (aO h s) +gF (aO h s) :=by
 rcases nD h s with ⟨e,_⟩ | ⟨e,h1,h2,_,_⟩
 ·omega
 ·rw [←e] at h1 h2
  rcases uH s (aO h s) with ⟨k1,_⟩ | ⟨k1,k2,k3,k4⟩
  ·rcases qZ s (aO h s) with ⟨j,_⟩ | ⟨_,_,j⟩ <;>omega
  ·exact⟨k1,by omega,k2,k3⟩
theorem zI {h : Heap}{s a k : Int}(c : ¬ aO h s<0) : tQ h s a k=if bO 0 (gF (aO h s) - k) a=true then gH s (aO h s) +a else -1:=by
 obtain⟨_,_,e1,e2⟩ :=wH c
 unfold tQ
 rw [e1,e2,show gH s (aO h s) +gF (aO h s) - gH s (aO h s) - k=gF (aO h s) - k by omega]
theorem vM {m : Mem}{h a k c : Int}(e : gQ m h a k= (0,c))(hc : c≠0) : ko m h a k= (0,c) :=by
 unfold ko
 rw [e]
 exact if_neg hc
theorem tV {m : Mem}{h a k p : Int}(e : gQ m h a k= (p,0)) : ko m h a k= (iF m.E.Y p k,0) :=by
 unfold ko
 rw [e]
 exact if_pos rfl
theorem lV {a b : Int}{p : Int×Int}(h : p= (a,b)) : Ending.returned (.tuple #[.int .i64 a, .int .i64 b]) = .returned (.tuple #[.int .i64 p.1, .int .i64 p.2]) :=by rw [h]
set_option maxRecDepth 100000 in
set_option maxHeartbeats 2000000 in
theorem wX (w : World)(H : bP)(x : Mem)(s a k : Int)(h : gJ w w.heap.size H x) :
  Calls Tryz.prog 27 #[.agg #[.slice H.E.Y.a H.E.Y.l H.E.Y.c, .slice H.E.Z.a H.E.Z.l H.E.Z.c, .slice H.I.G.a H.I.G.l H.I.G.c, .slice H.I.O.a H.I.O.l H.I.O.c], .int .i64 s, .int .i64 a, .int .i64 k] w fun e w'=>e= .returned (.tuple #[.int .i64 (ko x s a k).1, .int .i64 (ko x s a k).2]) ∧Below w.heap.size w w':=by
 have iW : aB (w.alloc (.cells #[.slice H.E.Y.a H.E.Y.l H.E.Y.c, .slice H.E.Z.a H.E.Z.l H.E.Z.c, .slice H.I.G.a H.I.G.l H.I.G.c, .slice H.I.O.a H.I.O.l H.I.O.c] 31)) w.heap.size [.slice H.E.Y.a H.E.Y.l H.E.Y.c, .slice H.E.Z.a H.E.Z.l H.E.Z.c, .slice H.I.G.a H.I.G.l H.I.G.c, .slice H.I.O.a H.I.O.l H.I.O.c]:=aB.new w #[.slice H.E.Y.a H.E.Y.l H.E.Y.c, .slice H.E.Z.a H.E.Z.l H.E.Z.c, .slice H.I.G.a H.I.G.l H.I.G.c, .slice H.I.O.a H.I.O.l H.I.O.c] _
 have hB0 : Below w.heap.size w (w.alloc (.cells #[.slice H.E.Y.a H.E.Y.l H.E.Y.c, .slice H.E.Z.a H.E.Z.l H.E.Z.c, .slice H.I.G.a H.I.G.l H.I.G.c, .slice H.I.O.a H.I.O.l H.I.O.c] 31)) :=dJ
 by_cases c1 : dG x=true
 case neg=>
  have c1' : dG x=false:= (Bool.not_eq_true _).mp c1
  have HN:=Hid.aT (vM (BG (h:=s) (a:=a) (k:=k) c1') (by decide))
  clear c1
  go_enter Tryz.func27,Tryz.ntmps27
  go_wp2_with fail
  refine(jS _ H x (dO h hB0)).mono ?_
  rw [c1']
  rintro e w1 ⟨rfl,hb⟩
  have fV:=iW.below hb
  have hB1:=hB0.trans (hb.mono hB0.size)
  clear hb iW hB0
  go_wp2
  go_ret2
  exact⟨lV HN.out,hB1⟩
 by_cases c2 : bO 1 7 k=true
 case neg=>
  have c2' : bO 1 7 k=false:= (Bool.not_eq_true _).mp c2
  have HN:=Hid.aT (vM (BH (m:=x) (h:=s) (a:=a) c2') (by decide))
  clear c2
  go_enter Tryz.func27,Tryz.ntmps27
  go_wp2_with fail
  refine(jS _ H x (dO h hB0)).mono ?_
  rw [c1]
  rintro e w1 ⟨rfl,hb⟩
  have fV:=iW.below hb
  have hB1:=hB0.trans (hb.mono hB0.size)
  clear hb iW hB0
  clear c1
  go_wp2_with (go_at_call 88;refine(nO _ _).mono ?_;rw [c2'];rintro e w2 ⟨rfl,rfl⟩)
  go_ret2
  exact⟨lV HN.out,hB1⟩
 have HS:=Hid.aT (jd c1)
 by_cases c3 : gM x s=true
 case neg=>
  have c3' : gM x s=false:= (Bool.not_eq_true _).mp c3
  have HN:=Hid.aT (vM (yg (a:=a) c1 c2 c3') (by decide))
  clear c3
  go_enter Tryz.func27,Tryz.ntmps27
  go_wp2_with fail
  refine(jS _ H x (dO h hB0)).mono ?_
  rw [c1]
  rintro e w1 ⟨rfl,hb⟩
  have fV:=iW.below hb
  have hB1:=hB0.trans (hb.mono hB0.size)
  clear hb iW hB0
  clear c1
  have iH:=fV.cell 0 _ rfl
  have iq:=fV.cell 1 _ rfl
  have jK:=fV.cell 2 _ rfl
  have jL:=fV.cell 3 _ rfl
  go_wp2_with (go_at_call 88;refine(nO _ _).mono ?_;rw [c2];rintro e w2 ⟨rfl,rfl⟩)
  clear c2
  refine(qO _ H x s (dO h hB1) HS.out).mono ?_
  rw [c3']
  rintro e w2 ⟨rfl,hb⟩
  have jY:=fV.below hb
  have hB2:=hB1.trans (hb.mono hB1.size)
  clear hb fV hB1
  clear iH iq jK jL
  go_wp2
  go_ret2
  exact⟨lV HN.out,hB2⟩
 obtain⟨b1,b2⟩ :=bJ.1 c2
 obtain⟨e1,e2,e3,e4,e5,e6⟩ :=kX (kR c3).1
 have kc:=vY c3
 obtain⟨f1,f2,_,_⟩ :=wH kc
 have hir:=zI (a:=a) (k:=k) kc
 have hsz:=mh (aO x.E (s%32))
 have QD:=Hid.aT kc
 have hq:=fun (W : World) (hW : Below w.heap.size w W) =>zH W H.E x.E (s%32) a k (dW h.E hW) HS.out b1 b2
 have sh:=iA HS.out
 by_cases c4 : bO 0 (gF (aO x.E (s%32)) - k) a=true
 case neg=>
  have GY : bO 0 (gF (aO x.E (s%32)) - k) a=false:= (Bool.not_eq_true _).mp c4
  have HN:=Hid.aT (vM (yh c1 c2 c3 GY) (by decide))
  rw [if_neg c4] at hir
  rw [hir] at hq
  clear c4 GY hir e3 e4 e5 e6 kc f1 f2 hsz sh
  go_enter Tryz.func27,Tryz.ntmps27
  go_wp2_with fail
  refine(jS _ H x (dO h hB0)).mono ?_
  rw [c1]
  rintro e w1 ⟨rfl,hb⟩
  have fV:=iW.below hb
  have hB1:=hB0.trans (hb.mono hB0.size)
  clear hb iW hB0
  clear c1
  have iH:=fV.cell 0 _ rfl
  have iq:=fV.cell 1 _ rfl
  have jK:=fV.cell 2 _ rfl
  have jL:=fV.cell 3 _ rfl
  go_wp2_with (go_at_call 88;refine(nO _ _).mono ?_;rw [c2];rintro e w2 ⟨rfl,rfl⟩)
  clear c2
  refine(qO _ H x s (dO h hB1) HS.out).mono ?_
  rw [c3]
  rintro e w2 ⟨rfl,hb⟩
  have jY:=fV.below hb
  have hB2:=hB1.trans (hb.mono hB1.size)
  clear hb fV hB1
  clear iH iq jK jL c3
  have iH:=jY.cell 0 _ rfl
  have iq:=jY.cell 1 _ rfl
  have jK:=jY.cell 2 _ rfl
  have jL:=jY.cell 3 _ rfl
  go_wp2_with fail
  refine(hq _ hB2).mono ?_
  rintro e w3 ⟨rfl,hb⟩
  have AJ:=jY.below hb
  have hB3:=hB2.trans (hb.mono hB2.size)
  clear hb jY hB2
  clear iH iq jK jL hq
  go_wp2
  go_ret2
  exact⟨lV HN.out,hB3⟩
 have HN:=Hid.aT (tV (tT c1 c2 c3 c4))
 rw [if_pos c4] at hir
 rw [hir] at hq
 obtain⟨g1,g2⟩ :=bJ.1 c4
 have hn : (x.E.Y.length : Int) =384:=by rw [sh.bl];rfl
 have p1 : 0≤gH (s%32) (aO x.E (s%32)) +a:=by omega
 have p2 : gH (s%32) (aO x.E (s%32)) +a+k≤x.E.Y.length:=by omega
 have hq2:=fun (W : World) (hW : Below w.heap.size w W) =>mq W H.E.Y.val x.E.Y _ k (eP h.E.Y hW) p1 b1 b2 p2 sh.rG
 clear c4 hir e3 e4 e5 e6 kc f1 f2 hsz sh g1 g2 hn p2
 generalize gH (s%32) (aO x.E (s%32)) +a=p at *
 have p3 : ¬ p<0:=by omega
 go_enter Tryz.func27,Tryz.ntmps27
 go_wp2_with fail
 refine(jS _ H x (dO h hB0)).mono ?_
 rw [c1]
 rintro e w1 ⟨rfl,hb⟩
 have fV:=iW.below hb
 have hB1:=hB0.trans (hb.mono hB0.size)
 clear hb iW hB0
 clear c1
 have iH:=fV.cell 0 _ rfl
 have iq:=fV.cell 1 _ rfl
 have jK:=fV.cell 2 _ rfl
 have jL:=fV.cell 3 _ rfl
 go_wp2_with (go_at_call 88;refine(nO _ _).mono ?_;rw [c2];rintro e w2 ⟨rfl,rfl⟩)
 clear c2
 refine(qO _ H x s (dO h hB1) HS.out).mono ?_
 rw [c3]
 rintro e w2 ⟨rfl,hb⟩
 have jY:=fV.below hb
 have hB2:=hB1.trans (hb.mono hB1.size)
 clear hb fV hB1
 clear iH iq jK jL c3
 have iH:=jY.cell 0 _ rfl
 have iq:=jY.cell 1 _ rfl
 have jK:=jY.cell 2 _ rfl
 have jL:=jY.cell 3 _ rfl
 go_wp2_with fail
 refine(hq _ hB2).mono ?_
 rintro e w3 ⟨rfl,hb⟩
 have AJ:=jY.below hb
 have hB3:=hB2.trans (hb.mono hB2.size)
 clear hb jY hB2
 clear iH iq jK jL hq
 have iH:=AJ.cell 0 _ rfl
 have iq:=AJ.cell 1 _ rfl
 have jK:=AJ.cell 2 _ rfl
 have jL:=AJ.cell 3 _ rfl
 go_wp2_with (go_at_call 90;refine(hq2 _ hB3).mono ?_;rintro e w4 ⟨rfl,rfl⟩)
 go_ret2
 exact⟨lV HN.out,hB3⟩
set_option maxRecDepth 100000 in
set_option maxHeartbeats 2000000 in
theorem AO (w : World)(H : bP)(x : Mem)(s a k : Int)(h : gJ w w.heap.size H x)(hs1 : jh x.I.G≤536870912)(hs2 : jh x.I.O≤536870912) :
  Calls Tryz.prog 84 #[.agg #[.slice H.E.Y.a H.E.Y.l H.E.Y.c, .slice H.E.Z.a H.E.Z.l H.E.Z.c, .slice H.I.G.a H.I.G.l H.I.G.c, .slice H.I.O.a H.I.O.l H.I.O.c], .int .i64 s, .int .i64 a, .int .i64 k] w fun e w'=>e= .returned (.tuple #[.int .i64 (gQ x s a k).1, .int .i64 (gQ x s a k).2]) ∧Below w.heap.size w w':=by
 have iW : aB (w.alloc (.cells #[.slice H.E.Y.a H.E.Y.l H.E.Y.c, .slice H.E.Z.a H.E.Z.l H.E.Z.c, .slice H.I.G.a H.I.G.l H.I.G.c, .slice H.I.O.a H.I.O.l H.I.O.c] 31)) w.heap.size [.slice H.E.Y.a H.E.Y.l H.E.Y.c, .slice H.E.Z.a H.E.Z.l H.E.Z.c, .slice H.I.G.a H.I.G.l H.I.G.c, .slice H.I.O.a H.I.O.l H.I.O.c]:=aB.new w #[.slice H.E.Y.a H.E.Y.l H.E.Y.c, .slice H.E.Z.a H.E.Z.l H.E.Z.c, .slice H.I.G.a H.I.G.l H.I.G.c, .slice H.I.O.a H.I.O.l H.I.O.c] _
 have hB0 : Below w.heap.size w (w.alloc (.cells #[.slice H.E.Y.a H.E.Y.l H.E.Y.c, .slice H.E.Z.a H.E.Z.l H.E.Z.c, .slice H.I.G.a H.I.G.l H.I.G.c, .slice H.I.O.a H.I.O.l H.I.O.c] 31)) :=dJ
 by_cases c1 : dG x=true
 case neg=>
  have c1' : dG x=false:= (Bool.not_eq_true _).mp c1
  have HN:=Hid.aT (BG (h:=s) (a:=a) (k:=k) c1')
  clear c1
  go_enter Tryz.func84,Tryz.ntmps84
  go_wp2_with fail
  refine(jA _ H x (dO h hB0) hs1 hs2).mono ?_
  rw [c1']
  rintro e w1 ⟨rfl,hb⟩
  have fV:=iW.below hb
  have hB1:=hB0.trans (hb.mono hB0.size)
  clear hb iW hB0
  go_wp2
  go_ret2
  exact⟨lV HN.out,hB1⟩
 by_cases c2 : bO 1 7 k=true
 case neg=>
  have c2' : bO 1 7 k=false:= (Bool.not_eq_true _).mp c2
  have HN:=Hid.aT (BH (m:=x) (h:=s) (a:=a) c2')
  clear c2
  go_enter Tryz.func84,Tryz.ntmps84
  go_wp2_with fail
  refine(jA _ H x (dO h hB0) hs1 hs2).mono ?_
  rw [c1]
  rintro e w1 ⟨rfl,hb⟩
  have fV:=iW.below hb
  have hB1:=hB0.trans (hb.mono hB0.size)
  clear hb iW hB0
  clear c1
  go_wp2_with (go_at_call 102;refine(fG _ _ _ _).mono ?_;rw [c2'];rintro e w2 ⟨rfl,rfl⟩)
  go_ret2
  exact⟨lV HN.out,hB1⟩
 have HS:=Hid.aT (jd c1)
 by_cases c3 : gM x s=true
 case neg=>
  have c3' : gM x s=false:= (Bool.not_eq_true _).mp c3
  have HN:=Hid.aT (yg (a:=a) c1 c2 c3')
  clear c3
  go_enter Tryz.func84,Tryz.ntmps84
  go_wp2_with fail
  refine(jA _ H x (dO h hB0) hs1 hs2).mono ?_
  rw [c1]
  rintro e w1 ⟨rfl,hb⟩
  have fV:=iW.below hb
  have hB1:=hB0.trans (hb.mono hB0.size)
  clear hb iW hB0
  clear c1
  have iH:=fV.cell 0 _ rfl
  have iq:=fV.cell 1 _ rfl
  have jK:=fV.cell 2 _ rfl
  have jL:=fV.cell 3 _ rfl
  go_wp2_with (go_at_call 102;refine(fG _ _ _ _).mono ?_;rw [c2];rintro e w2 ⟨rfl,rfl⟩)
  clear c2
  refine(r9 _ H x s (dO h hB1) HS.out hs1 hs2).mono ?_
  rw [c3']
  rintro e w2 ⟨rfl,hb⟩
  have jY:=fV.below hb
  have hB2:=hB1.trans (hb.mono hB1.size)
  clear hb fV hB1
  clear iH iq jK jL
  go_wp2
  go_ret2
  exact⟨lV HN.out,hB2⟩
 obtain⟨b1,b2⟩ :=bJ.1 c2
 have hh:= (kR c3).1
 have kc:=vY c3
 obtain⟨f1,f2,_,_⟩ :=wH kc
 have hsz:=mh (aO x.E (s%32))
 have hq1:=fun W=>mP s W hh
 have hq2:=fun (W : World) (hW : Below w.heap.size w W) =>mD W H.E x.E (s%32) (dW h.E hW) HS.out
 have hq3:=fun W=>zF (s%32) (aO x.E (s%32)) W
 have hq4:=fun W=>uj (aO x.E (s%32)) W
 have HP:=Hid.aT (tT (a:=a) c1 c2 c3)
 have HR:=Hid.aT (yh (a:=a) c1 c2 c3)
 clear hh kc
 generalize gH (s%32) (aO x.E (s%32)) =st at *
 generalize gF (aO x.E (s%32)) =sz at *
 generalize aO x.E (s%32) =cl at *
 go_enter Tryz.func84,Tryz.ntmps84
 go_wp2_with fail
 refine(jA _ H x (dO h hB0) hs1 hs2).mono ?_
 rw [c1]
 rintro e w1 ⟨rfl,hb⟩
 have fV:=iW.below hb
 have hB1:=hB0.trans (hb.mono hB0.size)
 clear hb iW hB0
 clear c1
 have iH:=fV.cell 0 _ rfl
 have iq:=fV.cell 1 _ rfl
 have jK:=fV.cell 2 _ rfl
 have jL:=fV.cell 3 _ rfl
 go_wp2_with (go_at_call 102;refine(fG _ _ _ _).mono ?_;rw [c2];rintro e w2 ⟨rfl,rfl⟩)
 clear c2
 refine(r9 _ H x s (dO h hB1) HS.out hs1 hs2).mono ?_
 rw [c3]
 rintro e w2 ⟨rfl,hb⟩
 have jY:=fV.below hb
 have hB2:=hB1.trans (hb.mono hB1.size)
 clear hb fV hB1
 clear iH iq jK jL c3
 have iH:=jY.cell 0 _ rfl
 have iq:=jY.cell 1 _ rfl
 have jK:=jY.cell 2 _ rfl
 have jL:=jY.cell 3 _ rfl
 go_wp2_with (go_at_call 30;refine(hq1 _).mono ?_;rintro e w3 ⟨rfl,rfl⟩)
 refine(hq2 _ hB2).mono ?_
 rintro e w3 ⟨rfl,hb⟩
 have AJ:=jY.below hb
 have hB3:=hB2.trans (hb.mono hB2.size)
 clear hb jY hB2
 clear iH iq jK jL hq1 hq2
 by_cases d1 : bO 0 (sz - 1) a=true
 case neg=>
  have d1':= (Bool.not_eq_true _).mp d1
  have HN:=Hid.aT (HR.out (zh (by have:=nA d1';omega)))
  clear d1
  go_wp2_with (first| (go_at_call 28;refine(hq4 _).mono ?_;rintro e w4 ⟨rfl,rfl⟩) | (go_at_call 102;refine(fG _ _ _ _).mono ?_;rw [d1'];rintro e w2 ⟨rfl,rfl⟩))
  go_ret2
  exact⟨lV HN.out,hB3⟩
 obtain⟨g1,g2⟩ :=bJ.1 d1
 by_cases d2 : sz - a<k
 ·have HN:=Hid.aT (HR.out (zh (by omega)))
  go_wp2_with (first| (go_at_call 28;refine(hq4 _).mono ?_;rintro e w4 ⟨rfl,rfl⟩) | (go_at_call 102;refine(fG _ _ _ _).mono ?_;rw [d1];rintro e w2 ⟨rfl,rfl⟩))
  go_ret2
  exact⟨lV HN.out,hB3⟩
 ·have HN:=Hid.aT (HP.out (bJ.2 ⟨by omega,by omega⟩))
  go_wp2_with (first| (go_at_call 28;refine(hq4 _).mono ?_;rintro e w4 ⟨rfl,rfl⟩) | (go_at_call 102;refine(fG _ _ _ _).mono ?_;rw [d1];rintro e w2 ⟨rfl,rfl⟩) | (go_at_call 92;refine(hq3 _).mono ?_;rintro e w4 ⟨rfl,rfl⟩))
  go_ret2
  exact⟨lV HN.out,hB3⟩
theorem Ee (m : Mem)(h a k : Int) : (gQ m h a k).2=0∨ ((gQ m h a k).1=0∧ (gQ m h a k).2≠0) :=by
 unfold gQ
 repeat' split
 all_goals simp
theorem wI {m : Mem}{h a k : Int}(c : (gQ m h a k).2=0) : dG m=true∧1≤k∧k≤7∧gM m h=true∧12≤ (gQ m h a k).1∧ (gQ m h a k).1+k≤384∧bO 0 (gF (aO m.E (h%32)) - k) a=true∧ (gQ m h a k).1=gH (h%32) (aO m.E (h%32)) +a:=by
 by_cases c1 : dG m=false
 ·rw [BG c1] at c
  exact absurd c (by decide)
 by_cases c2 : bO 1 7 k=false
 ·rw [BH c2] at c
  exact absurd c (by decide)
 have c1' : dG m=true:=by simpa using c1
 have c2' : bO 1 7 k=true:=by simpa using c2
 by_cases c3 : gM m h=false
 ·rw [yg c1' c2' c3] at c
  exact absurd c (by decide)
 have c3' : gM m h=true:=by simpa using c3
 by_cases c4 : bO 0 (gF (aO m.E (h%32)) - k) a=false
 ·rw [yh c1' c2' c3' c4] at c
  exact absurd c (by decide)
 have GY : bO 0 (gF (aO m.E (h%32)) - k) a=true:=by simpa using c4
 obtain⟨b1,b2⟩ :=bJ.1 c2'
 obtain⟨g1,g2⟩ :=bJ.1 GY
 obtain⟨f1,f2,_,_⟩ :=wH (vY c3')
 rw [tT c1' c2' c3' GY]
 exact⟨c1',b1,b2,c3',by simp only;omega,by simp only;omega,GY,rfl⟩
set_option maxRecDepth 100000 in
set_option maxHeartbeats 2000000 in
theorem Gu (w : World)(H : bP)(x : Mem)(s a k : Int)(h : gJ w w.heap.size H x)(hs1 : jh x.I.G≤536870912)(hs2 : jh x.I.O≤536870912) :
  Calls Tryz.prog 43 #[.agg #[.slice H.E.Y.a H.E.Y.l H.E.Y.c, .slice H.E.Z.a H.E.Z.l H.E.Z.c, .slice H.I.G.a H.I.G.l H.I.G.c, .slice H.I.O.a H.I.O.l H.I.O.c], .int .i64 s, .int .i64 a, .int .i64 k] w fun e w'=>e= .returned (.tuple #[.int .i64 (ko x s a k).1, .int .i64 (ko x s a k).2]) ∧Below w.heap.size w w':=by
 have iW : aB (w.alloc (.cells #[.slice H.E.Y.a H.E.Y.l H.E.Y.c, .slice H.E.Z.a H.E.Z.l H.E.Z.c, .slice H.I.G.a H.I.G.l H.I.G.c, .slice H.I.O.a H.I.O.l H.I.O.c] 31)) w.heap.size [.slice H.E.Y.a H.E.Y.l H.E.Y.c, .slice H.E.Z.a H.E.Z.l H.E.Z.c, .slice H.I.G.a H.I.G.l H.I.G.c, .slice H.I.O.a H.I.O.l H.I.O.c]:=aB.new w #[.slice H.E.Y.a H.E.Y.l H.E.Y.c, .slice H.E.Z.a H.E.Z.l H.E.Z.c, .slice H.I.G.a H.I.G.l H.I.G.c, .slice H.I.O.a H.I.O.l H.I.O.c] _
 have hB0 : Below w.heap.size w (w.alloc (.cells #[.slice H.E.Y.a H.E.Y.l H.E.Y.c, .slice H.E.Z.a H.E.Z.l H.E.Z.c, .slice H.I.G.a H.I.G.l H.I.G.c, .slice H.I.O.a H.I.O.l H.I.O.c] 31)) :=dJ
 have hq:=fun (W : World) (hW : Below w.heap.size w W) =>AO W H x s a k (dO h hW) hs1 hs2
 by_cases c1 : (gQ x s a k).2=0
 ·obtain⟨z1,z2,z3,z6,z4,z5,z7⟩ :=wI c1
  have HL:=Hid.aT (tV (m:=x) (h:=s) (a:=a) (k:=k) (p:= (gQ x s a k).1) (by rw [←c1]))
  have sh:=iA (jd z1)
  have hn : (x.E.Y.length : Int) =384:=by rw [sh.bl];rfl
  have hq2:=fun (W : World) (hW : Below w.heap.size w W) =>qL W H.E.Y.val x.E.Y (gQ x s a k).1 k (eP h.E.Y hW) (by omega) z2 z3 (by omega) sh.rG
  rw [c1] at hq
  clear z1 z4 z5 z6 z7 sh hn c1
  generalize (gQ x s a k).1=p at *
  go_enter Tryz.func43,Tryz.ntmps43
  go_wp2_with fail
  refine(hq _ hB0).mono ?_
  rintro e w1 ⟨rfl,hb⟩
  have fV:=iW.below hb
  have hB1:=hB0.trans (hb.mono hB0.size)
  clear hb iW hB0
  clear hq
  have iH:=fV.cell 0 _ rfl
  have iq:=fV.cell 1 _ rfl
  have jK:=fV.cell 2 _ rfl
  have jL:=fV.cell 3 _ rfl
  go_wp2_with (go_at_call 109;refine(hq2 _ hB1).mono ?_;rintro e w4 ⟨rfl,rfl⟩)
  go_ret2
  exact⟨lV HL.out,hB1⟩
 ·have c1' : ((gQ x s a k).2 != 0) =true:=by simpa using c1
  have HL:=Hid.aT (vM (m:=x) (h:=s) (a:=a) (k:=k) (c:= (gQ x s a k).2) (by rcases Ee x s a k with h| ⟨h,_⟩;exact absurd h c1;rw [←h]) c1)
  clear c1
  generalize (gQ x s a k).2=c at *
  generalize (gQ x s a k).1=p at *
  go_enter Tryz.func43,Tryz.ntmps43
  go_wp2_with fail
  refine(hq _ hB0).mono ?_
  rintro e w1 ⟨rfl,hb⟩
  have fV:=iW.below hb
  have hB1:=hB0.trans (hb.mono hB0.size)
  clear hb iW hB0
  clear hq
  go_wp2
  go_ret2
  exact⟨lV HL.out,hB1⟩
end Go.Proofs.YtkmggglljkmjoaaGreat
