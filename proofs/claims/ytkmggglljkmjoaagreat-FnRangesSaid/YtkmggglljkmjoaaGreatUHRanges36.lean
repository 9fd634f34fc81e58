/- m -/
import Derived.Test.YtkmggglljkmjoaaGreatUHRanges30
set_option maxRecDepth 100000
set_option maxHeartbeats 4000000
namespace Go.Proofs.YtkmggglljkmjoaaGreat
open Go.RowKit
theorem uY (w : World)(H : aA)(x y : Base)(s : aO)(t pc : Int)(h : iW w w.heap.size H.Mem.E x.Mem.E)(hs : fJ x.Mem.E=true)(h1 : bG 0 23 t=true)(k1 : 0≤aG x.Mem.E t)(h2 : bG 1 6 (dK x.Mem.E t) =true) :
  Calls Tryz.prog 243 #[H.val y,s.val, .int .i64 t, .int .i64 pc] w fun e w'=> ∃o,e= .returned (aO.val {s with o:=o,c:=0,d:=true}) ∧Below w.heap.size w w':=by
 have ht0:= (bH.1 h1).1;simp only [aA.val,aO.val];go_enter Tryz.func243,Tryz.ntmps243;go_wp2_with (first| (go_at_call 106;refine(sM _ H.Mem x.Mem x.Mem.E t ?hr hs h1 h2 (Int.not_lt.2 k1)).mono ?_; (case hr=>exact fT h cO);rintro e1 w1 ⟨rfl,hb⟩;obtain⟨os0,d0,rfl⟩ :=bN hb;clear hb) | (go_at_call 239;refine(iQ _ {s with o:=dK x.Mem.E t * 32+t} _).mono ?_;rintro e1 w1 ⟨rfl,hb⟩;obtain⟨os0,d0,rfl⟩ :=bN hb;clear hb));refine bodyPost_ret (v:=aO.val {s with o:=dK x.Mem.E t * 32+t,c:=0,d:=true}) (by simp [results,Tryz.results243,go_sem]) rfl ⟨_,rfl, (by repeat (first|with_reducible exact Below.refl _ _|with_reducible refine Below.setCell ?_ (by simp<;>omega) _|with_reducible refine Below.alloc ?_ (by simp<;>omega) _|with_reducible refine bA ?_ (by simp<;>omega) _ _|with_reducible refine Below.drew ?_|with_reducible refine below_drewN ?_ _))⟩
theorem zB (w : World)(H : aA)(y : Base)(s : aO)(pc : Int) :
  Calls Tryz.prog 243 #[H.val y,s.val, .int .i64 (-1), .int .i64 pc] w fun e w'=>e= .returned (aO.val {s with p:=pc}) ∧Below w.heap.size w w':=by
 simp only [aA.val,aO.val];go_enter Tryz.func243,Tryz.ntmps243;go_wp2_with fail;refine bodyPost_ret (v:=aO.val {s with p:=pc}) (by simp [results,Tryz.results243,go_sem]) rfl ⟨rfl, (by repeat (first|with_reducible exact Below.refl _ _|with_reducible refine Below.setCell ?_ (by simp<;>omega) _|with_reducible refine Below.alloc ?_ (by simp<;>omega) _|with_reducible refine bA ?_ (by simp<;>omega) _ _|with_reducible refine Below.drew ?_|with_reducible refine below_drewN ?_ _))⟩
end Go.Proofs.YtkmggglljkmjoaaGreat
