/-
  Jobs compared.
-/
import Derived.Test.YtkldapdpaldbgaaGreatT
import Derived.Test.YtkldapdpaldbgaaGreatL
import Derived.Deep.QuietTactic
import Derived.BigQuiet
import Derived.Deep.LoopGhost
import Derived.Deep.RegionHeld3
import Derived.Test.YtkldapdpaldbgaaGreatN
import Derived.Test.YtkldapdpaldbgaaGreatA
import Derived.WalkSpells
import Derived.Laws.Cover3
import Derived.Test.YtkldapdpaldbgaaGreatEL
import Derived.Test.YtkldapdpaldbgaaGreatVS
namespace Go.Proofs.YtkldapdpaldbgaaGreat
open Go.RowKit
instance : DecidableEq Op := fun a b => decidable_of_iff (a.Kind = b.Kind ∧ a.Cell = b.Cell ∧ a.Size = b.Size ∧ a.Val = b.Val) (by cases a; cases b; simp)
instance : DecidableEq Sub := fun a b => decidable_of_iff (a.Kind = b.Kind ∧ a.A = b.A ∧ a.Pc = b.Pc ∧ a.E = b.E ∧ a.Row = b.Row ∧ a.B = b.B ∧ a.H = b.H ∧ a.Out = b.Out ∧ a.Code = b.Code ∧ a.Done = b.Done) (by cases a; cases b; simp)
instance : DecidableEq Job := fun a b => decidable_of_iff (a.Busy = b.Busy ∧ a.Op = b.Op ∧ a.Serial = b.Serial ∧ a.Pc = b.Pc ∧ a.Sub = b.Sub ∧ a.H = b.H ∧ a.Old = b.Old ∧ a.Val = b.Val ∧ a.Code = b.Code) (by cases a; cases b; simp)

set_option maxHeartbeats 4000000 in
theorem neqRunJob (x y : Job) (w : World) : (binOp .neq 146 (.agg #[.bool x.Busy, .int .i64 x.Op.Kind, .int .i64 x.Op.Cell, .int .i64 x.Op.Size, .int .i64 x.Op.Val, .int .i64 x.Serial, .int .i64 x.Pc, .int .i64 x.Sub.Kind, .int .i64 x.Sub.A, .int .i64 x.Sub.Pc, .int .i64 x.Sub.E, .int .i64 x.Sub.Row, .int .i64 x.Sub.B, .int .i64 x.Sub.H, .int .i64 x.Sub.Out, .int .i64 x.Sub.Code, .bool x.Sub.Done, .int .i64 x.H, .int .i64 x.Old, .int .i64 x.Val, .int .i64 x.Code]) (.agg #[.bool y.Busy, .int .i64 y.Op.Kind, .int .i64 y.Op.Cell, .int .i64 y.Op.Size, .int .i64 y.Op.Val, .int .i64 y.Serial, .int .i64 y.Pc, .int .i64 y.Sub.Kind, .int .i64 y.Sub.A, .int .i64 y.Sub.Pc, .int .i64 y.Sub.E, .int .i64 y.Sub.Row, .int .i64 y.Sub.B, .int .i64 y.Sub.H, .int .i64 y.Sub.Out, .int .i64 y.Sub.Code, .bool y.Sub.Done, .int .i64 y.H, .int .i64 y.Old, .int .i64 y.Val, .int .i64 y.Code])).run Tryz.prog w = .ok (.bool (! decide (x = y))) w := by
  have hu := Tryz.underlying146
  have huOp := Tryz.underlying142
  have huSub := Tryz.underlying144
  obtain ⟨x0, ⟨x1, x2, x3, x4⟩, x5, x6, ⟨x7, x8, x9, x10, x11, x12, x13, x14, x15, x16⟩, x17, x18, x19, x20⟩ := x
  obtain ⟨y0, ⟨y1, y2, y3, y4⟩, y5, y6, ⟨y7, y8, y9, y10, y11, y12, y13, y14, y15, y16⟩, y17, y18, y19, y20⟩ := y
  by_cases h0 : x0 = y0
  case neg => go_simp
  by_cases h1 : x1 = y1
  case neg => go_simp
  by_cases h2 : x2 = y2
  case neg => go_simp
  by_cases h3 : x3 = y3
  case neg => go_simp
  by_cases h4 : x4 = y4
  case neg => go_simp
  by_cases h5 : x5 = y5
  case neg => go_simp
  by_cases h6 : x6 = y6
  case neg => go_simp
  by_cases h7 : x7 = y7
  case neg => go_simp
  by_cases h8 : x8 = y8
  case neg => go_simp
  by_cases h9 : x9 = y9
  case neg => go_simp
  by_cases h10 : x10 = y10
  case neg => go_simp
  by_cases h11 : x11 = y11
  case neg => go_simp
  by_cases h12 : x12 = y12
  case neg => go_simp
  by_cases h13 : x13 = y13
  case neg => go_simp
  by_cases h14 : x14 = y14
  case neg => go_simp
  by_cases h15 : x15 = y15
  case neg => go_simp
  by_cases h16 : x16 = y16
  case neg => go_simp
  by_cases h17 : x17 = y17
  case neg => go_simp
  by_cases h18 : x18 = y18
  case neg => go_simp
  by_cases h19 : x19 = y19
  case neg => go_simp
  by_cases h20 : x20 = y20
  case neg => go_simp
  go_simp

set_option maxHeartbeats 4000000 in
theorem eqlRunJob (x y : Job) (w : World) : (binOp .eql 146 (.agg #[.bool x.Busy, .int .i64 x.Op.Kind, .int .i64 x.Op.Cell, .int .i64 x.Op.Size, .int .i64 x.Op.Val, .int .i64 x.Serial, .int .i64 x.Pc, .int .i64 x.Sub.Kind, .int .i64 x.Sub.A, .int .i64 x.Sub.Pc, .int .i64 x.Sub.E, .int .i64 x.Sub.Row, .int .i64 x.Sub.B, .int .i64 x.Sub.H, .int .i64 x.Sub.Out, .int .i64 x.Sub.Code, .bool x.Sub.Done, .int .i64 x.H, .int .i64 x.Old, .int .i64 x.Val, .int .i64 x.Code]) (.agg #[.bool y.Busy, .int .i64 y.Op.Kind, .int .i64 y.Op.Cell, .int .i64 y.Op.Size, .int .i64 y.Op.Val, .int .i64 y.Serial, .int .i64 y.Pc, .int .i64 y.Sub.Kind, .int .i64 y.Sub.A, .int .i64 y.Sub.Pc, .int .i64 y.Sub.E, .int .i64 y.Sub.Row, .int .i64 y.Sub.B, .int .i64 y.Sub.H, .int .i64 y.Sub.Out, .int .i64 y.Sub.Code, .bool y.Sub.Done, .int .i64 y.H, .int .i64 y.Old, .int .i64 y.Val, .int .i64 y.Code])).run Tryz.prog w = .ok (.bool (decide (x = y))) w := by
  have hu := Tryz.underlying146
  have huOp := Tryz.underlying142
  have huSub := Tryz.underlying144
  obtain ⟨x0, ⟨x1, x2, x3, x4⟩, x5, x6, ⟨x7, x8, x9, x10, x11, x12, x13, x14, x15, x16⟩, x17, x18, x19, x20⟩ := x
  obtain ⟨y0, ⟨y1, y2, y3, y4⟩, y5, y6, ⟨y7, y8, y9, y10, y11, y12, y13, y14, y15, y16⟩, y17, y18, y19, y20⟩ := y
  by_cases h0 : x0 = y0
  case neg => go_simp
  by_cases h1 : x1 = y1
  case neg => go_simp
  by_cases h2 : x2 = y2
  case neg => go_simp
  by_cases h3 : x3 = y3
  case neg => go_simp
  by_cases h4 : x4 = y4
  case neg => go_simp
  by_cases h5 : x5 = y5
  case neg => go_simp
  by_cases h6 : x6 = y6
  case neg => go_simp
  by_cases h7 : x7 = y7
  case neg => go_simp
  by_cases h8 : x8 = y8
  case neg => go_simp
  by_cases h9 : x9 = y9
  case neg => go_simp
  by_cases h10 : x10 = y10
  case neg => go_simp
  by_cases h11 : x11 = y11
  case neg => go_simp
  by_cases h12 : x12 = y12
  case neg => go_simp
  by_cases h13 : x13 = y13
  case neg => go_simp
  by_cases h14 : x14 = y14
  case neg => go_simp
  by_cases h15 : x15 = y15
  case neg => go_simp
  by_cases h16 : x16 = y16
  case neg => go_simp
  by_cases h17 : x17 = y17
  case neg => go_simp
  by_cases h18 : x18 = y18
  case neg => go_simp
  by_cases h19 : x19 = y19
  case neg => go_simp
  by_cases h20 : x20 = y20
  case neg => go_simp
  go_simp
end Go.Proofs.YtkldapdpaldbgaaGreat
