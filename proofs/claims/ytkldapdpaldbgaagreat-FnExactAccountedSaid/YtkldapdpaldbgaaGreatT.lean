/-
  The flat types of the program: records of ints and bools.
-/
import Derived.Test.YtkldapdpaldbgaaGreatF
namespace Go.Proofs.YtkldapdpaldbgaaGreat
structure LRow where
  Handle : Int
  Epoch : Int
structure Pin where
  On : Bool
  Epoch : Int
  Marked : Bool
  Seen : Int
structure Span where
  From : Int
  To : Int
structure Op where
  Kind : Int
  Cell : Int
  Size : Int
  Val : Int
structure Sub where
  Kind : Int
  A : Int
  Pc : Int
  E : Int
  Row : Int
  B : Int
  H : Int
  Out : Int
  Code : Int
  Done : Bool
structure Ev where
  Kind : Int
  Who : Int
  Serial : Int
  Cell : Int
  Handle : Int
  Val : Int
  Code : Int
structure Job where
  Busy : Bool
  Op : Op
  Serial : Int
  Pc : Int
  Sub : Sub
  H : Int
  Old : Int
  Val : Int
  Code : Int

/-- int -/
def FI : FT Int := { n := 1, enc := fun x => [.int .i64 x], dflt := 0, len := fun _ => rfl, one := by intro x u hu; simp at hu; subst hu; rfl, pos := by decide, small := by decide }
def FLRow : FT LRow := { n := 2, enc := fun x => [.int .i64 x.Handle, .int .i64 x.Epoch], dflt := ⟨0, 0⟩, len := fun _ => rfl, one := by (intro x u hu; simp only [List.mem_cons, List.not_mem_nil, or_false] at hu; repeat (first | (rcases hu with rfl | hu; rfl) | (subst hu; rfl))), pos := by decide, small := by decide }
def FPin : FT Pin := { n := 4, enc := fun x => [.bool x.On, .int .i64 x.Epoch, .bool x.Marked, .int .i64 x.Seen], dflt := ⟨false, 0, false, 0⟩, len := fun _ => rfl, one := by (intro x u hu; simp only [List.mem_cons, List.not_mem_nil, or_false] at hu; repeat (first | (rcases hu with rfl | hu; rfl) | (subst hu; rfl))), pos := by decide, small := by decide }
def FSpan : FT Span := { n := 2, enc := fun x => [.int .i64 x.From, .int .i64 x.To], dflt := ⟨0, 0⟩, len := fun _ => rfl, one := by (intro x u hu; simp only [List.mem_cons, List.not_mem_nil, or_false] at hu; repeat (first | (rcases hu with rfl | hu; rfl) | (subst hu; rfl))), pos := by decide, small := by decide }
def FOp : FT Op := { n := 4, enc := fun x => [.int .i64 x.Kind, .int .i64 x.Cell, .int .i64 x.Size, .int .i64 x.Val], dflt := ⟨0, 0, 0, 0⟩, len := fun _ => rfl, one := by (intro x u hu; simp only [List.mem_cons, List.not_mem_nil, or_false] at hu; repeat (first | (rcases hu with rfl | hu; rfl) | (subst hu; rfl))), pos := by decide, small := by decide }
def FSub : FT Sub := { n := 10, enc := fun x => [.int .i64 x.Kind, .int .i64 x.A, .int .i64 x.Pc, .int .i64 x.E, .int .i64 x.Row, .int .i64 x.B, .int .i64 x.H, .int .i64 x.Out, .int .i64 x.Code, .bool x.Done], dflt := ⟨0, 0, 0, 0, 0, 0, 0, 0, 0, false⟩, len := fun _ => rfl, one := by (intro x u hu; simp only [List.mem_cons, List.not_mem_nil, or_false] at hu; repeat (first | (rcases hu with rfl | hu; rfl) | (subst hu; rfl))), pos := by decide, small := by decide }
def FEv : FT Ev := { n := 7, enc := fun x => [.int .i64 x.Kind, .int .i64 x.Who, .int .i64 x.Serial, .int .i64 x.Cell, .int .i64 x.Handle, .int .i64 x.Val, .int .i64 x.Code], dflt := ⟨0, 0, 0, 0, 0, 0, 0⟩, len := fun _ => rfl, one := by (intro x u hu; simp only [List.mem_cons, List.not_mem_nil, or_false] at hu; repeat (first | (rcases hu with rfl | hu; rfl) | (subst hu; rfl))), pos := by decide, small := by decide }
def FJob : FT Job := { n := 21, enc := fun x => [.bool x.Busy, .int .i64 x.Op.Kind, .int .i64 x.Op.Cell, .int .i64 x.Op.Size, .int .i64 x.Op.Val, .int .i64 x.Serial, .int .i64 x.Pc, .int .i64 x.Sub.Kind, .int .i64 x.Sub.A, .int .i64 x.Sub.Pc, .int .i64 x.Sub.E, .int .i64 x.Sub.Row, .int .i64 x.Sub.B, .int .i64 x.Sub.H, .int .i64 x.Sub.Out, .int .i64 x.Sub.Code, .bool x.Sub.Done, .int .i64 x.H, .int .i64 x.Old, .int .i64 x.Val, .int .i64 x.Code], dflt := ⟨false, ⟨0, 0, 0, 0⟩, 0, 0, ⟨0, 0, 0, 0, 0, 0, 0, 0, 0, false⟩, 0, 0, 0, 0⟩, len := fun _ => rfl, one := by (intro x u hu; simp only [List.mem_cons, List.not_mem_nil, or_false] at hu; repeat (first | (rcases hu with rfl | hu; rfl) | (subst hu; rfl))), pos := by decide, small := by decide }
end Go.Proofs.YtkldapdpaldbgaaGreat
