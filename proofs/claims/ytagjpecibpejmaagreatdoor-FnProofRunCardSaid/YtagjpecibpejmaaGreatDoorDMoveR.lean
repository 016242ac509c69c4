/-
  Texts of walks and plain lemmas for this seat; no condition.
-/
import Derived.Test.YtagjpecibpejmaaGreatDoorGA
namespace Go.Proofs.YtagjpecibpejmaaGreatDoor
open Go.RowKit

/-- A move comes back. -/
def RetM (P : Mv → World → Prop) (e : Ending) (w' : World) : Prop := ∃ m : Mv, e = .returned (.agg #[.int .i64 m.which, .bool m.back, .int .i64 m.at_]) ∧ P m w'
end Go.Proofs.YtagjpecibpejmaaGreatDoor
