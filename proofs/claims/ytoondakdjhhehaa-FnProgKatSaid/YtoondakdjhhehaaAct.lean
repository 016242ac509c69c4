/-
  Texts of walks and plain lemmas for this seat; no condition.
-/
import Derived.Test.YtoondakdjhhehaaGA
import Derived.Laws.StructEq
namespace Go.Proofs.Ytoondakdjhhehaa
open Go.RowKit

/-- An act. -/
structure Ac where
  kind : Int
  step : Mv
  count : Int
deriving DecidableEq

def zAc : Ac := ⟨0, ⟨0, false, 0⟩, 0⟩
def encAc (a : Ac) : List Value := [.int .i64 a.kind, .int .i64 a.step.which, .bool a.step.back, .int .i64 a.step.at_, .int .i64 a.count]
def zMv (m : Mv) : Bool := (m.which == 0) && (!m.back) && (m.at_ == 0)
def namedB (a : Ac) : Bool := if a.kind == 0 then a.count == 0 else if a.kind == 1 then zMv a.step else if a.kind == 2 then zMv a.step && (a.count == 0) else false
end Go.Proofs.Ytoondakdjhhehaa
