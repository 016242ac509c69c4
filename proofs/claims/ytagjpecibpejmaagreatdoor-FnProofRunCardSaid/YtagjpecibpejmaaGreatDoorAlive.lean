/-
  Texts of walks and plain lemmas for this seat; no condition.
-/
import Derived.Test.YtagjpecibpejmaaGreatDoorGA
import Derived.Test.YtagjpecibpejmaaGreatDoorRows
namespace Go.Proofs.YtagjpecibpejmaaGreatDoor
open Go.RowKit

set_option maxHeartbeats 400000 in
theorem alive_any (w : World) : Calls Tryz.prog 15 #[] w fun e w' => e = .returned (.bool true) ∧ w = w' := by
  have h0 : bits .andNot .i64 15 0 = 15 := by decide
  have h1 : bits .andNot .i64 15 15 = 0 := by decide
  go_enter Tryz.func15, Tryz.ntmps15
  go_wp2
  go_ret
  exact ⟨rfl, rfl⟩
end Go.Proofs.YtagjpecibpejmaaGreatDoor
