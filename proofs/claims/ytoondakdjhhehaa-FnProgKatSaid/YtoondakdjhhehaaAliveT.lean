/-
  Texts of walks and plain lemmas for this seat; no condition.
-/
import Derived.Test.YtoondakdjhhehaaGA
import Derived.Test.YtoondakdjhhehaaRows
namespace Go.Proofs.Ytoondakdjhhehaa
open Go.RowKit

set_option maxHeartbeats 400000 in
theorem alive_any (w : World) : Calls Try.prog 8 #[] w fun e w' => e = .returned (.bool true) ∧ w = w' := by
  have h0 : bits .andNot .i64 15 0 = 15 := by decide
  have h1 : bits .andNot .i64 15 15 = 0 := by decide
  go_enter Try.func8, Try.ntmps8
  go_wp2
  go_ret
  exact ⟨rfl, rfl⟩
end Go.Proofs.Ytoondakdjhhehaa
