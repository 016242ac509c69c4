/-
  Texts of walks and plain lemmas for this seat; no condition.
-/
import Derived.Test.YtjpndimhegfbnaaGreatDoorL1In
namespace Go.Proofs.YtjpndimhegfbnaaGreatDoor
open Go.RowKit

def isActB (n : Int) : Bool := decide (16 ≤ n) && decide (n ≤ 18)
theorem isAct_any (n : Int) (w : World) :
    Calls Tryz.prog 121 #[.int .i64 n] w fun e w' => e = .returned (.bool (isActB n)) ∧ w = w' := by
  go_enter Tryz.func121, Tryz.ntmps121
  by_cases h1 : 16 ≤ n
  · by_cases h2 : n ≤ 18
    · go_wp2
      go_ret
      exact ⟨ret_bool (by simp [isActB, h1, h2]), rfl⟩
    · go_wp2
      go_ret
      exact ⟨ret_bool (by simp [isActB]; omega), rfl⟩
  · go_wp2
    go_ret
    exact ⟨ret_bool (by simp [isActB]; omega), rfl⟩
end Go.Proofs.YtjpndimhegfbnaaGreatDoor
