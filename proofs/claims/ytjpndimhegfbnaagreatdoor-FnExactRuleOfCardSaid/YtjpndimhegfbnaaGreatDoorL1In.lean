/-
  Texts of walks and plain lemmas for this seat; no condition.
-/
import Derived.Test.YtjpndimhegfbnaaGreatDoorBase
import Derived.Test.YtjpndimhegfbnaaGreatDoorRows
namespace Go.Proofs.YtjpndimhegfbnaaGreatDoor
open Go.RowKit

theorem ret_bool {a b : Bool} (h : a = b) : Ending.returned (.bool a) = .returned (.bool b) := by rw [h]
def inB (n lo hi : Int) : Bool := decide (lo ≤ n) && decide (n ≤ hi)
theorem l1In_any (n lo hi : Int) (w : World) :
    Calls Tryz.prog 69 #[.int .i64 n, .int .i64 lo, .int .i64 hi] w fun e w' => e = .returned (.bool (inB n lo hi)) ∧ w = w' := by
  go_enter Tryz.func69, Tryz.ntmps69
  by_cases h1 : lo ≤ n
  · by_cases h2 : n ≤ hi
    · go_wp2
      go_ret
      exact ⟨ret_bool (by simp [inB, h1, h2]), rfl⟩
    · go_wp2
      go_ret
      exact ⟨ret_bool (by simp [inB]; omega), rfl⟩
  · go_wp2
    go_ret
    exact ⟨ret_bool (by simp [inB]; omega), rfl⟩
end Go.Proofs.YtjpndimhegfbnaaGreatDoor
