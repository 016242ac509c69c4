/-
  Texts of walks and plain lemmas for this seat; no condition.
-/
import Derived.Test.YtadihfjmgckdaaaGreatDoorRowsP
import Derived.Test.YtadihfjmgckdaaaGreatDoorGA
namespace Go.Proofs.YtadihfjmgckdaaaGreatDoor
open Go.RowKit

theorem five_cases {n : Int} (h : inB n 1 5 = true) : n = 1 ∨ n = 2 ∨ n = 3 ∨ n = 4 ∨ n = 5 := by
  simp only [inB, Bool.and_eq_true, decide_eq_true_eq] at h
  omega
theorem hasStates_any (n : Int) (w : World) : Calls Tryz.prog 93 #[.int .i64 n] w fun e w' => e = .returned (.bool (inB n 1 5)) ∧ w = w' := by
  by_cases h1 : 1 ≤ n
  · by_cases h2 : n ≤ 5
    · go_enter Tryz.func93, Tryz.ntmps93
      go_wp2
      go_ret
      exact ⟨ret_bool (by simp [inB, h1, h2]), rfl⟩
    · go_enter Tryz.func93, Tryz.ntmps93
      go_wp2
      go_ret
      exact ⟨ret_bool (by simp [inB]; omega), rfl⟩
  · go_enter Tryz.func93, Tryz.ntmps93
    go_wp2
    go_ret
    exact ⟨ret_bool (by simp [inB]; omega), rfl⟩
theorem isSet_any (n x : Int) (hn : inB n 1 5 = true) (w : World) : Calls Tryz.prog 94 #[.int .i64 n, .int .i64 x] w fun e w' => e = .returned (.bool (isSetB n x)) ∧ w = w' := by
  by_cases h1 : 0 ≤ x
  · rcases five_cases hn with rfl | rfl | rfl | rfl | rfl
    all_goals
      go_enter Tryz.func94, Tryz.ntmps94
      go_wp2
      go_ret
      refine ⟨ret_bool ?_, rfl⟩
      simp [isSetB, h1]
  · go_enter Tryz.func94, Tryz.ntmps94
    go_wp2
    go_ret
    exact ⟨ret_bool (by simp [isSetB]; omega), rfl⟩
end Go.Proofs.YtadihfjmgckdaaaGreatDoor
