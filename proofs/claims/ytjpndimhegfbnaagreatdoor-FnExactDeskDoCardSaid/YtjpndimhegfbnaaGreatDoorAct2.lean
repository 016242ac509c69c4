/-
  Texts of walks and plain lemmas for this seat; no condition.
-/
import Derived.Test.YtjpndimhegfbnaaGreatDoorAct
import Derived.Test.YtjpndimhegfbnaaGreatDoorGG
namespace Go.Proofs.YtjpndimhegfbnaaGreatDoor
open Go.RowKit

set_option maxHeartbeats 1600000 in
theorem toAct_any (a : Ac) (w : World) :
    Calls Tryz.prog 58 #[.agg #[.int .i64 a.kind, .int .i64 a.step.which, .bool a.step.back, .int .i64 a.step.at_, .int .i64 a.count]] w fun e w' => e = .returned (.agg #[.int .i64 a.kind, .int .i64 a.step.which, .bool a.step.back, .int .i64 a.step.at_, .int .i64 a.count]) ∧ Below w.heap.size w w' := by
  obtain ⟨k, m, c⟩ := a
  go_enter Tryz.func58, Tryz.ntmps58
  go_wp2_with (first | go_in)
  refine bodyPost_ret (v := .agg #[.int .i64 m.which, .bool m.back, .int .i64 m.at_]) (by simp [results, Tryz.results55, go_sem]) rfl ?_
  go_wp2
  refine bodyPost_ret (v := .agg #[.int .i64 k, .int .i64 m.which, .bool m.back, .int .i64 m.at_, .int .i64 c]) (by simp [results, Tryz.results58, go_sem]) rfl ⟨rfl, ?_⟩
  exact ((((((Below.refl _ _).alloc (Nat.le_refl _) _).alloc (by simp) _).alloc (by simp; omega) _).alloc (by simp; omega) _).alloc (by simp; omega) _).alloc (by simp; omega) _
end Go.Proofs.YtjpndimhegfbnaaGreatDoor
