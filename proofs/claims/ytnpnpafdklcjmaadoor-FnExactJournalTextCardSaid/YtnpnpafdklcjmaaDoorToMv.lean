/-
  Texts of walks and plain lemmas for this seat; no condition.
-/
import Derived.Test.YtnpnpafdklcjmaaDoorMv
import Derived.Test.YtnpnpafdklcjmaaDoorBlk
import Derived.Test.YtnpnpafdklcjmaaDoorRows
namespace Go.Proofs.YtnpnpafdklcjmaaDoor
open Go.RowKit

set_option maxHeartbeats 800000 in
theorem toMove_any (m : Mv) (w : World) :
    Calls Tryd.prog 7 #[.agg #[.int .i64 m.which, .bool m.back, .int .i64 m.at_]] w fun e w' => e = .returned (.agg #[.int .i64 m.which, .bool m.back, .int .i64 m.at_]) ∧ Below w.heap.size w w' := by
  go_enter Tryd.func7, Tryd.ntmps7
  go_wp2
  refine bodyPost_ret (v := .agg #[.int .i64 m.which, .bool m.back, .int .i64 m.at_]) (by simp [results, Tryd.results7, go_sem]) rfl ⟨rfl, ?_⟩
  exact (((Below.refl _ _).alloc (Nat.le_refl _) _).alloc (by simp) _).alloc (by simp; omega) _
end Go.Proofs.YtnpnpafdklcjmaaDoor
