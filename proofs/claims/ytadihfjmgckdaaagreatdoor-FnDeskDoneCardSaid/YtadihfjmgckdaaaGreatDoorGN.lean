/-
  Texts of walks and plain lemmas for this seat; no condition.
-/
import Derived.Test.YtadihfjmgckdaaaGreatDoorGA
import Derived.Test.YtadihfjmgckdaaaGreatDoorGB
import Derived.Test.YtadihfjmgckdaaaGreatDoorGG
import Derived.Test.YtadihfjmgckdaaaGreatDoorGK
import Derived.Test.YtadihfjmgckdaaaGreatDoorRows
import Derived.Deep.QuietTactic
import Derived.BigQuiet
import Derived.Laws.StructEq
namespace Go.Proofs.YtadihfjmgckdaaaGreatDoor
open Go.RowKit
section

end

section

end

section

end

section

set_option maxHeartbeats 400000 in
theorem alive_any (w : World) : Calls Tryz.prog 14 #[] w fun e w' => e = .returned (.bool true) ∧ w = w' := by
  have h0 : bits .andNot .i64 15 0 = 15 := by decide
  have h1 : bits .andNot .i64 15 15 = 0 := by decide
  go_enter Tryz.func14, Tryz.ntmps14
  go_wp2
  go_ret
  exact ⟨rfl, rfl⟩
end
end Go.Proofs.YtadihfjmgckdaaaGreatDoor
