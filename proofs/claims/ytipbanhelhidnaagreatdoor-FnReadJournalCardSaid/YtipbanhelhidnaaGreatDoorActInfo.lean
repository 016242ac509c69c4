/-
  Texts of walks and plain lemmas for this seat; no condition.
-/
import Derived.Test.YtipbanhelhidnaaGreatDoorRows
import Derived.WalkKit
namespace Go.Proofs.YtipbanhelhidnaaGreatDoor
open Go.RowKit

theorem info_act : (Tryz.prog.info? 41).map (fun i => (i.zero, i.size, i.bytes)) = some (some (.agg #[.int .i64 0, .int .i64 0, .bool false, .int .i64 0, .int .i64 0]), 5, 40) := by kernel_rfl
end Go.Proofs.YtipbanhelhidnaaGreatDoor
