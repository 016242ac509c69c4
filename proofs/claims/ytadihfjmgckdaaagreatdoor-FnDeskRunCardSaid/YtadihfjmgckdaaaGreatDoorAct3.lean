/-
  Texts of walks and plain lemmas for this seat; no condition.
-/
import Derived.Test.YtadihfjmgckdaaaGreatDoorActT
import Derived.Deep.QuietTactic
import Derived.BigQuiet
import Derived.Deep.RegionWith
namespace Go.Proofs.YtadihfjmgckdaaaGreatDoor
open Go.RowKit

end Go.Proofs.YtadihfjmgckdaaaGreatDoor
