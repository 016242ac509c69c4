/-
  Texts of walks and plain lemmas for this seat; no condition.
-/
import Derived.Test.YtoondakdjhhehaaCerP
namespace Go.Proofs.Ytoondakdjhhehaa
open Go.RowKit

end Go.Proofs.Ytoondakdjhhehaa
