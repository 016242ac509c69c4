/-
  Texts of walks and plain lemmas for this seat; no condition.
-/
import Derived.Test.YtacgefknhncgfaaDoorGA
import Derived.Test.YtacgefknhncgfaaDoorRows
import Derived.Test.YtacgefknhncgfaaDoorShelf
import Derived.Stop.LaidErr
import Derived.Lib.AtoiAllCases
import Derived.LaidLaws
import Derived.Shelf.Vars
import Derived.Lib.SmallJoins
namespace Go.Proofs.YtacgefknhncgfaaDoor
open Go.RowKit

theorem star : "*" ++ "errors.errorString" = "*errors.errorString" := by decide
theorem most_of {w : World} (h : w.ShapedOpen Tryd.prog) : ∃ m, w.cell? ⟨1, 0, none⟩ = some (.int .i64 m) :=
  cell_of_shapedOpen_int (zero := #[.int .i64 0]) (t := 3) h (of_decide_eq_true (by kernel_rfl)) (by kernel_rfl) rfl (by kernel_rfl) (by kernel_rfl) Tryd.underlying3
/-- What Atoi tells of a text: its number, if it has one. -/
def atoiV (l : List UInt8) : Option Int := match Lib.atoiAll l with | .ok v => some v | _ => none

/-- A number and an error. -/
def RetNE (P : World → Prop) (e : Ending) (w' : World) : Prop := ∃ n t p, e = .returned (.tuple #[.int .i64 n, .iface t p]) ∧ P w'
end Go.Proofs.YtacgefknhncgfaaDoor
