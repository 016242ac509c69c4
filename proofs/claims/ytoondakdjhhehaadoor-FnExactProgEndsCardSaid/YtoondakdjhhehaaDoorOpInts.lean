/-
  Texts of walks and plain lemmas for this seat; no condition.
-/
import Derived.Test.YtoondakdjhhehaaDoorGA
import Derived.Deep.Strs
import Derived.Lib.SmallJoins
import Derived.Deep.Slices
namespace Go.Proofs.YtoondakdjhhehaaDoor
open Go.RowKit

open Go.WideShapes Go.ChangeShapes in
theorem ints_of_cells {H : Type} {enc : TypeId × Value → H} {w : World} {base fuel : Nat} {held : Bool} {v : Value} {x : DataW H × List MemPlace}
    (hf : DataW.trod enc Tryd.prog w base (fun _ => true) held fuel 43 [v] = some x) : ∃ xs, SlI 0 w.heap.size w v xs := by
  rcases Go.ChangeShapes.open_ints Tryd.underlying43 Tryd.underlying3 (by kernel_rfl) hf with ⟨hcs, _⟩ | ⟨a, l, c, zs, hcs, _, hl, hm, hz, _, hcell, hwz⟩
  · simp at hcs
    subst hcs
    exact IsRow.ints (zs := []) (.inl ⟨rfl, rfl, rfl, rfl⟩)
  · simp at hcs
    subst hcs
    exact IsRow.ints (zs := zs) (.inr ⟨_, rfl, hl, hm, by simpa using hz, hcell, hwz⟩)
end Go.Proofs.YtoondakdjhhehaaDoor
