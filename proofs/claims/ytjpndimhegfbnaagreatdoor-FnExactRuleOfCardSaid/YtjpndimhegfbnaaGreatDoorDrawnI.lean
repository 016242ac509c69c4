/-
  Texts of walks and plain lemmas for this seat; no condition.
-/
import Derived.Test.YtjpndimhegfbnaaGreatDoorRdOdd
import Derived.Test.YtjpndimhegfbnaaGreatDoorApp
import Derived.Test.YtjpndimhegfbnaaGreatDoorT1
import Derived.Test.YtjpndimhegfbnaaGreatDoorT3
namespace Go.Proofs.YtjpndimhegfbnaaGreatDoor
open Go.RowKit

/-- What a draw of a list leaves: the list, in new memory; the reader has read on. -/
def DrawnI (g c : Nat) (w : World) (v : Value) (w' : World) (most : Nat) : Prop :=
  ∃ xs : List Int, OwnI w.heap.size w'.heap.size 3 w' v xs ∧ xs.length ≤ most ∧ Outside g (g + 1) w w' ∧ Rd g w' c

theorem oi (xs : List Int) (n : Nat) (h : n = xs.length) {lo hi e : Nat} {w : World} {v : Value} (ho : Own 1 lo hi e w v n (ints xs)) : OwnI lo hi e w v xs := by subst h; exact ho
end Go.Proofs.YtjpndimhegfbnaaGreatDoor
