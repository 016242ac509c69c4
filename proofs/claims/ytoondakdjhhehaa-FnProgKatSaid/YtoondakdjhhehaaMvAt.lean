/-
  Texts of walks and plain lemmas for this seat; no condition.
-/
import Derived.Test.YtoondakdjhhehaaGI
namespace Go.Proofs.Ytoondakdjhhehaa
open Go.RowKit

/-- The rules that fit at a step, of the first k. -/
def atV (e : List Int) (at_ : Int) : Nat → List Int
  | 0 => []
  | k + 1 => atV e at_ k ++ (if (moveV e ⟨(k : Nat), false, at_⟩).isSome then [(k : Int)] else [])
theorem atV_len (e : List Int) (at_ : Int) : ∀ k, (atV e at_ k).length ≤ k
  | 0 => Nat.le_refl _
  | k + 1 => by
    have := atV_len e at_ k
    simp only [atV, List.length_append]
    split <;> simp <;> omega
theorem atV_some {e : List Int} {at_ : Int} {k : Nat} {x : List Int} (h : moveV e ⟨(k : Nat), false, at_⟩ = some x) : atV e at_ (k + 1) = atV e at_ k ++ [(k : Int)] := by simp [atV, h]
theorem atV_none {e : List Int} {at_ : Int} {k : Nat} (h : moveV e ⟨(k : Nat), false, at_⟩ = none) : atV e at_ (k + 1) = atV e at_ k := by simp [atV, h]
theorem atV_bad {e : List Int} (at_ : Int) (h : katV e = false) : ∀ k, atV e at_ k = []
  | 0 => rfl
  | k + 1 => by rw [atV_none (moveV_kat h), atV_bad at_ h k]
end Go.Proofs.Ytoondakdjhhehaa
