/-
  Texts of walks and plain lemmas for this seat; no condition.
-/
import Derived.Test.YtagjpecibpejmaaGreatDoorMvRead
namespace Go.Proofs.YtagjpecibpejmaaGreatDoor
open Go.RowKit

theorem mvText_last : ∀ p, p < 21 → ∀ q, q < 40 → ∀ b : Bool, (mvText ⟨(p : Nat), b, (q : Nat)⟩).getLast? ≠ some 32 := by decide +kernel
/-- With a space behind it no text is one of a move. -/
theorem readMv_more (l : List UInt8) : readMv (l ++ [32]) = none :=
  readMv_none fun m hm e => by
    obtain ⟨p, q, hp, hq, em⟩ := mvOk_nat hm
    have h := mvText_last p (by omega) q (by omega) m.back
    rw [← em, e] at h
    simp at h
end Go.Proofs.YtagjpecibpejmaaGreatDoor
