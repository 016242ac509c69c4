/-
  Texts of walks and plain lemmas for this seat; no condition.
-/
import Derived.Test.YtjpndimhegfbnaaGreatDoorT2
import Derived.Test.YtjpndimhegfbnaaGreatDoorShelf
namespace Go.Proofs.YtjpndimhegfbnaaGreatDoor
open Go.RowKit

/-- slices.Equal of ints. -/
theorem slEq_any (lo hi lo' hi' : Nat) (v v' : Value) (xs ys : List Int) (w : World) (hx : SlI lo hi w v xs) (hy : SlI lo' hi' w v' ys) :
    Calls Tryz.prog 80 #[v, v'] w fun e w' => e = .returned (.bool (eqL xs ys)) ∧ Below w.heap.size w w' := by
  obtain ⟨a, cap, rfl, hcap, hcm, hc⟩ := hx.open
  obtain ⟨a', cap', rfl, hcap', hcm', hc'⟩ := hy.open
  unfold maxLen at hcm hcm'
  by_cases hl : xs.length = ys.length
  · by_cases h0 : xs.length = 0
    · obtain rfl := List.eq_nil_of_length_eq_zero h0
      obtain rfl := List.eq_nil_of_length_eq_zero (show ys.length = 0 by omega)
      refine (Tryz.slices_Equal_int_empty a a' cap 0 cap' w (by omega)).mono ?_
      rintro e w' ⟨rfl, rfl⟩
      exact ⟨rfl, Below.refl _ _⟩
    · obtain ⟨b, off, rfl, _⟩ := hc 0 (by omega)
      obtain ⟨b', off', rfl, _⟩ := hc' 0 (by omega)
      refine (Tryz.slices_Equal_int b off xs.length cap b' off' ys.length cap' xs ys w (Nat.le_refl _) (Nat.le_refl _) (by omega) (by omega) ?_ ?_).mono ?_
      · intro j hj
        obtain ⟨b2, off2, e, _, _, _, h⟩ := hc j hj
        injection e with e; injection e with e1 e2; subst e1 e2
        rw [h]; simp [List.getD, hj]
      · intro j hj
        obtain ⟨b2, off2, e, _, _, _, h⟩ := hc' j hj
        injection e with e; injection e with e1 e2; subst e1 e2
        rw [h]; simp [List.getD, hj]
      · rintro e w' ⟨rfl, q, rfl⟩
        exact ⟨by simp [eqL], below_drewN (Below.refl _ _) _⟩
  · refine (Tryz.slices_Equal_int_lens a a' _ cap _ cap' w hl).mono ?_
    rintro e w' ⟨rfl, rfl⟩
    exact ⟨ret_bool (eqL_len hl).symm, Below.refl _ _⟩
end Go.Proofs.YtjpndimhegfbnaaGreatDoor
