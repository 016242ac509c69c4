/-
  Texts of walks and plain lemmas for this seat; no condition.
-/
import Derived.Test.YtjpndimhegfbnaaGreatDoorApp
import Derived.Test.YtjpndimhegfbnaaGreatDoorShelf
namespace Go.Proofs.YtjpndimhegfbnaaGreatDoor
open Go.RowKit

/-- slices.Clone of ints. -/
theorem cloneI_any (lo hi : Nat) (v : Value) (xs : List Int) (w : World) (hx : SlI lo hi w v xs) (hm : xs.length ≤ 1048576) :
    Calls Tryz.prog 76 #[v] w (RetV fun v' w' => Below w.heap.size w w' ∧ OwnI w.heap.size w'.heap.size 3 w' v' xs) := by
  obtain ⟨a, cap, rfl, hcap, hcm, hc⟩ := hx.open
  have hnone : a = none → cap = 0 := by obtain ⟨a', cap', e, _, _, _, h, _⟩ := hx; injection e with e1 _ e2; subst e1 e2; exact h
  by_cases hl : xs.length = 0
  · have hx0 : xs = [] := List.eq_nil_of_length_eq_zero hl
    subst hx0
    cases a with
    | none =>
      refine (Tryz.slices_Clone_int_nil _ _ w).mono ?_
      rintro e w' ⟨rfl, rfl⟩
      exact RetV.mk _ rfl ⟨Below.refl _ _, Own.nil _ _ _ _ _⟩
    | some ad =>
      refine (Tryz.slices_Clone_int_zero ad cap w).mono ?_
      rintro e w' ⟨v', rfl, h1, _, h2⟩
      exact RetV.mk _ rfl ⟨h2, Own.of_row h1⟩
  · obtain ⟨b, off, rfl, _⟩ := hc 0 (by omega)
    have hcc : ∀ j, j < xs.length → w.cell? ⟨b, off + j, none⟩ = some (.int .i64 (xs.getD j 0)) := by
      intro j hj
      obtain ⟨b', off', e, _, _, _, h⟩ := hc j hj
      injection e with e; injection e with e1 e2; subst e1 e2
      rw [h]
      simp [List.getD, hj]
    refine (Tryz.slices_Clone_int b off xs.length cap xs w (Nat.le_refl _) (by omega) hcc).mono ?_
    rintro e w' ⟨v', rfl, h1, _, h2⟩
    rw [List.take_length] at h1
    exact RetV.mk _ rfl ⟨h2, Own.of_row h1⟩
end Go.Proofs.YtjpndimhegfbnaaGreatDoor
