/-
  Texts of walks and plain lemmas for this seat; no condition.
-/
import Derived.Test.YtplofpdjhelabaaGreatDoorGO
import Derived.Test.YtplofpdjhelabaaGreatDoorGS
namespace Go.Proofs.YtplofpdjhelabaaGreatDoor
open Go.RowKit
set_option linter.unusedVariables false

theorem simpE_le (e : List Int) : (simpE e).length ≤ e.length := by
  unfold simpE
  split
  · have := simpM_bd _ e (Nat.le_refl _)
    omega
  · simp
theorem simpE_idem {e : List Int} (h : katV e = true) : simpE (simpE e) = simpE e := by
  have h1 := simpM_none (simpE_done h)
  have h2 := simpE_kat h
  rw [simpE, if_pos h2, h1]
theorem rowsV_len (M : Mo) (e : List Int) : (rowsV M e).length ≤ 5 := by
  unfold rowsV
  split
  · rename_i h
    simp only [Bool.and_eq_true] at h
    have h1 := h.1
    simp only [modB, Bool.and_eq_true, decide_eq_true_eq, inB] at h1
    have h5 : M.n ≤ 5 := by obtain ⟨⟨⟨⟨⟨_, h5⟩, _⟩, _⟩, _⟩, _⟩ := h1; exact h5
    rw [rowsR_length]
    omega
  · simp
theorem runA_two (D : Dsk) (l : List Ac) (k : Nat) : (runA D l).1 = (runA (runA D (l.take k)).1 (l.drop k)).1 ∧ (runA D l).2 = (runA D (l.take k)).2 + (runA (runA D (l.take k)).1 (l.drop k)).2 := by
  have key : ∀ (l : List Ac) (X : Dsk) (n : Int), (l.foldl stepA (X, n)).1 = (l.foldl stepA (X, 0)).1 ∧ (l.foldl stepA (X, n)).2 = n + (l.foldl stepA (X, 0)).2 := by
    intro l
    induction l with
    | nil => intro X n; simp
    | cons a r ih =>
      intro X n
      simp only [List.foldl_cons, stepA]
      split
      · have h1 := ih (deskDo X a).1 (n + 1)
        have h2 := ih (deskDo X a).1 (0 + 1)
        exact ⟨h1.1.trans h2.1.symm, by rw [h1.2, h2.2]; omega⟩
      · exact ih (deskDo X a).1 n
  have h : runA D l = (l.drop k).foldl stepA (runA D (l.take k)) := by
    unfold runA
    rw [← List.foldl_append, List.take_append_drop]
  rw [h]
  exact key (l.drop k) _ _
theorem desk_rows {D : Dsk} (M : Mo) (h : deskV D = true) : rowsV M D.first = rowsV M D.now := rowsV_proof (deskV_parts h).2.2.2.2
end Go.Proofs.YtplofpdjhelabaaGreatDoor
