/-
  Texts of walks and plain lemmas for this seat; no condition.
-/
import Derived.Test.YtoondakdjhhehaaCerP
import Derived.Test.YtoondakdjhhehaaGQ
namespace Go.Proofs.Ytoondakdjhhehaa
open Go.RowKit

theorem sole_no {x : Nat} (hx : x < 32) (h : sole x = false) (h0 : x ≠ 0) : (x &&& (x - 1)) ≠ 0 := by
  rw [sole_bits x hx] at h
  simp [h0] at h
  exact h
theorem sole_yes {x : Nat} (hx : x < 32) (h : sole x = true) : x ≠ 0 ∧ (x &&& (x - 1)) = 0 := by
  rw [sole_bits x hx] at h
  simp at h
  exact h
theorem certB_no {M : Mo} {k j : Nat} (hk : k < M.acts.length) (hj : j < M.acts[k].length) (h : sole (M.acts[k][j]).toNat = false) : certB M = false := by
  rw [Bool.eq_false_iff]
  intro hc
  simp only [certB, Bool.and_eq_true, List.all_eq_true] at hc
  have := hc.2 _ (List.getElem_mem hk) _ (List.getElem_mem hj)
  rw [h] at this
  cases this
theorem certB_yes {M : Mo} (hm : modB M = true) (h : ∀ k (hk : k < M.acts.length) j (hj : j < M.acts[k].length), sole (M.acts[k][j]).toNat = true) : certB M = true := by
  simp only [certB, hm, Bool.true_and, List.all_eq_true]
  intro r hr x hx
  obtain ⟨k, hk, rfl⟩ := List.getElem_of_mem hr
  obtain ⟨j, hj, rfl⟩ := List.getElem_of_mem hx
  exact h k hk j hj
theorem certB_mod' {M : Mo} (h : modB M = false) : certB M = false := by simp [certB, h]
/-- An element of a valid model's rows. -/
theorem modB_el {M : Mo} (hm : modB M = true) {k j : Nat} (hk : k < M.acts.length) (hj : j < M.acts[k].length) : ∃ x : Nat, M.acts[k][j] = x ∧ x < 32 := by
  simp only [modB, Bool.and_eq_true, decide_eq_true_eq, List.all_eq_true] at hm
  have hr := hm.2 _ (List.getElem_mem hk)
  simp only [rowsB, inB, Bool.and_eq_true, decide_eq_true_eq, List.all_eq_true, isSetB] at hr
  obtain ⟨⟨⟨h1, h2⟩, _⟩, h3⟩ := hr
  obtain ⟨h4, h5⟩ := h3 _ (List.getElem_mem hj)
  refine ⟨(M.acts[k][j]).toNat, by omega, ?_⟩
  have : (2 : Int) ^ M.n.toNat ≤ 32 := by
    have : M.n.toNat = 1 ∨ M.n.toNat = 2 ∨ M.n.toNat = 3 ∨ M.n.toNat = 4 ∨ M.n.toNat = 5 := by omega
    rcases this with h | h | h | h | h <;> rw [h] <;> decide
  omega
end Go.Proofs.Ytoondakdjhhehaa
