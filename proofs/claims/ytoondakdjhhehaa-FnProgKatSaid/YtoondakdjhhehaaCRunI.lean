/-
  Texts of walks and plain lemmas for this seat; no condition.
-/
import Derived.Test.YtoondakdjhhehaaCertI
import Derived.Test.YtoondakdjhhehaaTzK
import Derived.Test.YtoondakdjhhehaaCVal
import Derived.Test.YtoondakdjhhehaaGQ
import Derived.Deep.QuietTactic
namespace Go.Proofs.Ytoondakdjhhehaa
open Go.RowKit

theorem crV_no1 {M : Mo} {c : List In3} {st : Int} (h : certB M = false) : crV M c st = (-1, 0) := by simp [crV, h]
theorem crV_no2 {M : Mo} {c : List In3} {st : Int} (h : codeV c = false) : crV M c st = (-1, 0) := by simp [crV, h]
theorem crV_no3 {M : Mo} {c : List In3} {st : Int} (h : inB st 0 (M.n - 1) = false) : crV M c st = (-1, 0) := by simp [crV, h]
theorem crV_at {M : Mo} {c : List In3} {st : Int} (h1 : certB M = true) (h2 : codeV c = true) (h3 : inB st 0 (M.n - 1) = true) : crV M c st = runV (machM M) c M.n.toNat st.toNat := by simp [crV, h1, h2, h3]

theorem insB_test {n : Int} {x : In3} (h : insB n x = true) (hk : x.kind = 1) : 0 ≤ x.arg ∧ x.arg ≤ 15 := by
  unfold insB at h
  rw [if_neg (by omega), if_pos hk] at h
  simp only [Bool.and_eq_true, inB, decide_eq_true_eq] at h
  exact h.1
end Go.Proofs.Ytoondakdjhhehaa
