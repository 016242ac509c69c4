/-
  Texts of walks and plain lemmas for this seat; no condition.
-/
import Derived.Test.YtoondakdjhhehaaCIns
import Derived.Test.YtoondakdjhhehaaGA
namespace Go.Proofs.Ytoondakdjhhehaa
open Go.RowKit

theorem codeV_bad {c : List In3} {k : Nat} (h : k < c.length) (hb : insB c.length c[k] = false) : codeV c = false := by
  rw [Bool.eq_false_iff]
  intro he
  have := (codeV_iff.1 he).ins k h
  rw [insAt_get h, hb] at this
  cases this
theorem codeV_good {c : List In3} (h1 : 1 ≤ c.length) (h2 : c.length ≤ 40) (h : ∀ j (hj : j < c.length), insB c.length c[j] = true) : codeV c = decide (2 ≤ (insAt c (c.length - 1)).kind) := by
  rw [Bool.eq_iff_iff, codeV_iff, decide_eq_true_eq]
  exact ⟨fun h => h.last, fun hl => ⟨h1, h2, fun i hi => by rw [insAt_get hi]; exact h i hi, hl⟩⟩

theorem insB_is (n kd ar tt : Int) : insB n ⟨kd, ar, tt⟩ = if kd = 0 then isActB ar && decide (tt = 0) else if kd = 1 then inB ar 0 15 && (decide (0 ≤ tt) && decide (tt < n)) else if kd = 2 then decide (ar = 0) && (decide (0 ≤ tt) && decide (tt < n)) else decide (kd = 3) && decide (ar = 0) && decide (tt = 0) := by
  have h : inB tt 0 (n - 1) = (decide (0 ≤ tt) && decide (tt < n)) := by rw [Bool.eq_iff_iff]; simp [inB]; omega
  unfold insB
  simp only [h]
  rfl
end Go.Proofs.Ytoondakdjhhehaa
