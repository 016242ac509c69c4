/-
  Texts of walks and plain lemmas for this seat; no condition.
-/
import Derived.Test.YtoondakdjhhehaaGQ
import Derived.Test.YtoondakdjhhehaaGA
import Derived.Deep.QuietTactic
namespace Go.Proofs.Ytoondakdjhhehaa
open Go.RowKit

def bitI (t k : Nat) : Int := if t.testBit k then 1 else 0
theorem bitI_cases (t k : Nat) : bitI t k = 0 ∨ bitI t k = 1 := by unfold bitI; split <;> simp
theorem bit_div (t k : Nat) : ((t : Int) / 2 ^ k).tmod 2 = bitI t k := by
  unfold bitI
  rw [show ((t : Int) / 2 ^ k) = ((t / 2 ^ k : Nat) : Int) by push_cast; rfl, Nat.testBit_eq_decide_div_mod_eq]
  have := Nat.mod_two_eq_zero_or_one (t / 2 ^ k)
  rw [show (((t / 2 ^ k : Nat) : Int).tmod 2) = ((t / 2 ^ k % 2 : Nat) : Int) from by rw [Int.tmod_eq_emod_of_nonneg (Int.natCast_nonneg _)]; rfl]
  rcases this with h | h <;> rw [h] <;> rfl
theorem and_mod_succ (a b k : Nat) : (((a &&& b) % 2 ^ (k + 1) : Nat) : Int) = (((a &&& b) % 2 ^ k : Nat) : Int) + bitI a k * bitI b k * 2 ^ k := by
  have h2 : (a &&& b).testBit k = (a.testBit k && b.testBit k) := Nat.testBit_and a b k
  have h5 : (a &&& b) / 2 ^ k % 2 = if a.testBit k && b.testBit k then 1 else 0 := by
    rw [Nat.testBit_eq_decide_div_mod_eq] at h2
    have h6 := Nat.mod_two_eq_zero_or_one ((a &&& b) / 2 ^ k)
    cases h7 : (a.testBit k && b.testBit k)
    · rw [h7] at h2
      have := of_decide_eq_false h2
      simp; omega
    · rw [h7] at h2
      have := of_decide_eq_true h2
      simp; omega
  rw [Nat.mod_pow_succ, h5]
  unfold bitI
  cases a.testBit k <;> cases b.testBit k <;> simp
theorem pow_wrap20 : ∀ {k : Nat}, k < 21 → wrap64 (2 ^ k) = ((2 ^ k : Nat) : Int) := by decide +kernel
end Go.Proofs.Ytoondakdjhhehaa
