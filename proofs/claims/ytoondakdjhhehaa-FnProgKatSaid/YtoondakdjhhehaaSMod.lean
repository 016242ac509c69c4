/-
  Texts of walks and plain lemmas for this seat; no condition.
-/
import Derived.Test.YtoondakdjhhehaaSBits
import Derived.Test.YtoondakdjhhehaaCertI
import Derived.Deep.QuietTactic
import Derived.BigQuiet
import Derived.Deep.RegionHeld3
import Derived.Deep.DrawnRows
import Derived.IntWalk
namespace Go.Proofs.Ytoondakdjhhehaa
open Go.RowKit

theorem pow_wrapI : ∀ {k : Nat}, k < 21 → IntKind.i64.wrap (2 ^ k) = ((2 ^ k : Nat) : Int) := by decide +kernel
theorem l1In_q (n lo hi : Int) (w : World) : Calls Try.prog 30 #[.int .i64 n, .int .i64 lo, .int .i64 hi] w fun e w' => e = .returned (.bool (inB n lo hi)) ∧ w' = w :=
  (l1In_any n lo hi w).mono fun _ _ ⟨h, k⟩ => ⟨h, k.symm⟩
theorem isSet_in {n x : Int} {m K : Nat} (hm : min (max n 0) 5 = (m : Int)) (hK : K = 2 ^ m) (hn : inB n 1 5 = true) : isSetB n x = inB x 0 ((K : Int) - 1) := by
  simp only [inB, Bool.and_eq_true, decide_eq_true_eq] at hn
  have e : n.toNat = m := by omega
  have e2 : (2 : Int) ^ n.toNat = (K : Int) := by rw [e, hK]; push_cast; rfl
  rw [isSetB, e2, inB, Bool.eq_iff_iff]
  simp only [Bool.and_eq_true, decide_eq_true_eq]
  omega
theorem rowsB_not {n : Int} {xs : List Int} {m K : Nat} (hm : min (max n 0) 5 = (m : Int)) (hK : K = 2 ^ m) {k : Nat} (hk : k < xs.length) (h : inB xs[k] 0 ((K : Int) - 1) = false) : rowsB n xs = false := by
  cases hn : inB n 1 5 with
  | false => simp [rowsB, hn]
  | true =>
    rw [← isSet_in hm hK hn] at h
    rw [Bool.eq_false_iff]
    intro he
    simp only [rowsB, Bool.and_eq_true, List.all_eq_true] at he
    have := he.2 _ (List.getElem_mem hk)
    rw [h] at this
    cases this
theorem rowsB_all {n : Int} {xs : List Int} {m K : Nat} (hm : min (max n 0) 5 = (m : Int)) (hK : K = 2 ^ m) (h : ∀ k (hk : k < xs.length), inB xs[k] 0 ((K : Int) - 1) = true) : rowsB n xs = (inB n 1 5 && decide ((xs.length : Int) = n)) := by
  cases hn : inB n 1 5 with
  | false => simp [rowsB, hn]
  | true =>
    simp only [rowsB, hn, Bool.true_and]
    have : xs.all (isSetB n) = true := by
      rw [List.all_eq_true]
      intro x hx
      obtain ⟨k, hk, rfl⟩ := List.getElem_of_mem hx
      rw [isSet_in hm hK hn]
      exact h k hk
    rw [this, Bool.and_true]

theorem modB_not {n p q : Int} {acts : List (List Int)} {k : Nat} (hk : k < acts.length) (h : rowsB n acts[k] = false) : modB ⟨n, p, q, acts⟩ = false := by
  rw [Bool.eq_false_iff]
  intro he
  simp only [modB, Bool.and_eq_true, List.all_eq_true] at he
  have := he.2 _ (List.getElem_mem hk)
  rw [h] at this
  cases this
theorem modB_no1 {n p q : Int} {acts : List (List Int)} (h : inB n 1 5 = false) : modB ⟨n, p, q, acts⟩ = false := by simp [modB, h]
theorem modB_rest {n p q : Int} {acts : List (List Int)} {m K : Nat} (hm : min (max n 0) 5 = (m : Int)) (hK : K = 2 ^ m) (hn : inB n 1 5 = true) (h : ∀ k (hk : k < acts.length), rowsB n acts[k] = true) :
    modB ⟨n, p, q, acts⟩ = (inB p 0 ((K : Int) - 1) && (inB q 0 ((K : Int) - 1) && decide (acts.length = 3))) := by
  have h1 : acts.all (rowsB n) = true := by
    rw [List.all_eq_true]
    intro x hx
    obtain ⟨k, hk, rfl⟩ := List.getElem_of_mem hx
    exact h k hk
  simp only [modB, hn, h1, Bool.true_and, Bool.and_true, isSet_in hm hK hn, Bool.and_assoc]
end Go.Proofs.Ytoondakdjhhehaa
