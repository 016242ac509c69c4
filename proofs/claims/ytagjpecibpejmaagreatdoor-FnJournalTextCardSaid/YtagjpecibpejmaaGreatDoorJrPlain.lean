/-
  Texts of walks and plain lemmas for this seat; no condition.
-/
import Derived.Test.YtagjpecibpejmaaGreatDoorRAct
import Derived.Lib.IndexLaws
namespace Go.Proofs.YtagjpecibpejmaaGreatDoor
open Go.RowKit

/-- The place of the first newline. -/
def nl (l : List UInt8) : Option Nat := l.findIdx? (· == 10)
/-- The acts with which a text begins, and how many bytes their lines have. -/
def jr : Nat → List UInt8 → List Ac × Nat
  | 0, _ => ([], 0)
  | f + 1, l => match nl l with
    | none => ([], 0)
    | some i => match readAc (l.take i) with
      | none => ([], 0)
      | some a => (a :: (jr f (l.drop (i + 1))).1, i + 1 + (jr f (l.drop (i + 1))).2)
def readJr (l : List UInt8) : List Ac × Nat := jr (l.length + 1) l

theorem nl_some {l : List UInt8} {i : Nat} (h : nl l = some i) : l[i]? = some 10 ∧ i < l.length ∧ ∀ j, j < i → l[j]? ≠ some 10 := by
  unfold nl at h
  rw [List.findIdx?_eq_some_iff_getElem] at h
  obtain ⟨hi, h1, h2⟩ := h
  have e : l[i] = 10 := by simpa using h1
  refine ⟨by rw [List.getElem?_eq_getElem hi, e], hi, fun j hj he => ?_⟩
  have hjl : j < l.length := by omega
  rw [List.getElem?_eq_getElem hjl] at he
  have := h2 j hj
  injection he with he
  simp [he] at this
theorem nl_none {l : List UInt8} (h : nl l = none) (j : Nat) : l[j]? ≠ some 10 := by
  intro he
  unfold nl at h
  rw [List.findIdx?_eq_none_iff] at h
  have := h 10 (List.mem_of_getElem? he)
  simp at this
theorem nl_of {l : List UInt8} {i : Nat} (h1 : l[i]? = some 10) (h2 : ∀ j, j < i → l[j]? ≠ some 10) : nl l = some i := by
  cases h : nl l with
  | none => exact absurd h1 (nl_none h i)
  | some k =>
    obtain ⟨g1, g2, g3⟩ := nl_some h
    rcases Nat.lt_trichotomy k i with hk | rfl | hk
    · exact absurd g1 (h2 k hk)
    · rfl
    · exact absurd h1 (g3 i hk)
theorem nl_not {l : List UInt8} (h : ∀ j, j < l.length → l[j]? ≠ some 10) : nl l = none := by
  cases hn : nl l with
  | none => rfl
  | some k =>
    obtain ⟨g1, g2, _⟩ := nl_some hn
    exact absurd g1 (h k g2)

theorem jr_eq : ∀ (n : Nat) (l : List UInt8) (f f' : Nat), l.length ≤ n → l.length < f → l.length < f' → jr f l = jr f' l := by
  intro n
  induction n with
  | zero =>
    intro l f f' h1 h2 h3
    obtain rfl : l = [] := List.eq_nil_of_length_eq_zero (by omega)
    obtain ⟨f, rfl⟩ : ∃ g, f = g + 1 := ⟨f - 1, by omega⟩
    obtain ⟨f', rfl⟩ : ∃ g, f' = g + 1 := ⟨f' - 1, by omega⟩
    rfl
  | succ n ih =>
    intro l f f' h1 h2 h3
    obtain ⟨f, rfl⟩ : ∃ g, f = g + 1 := ⟨f - 1, by omega⟩
    obtain ⟨f', rfl⟩ : ∃ g, f' = g + 1 := ⟨f' - 1, by omega⟩
    unfold jr
    cases hn : nl l with
    | none => rfl
    | some i =>
      have hi := (nl_some hn).2.1
      simp only
      cases readAc (l.take i) with
      | none => rfl
      | some a =>
        simp only
        have hd : (l.drop (i + 1)).length < l.length := by rw [List.length_drop]; omega
        rw [ih (l.drop (i + 1)) f f' (by omega) (by omega) (by omega)]
theorem readJr_no {l : List UInt8} (h : nl l = none) : readJr l = ([], 0) := by
  unfold readJr jr; rw [h]
theorem readJr_bad {l : List UInt8} {i : Nat} (h : nl l = some i) (h2 : readAc (l.take i) = none) : readJr l = ([], 0) := by
  unfold readJr jr; rw [h]; simp only; rw [h2]
theorem readJr_more {l : List UInt8} {i : Nat} {a : Ac} (h : nl l = some i) (h2 : readAc (l.take i) = some a) : readJr l = (a :: (readJr (l.drop (i + 1))).1, i + 1 + (readJr (l.drop (i + 1))).2) := by
  have hi := (nl_some h).2.1
  have e : jr l.length (l.drop (i + 1)) = readJr (l.drop (i + 1)) := jr_eq l.length _ _ _ (by rw [List.length_drop]; omega) (by rw [List.length_drop]; omega) (by omega)
  conv => lhs; unfold readJr jr
  rw [h]; simp only; rw [h2]; simp only; rw [e]

theorem occ10 (l : List UInt8) (i : Nat) : Lib.occAt l [10] i = true ↔ l[i]? = some 10 := by
  unfold Lib.occAt
  rw [show l[i]? = (l.drop i)[0]? by rw [List.getElem?_drop]; simp]
  cases l.drop i with
  | nil => simp
  | cons c r =>
    show (([10] : List UInt8).isPrefixOf (c :: r)) = true ↔ some c = some 10
    rw [List.isPrefixOf, List.isPrefixOf, Bool.and_true, beq_iff_eq, Option.some.injEq]
    exact ⟨fun h => h.symm, fun h => h.symm⟩
theorem occ10f (l : List UInt8) (i : Nat) (h : l[i]? ≠ some 10) : Lib.occAt l [10] i = false := by
  cases ho : Lib.occAt l [10] i with
  | false => rfl
  | true => exact absurd ((occ10 l i).1 ho) h
theorem cut_nl {l : List UInt8} {i : Nat} (h : nl l = some i) : Lib.cut l [10] = (l.take i, l.drop (i + 1), true) := by
  obtain ⟨h1, h2, h3⟩ := nl_some h
  have hi : Lib.index l [10] = i := Lib.index_hit (fun j hj => occ10f l j (h3 j hj)) (by omega) ((occ10 l i).2 h1)
  unfold Lib.cut
  rw [hi, if_pos (by omega)]
  simp
theorem cut_no {l : List UInt8} (h : nl l = none) : Lib.cut l [10] = (l, [], false) := by
  have hi : Lib.index l [10] = -1 := Lib.index_past (i := l.length) (by simp) (fun j _ => occ10f l j (nl_none h j)) (by simp)
  unfold Lib.cut
  rw [hi, if_neg (by omega)]
end Go.Proofs.YtagjpecibpejmaaGreatDoor
