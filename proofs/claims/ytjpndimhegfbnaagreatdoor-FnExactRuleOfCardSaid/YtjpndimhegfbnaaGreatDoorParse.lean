/-
  Texts of walks and plain lemmas for this seat; no condition.
-/
import Derived.Test.YtjpndimhegfbnaaGreatDoorReadTest
import Derived.Test.YtjpndimhegfbnaaGreatDoorKat
namespace Go.Proofs.YtjpndimhegfbnaaGreatDoor
open Go.RowKit

/-- A reader: what it reads, and what is left. -/
abbrev PR := List UInt8 → Option (List Int × List UInt8)
/-- A part in brackets, a letter, or a test of one sign. -/
def singleP (sum : PR) : PR
  | [] => none
  | c :: r =>
    if c.toNat = 40 then
      match sum r with
      | some (e, d :: r2) => if d.toNat = 41 then some (e, r2) else none
      | _ => none
    else if c.toNat = 33 ∨ c.toNat = 91 then none
    else if 97 ≤ c.toNat ∧ c.toNat ≤ 99 then some ([16 + ((c.toNat : Int) - 97)], r)
    else match readT [c] with
      | some t => some ([(t : Int)], r)
      | none => none
def starP : List Int → List UInt8 → List Int × List UInt8
  | e, [] => (e, [])
  | e, c :: r => if c.toNat = 42 then starP (e ++ [21]) r else (e, c :: r)
def starredP (single : PR) : PR := fun s => (single s).map fun x => starP x.1 x.2
def loopP (sign : Nat) (op : Int) (part : PR) : Nat → List Int → PR
  | _, e, [] => some (e, [])
  | 0, e, c :: r => if c.toNat = sign then none else some (e, c :: r)
  | n + 1, e, c :: r => if c.toNat = sign then (part r).bind fun x => loopP sign op part n (e ++ x.1 ++ [op]) x.2 else some (e, c :: r)
def chainP (sign : Nat) (op : Int) (part : PR) : PR := fun s => (part s).bind fun x => loopP sign op part x.2.length x.1 x.2
def sumP : Nat → PR
  | 0 => fun _ => none
  | n + 1 => chainP 43 20 (chainP 59 19 (starredP (singleP (sumP n))))
/-- The expression that a whole text tells. -/
def readP (s : List UInt8) : Option (List Int) :=
  match sumP 20 s with
  | some (e, []) => if katV e then some e else none
  | _ => none

/-- What is left is an end of what was there, and not all of it. -/
def Ends (p : PR) : Prop := ∀ s e r, p s = some (e, r) → ∃ k, 1 ≤ k ∧ k ≤ s.length ∧ r = s.drop k
theorem single_ends {sum : PR} (h : Ends sum) : Ends (singleP sum) := by
  intro s e r hs
  cases s with
  | nil => simp [singleP] at hs
  | cons c t =>
    simp only [singleP] at hs
    split at hs
    · split at hs
      · rename_i e' d r2 he
        split at hs
        · injection hs with hs
          injection hs with h1 h2
          subst h1 h2
          obtain ⟨k, h1, h2, h3⟩ := h _ _ _ he
          have hlt : k < t.length := by
            have := congrArg List.length h3
            simp at this
            omega
          refine ⟨k + 2, by omega, by simp; omega, ?_⟩
          rw [List.drop_eq_getElem_cons hlt] at h3
          injection h3
        · cases hs
      · cases hs
    · split at hs
      · cases hs
      · split at hs
        · injection hs with hs
          injection hs with h1 h2
          subst h2
          exact ⟨1, by omega, by simp, rfl⟩
        · split at hs
          · injection hs with hs
            injection hs with h1 h2
            subst h2
            exact ⟨1, by omega, by simp, rfl⟩
          · cases hs
theorem star_ends : ∀ (s : List UInt8) (e e' : List Int) (r : List UInt8), starP e s = (e', r) → ∃ k, k ≤ s.length ∧ r = s.drop k
  | [], e, e', r, h => by simp [starP] at h; exact ⟨0, by simp, by simp [h.2]⟩
  | c :: t, e, e', r, h => by
    simp only [starP] at h
    split at h
    · obtain ⟨k, h1, h2⟩ := star_ends t _ _ _ h
      exact ⟨k + 1, by simp; omega, by rw [h2]; simp⟩
    · injection h with _ h
      exact ⟨0, by simp, by rw [← h]; rfl⟩
theorem starred_ends {single : PR} (h : Ends single) : Ends (starredP single) := by
  intro s e r hs
  simp only [starredP, Option.map_eq_some_iff] at hs
  obtain ⟨⟨e1, r1⟩, h1, h2⟩ := hs
  obtain ⟨k, k1, k2, k3⟩ := h _ _ _ h1
  obtain ⟨j, j1, j2⟩ := star_ends _ _ _ _ h2
  replace j1 : j ≤ r1.length := j1
  replace j2 : r = r1.drop j := j2
  have : r1.length = s.length - k := by rw [k3]; simp
  exact ⟨k + j, by omega, by omega, by rw [j2, k3, List.drop_drop]⟩
theorem loop_ends {sign : Nat} {op : Int} {part : PR} (h : Ends part) : ∀ (n : Nat) (s : List UInt8) (e e' : List Int) (r : List UInt8), loopP sign op part n e s = some (e', r) → ∃ k, k ≤ s.length ∧ r = s.drop k
  | n, [], e, e', r, hs => by cases n <;> (simp [loopP] at hs; exact ⟨0, by simp, by simp [hs.2]⟩)
  | 0, c :: t, e, e', r, hs => by
    simp only [loopP] at hs
    split at hs
    · cases hs
    · injection hs with hs
      injection hs with _ hs
      exact ⟨0, by simp, by rw [← hs]; rfl⟩
  | n + 1, c :: t, e, e', r, hs => by
    simp only [loopP] at hs
    split at hs
    · simp only [Option.bind_eq_some_iff] at hs
      obtain ⟨⟨e1, r1⟩, h1, h2⟩ := hs
      obtain ⟨k, k1, k2, k3⟩ := h _ _ _ h1
      obtain ⟨j, j1, j2⟩ := loop_ends h n _ _ _ _ h2
      replace j1 : j ≤ r1.length := j1
      replace j2 : r = r1.drop j := j2
      have : r1.length = t.length - k := by rw [k3]; simp
      exact ⟨k + j + 1, by simp; omega, by rw [j2, k3, List.drop_drop]; simp⟩
    · injection hs with hs
      injection hs with _ hs
      exact ⟨0, by simp, by rw [← hs]; rfl⟩
theorem chain_ends {sign : Nat} {op : Int} {part : PR} (h : Ends part) : Ends (chainP sign op part) := by
  intro s e r hs
  simp only [chainP, Option.bind_eq_some_iff] at hs
  obtain ⟨⟨e1, r1⟩, h1, h2⟩ := hs
  obtain ⟨k, k1, k2, k3⟩ := h _ _ _ h1
  obtain ⟨j, j1, j2⟩ := loop_ends h _ _ _ _ _ h2
  replace j1 : j ≤ r1.length := j1
  replace j2 : r = r1.drop j := j2
  have : r1.length = s.length - k := by rw [k3]; simp
  exact ⟨k + j, by omega, by omega, by rw [j2, k3, List.drop_drop]⟩
theorem sum_ends : ∀ n, Ends (sumP n)
  | 0 => by intro s e r h; cases h
  | n + 1 => chain_ends (chain_ends (starred_ends (single_ends (sum_ends n))))
end Go.Proofs.YtjpndimhegfbnaaGreatDoor
