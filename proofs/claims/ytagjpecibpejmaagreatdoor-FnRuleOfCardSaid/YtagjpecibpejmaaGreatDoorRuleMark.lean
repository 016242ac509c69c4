/-
  Texts of walks and plain lemmas for this seat; no condition.
-/
import Derived.Test.YtagjpecibpejmaaGreatDoorGA
import Derived.Test.YtagjpecibpejmaaGreatDoorGB
namespace Go.Proofs.YtagjpecibpejmaaGreatDoor
open Go.RowKit

theorem eqL_same' (xs : List Int) : eqL xs xs = true := by simp [eqL]
abbrev aggR (a b : Value) : Value := .agg #[a, b]
/-- The sides read. -/
def RuleAt (lo hi : Nat) (w : World) (a b : Value) (L R : List Int) : Prop := SlI lo hi w a L ∧ SlI lo hi w b R
theorem RuleOwn.at {lo hi : Nat} {w : World} {a b : Value} {L R : List Int} (h : RuleOwn lo hi w a b L R) : RuleAt lo hi w a b L R := by
  obtain ⟨m, h1, h2, h3, h4⟩ := h
  exact ⟨h3.sl.wide (Nat.le_refl _) h2, h4.sl.wide h1 (Nat.le_refl _)⟩
theorem RuleAt.below {lo hi B : Nat} {w w' : World} {a b : Value} {L R : List Int} (h : RuleAt lo hi w a b L R) (hb : Below B w w') (hB : hi ≤ B) : RuleAt lo hi w' a b L R := ⟨h.1.below hb hB, h.2.below hb hB⟩
theorem RuleAt.outside {lo hi lo' hi' : Nat} {w w' : World} {a b : Value} {L R : List Int} (h : RuleAt lo hi w a b L R) (hb : Outside lo' hi' w w') (hd : hi ≤ lo' ∨ hi' ≤ lo) : RuleAt lo hi w' a b L R := ⟨h.1.outside hb hd, h.2.outside hb hd⟩
theorem RuleAt.wide {lo hi lo' hi' : Nat} {w : World} {a b : Value} {L R : List Int} (h : RuleAt lo hi w a b L R) (h1 : lo' ≤ lo) (h2 : hi ≤ hi') : RuleAt lo' hi' w a b L R := ⟨h.1.wide h1 h2, h.2.wide h1 h2⟩
end Go.Proofs.YtagjpecibpejmaaGreatDoor
