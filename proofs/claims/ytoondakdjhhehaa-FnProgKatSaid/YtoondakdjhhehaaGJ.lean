/-
  Texts of walks and plain lemmas for this seat; no condition.
-/
import Derived.Test.YtoondakdjhhehaaGI
import Derived.Test.YtoondakdjhhehaaGG
namespace Go.Proofs.Ytoondakdjhhehaa
open Go.RowKit
section

def easyAt (a : Nat) : List Mv := easyN.map fun n => ⟨(n : Nat), false, (a : Nat)⟩
def restE (e : List Int) (a : Nat) : List Mv := ((List.range e.length).drop a).flatMap easyAt
theorem restE_zero (e : List Int) : restE e 0 = easyMv e := rfl
theorem restE_end (e : List Int) (a : Nat) (h : e.length ≤ a) : restE e a = [] := by unfold restE; rw [List.drop_of_length_le (by simpa using h)]; rfl
theorem restE_next (e : List Int) (a : Nat) (h : a < e.length) : restE e a = easyAt a ++ restE e (a + 1) := by
  unfold restE
  rw [List.drop_eq_getElem_cons (by simpa using h)]
  simp
theorem easyN_len : easyN.length = 11 := rfl
theorem easyAt_len (a : Nat) : (easyAt a).length = 11 := rfl
theorem easyAt_drop (a j : Nat) (h : j < 11) : (easyAt a).drop j = ⟨((easyN[j]'h : Nat) : Int), false, (a : Nat)⟩ :: (easyAt a).drop (j + 1) := by
  rw [List.drop_eq_getElem_cons (by rw [easyAt_len]; exact h)]
  simp [easyAt]
  rfl
def easyVs : Array Value := #[.int .i64 2, .int .i64 3, .int .i64 5, .int .i64 6, .int .i64 7, .int .i64 8, .int .i64 15, .int .i64 16, .int .i64 17, .int .i64 18, .int .i64 19]
theorem easyVs_get (j : Nat) (h : j < 11) : easyVs[j]? = some (.int .i64 ((easyN[j]'h : Nat) : Int)) := by
  have hj : j = 0 ∨ j = 1 ∨ j = 2 ∨ j = 3 ∨ j = 4 ∨ j = 5 ∨ j = 6 ∨ j = 7 ∨ j = 8 ∨ j = 9 ∨ j = 10 := by omega
  rcases hj with rfl | rfl | rfl | rfl | rfl | rfl | rfl | rfl | rfl | rfl | rfl <;> rfl
theorem easyN_bd (j : Nat) (h : j < 11) : easyN[j]'h < 21 := by
  have hj : j = 0 ∨ j = 1 ∨ j = 2 ∨ j = 3 ∨ j = 4 ∨ j = 5 ∨ j = 6 ∨ j = 7 ∨ j = 8 ∨ j = 9 ∨ j = 10 := by omega
  rcases hj with rfl | rfl | rfl | rfl | rfl | rfl | rfl | rfl | rfl | rfl | rfl <;> simp [easyN]

/-- A move and a truth come back. -/
def RetS (P : Mv → Bool → World → Prop) (e : Ending) (w' : World) : Prop := ∃ m ok, e = .returned (.tuple #[aggM m, .bool ok]) ∧ P m ok w'

end

section

def lenOf : Value → Nat
  | .slice _ n _ => n
  | _ => 0
theorem mvs_append (a b : List Mv) : mvs (a ++ b) = mvs a ++ mvs b := by simp [mvs]
theorem encMv_one (m : Mv) : ∀ u ∈ encMv m, u.oneCell' = true := by
  intro u hu
  simp [encMv] at hu
  rcases hu with rfl | rfl | rfl <;> rfl

/-- Two values come back. -/
def RetVV (P : Value → Value → World → Prop) (e : Ending) (w' : World) : Prop := ∃ a b, e = .returned (.tuple #[a, b]) ∧ P a b w'

end

section

theorem Own.form {sz lo hi e n : Nat} {w : World} {v : Value} {xs : List Value} (h : Own sz lo hi e w v n xs) : ∃ a k c, v = .slice a k c := by
  obtain ⟨a, c, h, _⟩ := Own.open h
  exact ⟨a, n, c, h⟩
def foundOf : Value → Nat
  | .bool true => 0
  | _ => 1
def simpBy (e : List Int) : List Mv := if katV e then (simpM e).1 else []

end

section

def simpE (e : List Int) : List Int := if katV e then (simpM e).2 else []
theorem simpBy_len (e : List Int) : (simpBy e).length ≤ 40 := by
  unfold simpBy
  split
  · rename_i h
    have := simpM_bd _ e (Nat.le_refl _)
    have := (kat_len h).2
    omega
  · simp
theorem simpE_len (e : List Int) : (simpE e).length ≤ 40 := by
  unfold simpE
  split
  · rename_i h
    have := simpM_bd _ e (Nat.le_refl _)
    have := (kat_len h).2
    omega
  · simp

end
end Go.Proofs.Ytoondakdjhhehaa
