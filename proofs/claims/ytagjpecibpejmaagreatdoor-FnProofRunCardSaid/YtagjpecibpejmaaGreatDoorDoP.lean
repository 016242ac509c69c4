/-
  Texts of walks and plain lemmas for this seat; no condition.
-/
import Derived.Test.YtagjpecibpejmaaGreatDoorMadeBy
import Derived.Test.YtagjpecibpejmaaGreatDoorGH
import Derived.Test.YtagjpecibpejmaaGreatDoorGK
namespace Go.Proofs.YtagjpecibpejmaaGreatDoor
open Go.RowKit

theorem proofV_iff {e x : List Int} {ms : List Mv} : proofV e ms = some x ↔ katV e = true ∧ ms.length ≤ 60 ∧ runM e ms = some x := by
  unfold proofV
  constructor
  · intro h
    split at h
    · rename_i hc
      simp only [Bool.and_eq_true, decide_eq_true_eq] at hc
      exact ⟨hc.1, hc.2, h⟩
    · cases h
  · rintro ⟨h1, h2, h3⟩
    simp [h1, h2, h3]
/-- More moves behind moves that can be made. -/
theorem proofV_more {e x : List Int} {a : List Mv} (h : proofV e a = some x) (b : List Mv) : proofV e (a ++ b) = if (a ++ b).length ≤ 60 then runM x b else none := by
  obtain ⟨h1, h2, h3⟩ := proofV_iff.1 h
  unfold proofV
  rw [h1, runM_append, h3]
  simp
/-- A front of moves that can be made. -/
theorem proofV_front {e x : List Int} {a : List Mv} (h : proofV e a = some x) (k : Nat) : ∃ y, proofV e (a.take k) = some y := by
  obtain ⟨h1, h2, h3⟩ := proofV_iff.1 h
  have h4 := runM_append (a.take k) (a.drop k) e
  rw [List.take_append_drop, h3] at h4
  cases h5 : runM e (a.take k) with
  | none => rw [h5] at h4; cases h4
  | some y => exact ⟨y, proofV_iff.2 ⟨h1, by simp; omega, h5⟩⟩
theorem simpBy_run {e : List Int} (h : katV e = true) : ∃ y, runM e (simpBy e) = some y := by
  obtain ⟨_, _, h3⟩ := proofV_iff.1 (proofV_simpM h)
  exact ⟨_, by rw [simpBy, if_pos h]; exact h3⟩
/-- A desk that counts, its parts. -/
theorem deskV_parts {D : Dsk} (h : deskV D = true) : katV D.first = true ∧ katV D.goal = true ∧ katV D.now = true ∧ D.made.length ≤ 60 ∧ proofV D.first D.made = some D.now := by
  unfold deskV at h
  cases hp : proofV D.first D.made with
  | none => rw [hp] at h; cases h
  | some x =>
    rw [hp] at h
    simp only [Bool.and_eq_true] at h
    have h2 : x = D.now := by simpa [eqL] using h.2
    subst h2
    obtain ⟨h3, h4, _⟩ := proofV_iff.1 hp
    exact ⟨h3, h.1, proofV_kat hp, h4, rfl⟩
/-- A desk behind moves, as the paper says it. -/
def deskTo (D : Dsk) (r : Option (List Mv)) : Dsk × Bool :=
  match r with
  | some ms => if ms.length > 60 ∨ ms.length = D.made.length then (D, false) else (⟨D.first, D.goal, ms, (proofV D.first ms).getD []⟩, true)
  | none => (D, false)
/-- The moves behind an act, as the paper says it. -/
def madeS (D : Dsk) (a : Ac) : Option (List Mv) :=
  if namedB a then
    if a.kind = 0 ∧ (moveV D.now a.step).isSome then some (D.made ++ [a.step])
    else if a.kind = 1 ∧ 1 ≤ a.count ∧ a.count ≤ D.made.length then some (D.made.take (D.made.length - a.count.toNat))
    else if a.kind = 2 then some (D.made ++ simpBy D.now)
    else none
  else none
theorem deskDo_said {D : Dsk} {a : Ac} (h : deskV D = true) : deskDo D a = deskTo D (madeS D a) := by
  obtain ⟨k1, k2, k3, hl, hp⟩ := deskV_parts h
  unfold deskDo
  rw [if_pos h]
  cases hn : namedB a
  · simp [madeV, madeS, hn, deskTo]
  · rcases named_kinds hn with hk | hk | hk
    · have e1 : madeV D a = some (D.made ++ [a.step]) := by simp [madeV, hn, hk]
      have e2 := proofV_more hp [a.step]
      have e3 : runM D.now [a.step] = moveV D.now a.step := by simp [runM]
      rw [e3] at e2
      rw [e1]
      cases hm : moveV D.now a.step with
      | none => rw [hm] at e2; simp [madeS, hn, hk, hm, deskTo, e2]
      | some x =>
        rw [hm] at e2
        by_cases h6 : (D.made ++ [a.step]).length ≤ 60
        · rw [if_pos h6] at e2
          have : ¬ ((D.made ++ [a.step]).length > 60 ∨ (D.made ++ [a.step]).length = D.made.length) := by simp at h6 ⊢; omega
          simp only [madeS, hn, hk, hm, deskTo, e2, if_neg this, if_true, Option.bind_some, Option.map_some, Option.isSome_some, and_self, Option.getD_some]
        · rw [if_neg h6] at e2
          have : (D.made ++ [a.step]).length > 60 ∨ (D.made ++ [a.step]).length = D.made.length := by omega
          simp only [madeS, hn, hk, hm, deskTo, e2, if_pos this, if_true, Option.bind_some, Option.map_none, Option.isSome_some, and_self]
    · by_cases hc : 1 ≤ a.count ∧ a.count ≤ D.made.length
      · have e1 : madeV D a = some (D.made.take (D.made.length - a.count.toNat)) := by simp [madeV, hn, hk, hc]
        obtain ⟨y, e2⟩ := proofV_front hp (D.made.length - a.count.toNat)
        rw [e1]
        simp [madeS, hn, hk, hc, deskTo, e2]
        omega
      · have e1 : madeV D a = none := by simp only [madeV, hn, hk]; simp [hc]
        have e2 : madeS D a = none := by simp only [madeS, hn, hk]; simp [hc]
        rw [e1, e2]; rfl
    · obtain ⟨y, e4⟩ := simpBy_run k3
      have e2 := proofV_more hp (simpBy D.now)
      rw [e4] at e2
      have e3 : madeS D a = some (D.made ++ simpBy D.now) := by simp [madeS, hn, hk]
      rw [e3]
      by_cases hs : simpBy D.now = []
      · have e1 : madeV D a = none := by simp [madeV, hn, hk, hs]
        rw [e1]; simp [deskTo, hs]
      · have hpos : 0 < (simpBy D.now).length := List.length_pos_iff.2 hs
        have e1 : madeV D a = some (D.made ++ simpBy D.now) := by simp [madeV, hn, hk, hs]
        rw [e1]
        by_cases h6 : (D.made ++ simpBy D.now).length ≤ 60
        · rw [if_pos h6] at e2
          have : ¬ ((D.made ++ simpBy D.now).length > 60 ∨ (D.made ++ simpBy D.now).length = D.made.length) := by simp only [List.length_append] at h6 ⊢; omega
          simp only [deskTo, e2, if_neg this, Option.bind_some, Option.map_some, Option.getD_some]
        · rw [if_neg h6] at e2
          have : (D.made ++ simpBy D.now).length > 60 ∨ (D.made ++ simpBy D.now).length = D.made.length := by omega
          simp only [deskTo, e2, if_pos this, Option.bind_some, Option.map_none]
end Go.Proofs.YtagjpecibpejmaaGreatDoor
