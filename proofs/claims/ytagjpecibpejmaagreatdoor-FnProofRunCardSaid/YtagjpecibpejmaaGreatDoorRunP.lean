/-
  Texts of walks and plain lemmas for this seat; no condition.
-/
import Derived.Test.YtagjpecibpejmaaGreatDoorDoP
import Derived.Test.YtagjpecibpejmaaGreatDoorAcs
namespace Go.Proofs.YtagjpecibpejmaaGreatDoor
open Go.RowKit

/-- An act behind acts. -/
def stepA (p : Dsk × Int) (a : Ac) : Dsk × Int := ((deskDo p.1 a).1, if (deskDo p.1 a).2 then p.2 + 1 else p.2)
def runA (D : Dsk) (l : List Ac) : Dsk × Int := l.foldl stepA (D, 0)
def deskRun (D : Dsk) (l : List Ac) : Dsk × Int := if deskV D = true ∧ l.length ≤ 40 then runA D l else (Dsk.none, 0)
theorem runA_snoc (D : Dsk) (l : List Ac) (k : Nat) (h : k < l.length) : runA D (l.take (k + 1)) = stepA (runA D (l.take k)) l[k] := by
  unfold runA
  rw [List.take_succ_eq_append_getElem h, List.foldl_append]
  rfl
theorem deskDo_no {D : Dsk} {a : Ac} (h : deskV D = true) (h2 : (deskDo D a).2 = false) : (deskDo D a).1 = D := by
  unfold deskDo at h2 ⊢
  rw [if_pos h] at h2 ⊢
  split at h2 <;> simp_all
theorem deskDo_valid {D : Dsk} (a : Ac) (h : deskV D = true) : deskV (deskDo D a).1 = true := by
  have hg := (deskV_parts h).2.1
  unfold deskDo
  rw [if_pos h]
  split
  · rename_i p hp
    cases hm : madeV D a with
    | none => rw [hm] at hp; cases hp
    | some ms =>
      rw [hm] at hp
      cases hq : proofV D.first ms with
      | none => simp [hq] at hp
      | some x =>
        simp [hq] at hp
        subst hp
        simp [deskV, hq, hg, eqL]
  · exact h
theorem runA_valid {D : Dsk} (h : deskV D = true) : ∀ l : List Ac, deskV (runA D l).1 = true := by
  have key : ∀ (l : List Ac) (p : Dsk × Int), deskV p.1 = true → deskV (l.foldl stepA p).1 = true := by
    intro l
    induction l with
    | nil => intro p hp; exact hp
    | cons a r ih => intro p hp; exact ih _ (deskDo_valid a hp)
  exact fun l => key l _ h
theorem deskV_size {D : Dsk} (h : deskV D = true) : D.size ≤ 180 := by
  obtain ⟨h1, h2, h3, h4, _⟩ := deskV_parts h
  have k1 := (kat_len h1).2
  have k2 := (kat_len h2).2
  have k3 := (kat_len h3).2
  unfold Dsk.size
  omega
theorem runA_many (D : Dsk) : ∀ l : List Ac, 0 ≤ (runA D l).2 ∧ (runA D l).2 ≤ l.length := by
  have key : ∀ (l : List Ac) (p : Dsk × Int), p.2 ≤ (l.foldl stepA p).2 ∧ (l.foldl stepA p).2 ≤ p.2 + l.length := by
    intro l
    induction l with
    | nil => intro p; simp
    | cons a r ih =>
      intro p
      have h := ih (stepA p a)
      have h2 : p.2 ≤ (stepA p a).2 ∧ (stepA p a).2 ≤ p.2 + 1 := by
        unfold stepA
        split <;> simp <;> omega
      simp only [List.foldl_cons, List.length_cons]
      omega
  intro l
  have := key l (D, 0)
  simpa [runA] using this
/-- What the paper's desk of moves is, at a desk that counts. -/
theorem deskV_with {D : Dsk} (h : deskV D = true) : (⟨D.first, D.goal, D.made, (proofV D.first D.made).getD []⟩ : Dsk) = D := by
  obtain ⟨_, _, _, _, h5⟩ := deskV_parts h
  rw [h5]
  rfl
end Go.Proofs.YtagjpecibpejmaaGreatDoor
