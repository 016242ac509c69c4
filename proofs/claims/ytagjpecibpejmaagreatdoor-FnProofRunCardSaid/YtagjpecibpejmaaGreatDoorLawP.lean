/-
  Texts of walks and plain lemmas for this seat; no condition.
-/
import Derived.Test.YtagjpecibpejmaaGreatDoorRunP
import Derived.Test.YtagjpecibpejmaaGreatDoorMvAt
import Derived.Test.YtagjpecibpejmaaGreatDoorGI
namespace Go.Proofs.YtagjpecibpejmaaGreatDoor
open Go.RowKit

theorem tryMv_none {e : List Int} : ∀ {l : List Mv}, tryMv e l = none → ∀ m ∈ l, moveV e m = none
  | [], _, m, hm => by cases hm
  | a :: r, h, m, hm => by
    simp only [tryMv] at h
    cases ha : moveV e a with
    | some x => rw [ha] at h; cases h
    | none =>
      rw [ha] at h
      rcases List.mem_cons.1 hm with rfl | hm
      · exact ha
      · exact tryMv_none h m hm
theorem simpM_done : ∀ (n : Nat) (e : List Int), e.length ≤ n → firstEasy (simpM e).2 = none
  | n, e, hn => by
    cases h : firstEasy e with
    | none => rw [simpM_none h]; exact h
    | some p =>
      obtain ⟨m, x⟩ := p
      rw [simpM_some h]
      have hx := (firstEasy_some h).2.2.1
      match n with
      | 0 => omega
      | n + 1 => exact simpM_done n x (by omega)
theorem simpM_back : ∀ (n : Nat) (e : List Int), e.length ≤ n → ∀ m ∈ (simpM e).1, m.back = false
  | n, e, hn, m, hm => by
    cases h : firstEasy e with
    | none => rw [simpM_none h] at hm; cases hm
    | some p =>
      obtain ⟨m', x⟩ := p
      rw [simpM_some h] at hm
      have hx := firstEasy_some h
      match n with
      | 0 => omega
      | n + 1 =>
        rcases List.mem_cons.1 hm with rfl | hm
        · exact hx.2.1
        · exact simpM_back n x (by omega) m hm
theorem simpBy_back {e : List Int} : ∀ m ∈ simpBy e, m.back = false := by
  intro m hm
  unfold simpBy at hm
  split at hm
  · exact simpM_back _ e (Nat.le_refl _) m hm
  · cases hm
theorem simpE_kat {e : List Int} (h : katV e = true) : katV (simpE e) = true := by
  rw [simpE, if_pos h]
  exact proofV_kat (proofV_simpM h)
theorem simpBy_short {e : List Int} (h : katV e = true) : (simpBy e).length < e.length := by
  have h1 := simpM_bd _ e (Nat.le_refl _)
  have h2 := (kat_len (proofV_kat (proofV_simpM h))).1
  rw [simpBy, if_pos h]
  omega
theorem okV_simp {e : List Int} (h : katV e = true) : okV e (simpE e) (simpBy e) = true := by
  rw [okV, simpBy, simpE, if_pos h, if_pos h, proofV_simpM h]
  simp [eqL]
theorem atV_mem {e : List Int} {a x : Int} : ∀ {k : Nat}, x ∈ atV e a k ↔ ∃ j : Nat, j < k ∧ x = j ∧ (moveV e ⟨(j : Nat), false, a⟩).isSome = true
  | 0 => by simp [atV]
  | k + 1 => by
    rw [atV, List.mem_append, atV_mem]
    constructor
    · rintro (⟨j, h1, h2, h3⟩ | h)
      · exact ⟨j, by omega, h2, h3⟩
      · split at h
        · rename_i h3
          simp at h
          exact ⟨k, by omega, h, h3⟩
        · cases h
    · rintro ⟨j, h1, h2, h3⟩
      by_cases hj : j < k
      · exact .inl ⟨j, hj, h2, h3⟩
      · obtain rfl : j = k := by omega
        right
        rw [if_pos h3, h2]
        simp
/-- No easy rule fits any more behind the easy ones. -/
theorem atV_easy {e : List Int} (h : firstEasy e = none) {a : Nat} (ha : a < e.length) {x : Int} (hx : x ∈ atV e a 21) : ¬ x.toNat ∈ easyN := by
  obtain ⟨j, h1, rfl, h3⟩ := atV_mem.1 hx
  intro hm
  have hin : (⟨((j : Nat) : Int), false, (a : Int)⟩ : Mv) ∈ easyMv e := by
    unfold easyMv
    rw [List.mem_flatMap]
    exact ⟨a, by simpa using ha, by rw [List.mem_map]; exact ⟨j, by simpa using hm, rfl⟩⟩
  rw [tryMv_none h _ hin] at h3
  cases h3
theorem simpE_done {e : List Int} (h : katV e = true) : firstEasy (simpE e) = none := by
  rw [simpE, if_pos h]
  exact simpM_done _ e (Nat.le_refl _)
theorem atV_ascend (e : List Int) (a : Int) : ∀ k : Nat, (atV e a k).Pairwise (· < ·)
  | 0 => by simp [atV]
  | k + 1 => by
    rw [atV, List.pairwise_append]
    refine ⟨atV_ascend e a k, by split <;> simp, fun x hx y hy => ?_⟩
    obtain ⟨j, h1, rfl, _⟩ := atV_mem.1 hx
    split at hy
    · simp at hy
      omega
    · cases hy
/-- What a done act leads to. -/
theorem deskDo_open {D X : Dsk} {a : Ac} (h : deskDo D a = (X, true)) : deskV D = true ∧ ∃ ms, madeV D a = some ms ∧ ∃ x, proofV D.first ms = some x ∧ X = ⟨D.first, D.goal, ms, x⟩ := by
  unfold deskDo at h
  split at h
  · rename_i hv
    refine ⟨hv, ?_⟩
    cases hm : madeV D a with
    | none => rw [hm] at h; cases h
    | some ms =>
      rw [hm] at h
      cases hp : proofV D.first ms with
      | none => simp [hp] at h
      | some x =>
        simp [hp] at h
        exact ⟨ms, rfl, x, hp, h.symm⟩
  · cases h
/-- How the moves behind a done act lie to those before it. -/
theorem madeV_open {D : Dsk} {a : Ac} {ms : List Mv} (h : madeV D a = some ms) :
    namedB a = true ∧ (a.kind = 1 ∧ (∃ k : Nat, k < D.made.length ∧ ms = D.made.take k) ∨ a.kind ≠ 1 ∧ ∃ r, r ≠ [] ∧ ms = D.made ++ r) := by
  unfold madeV at h
  split at h
  · rename_i hn
    refine ⟨hn, ?_⟩
    split at h
    · rename_i h0
      injection h with h
      exact .inr ⟨by omega, [a.step], by simp, h.symm⟩
    · split at h
      · rename_i h1
        split at h
        · rename_i h2
          injection h with h
          exact .inl ⟨h1, _, by omega, h.symm⟩
        · cases h
      · rename_i h1
        split at h
        · cases h
        · rename_i h2
          injection h with h
          exact .inr ⟨h1, _, h2, h.symm⟩
  · cases h
/-- A done act changes how many moves there are. -/
theorem madeV_ne {D : Dsk} {a : Ac} {ms : List Mv} (h : madeV D a = some ms) : ms.length ≠ D.made.length := by
  obtain ⟨_, ⟨_, k, hk, rfl⟩ | ⟨_, r, hr, rfl⟩⟩ := madeV_open h
  · simp; omega
  · have := List.length_pos_iff.2 hr
    simp; omega
/-- Taking back as many moves as were made leads to the same desk. -/
theorem deskDo_back {D X : Dsk} {a : Ac} (h : deskDo D a = (X, true)) (hk : a.kind ≠ 1) : deskDo X ⟨1, ⟨0, false, 0⟩, (X.made.length : Int) - D.made.length⟩ = (D, true) := by
  obtain ⟨hv, ms, hm, x, hp, rfl⟩ := deskDo_open h
  have hvX : deskV ⟨D.first, D.goal, ms, x⟩ = true := by
    have := deskDo_valid a hv
    rwa [h] at this
  obtain ⟨_, ⟨h1, _⟩ | ⟨_, r, hr, rfl⟩⟩ := madeV_open hm
  · exact absurd h1 hk
  · have hpos := List.length_pos_iff.2 hr
    have hp0 := (deskV_parts hv).2.2.2.2
    have hn : namedB ⟨1, ⟨0, false, 0⟩, ((D.made ++ r).length : Int) - D.made.length⟩ = true := by simp [namedB, zMv]
    have hmv : madeV ⟨D.first, D.goal, D.made ++ r, x⟩ ⟨1, ⟨0, false, 0⟩, ((D.made ++ r).length : Int) - D.made.length⟩ = some D.made := by
      have e1 : ((D.made ++ r).length : Int) - D.made.length = r.length := by simp; omega
      have e2 : (D.made ++ r).take ((D.made ++ r).length - (r.length : Int).toNat) = D.made := by
        rw [show (D.made ++ r).length - (r.length : Int).toNat = D.made.length by simp]
        simp
      have e3 : (1 : Int) ≤ r.length ∧ (r.length : Int) ≤ (D.made ++ r).length := by simp; omega
      rw [madeV, if_pos hn]
      simp only [e1]
      rw [if_neg (by decide), if_pos trivial, if_pos e3, e2]
    unfold deskDo
    rw [if_pos hvX, hmv]
    simp [hp0]
theorem deskDo_ok {D X : Dsk} {a : Ac} (h : deskDo D a = (X, true)) : deskV X = true ∧ X.made.length ≠ D.made.length ∧ X.first = D.first ∧ X.goal = D.goal ∧ okV X.first X.now X.made = true := by
  obtain ⟨hv, ms, hm, x, hp, rfl⟩ := deskDo_open h
  refine ⟨?_, madeV_ne hm, rfl, rfl, ?_⟩
  · have := deskDo_valid a hv
    rwa [h] at this
  · simp [okV, hp, eqL]
/-- Proofs in two parts. -/
theorem proofV_parts {e x : List Int} {ms : List Mv} (h : proofV e ms = some x) (k : Nat) : ∃ y, proofV e (ms.take k) = some y ∧ proofV y (ms.drop k) = some x := by
  obtain ⟨y, hy⟩ := proofV_front h k
  refine ⟨y, hy, ?_⟩
  obtain ⟨h1, h2, h3⟩ := proofV_iff.1 h
  obtain ⟨_, _, h4⟩ := proofV_iff.1 hy
  refine proofV_iff.2 ⟨proofV_kat hy, by simp; omega, ?_⟩
  have h5 := runM_append (ms.take k) (ms.drop k) e
  rw [List.take_append_drop, h3, h4] at h5
  exact h5.symm
end Go.Proofs.YtagjpecibpejmaaGreatDoor
