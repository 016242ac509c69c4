/-
  Texts of walks and plain lemmas for this seat; no condition.
-/
import Derived.Test.YtagjpecibpejmaaGreatDoorJrPlain
import Derived.Test.YtagjpecibpejmaaGreatDoorMvMore
import Derived.Test.YtagjpecibpejmaaGreatDoorJournal
namespace Go.Proofs.YtagjpecibpejmaaGreatDoor
open Go.RowKit

theorem zMv_eq {m : Mv} (h : zMv m = true) : m = zeroMv := by
  obtain ⟨p, b, q⟩ := m
  simp [zMv] at h
  simp [zeroMv, h]
/-- An act that is named is one of three. -/
theorem named_forms {a : Ac} (h : namedB a = true) : (∃ m, a = ⟨0, m, 0⟩) ∨ (∃ n, a = ⟨1, zeroMv, n⟩) ∨ a = ⟨2, zeroMv, 0⟩ := by
  obtain ⟨k, m, n⟩ := a
  unfold namedB at h
  split at h
  · rename_i h0
    simp at h0 h
    exact .inl ⟨m, by rw [h0, h]⟩
  · split at h
    · rename_i h1
      simp at h1
      exact .inr (.inl ⟨n, by rw [h1, show m = zeroMv from zMv_eq h]⟩)
    · split at h
      · rename_i h2
        simp only [Bool.and_eq_true] at h
        simp at h2
        exact .inr (.inr (by rw [h2, show m = zeroMv from zMv_eq h.1, show n = 0 by simpa using h.2]))
      · cases h
theorem actText_named {a : Ac} (h : actText a ≠ []) : namedB a = true := by
  cases hn : namedB a
  · simp [actText, hn] at h
  · rfl
theorem actText_move (m : Mv) : actText ⟨0, m, 0⟩ = mvText m := by simp [actText, namedB]
theorem actText_simple : actText ⟨2, zeroMv, 0⟩ = simpleT := by rfl
/-- Texts of acts are read. -/
theorem act_read {a : Ac} (h : actText a ≠ []) : readAc (actText a) = some a := by
  rcases named_forms (actText_named h) with ⟨m, rfl⟩ | ⟨n, rfl⟩ | rfl
  · rw [actText_move] at h ⊢
    exact ra_move ((readMv_iff _ _).2 ⟨mvText_pos h, rfl⟩)
  · obtain ⟨h1, h2, h3⟩ := db_yes (n := n) rfl h
    rw [ra_back h3]
    congr 2
    omega
  · exact ra_simple actText_simple
/-- Read texts are canonical. -/
theorem act_canon {l : List UInt8} {a : Ac} (h : readAc l = some a) : actText a = l := by
  cases hm : readMv l with
  | some m =>
    rw [ra_move hm] at h
    injection h with h
    subst h
    rw [actText_move]
    exact ((readMv_iff _ _).1 hm).2
  | none =>
    cases hs : l == simpleT
    · cases hb : deBack l with
      | none => rw [ra_none hm hs hb] at h; cases h
      | some n =>
        rw [ra_back hb] at h
        injection h with h
        subst h
        obtain ⟨h1, h2⟩ := (deBack_iff _ _).1 hb
        rw [actBack, if_pos (by omega)]
        simpa using h2
    · have hs : l = simpleT := by simpa using hs
      rw [ra_simple hs] at h
      injection h with h
      subst h
      rw [hs]; rfl
theorem back_last : ∀ n, n < 100 → (backT ++ dig2 n).getLast? ≠ some 32 := by decide +kernel
theorem actText_last (a : Ac) : (actText a).getLast? ≠ some 32 := by
  by_cases h : actText a = []
  · rw [h]; simp
  · rcases named_forms (actText_named h) with ⟨m, rfl⟩ | ⟨n, rfl⟩ | rfl
    · rw [actText_move] at h ⊢
      obtain ⟨p, q, hp, hq, em⟩ := mvOk_nat (mvText_pos h)
      rw [em]
      exact mvText_last p (by omega) q (by omega) m.back
    · obtain ⟨h1, h2, h3⟩ := db_yes (n := n) rfl h
      rw [actBack, if_pos ⟨h1, h2⟩]
      exact back_last _ (by omega)
    · rw [actText_simple]; decide
/-- With a space behind it no text is one of an act. -/
theorem readAc_more (l : List UInt8) : readAc (l ++ [32]) = none := by
  cases h : readAc (l ++ [32]) with
  | none => rfl
  | some a =>
    have h1 := actText_last a
    rw [act_canon h] at h1
    simp at h1
theorem mvText_nonl : ∀ p, p < 21 → ∀ q, q < 40 → ∀ b : Bool, (mvText ⟨(p : Nat), b, (q : Nat)⟩).all (· != 10) = true := by decide +kernel
theorem back_nonl : ∀ n, n < 100 → (backT ++ dig2 n).all (· != 10) = true := by decide +kernel
theorem actText_nonl (a : Ac) : ∀ j, j < (actText a).length → (actText a)[j]? ≠ some 10 := by
  have key : (actText a).all (· != 10) = true := by
    by_cases h : actText a = []
    · rw [h]; rfl
    · rcases named_forms (actText_named h) with ⟨m, rfl⟩ | ⟨n, rfl⟩ | rfl
      · rw [actText_move] at h ⊢
        obtain ⟨p, q, hp, hq, em⟩ := mvOk_nat (mvText_pos h)
        rw [em]
        exact mvText_nonl p (by omega) q (by omega) m.back
      · obtain ⟨h1, h2, h3⟩ := db_yes (n := n) rfl h
        rw [actBack, if_pos ⟨h1, h2⟩]
        exact back_nonl _ (by omega)
      · rw [actText_simple]; decide
  intro j hj he
  rw [List.getElem?_eq_getElem hj] at he
  injection he with he
  have h2 := List.all_eq_true.1 key _ (List.getElem_mem hj)
  rw [he] at h2
  simp at h2
/-- Journals are read. -/
theorem jr_read : ∀ l : List Ac, (∀ a ∈ l, actText a ≠ []) → readJr (jrGo l) = (l, (jrGo l).length)
  | [], _ => by
    have : readJr [] = ([], 0) := readJr_no (nl_not (by intro j hj; simp at hj))
    simpa [jrGo] using this
  | a :: r, h => by
    have ih := jr_read r fun b hb => h b (List.mem_cons_of_mem _ hb)
    have e : jrGo (a :: r) = actText a ++ ([10] ++ jrGo r) := by simp [jrGo]
    rw [e]
    have hn : nl (actText a ++ ([10] ++ jrGo r)) = some (actText a).length := by
      refine nl_of ?_ ?_
      · rw [List.getElem?_append_right (Nat.le_refl _)]
        simp
      · intro j hj
        rw [List.getElem?_append_left hj]
        exact actText_nonl a j hj
    have hd : (actText a ++ ([10] ++ jrGo r)).drop ((actText a).length + 1) = jrGo r := by
      rw [← List.drop_drop, List.drop_left]
      rfl
    have ht : readAc ((actText a ++ ([10] ++ jrGo r)).take (actText a).length) = some a := by
      rw [List.take_left]
      exact act_read (h a (List.mem_cons_self ..))
    rw [readJr_more hn ht, hd, ih]
    simp
    omega
end Go.Proofs.YtagjpecibpejmaaGreatDoor
