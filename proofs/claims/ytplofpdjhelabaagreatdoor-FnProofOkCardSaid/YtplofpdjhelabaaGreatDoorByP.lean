/-
  Texts of walks and plain lemmas for this seat; no condition.
-/
import Derived.Test.YtplofpdjhelabaaGreatDoorGS
namespace Go.Proofs.YtplofpdjhelabaaGreatDoor
open Go.RowKit
set_option linter.unusedVariables false

/-! A trace by parts, step by step. -/
noncomputable def stepS (S : List (List Int)) (α : Nat) (c : Int) : List (List Int) := ordL (S.flatMap fun p => partsV (treeOf p) α c)
noncomputable def byV : List (List Int) → List Int → Bool
  | _, [] => false
  | S, [α] => S.any fun p => (endsK (treeOf p)).testBit α.toNat
  | S, α :: c :: r => byV (stepS S α.toNat c) r
/-- A trace as such. -/
def trL : List Int → Option Tr
  | [] => none
  | [α] => if h : α.toNat < 4 then some (.fin ⟨α.toNat, h⟩) else none
  | α :: c :: r => if h : α.toNat < 4 ∧ 16 ≤ c ∧ c ≤ 18 then (trL r).map (.step ⟨α.toNat, h.1⟩ ⟨(c - 16).toNat, by omega⟩) else none
/-- All are parts. -/
def PrtS (S : List (List Int)) : Prop := ∀ p ∈ S, ∃ t : KT, t.ok 0 = true ∧ t.post = p
theorem PrtS.step {S : List (List Int)} (h : PrtS S) (α : Nat) (c : Int) : PrtS (stepS S α c) := by
  intro x hx
  rw [stepS, ordL_mem, List.mem_flatMap] at hx
  obtain ⟨p, hp, hx⟩ := hx
  obtain ⟨t, h1, rfl⟩ := h p hp
  rw [treeOf_post h1] at hx
  obtain ⟨q, h2, rfl⟩ := (partsV_mem h1).1 hx
  exact ⟨q, ptK_ok h1 h2, rfl⟩
theorem byV_in : ∀ (t : List Int) (s : Tr), trL t = some s → ∀ S, PrtS S → (byV S t = true ↔ ∃ p ∈ S, inD s (treeOf p))
  | [], s, h, S, hS => by cases h
  | [α], s, h, S, hS => by
    rw [trL] at h
    split at h
    · injection h with h
      subst h
      simp only [byV, List.any_eq_true, inD]
    · cases h
  | α :: c :: r, s, h, S, hS => by
    rw [trL] at h
    split at h
    · rename_i hc
      obtain ⟨s', h1, rfl⟩ := Option.map_eq_some_iff.1 h
      rw [byV, byV_in r s' h1 _ (hS.step _ _)]
      have hcc : actI ⟨(c - 16).toNat, by omega⟩ = c := by
        unfold actI
        have := hc.2
        simp
        omega
      constructor
      · rintro ⟨x, hx, hi⟩
        rw [stepS, ordL_mem, List.mem_flatMap] at hx
        obtain ⟨p, hp, hx⟩ := hx
        obtain ⟨t, t1, rfl⟩ := hS p hp
        rw [treeOf_post t1] at hx
        obtain ⟨q, h2, rfl⟩ := (partsV_mem t1).1 hx
        rw [treeOf_post (ptK_ok t1 h2)] at hi
        refine ⟨t.post, hp, q, ?_, hi⟩
        rw [treeOf_post t1, hcc]
        exact h2
      · rintro ⟨p, hp, q, h2, hi⟩
        obtain ⟨t, t1, rfl⟩ := hS p hp
        rw [treeOf_post t1, hcc] at h2
        refine ⟨q.post, ?_, ?_⟩
        · rw [stepS, ordL_mem, List.mem_flatMap]
          exact ⟨t.post, hp, by rw [treeOf_post t1]; exact (partsV_mem t1).2 ⟨q, h2, rfl⟩⟩
        · rw [treeOf_post (ptK_ok t1 h2)]
          exact hi
    · cases h
theorem PrtS.one {e : List Int} (h : katV e = true) : PrtS [e] := by
  intro p hp
  simp only [List.mem_singleton] at hp
  subst hp
  obtain ⟨t, h1, h2, _⟩ := katV_tree h
  exact ⟨t, h1, h2⟩
/-- What rules prove has the same traces. -/
theorem byV_same {e f : List Int} {ms : List Mv} (h : proofV e ms = some f) (he : katV e = true) (hf : katV f = true) {t : List Int} (hs : (trL t).isSome = true) : byV [e] t = byV [f] t := by
  cases ht : trL t with
  | none => rw [ht] at hs; cases hs
  | some s =>
    rw [Bool.eq_iff_iff, byV_in t s ht _ (PrtS.one he), byV_in t s ht _ (PrtS.one hf)]
    simp only [List.mem_singleton, exists_eq_left]
    obtain ⟨te, a1, a2, _⟩ := katV_tree he
    obtain ⟨tf, b1, b2, _⟩ := katV_tree hf
    rw [← a2, ← b2, treeOf_post a1, treeOf_post b1, inD_den s a1, inD_den s b1]
    have := proofV_den leafT_leaves h s s.last
    rw [← a2, ← b2, treeOf_post a1, treeOf_post b1] at this
    exact this
theorem trL_some : ∀ (t : List Int), t.length % 2 = 1 → (∀ i (h : i < t.length), if i % 2 = 0 then 0 ≤ t[i] ∧ t[i] < 4 else 16 ≤ t[i] ∧ t[i] ≤ 18) → (trL t).isSome = true
  | [], h, _ => by simp at h
  | [α], _, h => by
    have := h 0 (by simp)
    simp only [Nat.zero_mod, if_true, List.getElem_cons_zero] at this
    rw [trL, dif_pos (by omega)]
    rfl
  | α :: c :: r, hl, h => by
    have h0 := h 0 (by simp)
    have h1 := h 1 (by simp)
    simp only [Nat.zero_mod, if_true, List.getElem_cons_zero] at h0
    simp only [List.getElem_cons_succ, List.getElem_cons_zero] at h1
    rw [if_neg (by omega)] at h1
    have ih := trL_some r (by simp at hl; omega) fun i hi => by
      have := h (i + 2) (by simp; omega)
      simp only [List.getElem_cons_succ] at this
      rw [show (i + 2) % 2 = i % 2 by omega] at this
      exact this
    rw [trL, dif_pos ⟨by omega, h1⟩]
    simpa using ih
end Go.Proofs.YtplofpdjhelabaaGreatDoor
