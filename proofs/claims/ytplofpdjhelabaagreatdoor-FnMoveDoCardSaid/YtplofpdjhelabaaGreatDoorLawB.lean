/-
  Texts of walks and plain lemmas for this seat; no condition.
-/
import Derived.Test.YtplofpdjhelabaaGreatDoorGO
namespace Go.Proofs.YtplofpdjhelabaaGreatDoor
open Go.RowKit
set_option linter.unusedVariables false

/-! A move, and the same move back. -/
theorem match_agree (V : List (List Int)) (hV : GV V) : ∀ (p t : KT) (V0 V' : List (List Int)), V0.length = 3 → p.ok (-3) = true → t.ok 0 = true → (∀ i, V0.getD i [] ≠ [] → V.getD i [] = V0.getD i []) → fillT p.post V = some t.post → matchT p t V0 = some V' →
    V'.length = 3 ∧ ∀ i, V'.getD i [] ≠ [] → V.getD i [] = V'.getD i []
  | .leaf n, t, V0, V', hl, hp, ht, h0, hf, h => by
    simp only [KT.ok, Bool.and_eq_true, decide_eq_true_eq] at hp
    rw [matchT] at h
    split at h
    · rename_i hn
      have hk : varK n < 3 := by unfold varK; omega
      have hn0 : ¬ 0 ≤ n := by omega
      simp only [KT.post, fillT, if_neg hn0] at hf
      split at hf
      · cases hf
      · rename_i hne
        rw [Option.map_some, List.append_nil] at hf
        injection hf with hf
        split at h
        · rename_i he
          injection h with h
          subst h
          refine ⟨by simp [hl], fun i hi => ?_⟩
          by_cases e : varK n = i
          · subst e
            rw [hf]
            simp [List.getD, hl, hk]
          · simp only [List.getD, List.getElem?_set_ne e] at hi ⊢
            exact h0 i hi
        · split at h
          · injection h with h
            subst h
            exact ⟨hl, h0⟩
          · cases h
    · split at h
      · injection h with h
        subst h
        exact ⟨hl, h0⟩
      · cases h
  | .star p, t, V0, V', hl, hp, ht, h0, hf, h => by
    simp only [KT.ok] at hp
    cases t with
    | star t' =>
      simp only [matchT] at h
      simp only [KT.ok] at ht
      simp only [KT.post] at hf
      rw [fillT_append, Option.bind_eq_some_iff] at hf
      obtain ⟨x, g1, g2⟩ := hf
      simp [fillT] at g2
      subst g2
      exact match_agree V hV p t' V0 V' hl hp ht h0 g1 h
    | leaf _ => simp [matchT] at h
    | bin _ _ _ => simp [matchT] at h
  | .bin q a b, t, V0, V', hl, hp, ht, h0, hf, h => by
    simp only [KT.ok, Bool.and_eq_true] at hp
    cases t with
    | bin r c d =>
      simp only [matchT] at h
      simp only [KT.ok, Bool.and_eq_true] at ht
      split at h
      · rename_i hq
        subst hq
        rw [Option.bind_eq_some_iff] at h
        obtain ⟨V1, g1, g2⟩ := h
        simp only [KT.post] at hf
        rw [fillT_append, fillT_append, Option.bind_eq_some_iff] at hf
        obtain ⟨y, k0, k2⟩ := hf
        rw [Option.bind_eq_some_iff] at k0
        obtain ⟨x, k1, k0⟩ := k0
        rw [Option.map_eq_some_iff] at k0
        obtain ⟨z, k5, rfl⟩ := k0
        obtain ⟨ta, a1, a2⟩ := fillT_good V hV a x hp.1 k1
        obtain ⟨tb, b1, b2⟩ := fillT_good V hV b z hp.2 k5
        have hq0 : (0 : Int) ≤ KT.op q := by cases q <;> simp [KT.op]
        rw [fillT, if_pos hq0] at k2
        simp [fillT] at k2
        have e : KT.bin q ta tb = KT.bin q c d := post_inj (lo := 0) (by simp [KT.ok, a1, b1]) (by simp [KT.ok, ht]) (by simp only [KT.post, a2, b2]; rw [List.append_assoc, List.append_assoc]; exact k2)
        injection e with _ e1 e2
        subst e1 e2
        obtain ⟨l1, m1⟩ := match_agree V hV a ta V0 V1 hl hp.1 ht.1 h0 (by rw [a2]; exact k1) g1
        exact match_agree V hV b tb V1 V' l1 hp.2 ht.2 m1 (by rw [b2]; exact k5) g2
      · cases h
    | leaf _ => simp [matchT] at h
    | star _ => simp [matchT] at h
theorem moveV_back {e x y : List Int} {m m' : Mv} (h : moveV e m = some x) (h1 : m'.which = m.which) (h2 : m'.back = !m.back) (h3 : m'.at_ = m.at_ + (x.length : Int) - (e.length : Int)) (h' : moveV x m' = some y) : y = e := by
  obtain ⟨k, pre, rest, t, p, q, V, part, hM, hk, hlt, g3, g4, rfl, _, _⟩ := moveV_some h
  obtain ⟨k', pre', rest', t', p', q', V', part', hM', hk', hlt', g3', g4', rfl, _, _⟩ := moveV_some h'
  have hV := matchT_good _ t _ V hM.ok hM.sz GV.zero g3
  have e1 : p'.post = q := by rw [hM'.from_, hM.to_, h1, h2, Bool.not_not]
  have e2 : q' = p.post := by rw [hM'.to_, hM.from_, h1, h2]
  rw [← e1] at g4
  obtain ⟨tp, t1, t2⟩ := fillT_good V hV p' part hM'.pok g4
  have hl1 : e.length = pre.length + t.size + rest.length := by rw [hM.eq]; simp [t.post_length]; omega
  have hkk : k' + 1 = pre.length + tp.size := by
    rw [hk', hk] at h3
    have := hM.keq
    rw [← t2] at h3
    simp only [List.length_append, tp.post_length] at h3
    omega
  have hs := hM'.span
  rw [← t2, show k' + 1 = (pre ++ tp.post).length by simp [tp.post_length]; omega, List.take_left] at hs
  have hs2 : spanO (pre ++ tp.post).reverse 1 = some tp.size := by rw [List.reverse_append, spanO_post 0 tp t1 _ 1 (by omega), show (1 : Int) - 1 = 0 from rfl, spanO_zero]; simp
  have hsz : tp.size = t'.size := by rw [hs2] at hs; injection hs
  have hq := hM'.eq
  rw [← t2] at hq
  have hpl : pre.length = pre'.length := by have := hM'.keq; omega
  rw [List.append_assoc, List.append_assoc] at hq
  obtain ⟨q1, q2⟩ := List.append_inj hq hpl
  obtain ⟨q3, q4⟩ := List.append_inj q2 (by rw [tp.post_length, t'.post_length, hsz])
  obtain rfl := post_inj (lo := 0) t1 hM'.ok q3
  subst q1 q4
  have ha := (match_agree V hV p' tp zeroV V' rfl hM'.pok t1 (fun i hi => absurd (show zeroV.getD i [] = [] by match i with
    | 0 => rfl
    | 1 => rfl
    | 2 => rfl
    | i + 3 => simp [zeroV]) hi) (by rw [t2]; exact g4) g3').2
  have g5 := fill_mono (V := V') (V' := V) (fun i hi => ha i hi) _ _ g4'
  rw [e2, (match_fill p t zeroV V rfl hM.pok hM.ok g3).2.2] at g5
  injection g5 with g5
  rw [← g5, hM.eq]
end Go.Proofs.YtplofpdjhelabaaGreatDoor
