/-
  Texts of walks and plain lemmas for this seat; no condition.
-/
import Derived.Test.YtadihfjmgckdaaaGreatDoorRelP
namespace Go.Proofs.YtadihfjmgckdaaaGreatDoor
open Go.RowKit

/-- The number with the bits below n at which something holds. -/
noncomputable def bitsN : Nat → (Nat → Prop) → Nat
  | 0, _ => 0
  | n + 1, p => bitsN n p + (open Classical in if p n then 2 ^ n else 0)
theorem bitsN_lt (p : Nat → Prop) : ∀ n, bitsN n p < 2 ^ n
  | 0 => by simp [bitsN]
  | n + 1 => by
    have := bitsN_lt p n
    rw [bitsN, Nat.pow_succ]
    split <;> omega
theorem bitsN_bit (p : Nat → Prop) (k : Nat) : ∀ n, (bitsN n p).testBit k = true ↔ k < n ∧ p k
  | 0 => by simp [bitsN]
  | n + 1 => by
    have hlt := bitsN_lt p n
    have ih := bitsN_bit p k n
    rw [bitsN]
    by_cases hp : p n
    · rw [if_pos hp]
      by_cases hk : k = n
      · subst hk
        rw [Nat.add_comm, Nat.testBit_two_pow_add_eq, Nat.testBit_lt_two_pow hlt]
        simp [hp]
      · by_cases hkn : k < n
        · rw [Nat.add_comm, Nat.testBit_two_pow_add_gt hkn, ih]
          constructor
          · rintro ⟨_, h⟩; exact ⟨by omega, h⟩
          · rintro ⟨_, h⟩; exact ⟨by omega, h⟩
        · have h2 : bitsN n p + 2 ^ n < 2 ^ k := Nat.lt_of_lt_of_le (by rw [Nat.pow_succ]; omega : _ < 2 ^ (n + 1)) (Nat.pow_le_pow_right (by omega) (by omega))
          rw [Nat.testBit_lt_two_pow h2]
          constructor
          · intro h; cases h
          · rintro ⟨h, _⟩; omega
    · rw [if_neg hp, Nat.add_zero, ih]
      constructor
      · rintro ⟨_, h⟩; exact ⟨by omega, h⟩
      · rintro ⟨_, h⟩
        refine ⟨?_, h⟩
        by_cases hk : k = n
        · subst hk; exact absurd h hp
        · omega
theorem bitsN_eq {n x : Nat} {p : Nat → Prop} (hx : x < 2 ^ n) (h : ∀ k, k < n → (x.testBit k = true ↔ p k)) : x = bitsN n p := by
  apply Nat.eq_of_testBit_eq
  intro k
  rw [Bool.eq_iff_iff, bitsN_bit]
  by_cases hk : k < n
  · simp [h k hk, hk]
  · rw [Nat.testBit_lt_two_pow (Nat.lt_of_lt_of_le hx (Nat.pow_le_pow_right (by omega) (by omega)))]
    simp [hk]
theorem bitsN_congr {n : Nat} {p q : Nat → Prop} (h : ∀ k, k < n → (p k ↔ q k)) : bitsN n p = bitsN n q :=
  bitsN_eq (bitsN_lt p n) fun k hk => by rw [bitsN_bit]; simp [hk, h k hk]

/-- A model. -/
structure Mo where
  n : Int
  p : Int
  q : Int
  acts : List (List Int)
def isSetB (n x : Int) : Bool := decide (0 ≤ x) && decide (x < 2 ^ n.toNat)
def rowsB (n : Int) (r : List Int) : Bool := inB n 1 5 && decide ((r.length : Int) = n) && r.all (isSetB n)
def modB (M : Mo) : Bool := inB M.n 1 5 && isSetB M.n M.p && isSetB M.n M.q && decide (M.acts.length = 3) && M.acts.all (rowsB M.n)
def atomN (M : Mo) (s : Nat) : Nat := (M.p.toNat >>> s) % 2 + 2 * ((M.q.toNat >>> s) % 2)
theorem atomN_lt (M : Mo) (s : Nat) : atomN M s < 4 := by unfold atomN; omega
/-- Where a model's step leads. -/
def leafM (M : Mo) (a : Int) (s t : Nat) : Prop :=
  if a ≤ 15 then s = t ∧ a.toNat.testBit (atomN M s) = true else ((M.acts.getD (a - 16).toNat []).getD s 0).toNat.testBit t = true
theorem fifteen_bit : ∀ k, k < 4 → (15 : Nat).testBit k = true := by decide
theorem leafM_leaves (M : Mo) : Leaves (leafM M) := ⟨fun s t => by simp [leafM], fun s t => by
  have := fifteen_bit _ (atomN_lt M s)
  simp [leafM, this]⟩
/-- The rows of a relation on the states below n. -/
noncomputable def rowsR (n : Nat) (R : Nat → Nat → Prop) : List Int := (List.range n).map fun s => ((bitsN n (R s) : Nat) : Int)
theorem rowsR_length (n : Nat) (R : Nat → Nat → Prop) : (rowsR n R).length = n := by simp [rowsR]
theorem rowsR_get (n : Nat) (R : Nat → Nat → Prop) (s : Nat) (h : s < (rowsR n R).length) : (rowsR n R)[s] = ((bitsN n (R s) : Nat) : Int) := by simp [rowsR]
theorem rowsR_congr {n : Nat} {R S : Nat → Nat → Prop} (h : ∀ s t, s < n → t < n → (R s t ↔ S s t)) : rowsR n R = rowsR n S := by
  apply List.map_congr_left
  intro s hs
  rw [bitsN_congr (h s · (by simpa using hs))]
noncomputable def rowsV (M : Mo) (e : List Int) : List Int := if modB M && katV e then rowsR M.n.toNat (den (leafM M) (treeOf e)) else []
theorem rowsV_same {M : Mo} {e f : List Int} (he : katV e = katV f) (h : katV e = true → ∀ s t, den (leafM M) (treeOf e) s t ↔ den (leafM M) (treeOf f) s t) : rowsV M e = rowsV M f := by
  unfold rowsV
  rw [← he]
  split
  · rename_i hc
    simp only [Bool.and_eq_true] at hc
    exact rowsR_congr fun s t _ _ => h hc.2 s t
  · rfl
theorem rowsV_proof {M : Mo} {e x : List Int} {ms : List Mv} (h : proofV e ms = some x) : rowsV M e = rowsV M x := by
  have hk : katV e = true := by
    unfold proofV at h
    split at h
    · rename_i hc; simp only [Bool.and_eq_true] at hc; exact hc.1
    · cases h
  exact rowsV_same (by rw [hk, proofV_kat h]) fun _ => proofV_den (leafM_leaves M) h
theorem rowsV_simp {M : Mo} {e : List Int} (h : katV e = true) : rowsV M e = rowsV M (simpE e) :=
  rowsV_same (by rw [h, simpE_kat h]) fun _ => simpE_den (leafM_leaves M) h
theorem rowsV_move {M : Mo} {e x : List Int} {m : Mv} (h : moveV e m = some x) : rowsV M e = rowsV M x :=
  rowsV_same (by rw [(moveV_open h).1, moveV_kat' h]) fun _ => moveV_den (leafM_leaves M) h

/-! Bits of numbers that are put together. -/
theorem or_add_and : ∀ (n a b : Nat), a < 2 ^ n → (a ||| b) + (a &&& b) = a + b
  | 0, a, b, h => by
    have : a = 0 := by simpa using h
    subst this
    simp
  | n + 1, a, b, h => by
    have ih := or_add_and n (a / 2) (b / 2) (by rw [Nat.pow_succ] at h; omega)
    have h1 : (a ||| b) / 2 = a / 2 ||| b / 2 := Nat.or_div_two
    have h2 : (a &&& b) / 2 = a / 2 &&& b / 2 := Nat.and_div_two
    have h3 : (a ||| b) % 2 + (a &&& b) % 2 = a % 2 + b % 2 := by
      have x1 := @Nat.or_mod_two_eq_one a b
      have x2 := @Nat.and_mod_two_eq_one a b
      have := Nat.mod_two_eq_zero_or_one a
      have := Nat.mod_two_eq_zero_or_one b
      have := Nat.mod_two_eq_zero_or_one (a ||| b)
      have := Nat.mod_two_eq_zero_or_one (a &&& b)
      omega
    omega
/-- The image of a set under rows, the first k of them. -/
def imgT (rows : List Int) (set : Nat) : Nat → Nat
  | 0 => 0
  | k + 1 => if set.testBit k then imgT rows set k ||| (rows.getD k 0).toNat else imgT rows set k
theorem imgT_bit (rows : List Int) (set t : Nat) : ∀ k, (imgT rows set k).testBit t = true ↔ ∃ s, s < k ∧ set.testBit s = true ∧ ((rows.getD s 0).toNat).testBit t = true
  | 0 => by simp [imgT]
  | k + 1 => by
    have ih := imgT_bit rows set t k
    rw [imgT]
    split
    · rename_i hb
      rw [Nat.testBit_or, Bool.or_eq_true, ih]
      constructor
      · rintro (⟨s, h1, h2, h3⟩ | h)
        · exact ⟨s, by omega, h2, h3⟩
        · exact ⟨k, by omega, hb, h⟩
      · rintro ⟨s, h1, h2, h3⟩
        by_cases hs : s = k
        · subst hs; exact .inr h3
        · exact .inl ⟨s, by omega, h2, h3⟩
    · rename_i hb
      rw [ih]
      constructor
      · rintro ⟨s, h1, h2, h3⟩; exact ⟨s, by omega, h2, h3⟩
      · rintro ⟨s, h1, h2, h3⟩
        by_cases hs : s = k
        · subst hs; exact absurd h2 hb
        · exact ⟨s, by omega, h2, h3⟩
theorem imgT_lt {rows : List Int} {n : Nat} (h : ∀ s (hs : s < rows.length), rows[s].toNat < 2 ^ n) (set : Nat) : ∀ k, imgT rows set k < 2 ^ n
  | 0 => Nat.two_pow_pos n
  | k + 1 => by
    have ih := imgT_lt h set k
    rw [imgT]
    split
    · apply Nat.or_lt_two_pow ih
      by_cases hk : k < rows.length
      · simp only [List.getD, List.getElem?_eq_getElem hk, Option.getD_some]; exact h k hk
      · simp only [List.getD, List.getElem?_eq_none (Nat.le_of_not_lt hk), Option.getD_none]; exact Nat.two_pow_pos n
    · exact ih
/-- Rows lead where their relation leads. -/
theorem imgT_rows {n : Nat} {R : Nat → Nat → Prop} {rows : List Int} (hr : rows = rowsR n R) (set : Nat) : imgT rows set n = bitsN n fun t => ∃ s, s < n ∧ set.testBit s = true ∧ R s t := by
  subst hr
  refine bitsN_eq (imgT_lt (fun s hs => ?_) set n) fun t ht => ?_
  · rw [rowsR_get]; exact bitsN_lt _ n
  · rw [imgT_bit]
    refine exists_congr fun s => ?_
    constructor
    · rintro ⟨h1, h2, h3⟩
      have hs : s < (rowsR n R).length := by rw [rowsR_length]; exact h1
      simp only [List.getD, List.getElem?_eq_getElem hs, Option.getD_some, rowsR_get, Int.toNat_natCast, bitsN_bit] at h3
      exact ⟨h1, h2, h3.2⟩
    · rintro ⟨h1, h2, h3⟩
      have hs : s < (rowsR n R).length := by rw [rowsR_length]; exact h1
      simp only [List.getD, List.getElem?_eq_getElem hs, Option.getD_some, rowsR_get, Int.toNat_natCast, bitsN_bit]
      exact ⟨h1, h2, ht, h3⟩
/-- Every list of rows of a model is that of a relation. -/
def relOf (rows : List Int) (s t : Nat) : Prop := ((rows.getD s 0).toNat).testBit t = true
theorem rows_rel {n : Int} {rows : List Int} (h : rowsB n rows = true) : rows = rowsR n.toNat (relOf rows) := by
  simp only [rowsB, Bool.and_eq_true, decide_eq_true_eq, List.all_eq_true] at h
  obtain ⟨⟨h1, h2⟩, h3⟩ := h
  apply List.ext_getElem
  · rw [rowsR_length]; omega
  · intro s hs hs'
    rw [rowsR_get]
    have hx := h3 _ (List.getElem_mem hs)
    simp only [isSetB, Bool.and_eq_true, decide_eq_true_eq] at hx
    have e : rows[s].toNat = bitsN n.toNat (relOf rows s) := bitsN_eq (by
      have := hx.2
      have h0 : ((rows[s].toNat : Nat) : Int) < ((2 ^ n.toNat : Nat) : Int) := by rw [Int.toNat_of_nonneg hx.1]; push_cast; exact this
      exact_mod_cast h0) fun t _ => by simp [relOf, List.getD, List.getElem?_eq_getElem hs]
    rw [← e, Int.toNat_of_nonneg hx.1]

/-! The relations of a valid model stay among its states. -/
def Closed (n : Nat) (R : Nat → Nat → Prop) : Prop := ∀ s t, s < n → R s t → t < n
theorem Closed.star {n : Nat} {R : Nat → Nat → Prop} (h : Closed n R) : Closed n (Star R) := by
  intro s t hs hst
  induction hst with
  | refl => exact hs
  | step h1 _ ih => exact ih (h _ _ hs h1)
theorem rowsB_acts {M : Mo} (h : modB M = true) {k : Nat} (hk : k < 3) : rowsB M.n (M.acts.getD k []) = true ∧ k < M.acts.length := by
  simp only [modB, Bool.and_eq_true, decide_eq_true_eq, List.all_eq_true] at h
  obtain ⟨⟨_, h3⟩, h4⟩ := h
  have hk' : k < M.acts.length := by omega
  refine ⟨?_, hk'⟩
  simp only [List.getD, List.getElem?_eq_getElem hk', Option.getD_some]
  exact h4 _ (List.getElem_mem hk')
theorem rowsB_lt {n : Int} {rows : List Int} (h : rowsB n rows = true) : ∀ s (hs : s < rows.length), rows[s].toNat < 2 ^ n.toNat := by
  intro s hs
  have hr := rows_rel h
  have : rows[s] = ((bitsN n.toNat (relOf rows s) : Nat) : Int) := by
    have := rowsR_get n.toNat (relOf rows) s (by rw [← hr]; exact hs)
    rw [← this]
    congr 1
  rw [this, Int.toNat_natCast]
  exact bitsN_lt _ _
theorem relOf_closed {n : Int} {rows : List Int} (h : rowsB n rows = true) : Closed n.toNat (relOf rows) := by
  intro s t _ hst
  unfold relOf at hst
  by_cases hs : s < rows.length
  · simp only [List.getD, List.getElem?_eq_getElem hs, Option.getD_some] at hst
    refine Nat.lt_of_not_le fun hle => ?_
    rw [Nat.testBit_lt_two_pow (Nat.lt_of_lt_of_le (rowsB_lt h s hs) (Nat.pow_le_pow_right (by omega) hle))] at hst
    cases hst
  · simp [List.getD, List.getElem?_eq_none (Nat.le_of_not_lt hs)] at hst
theorem leafM_test {M : Mo} {a : Int} (h : a ≤ 15) (s t : Nat) : leafM M a s t ↔ s = t ∧ a.toNat.testBit (atomN M s) = true := by rw [leafM, if_pos h]
theorem leafM_act {M : Mo} {a : Int} (h : 15 < a) (s t : Nat) : leafM M a s t ↔ relOf (M.acts.getD (a - 16).toNat []) s t := by rw [leafM, if_neg (by omega)]; rfl
theorem den_closed {M : Mo} (h : modB M = true) : ∀ (k : KT), k.ok 0 = true → Closed M.n.toNat (den (leafM M) k)
  | .leaf a, hk => by
    simp only [KT.ok, Bool.and_eq_true, decide_eq_true_eq] at hk
    intro s t hs hst
    rw [den_leaf] at hst
    by_cases ha : a ≤ 15
    · rw [leafM_test ha] at hst
      omega
    · rw [leafM_act (by omega)] at hst
      exact relOf_closed (rowsB_acts h (k := (a - 16).toNat) (by omega)).1 s t hs hst
  | .star k, hk => (den_closed h k hk).star
  | .bin p a b, hk => by
    simp only [KT.ok, Bool.and_eq_true] at hk
    have ha := den_closed h a hk.1
    have hb := den_closed h b hk.2
    intro s t hs hst
    cases p
    · rw [den_seq] at hst
      obtain ⟨u, h1, h2⟩ := hst
      exact hb u t (ha s u hs h1) h2
    · rw [den_or] at hst
      exact hst.elim (ha s t hs) (hb s t hs)
theorem img_seq {n : Nat} {R S : Nat → Nat → Prop} {rows : List Int} (hR : Closed n R) (hr : rows = rowsR n S) {s : Nat} (hs : s < n) :
    imgT rows (bitsN n (R s)) n = bitsN n fun t => ∃ u, R s u ∧ S u t := by
  rw [imgT_rows hr]
  refine bitsN_congr fun t _ => exists_congr fun u => ?_
  rw [bitsN_bit]
  constructor
  · rintro ⟨_, ⟨_, h1⟩, h2⟩; exact ⟨h1, h2⟩
  · rintro ⟨h1, h2⟩; exact ⟨hR s u hs h1, ⟨hR s u hs h1, h1⟩, h2⟩
theorem or_rows (n : Nat) (p q : Nat → Prop) : bitsN n p ||| bitsN n q = bitsN n fun t => p t ∨ q t := by
  refine bitsN_eq (Nat.or_lt_two_pow (bitsN_lt p n) (bitsN_lt q n)) fun t ht => ?_
  rw [Nat.testBit_or, Bool.or_eq_true, bitsN_bit, bitsN_bit]
  simp [ht]
/-- A set on its way to all that is reached. -/
structure Way (n : Nat) (R : Nat → Nat → Prop) (k set : Nat) : Prop where
  lt : set < 2 ^ n
  self : set.testBit k = true
  reach : ∀ t, set.testBit t = true → Star R k t
theorem Way.start {n : Nat} {R : Nat → Nat → Prop} {k : Nat} (hk : k < n) : Way n R k (2 ^ k) where
  lt := Nat.pow_lt_pow_right (by omega) hk
  self := by simp
  reach := fun t ht => by
    rw [Nat.testBit_two_pow] at ht
    rw [of_decide_eq_true ht]
    exact .refl _
theorem Way.next {n : Nat} {R : Nat → Nat → Prop} {rows : List Int} (hr : rows = rowsR n R) {k set : Nat} (h : Way n R k set) : Way n R k (set ||| imgT rows set n) where
  lt := Nat.or_lt_two_pow h.lt (by rw [imgT_rows hr]; exact bitsN_lt _ _)
  self := by rw [Nat.testBit_or, h.self]; rfl
  reach := fun t ht => by
    rw [Nat.testBit_or, Bool.or_eq_true, imgT_rows hr, bitsN_bit] at ht
    rcases ht with ht | ⟨_, s, _, h2, h3⟩
    · exact h.reach t ht
    · exact (h.reach s h2).trans (.one h3)
theorem Way.done {n : Nat} {R : Nat → Nat → Prop} {rows : List Int} (hr : rows = rowsR n R) (hR : Closed n R) {k set : Nat} (hk : k < n) (h : Way n R k set) (he : set ||| imgT rows set n = set) : set = bitsN n (Star R k) := by
  refine bitsN_eq h.lt fun t _ => ⟨h.reach t, fun hs => ?_⟩
  have key : ∀ s t, Star R s t → s < n → set.testBit s = true → set.testBit t = true := by
    intro s t hst
    induction hst with
    | refl => exact fun _ h => h
    | @step s u t h1 _ ih =>
      intro hs hb
      refine ih (hR _ _ hs h1) ?_
      rw [← he, Nat.testBit_or, Bool.or_eq_true, imgT_rows hr, bitsN_bit]
      exact .inr ⟨hR _ _ hs h1, s, hs, hb, h1⟩
  exact key k t hs hk h.self
theorem or_grows {a b : Nat} (h : a ||| b ≠ a) : a < a ||| b := by
  have := @Nat.left_le_or a b
  omega
end Go.Proofs.YtadihfjmgckdaaaGreatDoor
