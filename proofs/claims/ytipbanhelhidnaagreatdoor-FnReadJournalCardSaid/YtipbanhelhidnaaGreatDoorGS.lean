/-
  Texts of walks and plain lemmas for this seat; no condition.
-/
import Derived.Test.YtipbanhelhidnaaGreatDoorGA
import Derived.Test.YtipbanhelhidnaaGreatDoorGD
import Derived.Test.YtipbanhelhidnaaGreatDoorGH
import Derived.Test.YtipbanhelhidnaaGreatDoorGO
namespace Go.Proofs.YtipbanhelhidnaaGreatDoor
open Go.RowKit
section

/-! Codes, by themselves. -/
/-- An instruction. -/
structure In3 where
  kind : Int
  arg : Int
  to : Int
def endI : In3 := ⟨3, 0, 0⟩
def insAt (c : List In3) (i : Nat) : In3 := c.getD i endI
/-! Runs: what actions and tests do is left open. -/
structure Mach where
  act : Int → Nat → Nat
  tst : Int → Nat → Bool
/-- Steps till there is none: where it ends, and how many there were, with the last look. -/
def runS {σ : Type} (step : σ → Option σ) : Nat → σ → Option (σ × Nat)
  | 0, _ => none
  | f + 1, s => match step s with
    | none => some (s, 1)
    | some p => (runS step f p).map fun r => (r.1, r.2 + 1)
section
variable {σ : Type} {step : σ → Option σ}
theorem runS_step {s p : σ} (h : step s = some p) {f : Nat} : runS step (f + 1) s = (runS step f p).map fun r => (r.1, r.2 + 1) := by rw [runS, h]
end

def stepC (M : Mach) (c : List In3) (p : Nat × Nat) : Option (Nat × Nat) :=
  let x := insAt c p.1
  if x.kind = 0 then some (p.1 + 1, M.act x.arg p.2)
  else if x.kind = 1 then some (if M.tst x.arg p.2 then p.1 + 1 else x.to.toNat, p.2)
  else if x.kind = 2 then some (x.to.toNat, p.2)
  else none
/-- States stay below m. -/
def Mach.In (M : Mach) (m : Nat) : Prop := ∀ a st, 16 ≤ a → a ≤ 18 → st < m → M.act a st < m
end

section

/-- Again and again. -/
inductive Star {σ : Type} (R : σ → σ → Prop) : σ → σ → Prop where
  | refl (s : σ) : Star R s s
  | step {s u t : σ} : R s u → Star R u t → Star R s t
namespace Star
variable {σ : Type} {R S : σ → σ → Prop}
theorem one {s t : σ} (h : R s t) : Star R s t := .step h (.refl _)
theorem trans {s u t : σ} (h : Star R s u) (k : Star R u t) : Star R s t := by
  induction h with
  | refl => exact k
  | step h1 _ ih => exact .step h1 (ih k)
theorem mono (hm : ∀ s t, R s t → S s t) {s t : σ} (h : Star R s t) : Star S s t := by
  induction h with
  | refl => exact .refl _
  | step h1 _ ih => exact .step (hm _ _ h1) ih
theorem last {s t : σ} (h : Star R s t) : s = t ∨ ∃ u, Star R s u ∧ R u t := by
  induction h with
  | refl => exact .inl rfl
  | step h1 h2 ih =>
    rcases ih with rfl | ⟨u, h3, h4⟩
    · exact .inr ⟨_, .refl _, h1⟩
    · exact .inr ⟨u, .step h1 h3, h4⟩
end Star

/-- What an expression does, by what its leaves do. -/
def den {σ : Type} (L : Int → σ → σ → Prop) : KT → σ → σ → Prop
  | .leaf n => L n
  | .star t => Star (den L t)
  | .bin p a b => fun s t => if p then den L a s t ∨ den L b s t else ∃ u, den L a s u ∧ den L b u t
/-- The test 0 never holds, the test 15 always. -/
structure Leaves {σ : Type} (L : Int → σ → σ → Prop) : Prop where
  zero : ∀ s t, ¬ L 0 s t
  one : ∀ s t, L 15 s t ↔ s = t
theorem den_seq {σ : Type} (L : Int → σ → σ → Prop) (a b : KT) (s t : σ) : den L (.bin false a b) s t ↔ ∃ u, den L a s u ∧ den L b u t := by simp [den]
theorem den_or {σ : Type} (L : Int → σ → σ → Prop) (a b : KT) (s t : σ) : den L (.bin true a b) s t ↔ den L a s t ∨ den L b s t := by simp [den]
theorem den_star {σ : Type} (L : Int → σ → σ → Prop) (a : KT) (s t : σ) : den L (.star a) s t ↔ Star (den L a) s t := Iff.rfl
theorem den_leaf {σ : Type} (L : Int → σ → σ → Prop) (n : Int) (s t : σ) : den L (.leaf n) s t ↔ L n s t := Iff.rfl

end

section

/-- The number with the bits below n at which something holds. -/
noncomputable def bitsN : Nat → (Nat → Prop) → Nat
  | 0, _ => 0
  | n + 1, p => bitsN n p + (open Classical in if p n then 2 ^ n else 0)
theorem bitsN_lt (p : Nat → Prop) : ∀ n, bitsN n p < 2 ^ n
  | 0 => by simp [bitsN]
  | n + 1 => by
    have := bitsN_lt p n
    rw [bitsN, Nat.pow_succ]
    split <;> omega
theorem bitsN_bit (p : Nat → Prop) (k : Nat) : ∀ n, (bitsN n p).testBit k = true ↔ k < n ∧ p k
  | 0 => by simp [bitsN]
  | n + 1 => by
    have hlt := bitsN_lt p n
    have ih := bitsN_bit p k n
    rw [bitsN]
    by_cases hp : p n
    · rw [if_pos hp]
      by_cases hk : k = n
      · subst hk
        rw [Nat.add_comm, Nat.testBit_two_pow_add_eq, Nat.testBit_lt_two_pow hlt]
        simp [hp]
      · by_cases hkn : k < n
        · rw [Nat.add_comm, Nat.testBit_two_pow_add_gt hkn, ih]
          constructor
          · rintro ⟨_, h⟩; exact ⟨by omega, h⟩
          · rintro ⟨_, h⟩; exact ⟨by omega, h⟩
        · have h2 : bitsN n p + 2 ^ n < 2 ^ k := Nat.lt_of_lt_of_le (by rw [Nat.pow_succ]; omega : _ < 2 ^ (n + 1)) (Nat.pow_le_pow_right (by omega) (by omega))
          rw [Nat.testBit_lt_two_pow h2]
          constructor
          · intro h; cases h
          · rintro ⟨h, _⟩; omega
    · rw [if_neg hp, Nat.add_zero, ih]
      constructor
      · rintro ⟨_, h⟩; exact ⟨by omega, h⟩
      · rintro ⟨_, h⟩
        refine ⟨?_, h⟩
        by_cases hk : k = n
        · subst hk; exact absurd h hp
        · omega
theorem bitsN_eq {n x : Nat} {p : Nat → Prop} (hx : x < 2 ^ n) (h : ∀ k, k < n → (x.testBit k = true ↔ p k)) : x = bitsN n p := by
  apply Nat.eq_of_testBit_eq
  intro k
  rw [Bool.eq_iff_iff, bitsN_bit]
  by_cases hk : k < n
  · simp [h k hk, hk]
  · rw [Nat.testBit_lt_two_pow (Nat.lt_of_lt_of_le hx (Nat.pow_le_pow_right (by omega) (by omega)))]
    simp [hk]
/-- A model. -/
structure Mo where
  n : Int
  p : Int
  q : Int
  acts : List (List Int)
def isSetB (n x : Int) : Bool := decide (0 ≤ x) && decide (x < 2 ^ n.toNat)
def rowsB (n : Int) (r : List Int) : Bool := inB n 1 5 && decide ((r.length : Int) = n) && r.all (isSetB n)
/-- The rows of a relation on the states below n. -/
noncomputable def rowsR (n : Nat) (R : Nat → Nat → Prop) : List Int := (List.range n).map fun s => ((bitsN n (R s) : Nat) : Int)
theorem rowsR_length (n : Nat) (R : Nat → Nat → Prop) : (rowsR n R).length = n := by simp [rowsR]
theorem rowsR_get (n : Nat) (R : Nat → Nat → Prop) (s : Nat) (h : s < (rowsR n R).length) : (rowsR n R)[s] = ((bitsN n (R s) : Nat) : Int) := by simp [rowsR]
/-! Bits of numbers that are put together. -/
/-- The image of a set under rows, the first k of them. -/
def imgT (rows : List Int) (set : Nat) : Nat → Nat
  | 0 => 0
  | k + 1 => if set.testBit k then imgT rows set k ||| (rows.getD k 0).toNat else imgT rows set k
theorem imgT_bit (rows : List Int) (set t : Nat) : ∀ k, (imgT rows set k).testBit t = true ↔ ∃ s, s < k ∧ set.testBit s = true ∧ ((rows.getD s 0).toNat).testBit t = true
  | 0 => by simp [imgT]
  | k + 1 => by
    have ih := imgT_bit rows set t k
    rw [imgT]
    split
    · rename_i hb
      rw [Nat.testBit_or, Bool.or_eq_true, ih]
      constructor
      · rintro (⟨s, h1, h2, h3⟩ | h)
        · exact ⟨s, by omega, h2, h3⟩
        · exact ⟨k, by omega, hb, h⟩
      · rintro ⟨s, h1, h2, h3⟩
        by_cases hs : s = k
        · subst hs; exact .inr h3
        · exact .inl ⟨s, by omega, h2, h3⟩
    · rename_i hb
      rw [ih]
      constructor
      · rintro ⟨s, h1, h2, h3⟩; exact ⟨s, by omega, h2, h3⟩
      · rintro ⟨s, h1, h2, h3⟩
        by_cases hs : s = k
        · subst hs; exact absurd h2 hb
        · exact ⟨s, by omega, h2, h3⟩
theorem imgT_lt {rows : List Int} {n : Nat} (h : ∀ s (hs : s < rows.length), rows[s].toNat < 2 ^ n) (set : Nat) : ∀ k, imgT rows set k < 2 ^ n
  | 0 => Nat.two_pow_pos n
  | k + 1 => by
    have ih := imgT_lt h set k
    rw [imgT]
    split
    · apply Nat.or_lt_two_pow ih
      by_cases hk : k < rows.length
      · simp only [List.getD, List.getElem?_eq_getElem hk, Option.getD_some]; exact h k hk
      · simp only [List.getD, List.getElem?_eq_none (Nat.le_of_not_lt hk), Option.getD_none]; exact Nat.two_pow_pos n
    · exact ih
/-- Rows lead where their relation leads. -/
theorem imgT_rows {n : Nat} {R : Nat → Nat → Prop} {rows : List Int} (hr : rows = rowsR n R) (set : Nat) : imgT rows set n = bitsN n fun t => ∃ s, s < n ∧ set.testBit s = true ∧ R s t := by
  subst hr
  refine bitsN_eq (imgT_lt (fun s hs => ?_) set n) fun t ht => ?_
  · rw [rowsR_get]; exact bitsN_lt _ n
  · rw [imgT_bit]
    refine exists_congr fun s => ?_
    constructor
    · rintro ⟨h1, h2, h3⟩
      have hs : s < (rowsR n R).length := by rw [rowsR_length]; exact h1
      simp only [List.getD, List.getElem?_eq_getElem hs, Option.getD_some, rowsR_get, Int.toNat_natCast, bitsN_bit] at h3
      exact ⟨h1, h2, h3.2⟩
    · rintro ⟨h1, h2, h3⟩
      have hs : s < (rowsR n R).length := by rw [rowsR_length]; exact h1
      simp only [List.getD, List.getElem?_eq_getElem hs, Option.getD_some, rowsR_get, Int.toNat_natCast, bitsN_bit]
      exact ⟨h1, h2, ht, h3⟩
/-! The relations of a valid model stay among its states. -/
def Closed (n : Nat) (R : Nat → Nat → Prop) : Prop := ∀ s t, s < n → R s t → t < n
theorem Closed.star {n : Nat} {R : Nat → Nat → Prop} (h : Closed n R) : Closed n (Star R) := by
  intro s t hs hst
  induction hst with
  | refl => exact hs
  | step h1 _ ih => exact ih (h _ _ hs h1)
/-- A set on its way to all that is reached. -/
structure Way (n : Nat) (R : Nat → Nat → Prop) (k set : Nat) : Prop where
  lt : set < 2 ^ n
  self : set.testBit k = true
  reach : ∀ t, set.testBit t = true → Star R k t
theorem Way.start {n : Nat} {R : Nat → Nat → Prop} {k : Nat} (hk : k < n) : Way n R k (2 ^ k) where
  lt := Nat.pow_lt_pow_right (by omega) hk
  self := by simp
  reach := fun t ht => by
    rw [Nat.testBit_two_pow] at ht
    rw [of_decide_eq_true ht]
    exact .refl _
theorem Way.next {n : Nat} {R : Nat → Nat → Prop} {rows : List Int} (hr : rows = rowsR n R) {k set : Nat} (h : Way n R k set) : Way n R k (set ||| imgT rows set n) where
  lt := Nat.or_lt_two_pow h.lt (by rw [imgT_rows hr]; exact bitsN_lt _ _)
  self := by rw [Nat.testBit_or, h.self]; rfl
  reach := fun t ht => by
    rw [Nat.testBit_or, Bool.or_eq_true, imgT_rows hr, bitsN_bit] at ht
    rcases ht with ht | ⟨_, s, _, h2, h3⟩
    · exact h.reach t ht
    · exact (h.reach s h2).trans (.one h3)
theorem Way.done {n : Nat} {R : Nat → Nat → Prop} {rows : List Int} (hr : rows = rowsR n R) (hR : Closed n R) {k set : Nat} (hk : k < n) (h : Way n R k set) (he : set ||| imgT rows set n = set) : set = bitsN n (Star R k) := by
  refine bitsN_eq h.lt fun t _ => ⟨h.reach t, fun hs => ?_⟩
  have key : ∀ s t, Star R s t → s < n → set.testBit s = true → set.testBit t = true := by
    intro s t hst
    induction hst with
    | refl => exact fun _ h => h
    | @step s u t h1 _ ih =>
      intro hs hb
      refine ih (hR _ _ hs h1) ?_
      rw [← he, Nat.testBit_or, Bool.or_eq_true, imgT_rows hr, bitsN_bit]
      exact .inr ⟨hR _ _ hs h1, s, hs, hb, h1⟩
  exact key k t hs hk h.self
end

section

/-! Programs, by themselves. -/
inductive PT where
  | one (w : Int)
  | seq (a b : PT)
  | ite (t : Int) (a b : PT)
  | wh (t : Int) (a : PT)
def PT.post : PT → List Int
  | .one w => [w]
  | .seq a b => a.post ++ b.post ++ [30]
  | .ite t a b => a.post ++ b.post ++ [100 + t]
  | .wh t a => a.post ++ [200 + t]
def PT.ok : PT → Bool
  | .one w => inB w 15 18
  | .seq a b => a.ok && b.ok
  | .ite t a b => inB t 0 15 && a.ok && b.ok
  | .wh t a => inB t 0 15 && a.ok
/-- The expression of a program. -/
def PT.kat : PT → KT
  | .one w => .leaf w
  | .seq a b => .bin false a.kat b.kat
  | .ite t a b => .bin true (.bin false (.leaf t) a.kat) (.bin false (.leaf (15 - t)) b.kat)
  | .wh t a => .bin false (.star (.bin false (.leaf t) a.kat)) (.leaf (15 - t))
/-- The code of a program that begins at an instruction, without an end. -/
def PT.code : PT → Nat → List In3
  | .one w, _ => if w = 15 then [] else [⟨0, w, 0⟩]
  | .seq a b, n => a.code n ++ b.code (n + (a.code n).length)
  | .ite t a b, n => [⟨1, t, ((n + (a.code (n + 1)).length + 2 : Nat) : Int)⟩] ++ a.code (n + 1) ++ [⟨2, 0, ((n + (a.code (n + 1)).length + 2 + (b.code (n + (a.code (n + 1)).length + 2)).length : Nat) : Int)⟩] ++ b.code (n + (a.code (n + 1)).length + 2)
  | .wh t a, n => [⟨1, t, ((n + (a.code (n + 1)).length + 2 : Nat) : Int)⟩] ++ a.code (n + 1) ++ [⟨2, 0, (n : Int)⟩]

/-- A model in which every action leads to one state, as a machine. -/
structure Sure (L : Int → Nat → Nat → Prop) (M : Mach) (m : Nat) : Prop where
  act : ∀ a s t, 16 ≤ a → a ≤ 18 → s < m → (L a s t ↔ t = M.act a s)
  tst : ∀ a s t, 0 ≤ a → a ≤ 15 → (L a s t ↔ s = t ∧ M.tst a s = true)
  not : ∀ a s, 0 ≤ a → a ≤ 15 → M.tst (15 - a) s = !M.tst a s
  one : ∀ s, M.tst 15 s = true
  inn : M.In m
theorem Sure.closed {L : Int → Nat → Nat → Prop} {M : Mach} {m : Nat} (h : Sure L M m) : ∀ {T : PT}, T.ok = true → Closed m (den L T.kat)
  | .one w, hk => by
    simp only [PT.ok, inB, Bool.and_eq_true, decide_eq_true_eq] at hk
    intro s t hs hst
    simp only [PT.kat, den_leaf] at hst
    by_cases hw : w = 15
    · subst hw
      rw [h.tst _ _ _ (by omega) (by omega)] at hst
      omega
    · rw [h.act _ _ _ (by omega) (by omega) hs] at hst
      rw [hst]
      exact h.inn _ _ (by omega) (by omega) hs
  | .seq a b, hk => by
    simp only [PT.ok, Bool.and_eq_true] at hk
    intro s t hs hst
    simp only [PT.kat, den_seq] at hst
    obtain ⟨u, h1, h2⟩ := hst
    exact h.closed hk.2 u t (h.closed hk.1 s u hs h1) h2
  | .ite c a b, hk => by
    simp only [PT.ok, Bool.and_eq_true, inB, decide_eq_true_eq] at hk
    intro s t hs hst
    simp only [PT.kat, den_seq, den_or, den_leaf] at hst
    rcases hst with ⟨u, h1, h2⟩ | ⟨u, h1, h2⟩
    · rw [h.tst _ _ _ (by omega) (by omega)] at h1
      exact h.closed hk.1.2 u t (by omega) h2
    · rw [h.tst _ _ _ (by omega) (by omega)] at h1
      exact h.closed hk.2 u t (by omega) h2
  | .wh c a, hk => by
    simp only [PT.ok, Bool.and_eq_true, inB, decide_eq_true_eq] at hk
    intro s t hs hst
    simp only [PT.kat, den_seq, den_star] at hst
    obtain ⟨u, h1, h2⟩ := hst
    rw [den_leaf, h.tst _ _ _ (by omega) (by omega)] at h2
    have : Closed m (den L (.bin false (.leaf c) a.kat)) := by
      intro s t hs hst
      rw [den_seq] at hst
      obtain ⟨u, h1, h2⟩ := hst
      rw [den_leaf, h.tst _ _ _ (by omega) (by omega)] at h1
      exact h.closed hk.2 u t (by omega) h2
    have := this.star s u hs h1
    omega
/-- A loop never ends in a state in which its test holds. -/
theorem Sure.loop {L : Int → Nat → Nat → Prop} {M : Mach} {m : Nat} (h : Sure L M m) {c : Int} {a : PT} (hk : (PT.wh c a).ok = true) {s t : Nat} (h1 : den L (PT.wh c a).kat s t) : M.tst c t = false := by
  simp only [PT.ok, Bool.and_eq_true, inB, decide_eq_true_eq] at hk
  simp only [PT.kat, den_seq, den_star] at h1
  obtain ⟨x, _, a2⟩ := h1
  rw [den_leaf, h.tst (15 - c) _ _ (by omega) (by omega), h.not c _ hk.1.1 hk.1.2] at a2
  obtain ⟨rfl, a2⟩ := a2
  simpa using a2

/-! The machine does what the program says. -/
def Steps (M : Mach) (c : List In3) : Nat × Nat → Nat × Nat → Prop := Star fun p q => stepC M c p = some q
theorem Steps.run {M : Mach} {c : List In3} {p q : Nat × Nat} (h : Steps M c p q) {f : Nat} {r : (Nat × Nat) × Nat} (hr : runS (stepC M c) f q = some r) : ∃ f' k, runS (stepC M c) f' p = some (r.1, k) := by
  induction h with
  | refl => exact ⟨f, r.2, hr⟩
  | step h1 _ ih =>
    obtain ⟨f', k, h2⟩ := ih hr
    exact ⟨f' + 1, k + 1, by rw [runS_step h1, h2]; rfl⟩
/-- The code of T lies in c from n on. -/
def Lies (c : List In3) (n : Nat) (l : List In3) : Prop := ∀ i (h : i < l.length), insAt c (n + i) = l[i]
theorem Lies.left {c l m : List In3} {n : Nat} (h : Lies c n (l ++ m)) : Lies c n l := fun i hi => by
  rw [h i (by simp; omega), List.getElem_append_left hi]
theorem Lies.right {c l m : List In3} {n : Nat} (h : Lies c n (l ++ m)) : Lies c (n + l.length) m := fun i hi => by
  have := h (l.length + i) (by simp; omega)
  rw [show n + l.length + i = n + (l.length + i) by omega, this, List.getElem_append_right (by omega)]
  simp
theorem Lies.head {c l : List In3} {x : In3} {n : Nat} (h : Lies c n (x :: l)) : insAt c n = x := by
  have := h 0 (by simp)
  rw [Nat.add_zero] at this
  exact this

end

section

/-! What is left of an expression behind an atom and an action. -/
def endsK : KT → Nat
  | .leaf n => if 16 ≤ n then 0 else n.toNat
  | .star _ => 15
  | .bin p a b => if p then endsK a ||| endsK b else endsK a &&& endsK b
def isOne : KT → Bool
  | .leaf n => decide (n = 15)
  | _ => false
def behK (p q : KT) : KT := if isOne p then q else .bin false p q
def ptK : KT → Nat → Int → KT → Prop
  | .leaf n, _, c, p => n = c ∧ p = .leaf 15
  | .star a, α, c, p => ∃ q, ptK a α c q ∧ p = behK q (.star a)
  | .bin o a b, α, c, p => if o then ptK a α c p ∨ ptK b α c p else (∃ q, ptK a α c q ∧ p = behK q b) ∨ ((endsK a).testBit α = true ∧ ptK b α c p)
theorem ptK_seq (a b : KT) (α : Nat) (c : Int) (p : KT) : ptK (.bin false a b) α c p ↔ (∃ q, ptK a α c q ∧ p = behK q b) ∨ ((endsK a).testBit α = true ∧ ptK b α c p) := by simp [ptK]
theorem ptK_or (a b : KT) (α : Nat) (c : Int) (p : KT) : ptK (.bin true a b) α c p ↔ ptK a α c p ∨ ptK b α c p := by simp [ptK]
theorem ptK_star (a : KT) (α : Nat) (c : Int) (p : KT) : ptK (.star a) α c p ↔ ∃ q, ptK a α c q ∧ p = behK q (.star a) := by simp [ptK]
theorem ptK_leaf (n : Int) (α : Nat) (c : Int) (p : KT) : ptK (.leaf n) α c p ↔ n = c ∧ p = .leaf 15 := by simp [ptK]
theorem one_eq {p : KT} (h : isOne p = true) : p = .leaf 15 := by
  cases p with
  | leaf n => simp [isOne] at h; rw [h]
  | star _ => cases h
  | bin _ _ _ => cases h

/-- Expressions that never have to choose. -/
inductive Dt : KT → Prop where
  | leaf (n : Int) : Dt (.leaf n)
  | seq {p q : KT} : Dt p → Dt q → Dt (.bin false p q)
  | ite {t : Int} {a b : KT} : 0 ≤ t → t ≤ 15 → Dt a → Dt b → Dt (.bin true (.bin false (.leaf t) a) (.bin false (.leaf (15 - t)) b))
  | wh {t : Int} {a : KT} : 0 ≤ t → t ≤ 15 → Dt a → Dt (.bin false (.star (.bin false (.leaf t) a)) (.leaf (15 - t)))
  | whp {t : Int} {p a : KT} : 0 ≤ t → t ≤ 15 → Dt p → Dt a → Dt (.bin false (.bin false p (.star (.bin false (.leaf t) a))) (.leaf (15 - t)))
theorem pt_guard {t : Int} (ht : t ≤ 15) {a p : KT} {α : Nat} {c : Int} (hc : 16 ≤ c) : ptK (.bin false (.leaf t) a) α c p ↔ (endsK (.leaf t)).testBit α = true ∧ ptK a α c p := by
  rw [ptK_seq]
  constructor
  · rintro (⟨q, h, _⟩ | h)
    · rw [ptK_leaf] at h; omega
    · exact h
  · exact .inr
theorem pt_loop {t : Int} (ht : t ≤ 15) {a p : KT} {α : Nat} {c : Int} (hc : 16 ≤ c) : ptK (.star (.bin false (.leaf t) a)) α c p ↔ (endsK (.leaf t)).testBit α = true ∧ ∃ q, ptK a α c q ∧ p = behK q (.star (.bin false (.leaf t) a)) := by
  rw [ptK_star]
  constructor
  · rintro ⟨q, h, rfl⟩
    rw [pt_guard ht hc] at h
    exact ⟨h.1, q, h.2, rfl⟩
  · rintro ⟨h1, q, h2, rfl⟩
    exact ⟨q, (pt_guard ht hc).2 ⟨h1, h2⟩, rfl⟩
theorem beh_seq_dt {q b : KT} (hq : Dt q) (hb : Dt b) : Dt (behK q b) := by
  unfold behK
  split
  · exact hb
  · exact .seq hq hb
theorem beh_loop_dt {t : Int} (h0 : 0 ≤ t) (h1 : t ≤ 15) {q a : KT} (hq : Dt q) (ha : Dt a) : Dt (behK (behK q (.star (.bin false (.leaf t) a))) (.leaf (15 - t))) := by
  unfold behK
  split
  · simp only [isOne, Bool.false_eq_true, if_false]; exact .wh h0 h1 ha
  · simp only [isOne, Bool.false_eq_true, if_false]; exact .whp h0 h1 hq ha
/-- Parts of what never has to choose never have to. -/
theorem Dt.part {T : KT} (h : Dt T) : ∀ {α : Nat} {c : Int} {p : KT}, 16 ≤ c → ptK T α c p → Dt p := by
  induction h with
  | leaf n =>
    intro α c p _ g
    rw [ptK_leaf] at g
    rw [g.2]
    exact .leaf _
  | seq _ hq ihp ihq =>
    intro α c p hc g
    rw [ptK_seq] at g
    rcases g with ⟨x, g, rfl⟩ | ⟨_, g⟩
    · exact beh_seq_dt (ihp hc g) hq
    · exact ihq hc g
  | ite h0 h1 _ _ iha ihb =>
    intro α c p hc g
    rw [ptK_or, pt_guard h1 hc, pt_guard (by omega) hc] at g
    rcases g with ⟨_, g⟩ | ⟨_, g⟩
    · exact iha hc g
    · exact ihb hc g
  | wh h0 h1 ha iha =>
    intro α c p hc g
    rw [ptK_seq] at g
    rcases g with ⟨x, g, rfl⟩ | ⟨_, g⟩
    · rw [pt_loop h1 hc] at g
      obtain ⟨_, q, g, rfl⟩ := g
      exact beh_loop_dt h0 h1 (iha hc g) ha
    · rw [ptK_leaf] at g; omega
  | whp h0 h1 _ ha ihp iha =>
    intro α c p hc g
    rw [ptK_seq] at g
    rcases g with ⟨x, g, rfl⟩ | ⟨_, g⟩
    · rw [ptK_seq] at g
      rcases g with ⟨y, g, rfl⟩ | ⟨_, g⟩
      · exact beh_loop_dt h0 h1 (ihp hc g) ha
      · rw [pt_loop h1 hc] at g
        obtain ⟨_, q, g, rfl⟩ := g
        exact beh_loop_dt h0 h1 (iha hc g) ha
    · rw [ptK_leaf] at g; omega

/-! Traces: a state is what is still to be read. -/
inductive Tr where
  | fin (α : Fin 4)
  | step (α : Fin 4) (c : Fin 3) (r : Tr)
def Tr.head : Tr → Nat
  | .fin α => α.val
  | .step α _ _ => α.val
def Tr.last : Tr → Tr
  | .fin α => .fin α
  | .step _ _ r => r.last
theorem behK_ok {p q : KT} (hp : p.ok 0 = true) (hq : q.ok 0 = true) : (behK p q).ok 0 = true := by
  unfold behK
  split
  · exact hq
  · simp [KT.ok, hp, hq]
theorem ptK_ok : ∀ {t : KT}, t.ok 0 = true → ∀ {α : Nat} {c : Int} {p : KT}, ptK t α c p → p.ok 0 = true
  | .leaf n, _, α, c, p, h => by
    rw [ptK_leaf] at h
    rw [h.2]
    rfl
  | .bin true a b, ht, α, c, p, h => by
    simp only [KT.ok, Bool.and_eq_true] at ht
    rw [ptK_or] at h
    exact h.elim (ptK_ok ht.1) (ptK_ok ht.2)
  | .bin false a b, ht, α, c, p, h => by
    simp only [KT.ok, Bool.and_eq_true] at ht
    rw [ptK_seq] at h
    rcases h with ⟨q, h, rfl⟩ | ⟨_, h⟩
    · exact behK_ok (ptK_ok ht.1 h) ht.2
    · exact ptK_ok ht.2 h
  | .star a, ht, α, c, p, h => by
    rw [ptK_star] at h
    obtain ⟨q, h, rfl⟩ := h
    exact behK_ok (ptK_ok (t := a) ht h) ht
end

section

/-! All parts of an expression: there are few. -/
def clK : KT → List KT
  | .leaf n => if 16 ≤ n then [.leaf 15] else []
  | .star a => (clK a).map fun q => behK q (.star a)
  | .bin o a b => if o then clK a ++ clK b else ((clK a).map fun q => behK q b) ++ clK b
theorem cl_or (a b : KT) : clK (.bin true a b) = clK a ++ clK b := by simp [clK]
theorem cl_seq (a b : KT) : clK (.bin false a b) = ((clK a).map fun q => behK q b) ++ clK b := by simp [clK]
theorem cl_star (a : KT) : clK (.star a) = (clK a).map fun q => behK q (.star a) := rfl
theorem pt_cl : ∀ {t : KT} {α : Nat} {c : Int} {p : KT}, 16 ≤ c → ptK t α c p → p ∈ clK t
  | .leaf n, α, c, p, hc, h => by
    rw [ptK_leaf] at h
    obtain ⟨rfl, rfl⟩ := h
    simp [clK, hc]
  | .star a, α, c, p, hc, h => by
    rw [ptK_star] at h
    obtain ⟨q, h, rfl⟩ := h
    exact List.mem_map.2 ⟨q, pt_cl hc h, rfl⟩
  | .bin true a b, α, c, p, hc, h => by
    rw [ptK_or] at h
    rw [cl_or, List.mem_append]
    exact h.imp (pt_cl hc) (pt_cl hc)
  | .bin false a b, α, c, p, hc, h => by
    rw [ptK_seq] at h
    rw [cl_seq, List.mem_append]
    rcases h with ⟨q, h, rfl⟩ | ⟨_, h⟩
    · exact .inl (List.mem_map.2 ⟨q, pt_cl hc h, rfl⟩)
    · exact .inr (pt_cl hc h)
theorem beh_pt {q' b : KT} {α : Nat} {c : Int} {p : KT} (h : ptK (behK q' b) α c p) : ptK b α c p ∨ ∃ r, ptK q' α c r ∧ p = behK r b := by
  unfold behK at h
  split at h
  · exact .inl h
  · rw [ptK_seq] at h
    rcases h with ⟨r, h, rfl⟩ | ⟨_, h⟩
    · exact .inr ⟨r, h, rfl⟩
    · exact .inl h
theorem cl_pt : ∀ {t q : KT} {α : Nat} {c : Int} {p : KT}, 16 ≤ c → q ∈ clK t → ptK q α c p → p ∈ clK t
  | .leaf n, q, α, c, p, hc, hq, h => by
    simp only [clK] at hq
    split at hq
    · simp only [List.mem_singleton] at hq
      subst hq
      rw [ptK_leaf] at h
      omega
    · cases hq
  | .star a, q, α, c, p, hc, hq, h => by
    rw [cl_star, List.mem_map] at hq
    obtain ⟨q', hq', rfl⟩ := hq
    rcases beh_pt h with h | ⟨r, h', rfl⟩
    · exact pt_cl hc h
    · exact List.mem_map.2 ⟨r, cl_pt (t := a) hc hq' h', rfl⟩
  | .bin true a b, q, α, c, p, hc, hq, h => by
    rw [cl_or, List.mem_append] at hq ⊢
    exact hq.imp (fun hq => cl_pt hc hq h) (fun hq => cl_pt hc hq h)
  | .bin false a b, q, α, c, p, hc, hq, h => by
    rw [cl_seq, List.mem_append, List.mem_map] at hq
    rw [cl_seq, List.mem_append]
    rcases hq with ⟨q', hq', rfl⟩ | hq
    · rcases beh_pt h with h | ⟨r, h', rfl⟩
      · exact .inr (pt_cl hc h)
      · exact .inl (List.mem_map.2 ⟨r, cl_pt hc hq' h', rfl⟩)
    · exact .inr (cl_pt hc hq h)
theorem cl_length : ∀ t : KT, (clK t).length ≤ t.size
  | .leaf n => by simp only [clK]; split <;> simp [KT.size]
  | .star a => by have := cl_length a; simp [clK, KT.size]; omega
  | .bin true a b => by have := cl_length a; have := cl_length b; simp [clK, KT.size]; omega
  | .bin false a b => by have := cl_length a; have := cl_length b; simp [clK, KT.size]; omega
theorem behK_size (p q : KT) : (behK p q).size ≤ p.size + q.size + 1 := by
  unfold behK
  split
  · omega
  · simp [KT.size]
theorem cl_size : ∀ {t q : KT}, q ∈ clK t → q.size ≤ t.size * (t.size + 1)
  | .leaf n, q, h => by
    simp only [clK] at h
    split at h
    · simp only [List.mem_singleton] at h; subst h; simp [KT.size]
    · cases h
  | .star a, q, h => by
    rw [cl_star, List.mem_map] at h
    obtain ⟨q', h, rfl⟩ := h
    have h1 := cl_size h
    have h2 := behK_size q' (.star a)
    simp only [KT.size] at h2 ⊢
    have : (a.size + 1) * (a.size + 1 + 1) = a.size * (a.size + 1) + (2 * a.size + 2) := by
      simp only [Nat.mul_add, Nat.add_mul]; omega
    omega
  | .bin true a b, q, h => by
    rw [cl_or, List.mem_append] at h
    have hab : ∀ x, x ≤ a.size + b.size + 1 → x * (x + 1) ≤ (a.size + b.size + 1) * (a.size + b.size + 1 + 1) := fun x hx => Nat.mul_le_mul hx (by omega)
    simp only [KT.size]
    rcases h with h | h
    · exact Nat.le_trans (cl_size h) (hab _ (by omega))
    · exact Nat.le_trans (cl_size h) (hab _ (by omega))
  | .bin false a b, q, h => by
    rw [cl_seq, List.mem_append, List.mem_map] at h
    simp only [KT.size]
    have e : (a.size + b.size + 1) * (a.size + b.size + 1 + 1) = a.size * (a.size + 1) + (a.size * (b.size + 1) + (b.size + 1) * (a.size + b.size + 1 + 1)) := by
      rw [show a.size + b.size + 1 = a.size + (b.size + 1) by omega, Nat.add_mul, show a.size + (b.size + 1) + 1 = a.size + 1 + (b.size + 1) by omega, Nat.mul_add a.size, Nat.add_assoc]
    have e2 : b.size + 1 ≤ (b.size + 1) * (a.size + b.size + 1 + 1) := Nat.le_mul_of_pos_right _ (by omega)
    rcases h with ⟨q', h, rfl⟩ | h
    · have h1 := cl_size h
      have h2 := behK_size q' b
      omega
    · have h1 := cl_size h
      refine Nat.le_trans h1 (Nat.le_trans (Nat.mul_le_mul (by omega : b.size ≤ a.size + b.size + 1) (by omega)) (Nat.le_refl _))
theorem cl_ok : ∀ {t : KT}, t.ok 0 = true → ∀ q ∈ clK t, q.ok 0 = true
  | .leaf n, _, q, h => by
    simp only [clK] at h
    split at h
    · simp only [List.mem_singleton] at h; subst h; rfl
    · cases h
  | .star a, ht, q, h => by
    rw [cl_star, List.mem_map] at h
    obtain ⟨q', h, rfl⟩ := h
    exact behK_ok (cl_ok (t := a) ht _ h) ht
  | .bin true a b, ht, q, h => by
    simp only [KT.ok, Bool.and_eq_true] at ht
    rw [cl_or, List.mem_append] at h
    exact h.elim (cl_ok ht.1 q) (cl_ok ht.2 q)
  | .bin false a b, ht, q, h => by
    simp only [KT.ok, Bool.and_eq_true] at ht
    rw [cl_seq, List.mem_append, List.mem_map] at h
    rcases h with ⟨q', h, rfl⟩ | h
    · exact behK_ok (cl_ok ht.1 _ h) ht.2
    · exact cl_ok ht.2 q h
/-- A list without repeats is no longer than one that has all of it. -/
theorem nodup_len {α : Type} : ∀ (xs L : List α), xs.Nodup → (∀ x ∈ xs, x ∈ L) → xs.length ≤ L.length
  | [], _, _, _ => by simp
  | x :: xs, L, hn, h => by
    obtain ⟨a, b, rfl⟩ := List.append_of_mem (h x (by simp))
    rw [List.nodup_cons] at hn
    have := nodup_len xs (a ++ b) hn.2 fun y hy => by
      have := h y (by simp [hy])
      simp only [List.mem_append, List.mem_cons] at this ⊢
      rcases this with h1 | rfl | h1
      · exact .inl h1
      · exact absurd hy hn.1
      · exact .inr h1
    simp at this ⊢
    omega
end

section
set_option linter.unusedVariables false

/-! Lists of lists in order. -/
/-- A list comes before another one: it has the lesser number at the first difference, or is the beginning of it. -/
def ltL : List Int → List Int → Bool
  | [], [] => false
  | [], _ :: _ => true
  | _ :: _, [] => false
  | a :: r, b :: s => if a < b then true else if b < a then false else ltL r s
/-- A list in order, with one more in its place. -/
def addL (t : List Int) : List (List Int) → List (List Int)
  | [] => [t]
  | x :: r => if ltL x t then x :: addL t r else if x = t then x :: r else t :: x :: r
theorem addL_mem {t y : List Int} : ∀ {l : List (List Int)}, y ∈ addL t l ↔ y = t ∨ y ∈ l
  | [] => by simp [addL]
  | x :: r => by
    unfold addL
    split
    · rw [List.mem_cons, addL_mem, List.mem_cons]
      constructor
      · rintro (h | h | h)
        · exact .inr (.inl h)
        · exact .inl h
        · exact .inr (.inr h)
      · rintro (h | h | h)
        · exact .inr (.inl h)
        · exact .inl h
        · exact .inr (.inr h)
    · split
      · rename_i h
        subst h
        simp
      · simp
/-- Many more in their places. -/
def addsL (l ts : List (List Int)) : List (List Int) := ts.foldl (fun o t => addL t o) l
theorem addsL_mem {y : List Int} : ∀ {ts l : List (List Int)}, y ∈ addsL l ts ↔ y ∈ l ∨ y ∈ ts
  | [], l => by simp [addsL]
  | t :: ts, l => by
    show y ∈ addsL (addL t l) ts ↔ _
    rw [addsL_mem, addL_mem, List.mem_cons]
    constructor
    · rintro ((h | h) | h)
      · exact .inr (.inl h)
      · exact .inl h
      · exact .inr (.inr h)
    · rintro (h | h | h)
      · exact .inl (.inr h)
      · exact .inl (.inl h)
      · exact .inr h
/-- A list in order, each once. -/
def ordL (l : List (List Int)) : List (List Int) := addsL [] l
theorem ordL_mem {y : List Int} {l : List (List Int)} : y ∈ ordL l ↔ y ∈ l := by simp [ordL, addsL_mem]
/-! What is left of an expression, as lists. -/
def behV (q p : List Int) : List Int := if q = [15] then p else q ++ p ++ [19]
theorem post_one {p : KT} (hp : p.ok 0 = true) : p.post = [15] ↔ isOne p = true := by
  constructor
  · intro h
    rw [post_inj hp (b := .leaf 15) (by rfl) h]
    rfl
  · intro h
    rw [one_eq h]
    rfl
theorem behV_post {q b : KT} (hq : q.ok 0 = true) : behV q.post b.post = (behK q b).post := by
  unfold behV behK
  by_cases h : isOne q = true
  · rw [if_pos ((post_one hq).2 h), if_pos h]
  · rw [if_neg (fun e => h ((post_one hq).1 e)), if_neg h]
    rfl
def partsV : KT → Nat → Int → List (List Int)
  | .leaf n, _, c => if n = c then [[15]] else []
  | .star a, α, c => ordL ((partsV a α c).map fun q => behV q (KT.star a).post)
  | .bin o a b, α, c => if o then addsL (partsV a α c) (partsV b α c)
    else addsL (ordL ((partsV a α c).map fun q => behV q b.post)) (if (endsK a).testBit α then partsV b α c else [])
theorem partsV_or (a b : KT) (α : Nat) (c : Int) : partsV (.bin true a b) α c = addsL (partsV a α c) (partsV b α c) := by simp [partsV]
theorem partsV_seq (a b : KT) (α : Nat) (c : Int) : partsV (.bin false a b) α c = addsL (ordL ((partsV a α c).map fun q => behV q b.post)) (if (endsK a).testBit α then partsV b α c else []) := by simp [partsV]
theorem partsV_star (a : KT) (α : Nat) (c : Int) : partsV (.star a) α c = ordL ((partsV a α c).map fun q => behV q (KT.star a).post) := rfl
theorem partsV_mem : ∀ {t : KT}, t.ok 0 = true → ∀ {α : Nat} {c : Int} {x : List Int}, x ∈ partsV t α c ↔ ∃ p, ptK t α c p ∧ p.post = x
  | .leaf n, _, α, c, x => by
    unfold partsV
    constructor
    · intro h
      split at h
      · rename_i hn
        simp only [List.mem_singleton] at h
        exact ⟨.leaf 15, (ptK_leaf _ _ _ _).2 ⟨hn, rfl⟩, h.symm⟩
      · cases h
    · rintro ⟨p, h, rfl⟩
      rw [ptK_leaf] at h
      rw [if_pos h.1, h.2]
      simp [KT.post]
  | .star a, ht, α, c, x => by
    rw [partsV_star, ordL_mem, List.mem_map]
    have ha : a.ok 0 = true := ht
    constructor
    · rintro ⟨q, hq, rfl⟩
      obtain ⟨p, h1, rfl⟩ := (partsV_mem ha).1 hq
      exact ⟨behK p (.star a), (ptK_star _ _ _ _).2 ⟨p, h1, rfl⟩, (behV_post (ptK_ok ha h1)).symm⟩
    · rintro ⟨p, h, rfl⟩
      obtain ⟨q, h1, rfl⟩ := (ptK_star _ _ _ _).1 h
      exact ⟨q.post, (partsV_mem ha).2 ⟨q, h1, rfl⟩, behV_post (ptK_ok ha h1)⟩
  | .bin true a b, ht, α, c, x => by
    simp only [KT.ok, Bool.and_eq_true] at ht
    rw [partsV_or, addsL_mem, partsV_mem ht.1, partsV_mem ht.2]
    constructor
    · rintro (⟨p, h, e⟩ | ⟨p, h, e⟩)
      · exact ⟨p, (ptK_or _ _ _ _ _).2 (.inl h), e⟩
      · exact ⟨p, (ptK_or _ _ _ _ _).2 (.inr h), e⟩
    · rintro ⟨p, h, e⟩
      rcases (ptK_or _ _ _ _ _).1 h with h | h
      · exact .inl ⟨p, h, e⟩
      · exact .inr ⟨p, h, e⟩
  | .bin false a b, ht, α, c, x => by
    simp only [KT.ok, Bool.and_eq_true] at ht
    rw [partsV_seq, addsL_mem, ordL_mem, List.mem_map]
    constructor
    · rintro (⟨q, hq, rfl⟩ | h)
      · obtain ⟨p, h1, rfl⟩ := (partsV_mem ht.1).1 hq
        exact ⟨behK p b, (ptK_seq _ _ _ _ _).2 (.inl ⟨p, h1, rfl⟩), (behV_post (ptK_ok ht.1 h1)).symm⟩
      · split at h
        · rename_i hb
          obtain ⟨p, h1, e⟩ := (partsV_mem ht.2).1 h
          exact ⟨p, (ptK_seq _ _ _ _ _).2 (.inr ⟨hb, h1⟩), e⟩
        · cases h
    · rintro ⟨p, h, rfl⟩
      rcases (ptK_seq _ _ _ _ _).1 h with ⟨q, h1, rfl⟩ | ⟨hb, h1⟩
      · exact .inl ⟨q.post, (partsV_mem ht.1).2 ⟨q, h1, rfl⟩, behV_post (ptK_ok ht.1 h1)⟩
      · rw [if_pos hb]
        exact .inr ((partsV_mem ht.2).2 ⟨p, h1, rfl⟩)
end

section
set_option linter.unusedVariables false

/-! All parts of an expression, in the order in which they come. -/
/-- New ones behind a list. -/
def newL (o : List (List Int)) : List (List Int) → List (List Int)
  | [] => o
  | p :: r => newL (if p ∈ o then o else o ++ [p]) r
/-- Behind move m of 0..11: atom m / 3, action 16 + m % 3. -/
def moveP (t : KT) (m : Nat) : List (List Int) := partsV t (m / 3) (16 + ((m % 3 : Nat) : Int))
def rowL (o : List (List Int)) (t : KT) : Nat → List (List Int)
  | 0 => o
  | k + 1 => newL (rowL o t k) (moveP t k)
/-- Something that parts of parts keep. -/
structure Kept (P : KT → Prop) : Prop where
  ok : ∀ {t}, P t → t.ok 0 = true
  pt : ∀ {t}, P t → ∀ {α : Nat} {c : Int} {p : KT}, α < 4 → 16 ≤ c → ptK t α c p → P p
/-- A list of parts on its way. -/
structure AllI (P : KT → Prop) (o : List (List Int)) : Prop where
  nodup : o.Nodup
  mem : ∀ x ∈ o, ∃ q, P q ∧ q.post = x
theorem AllI.new {P : KT → Prop} : ∀ {ps o : List (List Int)}, AllI P o → (∀ x ∈ ps, ∃ q, P q ∧ q.post = x) → AllI P (newL o ps)
  | [], _, h, _ => h
  | p :: ps, o, h, hp => by
    refine AllI.new (ps := ps) ?_ fun x hx => hp x (List.mem_cons_of_mem _ hx)
    split
    · exact h
    · rename_i hn
      refine ⟨?_, fun x hx => ?_⟩
      · rw [List.nodup_append]
        refine ⟨h.nodup, by simp, fun a ha b hb => ?_⟩
        simp only [List.mem_singleton] at hb
        subst hb
        exact fun e => hn (e ▸ ha)
      · rcases List.mem_append.1 hx with hx | hx
        · exact h.mem x hx
        · simp only [List.mem_singleton] at hx
          subst hx
          exact hp _ (List.mem_cons_self ..)
theorem newL_pre : ∀ (ps o : List (List Int)), ∃ r, newL o ps = o ++ r
  | [], o => ⟨[], by simp [newL]⟩
  | p :: ps, o => by
    unfold newL
    split
    · exact newL_pre ps o
    · obtain ⟨r, h⟩ := newL_pre ps (o ++ [p])
      exact ⟨[p] ++ r, by rw [h, List.append_assoc]⟩
theorem newL_mem {y : List Int} : ∀ {ps o : List (List Int)}, y ∈ newL o ps ↔ y ∈ o ∨ y ∈ ps
  | [], o => by simp [newL]
  | p :: ps, o => by
    unfold newL
    rw [newL_mem, List.mem_cons]
    split
    · rename_i hp
      constructor
      · rintro (h | h)
        · exact .inl h
        · exact .inr (.inr h)
      · rintro (h | rfl | h)
        · exact .inl h
        · exact .inl hp
        · exact .inr h
    · rw [List.mem_append, List.mem_singleton]
      constructor
      · rintro ((h | h) | h)
        · exact .inl h
        · exact .inr (.inl h)
        · exact .inr (.inr h)
      · rintro (h | h | h)
        · exact .inl (.inl h)
        · exact .inl (.inr h)
        · exact .inr h
theorem rowL_pre (o : List (List Int)) (t : KT) : ∀ k, ∃ r, rowL o t k = o ++ r
  | 0 => ⟨[], by simp [rowL]⟩
  | k + 1 => by
    obtain ⟨r, h⟩ := rowL_pre o t k
    obtain ⟨s, h2⟩ := newL_pre (moveP t k) (rowL o t k)
    exact ⟨r ++ s, by rw [rowL, h2, h, List.append_assoc]⟩
theorem rowL_mem {o : List (List Int)} {t : KT} {y : List Int} : ∀ {k : Nat}, y ∈ rowL o t k ↔ y ∈ o ∨ ∃ m, m < k ∧ y ∈ moveP t m
  | 0 => by simp [rowL]
  | k + 1 => by
    rw [rowL, newL_mem, rowL_mem]
    constructor
    · rintro ((h | ⟨m, h1, h2⟩) | h)
      · exact .inl h
      · exact .inr ⟨m, by omega, h2⟩
      · exact .inr ⟨k, by omega, h⟩
    · rintro (h | ⟨m, h1, h2⟩)
      · exact .inl (.inl h)
      · by_cases hm : m = k
        · subst hm; exact .inr h2
        · exact .inl (.inr ⟨m, by omega, h2⟩)
theorem moveP_kept {P : KT → Prop} (hP : Kept P) {t : KT} (ht : P t) {m : Nat} (hm : m < 12) : ∀ x ∈ moveP t m, ∃ q, P q ∧ q.post = x := by
  intro x hx
  obtain ⟨p, h1, e⟩ := (partsV_mem (hP.ok ht)).1 hx
  exact ⟨p, hP.pt ht (by omega) (by omega) h1, e⟩
theorem AllI.row {P : KT → Prop} (hP : Kept P) {o : List (List Int)} (h : AllI P o) {t : KT} (ht : P t) : ∀ {k : Nat}, k ≤ 12 → AllI P (rowL o t k)
  | 0, _ => h
  | k + 1, hk => AllI.new (AllI.row hP h ht (k := k) (by omega)) (moveP_kept hP ht (by omega))
theorem AllI.tree {P : KT → Prop} (hP : Kept P) {o : List (List Int)} (h : AllI P o) {i : Nat} (hi : i < o.length) : P (treeOf (o.getD i [])) ∧ (treeOf (o.getD i [])).post = o.getD i [] := by
  rw [show o.getD i [] = o[i] by simp [List.getD, List.getElem?_eq_getElem hi]]
  obtain ⟨q, h1, h2⟩ := h.mem _ (List.getElem_mem hi)
  rw [← h2, treeOf_post (hP.ok h1)]
  exact ⟨h1, rfl⟩
theorem AllI.one {P : KT → Prop} {t : KT} (h : P t) : AllI P [t.post] := ⟨by simp, fun x hx => by
  simp only [List.mem_singleton] at hx
  exact ⟨t, h, hx.symm⟩⟩
/-- What an expression comes to. -/
def Cl (t0 : KT) (t : KT) : Prop := t ∈ t0 :: clK t0
theorem Cl.kept {t0 : KT} (h : t0.ok 0 = true) : Kept (Cl t0) where
  ok := fun {t} ht => by
    rcases List.mem_cons.1 ht with rfl | ht
    · exact h
    · exact cl_ok h t ht
  pt := fun {t} ht α c p _ hc hp => by
    rcases List.mem_cons.1 ht with rfl | ht
    · exact List.mem_cons_of_mem _ (pt_cl hc hp)
    · exact List.mem_cons_of_mem _ (cl_pt hc ht hp)
theorem Cl.size {t0 t : KT} (h : Cl t0 t) (hs : t0.size ≤ 40) : t.size ≤ 1640 := by
  rcases List.mem_cons.1 h with rfl | h
  · omega
  · have := cl_size h
    have h2 : t0.size * (t0.size + 1) ≤ 40 * 41 := Nat.mul_le_mul hs (by omega)
    omega
theorem AllI.len {t0 : KT} {o : List (List Int)} (h : AllI (Cl t0) o) (hs : t0.size ≤ 40) : o.length ≤ 41 := by
  have h1 := nodup_len o ((t0 :: clK t0).map KT.post) h.nodup fun x hx => by
    obtain ⟨q, h1, h2⟩ := h.mem x hx
    exact List.mem_map.2 ⟨q, h1, h2⟩
  have h2 := cl_length t0
  simp only [List.length_map, List.length_cons] at h1
  omega
/-- All before a place are done. -/
def DoneL (o : List (List Int)) (i : Nat) : Prop := ∀ j, j < i → j < o.length → ∀ m, m < 12 → ∀ y ∈ moveP (treeOf (o.getD j [])) m, y ∈ o
theorem DoneL.row {o : List (List Int)} {i : Nat} (h : DoneL o i) (hi : i < o.length) : DoneL (rowL o (treeOf (o.getD i [])) 12) (i + 1) := by
  obtain ⟨r, hr⟩ := rowL_pre o (treeOf (o.getD i [])) 12
  intro j hj hjl m hm y hy
  have hjo : j < o.length := by omega
  have e : (rowL o (treeOf (o.getD i [])) 12).getD j [] = o.getD j [] := by
    rw [hr]; simp [List.getD, List.getElem?_append_left hjo]
  rw [e] at hy
  rw [rowL_mem]
  by_cases hji : j = i
  · subst hji
    exact .inr ⟨m, hm, hy⟩
  · exact .inl (h j (by omega) hjo m hm y hy)
/-- What is known of all parts. -/
structure AllR (t0 : KT) (L : List (List Int)) : Prop where
  cl : AllI (Cl t0) L
  len : L.length ≤ 41
  first : L[0]? = some t0.post
  done : ∀ x ∈ L, ∀ m, m < 12 → ∀ y ∈ moveP (treeOf x) m, y ∈ L
/-! Whether an expression never has to choose. -/
theorem Dt.kept : Kept (fun t => t.ok 0 = true ∧ Dt t) where
  ok := fun h => h.1
  pt := fun h _ _ _ _ hc hp => ⟨ptK_ok h.1 hp, h.2.part hc hp⟩
end

section
set_option linter.unusedVariables false

/-! Automata of expressions. -/
structure Au where
  ends : List Int
  next : List (List Int)
/-- The set of the parts that are left behind a move. -/
noncomputable def setL (L : List (List Int)) (x : List Int) (m : Nat) : Nat := bitsN L.length fun j => L.getD j [] ∈ moveP (treeOf x) m
noncomputable def nextL (L : List (List Int)) (x : List Int) : List Int := (List.range 12).map fun m => ((setL L x m : Nat) : Int)
def endL (x : List Int) : Int := ((endsK (treeOf x) : Nat) : Int)
def stepU (a : Au) (set m : Nat) : Nat := imgT (a.next.map fun r : List Int => r.getD m 0) set a.ends.length
def endsU (a : Au) (set : Nat) : Nat := imgT a.ends set a.ends.length
/-- What is known of an automaton of an expression. -/
structure AuR (t0 : KT) (L : List (List Int)) (a : Au) : Prop where
  all : AllR t0 L
  le : L.length ≤ 10
  ends : a.ends = L.map endL
  next : a.next = L.map (nextL L)
section
variable {t0 : KT} {L : List (List Int)} {a : Au}
theorem AuR.tree (h : AuR t0 L a) (ht : t0.ok 0 = true) {j : Nat} (hj : j < L.length) : (treeOf L[j]).ok 0 = true ∧ (treeOf L[j]).post = L[j] := by
  obtain ⟨q, h1, h2⟩ := h.all.cl.mem _ (List.getElem_mem hj)
  have hq := (Cl.kept ht).ok h1
  rw [← h2, treeOf_post hq]
  exact ⟨hq, rfl⟩
theorem AuR.ends_len (h : AuR t0 L a) : a.ends.length = L.length := by rw [h.ends]; simp
theorem AuR.next_len (h : AuR t0 L a) : a.next.length = L.length := by rw [h.next]; simp
theorem AuR.ends_get (h : AuR t0 L a) {j : Nat} (hj : j < L.length) : (a.ends.getD j 0).toNat = endsK (treeOf L[j]) := by
  rw [h.ends]
  simp [List.getD, hj, endL]
theorem AuR.next_get (h : AuR t0 L a) {j m : Nat} (hj : j < L.length) (hm : m < 12) : ((a.next.map fun r : List Int => r.getD m 0).getD j 0).toNat = setL L L[j] m := by
  rw [h.next]
  simp [List.getD, hj, nextL, hm]
theorem AuR.step_bit (h : AuR t0 L a) {set m j : Nat} (hm : m < 12) (hj : j < L.length) : (stepU a set m).testBit j = true ↔ ∃ s, ∃ hs : s < L.length, set.testBit s = true ∧ L[j] ∈ moveP (treeOf L[s]) m := by
  rw [stepU, imgT_bit, h.ends_len]
  constructor
  · rintro ⟨s, h1, h2, h3⟩
    rw [h.next_get h1 hm, setL, bitsN_bit] at h3
    refine ⟨s, h1, h2, ?_⟩
    have := h3.2
    rwa [show L.getD j [] = L[j] by simp [List.getD, List.getElem?_eq_getElem hj]] at this
  · rintro ⟨s, h1, h2, h3⟩
    refine ⟨s, h1, h2, ?_⟩
    rw [h.next_get h1 hm, setL, bitsN_bit]
    refine ⟨hj, ?_⟩
    rwa [show L.getD j [] = L[j] by simp [List.getD, List.getElem?_eq_getElem hj]]
theorem AuR.step_lt (h : AuR t0 L a) (set : Nat) {m : Nat} (hm : m < 12) : stepU a set m < 2 ^ L.length := by
  refine imgT_lt (fun s hs => ?_) set _
  have hs' : s < L.length := by rw [List.length_map, h.next_len] at hs; exact hs
  have := h.next_get hs' hm
  rw [show (a.next.map fun r : List Int => r.getD m 0)[s] = (a.next.map fun r : List Int => r.getD m 0).getD s 0 by rw [List.getD_eq_getElem?_getD, List.getElem?_eq_getElem hs, Option.getD_some], this]
  exact bitsN_lt _ _
theorem AuR.ends_bit (h : AuR t0 L a) {set α : Nat} : (endsU a set).testBit α = true ↔ ∃ s, ∃ hs : s < L.length, set.testBit s = true ∧ (endsK (treeOf L[s])).testBit α = true := by
  rw [endsU, imgT_bit, h.ends_len]
  constructor
  · rintro ⟨s, h1, h2, h3⟩
    rw [h.ends_get h1] at h3
    exact ⟨s, h1, h2, h3⟩
  · rintro ⟨s, h1, h2, h3⟩
    exact ⟨s, h1, h2, by rw [h.ends_get h1]; exact h3⟩
end

/-! What is reached along moves. -/
inductive Alg (t0 : KT) : List Nat → KT → Prop where
  | nil : Alg t0 [] t0
  | snoc {ms : List Nat} {m : Nat} {q p : KT} : Alg t0 ms q → m < 12 → ptK q (m / 3) (16 + ((m % 3 : Nat) : Int)) p → Alg t0 (ms ++ [m]) p
theorem Alg.cl {t0 : KT} (ht : t0.ok 0 = true) {ms : List Nat} {q : KT} (h : Alg t0 ms q) : Cl t0 q := by
  induction h with
  | nil => exact List.mem_cons_self ..
  | snoc _ hm h ih => exact (Cl.kept ht).pt ih (by omega) (by omega) h
theorem alg_snoc {t0 : KT} {ms : List Nat} {m : Nat} {p : KT} (h : Alg t0 (ms ++ [m]) p) : m < 12 ∧ ∃ q, Alg t0 ms q ∧ ptK q (m / 3) (16 + ((m % 3 : Nat) : Int)) p := by
  generalize he : ms ++ [m] = l at h
  cases h with
  | nil => simp at he
  | @snoc ms' m' q p' h1 h2 h3 =>
    obtain ⟨e1, e2⟩ := List.append_inj_right' he (by simp) |> fun e => (⟨List.append_inj_left' he (by simp), e⟩ : ms = ms' ∧ [m] = [m'])
    injection e2 with e2
    subst e1 e2
    exact ⟨h2, q, h1, h3⟩
/-- A set of states holds what is reached. -/
structure SetR (t0 : KT) (L : List (List Int)) (ms : List Nat) (set : Nat) : Prop where
  lt : set < 2 ^ L.length
  bit : ∀ j (hj : j < L.length), set.testBit j = true ↔ ∃ q, Alg t0 ms q ∧ q.post = L[j]
theorem AuR.reached {t0 : KT} {L : List (List Int)} {a : Au} (h : AuR t0 L a) (ht : t0.ok 0 = true) : ∀ (ms : List Nat) {q : KT}, Alg t0 ms q → ∃ j, ∃ hj : j < L.length, q.post = L[j] := by
  intro ms q hq
  have key : q.post ∈ L := by
    induction hq with
    | nil => exact List.mem_of_getElem? h.all.first
    | @snoc ms m q p h1 h2 h3 ih =>
      refine h.all.done _ ih m h2 _ ?_
      have hq := (Cl.kept ht).ok (h1.cl ht)
      rw [treeOf_post hq]
      exact (partsV_mem hq).2 ⟨p, h3, rfl⟩
  obtain ⟨j, hj, e⟩ := List.getElem_of_mem key
  exact ⟨j, hj, e.symm⟩
theorem SetR.start {t0 : KT} {L : List (List Int)} {a : Au} (h : AuR t0 L a) : SetR t0 L [] 1 where
  lt := by
    have h1 := h.all.first
    have h2 : 0 < L.length := by
      cases L with
      | nil => cases h1
      | cons => simp
    exact Nat.one_lt_two_pow (by omega)
  bit := fun j hj => by
    have h1 := h.all.first
    have hj0 : 0 < L.length := by omega
    rw [List.getElem?_eq_getElem hj0] at h1
    injection h1 with h1
    rw [show (1 : Nat) = 2 ^ 0 by rfl, Nat.testBit_two_pow]
    constructor
    · intro he
      have : j = 0 := (of_decide_eq_true he).symm
      subst this
      exact ⟨t0, .nil, h1.symm⟩
    · rintro ⟨q, hq, e⟩
      have hq' : q = t0 := by
        generalize hm : ([] : List Nat) = ms at hq
        cases hq with
        | nil => rfl
        | snoc _ _ _ => simp at hm
      subst hq'
      have hd := List.pairwise_iff_getElem.1 h.all.cl.nodup
      have he : L[0] = L[j] := by rw [h1, e]
      by_cases h0 : j = 0
      · simp [h0]
      · exact absurd he (hd 0 j hj0 hj (by omega))
theorem SetR.step {t0 : KT} {L : List (List Int)} {a : Au} (h : AuR t0 L a) (ht : t0.ok 0 = true) {ms : List Nat} {set m : Nat} (hm : m < 12) (hs : SetR t0 L ms set) : SetR t0 L (ms ++ [m]) (stepU a set m) where
  lt := h.step_lt set hm
  bit := fun j hj => by
    rw [h.step_bit hm hj]
    constructor
    · rintro ⟨s, h1, h2, h3⟩
      obtain ⟨q, hq, e⟩ := (hs.bit s h1).1 h2
      have hqo := (Cl.kept ht).ok (hq.cl ht)
      rw [← e, treeOf_post hqo] at h3
      obtain ⟨p, hp, e2⟩ := (partsV_mem hqo).1 h3
      exact ⟨p, hq.snoc hm hp, e2⟩
    · rintro ⟨p, hp, e⟩
      obtain ⟨_, q, hq, hqp⟩ := alg_snoc hp
      obtain ⟨s, h1, e2⟩ := h.reached ht ms hq
      have hqo := (Cl.kept ht).ok (hq.cl ht)
      refine ⟨s, h1, (hs.bit s h1).2 ⟨q, hq, e2⟩, ?_⟩
      rw [← e2, treeOf_post hqo, ← e]
      exact (partsV_mem hqo).2 ⟨p, hqp, rfl⟩
theorem SetR.ends {t0 : KT} {L : List (List Int)} {a : Au} (h : AuR t0 L a) (ht : t0.ok 0 = true) {ms : List Nat} {set α : Nat} (hs : SetR t0 L ms set) : (endsU a set).testBit α = true ↔ ∃ q, Alg t0 ms q ∧ (endsK q).testBit α = true := by
  rw [h.ends_bit]
  constructor
  · rintro ⟨s, h1, h2, h3⟩
    obtain ⟨q, hq, e⟩ := (hs.bit s h1).1 h2
    rw [← e, treeOf_post ((Cl.kept ht).ok (hq.cl ht))] at h3
    exact ⟨q, hq, h3⟩
  · rintro ⟨q, hq, h3⟩
    obtain ⟨s, h1, e⟩ := h.reached ht ms hq
    refine ⟨s, h1, (hs.bit s h1).2 ⟨q, hq, e⟩, ?_⟩
    rw [← e, treeOf_post ((Cl.kept ht).ok (hq.cl ht))]
    exact h3

/-! Traces of moves. -/
/-! Two automata together. -/
def nextP (a b : Au) (p : Nat × Nat) (m : Nat) : Nat × Nat := (stepU a p.1 m, stepU b p.2 m)
/-! The first one of the shortest traces of just one of both. -/
/-! What is told to differ differs. -/
end

section
set_option linter.unusedVariables false

/-! Who is proved to be equal is not told to differ. -/
/-! Ways in order. -/
end

section
set_option linter.unusedVariables false

/-! What is enough for 'not told to differ'. -/
/-- A pair of sets that is reached. -/
def RchP (a b : Au) (p : Nat × Nat) : Prop := ∃ ms : List Nat, (∀ m ∈ ms, m < 12) ∧ p = ms.foldl (nextP a b) (1, 1)
theorem RchP.start (a b : Au) : RchP a b (1, 1) := ⟨[], by simp, rfl⟩
theorem RchP.next {a b : Au} {p : Nat × Nat} (h : RchP a b p) {m : Nat} (hm : m < 12) : RchP a b (nextP a b p m) := by
  obtain ⟨ms, h1, h2⟩ := h
  refine ⟨ms ++ [m], fun k hk => ?_, by rw [List.foldl_append, ← h2]; rfl⟩
  rcases List.mem_append.1 hk with hk | hk
  · exact h1 k hk
  · simp only [List.mem_singleton] at hk; omega
end
end Go.Proofs.YtipbanhelhidnaaGreatDoor
