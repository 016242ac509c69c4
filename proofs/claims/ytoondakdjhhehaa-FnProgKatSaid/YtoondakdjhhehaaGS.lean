/-
  Texts of walks and plain lemmas for this seat; no condition.
-/
import Derived.Test.YtoondakdjhhehaaGA
import Derived.Test.YtoondakdjhhehaaGD
import Derived.Test.YtoondakdjhhehaaGH
import Derived.Test.YtoondakdjhhehaaGO
namespace Go.Proofs.Ytoondakdjhhehaa
open Go.RowKit
section

/-! Codes, by themselves. -/
theorem pigeon : ∀ (N k : Nat) (f : Nat → Nat), (∀ i, i < k → f i < N) → (∀ i j, i < k → j < k → f i = f j → i = j) → k ≤ N
  | 0, k, f, h, _ => by
    rcases Nat.eq_zero_or_pos k with h0 | h0
    · omega
    · exact absurd (h 0 h0) (by omega)
  | N + 1, k, f, h, hi => by
    by_cases hx : ∃ i0, i0 < k ∧ f i0 = N
    · obtain ⟨i0, h0, h1⟩ := hx
      have := pigeon N (k - 1) (fun i => if i < i0 then f i else f (i + 1)) (fun i hik => by
        show (if i < i0 then f i else f (i + 1)) < N
        split
        · have h2 := h i (by omega)
          have h3 : f i ≠ N := fun e => by have := hi i i0 (by omega) h0 (by omega); omega
          omega
        · have h2 := h (i + 1) (by omega)
          have h3 : f (i + 1) ≠ N := fun e => by have := hi (i + 1) i0 (by omega) h0 (by omega); omega
          omega) (fun i j hik hjk he => by
        have he : (if i < i0 then f i else f (i + 1)) = (if j < i0 then f j else f (j + 1)) := he
        split at he <;> split at he
        · exact hi i j (by omega) (by omega) he
        · have := hi i (j + 1) (by omega) (by omega) he; omega
        · have := hi (i + 1) j (by omega) (by omega) he; omega
        · have := hi (i + 1) (j + 1) (by omega) (by omega) he; omega)
      omega
    · have := pigeon N k f (fun i hik => by
        have h2 := h i hik
        have h3 : f i ≠ N := fun e => hx ⟨i, hik, e⟩
        omega) hi
      omega

/-- An instruction. -/
structure In3 where
  kind : Int
  arg : Int
  to : Int
def endI : In3 := ⟨3, 0, 0⟩
def insB (n : Int) (x : In3) : Bool :=
  if x.kind = 0 then inB x.arg 16 18 && decide (x.to = 0)
  else if x.kind = 1 then inB x.arg 0 15 && inB x.to 0 (n - 1)
  else if x.kind = 2 then decide (x.arg = 0) && inB x.to 0 (n - 1)
  else decide (x.kind = 3) && decide (x.arg = 0) && decide (x.to = 0)
def insAt (c : List In3) (i : Nat) : In3 := c.getD i endI
def codeV (c : List In3) : Bool := inB c.length 1 40 && c.all (insB c.length) && decide (2 ≤ (insAt c (c.length - 1)).kind)
theorem insAt_get {c : List In3} {i : Nat} (h : i < c.length) : insAt c i = c[i] := by simp [insAt, List.getD, List.getElem?_eq_getElem h]

/-- What is known of a valid code. -/
structure Code0 (c : List In3) : Prop where
  pos : 1 ≤ c.length
  most : c.length ≤ 40
  ins : ∀ i, i < c.length → insB c.length (insAt c i) = true
  last : 2 ≤ (insAt c (c.length - 1)).kind
theorem codeV_iff {c : List In3} : codeV c = true ↔ Code0 c := by
  simp only [codeV, Bool.and_eq_true, decide_eq_true_eq, List.all_eq_true, inB]
  constructor
  · rintro ⟨⟨⟨h1, h2⟩, h3⟩, h4⟩
    exact ⟨by omega, by omega, fun i hi => by rw [insAt_get hi]; exact h3 _ (List.getElem_mem hi), h4⟩
  · rintro ⟨h1, h2, h3, h4⟩
    refine ⟨⟨⟨by omega, by omega⟩, fun x hx => ?_⟩, h4⟩
    obtain ⟨i, hi, rfl⟩ := List.getElem_of_mem hx
    rw [← insAt_get hi]
    exact h3 i hi
theorem insB_kind {n : Int} {x : In3} (h : insB n x = true) : x.kind = 0 ∨ x.kind = 1 ∨ x.kind = 2 ∨ x.kind = 3 := by
  unfold insB at h
  split at h
  · omega
  · split at h
    · omega
    · split at h
      · omega
      · simp only [Bool.and_eq_true, decide_eq_true_eq] at h; omega
theorem insB_to {n : Int} {x : In3} (h : insB n x = true) (hk : x.kind = 1 ∨ x.kind = 2) : 0 ≤ x.to ∧ x.to < n := by
  unfold insB at h
  rw [if_neg (by omega)] at h
  split at h
  · simp only [Bool.and_eq_true, inB, decide_eq_true_eq] at h; omega
  · rw [if_pos (by omega)] at h
    simp only [Bool.and_eq_true, inB, decide_eq_true_eq] at h; omega
theorem Code0.to_lt {c : List In3} (h : Code0 c) {i : Nat} (hi : i < c.length) (hk : (insAt c i).kind = 1 ∨ (insAt c i).kind = 2) : (insAt c i).to.toNat < c.length := by
  have := insB_to (h.ins i hi) hk
  omega
theorem Code0.succ_lt {c : List In3} (h : Code0 c) {i : Nat} (hi : i < c.length) (hk : (insAt c i).kind < 2) : i + 1 < c.length := by
  have := h.last
  refine Nat.lt_of_le_of_ne (by omega) fun e => ?_
  have : i = c.length - 1 := by omega
  subst this
  omega

/-! Runs: what actions and tests do is left open. -/
structure Mach where
  act : Int → Nat → Nat
  tst : Int → Nat → Bool
/-- Steps till there is none: where it ends, and how many there were, with the last look. -/
def runS {σ : Type} (step : σ → Option σ) : Nat → σ → Option (σ × Nat)
  | 0, _ => none
  | f + 1, s => match step s with
    | none => some (s, 1)
    | some p => (runS step f p).map fun r => (r.1, r.2 + 1)
section
variable {σ : Type} {step : σ → Option σ}
theorem runS_mono : ∀ {f f' : Nat} {s : σ} {r : σ × Nat}, runS step f s = some r → f ≤ f' → runS step f' s = some r
  | 0, _, _, _, h, _ => by cases h
  | f + 1, 0, _, _, _, hf => by omega
  | f + 1, f' + 1, s, r, h, hf => by
    rw [runS] at h ⊢
    split at h
    · exact h
    · rename_i p hn
      rw [Option.map_eq_some_iff] at h
      obtain ⟨q, h1, h2⟩ := h
      show Option.map _ (runS step f' p) = _
      rw [runS_mono h1 (by omega), Option.map_some, h2]
theorem runS_det {f f' : Nat} {s : σ} {r r' : σ × Nat} (h : runS step f s = some r) (h' : runS step f' s = some r') : r = r' := by
  have h1 := runS_mono h (Nat.le_max_left f f')
  have h2 := runS_mono h' (Nat.le_max_right f f')
  rw [h1] at h2
  injection h2
theorem runS_count : ∀ {f : Nat} {s : σ} {r : σ × Nat}, runS step f s = some r → 1 ≤ r.2 ∧ runS step r.2 s = some r ∧ step r.1 = none
  | 0, _, _, h => by cases h
  | f + 1, s, r, h => by
    rw [runS] at h
    split at h
    · rename_i hn
      injection h with h
      subst h
      exact ⟨Nat.le_refl _, by rw [runS, hn], hn⟩
    · rename_i p hn
      rw [Option.map_eq_some_iff] at h
      obtain ⟨q, h1, rfl⟩ := h
      obtain ⟨h2, h3, h4⟩ := runS_count h1
      refine ⟨by simp, ?_, h4⟩
      show runS step (q.2 + 1) s = _
      rw [runS, hn]
      simp only [h3, Option.map_some]
theorem runS_step {s p : σ} (h : step s = some p) {f : Nat} : runS step (f + 1) s = (runS step f p).map fun r => (r.1, r.2 + 1) := by rw [runS, h]
theorem runS_end {s : σ} (h : step s = none) {f : Nat} : runS step (f + 1) s = some (s, 1) := by rw [runS, h]
/-- Where a run is behind i steps. -/
def confS (step : σ → Option σ) (s : σ) : Nat → σ
  | 0 => s
  | i + 1 => match step s with
    | none => s
    | some p => confS step p i
theorem confS_run {I : σ → Prop} (hI : ∀ s p, I s → step s = some p → I p) : ∀ (i : Nat) {s e : σ} {k : Nat}, I s → runS step k s = some (e, k) → i < k →
    I (confS step s i) ∧ runS step (k - i) (confS step s i) = some (e, k - i)
  | 0, s, e, k, hs, h, _ => ⟨hs, h⟩
  | i + 1, s, e, 0, _, _, hi => by omega
  | i + 1, s, e, k + 1, hs, h, hi => by
    rw [runS] at h
    rw [confS]
    split at h
    · injection h with h
      injection h with _ h
      omega
    · rename_i p hn
      rw [Option.map_eq_some_iff] at h
      obtain ⟨⟨q1, q2⟩, h1, h2⟩ := h
      injection h2 with h2 h3
      simp only at h2 h3
      obtain rfl : q2 = k := by omega
      subst h2
      have := confS_run hI i (hI _ _ hs hn) h1 (by omega)
      rw [show q2 + 1 - (i + 1) = q2 - i by omega]
      exact this
/-- Who ends ends soon. -/
theorem runS_soon {I : σ → Prop} (hI : ∀ s p, I s → step s = some p → I p) {N : Nat} (enc : σ → Nat) (hN : ∀ s, I s → enc s < N) (hinj : ∀ s t, I s → I t → enc s = enc t → s = t)
    {f : Nat} {s : σ} {r : σ × Nat} (hs : I s) (h : runS step f s = some r) : r.2 ≤ N ∧ I r.1 := by
  obtain ⟨h1, h, _⟩ := runS_count h
  obtain ⟨e, k⟩ := r
  simp only at h h1
  constructor
  · refine pigeon N k (fun i => enc (confS step s i)) (fun i hi => hN _ (confS_run hI i hs h hi).1) fun i j hi hj he => ?_
    obtain ⟨a1, a2⟩ := confS_run hI i hs h hi
    obtain ⟨b1, b2⟩ := confS_run hI j hs h hj
    have he := hinj _ _ a1 b1 he
    rw [he] at a2
    have := runS_det a2 b2
    injection this with _ h
    omega
  · obtain ⟨a1, a2⟩ := confS_run hI (k - 1) hs h (by omega)
    rw [show k - (k - 1) = 1 by omega] at a2
    rw [runS] at a2
    split at a2
    · injection a2 with a2
      injection a2 with a2 _
      rw [← a2]
      exact a1
    · simp [runS] at a2
end

def stepC (M : Mach) (c : List In3) (p : Nat × Nat) : Option (Nat × Nat) :=
  let x := insAt c p.1
  if x.kind = 0 then some (p.1 + 1, M.act x.arg p.2)
  else if x.kind = 1 then some (if M.tst x.arg p.2 then p.1 + 1 else x.to.toNat, p.2)
  else if x.kind = 2 then some (x.to.toNat, p.2)
  else none
/-- States stay below m. -/
def Mach.In (M : Mach) (m : Nat) : Prop := ∀ a st, 16 ≤ a → a ≤ 18 → st < m → M.act a st < m
theorem insB_act {n : Int} {x : In3} (h : insB n x = true) (hk : x.kind = 0) : 16 ≤ x.arg ∧ x.arg ≤ 18 := by
  unfold insB at h
  rw [if_pos hk] at h
  simp only [Bool.and_eq_true, inB, decide_eq_true_eq] at h
  omega
theorem stepC_in {M : Mach} {c : List In3} {m : Nat} (hc : Code0 c) (hM : M.In m) (p q : Nat × Nat) (hp : p.1 < c.length ∧ p.2 < m) (h : stepC M c p = some q) : q.1 < c.length ∧ q.2 < m := by
  obtain ⟨a, st⟩ := p
  obtain ⟨ha, hs⟩ := hp
  have hi := hc.ins a ha
  simp only [stepC] at h
  split at h
  · rename_i hk
    injection h with h
    subst h
    exact ⟨hc.succ_lt ha (by omega), hM _ _ (insB_act hi hk).1 (insB_act hi hk).2 hs⟩
  · split at h
    · rename_i hk
      injection h with h
      subst h
      refine ⟨?_, hs⟩
      show (if _ then _ else _) < _
      split
      · exact hc.succ_lt ha (by omega)
      · exact hc.to_lt ha (.inl hk)
    · split at h
      · rename_i hk
        injection h with h
        subst h
        exact ⟨hc.to_lt ha (.inr hk), hs⟩
      · cases h
theorem enc_lt {m n a s : Nat} (ha : a < n) (hs : s < m) : a * m + s < n * m := by
  calc a * m + s < a * m + m := by omega
    _ = (a + 1) * m := by rw [Nat.add_mul, Nat.one_mul]
    _ ≤ n * m := Nat.mul_le_mul_right m ha
theorem enc_inj {m a s b t : Nat} (hs : s < m) (ht : t < m) (h : a * m + s = b * m + t) : a = b ∧ s = t := by
  have e2 : s = t := by
    have h1 := congrArg (· % m) h
    simp only [Nat.add_comm (_ * m), Nat.add_mul_mod_self_right, Nat.mod_eq_of_lt hs, Nat.mod_eq_of_lt ht] at h1
    exact h1
  exact ⟨Nat.eq_of_mul_eq_mul_right (by omega : 0 < m) (by omega), e2⟩
theorem runC_soon {M : Mach} {c : List In3} {m : Nat} (hc : Code0 c) (hM : M.In m) {f : Nat} {p : Nat × Nat} {r : (Nat × Nat) × Nat} (hp : p.1 < c.length ∧ p.2 < m) (h : runS (stepC M c) f p = some r) : r.2 ≤ c.length * m ∧ r.1.1 < c.length ∧ r.1.2 < m := by
  exact runS_soon (I := fun p => p.1 < c.length ∧ p.2 < m) (stepC_in hc hM) (fun p => p.1 * m + p.2) (fun p hp => enc_lt hp.1 hp.2)
    (fun p q hp hq he => by obtain ⟨h1, h2⟩ := enc_inj hp.2 hq.2 he; exact Prod.ext h1 h2) hp h
/-- Where a code ends, and behind how many instructions. -/
def runV (M : Mach) (c : List In3) (n st : Nat) : Int × Int := match runS (stepC M c) (c.length * n) (0, st) with
  | some r => (((r.1.2 : Nat) : Int), ((r.2 : Nat) : Int))
  | none => (-1, 0)
end

section

/-- Again and again. -/
inductive Star {σ : Type} (R : σ → σ → Prop) : σ → σ → Prop where
  | refl (s : σ) : Star R s s
  | step {s u t : σ} : R s u → Star R u t → Star R s t
namespace Star
variable {σ : Type} {R S : σ → σ → Prop}
theorem one {s t : σ} (h : R s t) : Star R s t := .step h (.refl _)
theorem trans {s u t : σ} (h : Star R s u) (k : Star R u t) : Star R s t := by
  induction h with
  | refl => exact k
  | step h1 _ ih => exact .step h1 (ih k)
theorem mono (hm : ∀ s t, R s t → S s t) {s t : σ} (h : Star R s t) : Star S s t := by
  induction h with
  | refl => exact .refl _
  | step h1 _ ih => exact .step (hm _ _ h1) ih
theorem flat (hm : ∀ s t, R s t → Star S s t) {s t : σ} (h : Star R s t) : Star S s t := by
  induction h with
  | refl => exact .refl _
  | step h1 _ ih => exact (hm _ _ h1).trans ih
theorem last {s t : σ} (h : Star R s t) : s = t ∨ ∃ u, Star R s u ∧ R u t := by
  induction h with
  | refl => exact .inl rfl
  | step h1 h2 ih =>
    rcases ih with rfl | ⟨u, h3, h4⟩
    · exact .inr ⟨_, .refl _, h1⟩
    · exact .inr ⟨u, .step h1 h3, h4⟩
end Star

/-- What an expression does, by what its leaves do. -/
def den {σ : Type} (L : Int → σ → σ → Prop) : KT → σ → σ → Prop
  | .leaf n => L n
  | .star t => Star (den L t)
  | .bin p a b => fun s t => if p then den L a s t ∨ den L b s t else ∃ u, den L a s u ∧ den L b u t
/-- The test 0 never holds, the test 15 always. -/
structure Leaves {σ : Type} (L : Int → σ → σ → Prop) : Prop where
  zero : ∀ s t, ¬ L 0 s t
  one : ∀ s t, L 15 s t ↔ s = t
theorem den_seq {σ : Type} (L : Int → σ → σ → Prop) (a b : KT) (s t : σ) : den L (.bin false a b) s t ↔ ∃ u, den L a s u ∧ den L b u t := by simp [den]
theorem den_or {σ : Type} (L : Int → σ → σ → Prop) (a b : KT) (s t : σ) : den L (.bin true a b) s t ↔ den L a s t ∨ den L b s t := by simp [den]
theorem den_star {σ : Type} (L : Int → σ → σ → Prop) (a : KT) (s t : σ) : den L (.star a) s t ↔ Star (den L a) s t := Iff.rfl
theorem den_leaf {σ : Type} (L : Int → σ → σ → Prop) (n : Int) (s t : σ) : den L (.leaf n) s t ↔ L n s t := Iff.rfl

/-- The sides of the rules, as trees. -/
def ruleK (n : Nat) (l : Bool) : KT :=
  let x : KT := .leaf (-1)
  let y : KT := .leaf (-2)
  let z : KT := .leaf (-3)
  let o : KT := .leaf 15
  let e : KT := .leaf 0
  let p := KT.bin true
  let s := KT.bin false
  match n with
  | 0 => if l then p (p x y) z else p x (p y z)
  | 1 => if l then p x y else p y x
  | 2 => if l then p x x else x
  | 3 => if l then p x e else x
  | 4 => if l then s (s x y) z else s x (s y z)
  | 5 => if l then s o x else x
  | 6 => if l then s x o else x
  | 7 => if l then s e x else e
  | 8 => if l then s x e else e
  | 9 => if l then s x (p y z) else p (s x y) (s x z)
  | 10 => if l then s (p x y) z else p (s x z) (s y z)
  | 11 => if l then p o (s x (.star x)) else .star x
  | 12 => if l then p o (s (.star x) x) else .star x
  | 13 => if l then s (.star (s x y)) x else s x (.star (s y x))
  | 14 => if l then .star (p x y) else s (.star x) (.star (s y (.star x)))
  | 15 => if l then .star (.star x) else .star x
  | 16 => if l then s (.star x) (.star x) else .star x
  | 17 => if l then .star e else o
  | 18 => if l then .star o else o
  | 19 => if l then .star (p o x) else .star x
  | _ => if l then p x (s x (.star y)) else s x (.star y)
theorem ruleK_post : ∀ n, n < 21 → ∀ l, (ruleK n l).post = ruleS n l ∧ (ruleK n l).ok (-3) = true := by decide +kernel

theorem den_rule {σ : Type} {L : Int → σ → σ → Prop} (hL : Leaves L) : ∀ n, n < 21 → ∀ s t : σ, den L (ruleK n true) s t ↔ den L (ruleK n false) s t := by
  intro n hn s t
  match n, hn with
  | 0, _ => simp only [ruleK, den, Bool.false_eq_true, if_false, if_true]; grind
  | 1, _ => simp only [ruleK, den, Bool.false_eq_true, if_false, if_true]; grind
  | 2, _ => simp only [ruleK, den, Bool.false_eq_true, if_false, if_true]; grind
  | 3, _ => have := hL.zero s t; simp only [ruleK, den, Bool.false_eq_true, if_false, if_true]; grind
  | 4, _ =>
    simp only [ruleK, den, Bool.false_eq_true, if_false, if_true]
    exact ⟨fun ⟨u, ⟨v, a, b⟩, c⟩ => ⟨v, a, u, b, c⟩, fun ⟨v, a, u, b, c⟩ => ⟨u, ⟨v, a, b⟩, c⟩⟩
  | 5, _ =>
    simp only [ruleK, den, Bool.false_eq_true, if_false, if_true, hL.one]
    exact ⟨fun ⟨u, a, b⟩ => a ▸ b, fun h => ⟨s, rfl, h⟩⟩
  | 6, _ =>
    simp only [ruleK, den, Bool.false_eq_true, if_false, if_true, hL.one]
    exact ⟨fun ⟨u, a, b⟩ => b ▸ a, fun h => ⟨t, h, rfl⟩⟩
  | 7, _ =>
    simp only [ruleK, den, Bool.false_eq_true, if_false, if_true]
    exact ⟨fun ⟨u, a, _⟩ => absurd a (hL.zero _ _), fun h => absurd h (hL.zero _ _)⟩
  | 8, _ =>
    simp only [ruleK, den, Bool.false_eq_true, if_false, if_true]
    exact ⟨fun ⟨u, _, a⟩ => absurd a (hL.zero _ _), fun h => absurd h (hL.zero _ _)⟩
  | 9, _ =>
    simp only [ruleK, den, Bool.false_eq_true, if_false, if_true]
    exact ⟨fun ⟨u, a, b⟩ => b.elim (fun b => .inl ⟨u, a, b⟩) (fun b => .inr ⟨u, a, b⟩), fun h => h.elim (fun ⟨u, a, b⟩ => ⟨u, a, .inl b⟩) (fun ⟨u, a, b⟩ => ⟨u, a, .inr b⟩)⟩
  | 10, _ =>
    simp only [ruleK, den, Bool.false_eq_true, if_false, if_true]
    exact ⟨fun ⟨u, a, b⟩ => a.elim (fun a => .inl ⟨u, a, b⟩) (fun a => .inr ⟨u, a, b⟩), fun h => h.elim (fun ⟨u, a, b⟩ => ⟨u, .inl a, b⟩) (fun ⟨u, a, b⟩ => ⟨u, .inr a, b⟩)⟩
  | 11, _ =>
    simp only [ruleK, den, Bool.false_eq_true, if_false, if_true, hL.one]
    constructor
    · rintro (rfl | ⟨u, a, b⟩)
      · exact .refl _
      · exact .step a b
    · intro h
      cases h with
      | refl => exact .inl rfl
      | step a b => exact .inr ⟨_, a, b⟩
  | 12, _ =>
    simp only [ruleK, den, Bool.false_eq_true, if_false, if_true, hL.one]
    constructor
    · rintro (rfl | ⟨u, a, b⟩)
      · exact .refl _
      · exact a.trans (.one b)
    · intro h
      rcases h.last with h | ⟨u, a, b⟩
      · exact .inl h
      · exact .inr ⟨u, a, b⟩
  | 13, _ =>
    simp only [ruleK, den, Bool.false_eq_true, if_false, if_true]
    constructor
    · rintro ⟨u, a, b⟩
      induction a with
      | refl => exact ⟨_, b, .refl _⟩
      | step h1 _ ih =>
        obtain ⟨v, c, d⟩ := h1
        obtain ⟨v', c', d'⟩ := ih b
        exact ⟨v, c, .step ⟨_, d, c'⟩ d'⟩
    · rintro ⟨u, a, b⟩
      induction b generalizing s with
      | refl => exact ⟨_, .refl _, a⟩
      | step h1 _ ih =>
        obtain ⟨v, c, d⟩ := h1
        obtain ⟨v', c', d'⟩ := ih v d
        exact ⟨v', .step ⟨_, a, c⟩ c', d'⟩
  | 14, _ =>
    simp only [ruleK, den, Bool.false_eq_true, if_false, if_true]
    constructor
    · intro h
      induction h with
      | refl => exact ⟨_, .refl _, .refl _⟩
      | step h1 _ ih =>
        obtain ⟨u, a, b⟩ := ih
        rcases h1 with h1 | h1
        · exact ⟨u, .step h1 a, b⟩
        · exact ⟨_, .refl _, .step ⟨_, h1, a⟩ b⟩
    · rintro ⟨u, a, b⟩
      refine (a.mono fun _ _ h => .inl h).trans (b.flat ?_)
      rintro v v' ⟨c, d, e⟩
      exact .step (.inr d) (e.mono fun _ _ h => .inl h)
  | 15, _ =>
    simp only [ruleK, den, Bool.false_eq_true, if_false, if_true]
    exact ⟨fun h => h.flat fun _ _ h => h, fun h => .one h⟩
  | 16, _ =>
    simp only [ruleK, den, Bool.false_eq_true, if_false, if_true]
    exact ⟨fun ⟨u, a, b⟩ => a.trans b, fun h => ⟨_, .refl _, h⟩⟩
  | 17, _ =>
    simp only [ruleK, den, Bool.false_eq_true, if_false, if_true, hL.one]
    constructor
    · intro h
      cases h with
      | refl => rfl
      | step a _ => exact absurd a (hL.zero _ _)
    · rintro rfl
      exact .refl _
  | 18, _ =>
    simp only [ruleK, den, Bool.false_eq_true, if_false, if_true, hL.one]
    constructor
    · intro h
      induction h with
      | refl => rfl
      | step a _ ih => exact ((hL.one _ _).1 a).trans ih
    · rintro rfl
      exact .refl _
  | 19, _ =>
    simp only [ruleK, den, Bool.false_eq_true, if_false, if_true]
    constructor
    · refine fun h => h.flat fun s t h => ?_
      rcases h with h | h
      · rw [(hL.one s t).1 h]; exact .refl _
      · exact .one h
    · exact fun h => h.mono fun _ _ h => .inr h
  | 20, _ =>
    simp only [ruleK, den, Bool.false_eq_true, if_false, if_true]
    exact ⟨fun h => h.elim (fun h => ⟨_, h, .refl _⟩) id, .inr⟩
  | n + 21, h => omega

/-- Trees with alike parts do alike. -/
theorem den_congr {σ : Type} {L L' : Int → σ → σ → Prop} (h : ∀ n s t, L n s t ↔ L' n s t) : ∀ (k : KT) (s t : σ), den L k s t ↔ den L' k s t
  | .leaf n, s, t => h n s t
  | .star k, s, t => ⟨Star.mono fun s t => (den_congr h k s t).1, Star.mono fun s t => (den_congr h k s t).2⟩
  | .bin p a b, s, t => by
    cases p
    · simp only [den_seq]
      exact ⟨fun ⟨u, x, y⟩ => ⟨u, (den_congr h a _ _).1 x, (den_congr h b _ _).1 y⟩, fun ⟨u, x, y⟩ => ⟨u, (den_congr h a _ _).2 x, (den_congr h b _ _).2 y⟩⟩
    · simp only [den_or, den_congr h a, den_congr h b]

/-- What the leaves do, the letters being what they stand for. -/
def fillL {σ : Type} (L : Int → σ → σ → Prop) (V : List (List Int)) (n : Int) : σ → σ → Prop := if n < 0 then den L (treeOf (V.getD (varK n) [])) else L n
theorem fillL_leaves {σ : Type} {L : Int → σ → σ → Prop} (hL : Leaves L) (V : List (List Int)) : Leaves (fillL L V) := ⟨hL.zero, hL.one⟩
theorem fill_den {σ : Type} (L : Int → σ → σ → Prop) (V : List (List Int)) (hV : GV V) : ∀ (p : KT) (out : List Int), p.ok (-3) = true → fillT p.post V = some out →
    ∃ t : KT, t.ok 0 = true ∧ t.post = out ∧ ∀ s u, den L t s u ↔ den (fillL L V) p s u
  | .leaf n, out, hp, h => by
    simp only [KT.ok, Bool.and_eq_true, decide_eq_true_eq] at hp
    simp only [KT.post, fillT] at h
    split at h
    · rename_i h0
      simp at h
      subst h
      refine ⟨.leaf n, by simp [KT.ok]; omega, rfl, fun s u => ?_⟩
      rw [den_leaf, den_leaf, fillL, if_neg (by omega)]
    · rename_i h0
      split at h
      · cases h
      · rename_i hne
        rw [Option.map_some, List.append_nil] at h
        injection h with h
        rcases hV.all (varK n) with h' | ⟨s, h1, h2, h3⟩
        · exact absurd h' hne
        · refine ⟨s, h1, by rw [h2, h], fun x u => ?_⟩
          rw [den_leaf, fillL, if_pos (by omega), ← h2, treeOf_post h1]
  | .star p, out, hp, h => by
    simp only [KT.ok] at hp
    simp only [KT.post] at h
    rw [fillT_append, Option.bind_eq_some_iff] at h
    obtain ⟨x, h1, h2⟩ := h
    obtain ⟨t, h3, h4, h5⟩ := fill_den L V hV p x hp h1
    simp [fillT] at h2
    subst h2
    refine ⟨.star t, h3, by simp [KT.post, h4], fun s u => ?_⟩
    exact ⟨Star.mono fun _ _ => (h5 _ _).1, Star.mono fun _ _ => (h5 _ _).2⟩
  | .bin q a b, out, hp, h => by
    simp only [KT.ok, Bool.and_eq_true] at hp
    simp only [KT.post] at h
    rw [fillT_append, fillT_append, Option.bind_eq_some_iff] at h
    obtain ⟨y, h0, h2⟩ := h
    rw [Option.bind_eq_some_iff] at h0
    obtain ⟨x, h1, h0⟩ := h0
    rw [Option.map_eq_some_iff] at h0
    obtain ⟨z, h5, rfl⟩ := h0
    obtain ⟨t, h3, h4, h6⟩ := fill_den L V hV a x hp.1 h1
    obtain ⟨t', h3', h4', h6'⟩ := fill_den L V hV b z hp.2 h5
    have hq : (0 : Int) ≤ KT.op q := by cases q <;> simp [KT.op]
    rw [fillT, if_pos hq] at h2
    simp [fillT] at h2
    subst h2
    refine ⟨.bin q t t', by simp [KT.ok, h3, h3'], by simp [KT.post, h4, h4'], fun s u => ?_⟩
    cases q
    · simp only [den_seq, h6, h6']
    · simp only [den_or, h6, h6']

/-- The relations of a list of steps, by a stack. -/
def stkD {σ : Type} (L : Int → σ → σ → Prop) : List KT → List (σ → σ → Prop) := List.map (den L)
theorem pushK_alike {σ : Type} (L : Int → σ → σ → Prop) : ∀ (st st' : List KT) (n : Int), stkD L st = stkD L st' → (pushK n st).map (stkD L) = (pushK n st').map (stkD L) := by
  intro st st' n h
  match st, st' with
  | [], [] => rfl
  | [], _ :: _ => simp [stkD] at h
  | _ :: _, [] => simp [stkD] at h
  | [a], [a'] =>
    simp only [stkD, List.map_cons, List.map_nil, List.cons.injEq, and_true] at h
    simp only [pushK]
    split
    · rfl
    · split <;> simp [stkD, den, h]
  | [_], _ :: _ :: _ => simp [stkD] at h
  | _ :: _ :: _, [_] => simp [stkD] at h
  | a :: b :: r, a' :: b' :: r' =>
    simp only [stkD, List.map_cons, List.cons.injEq] at h
    obtain ⟨h1, h2, h3⟩ := h
    simp only [pushK]
    split
    · simp [stkD, den, h1, h2, h3]
    · split <;> simp [stkD, den, h1, h2, h3]
theorem runK_alike {σ : Type} (L : Int → σ → σ → Prop) : ∀ (e : List Int) (st st' : List KT), stkD L st = stkD L st' → (runK e st).map (stkD L) = (runK e st').map (stkD L)
  | [], st, st', h => by simp [runK, h]
  | n :: e, st, st', h => by
    have hp := pushK_alike L st st' n h
    simp only [runK]
    cases h1 : pushK n st with
    | none =>
      cases h2 : pushK n st' with
      | none => rfl
      | some y => rw [h1, h2] at hp; simp at hp
    | some x =>
      cases h2 : pushK n st' with
      | none => rw [h1, h2] at hp; simp at hp
      | some y =>
        rw [h1, h2] at hp
        simp only [Option.map_some, Option.some.injEq] at hp
        exact runK_alike L e x y hp
/-- A part is put in the place of one that does alike. -/
theorem part_alike {σ : Type} (L : Int → σ → σ → Prop) {pre rest : List Int} {t t' : KT} (ht : t.ok 0 = true) (ht' : t'.ok 0 = true) (hd : ∀ s u, den L t s u ↔ den L t' s u)
    (h1 : katV (pre ++ t.post ++ rest) = true) (h2 : katV (pre ++ t'.post ++ rest) = true) (s u : σ) :
    den L (treeOf (pre ++ t.post ++ rest)) s u ↔ den L (treeOf (pre ++ t'.post ++ rest)) s u := by
  obtain ⟨a, _, ha, hra, _⟩ := katV_tree h1
  obtain ⟨b, _, hb, hrb, _⟩ := katV_tree h2
  have hq : den L t = den L t' := funext fun s => funext fun u => propext (hd s u)
  have key : (runK (pre ++ t.post ++ rest) []).map (stkD L) = (runK (pre ++ t'.post ++ rest) []).map (stkD L) := by
    rw [List.append_assoc, List.append_assoc, runK_append, runK_append]
    cases runK pre [] with
    | none => rfl
    | some st =>
      simp only [Option.bind_some]
      rw [runK_append, runK_append, runK_post 0 t ht, runK_post 0 t' ht']
      simp only [Option.bind_some]
      exact runK_alike L rest _ _ (by simp [stkD, hq])
  rw [hra, hrb] at key
  simp [stkD] at key
  rw [treeOf, treeOf, hra, hrb]
  simp only
  rw [key]
/-- A move changes nothing of what an expression does. -/
theorem moveV_den {σ : Type} {L : Int → σ → σ → Prop} (hL : Leaves L) {e e' : List Int} {m : Mv} (h : moveV e m = some e') (s u : σ) : den L (treeOf e) s u ↔ den L (treeOf e') s u := by
  have hk := (moveV_open h).1
  have hr := (moveV_open h).2.1
  have hn : m.which.toNat < 21 := by simp [isR, inB] at hr; omega
  obtain ⟨k, pre, rest, t, p, q, V, part, hM, _, _, h1, h2, rfl, _, h5⟩ := moveV_some h
  have hV : GV V := matchT_good p t zeroV V hM.ok hM.sz GV.zero h1
  have hf := (match_fill p t zeroV V rfl hM.pok hM.ok h1).2.2
  have hp1 : p = ruleK m.which.toNat (!m.back) := by
    rw [← treeOf_post hM.pok, hM.from_, ← (ruleK_post _ hn _).1, treeOf_post (ruleK_post _ hn _).2]
  have hq1 := (ruleK_post _ hn m.back)
  obtain ⟨t1, a1, a2, a3⟩ := fill_den L V hV p t.post hM.pok hf
  rw [hM.to_, ← hq1.1] at h2
  obtain ⟨t2, b1, b2, b3⟩ := fill_den L V hV _ part hq1.2 h2
  have ht1 : t1 = t := by rw [← treeOf_post a1, a2, treeOf_post hM.ok]
  subst ht1
  have hd : ∀ s u, den L t1 s u ↔ den L t2 s u := by
    intro s u
    rw [a3, b3, hp1]
    have := den_rule (fillL_leaves hL V) _ hn s u
    cases m.back
    · exact this
    · exact this.symm
  rw [hM.eq] at hk ⊢
  rw [← b2] at h5 ⊢
  exact part_alike L hM.ok b1 hd hk h5 s u
theorem runM_den {σ : Type} {L : Int → σ → σ → Prop} (hL : Leaves L) : ∀ (ms : List Mv) (e x : List Int), runM e ms = some x → ∀ s u, den L (treeOf e) s u ↔ den L (treeOf x) s u
  | [], e, x, h, s, u => by simp [runM] at h; rw [h]
  | m :: ms, e, x, h, s, u => by
    simp only [runM, Option.bind_eq_some_iff] at h
    obtain ⟨y, h1, h2⟩ := h
    rw [moveV_den hL h1, runM_den hL ms y x h2]
theorem proofV_den {σ : Type} {L : Int → σ → σ → Prop} (hL : Leaves L) {ms : List Mv} {e x : List Int} (h : proofV e ms = some x) (s u : σ) : den L (treeOf e) s u ↔ den L (treeOf x) s u := by
  unfold proofV at h
  split at h
  · exact runM_den hL ms e x h s u
  · cases h
theorem simpE_den {σ : Type} {L : Int → σ → σ → Prop} (hL : Leaves L) {e : List Int} (h : katV e = true) (s u : σ) : den L (treeOf e) s u ↔ den L (treeOf (simpE e)) s u := by
  have := proofV_den hL (proofV_simpM h) s u
  simp only [simpE, h, if_true]
  exact this
end

section

/-- The number with the bits below n at which something holds. -/
noncomputable def bitsN : Nat → (Nat → Prop) → Nat
  | 0, _ => 0
  | n + 1, p => bitsN n p + (open Classical in if p n then 2 ^ n else 0)
theorem bitsN_lt (p : Nat → Prop) : ∀ n, bitsN n p < 2 ^ n
  | 0 => by simp [bitsN]
  | n + 1 => by
    have := bitsN_lt p n
    rw [bitsN, Nat.pow_succ]
    split <;> omega
theorem bitsN_bit (p : Nat → Prop) (k : Nat) : ∀ n, (bitsN n p).testBit k = true ↔ k < n ∧ p k
  | 0 => by simp [bitsN]
  | n + 1 => by
    have hlt := bitsN_lt p n
    have ih := bitsN_bit p k n
    rw [bitsN]
    by_cases hp : p n
    · rw [if_pos hp]
      by_cases hk : k = n
      · subst hk
        rw [Nat.add_comm, Nat.testBit_two_pow_add_eq, Nat.testBit_lt_two_pow hlt]
        simp [hp]
      · by_cases hkn : k < n
        · rw [Nat.add_comm, Nat.testBit_two_pow_add_gt hkn, ih]
          constructor
          · rintro ⟨_, h⟩; exact ⟨by omega, h⟩
          · rintro ⟨_, h⟩; exact ⟨by omega, h⟩
        · have h2 : bitsN n p + 2 ^ n < 2 ^ k := Nat.lt_of_lt_of_le (by rw [Nat.pow_succ]; omega : _ < 2 ^ (n + 1)) (Nat.pow_le_pow_right (by omega) (by omega))
          rw [Nat.testBit_lt_two_pow h2]
          constructor
          · intro h; cases h
          · rintro ⟨h, _⟩; omega
    · rw [if_neg hp, Nat.add_zero, ih]
      constructor
      · rintro ⟨_, h⟩; exact ⟨by omega, h⟩
      · rintro ⟨_, h⟩
        refine ⟨?_, h⟩
        by_cases hk : k = n
        · subst hk; exact absurd h hp
        · omega
theorem bitsN_eq {n x : Nat} {p : Nat → Prop} (hx : x < 2 ^ n) (h : ∀ k, k < n → (x.testBit k = true ↔ p k)) : x = bitsN n p := by
  apply Nat.eq_of_testBit_eq
  intro k
  rw [Bool.eq_iff_iff, bitsN_bit]
  by_cases hk : k < n
  · simp [h k hk, hk]
  · rw [Nat.testBit_lt_two_pow (Nat.lt_of_lt_of_le hx (Nat.pow_le_pow_right (by omega) (by omega)))]
    simp [hk]
theorem bitsN_congr {n : Nat} {p q : Nat → Prop} (h : ∀ k, k < n → (p k ↔ q k)) : bitsN n p = bitsN n q :=
  bitsN_eq (bitsN_lt p n) fun k hk => by rw [bitsN_bit]; simp [hk, h k hk]

/-- A model. -/
structure Mo where
  n : Int
  p : Int
  q : Int
  acts : List (List Int)
def isSetB (n x : Int) : Bool := decide (0 ≤ x) && decide (x < 2 ^ n.toNat)
def rowsB (n : Int) (r : List Int) : Bool := inB n 1 5 && decide ((r.length : Int) = n) && r.all (isSetB n)
def modB (M : Mo) : Bool := inB M.n 1 5 && isSetB M.n M.p && isSetB M.n M.q && decide (M.acts.length = 3) && M.acts.all (rowsB M.n)
def atomN (M : Mo) (s : Nat) : Nat := (M.p.toNat >>> s) % 2 + 2 * ((M.q.toNat >>> s) % 2)
theorem atomN_lt (M : Mo) (s : Nat) : atomN M s < 4 := by unfold atomN; omega
/-- Where a model's step leads. -/
def leafM (M : Mo) (a : Int) (s t : Nat) : Prop :=
  if a ≤ 15 then s = t ∧ a.toNat.testBit (atomN M s) = true else ((M.acts.getD (a - 16).toNat []).getD s 0).toNat.testBit t = true
theorem fifteen_bit : ∀ k, k < 4 → (15 : Nat).testBit k = true := by decide
theorem leafM_leaves (M : Mo) : Leaves (leafM M) := ⟨fun s t => by simp [leafM], fun s t => by
  have := fifteen_bit _ (atomN_lt M s)
  simp [leafM, this]⟩
/-- The rows of a relation on the states below n. -/
noncomputable def rowsR (n : Nat) (R : Nat → Nat → Prop) : List Int := (List.range n).map fun s => ((bitsN n (R s) : Nat) : Int)
theorem rowsR_length (n : Nat) (R : Nat → Nat → Prop) : (rowsR n R).length = n := by simp [rowsR]
theorem rowsR_get (n : Nat) (R : Nat → Nat → Prop) (s : Nat) (h : s < (rowsR n R).length) : (rowsR n R)[s] = ((bitsN n (R s) : Nat) : Int) := by simp [rowsR]
theorem rowsR_congr {n : Nat} {R S : Nat → Nat → Prop} (h : ∀ s t, s < n → t < n → (R s t ↔ S s t)) : rowsR n R = rowsR n S := by
  apply List.map_congr_left
  intro s hs
  rw [bitsN_congr (h s · (by simpa using hs))]
noncomputable def rowsV (M : Mo) (e : List Int) : List Int := if modB M && katV e then rowsR M.n.toNat (den (leafM M) (treeOf e)) else []
theorem rowsV_same {M : Mo} {e f : List Int} (he : katV e = katV f) (h : katV e = true → ∀ s t, den (leafM M) (treeOf e) s t ↔ den (leafM M) (treeOf f) s t) : rowsV M e = rowsV M f := by
  unfold rowsV
  rw [← he]
  split
  · rename_i hc
    simp only [Bool.and_eq_true] at hc
    exact rowsR_congr fun s t _ _ => h hc.2 s t
  · rfl
theorem rowsV_proof {M : Mo} {e x : List Int} {ms : List Mv} (h : proofV e ms = some x) : rowsV M e = rowsV M x := by
  have hk : katV e = true := by
    unfold proofV at h
    split at h
    · rename_i hc; simp only [Bool.and_eq_true] at hc; exact hc.1
    · cases h
  exact rowsV_same (by rw [hk, proofV_kat h]) fun _ => proofV_den (leafM_leaves M) h
theorem rowsV_simp {M : Mo} {e : List Int} (h : katV e = true) : rowsV M e = rowsV M (simpE e) :=
  rowsV_same (by rw [h, simpE_kat h]) fun _ => simpE_den (leafM_leaves M) h
theorem rowsV_move {M : Mo} {e x : List Int} {m : Mv} (h : moveV e m = some x) : rowsV M e = rowsV M x :=
  rowsV_same (by rw [(moveV_open h).1, moveV_kat' h]) fun _ => moveV_den (leafM_leaves M) h

/-! Bits of numbers that are put together. -/
theorem or_add_and : ∀ (n a b : Nat), a < 2 ^ n → (a ||| b) + (a &&& b) = a + b
  | 0, a, b, h => by
    have : a = 0 := by simpa using h
    subst this
    simp
  | n + 1, a, b, h => by
    have ih := or_add_and n (a / 2) (b / 2) (by rw [Nat.pow_succ] at h; omega)
    have h1 : (a ||| b) / 2 = a / 2 ||| b / 2 := Nat.or_div_two
    have h2 : (a &&& b) / 2 = a / 2 &&& b / 2 := Nat.and_div_two
    have h3 : (a ||| b) % 2 + (a &&& b) % 2 = a % 2 + b % 2 := by
      have x1 := @Nat.or_mod_two_eq_one a b
      have x2 := @Nat.and_mod_two_eq_one a b
      have := Nat.mod_two_eq_zero_or_one a
      have := Nat.mod_two_eq_zero_or_one b
      have := Nat.mod_two_eq_zero_or_one (a ||| b)
      have := Nat.mod_two_eq_zero_or_one (a &&& b)
      omega
    omega
/-- The image of a set under rows, the first k of them. -/
def imgT (rows : List Int) (set : Nat) : Nat → Nat
  | 0 => 0
  | k + 1 => if set.testBit k then imgT rows set k ||| (rows.getD k 0).toNat else imgT rows set k
theorem imgT_bit (rows : List Int) (set t : Nat) : ∀ k, (imgT rows set k).testBit t = true ↔ ∃ s, s < k ∧ set.testBit s = true ∧ ((rows.getD s 0).toNat).testBit t = true
  | 0 => by simp [imgT]
  | k + 1 => by
    have ih := imgT_bit rows set t k
    rw [imgT]
    split
    · rename_i hb
      rw [Nat.testBit_or, Bool.or_eq_true, ih]
      constructor
      · rintro (⟨s, h1, h2, h3⟩ | h)
        · exact ⟨s, by omega, h2, h3⟩
        · exact ⟨k, by omega, hb, h⟩
      · rintro ⟨s, h1, h2, h3⟩
        by_cases hs : s = k
        · subst hs; exact .inr h3
        · exact .inl ⟨s, by omega, h2, h3⟩
    · rename_i hb
      rw [ih]
      constructor
      · rintro ⟨s, h1, h2, h3⟩; exact ⟨s, by omega, h2, h3⟩
      · rintro ⟨s, h1, h2, h3⟩
        by_cases hs : s = k
        · subst hs; exact absurd h2 hb
        · exact ⟨s, by omega, h2, h3⟩
theorem imgT_lt {rows : List Int} {n : Nat} (h : ∀ s (hs : s < rows.length), rows[s].toNat < 2 ^ n) (set : Nat) : ∀ k, imgT rows set k < 2 ^ n
  | 0 => Nat.two_pow_pos n
  | k + 1 => by
    have ih := imgT_lt h set k
    rw [imgT]
    split
    · apply Nat.or_lt_two_pow ih
      by_cases hk : k < rows.length
      · simp only [List.getD, List.getElem?_eq_getElem hk, Option.getD_some]; exact h k hk
      · simp only [List.getD, List.getElem?_eq_none (Nat.le_of_not_lt hk), Option.getD_none]; exact Nat.two_pow_pos n
    · exact ih
/-- Rows lead where their relation leads. -/
theorem imgT_rows {n : Nat} {R : Nat → Nat → Prop} {rows : List Int} (hr : rows = rowsR n R) (set : Nat) : imgT rows set n = bitsN n fun t => ∃ s, s < n ∧ set.testBit s = true ∧ R s t := by
  subst hr
  refine bitsN_eq (imgT_lt (fun s hs => ?_) set n) fun t ht => ?_
  · rw [rowsR_get]; exact bitsN_lt _ n
  · rw [imgT_bit]
    refine exists_congr fun s => ?_
    constructor
    · rintro ⟨h1, h2, h3⟩
      have hs : s < (rowsR n R).length := by rw [rowsR_length]; exact h1
      simp only [List.getD, List.getElem?_eq_getElem hs, Option.getD_some, rowsR_get, Int.toNat_natCast, bitsN_bit] at h3
      exact ⟨h1, h2, h3.2⟩
    · rintro ⟨h1, h2, h3⟩
      have hs : s < (rowsR n R).length := by rw [rowsR_length]; exact h1
      simp only [List.getD, List.getElem?_eq_getElem hs, Option.getD_some, rowsR_get, Int.toNat_natCast, bitsN_bit]
      exact ⟨h1, h2, ht, h3⟩
/-- Every list of rows of a model is that of a relation. -/
def relOf (rows : List Int) (s t : Nat) : Prop := ((rows.getD s 0).toNat).testBit t = true
theorem rows_rel {n : Int} {rows : List Int} (h : rowsB n rows = true) : rows = rowsR n.toNat (relOf rows) := by
  simp only [rowsB, Bool.and_eq_true, decide_eq_true_eq, List.all_eq_true] at h
  obtain ⟨⟨h1, h2⟩, h3⟩ := h
  apply List.ext_getElem
  · rw [rowsR_length]; omega
  · intro s hs hs'
    rw [rowsR_get]
    have hx := h3 _ (List.getElem_mem hs)
    simp only [isSetB, Bool.and_eq_true, decide_eq_true_eq] at hx
    have e : rows[s].toNat = bitsN n.toNat (relOf rows s) := bitsN_eq (by
      have := hx.2
      have h0 : ((rows[s].toNat : Nat) : Int) < ((2 ^ n.toNat : Nat) : Int) := by rw [Int.toNat_of_nonneg hx.1]; push_cast; exact this
      exact_mod_cast h0) fun t _ => by simp [relOf, List.getD, List.getElem?_eq_getElem hs]
    rw [← e, Int.toNat_of_nonneg hx.1]

/-! The relations of a valid model stay among its states. -/
def Closed (n : Nat) (R : Nat → Nat → Prop) : Prop := ∀ s t, s < n → R s t → t < n
theorem Closed.star {n : Nat} {R : Nat → Nat → Prop} (h : Closed n R) : Closed n (Star R) := by
  intro s t hs hst
  induction hst with
  | refl => exact hs
  | step h1 _ ih => exact ih (h _ _ hs h1)
theorem rowsB_acts {M : Mo} (h : modB M = true) {k : Nat} (hk : k < 3) : rowsB M.n (M.acts.getD k []) = true ∧ k < M.acts.length := by
  simp only [modB, Bool.and_eq_true, decide_eq_true_eq, List.all_eq_true] at h
  obtain ⟨⟨_, h3⟩, h4⟩ := h
  have hk' : k < M.acts.length := by omega
  refine ⟨?_, hk'⟩
  simp only [List.getD, List.getElem?_eq_getElem hk', Option.getD_some]
  exact h4 _ (List.getElem_mem hk')
theorem rowsB_lt {n : Int} {rows : List Int} (h : rowsB n rows = true) : ∀ s (hs : s < rows.length), rows[s].toNat < 2 ^ n.toNat := by
  intro s hs
  have hr := rows_rel h
  have : rows[s] = ((bitsN n.toNat (relOf rows s) : Nat) : Int) := by
    have := rowsR_get n.toNat (relOf rows) s (by rw [← hr]; exact hs)
    rw [← this]
    congr 1
  rw [this, Int.toNat_natCast]
  exact bitsN_lt _ _
theorem relOf_closed {n : Int} {rows : List Int} (h : rowsB n rows = true) : Closed n.toNat (relOf rows) := by
  intro s t _ hst
  unfold relOf at hst
  by_cases hs : s < rows.length
  · simp only [List.getD, List.getElem?_eq_getElem hs, Option.getD_some] at hst
    refine Nat.lt_of_not_le fun hle => ?_
    rw [Nat.testBit_lt_two_pow (Nat.lt_of_lt_of_le (rowsB_lt h s hs) (Nat.pow_le_pow_right (by omega) hle))] at hst
    cases hst
  · simp [List.getD, List.getElem?_eq_none (Nat.le_of_not_lt hs)] at hst
theorem leafM_test {M : Mo} {a : Int} (h : a ≤ 15) (s t : Nat) : leafM M a s t ↔ s = t ∧ a.toNat.testBit (atomN M s) = true := by rw [leafM, if_pos h]
theorem leafM_act {M : Mo} {a : Int} (h : 15 < a) (s t : Nat) : leafM M a s t ↔ relOf (M.acts.getD (a - 16).toNat []) s t := by rw [leafM, if_neg (by omega)]; rfl
theorem den_closed {M : Mo} (h : modB M = true) : ∀ (k : KT), k.ok 0 = true → Closed M.n.toNat (den (leafM M) k)
  | .leaf a, hk => by
    simp only [KT.ok, Bool.and_eq_true, decide_eq_true_eq] at hk
    intro s t hs hst
    rw [den_leaf] at hst
    by_cases ha : a ≤ 15
    · rw [leafM_test ha] at hst
      omega
    · rw [leafM_act (by omega)] at hst
      exact relOf_closed (rowsB_acts h (k := (a - 16).toNat) (by omega)).1 s t hs hst
  | .star k, hk => (den_closed h k hk).star
  | .bin p a b, hk => by
    simp only [KT.ok, Bool.and_eq_true] at hk
    have ha := den_closed h a hk.1
    have hb := den_closed h b hk.2
    intro s t hs hst
    cases p
    · rw [den_seq] at hst
      obtain ⟨u, h1, h2⟩ := hst
      exact hb u t (ha s u hs h1) h2
    · rw [den_or] at hst
      exact hst.elim (ha s t hs) (hb s t hs)
theorem img_seq {n : Nat} {R S : Nat → Nat → Prop} {rows : List Int} (hR : Closed n R) (hr : rows = rowsR n S) {s : Nat} (hs : s < n) :
    imgT rows (bitsN n (R s)) n = bitsN n fun t => ∃ u, R s u ∧ S u t := by
  rw [imgT_rows hr]
  refine bitsN_congr fun t _ => exists_congr fun u => ?_
  rw [bitsN_bit]
  constructor
  · rintro ⟨_, ⟨_, h1⟩, h2⟩; exact ⟨h1, h2⟩
  · rintro ⟨h1, h2⟩; exact ⟨hR s u hs h1, ⟨hR s u hs h1, h1⟩, h2⟩
theorem or_rows (n : Nat) (p q : Nat → Prop) : bitsN n p ||| bitsN n q = bitsN n fun t => p t ∨ q t := by
  refine bitsN_eq (Nat.or_lt_two_pow (bitsN_lt p n) (bitsN_lt q n)) fun t ht => ?_
  rw [Nat.testBit_or, Bool.or_eq_true, bitsN_bit, bitsN_bit]
  simp [ht]
/-- A set on its way to all that is reached. -/
structure Way (n : Nat) (R : Nat → Nat → Prop) (k set : Nat) : Prop where
  lt : set < 2 ^ n
  self : set.testBit k = true
  reach : ∀ t, set.testBit t = true → Star R k t
theorem Way.start {n : Nat} {R : Nat → Nat → Prop} {k : Nat} (hk : k < n) : Way n R k (2 ^ k) where
  lt := Nat.pow_lt_pow_right (by omega) hk
  self := by simp
  reach := fun t ht => by
    rw [Nat.testBit_two_pow] at ht
    rw [of_decide_eq_true ht]
    exact .refl _
theorem Way.next {n : Nat} {R : Nat → Nat → Prop} {rows : List Int} (hr : rows = rowsR n R) {k set : Nat} (h : Way n R k set) : Way n R k (set ||| imgT rows set n) where
  lt := Nat.or_lt_two_pow h.lt (by rw [imgT_rows hr]; exact bitsN_lt _ _)
  self := by rw [Nat.testBit_or, h.self]; rfl
  reach := fun t ht => by
    rw [Nat.testBit_or, Bool.or_eq_true, imgT_rows hr, bitsN_bit] at ht
    rcases ht with ht | ⟨_, s, _, h2, h3⟩
    · exact h.reach t ht
    · exact (h.reach s h2).trans (.one h3)
theorem Way.done {n : Nat} {R : Nat → Nat → Prop} {rows : List Int} (hr : rows = rowsR n R) (hR : Closed n R) {k set : Nat} (hk : k < n) (h : Way n R k set) (he : set ||| imgT rows set n = set) : set = bitsN n (Star R k) := by
  refine bitsN_eq h.lt fun t _ => ⟨h.reach t, fun hs => ?_⟩
  have key : ∀ s t, Star R s t → s < n → set.testBit s = true → set.testBit t = true := by
    intro s t hst
    induction hst with
    | refl => exact fun _ h => h
    | @step s u t h1 _ ih =>
      intro hs hb
      refine ih (hR _ _ hs h1) ?_
      rw [← he, Nat.testBit_or, Bool.or_eq_true, imgT_rows hr, bitsN_bit]
      exact .inr ⟨hR _ _ hs h1, s, hs, hb, h1⟩
  exact key k t hs hk h.self
theorem or_grows {a b : Nat} (h : a ||| b ≠ a) : a < a ||| b := by
  have := @Nat.left_le_or a b
  omega
end

section

/-! Programs, by themselves. -/
inductive PT where
  | one (w : Int)
  | seq (a b : PT)
  | ite (t : Int) (a b : PT)
  | wh (t : Int) (a : PT)
def PT.post : PT → List Int
  | .one w => [w]
  | .seq a b => a.post ++ b.post ++ [30]
  | .ite t a b => a.post ++ b.post ++ [100 + t]
  | .wh t a => a.post ++ [200 + t]
def PT.ok : PT → Bool
  | .one w => inB w 15 18
  | .seq a b => a.ok && b.ok
  | .ite t a b => inB t 0 15 && a.ok && b.ok
  | .wh t a => inB t 0 15 && a.ok
/-- The expression of a program. -/
def PT.kat : PT → KT
  | .one w => .leaf w
  | .seq a b => .bin false a.kat b.kat
  | .ite t a b => .bin true (.bin false (.leaf t) a.kat) (.bin false (.leaf (15 - t)) b.kat)
  | .wh t a => .bin false (.star (.bin false (.leaf t) a.kat)) (.leaf (15 - t))
theorem PT.kat_ok : ∀ {T : PT}, T.ok = true → T.kat.ok 0 = true
  | .one w, h => by simp [PT.ok, inB] at h; simp [PT.kat, KT.ok]; omega
  | .seq a b, h => by
    simp only [PT.ok, Bool.and_eq_true] at h
    simp [PT.kat, KT.ok, PT.kat_ok h.1, PT.kat_ok h.2]
  | .ite t a b, h => by
    simp only [PT.ok, Bool.and_eq_true, inB, decide_eq_true_eq] at h
    simp [PT.kat, KT.ok, PT.kat_ok h.1.2, PT.kat_ok h.2]
    omega
  | .wh t a, h => by
    simp only [PT.ok, Bool.and_eq_true, inB, decide_eq_true_eq] at h
    simp [PT.kat, KT.ok, PT.kat_ok h.2]
    omega
/-- The code of a program that begins at an instruction, without an end. -/
def PT.code : PT → Nat → List In3
  | .one w, _ => if w = 15 then [] else [⟨0, w, 0⟩]
  | .seq a b, n => a.code n ++ b.code (n + (a.code n).length)
  | .ite t a b, n => [⟨1, t, ((n + (a.code (n + 1)).length + 2 : Nat) : Int)⟩] ++ a.code (n + 1) ++ [⟨2, 0, ((n + (a.code (n + 1)).length + 2 + (b.code (n + (a.code (n + 1)).length + 2)).length : Nat) : Int)⟩] ++ b.code (n + (a.code (n + 1)).length + 2)
  | .wh t a, n => [⟨1, t, ((n + (a.code (n + 1)).length + 2 : Nat) : Int)⟩] ++ a.code (n + 1) ++ [⟨2, 0, (n : Int)⟩]

/-- A model in which every action leads to one state, as a machine. -/
structure Sure (L : Int → Nat → Nat → Prop) (M : Mach) (m : Nat) : Prop where
  act : ∀ a s t, 16 ≤ a → a ≤ 18 → s < m → (L a s t ↔ t = M.act a s)
  tst : ∀ a s t, 0 ≤ a → a ≤ 15 → (L a s t ↔ s = t ∧ M.tst a s = true)
  not : ∀ a s, 0 ≤ a → a ≤ 15 → M.tst (15 - a) s = !M.tst a s
  one : ∀ s, M.tst 15 s = true
  inn : M.In m
theorem Sure.closed {L : Int → Nat → Nat → Prop} {M : Mach} {m : Nat} (h : Sure L M m) : ∀ {T : PT}, T.ok = true → Closed m (den L T.kat)
  | .one w, hk => by
    simp only [PT.ok, inB, Bool.and_eq_true, decide_eq_true_eq] at hk
    intro s t hs hst
    simp only [PT.kat, den_leaf] at hst
    by_cases hw : w = 15
    · subst hw
      rw [h.tst _ _ _ (by omega) (by omega)] at hst
      omega
    · rw [h.act _ _ _ (by omega) (by omega) hs] at hst
      rw [hst]
      exact h.inn _ _ (by omega) (by omega) hs
  | .seq a b, hk => by
    simp only [PT.ok, Bool.and_eq_true] at hk
    intro s t hs hst
    simp only [PT.kat, den_seq] at hst
    obtain ⟨u, h1, h2⟩ := hst
    exact h.closed hk.2 u t (h.closed hk.1 s u hs h1) h2
  | .ite c a b, hk => by
    simp only [PT.ok, Bool.and_eq_true, inB, decide_eq_true_eq] at hk
    intro s t hs hst
    simp only [PT.kat, den_seq, den_or, den_leaf] at hst
    rcases hst with ⟨u, h1, h2⟩ | ⟨u, h1, h2⟩
    · rw [h.tst _ _ _ (by omega) (by omega)] at h1
      exact h.closed hk.1.2 u t (by omega) h2
    · rw [h.tst _ _ _ (by omega) (by omega)] at h1
      exact h.closed hk.2 u t (by omega) h2
  | .wh c a, hk => by
    simp only [PT.ok, Bool.and_eq_true, inB, decide_eq_true_eq] at hk
    intro s t hs hst
    simp only [PT.kat, den_seq, den_star] at hst
    obtain ⟨u, h1, h2⟩ := hst
    rw [den_leaf, h.tst _ _ _ (by omega) (by omega)] at h2
    have : Closed m (den L (.bin false (.leaf c) a.kat)) := by
      intro s t hs hst
      rw [den_seq] at hst
      obtain ⟨u, h1, h2⟩ := hst
      rw [den_leaf, h.tst _ _ _ (by omega) (by omega)] at h1
      exact h.closed hk.2 u t (by omega) h2
    have := this.star s u hs h1
    omega
/-- A program leads to one state at most. -/
theorem Sure.det {L : Int → Nat → Nat → Prop} {M : Mach} {m : Nat} (h : Sure L M m) : ∀ {T : PT}, T.ok = true → ∀ {s t u : Nat}, s < m → den L T.kat s t → den L T.kat s u → t = u
  | .one w, hk, s, t, u, hs, h1, h2 => by
    simp only [PT.ok, inB, Bool.and_eq_true, decide_eq_true_eq] at hk
    simp only [PT.kat, den_leaf] at h1 h2
    by_cases hw : w = 15
    · subst hw
      rw [h.tst _ _ _ (by omega) (by omega)] at h1 h2
      omega
    · rw [h.act _ _ _ (by omega) (by omega) hs] at h1 h2
      rw [h1, h2]
  | .seq a b, hk, s, t, u, hs, h1, h2 => by
    simp only [PT.ok, Bool.and_eq_true] at hk
    simp only [PT.kat, den_seq] at h1 h2
    obtain ⟨x, a1, a2⟩ := h1
    obtain ⟨y, b1, b2⟩ := h2
    have hx := h.closed hk.1 s x hs a1
    have := h.det hk.1 hs a1 b1
    subst this
    exact h.det hk.2 hx a2 b2
  | .ite c a b, hk, s, t, u, hs, h1, h2 => by
    simp only [PT.ok, Bool.and_eq_true, inB, decide_eq_true_eq] at hk
    simp only [PT.kat, den_seq, den_or, den_leaf, h.tst c _ _ hk.1.1.1 hk.1.1.2, h.tst (15 - c) _ _ (by omega) (by omega), h.not c _ hk.1.1.1 hk.1.1.2] at h1 h2
    rcases h1 with ⟨x, ⟨rfl, g⟩, a2⟩ | ⟨x, ⟨rfl, g⟩, a2⟩ <;> rcases h2 with ⟨y, ⟨rfl, g'⟩, b2⟩ | ⟨y, ⟨rfl, g'⟩, b2⟩
    · exact h.det hk.1.2 hs a2 b2
    · rw [g] at g'; cases g'
    · rw [g'] at g; cases g
    · exact h.det hk.2 hs a2 b2
  | .wh c a, hk, s, t, u, hs, h1, h2 => by
    simp only [PT.ok, Bool.and_eq_true, inB, decide_eq_true_eq] at hk
    simp only [PT.kat, den_seq, den_star] at h1 h2
    obtain ⟨x, a1, a2⟩ := h1
    obtain ⟨y, b1, b2⟩ := h2
    rw [den_leaf, h.tst (15 - c) _ _ (by omega) (by omega), h.not c _ hk.1.1 hk.1.2] at a2 b2
    obtain ⟨rfl, a2⟩ := a2
    obtain ⟨rfl, b2⟩ := b2
    induction a1 with
    | refl =>
      cases b1 with
      | refl => rfl
      | step g _ =>
        rw [den_seq] at g
        obtain ⟨v, g1, _⟩ := g
        rw [den_leaf, h.tst c _ _ hk.1.1 hk.1.2] at g1
        rw [g1.2] at a2
        cases a2
    | step g g' ih =>
      rw [den_seq] at g
      obtain ⟨v, g1, g2⟩ := g
      rw [den_leaf, h.tst c _ _ hk.1.1 hk.1.2] at g1
      obtain ⟨rfl, g1⟩ := g1
      cases b1 with
      | refl => rw [g1] at b2; cases b2
      | step k k' =>
        rw [den_seq] at k
        obtain ⟨v', k1, k2⟩ := k
        rw [den_leaf, h.tst c _ _ hk.1.1 hk.1.2] at k1
        obtain ⟨rfl, k1⟩ := k1
        have hq := h.closed hk.2 _ _ hs g2
        have := h.det hk.2 hs g2 k2
        subst this
        exact ih hq k' a2
/-- A loop never ends in a state in which its test holds. -/
theorem Sure.loop {L : Int → Nat → Nat → Prop} {M : Mach} {m : Nat} (h : Sure L M m) {c : Int} {a : PT} (hk : (PT.wh c a).ok = true) {s t : Nat} (h1 : den L (PT.wh c a).kat s t) : M.tst c t = false := by
  simp only [PT.ok, Bool.and_eq_true, inB, decide_eq_true_eq] at hk
  simp only [PT.kat, den_seq, den_star] at h1
  obtain ⟨x, _, a2⟩ := h1
  rw [den_leaf, h.tst (15 - c) _ _ (by omega) (by omega), h.not c _ hk.1.1 hk.1.2] at a2
  obtain ⟨rfl, a2⟩ := a2
  simpa using a2

/-! The machine does what the program says. -/
def Steps (M : Mach) (c : List In3) : Nat × Nat → Nat × Nat → Prop := Star fun p q => stepC M c p = some q
theorem Steps.run {M : Mach} {c : List In3} {p q : Nat × Nat} (h : Steps M c p q) {f : Nat} {r : (Nat × Nat) × Nat} (hr : runS (stepC M c) f q = some r) : ∃ f' k, runS (stepC M c) f' p = some (r.1, k) := by
  induction h with
  | refl => exact ⟨f, r.2, hr⟩
  | step h1 _ ih =>
    obtain ⟨f', k, h2⟩ := ih hr
    exact ⟨f' + 1, k + 1, by rw [runS_step h1, h2]; rfl⟩
/-- The code of T lies in c from n on. -/
def Lies (c : List In3) (n : Nat) (l : List In3) : Prop := ∀ i (h : i < l.length), insAt c (n + i) = l[i]
theorem Lies.left {c l m : List In3} {n : Nat} (h : Lies c n (l ++ m)) : Lies c n l := fun i hi => by
  rw [h i (by simp; omega), List.getElem_append_left hi]
theorem Lies.right {c l m : List In3} {n : Nat} (h : Lies c n (l ++ m)) : Lies c (n + l.length) m := fun i hi => by
  have := h (l.length + i) (by simp; omega)
  rw [show n + l.length + i = n + (l.length + i) by omega, this, List.getElem_append_right (by omega)]
  simp
theorem Lies.head {c l : List In3} {x : In3} {n : Nat} (h : Lies c n (x :: l)) : insAt c n = x := by
  have := h 0 (by simp)
  rw [Nat.add_zero] at this
  exact this

theorem code_fwd {L : Int → Nat → Nat → Prop} {M : Mach} {m : Nat} (h : Sure L M m) {c : List In3} : ∀ {T : PT}, T.ok = true → ∀ {n s t : Nat}, s < m → Lies c n (T.code n) → den L T.kat s t → Steps M c (n, s) (n + (T.code n).length, t)
  | .one w, hk, n, s, t, hs, hl, hd => by
    simp only [PT.ok, inB, Bool.and_eq_true, decide_eq_true_eq] at hk
    simp only [PT.kat, den_leaf] at hd
    by_cases hw : w = 15
    · subst hw
      rw [h.tst _ _ _ (by omega) (by omega)] at hd
      rw [hd.1]
      simp [PT.code]
      exact .refl _
    · rw [h.act _ _ _ (by omega) (by omega) hs] at hd
      simp only [PT.code, if_neg hw] at hl ⊢
      exact .one (by simp [stepC, hl.head, hd])
  | .seq a b, hk, n, s, t, hs, hl, hd => by
    simp only [PT.ok, Bool.and_eq_true] at hk
    simp only [PT.kat, den_seq] at hd
    obtain ⟨u, h1, h2⟩ := hd
    simp only [PT.code] at hl ⊢
    have g1 := code_fwd h hk.1 hs hl.left h1
    have g2 := code_fwd h hk.2 (h.closed hk.1 s u hs h1) hl.right h2
    rw [List.length_append, ← Nat.add_assoc]
    exact Star.trans g1 g2
  | .ite x a b, hk, n, s, t, hs, hl, hd => by
    simp only [PT.ok, Bool.and_eq_true, inB, decide_eq_true_eq] at hk
    simp only [PT.kat, den_seq, den_or, den_leaf, h.tst x _ _ hk.1.1.1 hk.1.1.2, h.tst (15 - x) _ _ (by omega) (by omega), h.not x _ hk.1.1.1 hk.1.1.2] at hd
    simp only [PT.code] at hl ⊢
    have l1 := hl.left.left.left.head
    have l2 : Lies c (n + 1) (a.code (n + 1)) := hl.left.left.right
    have l3 := hl.left.right.head
    have l4 := hl.right
    simp only [List.length_append, List.length_cons, List.length_nil] at l3 l4 ⊢
    rcases hd with ⟨_, ⟨rfl, g⟩, hd⟩ | ⟨_, ⟨rfl, g⟩, hd⟩
    · refine .step (u := (n + 1, s)) (by simp only [stepC, l1, g, Int.toNat_natCast]; simp) ?_
      refine Star.trans (code_fwd h hk.1.2 hs l2 hd) (.one ?_)
      rw [show n + 1 + (a.code (n + 1)).length = n + (0 + 1 + (a.code (n + 1)).length) by omega]
      simp only [stepC, l3, Int.toNat_natCast]
      simp
      omega
    · have g : M.tst x s = false := by simpa using g
      refine .step (u := (n + (a.code (n + 1)).length + 2, s)) (by simp only [stepC, l1, g, Int.toNat_natCast]; simp) ?_
      have e : n + (0 + 1 + (a.code (n + 1)).length + (0 + 1)) = n + (a.code (n + 1)).length + 2 := by omega
      rw [e] at l4
      have := code_fwd h hk.2 hs l4 hd
      rw [show n + (0 + 1 + (a.code (n + 1)).length + (0 + 1) + (b.code (n + (a.code (n + 1)).length + 2)).length) = n + (a.code (n + 1)).length + 2 + (b.code (n + (a.code (n + 1)).length + 2)).length by omega]
      exact this
  | .wh x a, hk, n, s, t, hs, hl, hd => by
    simp only [PT.ok, Bool.and_eq_true, inB, decide_eq_true_eq] at hk
    simp only [PT.kat, den_seq, den_star] at hd
    simp only [PT.code] at hl ⊢
    have l1 := hl.left.left.head
    have l2 : Lies c (n + 1) (a.code (n + 1)) := hl.left.right
    have l3 := hl.right.head
    simp only [List.length_append, List.length_cons, List.length_nil] at l3 ⊢
    obtain ⟨u, h1, h2⟩ := hd
    rw [den_leaf, h.tst (15 - x) _ _ (by omega) (by omega), h.not x _ hk.1.1 hk.1.2] at h2
    obtain ⟨rfl, h2⟩ := h2
    replace h2 : M.tst x u = false := by simpa using h2
    induction h1 with
    | refl => exact .one (by simp only [stepC, l1, h2, Int.toNat_natCast]; simp; omega)
    | @step s0 s1 s2 g g' ih =>
      rw [den_seq] at g
      obtain ⟨v, g1, g2⟩ := g
      rw [den_leaf, h.tst x _ _ hk.1.1 hk.1.2] at g1
      obtain ⟨rfl, g1⟩ := g1
      refine .step (u := (n + 1, s0)) (by simp [stepC, l1, g1]) ?_
      refine Star.trans (code_fwd h hk.2 hs l2 g2) (.step (u := (n, s1)) ?_ (ih (h.closed hk.2 _ _ hs g2) h2))
      rw [show n + 1 + (a.code (n + 1)).length = n + (0 + 1 + (a.code (n + 1)).length) by omega]
      (simp only [stepC, l3, Int.toNat_natCast]; simp)

theorem code_back {L : Int → Nat → Nat → Prop} {M : Mach} {m : Nat} (h : Sure L M m) {c : List In3} : ∀ (f : Nat) (T : PT), T.ok = true → ∀ {n s : Nat} {r : (Nat × Nat) × Nat}, s < m → Lies c n (T.code n) → runS (stepC M c) f (n, s) = some r →
    ∃ t f' r', den L T.kat s t ∧ f' ≤ f ∧ runS (stepC M c) f' (n + (T.code n).length, t) = some r' ∧ r'.1 = r.1 := by
  intro f
  induction f using Nat.strongRecOn with
  | _ f IH =>
    intro T
    induction T with
    | one w =>
      intro hk n s r hs hl hr
      simp only [PT.ok, inB, Bool.and_eq_true, decide_eq_true_eq] at hk
      by_cases hw : w = 15
      · subst hw
        exact ⟨s, f, r, by rw [PT.kat, den_leaf, h.tst _ _ _ (by omega) (by omega)]; exact ⟨rfl, h.one s⟩, Nat.le_refl _, by simpa [PT.code] using hr, rfl⟩
      · simp only [PT.code, if_neg hw] at hl ⊢
        cases f with
        | zero => cases hr
        | succ f =>
          rw [runS_step (show stepC M c (n, s) = some (n + 1, M.act w s) by simp [stepC, hl.head]), Option.map_eq_some_iff] at hr
          obtain ⟨q, h1, rfl⟩ := hr
          exact ⟨_, f, q, by rw [PT.kat, den_leaf, h.act _ _ _ (by omega) (by omega) hs], by omega, h1, rfl⟩
    | seq a b iha ihb =>
      intro hk n s r hs hl hr
      simp only [PT.ok, Bool.and_eq_true] at hk
      simp only [PT.code] at hl ⊢
      obtain ⟨u, f1, r1, d1, k1, e1, q1⟩ := iha hk.1 hs hl.left hr
      have hu := h.closed hk.1 s u hs d1
      have key : ∃ t f' r', den L b.kat u t ∧ f' ≤ f1 ∧ runS (stepC M c) f' (n + (a.code n).length + (b.code (n + (a.code n).length)).length, t) = some r' ∧ r'.1 = r1.1 := by
        rcases Nat.lt_or_eq_of_le k1 with hlt | rfl
        · exact IH f1 hlt b hk.2 hu hl.right e1
        · exact ihb hk.2 hu hl.right e1
      obtain ⟨t, f2, r2, d2, k2, e2, q2⟩ := key
      exact ⟨t, f2, r2, by rw [PT.kat, den_seq]; exact ⟨u, d1, d2⟩, by omega, by rw [List.length_append, ← Nat.add_assoc]; exact e2, by rw [q2, q1]⟩
    | ite x a b iha ihb =>
      intro hk n s r hs hl hr
      simp only [PT.ok, Bool.and_eq_true, inB, decide_eq_true_eq] at hk
      simp only [PT.code] at hl ⊢
      have l1 := hl.left.left.left.head
      have l2 : Lies c (n + 1) (a.code (n + 1)) := hl.left.left.right
      have l3 := hl.left.right.head
      have l4 := hl.right
      simp only [List.length_append, List.length_cons, List.length_nil] at l3 l4 ⊢
      cases f with
      | zero => cases hr
      | succ f =>
        cases g : M.tst x s with
        | true =>
          rw [runS_step (show stepC M c (n, s) = some (n + 1, s) by simp only [stepC, l1, g, Int.toNat_natCast]; simp), Option.map_eq_some_iff] at hr
          obtain ⟨q, h1, rfl⟩ := hr
          obtain ⟨u, f1, r1, d1, k1, e1, q1⟩ := IH f (by omega) a hk.1.2 hs l2 h1
          cases f1 with
          | zero => cases e1
          | succ f1 =>
            rw [runS_step (show stepC M c (n + 1 + (a.code (n + 1)).length, u) = some (n + (a.code (n + 1)).length + 2 + (b.code (n + (a.code (n + 1)).length + 2)).length, u) by
              rw [show n + 1 + (a.code (n + 1)).length = n + (0 + 1 + (a.code (n + 1)).length) by omega]
              (simp only [stepC, l3, Int.toNat_natCast]; simp)), Option.map_eq_some_iff] at e1
            obtain ⟨q', h2, rfl⟩ := e1
            refine ⟨u, f1, q', ?_, by omega, ?_, q1⟩
            · simp only [PT.kat, den_or, den_seq, den_leaf, h.tst x _ _ hk.1.1.1 hk.1.1.2]
              exact .inl ⟨s, ⟨rfl, g⟩, d1⟩
            · rw [← h2]; congr 2; omega
        | false =>
          rw [runS_step (show stepC M c (n, s) = some (n + (a.code (n + 1)).length + 2, s) by simp only [stepC, l1, g, Int.toNat_natCast]; simp), Option.map_eq_some_iff] at hr
          obtain ⟨q, h1, rfl⟩ := hr
          have e : n + (0 + 1 + (a.code (n + 1)).length + (0 + 1)) = n + (a.code (n + 1)).length + 2 := by omega
          rw [e] at l4
          obtain ⟨u, f1, r1, d1, k1, e1, q1⟩ := IH f (by omega) b hk.2 hs l4 h1
          refine ⟨u, f1, r1, ?_, by omega, ?_, q1⟩
          · simp only [PT.kat, den_or, den_seq, den_leaf, h.tst (15 - x) _ _ (by omega : (0:Int) ≤ 15 - x) (by omega), h.not x _ hk.1.1.1 hk.1.1.2]
            exact .inr ⟨s, ⟨rfl, by simp [g]⟩, d1⟩
          · rw [← e1]; congr 2; omega
    | wh x a iha =>
      intro hk n s r hs hl hr
      have hk' := hk
      simp only [PT.ok, Bool.and_eq_true, inB, decide_eq_true_eq] at hk
      have hl' := hl
      simp only [PT.code] at hl
      have l1 := hl.left.left.head
      have l2 : Lies c (n + 1) (a.code (n + 1)) := hl.left.right
      have l3 := hl.right.head
      simp only [List.length_append, List.length_cons, List.length_nil] at l3
      cases f with
      | zero => cases hr
      | succ f =>
        cases g : M.tst x s with
        | true =>
          rw [runS_step (show stepC M c (n, s) = some (n + 1, s) by simp only [stepC, l1, g, Int.toNat_natCast]; simp), Option.map_eq_some_iff] at hr
          obtain ⟨q, h1, rfl⟩ := hr
          obtain ⟨u, f1, r1, d1, k1, e1, q1⟩ := IH f (by omega) a hk.2 hs l2 h1
          have hu := h.closed hk.2 s u hs d1
          cases f1 with
          | zero => cases e1
          | succ f1 =>
            rw [runS_step (show stepC M c (n + 1 + (a.code (n + 1)).length, u) = some (n, u) by
              rw [show n + 1 + (a.code (n + 1)).length = n + (0 + 1 + (a.code (n + 1)).length) by omega]
              (simp only [stepC, l3, Int.toNat_natCast]; simp)), Option.map_eq_some_iff] at e1
            obtain ⟨q', h2, rfl⟩ := e1
            obtain ⟨t, f2, r2, d2, k2, e2, q2⟩ := IH f1 (by omega) (.wh x a) hk' hu hl' h2
            refine ⟨t, f2, r2, ?_, by omega, e2, by rw [q2]; exact q1⟩
            simp only [PT.kat, den_seq, den_star] at d2 ⊢
            obtain ⟨v, v1, v2⟩ := d2
            refine ⟨v, .step ?_ v1, v2⟩
            rw [den_seq]
            exact ⟨s, by rw [den_leaf, h.tst x _ _ hk.1.1 hk.1.2]; exact ⟨rfl, g⟩, d1⟩
        | false =>
          rw [runS_step (show stepC M c (n, s) = some (n + (a.code (n + 1)).length + 2, s) by simp only [stepC, l1, g, Int.toNat_natCast]; simp), Option.map_eq_some_iff] at hr
          obtain ⟨q, h1, rfl⟩ := hr
          refine ⟨s, f, q, ?_, by omega, ?_, rfl⟩
          · simp only [PT.kat, den_seq, den_star]
            exact ⟨s, .refl _, by rw [den_leaf, h.tst (15 - x) _ _ (by omega) (by omega), h.not x _ hk.1.1 hk.1.2]; exact ⟨rfl, by simp [g]⟩⟩
          · rw [← h1]
            simp only [PT.code, List.length_append, List.length_cons, List.length_nil]
            congr 2
            omega
end

section

/-! What is left of an expression behind an atom and an action. -/
def endsK : KT → Nat
  | .leaf n => if 16 ≤ n then 0 else n.toNat
  | .star _ => 15
  | .bin p a b => if p then endsK a ||| endsK b else endsK a &&& endsK b
def isOne : KT → Bool
  | .leaf n => decide (n = 15)
  | _ => false
def behK (p q : KT) : KT := if isOne p then q else .bin false p q
def ptK : KT → Nat → Int → KT → Prop
  | .leaf n, _, c, p => n = c ∧ p = .leaf 15
  | .star a, α, c, p => ∃ q, ptK a α c q ∧ p = behK q (.star a)
  | .bin o a b, α, c, p => if o then ptK a α c p ∨ ptK b α c p else (∃ q, ptK a α c q ∧ p = behK q b) ∨ ((endsK a).testBit α = true ∧ ptK b α c p)
theorem ptK_seq (a b : KT) (α : Nat) (c : Int) (p : KT) : ptK (.bin false a b) α c p ↔ (∃ q, ptK a α c q ∧ p = behK q b) ∨ ((endsK a).testBit α = true ∧ ptK b α c p) := by simp [ptK]
theorem ptK_or (a b : KT) (α : Nat) (c : Int) (p : KT) : ptK (.bin true a b) α c p ↔ ptK a α c p ∨ ptK b α c p := by simp [ptK]
theorem ptK_star (a : KT) (α : Nat) (c : Int) (p : KT) : ptK (.star a) α c p ↔ ∃ q, ptK a α c q ∧ p = behK q (.star a) := by simp [ptK]
theorem ptK_leaf (n : Int) (α : Nat) (c : Int) (p : KT) : ptK (.leaf n) α c p ↔ n = c ∧ p = .leaf 15 := by simp [ptK]
theorem ends_seq (a b : KT) (α : Nat) : (endsK (.bin false a b)).testBit α = true ↔ (endsK a).testBit α = true ∧ (endsK b).testBit α = true := by simp [endsK, Nat.testBit_and]
theorem ends_or (a b : KT) (α : Nat) : (endsK (.bin true a b)).testBit α = true ↔ (endsK a).testBit α = true ∨ (endsK b).testBit α = true := by simp [endsK, Nat.testBit_or]
theorem ends_not {t : Int} (h0 : 0 ≤ t) (h1 : t ≤ 15) {α : Nat} (hα : α < 4) : (endsK (.leaf (15 - t))).testBit α = !(endsK (.leaf t)).testBit α := by
  obtain ⟨k, rfl⟩ : ∃ k : Nat, t = k := ⟨t.toNat, by omega⟩
  have hk : k < 16 := by omega
  have : ∀ k, k < 16 → ∀ α, α < 4 → (15 - k).testBit α = !k.testBit α := by decide
  have h2 := this k hk α hα
  simp only [endsK]
  rw [if_neg (by omega), if_neg (by omega), show ((15 : Int) - (k : Nat)).toNat = 15 - k by omega, Int.toNat_natCast]
  exact h2
theorem one_eq {p : KT} (h : isOne p = true) : p = .leaf 15 := by
  cases p with
  | leaf n => simp [isOne] at h; rw [h]
  | star _ => cases h
  | bin _ _ _ => cases h

/-- Expressions that never have to choose. -/
inductive Dt : KT → Prop where
  | leaf (n : Int) : Dt (.leaf n)
  | seq {p q : KT} : Dt p → Dt q → Dt (.bin false p q)
  | ite {t : Int} {a b : KT} : 0 ≤ t → t ≤ 15 → Dt a → Dt b → Dt (.bin true (.bin false (.leaf t) a) (.bin false (.leaf (15 - t)) b))
  | wh {t : Int} {a : KT} : 0 ≤ t → t ≤ 15 → Dt a → Dt (.bin false (.star (.bin false (.leaf t) a)) (.leaf (15 - t)))
  | whp {t : Int} {p a : KT} : 0 ≤ t → t ≤ 15 → Dt p → Dt a → Dt (.bin false (.bin false p (.star (.bin false (.leaf t) a))) (.leaf (15 - t)))
theorem PT.dt : ∀ {T : PT}, T.ok = true → Dt T.kat
  | .one w, _ => .leaf w
  | .seq a b, h => by
    simp only [PT.ok, Bool.and_eq_true] at h
    exact .seq (PT.dt h.1) (PT.dt h.2)
  | .ite t a b, h => by
    simp only [PT.ok, Bool.and_eq_true, inB, decide_eq_true_eq] at h
    exact .ite h.1.1.1 h.1.1.2 (PT.dt h.1.2) (PT.dt h.2)
  | .wh t a, h => by
    simp only [PT.ok, Bool.and_eq_true, inB, decide_eq_true_eq] at h
    exact .wh h.1.1 h.1.2 (PT.dt h.2)
theorem pt_guard {t : Int} (ht : t ≤ 15) {a p : KT} {α : Nat} {c : Int} (hc : 16 ≤ c) : ptK (.bin false (.leaf t) a) α c p ↔ (endsK (.leaf t)).testBit α = true ∧ ptK a α c p := by
  rw [ptK_seq]
  constructor
  · rintro (⟨q, h, _⟩ | h)
    · rw [ptK_leaf] at h; omega
    · exact h
  · exact .inr
theorem pt_loop {t : Int} (ht : t ≤ 15) {a p : KT} {α : Nat} {c : Int} (hc : 16 ≤ c) : ptK (.star (.bin false (.leaf t) a)) α c p ↔ (endsK (.leaf t)).testBit α = true ∧ ∃ q, ptK a α c q ∧ p = behK q (.star (.bin false (.leaf t) a)) := by
  rw [ptK_star]
  constructor
  · rintro ⟨q, h, rfl⟩
    rw [pt_guard ht hc] at h
    exact ⟨h.1, q, h.2, rfl⟩
  · rintro ⟨h1, q, h2, rfl⟩
    exact ⟨q, (pt_guard ht hc).2 ⟨h1, h2⟩, rfl⟩
/-- At an atom there is one part at most, with one action; and none where it may end. -/
theorem Dt.det {T : KT} (h : Dt T) : ∀ {α : Nat}, α < 4 → (∀ {c c' : Int} {p p' : KT}, 16 ≤ c → 16 ≤ c' → ptK T α c p → ptK T α c' p' → c = c' ∧ p = p') ∧ (∀ {c : Int} {p : KT}, 16 ≤ c → ptK T α c p → (endsK T).testBit α = false) := by
  induction h with
  | leaf n =>
    intro α _
    refine ⟨fun _ _ h1 h2 => ?_, fun hc h1 => ?_⟩
    · rw [ptK_leaf] at h1 h2
      exact ⟨by omega, by rw [h1.2, h2.2]⟩
    · rw [ptK_leaf] at h1
      rw [endsK, if_pos (by omega)]
      simp
  | @seq p q _ _ ihp ihq =>
    intro α hα
    obtain ⟨p1, p2⟩ := ihp hα
    obtain ⟨q1, q2⟩ := ihq hα
    refine ⟨fun hc hc' h1 h2 => ?_, fun hc h1 => ?_⟩
    · rw [ptK_seq] at h1 h2
      rcases h1 with ⟨x, h1, rfl⟩ | ⟨e1, h1⟩ <;> rcases h2 with ⟨y, h2, rfl⟩ | ⟨e2, h2⟩
      · obtain ⟨g1, g2⟩ := p1 hc hc' h1 h2
        exact ⟨g1, by rw [g2]⟩
      · rw [p2 hc h1] at e2; cases e2
      · rw [p2 hc' h2] at e1; cases e1
      · exact q1 hc hc' h1 h2
    · rw [ptK_seq] at h1
      rw [← Bool.not_eq_true, ends_seq]
      rintro ⟨e1, e2⟩
      rcases h1 with ⟨x, h1, _⟩ | ⟨_, h1⟩
      · rw [p2 hc h1] at e1; cases e1
      · rw [q2 hc h1] at e2; cases e2
  | @ite t a b h0 h1 _ _ iha ihb =>
    intro α hα
    obtain ⟨a1, a2⟩ := iha hα
    obtain ⟨b1, b2⟩ := ihb hα
    have hn := ends_not h0 h1 hα
    refine ⟨fun hc hc' g1 g2 => ?_, fun hc g1 => ?_⟩
    · rw [ptK_or, pt_guard h1 (by assumption), pt_guard (by omega) (by assumption)] at g1 g2
      rcases g1 with ⟨e1, g1⟩ | ⟨e1, g1⟩ <;> rcases g2 with ⟨e2, g2⟩ | ⟨e2, g2⟩
      · exact a1 hc hc' g1 g2
      · rw [hn, e1] at e2; cases e2
      · rw [hn, e2] at e1; cases e1
      · exact b1 hc hc' g1 g2
    · rw [ptK_or, pt_guard h1 hc, pt_guard (by omega) hc] at g1
      rw [← Bool.not_eq_true, ends_or, ends_seq, ends_seq]
      rintro (⟨e1, e2⟩ | ⟨e1, e2⟩) <;> rcases g1 with ⟨e3, g1⟩ | ⟨e3, g1⟩
      · rw [a2 hc g1] at e2; cases e2
      · rw [hn, e1] at e3; cases e3
      · rw [hn, e3] at e1; cases e1
      · rw [b2 hc g1] at e2; cases e2
  | @wh t a h0 h1 _ iha =>
    intro α hα
    obtain ⟨a1, a2⟩ := iha hα
    have hn := ends_not h0 h1 hα
    have key : ∀ {c : Int} {p : KT}, 16 ≤ c → ptK (.bin false (.star (.bin false (.leaf t) a)) (.leaf (15 - t))) α c p → (endsK (.leaf t)).testBit α = true ∧ ∃ q, ptK a α c q ∧ p = behK (behK q (.star (.bin false (.leaf t) a))) (.leaf (15 - t)) := by
      intro c p hc g
      rw [ptK_seq] at g
      rcases g with ⟨x, g, rfl⟩ | ⟨_, g⟩
      · rw [pt_loop h1 hc] at g
        obtain ⟨e, q, g, rfl⟩ := g
        exact ⟨e, q, g, rfl⟩
      · rw [ptK_leaf] at g; omega
    refine ⟨fun hc hc' g1 g2 => ?_, fun hc g1 => ?_⟩
    · obtain ⟨_, q, k1, rfl⟩ := key hc g1
      obtain ⟨_, q', k2, rfl⟩ := key hc' g2
      obtain ⟨e1, e2⟩ := a1 hc hc' k1 k2
      exact ⟨e1, by rw [e2]⟩
    · obtain ⟨e, _⟩ := key hc g1
      rw [← Bool.not_eq_true, ends_seq, hn, e]
      rintro ⟨_, h⟩; cases h
  | @whp t p a h0 h1 _ _ ihp iha =>
    intro α hα
    obtain ⟨p1, p2⟩ := ihp hα
    obtain ⟨a1, a2⟩ := iha hα
    have hn := ends_not h0 h1 hα
    have key : ∀ {c : Int} {r : KT}, 16 ≤ c → ptK (.bin false (.bin false p (.star (.bin false (.leaf t) a))) (.leaf (15 - t))) α c r →
        (∃ q, ptK p α c q ∧ r = behK (behK q (.star (.bin false (.leaf t) a))) (.leaf (15 - t))) ∨ ((endsK p).testBit α = true ∧ (endsK (.leaf t)).testBit α = true ∧ ∃ q, ptK a α c q ∧ r = behK (behK q (.star (.bin false (.leaf t) a))) (.leaf (15 - t))) := by
      intro c r hc g
      rw [ptK_seq] at g
      rcases g with ⟨x, g, rfl⟩ | ⟨_, g⟩
      · rw [ptK_seq] at g
        rcases g with ⟨y, g, rfl⟩ | ⟨e, g⟩
        · exact .inl ⟨y, g, rfl⟩
        · rw [pt_loop h1 hc] at g
          obtain ⟨e', q, g, rfl⟩ := g
          exact .inr ⟨e, e', q, g, rfl⟩
      · rw [ptK_leaf] at g; omega
    refine ⟨fun hc hc' g1 g2 => ?_, fun hc g1 => ?_⟩
    · rcases key hc g1 with ⟨q, k1, rfl⟩ | ⟨e1, _, q, k1, rfl⟩ <;> rcases key hc' g2 with ⟨q', k2, rfl⟩ | ⟨e2, _, q', k2, rfl⟩
      · obtain ⟨e1, e2⟩ := p1 hc hc' k1 k2
        exact ⟨e1, by rw [e2]⟩
      · rw [p2 hc k1] at e2; cases e2
      · rw [p2 hc' k2] at e1; cases e1
      · obtain ⟨e1, e2⟩ := a1 hc hc' k1 k2
        exact ⟨e1, by rw [e2]⟩
    · rw [← Bool.not_eq_true, ends_seq, ends_seq, hn]
      rintro ⟨⟨e1, _⟩, e2⟩
      rcases key hc g1 with ⟨q, g1, _⟩ | ⟨_, e3, _⟩
      · rw [p2 hc g1] at e1; cases e1
      · rw [e3] at e2; cases e2
theorem beh_seq_dt {q b : KT} (hq : Dt q) (hb : Dt b) : Dt (behK q b) := by
  unfold behK
  split
  · exact hb
  · exact .seq hq hb
theorem beh_loop_dt {t : Int} (h0 : 0 ≤ t) (h1 : t ≤ 15) {q a : KT} (hq : Dt q) (ha : Dt a) : Dt (behK (behK q (.star (.bin false (.leaf t) a))) (.leaf (15 - t))) := by
  unfold behK
  split
  · simp only [isOne, Bool.false_eq_true, if_false]; exact .wh h0 h1 ha
  · simp only [isOne, Bool.false_eq_true, if_false]; exact .whp h0 h1 hq ha
/-- Parts of what never has to choose never have to. -/
theorem Dt.part {T : KT} (h : Dt T) : ∀ {α : Nat} {c : Int} {p : KT}, 16 ≤ c → ptK T α c p → Dt p := by
  induction h with
  | leaf n =>
    intro α c p _ g
    rw [ptK_leaf] at g
    rw [g.2]
    exact .leaf _
  | seq _ hq ihp ihq =>
    intro α c p hc g
    rw [ptK_seq] at g
    rcases g with ⟨x, g, rfl⟩ | ⟨_, g⟩
    · exact beh_seq_dt (ihp hc g) hq
    · exact ihq hc g
  | ite h0 h1 _ _ iha ihb =>
    intro α c p hc g
    rw [ptK_or, pt_guard h1 hc, pt_guard (by omega) hc] at g
    rcases g with ⟨_, g⟩ | ⟨_, g⟩
    · exact iha hc g
    · exact ihb hc g
  | wh h0 h1 ha iha =>
    intro α c p hc g
    rw [ptK_seq] at g
    rcases g with ⟨x, g, rfl⟩ | ⟨_, g⟩
    · rw [pt_loop h1 hc] at g
      obtain ⟨_, q, g, rfl⟩ := g
      exact beh_loop_dt h0 h1 (iha hc g) ha
    · rw [ptK_leaf] at g; omega
  | whp h0 h1 _ ha ihp iha =>
    intro α c p hc g
    rw [ptK_seq] at g
    rcases g with ⟨x, g, rfl⟩ | ⟨_, g⟩
    · rw [ptK_seq] at g
      rcases g with ⟨y, g, rfl⟩ | ⟨_, g⟩
      · exact beh_loop_dt h0 h1 (ihp hc g) ha
      · rw [pt_loop h1 hc] at g
        obtain ⟨_, q, g, rfl⟩ := g
        exact beh_loop_dt h0 h1 (iha hc g) ha
    · rw [ptK_leaf] at g; omega

/-! Traces: a state is what is still to be read. -/
inductive Tr where
  | fin (α : Fin 4)
  | step (α : Fin 4) (c : Fin 3) (r : Tr)
def Tr.head : Tr → Nat
  | .fin α => α.val
  | .step α _ _ => α.val
def actI (c : Fin 3) : Int := 16 + (c.val : Nat)
theorem Tr.head_lt (s : Tr) : s.head < 4 := by cases s <;> simp [Tr.head]
def Tr.last : Tr → Tr
  | .fin α => .fin α
  | .step _ _ r => r.last
def leafT (n : Int) (s t : Tr) : Prop := if n ≤ 15 then s = t ∧ n.toNat.testBit s.head = true else ∃ α c, n = actI c ∧ s = .step α c t
theorem leafT_test {n : Int} (h : n ≤ 15) (s t : Tr) : leafT n s t ↔ s = t ∧ n.toNat.testBit s.head = true := by rw [leafT, if_pos h]
theorem leafT_act {n : Int} (h : 15 < n) (s t : Tr) : leafT n s t ↔ ∃ α c, n = actI c ∧ s = .step α c t := by rw [leafT, if_neg (by omega)]
theorem leafT_one (s t : Tr) : leafT 15 s t ↔ s = t := by
  rw [leafT_test (by omega)]
  have := fifteen_bit _ s.head_lt
  simp [this]
theorem leafT_leaves : Leaves leafT := ⟨fun s t => by rw [leafT_test (by omega)]; simp, leafT_one⟩
theorem actI_ge (c : Fin 3) : 16 ≤ actI c := by unfold actI; omega
theorem actI_inj {c c' : Fin 3} (h : actI c = actI c') : c = c' := by unfold actI at h; exact Fin.ext (by omega)
theorem den_beh (p b : KT) (s v : Tr) : den leafT (behK p b) s v ↔ ∃ u, den leafT p s u ∧ den leafT b u v := by
  unfold behK
  split
  · rename_i h
    rw [one_eq h]
    simp only [den_leaf, leafT_one]
    exact ⟨fun h => ⟨s, rfl, h⟩, fun ⟨u, e, h⟩ => e ▸ h⟩
  · rw [den_seq]
/-- What is read of a trace: nothing, or the first step, and the rest by a part. -/
def ReadsK (t : KT) (s v : Tr) : Prop := (v = s ∧ (endsK t).testBit s.head = true) ∨ ∃ α c r, s = .step α c r ∧ ∃ p, ptK t α.val (actI c) p ∧ den leafT p r v
theorem reads_step (t : KT) (α : Fin 4) (c : Fin 3) (r v : Tr) : ReadsK t (.step α c r) v ↔ (v = .step α c r ∧ (endsK t).testBit α.val = true) ∨ ∃ p, ptK t α.val (actI c) p ∧ den leafT p r v := by
  unfold ReadsK
  constructor
  · rintro (h | ⟨α', c', r', e, h⟩)
    · exact .inl h
    · injection e with e1 e2 e3
      subst e1 e2 e3
      exact .inr h
  · rintro (h | h)
    · exact .inl h
    · exact .inr ⟨α, c, r, rfl, h⟩
theorem den_reads : ∀ (t : KT), t.ok 0 = true → ∀ s v, den leafT t s v ↔ ReadsK t s v
  | .leaf n, ht, s, v => by
    simp only [KT.ok, Bool.and_eq_true, decide_eq_true_eq] at ht
    rw [den_leaf]
    by_cases hn : n ≤ 15
    · rw [leafT_test hn]
      constructor
      · rintro ⟨rfl, h⟩
        exact .inl ⟨rfl, by rw [endsK, if_neg (by omega)]; exact h⟩
      · rintro (⟨rfl, h⟩ | ⟨α, c, r, rfl, p, h, _⟩)
        · rw [endsK, if_neg (by omega)] at h
          exact ⟨rfl, h⟩
        · rw [ptK_leaf] at h
          have := actI_ge c
          omega
    · rw [leafT_act (by omega)]
      constructor
      · rintro ⟨α, c, rfl, rfl⟩
        exact .inr ⟨α, c, v, rfl, .leaf 15, by rw [ptK_leaf]; exact ⟨rfl, rfl⟩, by rw [den_leaf, leafT_one]⟩
      · rintro (⟨_, h⟩ | ⟨α, c, r, rfl, p, h, hd⟩)
        · rw [endsK, if_pos (by omega)] at h
          simp at h
        · rw [ptK_leaf] at h
          obtain ⟨rfl, rfl⟩ := h
          rw [den_leaf, leafT_one] at hd
          exact ⟨α, c, rfl, by rw [hd]⟩
  | .bin true a b, ht, s, v => by
    simp only [KT.ok, Bool.and_eq_true] at ht
    rw [den_or, den_reads a ht.1, den_reads b ht.2]
    unfold ReadsK
    constructor
    · rintro ((⟨h1, h2⟩ | ⟨α, c, r, e, p, h, hd⟩) | (⟨h1, h2⟩ | ⟨α, c, r, e, p, h, hd⟩))
      · exact .inl ⟨h1, (ends_or _ _ _).2 (.inl h2)⟩
      · exact .inr ⟨α, c, r, e, p, (ptK_or _ _ _ _ _).2 (.inl h), hd⟩
      · exact .inl ⟨h1, (ends_or _ _ _).2 (.inr h2)⟩
      · exact .inr ⟨α, c, r, e, p, (ptK_or _ _ _ _ _).2 (.inr h), hd⟩
    · rintro (⟨h1, h2⟩ | ⟨α, c, r, e, p, h, hd⟩)
      · rcases (ends_or _ _ _).1 h2 with h2 | h2
        · exact .inl (.inl ⟨h1, h2⟩)
        · exact .inr (.inl ⟨h1, h2⟩)
      · rcases (ptK_or _ _ _ _ _).1 h with h | h
        · exact .inl (.inr ⟨α, c, r, e, p, h, hd⟩)
        · exact .inr (.inr ⟨α, c, r, e, p, h, hd⟩)
  | .bin false a b, ht, s, v => by
    simp only [KT.ok, Bool.and_eq_true] at ht
    rw [den_seq]
    constructor
    · rintro ⟨u, h1, h2⟩
      rcases (den_reads a ht.1 s u).1 h1 with ⟨rfl, e1⟩ | ⟨α, c, r, rfl, p, g, hd⟩
      · rcases (den_reads b ht.2 u v).1 h2 with ⟨rfl, e2⟩ | ⟨α, c, r, rfl, p, g, hd⟩
        · exact .inl ⟨rfl, (ends_seq _ _ _).2 ⟨e1, e2⟩⟩
        · exact .inr ⟨α, c, r, rfl, p, (ptK_seq _ _ _ _ _).2 (.inr ⟨e1, g⟩), hd⟩
      · exact .inr ⟨α, c, r, rfl, behK p b, (ptK_seq _ _ _ _ _).2 (.inl ⟨p, g, rfl⟩), (den_beh _ _ _ _).2 ⟨u, hd, h2⟩⟩
    · rintro (⟨rfl, e⟩ | ⟨α, c, r, rfl, p, g, hd⟩)
      · obtain ⟨e1, e2⟩ := (ends_seq _ _ _).1 e
        exact ⟨v, (den_reads a ht.1 _ _).2 (.inl ⟨rfl, e1⟩), (den_reads b ht.2 _ _).2 (.inl ⟨rfl, e2⟩)⟩
      · rcases (ptK_seq _ _ _ _ _).1 g with ⟨q, g', rfl⟩ | ⟨e1, g⟩
        · obtain ⟨u, h1, h2⟩ := (den_beh _ _ _ _).1 hd
          exact ⟨u, (den_reads a ht.1 _ _).2 (.inr ⟨α, c, r, rfl, q, g', h1⟩), h2⟩
        · exact ⟨.step α c r, (den_reads a ht.1 _ _).2 (.inl ⟨rfl, e1⟩), (den_reads b ht.2 _ _).2 (.inr ⟨α, c, r, rfl, p, g, hd⟩)⟩
  | .star a, ht, s, v => by
    simp only [KT.ok] at ht
    rw [den_star]
    constructor
    · intro h
      induction h with
      | refl s => exact .inl ⟨rfl, by rw [endsK]; exact fifteen_bit _ s.head_lt⟩
      | @step s u v h1 h2 ih =>
        rcases (den_reads a ht s u).1 h1 with ⟨rfl, _⟩ | ⟨α, c, r, rfl, p, g, hd⟩
        · exact ih
        · exact .inr ⟨α, c, r, rfl, behK p (.star a), (ptK_star _ _ _ _).2 ⟨p, g, rfl⟩, (den_beh _ _ _ _).2 ⟨u, hd, h2⟩⟩
    · rintro (⟨rfl, _⟩ | ⟨α, c, r, rfl, p, g, hd⟩)
      · exact .refl _
      · obtain ⟨q, g', rfl⟩ := (ptK_star _ _ _ _).1 g
        obtain ⟨u, h1, h2⟩ := (den_beh _ _ _ _).1 hd
        exact .step ((den_reads a ht _ _).2 (.inr ⟨α, c, r, rfl, q, g', h1⟩)) h2
theorem behK_ok {p q : KT} (hp : p.ok 0 = true) (hq : q.ok 0 = true) : (behK p q).ok 0 = true := by
  unfold behK
  split
  · exact hq
  · simp [KT.ok, hp, hq]
theorem ptK_ok : ∀ {t : KT}, t.ok 0 = true → ∀ {α : Nat} {c : Int} {p : KT}, ptK t α c p → p.ok 0 = true
  | .leaf n, _, α, c, p, h => by
    rw [ptK_leaf] at h
    rw [h.2]
    rfl
  | .bin true a b, ht, α, c, p, h => by
    simp only [KT.ok, Bool.and_eq_true] at ht
    rw [ptK_or] at h
    exact h.elim (ptK_ok ht.1) (ptK_ok ht.2)
  | .bin false a b, ht, α, c, p, h => by
    simp only [KT.ok, Bool.and_eq_true] at ht
    rw [ptK_seq] at h
    rcases h with ⟨q, h, rfl⟩ | ⟨_, h⟩
    · exact behK_ok (ptK_ok ht.1 h) ht.2
    · exact ptK_ok ht.2 h
  | .star a, ht, α, c, p, h => by
    rw [ptK_star] at h
    obtain ⟨q, h, rfl⟩ := h
    exact behK_ok (ptK_ok (t := a) ht h) ht
/-- Whether a trace is one of an expression: part by part. -/
def inD : Tr → KT → Prop
  | .fin α, t => (endsK t).testBit α.val = true
  | .step α c r, t => ∃ p, ptK t α.val (actI c) p ∧ inD r p
theorem Tr.last_fin : ∀ s : Tr, ∃ α, s.last = .fin α
  | .fin α => ⟨α, rfl⟩
  | .step _ _ r => r.last_fin
theorem inD_den : ∀ (s : Tr) {t : KT}, t.ok 0 = true → (inD s t ↔ den leafT t s s.last)
  | .fin α, t, ht => by
    rw [den_reads t ht, inD]
    constructor
    · exact fun h => .inl ⟨rfl, h⟩
    · rintro (⟨_, h⟩ | ⟨_, _, _, e, _⟩)
      · exact h
      · cases e
  | .step α c r, t, ht => by
    rw [den_reads t ht, reads_step, inD]
    constructor
    · rintro ⟨p, h1, h2⟩
      exact .inr ⟨p, h1, (inD_den r (ptK_ok ht h1)).1 h2⟩
    · rintro (⟨e, _⟩ | ⟨p, h1, h2⟩)
      · obtain ⟨β, hb⟩ := r.last_fin
        rw [Tr.last, hb] at e
        cases e
      · exact ⟨p, h1, (inD_den r (ptK_ok ht h1)).2 h2⟩
end

section

/-! All parts of an expression: there are few. -/
def clK : KT → List KT
  | .leaf n => if 16 ≤ n then [.leaf 15] else []
  | .star a => (clK a).map fun q => behK q (.star a)
  | .bin o a b => if o then clK a ++ clK b else ((clK a).map fun q => behK q b) ++ clK b
theorem cl_or (a b : KT) : clK (.bin true a b) = clK a ++ clK b := by simp [clK]
theorem cl_seq (a b : KT) : clK (.bin false a b) = ((clK a).map fun q => behK q b) ++ clK b := by simp [clK]
theorem cl_star (a : KT) : clK (.star a) = (clK a).map fun q => behK q (.star a) := rfl
theorem pt_cl : ∀ {t : KT} {α : Nat} {c : Int} {p : KT}, 16 ≤ c → ptK t α c p → p ∈ clK t
  | .leaf n, α, c, p, hc, h => by
    rw [ptK_leaf] at h
    obtain ⟨rfl, rfl⟩ := h
    simp [clK, hc]
  | .star a, α, c, p, hc, h => by
    rw [ptK_star] at h
    obtain ⟨q, h, rfl⟩ := h
    exact List.mem_map.2 ⟨q, pt_cl hc h, rfl⟩
  | .bin true a b, α, c, p, hc, h => by
    rw [ptK_or] at h
    rw [cl_or, List.mem_append]
    exact h.imp (pt_cl hc) (pt_cl hc)
  | .bin false a b, α, c, p, hc, h => by
    rw [ptK_seq] at h
    rw [cl_seq, List.mem_append]
    rcases h with ⟨q, h, rfl⟩ | ⟨_, h⟩
    · exact .inl (List.mem_map.2 ⟨q, pt_cl hc h, rfl⟩)
    · exact .inr (pt_cl hc h)
theorem beh_pt {q' b : KT} {α : Nat} {c : Int} {p : KT} (h : ptK (behK q' b) α c p) : ptK b α c p ∨ ∃ r, ptK q' α c r ∧ p = behK r b := by
  unfold behK at h
  split at h
  · exact .inl h
  · rw [ptK_seq] at h
    rcases h with ⟨r, h, rfl⟩ | ⟨_, h⟩
    · exact .inr ⟨r, h, rfl⟩
    · exact .inl h
theorem cl_pt : ∀ {t q : KT} {α : Nat} {c : Int} {p : KT}, 16 ≤ c → q ∈ clK t → ptK q α c p → p ∈ clK t
  | .leaf n, q, α, c, p, hc, hq, h => by
    simp only [clK] at hq
    split at hq
    · simp only [List.mem_singleton] at hq
      subst hq
      rw [ptK_leaf] at h
      omega
    · cases hq
  | .star a, q, α, c, p, hc, hq, h => by
    rw [cl_star, List.mem_map] at hq
    obtain ⟨q', hq', rfl⟩ := hq
    rcases beh_pt h with h | ⟨r, h', rfl⟩
    · exact pt_cl hc h
    · exact List.mem_map.2 ⟨r, cl_pt (t := a) hc hq' h', rfl⟩
  | .bin true a b, q, α, c, p, hc, hq, h => by
    rw [cl_or, List.mem_append] at hq ⊢
    exact hq.imp (fun hq => cl_pt hc hq h) (fun hq => cl_pt hc hq h)
  | .bin false a b, q, α, c, p, hc, hq, h => by
    rw [cl_seq, List.mem_append, List.mem_map] at hq
    rw [cl_seq, List.mem_append]
    rcases hq with ⟨q', hq', rfl⟩ | hq
    · rcases beh_pt h with h | ⟨r, h', rfl⟩
      · exact .inr (pt_cl hc h)
      · exact .inl (List.mem_map.2 ⟨r, cl_pt hc hq' h', rfl⟩)
    · exact .inr (cl_pt hc hq h)
theorem cl_length : ∀ t : KT, (clK t).length ≤ t.size
  | .leaf n => by simp only [clK]; split <;> simp [KT.size]
  | .star a => by have := cl_length a; simp [clK, KT.size]; omega
  | .bin true a b => by have := cl_length a; have := cl_length b; simp [clK, KT.size]; omega
  | .bin false a b => by have := cl_length a; have := cl_length b; simp [clK, KT.size]; omega
theorem behK_size (p q : KT) : (behK p q).size ≤ p.size + q.size + 1 := by
  unfold behK
  split
  · omega
  · simp [KT.size]
theorem cl_size : ∀ {t q : KT}, q ∈ clK t → q.size ≤ t.size * (t.size + 1)
  | .leaf n, q, h => by
    simp only [clK] at h
    split at h
    · simp only [List.mem_singleton] at h; subst h; simp [KT.size]
    · cases h
  | .star a, q, h => by
    rw [cl_star, List.mem_map] at h
    obtain ⟨q', h, rfl⟩ := h
    have h1 := cl_size h
    have h2 := behK_size q' (.star a)
    simp only [KT.size] at h2 ⊢
    have : (a.size + 1) * (a.size + 1 + 1) = a.size * (a.size + 1) + (2 * a.size + 2) := by
      simp only [Nat.mul_add, Nat.add_mul]; omega
    omega
  | .bin true a b, q, h => by
    rw [cl_or, List.mem_append] at h
    have hab : ∀ x, x ≤ a.size + b.size + 1 → x * (x + 1) ≤ (a.size + b.size + 1) * (a.size + b.size + 1 + 1) := fun x hx => Nat.mul_le_mul hx (by omega)
    simp only [KT.size]
    rcases h with h | h
    · exact Nat.le_trans (cl_size h) (hab _ (by omega))
    · exact Nat.le_trans (cl_size h) (hab _ (by omega))
  | .bin false a b, q, h => by
    rw [cl_seq, List.mem_append, List.mem_map] at h
    simp only [KT.size]
    have e : (a.size + b.size + 1) * (a.size + b.size + 1 + 1) = a.size * (a.size + 1) + (a.size * (b.size + 1) + (b.size + 1) * (a.size + b.size + 1 + 1)) := by
      rw [show a.size + b.size + 1 = a.size + (b.size + 1) by omega, Nat.add_mul, show a.size + (b.size + 1) + 1 = a.size + 1 + (b.size + 1) by omega, Nat.mul_add a.size, Nat.add_assoc]
    have e2 : b.size + 1 ≤ (b.size + 1) * (a.size + b.size + 1 + 1) := Nat.le_mul_of_pos_right _ (by omega)
    rcases h with ⟨q', h, rfl⟩ | h
    · have h1 := cl_size h
      have h2 := behK_size q' b
      omega
    · have h1 := cl_size h
      refine Nat.le_trans h1 (Nat.le_trans (Nat.mul_le_mul (by omega : b.size ≤ a.size + b.size + 1) (by omega)) (Nat.le_refl _))
theorem cl_ok : ∀ {t : KT}, t.ok 0 = true → ∀ q ∈ clK t, q.ok 0 = true
  | .leaf n, _, q, h => by
    simp only [clK] at h
    split at h
    · simp only [List.mem_singleton] at h; subst h; rfl
    · cases h
  | .star a, ht, q, h => by
    rw [cl_star, List.mem_map] at h
    obtain ⟨q', h, rfl⟩ := h
    exact behK_ok (cl_ok (t := a) ht _ h) ht
  | .bin true a b, ht, q, h => by
    simp only [KT.ok, Bool.and_eq_true] at ht
    rw [cl_or, List.mem_append] at h
    exact h.elim (cl_ok ht.1 q) (cl_ok ht.2 q)
  | .bin false a b, ht, q, h => by
    simp only [KT.ok, Bool.and_eq_true] at ht
    rw [cl_seq, List.mem_append, List.mem_map] at h
    rcases h with ⟨q', h, rfl⟩ | h
    · exact behK_ok (cl_ok ht.1 _ h) ht.2
    · exact cl_ok ht.2 q h
/-- A list without repeats is no longer than one that has all of it. -/
theorem nodup_len {α : Type} : ∀ (xs L : List α), xs.Nodup → (∀ x ∈ xs, x ∈ L) → xs.length ≤ L.length
  | [], _, _, _ => by simp
  | x :: xs, L, hn, h => by
    obtain ⟨a, b, rfl⟩ := List.append_of_mem (h x (by simp))
    rw [List.nodup_cons] at hn
    have := nodup_len xs (a ++ b) hn.2 fun y hy => by
      have := h y (by simp [hy])
      simp only [List.mem_append, List.mem_cons] at this ⊢
      rcases this with h1 | rfl | h1
      · exact .inl h1
      · exact absurd hy hn.1
      · exact .inr h1
    simp at this ⊢
    omega
end

section
set_option linter.unusedVariables false

/-! Lists of lists in order. -/
/-- A list comes before another one: it has the lesser number at the first difference, or is the beginning of it. -/
def ltL : List Int → List Int → Bool
  | [], [] => false
  | [], _ :: _ => true
  | _ :: _, [] => false
  | a :: r, b :: s => if a < b then true else if b < a then false else ltL r s
theorem ltL_irr : ∀ x : List Int, ltL x x = false
  | [] => rfl
  | a :: r => by simp [ltL, ltL_irr r]
theorem ltL_trans : ∀ {x y z : List Int}, ltL x y = true → ltL y z = true → ltL x z = true
  | [], [], _, h, _ => by cases h
  | [], _ :: _, [], _, h => by cases h
  | [], _ :: _, _ :: _, _, _ => rfl
  | _ :: _, [], _, h, _ => by cases h
  | _ :: _, _ :: _, [], _, h => by cases h
  | a :: r, b :: s, c :: t, h, k => by
    simp only [ltL] at h k ⊢
    split at h
    · split at k
      · rw [if_pos (by omega)]
      · split at k
        · cases k
        · rw [if_pos (by omega)]
    · split at h
      · cases h
      · split at k
        · rw [if_pos (by omega)]
        · split at k
          · cases k
          · rw [if_neg (by omega), if_neg (by omega)]
            exact ltL_trans h k
theorem ltL_tri : ∀ {x y : List Int}, ltL x y = false → ltL y x = false → x = y
  | [], [], _, _ => rfl
  | [], _ :: _, h, _ => by cases h
  | _ :: _, [], _, h => by cases h
  | a :: r, b :: s, h, k => by
    simp only [ltL] at h k
    split at h
    · cases h
    · rename_i h1
      split at h
      · rename_i h2
        rw [if_pos h2] at k
        cases k
      · rename_i h2
        rw [if_neg h2, if_neg h1] at k
        obtain rfl : a = b := by omega
        rw [ltL_tri h k]
theorem ltL_asym {x y : List Int} (h : ltL x y = true) : ltL y x = false := by
  cases hk : ltL y x
  · rfl
  · have := ltL_trans h hk
    rw [ltL_irr] at this
    cases this
theorem ltL_ne {x y : List Int} (h : ltL x y = true) : x ≠ y := fun e => by
  rw [e, ltL_irr] at h
  cases h
/-- In order, each once. -/
def SortL (l : List (List Int)) : Prop := l.Pairwise fun x y => ltL x y = true
/-- A list in order, with one more in its place. -/
def addL (t : List Int) : List (List Int) → List (List Int)
  | [] => [t]
  | x :: r => if ltL x t then x :: addL t r else if x = t then x :: r else t :: x :: r
theorem addL_mem {t y : List Int} : ∀ {l : List (List Int)}, y ∈ addL t l ↔ y = t ∨ y ∈ l
  | [] => by simp [addL]
  | x :: r => by
    unfold addL
    split
    · rw [List.mem_cons, addL_mem, List.mem_cons]
      constructor
      · rintro (h | h | h)
        · exact .inr (.inl h)
        · exact .inl h
        · exact .inr (.inr h)
      · rintro (h | h | h)
        · exact .inr (.inl h)
        · exact .inl h
        · exact .inr (.inr h)
    · split
      · rename_i h
        subst h
        simp
      · simp
theorem addL_sort {t : List Int} : ∀ {l : List (List Int)}, SortL l → SortL (addL t l)
  | [], _ => by simp [addL, SortL]
  | x :: r, h => by
    unfold SortL at h
    rw [List.pairwise_cons] at h
    unfold addL
    split
    · rename_i hx
      refine List.pairwise_cons.2 ⟨fun y hy => ?_, addL_sort (l := r) h.2⟩
      rcases addL_mem.1 hy with rfl | hy
      · exact hx
      · exact h.1 y hy
    · split
      · exact List.pairwise_cons.2 h
      · rename_i hx hne
        have htx : ltL t x = true := by
          cases ht : ltL t x
          · exact absurd (ltL_tri (by simpa using hx) ht) hne
          · rfl
        refine List.pairwise_cons.2 ⟨fun y hy => ?_, List.pairwise_cons.2 h⟩
        rcases List.mem_cons.1 hy with rfl | hy
        · exact htx
        · exact ltL_trans htx (h.1 y hy)
/-- Lists in order with the same members are the same. -/
theorem sort_ext : ∀ {l m : List (List Int)}, SortL l → SortL m → (∀ x, x ∈ l ↔ x ∈ m) → l = m
  | [], [], _, _, _ => rfl
  | [], y :: m, _, _, h => absurd ((h y).2 (List.mem_cons_self ..)) (by simp)
  | x :: l, [], _, _, h => absurd ((h x).1 (List.mem_cons_self ..)) (by simp)
  | x :: l, y :: m, hl, hm, h => by
    unfold SortL at hl hm
    rw [List.pairwise_cons] at hl hm
    have hxy : x = y := by
      have h1 := (h x).1 (List.mem_cons_self ..)
      have h2 := (h y).2 (List.mem_cons_self ..)
      rcases List.mem_cons.1 h1 with e | h1
      · exact e
      · rcases List.mem_cons.1 h2 with e | h2
        · exact e.symm
        · exact absurd (ltL_asym (hl.1 y h2)) (by rw [hm.1 x h1]; simp)
    subst hxy
    congr 1
    refine sort_ext hl.2 hm.2 fun z => ?_
    have hz := h z
    simp only [List.mem_cons] at hz
    constructor
    · intro hzl
      rcases hz.1 (.inr hzl) with rfl | h2
      · exact absurd (hl.1 z hzl) (by simp [ltL_irr])
      · exact h2
    · intro hzm
      rcases hz.2 (.inr hzm) with rfl | h2
      · exact absurd (hm.1 z hzm) (by simp [ltL_irr])
      · exact h2
theorem sort_nodup {l : List (List Int)} (h : SortL l) : l.Nodup := List.Pairwise.imp (fun h => ltL_ne h) h
/-- Many more in their places. -/
def addsL (l ts : List (List Int)) : List (List Int) := ts.foldl (fun o t => addL t o) l
theorem addsL_nil (l : List (List Int)) : addsL l [] = l := rfl
theorem addsL_snoc (l ts : List (List Int)) (t : List Int) : addsL l (ts ++ [t]) = addL t (addsL l ts) := by simp [addsL]
theorem addsL_mem {y : List Int} : ∀ {ts l : List (List Int)}, y ∈ addsL l ts ↔ y ∈ l ∨ y ∈ ts
  | [], l => by simp [addsL]
  | t :: ts, l => by
    show y ∈ addsL (addL t l) ts ↔ _
    rw [addsL_mem, addL_mem, List.mem_cons]
    constructor
    · rintro ((h | h) | h)
      · exact .inr (.inl h)
      · exact .inl h
      · exact .inr (.inr h)
    · rintro (h | h | h)
      · exact .inl (.inr h)
      · exact .inl (.inl h)
      · exact .inr h
theorem addsL_sort : ∀ {ts l : List (List Int)}, SortL l → SortL (addsL l ts)
  | [], _, h => h
  | t :: ts, l, h => addsL_sort (ts := ts) (addL_sort h)
theorem addL_len (t : List Int) : ∀ l : List (List Int), (addL t l).length ≤ l.length + 1
  | [] => by simp [addL]
  | x :: r => by
    have := addL_len t r
    unfold addL
    split
    · simp; omega
    · split <;> simp
theorem addsL_len : ∀ (ts l : List (List Int)), (addsL l ts).length ≤ l.length + ts.length
  | [], _ => by simp [addsL]
  | t :: ts, l => by
    have h1 := addsL_len ts (addL t l)
    have h2 := addL_len t l
    show (addsL (addL t l) ts).length ≤ _
    simp only [List.length_cons]
    omega
theorem sort_nil : SortL [] := List.Pairwise.nil
/-- A list in order, each once. -/
def ordL (l : List (List Int)) : List (List Int) := addsL [] l
theorem ordL_mem {y : List Int} {l : List (List Int)} : y ∈ ordL l ↔ y ∈ l := by simp [ordL, addsL_mem]
theorem ordL_sort (l : List (List Int)) : SortL (ordL l) := addsL_sort sort_nil
theorem ordL_of {l m : List (List Int)} (hm : SortL m) (h : ∀ x, x ∈ m ↔ x ∈ l) : m = ordL l := sort_ext hm (ordL_sort l) fun x => by rw [h, ordL_mem]

/-! What is left of an expression, as lists. -/
def behV (q p : List Int) : List Int := if q = [15] then p else q ++ p ++ [19]
theorem post_one {p : KT} (hp : p.ok 0 = true) : p.post = [15] ↔ isOne p = true := by
  constructor
  · intro h
    rw [post_inj hp (b := .leaf 15) (by rfl) h]
    rfl
  · intro h
    rw [one_eq h]
    rfl
theorem behV_post {q b : KT} (hq : q.ok 0 = true) : behV q.post b.post = (behK q b).post := by
  unfold behV behK
  by_cases h : isOne q = true
  · rw [if_pos ((post_one hq).2 h), if_pos h]
  · rw [if_neg (fun e => h ((post_one hq).1 e)), if_neg h]
    rfl
def partsV : KT → Nat → Int → List (List Int)
  | .leaf n, _, c => if n = c then [[15]] else []
  | .star a, α, c => ordL ((partsV a α c).map fun q => behV q (KT.star a).post)
  | .bin o a b, α, c => if o then addsL (partsV a α c) (partsV b α c)
    else addsL (ordL ((partsV a α c).map fun q => behV q b.post)) (if (endsK a).testBit α then partsV b α c else [])
theorem partsV_or (a b : KT) (α : Nat) (c : Int) : partsV (.bin true a b) α c = addsL (partsV a α c) (partsV b α c) := by simp [partsV]
theorem partsV_seq (a b : KT) (α : Nat) (c : Int) : partsV (.bin false a b) α c = addsL (ordL ((partsV a α c).map fun q => behV q b.post)) (if (endsK a).testBit α then partsV b α c else []) := by simp [partsV]
theorem partsV_star (a : KT) (α : Nat) (c : Int) : partsV (.star a) α c = ordL ((partsV a α c).map fun q => behV q (KT.star a).post) := rfl
theorem partsV_sort : ∀ (t : KT) (α : Nat) (c : Int), SortL (partsV t α c)
  | .leaf n, α, c => by
    unfold partsV
    split
    · simp [SortL]
    · exact sort_nil
  | .star a, α, c => ordL_sort _
  | .bin true a b, α, c => by rw [partsV_or]; exact addsL_sort (partsV_sort a α c)
  | .bin false a b, α, c => by rw [partsV_seq]; exact addsL_sort (ordL_sort _)
theorem partsV_mem : ∀ {t : KT}, t.ok 0 = true → ∀ {α : Nat} {c : Int} {x : List Int}, x ∈ partsV t α c ↔ ∃ p, ptK t α c p ∧ p.post = x
  | .leaf n, _, α, c, x => by
    unfold partsV
    constructor
    · intro h
      split at h
      · rename_i hn
        simp only [List.mem_singleton] at h
        exact ⟨.leaf 15, (ptK_leaf _ _ _ _).2 ⟨hn, rfl⟩, h.symm⟩
      · cases h
    · rintro ⟨p, h, rfl⟩
      rw [ptK_leaf] at h
      rw [if_pos h.1, h.2]
      simp [KT.post]
  | .star a, ht, α, c, x => by
    rw [partsV_star, ordL_mem, List.mem_map]
    have ha : a.ok 0 = true := ht
    constructor
    · rintro ⟨q, hq, rfl⟩
      obtain ⟨p, h1, rfl⟩ := (partsV_mem ha).1 hq
      exact ⟨behK p (.star a), (ptK_star _ _ _ _).2 ⟨p, h1, rfl⟩, (behV_post (ptK_ok ha h1)).symm⟩
    · rintro ⟨p, h, rfl⟩
      obtain ⟨q, h1, rfl⟩ := (ptK_star _ _ _ _).1 h
      exact ⟨q.post, (partsV_mem ha).2 ⟨q, h1, rfl⟩, behV_post (ptK_ok ha h1)⟩
  | .bin true a b, ht, α, c, x => by
    simp only [KT.ok, Bool.and_eq_true] at ht
    rw [partsV_or, addsL_mem, partsV_mem ht.1, partsV_mem ht.2]
    constructor
    · rintro (⟨p, h, e⟩ | ⟨p, h, e⟩)
      · exact ⟨p, (ptK_or _ _ _ _ _).2 (.inl h), e⟩
      · exact ⟨p, (ptK_or _ _ _ _ _).2 (.inr h), e⟩
    · rintro ⟨p, h, e⟩
      rcases (ptK_or _ _ _ _ _).1 h with h | h
      · exact .inl ⟨p, h, e⟩
      · exact .inr ⟨p, h, e⟩
  | .bin false a b, ht, α, c, x => by
    simp only [KT.ok, Bool.and_eq_true] at ht
    rw [partsV_seq, addsL_mem, ordL_mem, List.mem_map]
    constructor
    · rintro (⟨q, hq, rfl⟩ | h)
      · obtain ⟨p, h1, rfl⟩ := (partsV_mem ht.1).1 hq
        exact ⟨behK p b, (ptK_seq _ _ _ _ _).2 (.inl ⟨p, h1, rfl⟩), (behV_post (ptK_ok ht.1 h1)).symm⟩
      · split at h
        · rename_i hb
          obtain ⟨p, h1, e⟩ := (partsV_mem ht.2).1 h
          exact ⟨p, (ptK_seq _ _ _ _ _).2 (.inr ⟨hb, h1⟩), e⟩
        · cases h
    · rintro ⟨p, h, rfl⟩
      rcases (ptK_seq _ _ _ _ _).1 h with ⟨q, h1, rfl⟩ | ⟨hb, h1⟩
      · exact .inl ⟨q.post, (partsV_mem ht.1).2 ⟨q, h1, rfl⟩, behV_post (ptK_ok ht.1 h1)⟩
      · rw [if_pos hb]
        exact .inr ((partsV_mem ht.2).2 ⟨p, h1, rfl⟩)
/-- There are few parts, and they are short. -/
theorem partsV_len {t : KT} (ht : t.ok 0 = true) {α : Nat} {c : Int} (hc : 16 ≤ c) : (partsV t α c).length ≤ t.size := by
  have h := nodup_len (partsV t α c) ((clK t).map KT.post) (sort_nodup (partsV_sort t α c)) fun x hx => by
    obtain ⟨p, h1, rfl⟩ := (partsV_mem ht).1 hx
    exact List.mem_map.2 ⟨p, pt_cl hc h1, rfl⟩
  rw [List.length_map] at h
  exact Nat.le_trans h (cl_length t)
theorem partsV_short {t : KT} (ht : t.ok 0 = true) {α : Nat} {c : Int} (hc : 16 ≤ c) {x : List Int} (hx : x ∈ partsV t α c) : x.length ≤ t.size * (t.size + 1) := by
  obtain ⟨p, h1, rfl⟩ := (partsV_mem ht).1 hx
  rw [p.post_length]
  exact cl_size (pt_cl hc h1)
end

section
set_option linter.unusedVariables false

/-! All parts of an expression, in the order in which they come. -/
/-- New ones behind a list. -/
def newL (o : List (List Int)) : List (List Int) → List (List Int)
  | [] => o
  | p :: r => newL (if p ∈ o then o else o ++ [p]) r
theorem newL_snoc (p : List Int) : ∀ (ps o : List (List Int)), newL o (ps ++ [p]) = if p ∈ newL o ps then newL o ps else newL o ps ++ [p]
  | [], o => rfl
  | q :: ps, o => newL_snoc p ps _
/-- Behind move m of 0..11: atom m / 3, action 16 + m % 3. -/
def moveP (t : KT) (m : Nat) : List (List Int) := partsV t (m / 3) (16 + ((m % 3 : Nat) : Int))
def rowL (o : List (List Int)) (t : KT) : Nat → List (List Int)
  | 0 => o
  | k + 1 => newL (rowL o t k) (moveP t k)
def allGo : Nat → Nat → List (List Int) → List (List Int)
  | 0, _, o => o
  | f + 1, i, o => if i < o.length then allGo f (i + 1) (rowL o (treeOf (o.getD i [])) 12) else o
def allV (e : List Int) : List (List Int) := allGo 60 0 [e]
theorem allGo_more {f i : Nat} {o : List (List Int)} (h : i < o.length) : allGo (f + 1) i o = allGo f (i + 1) (rowL o (treeOf (o.getD i [])) 12) := by rw [allGo, if_pos h]
theorem allGo_done {f i : Nat} {o : List (List Int)} (h : o.length ≤ i) : allGo (f + 1) i o = o := by rw [allGo, if_neg (by omega)]

/-- Something that parts of parts keep. -/
structure Kept (P : KT → Prop) : Prop where
  ok : ∀ {t}, P t → t.ok 0 = true
  pt : ∀ {t}, P t → ∀ {α : Nat} {c : Int} {p : KT}, α < 4 → 16 ≤ c → ptK t α c p → P p
/-- A list of parts on its way. -/
structure AllI (P : KT → Prop) (o : List (List Int)) : Prop where
  nodup : o.Nodup
  mem : ∀ x ∈ o, ∃ q, P q ∧ q.post = x
theorem AllI.new {P : KT → Prop} : ∀ {ps o : List (List Int)}, AllI P o → (∀ x ∈ ps, ∃ q, P q ∧ q.post = x) → AllI P (newL o ps)
  | [], _, h, _ => h
  | p :: ps, o, h, hp => by
    refine AllI.new (ps := ps) ?_ fun x hx => hp x (List.mem_cons_of_mem _ hx)
    split
    · exact h
    · rename_i hn
      refine ⟨?_, fun x hx => ?_⟩
      · rw [List.nodup_append]
        refine ⟨h.nodup, by simp, fun a ha b hb => ?_⟩
        simp only [List.mem_singleton] at hb
        subst hb
        exact fun e => hn (e ▸ ha)
      · rcases List.mem_append.1 hx with hx | hx
        · exact h.mem x hx
        · simp only [List.mem_singleton] at hx
          subst hx
          exact hp _ (List.mem_cons_self ..)
theorem newL_pre : ∀ (ps o : List (List Int)), ∃ r, newL o ps = o ++ r
  | [], o => ⟨[], by simp [newL]⟩
  | p :: ps, o => by
    unfold newL
    split
    · exact newL_pre ps o
    · obtain ⟨r, h⟩ := newL_pre ps (o ++ [p])
      exact ⟨[p] ++ r, by rw [h, List.append_assoc]⟩
theorem newL_mem {y : List Int} : ∀ {ps o : List (List Int)}, y ∈ newL o ps ↔ y ∈ o ∨ y ∈ ps
  | [], o => by simp [newL]
  | p :: ps, o => by
    unfold newL
    rw [newL_mem, List.mem_cons]
    split
    · rename_i hp
      constructor
      · rintro (h | h)
        · exact .inl h
        · exact .inr (.inr h)
      · rintro (h | rfl | h)
        · exact .inl h
        · exact .inl hp
        · exact .inr h
    · rw [List.mem_append, List.mem_singleton]
      constructor
      · rintro ((h | h) | h)
        · exact .inl h
        · exact .inr (.inl h)
        · exact .inr (.inr h)
      · rintro (h | h | h)
        · exact .inl (.inl h)
        · exact .inl (.inr h)
        · exact .inr h
theorem rowL_pre (o : List (List Int)) (t : KT) : ∀ k, ∃ r, rowL o t k = o ++ r
  | 0 => ⟨[], by simp [rowL]⟩
  | k + 1 => by
    obtain ⟨r, h⟩ := rowL_pre o t k
    obtain ⟨s, h2⟩ := newL_pre (moveP t k) (rowL o t k)
    exact ⟨r ++ s, by rw [rowL, h2, h, List.append_assoc]⟩
theorem rowL_mem {o : List (List Int)} {t : KT} {y : List Int} : ∀ {k : Nat}, y ∈ rowL o t k ↔ y ∈ o ∨ ∃ m, m < k ∧ y ∈ moveP t m
  | 0 => by simp [rowL]
  | k + 1 => by
    rw [rowL, newL_mem, rowL_mem]
    constructor
    · rintro ((h | ⟨m, h1, h2⟩) | h)
      · exact .inl h
      · exact .inr ⟨m, by omega, h2⟩
      · exact .inr ⟨k, by omega, h⟩
    · rintro (h | ⟨m, h1, h2⟩)
      · exact .inl (.inl h)
      · by_cases hm : m = k
        · subst hm; exact .inr h2
        · exact .inl (.inr ⟨m, by omega, h2⟩)
theorem moveP_kept {P : KT → Prop} (hP : Kept P) {t : KT} (ht : P t) {m : Nat} (hm : m < 12) : ∀ x ∈ moveP t m, ∃ q, P q ∧ q.post = x := by
  intro x hx
  obtain ⟨p, h1, e⟩ := (partsV_mem (hP.ok ht)).1 hx
  exact ⟨p, hP.pt ht (by omega) (by omega) h1, e⟩
theorem AllI.row {P : KT → Prop} (hP : Kept P) {o : List (List Int)} (h : AllI P o) {t : KT} (ht : P t) : ∀ {k : Nat}, k ≤ 12 → AllI P (rowL o t k)
  | 0, _ => h
  | k + 1, hk => AllI.new (AllI.row hP h ht (k := k) (by omega)) (moveP_kept hP ht (by omega))
theorem AllI.tree {P : KT → Prop} (hP : Kept P) {o : List (List Int)} (h : AllI P o) {i : Nat} (hi : i < o.length) : P (treeOf (o.getD i [])) ∧ (treeOf (o.getD i [])).post = o.getD i [] := by
  rw [show o.getD i [] = o[i] by simp [List.getD, List.getElem?_eq_getElem hi]]
  obtain ⟨q, h1, h2⟩ := h.mem _ (List.getElem_mem hi)
  rw [← h2, treeOf_post (hP.ok h1)]
  exact ⟨h1, rfl⟩
theorem AllI.one {P : KT → Prop} {t : KT} (h : P t) : AllI P [t.post] := ⟨by simp, fun x hx => by
  simp only [List.mem_singleton] at hx
  exact ⟨t, h, hx.symm⟩⟩
/-- What an expression comes to. -/
def Cl (t0 : KT) (t : KT) : Prop := t ∈ t0 :: clK t0
theorem Cl.kept {t0 : KT} (h : t0.ok 0 = true) : Kept (Cl t0) where
  ok := fun {t} ht => by
    rcases List.mem_cons.1 ht with rfl | ht
    · exact h
    · exact cl_ok h t ht
  pt := fun {t} ht α c p _ hc hp => by
    rcases List.mem_cons.1 ht with rfl | ht
    · exact List.mem_cons_of_mem _ (pt_cl hc hp)
    · exact List.mem_cons_of_mem _ (cl_pt hc ht hp)
theorem Cl.size {t0 t : KT} (h : Cl t0 t) (hs : t0.size ≤ 40) : t.size ≤ 1640 := by
  rcases List.mem_cons.1 h with rfl | h
  · omega
  · have := cl_size h
    have h2 : t0.size * (t0.size + 1) ≤ 40 * 41 := Nat.mul_le_mul hs (by omega)
    omega
theorem AllI.len {t0 : KT} {o : List (List Int)} (h : AllI (Cl t0) o) (hs : t0.size ≤ 40) : o.length ≤ 41 := by
  have h1 := nodup_len o ((t0 :: clK t0).map KT.post) h.nodup fun x hx => by
    obtain ⟨q, h1, h2⟩ := h.mem x hx
    exact List.mem_map.2 ⟨q, h1, h2⟩
  have h2 := cl_length t0
  simp only [List.length_map, List.length_cons] at h1
  omega
/-- All before a place are done. -/
def DoneL (o : List (List Int)) (i : Nat) : Prop := ∀ j, j < i → j < o.length → ∀ m, m < 12 → ∀ y ∈ moveP (treeOf (o.getD j [])) m, y ∈ o
theorem DoneL.row {o : List (List Int)} {i : Nat} (h : DoneL o i) (hi : i < o.length) : DoneL (rowL o (treeOf (o.getD i [])) 12) (i + 1) := by
  obtain ⟨r, hr⟩ := rowL_pre o (treeOf (o.getD i [])) 12
  intro j hj hjl m hm y hy
  have hjo : j < o.length := by omega
  have e : (rowL o (treeOf (o.getD i [])) 12).getD j [] = o.getD j [] := by
    rw [hr]; simp [List.getD, List.getElem?_append_left hjo]
  rw [e] at hy
  rw [rowL_mem]
  by_cases hji : j = i
  · subst hji
    exact .inr ⟨m, hm, hy⟩
  · exact .inl (h j (by omega) hjo m hm y hy)
theorem allGo_all {t0 : KT} (ht : t0.ok 0 = true) (hs : t0.size ≤ 40) {P : KT → Prop} (hP : Kept P) : ∀ (f i : Nat) (o : List (List Int)), 42 ≤ f + i → AllI (Cl t0) o → AllI P o → DoneL o i →
    AllI (Cl t0) (allGo f i o) ∧ AllI P (allGo f i o) ∧ DoneL (allGo f i o) (allGo f i o).length ∧ ∃ r, allGo f i o = o ++ r
  | 0, i, o, hf, h1, h2, h3 => by
    have := h1.len hs
    exact ⟨h1, h2, fun j hj hjl => h3 j (by have h : j < o.length := hj; omega) hjl, [], by simp [allGo]⟩
  | f + 1, i, o, hf, h1, h2, h3 => by
    by_cases hi : i < o.length
    · rw [allGo_more hi]
      obtain ⟨a1, a2, a3, r, a4⟩ := allGo_all ht hs hP f (i + 1) _ (by omega) (h1.row (Cl.kept ht) (h1.tree (Cl.kept ht) hi).1 (Nat.le_refl _)) (h2.row hP (h2.tree hP hi).1 (Nat.le_refl _)) (h3.row hi)
      obtain ⟨s, hs'⟩ := rowL_pre o (treeOf (o.getD i [])) 12
      exact ⟨a1, a2, a3, s ++ r, by rw [a4, hs', List.append_assoc]⟩
    · rw [allGo_done (by omega)]
      exact ⟨h1, h2, fun j hj hjl => h3 j (by omega) hjl, [], by simp⟩
/-- What is known of all parts. -/
structure AllR (t0 : KT) (L : List (List Int)) : Prop where
  cl : AllI (Cl t0) L
  len : L.length ≤ 41
  first : L[0]? = some t0.post
  done : ∀ x ∈ L, ∀ m, m < 12 → ∀ y ∈ moveP (treeOf x) m, y ∈ L
theorem allV_all {t0 : KT} (ht : t0.ok 0 = true) (hs : t0.size ≤ 40) : AllR t0 (allV t0.post) := by
  have h0 : AllI (Cl t0) [t0.post] := AllI.one (List.mem_cons_self ..)
  obtain ⟨a1, _, a3, r, a4⟩ := allGo_all ht hs (Cl.kept ht) 60 0 [t0.post] (by omega) h0 h0 (fun j hj => by omega)
  refine ⟨a1, a1.len hs, by show (allGo 60 0 [t0.post])[0]? = _; rw [a4]; rfl, fun x hx m hm y hy => ?_⟩
  obtain ⟨j, hj, e⟩ := List.getElem_of_mem hx
  refine a3 j hj hj m hm y ?_
  rw [show (allGo 60 0 [t0.post]).getD j [] = x by rw [show allGo 60 0 [t0.post] = allV t0.post from rfl, List.getD, List.getElem?_eq_getElem hj, Option.getD_some]; exact e]
  exact hy
theorem allV_kept {t0 : KT} (ht : t0.ok 0 = true) (hs : t0.size ≤ 40) {P : KT → Prop} (hP : Kept P) (h : P t0) : ∀ x ∈ allV t0.post, ∃ q, P q ∧ q.post = x :=
  (allGo_all ht hs hP 60 0 [t0.post] (by omega) (AllI.one (List.mem_cons_self ..)) (AllI.one h) (fun j hj => by omega)).2.1.mem

/-! Whether an expression never has to choose. -/
def leftN (t : KT) (α : Nat) : Nat := (moveP t (3 * α)).length + (moveP t (3 * α + 1)).length + (moveP t (3 * α + 2)).length
def detB (x : List Int) : Bool := (List.range 4).all fun α => decide (leftN (treeOf x) α ≤ 1) && (decide (leftN (treeOf x) α = 0) || !(endsK (treeOf x)).testBit α)
def detV (e : List Int) : Bool := katV e && (allV e).all detB
theorem Dt.kept : Kept (fun t => t.ok 0 = true ∧ Dt t) where
  ok := fun h => h.1
  pt := fun h _ _ _ _ hc hp => ⟨ptK_ok h.1 hp, h.2.part hc hp⟩
theorem nodup_one {α : Type} {l : List α} (h : l.Nodup) (hs : ∀ x ∈ l, ∀ y ∈ l, x = y) : l.length ≤ 1 := by
  match l, h with
  | [], _ => simp
  | [_], _ => simp
  | a :: b :: r, h =>
    rw [List.nodup_cons] at h
    have := hs a (by simp) b (by simp)
    subst this
    exact absurd (List.mem_cons_self ..) h.1
theorem move_dt {t : KT} (ht : t.ok 0 = true) (h : Dt t) {α k j : Nat} (hα : α < 4) (hk : k < 3) (hj : j < 3) {x y : List Int} (hx : x ∈ moveP t (3 * α + k)) (hy : y ∈ moveP t (3 * α + j)) : k = j ∧ x = y := by
  unfold moveP at hx hy
  rw [show (3 * α + k) / 3 = α by omega, show (3 * α + k) % 3 = k by omega] at hx
  rw [show (3 * α + j) / 3 = α by omega, show (3 * α + j) % 3 = j by omega] at hy
  obtain ⟨p, h1, rfl⟩ := (partsV_mem ht).1 hx
  obtain ⟨q, h2, rfl⟩ := (partsV_mem ht).1 hy
  obtain ⟨e1, e2⟩ := (h.det hα).1 (by omega) (by omega) h1 h2
  exact ⟨by omega, by rw [e2]⟩
theorem left_dt {t : KT} (ht : t.ok 0 = true) (h : Dt t) {α : Nat} (hα : α < 4) : leftN t α ≤ 1 ∧ (leftN t α = 0 ∨ (endsK t).testBit α = false) := by
  have one : ∀ k, k < 3 → (moveP t (3 * α + k)).length ≤ 1 := fun k hk =>
    nodup_one (sort_nodup (partsV_sort _ _ _)) fun x hx y hy => (move_dt ht h hα hk hk hx hy).2
  have two : ∀ k j, k < 3 → j < 3 → k ≠ j → (moveP t (3 * α + k)).length = 0 ∨ (moveP t (3 * α + j)).length = 0 := fun k j hk hj hn => by
    cases hx : moveP t (3 * α + k) with
    | nil => exact .inl rfl
    | cons x r =>
      cases hy : moveP t (3 * α + j) with
      | nil => exact .inr rfl
      | cons y s => exact absurd (move_dt ht h hα hk hj (x := x) (y := y) (by rw [hx]; simp) (by rw [hy]; simp)).1 hn
  have o0 := one 0 (by omega)
  have o1 := one 1 (by omega)
  have o2 := one 2 (by omega)
  have t01 := two 0 1 (by omega) (by omega) (by omega)
  have t02 := two 0 2 (by omega) (by omega) (by omega)
  have t12 := two 1 2 (by omega) (by omega) (by omega)
  rw [Nat.add_zero] at o0 t01 t02
  refine ⟨by unfold leftN; omega, ?_⟩
  by_cases h0 : leftN t α = 0
  · exact .inl h0
  · right
    have : ∃ k, k < 3 ∧ 0 < (moveP t (3 * α + k)).length := by
      unfold leftN at h0
      by_cases a0 : 0 < (moveP t (3 * α)).length
      · exact ⟨0, by omega, a0⟩
      · by_cases a1 : 0 < (moveP t (3 * α + 1)).length
        · exact ⟨1, by omega, a1⟩
        · exact ⟨2, by omega, by omega⟩
    obtain ⟨k, hk, hl⟩ := this
    have hx := List.getElem_mem hl
    generalize (moveP t (3 * α + k))[0] = x at hx
    unfold moveP at hx
    rw [show (3 * α + k) / 3 = α by omega, show (3 * α + k) % 3 = k by omega] at hx
    obtain ⟨p, h1, _⟩ := (partsV_mem ht).1 hx
    exact (h.det hα).2 (by omega) h1
/-- Programs never choose. -/
theorem det_prog {T : PT} (h : T.ok = true) (hs : T.kat.size ≤ 40) : detV T.kat.post = true := by
  have hk := PT.kat_ok h
  rw [detV, katV_post hk hs, Bool.true_and, List.all_eq_true]
  intro x hx
  obtain ⟨q, ⟨hq1, hq2⟩, rfl⟩ := allV_kept hk hs Dt.kept ⟨hk, PT.dt h⟩ x hx
  rw [detB, treeOf_post hq1, List.all_eq_true]
  intro α hα
  obtain ⟨h1, h2⟩ := left_dt hq1 hq2 (List.mem_range.1 hα)
  simp only [Bool.and_eq_true, Bool.or_eq_true, decide_eq_true_eq, Bool.not_eq_true']
  exact ⟨h1, h2⟩
end

section
set_option linter.unusedVariables false

/-! Automata of expressions. -/
structure Au where
  ends : List Int
  next : List (List Int)
/-- The set of the parts that are left behind a move. -/
noncomputable def setL (L : List (List Int)) (x : List Int) (m : Nat) : Nat := bitsN L.length fun j => L.getD j [] ∈ moveP (treeOf x) m
noncomputable def nextL (L : List (List Int)) (x : List Int) : List Int := (List.range 12).map fun m => ((setL L x m : Nat) : Int)
def endL (x : List Int) : Int := ((endsK (treeOf x) : Nat) : Int)
noncomputable def autV (e : List Int) : Au := if katV e && decide ((allV e).length ≤ 10) then ⟨(allV e).map endL, (allV e).map (nextL (allV e))⟩ else ⟨[], []⟩
def stepU (a : Au) (set m : Nat) : Nat := imgT (a.next.map fun r : List Int => r.getD m 0) set a.ends.length
def endsU (a : Au) (set : Nat) : Nat := imgT a.ends set a.ends.length
/-- What is known of an automaton of an expression. -/
structure AuR (t0 : KT) (L : List (List Int)) (a : Au) : Prop where
  all : AllR t0 L
  le : L.length ≤ 10
  ends : a.ends = L.map endL
  next : a.next = L.map (nextL L)
theorem autV_open {e : List Int} (h : (autV e).ends ≠ []) : ∃ t0 : KT, t0.ok 0 = true ∧ t0.size ≤ 40 ∧ t0.post = e ∧ katV e = true ∧ AuR t0 (allV e) (autV e) := by
  unfold autV at h
  split at h
  · rename_i hc
    have hc' := hc
    simp only [Bool.and_eq_true, decide_eq_true_eq] at hc
    obtain ⟨t, h1, h2, _, h4⟩ := katV_tree hc.1
    refine ⟨t, h1, h4, h2, hc.1, ?_, hc.2, ?_, ?_⟩
    · have := allV_all h1 h4
      rwa [h2] at this
    · unfold autV; rw [if_pos hc']
    · unfold autV; rw [if_pos hc']
  · exact absurd rfl h
theorem ends_small : ∀ {t : KT}, t.ok 0 = true → endsK t < 2 ^ 4
  | .leaf n, h => by
    simp only [KT.ok, Bool.and_eq_true, decide_eq_true_eq] at h
    unfold endsK
    split <;> omega
  | .star a, _ => by simp [endsK]
  | .bin p a b, h => by
    simp only [KT.ok, Bool.and_eq_true] at h
    have ha := ends_small h.1
    have hb := ends_small h.2
    unfold endsK
    split
    · exact Nat.or_lt_two_pow ha hb
    · exact Nat.and_lt_two_pow _ hb
section
variable {t0 : KT} {L : List (List Int)} {a : Au}
theorem AuR.tree (h : AuR t0 L a) (ht : t0.ok 0 = true) {j : Nat} (hj : j < L.length) : (treeOf L[j]).ok 0 = true ∧ (treeOf L[j]).post = L[j] := by
  obtain ⟨q, h1, h2⟩ := h.all.cl.mem _ (List.getElem_mem hj)
  have hq := (Cl.kept ht).ok h1
  rw [← h2, treeOf_post hq]
  exact ⟨hq, rfl⟩
theorem AuR.ends_len (h : AuR t0 L a) : a.ends.length = L.length := by rw [h.ends]; simp
theorem AuR.next_len (h : AuR t0 L a) : a.next.length = L.length := by rw [h.next]; simp
theorem AuR.ends_get (h : AuR t0 L a) {j : Nat} (hj : j < L.length) : (a.ends.getD j 0).toNat = endsK (treeOf L[j]) := by
  rw [h.ends]
  simp [List.getD, hj, endL]
theorem AuR.next_get (h : AuR t0 L a) {j m : Nat} (hj : j < L.length) (hm : m < 12) : ((a.next.map fun r : List Int => r.getD m 0).getD j 0).toNat = setL L L[j] m := by
  rw [h.next]
  simp [List.getD, hj, nextL, hm]
theorem AuR.step_bit (h : AuR t0 L a) {set m j : Nat} (hm : m < 12) (hj : j < L.length) : (stepU a set m).testBit j = true ↔ ∃ s, ∃ hs : s < L.length, set.testBit s = true ∧ L[j] ∈ moveP (treeOf L[s]) m := by
  rw [stepU, imgT_bit, h.ends_len]
  constructor
  · rintro ⟨s, h1, h2, h3⟩
    rw [h.next_get h1 hm, setL, bitsN_bit] at h3
    refine ⟨s, h1, h2, ?_⟩
    have := h3.2
    rwa [show L.getD j [] = L[j] by simp [List.getD, List.getElem?_eq_getElem hj]] at this
  · rintro ⟨s, h1, h2, h3⟩
    refine ⟨s, h1, h2, ?_⟩
    rw [h.next_get h1 hm, setL, bitsN_bit]
    refine ⟨hj, ?_⟩
    rwa [show L.getD j [] = L[j] by simp [List.getD, List.getElem?_eq_getElem hj]]
theorem AuR.step_lt (h : AuR t0 L a) (set : Nat) {m : Nat} (hm : m < 12) : stepU a set m < 2 ^ L.length := by
  refine imgT_lt (fun s hs => ?_) set _
  have hs' : s < L.length := by rw [List.length_map, h.next_len] at hs; exact hs
  have := h.next_get hs' hm
  rw [show (a.next.map fun r : List Int => r.getD m 0)[s] = (a.next.map fun r : List Int => r.getD m 0).getD s 0 by rw [List.getD_eq_getElem?_getD, List.getElem?_eq_getElem hs, Option.getD_some], this]
  exact bitsN_lt _ _
theorem AuR.ends_bit (h : AuR t0 L a) {set α : Nat} : (endsU a set).testBit α = true ↔ ∃ s, ∃ hs : s < L.length, set.testBit s = true ∧ (endsK (treeOf L[s])).testBit α = true := by
  rw [endsU, imgT_bit, h.ends_len]
  constructor
  · rintro ⟨s, h1, h2, h3⟩
    rw [h.ends_get h1] at h3
    exact ⟨s, h1, h2, h3⟩
  · rintro ⟨s, h1, h2, h3⟩
    exact ⟨s, h1, h2, by rw [h.ends_get h1]; exact h3⟩
theorem AuR.ends_lt (h : AuR t0 L a) (ht : t0.ok 0 = true) (set : Nat) : endsU a set < 2 ^ 4 := by
  refine imgT_lt (fun s hs => ?_) set _
  have hs' : s < L.length := by rw [h.ends_len] at hs; exact hs
  have := h.ends_get hs'
  rw [show a.ends[s] = a.ends.getD s 0 by rw [List.getD_eq_getElem?_getD, List.getElem?_eq_getElem hs, Option.getD_some], this]
  exact ends_small (h.tree ht hs').1
end

/-! What is reached along moves. -/
inductive Alg (t0 : KT) : List Nat → KT → Prop where
  | nil : Alg t0 [] t0
  | snoc {ms : List Nat} {m : Nat} {q p : KT} : Alg t0 ms q → m < 12 → ptK q (m / 3) (16 + ((m % 3 : Nat) : Int)) p → Alg t0 (ms ++ [m]) p
theorem Alg.cl {t0 : KT} (ht : t0.ok 0 = true) {ms : List Nat} {q : KT} (h : Alg t0 ms q) : Cl t0 q := by
  induction h with
  | nil => exact List.mem_cons_self ..
  | snoc _ hm h ih => exact (Cl.kept ht).pt ih (by omega) (by omega) h
theorem alg_snoc {t0 : KT} {ms : List Nat} {m : Nat} {p : KT} (h : Alg t0 (ms ++ [m]) p) : m < 12 ∧ ∃ q, Alg t0 ms q ∧ ptK q (m / 3) (16 + ((m % 3 : Nat) : Int)) p := by
  generalize he : ms ++ [m] = l at h
  cases h with
  | nil => simp at he
  | @snoc ms' m' q p' h1 h2 h3 =>
    obtain ⟨e1, e2⟩ := List.append_inj_right' he (by simp) |> fun e => (⟨List.append_inj_left' he (by simp), e⟩ : ms = ms' ∧ [m] = [m'])
    injection e2 with e2
    subst e1 e2
    exact ⟨h2, q, h1, h3⟩
/-- A set of states holds what is reached. -/
structure SetR (t0 : KT) (L : List (List Int)) (ms : List Nat) (set : Nat) : Prop where
  lt : set < 2 ^ L.length
  bit : ∀ j (hj : j < L.length), set.testBit j = true ↔ ∃ q, Alg t0 ms q ∧ q.post = L[j]
theorem AuR.reached {t0 : KT} {L : List (List Int)} {a : Au} (h : AuR t0 L a) (ht : t0.ok 0 = true) : ∀ (ms : List Nat) {q : KT}, Alg t0 ms q → ∃ j, ∃ hj : j < L.length, q.post = L[j] := by
  intro ms q hq
  have key : q.post ∈ L := by
    induction hq with
    | nil => exact List.mem_of_getElem? h.all.first
    | @snoc ms m q p h1 h2 h3 ih =>
      refine h.all.done _ ih m h2 _ ?_
      have hq := (Cl.kept ht).ok (h1.cl ht)
      rw [treeOf_post hq]
      exact (partsV_mem hq).2 ⟨p, h3, rfl⟩
  obtain ⟨j, hj, e⟩ := List.getElem_of_mem key
  exact ⟨j, hj, e.symm⟩
theorem SetR.start {t0 : KT} {L : List (List Int)} {a : Au} (h : AuR t0 L a) : SetR t0 L [] 1 where
  lt := by
    have h1 := h.all.first
    have h2 : 0 < L.length := by
      cases L with
      | nil => cases h1
      | cons => simp
    exact Nat.one_lt_two_pow (by omega)
  bit := fun j hj => by
    have h1 := h.all.first
    have hj0 : 0 < L.length := by omega
    rw [List.getElem?_eq_getElem hj0] at h1
    injection h1 with h1
    rw [show (1 : Nat) = 2 ^ 0 by rfl, Nat.testBit_two_pow]
    constructor
    · intro he
      have : j = 0 := (of_decide_eq_true he).symm
      subst this
      exact ⟨t0, .nil, h1.symm⟩
    · rintro ⟨q, hq, e⟩
      have hq' : q = t0 := by
        generalize hm : ([] : List Nat) = ms at hq
        cases hq with
        | nil => rfl
        | snoc _ _ _ => simp at hm
      subst hq'
      have hd := List.pairwise_iff_getElem.1 h.all.cl.nodup
      have he : L[0] = L[j] := by rw [h1, e]
      by_cases h0 : j = 0
      · simp [h0]
      · exact absurd he (hd 0 j hj0 hj (by omega))
theorem SetR.step {t0 : KT} {L : List (List Int)} {a : Au} (h : AuR t0 L a) (ht : t0.ok 0 = true) {ms : List Nat} {set m : Nat} (hm : m < 12) (hs : SetR t0 L ms set) : SetR t0 L (ms ++ [m]) (stepU a set m) where
  lt := h.step_lt set hm
  bit := fun j hj => by
    rw [h.step_bit hm hj]
    constructor
    · rintro ⟨s, h1, h2, h3⟩
      obtain ⟨q, hq, e⟩ := (hs.bit s h1).1 h2
      have hqo := (Cl.kept ht).ok (hq.cl ht)
      rw [← e, treeOf_post hqo] at h3
      obtain ⟨p, hp, e2⟩ := (partsV_mem hqo).1 h3
      exact ⟨p, hq.snoc hm hp, e2⟩
    · rintro ⟨p, hp, e⟩
      obtain ⟨_, q, hq, hqp⟩ := alg_snoc hp
      obtain ⟨s, h1, e2⟩ := h.reached ht ms hq
      have hqo := (Cl.kept ht).ok (hq.cl ht)
      refine ⟨s, h1, (hs.bit s h1).2 ⟨q, hq, e2⟩, ?_⟩
      rw [← e2, treeOf_post hqo, ← e]
      exact (partsV_mem hqo).2 ⟨p, hqp, rfl⟩
theorem SetR.ends {t0 : KT} {L : List (List Int)} {a : Au} (h : AuR t0 L a) (ht : t0.ok 0 = true) {ms : List Nat} {set α : Nat} (hs : SetR t0 L ms set) : (endsU a set).testBit α = true ↔ ∃ q, Alg t0 ms q ∧ (endsK q).testBit α = true := by
  rw [h.ends_bit]
  constructor
  · rintro ⟨s, h1, h2, h3⟩
    obtain ⟨q, hq, e⟩ := (hs.bit s h1).1 h2
    rw [← e, treeOf_post ((Cl.kept ht).ok (hq.cl ht))] at h3
    exact ⟨q, hq, h3⟩
  · rintro ⟨q, hq, h3⟩
    obtain ⟨s, h1, e⟩ := h.reached ht ms hq
    refine ⟨s, h1, (hs.bit s h1).2 ⟨q, hq, e⟩, ?_⟩
    rw [← e, treeOf_post ((Cl.kept ht).ok (hq.cl ht))]
    exact h3

/-! Traces of moves. -/
def moveT (m : Nat) (r : Tr) : Tr := if h : m < 12 then .step ⟨m / 3, by omega⟩ ⟨m % 3, by omega⟩ r else r
def trOf (ms : List Nat) (α : Fin 4) : Tr := ms.foldr moveT (.fin α)
theorem alg_nil {t0 q : KT} (h : Alg t0 [] q) : q = t0 := by
  generalize hm : ([] : List Nat) = ms at h
  cases h with
  | nil => rfl
  | snoc _ _ _ => simp at hm
theorem alg_in {t0 : KT} {α : Fin 4} : ∀ (rest : List Nat), (∀ m ∈ rest, m < 12) → ∀ done : List Nat, (∃ q, Alg t0 done q ∧ inD (trOf rest α) q) ↔ ∃ q, Alg t0 (done ++ rest) q ∧ (endsK q).testBit α.val = true
  | [], _, done => by rw [List.append_nil]; exact Iff.rfl
  | m :: r, h, done => by
    have hm : m < 12 := h m (by simp)
    have ih := alg_in (t0 := t0) (α := α) r (fun x hx => h x (by simp [hx])) (done ++ [m])
    rw [List.append_assoc, List.singleton_append] at ih
    rw [← ih]
    have e : trOf (m :: r) α = .step ⟨m / 3, by omega⟩ ⟨m % 3, by omega⟩ (trOf r α) := by
      show moveT m (trOf r α) = _
      rw [moveT, dif_pos hm]
    rw [e]
    constructor
    · rintro ⟨q, hq, p, hp, hi⟩
      exact ⟨p, hq.snoc hm hp, hi⟩
    · rintro ⟨p, hp, hi⟩
      obtain ⟨_, q, hq, hqp⟩ := alg_snoc hp
      exact ⟨q, hq, p, hqp, hi⟩
theorem alg_tr {t0 : KT} {α : Fin 4} {ms : List Nat} (h : ∀ m ∈ ms, m < 12) : inD (trOf ms α) t0 ↔ ∃ q, Alg t0 ms q ∧ (endsK q).testBit α.val = true := by
  rw [← List.nil_append ms, ← alg_in ms h [], List.nil_append]
  constructor
  · exact fun hi => ⟨t0, .nil, hi⟩
  · rintro ⟨q, hq, hi⟩
    rw [alg_nil hq] at hi
    exact hi

/-! Two automata together. -/
def nextP (a b : Au) (p : Nat × Nat) (m : Nat) : Nat × Nat := (stepU a p.1 m, stepU b p.2 m)
def apartP (a b : Au) (p : Nat × Nat) : Nat := endsU a p.1 ^^^ endsU b p.2
def prow (a b : Au) (o : List (Nat × Nat)) (p : Nat × Nat) : Nat → List (Nat × Nat)
  | 0 => o
  | k + 1 => if nextP a b p k ∈ prow a b o p k then prow a b o p k else prow a b o p k ++ [nextP a b p k]
def pairGo (a b : Au) : Nat → Nat → List (Nat × Nat) → Option (List (Nat × Nat))
  | 0, _, o => some o
  | f + 1, i, o => if i < o.length then (if 100 < (prow a b o (o.getD i (0, 0)) 12).length then none else pairGo a b f (i + 1) (prow a b o (o.getD i (0, 0)) 12)) else some o
def pairsA (a b : Au) : Option (List (Nat × Nat)) := pairGo a b 102 0 [(1, 1)]
noncomputable def pairsV (e f : List Int) : Option (List (Nat × Nat)) := if (autV e).ends = [] ∨ (autV f).ends = [] then none else pairsA (autV e) (autV f)
def okP (a b : Au) (ps : List (Nat × Nat)) : Bool := decide (ps.length ≤ 100) && decide ((1, 1) ∈ ps) && ps.all fun p => decide (p.1 < 2 ^ a.ends.length) && decide (p.2 < 2 ^ b.ends.length) && (apartP a b p == 0) && (List.range 12).all fun m => decide (nextP a b p m ∈ ps)
/-! The first one of the shortest traces of just one of both. -/
abbrev Way2 := (Nat × Nat) × List Int
def lowBit (x : Nat) : Option Nat := (List.range 4).find? fun k => x.testBit k
def hitW (a b : Au) (w : Way2) : Option (List Int) := (lowBit (apartP a b w.1)).map fun k => w.2 ++ [((k : Nat) : Int)]
def hitL (a b : Au) : List Way2 → Option (List Int)
  | [] => none
  | w :: r => match hitW a b w with
    | some t => some t
    | none => hitL a b r
def goW (a b : Au) (w : Way2) (s : List (Nat × Nat) × List Way2) : Nat → List (Nat × Nat) × List Way2
  | 0 => s
  | k + 1 => if nextP a b w.1 k ∈ (goW a b w s k).1 then goW a b w s k else ((goW a b w s k).1 ++ [nextP a b w.1 k], (goW a b w s k).2 ++ [(nextP a b w.1 k, w.2 ++ [((k / 3 : Nat) : Int), 16 + ((k % 3 : Nat) : Int)])])
def goL (a b : Au) (s : List (Nat × Nat) × List Way2) : List Way2 → List (Nat × Nat) × List Way2
  | [] => s
  | w :: r => goL a b (goW a b w s 12) r
def levGo (a b : Au) : Nat → List (Nat × Nat) → List Way2 → Option (List Int)
  | 0, _, _ => none
  | f + 1, seen, l => match hitL a b l with
    | some t => some t
    | none => levGo a b f (goL a b (seen, []) l).1 (goL a b (seen, []) l).2
noncomputable def differV (e f : List Int) : Option (List Int) := if (pairsV e f).isSome then levGo (autV e) (autV f) 21 [(1, 1)] [((1, 1), [])] else none
noncomputable def equalV (e f : List Int) : Int := if okP (autV e) (autV f) ((pairsV e f).getD []) then 1 else if (differV e f).isSome then 0 else -1

/-! What is told to differ differs. -/
/-- A way is reached by its moves. -/
def Wy (a b : Au) (w : Way2) : Prop := ∃ ms : List Nat, (∀ m ∈ ms, m < 12) ∧ w.2 = ms.flatMap (fun m => [((m / 3 : Nat) : Int), 16 + ((m % 3 : Nat) : Int)]) ∧ w.1 = ms.foldl (nextP a b) (1, 1)
theorem goW_wy {a b : Au} {w : Way2} (hw : Wy a b w) {s : List (Nat × Nat) × List Way2} (hs : ∀ x ∈ s.2, Wy a b x) : ∀ k, k ≤ 12 → ∀ x ∈ (goW a b w s k).2, Wy a b x
  | 0, _ => hs
  | k + 1, hk => by
    have ih := goW_wy hw hs k (by omega)
    intro x hx
    unfold goW at hx
    split at hx
    · exact ih x hx
    · rcases List.mem_append.1 hx with hx | hx
      · exact ih x hx
      · simp only [List.mem_singleton] at hx
        subst hx
        obtain ⟨ms, h1, h2, h3⟩ := hw
        refine ⟨ms ++ [k], fun m hm => ?_, ?_, ?_⟩
        · rcases List.mem_append.1 hm with hm | hm
          · exact h1 m hm
          · simp only [List.mem_singleton] at hm; omega
        · simp [h2]
        · simp [h3]
theorem goL_wy {a b : Au} : ∀ (l : List Way2), (∀ x ∈ l, Wy a b x) → ∀ s : List (Nat × Nat) × List Way2, (∀ x ∈ s.2, Wy a b x) → ∀ x ∈ (goL a b s l).2, Wy a b x
  | [], _, _, hs => hs
  | w :: r, hl, s, hs => by
    intro x hx
    rw [goL] at hx
    exact goL_wy r (fun x hx => hl x (by simp [hx])) _ (goW_wy (hl w (by simp)) hs 12 (Nat.le_refl _)) x hx
theorem lowBit_some {x k : Nat} (h : lowBit x = some k) : k < 4 ∧ x.testBit k = true := by
  have h1 := List.find?_some h
  have h2 := List.mem_of_find?_eq_some h
  exact ⟨List.mem_range.1 h2, h1⟩
theorem hitL_wy {a b : Au} {t : List Int} : ∀ (l : List Way2), (∀ x ∈ l, Wy a b x) → hitL a b l = some t → ∃ w k, Wy a b w ∧ k < 4 ∧ (apartP a b w.1).testBit k = true
  | [], _, h => by cases h
  | w :: r, hl, h => by
    unfold hitL at h
    split at h
    · rename_i t' ht
      unfold hitW at ht
      obtain ⟨k, hk, _⟩ := Option.map_eq_some_iff.1 ht
      obtain ⟨h1, h2⟩ := lowBit_some hk
      exact ⟨w, k, hl w (by simp), h1, h2⟩
    · exact hitL_wy r (fun x hx => hl x (by simp [hx])) h
theorem levGo_wy {a b : Au} {t : List Int} : ∀ (f : Nat) (seen : List (Nat × Nat)) (l : List Way2), (∀ x ∈ l, Wy a b x) → levGo a b f seen l = some t → ∃ w k, Wy a b w ∧ k < 4 ∧ (apartP a b w.1).testBit k = true
  | 0, _, _, _, h => by cases h
  | f + 1, seen, l, hl, h => by
    unfold levGo at h
    split at h
    · rename_i t' ht
      exact hitL_wy l hl ht
    · exact levGo_wy f _ _ (goL_wy l hl (seen, []) (fun x hx => by cases hx)) h
theorem fold_next (a b : Au) : ∀ (ms : List Nat) (p : Nat × Nat), (ms.foldl (nextP a b) p).1 = ms.foldl (stepU a) p.1 ∧ (ms.foldl (nextP a b) p).2 = ms.foldl (stepU b) p.2
  | [], _ => ⟨rfl, rfl⟩
  | m :: r, p => fold_next a b r (nextP a b p m)
theorem fold_set {t0 : KT} {L : List (List Int)} {a : Au} (h : AuR t0 L a) (ht : t0.ok 0 = true) : ∀ (ms : List Nat), (∀ m ∈ ms, m < 12) → ∀ (pre : List Nat) (set : Nat), SetR t0 L pre set → SetR t0 L (pre ++ ms) (ms.foldl (stepU a) set)
  | [], _, pre, set, hs => by rw [List.append_nil]; exact hs
  | m :: r, hm, pre, set, hs => by
    have := fold_set h ht r (fun x hx => hm x (by simp [hx])) (pre ++ [m]) _ (hs.step h ht (hm m (by simp)))
    rw [List.append_assoc, List.singleton_append] at this
    exact this
/-- What is told to differ differs in a trace. -/
theorem differ_tr {e f t : List Int} (h : differV e f = some t) : ∃ te tf : KT, te.ok 0 = true ∧ te.post = e ∧ tf.ok 0 = true ∧ tf.post = f ∧ ∃ s : Tr, ¬ (inD s te ↔ inD s tf) := by
  unfold differV at h
  split at h
  · rename_i hp
    unfold pairsV at hp
    split at hp
    · cases hp
    · rename_i hne
      have hne1 : (autV e).ends ≠ [] := fun x => hne (.inl x)
      have hne2 : (autV f).ends ≠ [] := fun x => hne (.inr x)
      obtain ⟨te, e1, _, e3, _, ea⟩ := autV_open hne1
      obtain ⟨tf, f1, _, f3, _, fa⟩ := autV_open hne2
      obtain ⟨w, k, ⟨ms, m1, _, m3⟩, hk, hb⟩ := levGo_wy 21 _ _ (fun x hx => by
        simp only [List.mem_singleton] at hx
        subst hx
        exact ⟨[], by simp, rfl, rfl⟩) h
      refine ⟨te, tf, e1, e3, f1, f3, trOf ms ⟨k, hk⟩, fun hiff => ?_⟩
      rw [alg_tr m1, alg_tr m1] at hiff
      have s1 := fold_set ea e1 ms m1 [] 1 (SetR.start ea)
      have s2 := fold_set fa f1 ms m1 [] 1 (SetR.start fa)
      rw [List.nil_append] at s1 s2
      obtain ⟨n1, n2⟩ := fold_next (autV e) (autV f) ms (1, 1)
      rw [← s1.ends ea e1, ← s2.ends fa f1] at hiff
      rw [m3, apartP, n1, n2, Nat.testBit_xor] at hb
      simp only at hb
      cases hx : (endsU (autV e) (ms.foldl (stepU (autV e)) 1)).testBit k <;> cases hy : (endsU (autV f) (ms.foldl (stepU (autV f)) 1)).testBit k <;> rw [hx, hy] at hb <;> simp [hx, hy] at hiff hb
  · cases h
theorem equal_zero {e f : List Int} (h : equalV e f = 0) : ∃ te tf : KT, te.ok 0 = true ∧ te.post = e ∧ tf.ok 0 = true ∧ tf.post = f ∧ ∃ s : Tr, ¬ (inD s te ↔ inD s tf) := by
  unfold equalV at h
  split at h
  · omega
  · split at h
    · rename_i hd
      obtain ⟨t, ht⟩ := Option.isSome_iff_exists.1 hd
      exact differ_tr ht
    · omega
theorem last_den {t : KT} (ht : t.ok 0 = true) (s : Tr) : inD s t ↔ den leafT t s s.last := inD_den s ht
/-- What rules prove is not told to differ. -/
theorem equal_same {e f : List Int} (h : ∀ s u, den leafT (treeOf e) s u ↔ den leafT (treeOf f) s u) : equalV e f ≠ 0 := by
  intro h0
  obtain ⟨te, tf, h1, h2, h3, h4, s, hs⟩ := equal_zero h0
  apply hs
  rw [inD_den s h1, inD_den s h3, ← treeOf_post h1, ← treeOf_post h3, h2, h4]
  exact h s _
theorem equal_move {e x : List Int} {m : Mv} (h : moveV e m = some x) : equalV e x ≠ 0 := equal_same fun s u => moveV_den leafT_leaves h s u
theorem equal_proof {e x : List Int} {ms : List Mv} (h : proofV e ms = some x) : equalV e x ≠ 0 := equal_same fun s u => proofV_den leafT_leaves h s u
theorem equal_range (e f : List Int) : equalV e f = 1 ∨ equalV e f = 0 ∨ equalV e f = -1 := by
  unfold equalV
  split
  · exact .inl rfl
  · split
    · exact .inr (.inl rfl)
    · exact .inr (.inr rfl)
end

section
set_option linter.unusedVariables false

/-! Who is proved to be equal is not told to differ. -/
theorem lowBit_zero : lowBit 0 = none := by decide
theorem okP_open {a b : Au} {ps : List (Nat × Nat)} (h : okP a b ps = true) : ps.length ≤ 100 ∧ (1, 1) ∈ ps ∧ ∀ p ∈ ps, p.1 < 2 ^ a.ends.length ∧ p.2 < 2 ^ b.ends.length ∧ apartP a b p = 0 ∧ ∀ m, m < 12 → nextP a b p m ∈ ps := by
  simp only [okP, Bool.and_eq_true, decide_eq_true_eq, List.all_eq_true] at h
  obtain ⟨⟨h1, h2⟩, h3⟩ := h
  refine ⟨h1, h2, fun p hp => ?_⟩
  obtain ⟨⟨⟨k1, k2⟩, k3⟩, k4⟩ := h3 p hp
  exact ⟨k1, k2, by simpa using k3, fun m hm => k4 m (List.mem_range.2 hm)⟩
theorem hitL_ok {a b : Au} {ps : List (Nat × Nat)} (h : okP a b ps = true) : ∀ (l : List Way2), (∀ w ∈ l, w.1 ∈ ps) → hitL a b l = none
  | [], _ => rfl
  | w :: r, hl => by
    have h0 := ((okP_open h).2.2 _ (hl w (by simp))).2.2.1
    rw [hitL, hitW, h0, lowBit_zero]
    exact hitL_ok h r fun x hx => hl x (by simp [hx])
theorem goW_ok {a b : Au} {ps : List (Nat × Nat)} (h : okP a b ps = true) {w : Way2} (hw : w.1 ∈ ps) {s : List (Nat × Nat) × List Way2} (hs : ∀ x ∈ s.2, x.1 ∈ ps) : ∀ k, k ≤ 12 → ∀ x ∈ (goW a b w s k).2, x.1 ∈ ps
  | 0, _ => hs
  | k + 1, hk => by
    have ih := goW_ok h hw hs k (by omega)
    intro x hx
    unfold goW at hx
    split at hx
    · exact ih x hx
    · rcases List.mem_append.1 hx with hx | hx
      · exact ih x hx
      · simp only [List.mem_singleton] at hx
        subst hx
        exact ((okP_open h).2.2 _ hw).2.2.2 k (by omega)
theorem goL_ok {a b : Au} {ps : List (Nat × Nat)} (h : okP a b ps = true) : ∀ (l : List Way2), (∀ x ∈ l, x.1 ∈ ps) → ∀ s : List (Nat × Nat) × List Way2, (∀ x ∈ s.2, x.1 ∈ ps) → ∀ x ∈ (goL a b s l).2, x.1 ∈ ps
  | [], _, _, hs => hs
  | w :: r, hl, s, hs => by
    intro x hx
    rw [goL] at hx
    exact goL_ok h r (fun x hx => hl x (by simp [hx])) _ (goW_ok h (hl w (by simp)) hs 12 (Nat.le_refl _)) x hx
theorem levGo_ok {a b : Au} {ps : List (Nat × Nat)} (h : okP a b ps = true) : ∀ (f : Nat) (seen : List (Nat × Nat)) (l : List Way2), (∀ x ∈ l, x.1 ∈ ps) → levGo a b f seen l = none
  | 0, _, _, _ => rfl
  | f + 1, seen, l, hl => by
    rw [levGo, hitL_ok h l hl]
    exact levGo_ok h f _ _ (goL_ok h l hl (seen, []) fun x hx => by cases hx)
theorem ok_differ {e f : List Int} {ps : List (Nat × Nat)} (h : okP (autV e) (autV f) ps = true) : differV e f = none := by
  unfold differV
  split
  · exact levGo_ok h 21 _ _ fun x hx => by
      simp only [List.mem_singleton] at hx
      subst hx
      exact (okP_open h).2.1
  · rfl
/-- The reference asks Differ first. -/
theorem equalV_spec (e f : List Int) : equalV e f = if (differV e f).isSome then 0 else if okP (autV e) (autV f) ((pairsV e f).getD []) then 1 else -1 := by
  unfold equalV
  cases h : okP (autV e) (autV f) ((pairsV e f).getD [])
  · rfl
  · rw [ok_differ h]; rfl

/-! Ways in order. -/
theorem ltL_app {x y : List Int} (s t : List Int) (hl : x.length = y.length) (h : ltL x y = true) : ltL (x ++ s) (y ++ t) = true := by
  induction x generalizing y with
  | nil =>
    cases y with
    | nil => cases h
    | cons => simp at hl
  | cons a x ih =>
    cases y with
    | nil => simp at hl
    | cons b y =>
      simp only [ltL, List.cons_append] at h ⊢
      split at h
      · rename_i h1; rw [if_pos h1]
      · rename_i h1
        rw [if_neg h1]
        split at h
        · cases h
        · rename_i h2
          rw [if_neg h2]
          exact ih (by simpa using hl) h
theorem ltL_pre (x s t : List Int) : ltL (x ++ s) (x ++ t) = ltL s t := by
  induction x with
  | nil => rfl
  | cons a x ih => simp [ltL, ih]
/-- Ways of n steps, in order. -/
structure WaysI (n : Nat) (l : List Way2) : Prop where
  len : ∀ w ∈ l, w.2.length = n
  sort : l.Pairwise fun x y => ltL x.2 y.2 = true
theorem goW_ways {a b : Au} {n : Nat} {w : Way2} (hw : w.2.length = n) {s : List (Nat × Nat) × List Way2} (hs : WaysI (n + 2) s.2) (hb : ∀ x ∈ s.2, ∀ t : List Int, ltL x.2 (w.2 ++ t) = true) :
    ∀ k, k ≤ 12 → WaysI (n + 2) (goW a b w s k).2 ∧ ∀ x ∈ (goW a b w s k).2, (x ∈ s.2 ∨ ∃ j, j < k ∧ x.2 = w.2 ++ [((j / 3 : Nat) : Int), 16 + ((j % 3 : Nat) : Int)])
  | 0, _ => ⟨hs, fun x hx => .inl hx⟩
  | k + 1, hk => by
    obtain ⟨i1, i2⟩ := goW_ways hw hs hb k (by omega)
    unfold goW
    split
    · exact ⟨i1, fun x hx => (i2 x hx).imp id fun ⟨j, h1, h2⟩ => ⟨j, by omega, h2⟩⟩
    · refine ⟨⟨fun x hx => ?_, ?_⟩, fun x hx => ?_⟩
      · rcases List.mem_append.1 hx with hx | hx
        · exact i1.len x hx
        · simp only [List.mem_singleton] at hx
          subst hx
          simp [hw]
      · rw [List.pairwise_append]
        refine ⟨i1.sort, by simp, fun x hx y hy => ?_⟩
        simp only [List.mem_singleton] at hy
        subst hy
        rcases i2 x hx with hx | ⟨j, hj, e⟩
        · exact hb x hx _
        · rw [e, ltL_pre]
          simp only [ltL]
          by_cases h3 : j / 3 = k / 3
          · rw [if_neg (by omega), if_neg (by omega), if_pos (by omega)]
          · rw [if_pos (by omega)]
      · rcases List.mem_append.1 hx with hx | hx
        · exact (i2 x hx).imp id fun ⟨j, h1, h2⟩ => ⟨j, by omega, h2⟩
        · simp only [List.mem_singleton] at hx
          exact .inr ⟨k, by omega, by rw [hx]⟩
theorem goL_ways {a b : Au} {n : Nat} : ∀ (l : List Way2), WaysI n l → ∀ s : List (Nat × Nat) × List Way2, WaysI (n + 2) s.2 → (∀ x ∈ s.2, ∀ w ∈ l, ∀ t : List Int, ltL x.2 (w.2 ++ t) = true) → WaysI (n + 2) (goL a b s l).2
  | [], _, _, hs, _ => hs
  | w :: r, hl, s, hs, hb => by
    have hw := hl.len w (by simp)
    have hp := List.pairwise_cons.1 hl.sort
    obtain ⟨i1, i2⟩ := goW_ways (a := a) (b := b) hw hs (fun x hx => hb x hx w (by simp)) 12 (Nat.le_refl _)
    rw [goL]
    refine goL_ways r ⟨fun x hx => hl.len x (by simp [hx]), hp.2⟩ _ i1 fun x hx y hy t => ?_
    rcases i2 x hx with hx | ⟨j, _, e⟩
    · exact hb x hx y (by simp [hy]) t
    · rw [e]
      exact ltL_app _ _ (by rw [hw, hl.len y (by simp [hy])]) (hp.1 y hy)
/-- What the reference keeps: the best of a level. -/
def bestW (x : Nat) (tr best : List Int) : Nat → List Int
  | 0 => best
  | k + 1 => if x.testBit (3 - k) && ((bestW x tr best k).isEmpty || ltL (tr ++ [((3 - k : Nat) : Int)]) (bestW x tr best k)) then tr ++ [((3 - k : Nat) : Int)] else bestW x tr best k
def bestL (a b : Au) (l : List Way2) (best : List Int) : List Int := l.foldl (fun o w => bestW (apartP a b w.1) w.2 o 4) best
theorem bestW_keep {x : Nat} {tr best : List Int} (hne : best ≠ []) (h : ∀ k : Int, ltL (tr ++ [k]) best = false) : ∀ k, bestW x tr best k = best
  | 0 => rfl
  | k + 1 => by
    have he : best.isEmpty = false := by simp [hne]
    rw [bestW, bestW_keep hne h k, h, he]
    simp
theorem bestW_none (x : Nat) (tr : List Int) : ∀ k, k ≤ 4 → bestW x tr [] k = (((List.range 4).find? fun j => decide (4 - k ≤ j) && x.testBit j).map fun j => tr ++ [((j : Nat) : Int)]).getD []
  | 0, _ => by
    have : ((List.range 4).find? fun j => decide (4 - 0 ≤ j) && x.testBit j) = none := by
      rw [List.find?_eq_none]
      intro j hj
      have := List.mem_range.1 hj
      simp
      omega
    rw [this]; rfl
  | k + 1, hk => by
    have ih := bestW_none x tr k (by omega)
    rw [bestW, ih]
    have h4 : k = 0 ∨ k = 1 ∨ k = 2 ∨ k = 3 := by omega
    rcases h4 with rfl | rfl | rfl | rfl <;> cases h0 : x.testBit 0 <;> cases h1 : x.testBit 1 <;> cases h2 : x.testBit 2 <;> cases h3 : x.testBit 3 <;> simp [List.range, List.range.loop, List.find?, h0, h1, h2, h3, ltL_pre, ltL]
theorem bestW_hit (a b : Au) (w : Way2) : bestW (apartP a b w.1) w.2 [] 4 = (hitW a b w).getD [] := by
  rw [bestW_none _ _ 4 (Nat.le_refl _), hitW, lowBit]
  congr 2
theorem bestL_keep {a b : Au} : ∀ {l : List Way2} {best : List Int}, best ≠ [] → (∀ w ∈ l, ∀ k : Int, ltL (w.2 ++ [k]) best = false) → bestL a b l best = best
  | [], _, _, _ => rfl
  | w :: r, best, hne, h => by
    show bestL a b r (bestW (apartP a b w.1) w.2 best 4) = best
    rw [bestW_keep hne (h w (by simp))]
    exact bestL_keep hne fun x hx => h x (by simp [hx])
theorem bestL_hit {a b : Au} {n : Nat} : ∀ {l : List Way2}, WaysI n l → bestL a b l [] = (hitL a b l).getD []
  | [], _ => rfl
  | w :: r, h => by
    have hp := List.pairwise_cons.1 h.sort
    show bestL a b r (bestW (apartP a b w.1) w.2 [] 4) = _
    rw [bestW_hit, hitL]
    cases ht : hitW a b w with
    | none => exact bestL_hit (l := r) ⟨fun x hx => h.len x (by simp [hx]), hp.2⟩
    | some t =>
      rw [hitW, Option.map_eq_some_iff] at ht
      obtain ⟨k, _, rfl⟩ := ht
      refine bestL_keep (by simp) fun y hy j => ?_
      simp only [Option.getD_some]
      exact ltL_asym (ltL_app _ _ (by rw [h.len w (by simp), h.len y (by simp [hy])]) (hp.1 y hy))
end

section
set_option linter.unusedVariables false

/-! What is enough for 'not told to differ'. -/
/-- A pair of sets that is reached. -/
def RchP (a b : Au) (p : Nat × Nat) : Prop := ∃ ms : List Nat, (∀ m ∈ ms, m < 12) ∧ p = ms.foldl (nextP a b) (1, 1)
theorem RchP.start (a b : Au) : RchP a b (1, 1) := ⟨[], by simp, rfl⟩
theorem RchP.next {a b : Au} {p : Nat × Nat} (h : RchP a b p) {m : Nat} (hm : m < 12) : RchP a b (nextP a b p m) := by
  obtain ⟨ms, h1, h2⟩ := h
  refine ⟨ms ++ [m], fun k hk => ?_, by rw [List.foldl_append, ← h2]; rfl⟩
  rcases List.mem_append.1 hk with hk | hk
  · exact h1 k hk
  · simp only [List.mem_singleton] at hk; omega
/-- Two expressions are told apart at a pair that is reached. -/
def Apart (e f : List Int) : Prop := (autV e).ends ≠ [] ∧ (autV f).ends ≠ [] ∧ ∃ (p : Nat × Nat) (k : Nat), RchP (autV e) (autV f) p ∧ k < 4 ∧ (apartP (autV e) (autV f) p).testBit k = true
theorem apart_tr {e f : List Int} (h : Apart e f) : ∃ te tf : KT, te.ok 0 = true ∧ te.post = e ∧ tf.ok 0 = true ∧ tf.post = f ∧ ∃ s : Tr, ¬ (inD s te ↔ inD s tf) := by
  obtain ⟨hne1, hne2, p, k, ⟨ms, m1, m3⟩, hk, hb⟩ := h
  obtain ⟨te, e1, _, e3, _, ea⟩ := autV_open hne1
  obtain ⟨tf, f1, _, f3, _, fa⟩ := autV_open hne2
  refine ⟨te, tf, e1, e3, f1, f3, trOf ms ⟨k, hk⟩, fun hiff => ?_⟩
  rw [alg_tr m1, alg_tr m1] at hiff
  have s1 := fold_set ea e1 ms m1 [] 1 (SetR.start ea)
  have s2 := fold_set fa f1 ms m1 [] 1 (SetR.start fa)
  rw [List.nil_append] at s1 s2
  obtain ⟨n1, n2⟩ := fold_next (autV e) (autV f) ms (1, 1)
  rw [← s1.ends ea e1, ← s2.ends fa f1] at hiff
  rw [m3, apartP, n1, n2, Nat.testBit_xor] at hb
  simp only at hb
  cases hx : (endsU (autV e) (ms.foldl (stepU (autV e)) 1)).testBit k <;> cases hy : (endsU (autV f) (ms.foldl (stepU (autV f)) 1)).testBit k <;> rw [hx, hy] at hb <;> simp [hx, hy] at hiff hb
theorem apart_same {e f : List Int} (h : ∀ s u, den leafT (treeOf e) s u ↔ den leafT (treeOf f) s u) : ¬ Apart e f := by
  intro h0
  obtain ⟨te, tf, h1, h2, h3, h4, s, hs⟩ := apart_tr h0
  apply hs
  rw [inD_den s h1, inD_den s h3, ← treeOf_post h1, ← treeOf_post h3, h2, h4]
  exact h s _
theorem apart_move {e x : List Int} {m : Mv} (h : moveV e m = some x) : ¬ Apart e x := apart_same fun s u => moveV_den leafT_leaves h s u
theorem apart_proof {e x : List Int} {ms : List Mv} (h : proofV e ms = some x) : ¬ Apart e x := apart_same fun s u => proofV_den leafT_leaves h s u
/-- Pairs that are reached are small. -/
theorem autV_small (e : List Int) : (autV e).ends.length ≤ 10 ∧ (autV e).next.length = (autV e).ends.length ∧ (∀ r ∈ (autV e).next, r.length = 12 ∧ ∀ x ∈ r, 0 ≤ x ∧ x.toNat < 2 ^ 10) ∧ ∀ x ∈ (autV e).ends, 0 ≤ x ∧ x.toNat < 2 ^ 4 := by
  by_cases hne : (autV e).ends = []
  · unfold autV at hne ⊢
    split
    · rename_i hc
      rw [if_pos hc] at hne
      have h0 : allV e = [] := List.map_eq_nil_iff.1 hne
      simp [h0]
    · simp
  · obtain ⟨t, h1, h2, h3, h4, hr⟩ := autV_open hne
    have hl := hr.le
    refine ⟨by rw [hr.ends]; simpa using hl, by rw [hr.ends, hr.next]; simp, fun r hm => ?_, fun x hx => ?_⟩
    · rw [hr.next] at hm
      obtain ⟨y, hy, rfl⟩ := List.mem_map.1 hm
      refine ⟨by simp [nextL], fun x hx => ?_⟩
      simp only [nextL, List.mem_map] at hx
      obtain ⟨m, _, rfl⟩ := hx
      have := bitsN_lt (fun j => (allV e).getD j [] ∈ moveP (treeOf y) m) (allV e).length
      refine ⟨by omega, ?_⟩
      rw [Int.toNat_natCast]
      exact Nat.lt_of_lt_of_le this (Nat.pow_le_pow_right (by omega) hl)
    · rw [hr.ends] at hx
      obtain ⟨y, hy, rfl⟩ := List.mem_map.1 hx
      obtain ⟨j, hj, e1⟩ := List.getElem_of_mem hy
      have := ends_small (hr.tree h1 hj).1
      rw [e1] at this
      exact ⟨by simp [endL], by simpa [endL] using this⟩
theorem stepU_small {a : Au} (h : ∀ r ∈ a.next, r.length = 12 ∧ ∀ x ∈ r, 0 ≤ x ∧ x.toNat < 2 ^ 10) (set : Nat) {m : Nat} (hm : m < 12) : stepU a set m < 1024 := by
  refine imgT_lt (n := 10) (fun s hs => ?_) set _
  simp only [List.length_map] at hs
  obtain ⟨h1, h2⟩ := h _ (List.getElem_mem hs)
  simp only [List.getElem_map, List.getD]
  rw [List.getElem?_eq_getElem (by omega)]
  exact (h2 _ (List.getElem_mem _)).2
theorem endsU_small {a : Au} (h : ∀ x ∈ a.ends, 0 ≤ x ∧ x.toNat < 2 ^ 4) (set : Nat) : endsU a set < 16 := imgT_lt (n := 4) (fun s hs => (h _ (List.getElem_mem hs)).2) set _
/-- Few different pairs of sets. -/
theorem pairs_few {ps : List (Nat × Nat)} (hn : ps.Nodup) (hs : ∀ p ∈ ps, p.1 < 1024 ∧ p.2 < 1024) : ps.length ≤ 1048576 := by
  have h1 : (ps.map fun p => p.1 * 1024 + p.2).Nodup := by
    rw [List.Nodup, List.pairwise_map]
    refine List.Pairwise.imp_of_mem (fun {x y} hx hy hne e => hne ?_) hn
    obtain ⟨a1, a2⟩ := hs x hx
    obtain ⟨b1, b2⟩ := hs y hy
    have : x.1 = y.1 := by omega
    have : x.2 = y.2 := by omega
    exact Prod.ext ‹_› ‹_›
  have h2 := nodup_len _ (List.range 1048576) h1 fun x hx => by
    obtain ⟨p, hp, rfl⟩ := List.mem_map.1 hx
    obtain ⟨a1, a2⟩ := hs p hp
    exact List.mem_range.2 (by omega)
  simpa using h2
end
end Go.Proofs.Ytoondakdjhhehaa
