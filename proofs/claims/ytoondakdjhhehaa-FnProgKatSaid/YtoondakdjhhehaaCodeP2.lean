/-
  Texts of walks and plain lemmas for this seat; no condition.
-/
import Derived.Test.YtoondakdjhhehaaGS
namespace Go.Proofs.Ytoondakdjhhehaa
open Go.RowKit

/-! Jumps to jumps go on to their end. -/
def stepJ (c : List In3) (a : Nat) : Option Nat := if (insAt c a).kind = 2 then some (insAt c a).to.toNat else none
def folC (c : List In3) (a : Nat) : Option Nat := (runS (stepJ c) c.length a).map (·.1)
theorem stepJ_in {c : List In3} (hc : Code0 c) (a b : Nat) (ha : a < c.length) (h : stepJ c a = some b) : b < c.length := by
  unfold stepJ at h
  split at h
  · rename_i hk
    injection h with h
    subst h
    exact hc.to_lt ha (.inr hk)
  · cases h
theorem folC_some {c : List In3} (hc : Code0 c) {a : Nat} (ha : a < c.length) {f : Nat} {r : Nat × Nat} (h : runS (stepJ c) f a = some r) : folC c a = some r.1 ∧ r.1 < c.length ∧ r.2 ≤ c.length ∧ (insAt c r.1).kind ≠ 2 := by
  obtain ⟨h1, h2⟩ := runS_soon (I := fun a => a < c.length) (stepJ_in hc) id (fun _ h => h) (fun _ _ _ _ h => h) ha h
  obtain ⟨_, h4, h5⟩ := runS_count h
  refine ⟨by rw [folC, runS_mono h4 h1, Option.map_some], h2, h1, fun hk => ?_⟩
  rw [stepJ, if_pos hk] at h5
  cases h5
theorem folC_open {c : List In3} (hc : Code0 c) {a b : Nat} (ha : a < c.length) (h : folC c a = some b) : b < c.length ∧ (insAt c b).kind ≠ 2 ∧ ∃ k, runS (stepJ c) k a = some (b, k) := by
  rw [folC, Option.map_eq_some_iff] at h
  obtain ⟨r, h1, rfl⟩ := h
  obtain ⟨_, h2, _, h3⟩ := folC_some hc ha h1
  exact ⟨h2, h3, r.2, (runS_count h1).2.1⟩
theorem folC_none {c : List In3} (hc : Code0 c) {a : Nat} (ha : a < c.length) (h : folC c a = none) (f : Nat) : runS (stepJ c) f a = none := by
  cases hr : runS (stepJ c) f a with
  | none => rfl
  | some r => rw [(folC_some hc ha hr).1] at h; cases h
/-- An end is looked for in any number of steps that is no less than the length. -/
theorem folC_fuel {c : List In3} (hc : Code0 c) {a f : Nat} (ha : a < c.length) (hf : c.length ≤ f) : (runS (stepJ c) f a).map (·.1) = folC c a := by
  cases hr : runS (stepJ c) f a with
  | some r => rw [(folC_some hc ha hr).1]; rfl
  | none =>
    cases h : folC c a with
    | none => rfl
    | some b =>
      rw [folC, Option.map_eq_some_iff] at h
      obtain ⟨r, h1, _⟩ := h
      rw [runS_mono h1 hf] at hr
      cases hr
def goesB (x : In3) : Bool := decide (x.kind = 1) || decide (x.kind = 2)
theorem goesB_iff {x : In3} : goesB x = true ↔ x.kind = 1 ∨ x.kind = 2 := by simp [goesB]
def thrI (c : List In3) (x : In3) : In3 := if goesB x then match folC c x.to.toNat with | some b => ⟨x.kind, x.arg, (b : Nat)⟩ | none => x else x
def thrC (c : List In3) : List In3 := c.map (thrI c)
theorem thrC_length (c : List In3) : (thrC c).length = c.length := by simp [thrC]
theorem thrC_at {c : List In3} {i : Nat} (hi : i < c.length) : insAt (thrC c) i = thrI c (insAt c i) := by
  rw [insAt_get (by rw [thrC_length]; exact hi), insAt_get hi]
  simp [thrC]
theorem thrI_kind (c : List In3) (x : In3) : (thrI c x).kind = x.kind ∧ (thrI c x).arg = x.arg := by
  unfold thrI
  split
  · split <;> exact ⟨rfl, rfl⟩
  · exact ⟨rfl, rfl⟩
theorem thrI_to {c : List In3} (hc : Code0 c) {i : Nat} (hi : i < c.length) (hk : (insAt c i).kind = 1 ∨ (insAt c i).kind = 2) :
    (∃ b, folC c (insAt c i).to.toNat = some b ∧ thrI c (insAt c i) = ⟨(insAt c i).kind, (insAt c i).arg, (b : Nat)⟩ ∧ b < c.length ∧ (insAt c b).kind ≠ 2) ∨ (folC c (insAt c i).to.toNat = none ∧ thrI c (insAt c i) = insAt c i) := by
  have hg := goesB_iff.2 hk
  cases hf : folC c (insAt c i).to.toNat with
  | none => exact .inr ⟨rfl, by rw [thrI, if_pos hg, hf]⟩
  | some b =>
    obtain ⟨h1, h2, _⟩ := folC_open hc (hc.to_lt hi hk) hf
    exact .inl ⟨b, rfl, by rw [thrI, if_pos hg, hf], h1, h2⟩
theorem insB_other {n m : Int} {x : In3} (h : insB n x = true) (hk : ¬ (x.kind = 1 ∨ x.kind = 2)) : insB m x = true := by
  unfold insB at h ⊢
  rw [if_neg (by omega : ¬ x.kind = 1), if_neg (by omega : ¬ x.kind = 2)] at h ⊢
  exact h
theorem insB_goes {n m : Int} {x : In3} {t : Int} (h : insB n x = true) (hk : x.kind = 1 ∨ x.kind = 2) (h0 : 0 ≤ t) (h1 : t < m) : insB m ⟨x.kind, x.arg, t⟩ = true := by
  have ht : inB t 0 (m - 1) = true := by simp only [inB, Bool.and_eq_true, decide_eq_true_eq]; omega
  unfold insB at h ⊢
  simp only [if_neg (by omega : ¬ x.kind = 0)] at h ⊢
  split at h
  · rename_i hk
    simp only [hk, if_true]
    simp only [Bool.and_eq_true] at h ⊢
    exact ⟨h.1, ht⟩
  · rename_i hk1
    rw [if_pos (by omega)] at h
    simp only [if_neg hk1, if_pos (by omega : x.kind = 2)]
    simp only [Bool.and_eq_true] at h ⊢
    exact ⟨h.1, ht⟩
theorem thrC_code {c : List In3} (hc : Code0 c) : Code0 (thrC c) where
  pos := by rw [thrC_length]; exact hc.pos
  most := by rw [thrC_length]; exact hc.most
  ins := fun i hi => by
    rw [thrC_length] at hi ⊢
    rw [thrC_at hi]
    by_cases hk : (insAt c i).kind = 1 ∨ (insAt c i).kind = 2
    · rcases thrI_to hc hi hk with ⟨b, _, h2, h3, _⟩ | ⟨_, h2⟩
      · rw [h2]; exact insB_goes (hc.ins i hi) hk (by omega) (by omega)
      · rw [h2]; exact hc.ins i hi
    · rw [thrI, if_neg (by rw [goesB_iff]; exact hk)]
      exact hc.ins i hi
  last := by
    rw [thrC_length, thrC_at (by have := hc.pos; omega), (thrI_kind _ _).1]
    exact hc.last

/-- Along jumps a run goes where they end. -/
theorem run_jumps {M : Mach} {c : List In3} : ∀ (k : Nat) {a b st : Nat}, runS (stepJ c) k a = some (b, k) → ∀ f, runS (stepC M c) (f + (k - 1)) (a, st) = (runS (stepC M c) f (b, st)).map fun r => (r.1, r.2 + (k - 1))
  | 0, _, _, _, h, _ => by cases h
  | k + 1, a, b, st, h, f => by
    rw [runS] at h
    split at h
    · injection h with h
      injection h with h1 h2
      subst h1
      have : k = 0 := by omega
      subst this
      simp only [Nat.zero_add, Nat.sub_self, Nat.add_zero]
      cases runS (stepC M c) f (a, st) <;> rfl
    · rename_i p hn
      rw [Option.map_eq_some_iff] at h
      obtain ⟨⟨q1, q2⟩, h1, h2⟩ := h
      injection h2 with h2 h3
      simp only at h2 h3
      have hq : q2 = k := by omega
      subst h2
      rw [hq] at h1
      have hpos := (runS_count h1).1
      simp only at hpos
      have ih := run_jumps (M := M) k (st := st) h1 f
      have hstep : stepC M c (a, st) = some (p, st) := by
        unfold stepJ at hn
        split at hn
        · rename_i hk
          injection hn with hn
          simp [stepC, hk, hn]
        · cases hn
      rw [show f + (k + 1 - 1) = (f + (k - 1)) + 1 by omega, runS_step hstep, ih]
      cases runS (stepC M c) f (q1, st) with
      | none => rfl
      | some r => simp only [Option.map_some]; rw [show k + 1 - 1 = k - 1 + 1 by omega]; rfl
/-- What a step does in the code, and in the one whose jumps go on. -/
theorem stepC_thr (M : Mach) {c : List In3} (hc : Code0 c) {a : Nat} (st : Nat) (ha : a < c.length) :
    (∃ p, stepC M c (a, st) = some p ∧ stepC M (thrC c) (a, st) = some p) ∨
    (∃ t b, stepC M c (a, st) = some (t, st) ∧ t < c.length ∧ folC c t = some b ∧ stepC M (thrC c) (a, st) = some (b, st)) ∨
    (stepC M c (a, st) = none ∧ stepC M (thrC c) (a, st) = none) := by
  simp only [stepC, thrC_at ha, (thrI_kind _ _).1, (thrI_kind _ _).2]
  by_cases k0 : (insAt c a).kind = 0
  · simp only [if_pos k0]
    exact .inl ⟨_, rfl, rfl⟩
  · by_cases k1 : (insAt c a).kind = 1
    · simp only [if_neg k0, if_pos k1]
      cases hb : M.tst (insAt c a).arg st
      · simp only [Bool.false_eq_true, if_false]
        rcases thrI_to hc ha (.inl k1) with ⟨b, e1, e2, _⟩ | ⟨_, e2⟩
        · exact .inr (.inl ⟨_, b, rfl, hc.to_lt ha (.inl k1), e1, by rw [e2]; simp⟩)
        · exact .inl ⟨_, rfl, by rw [e2]⟩
      · simp only [if_true]
        exact .inl ⟨_, rfl, rfl⟩
    · by_cases k2 : (insAt c a).kind = 2
      · simp only [if_neg k0, if_neg k1, if_pos k2]
        rcases thrI_to hc ha (.inr k2) with ⟨b, e1, e2, _⟩ | ⟨_, e2⟩
        · exact .inr (.inl ⟨_, b, rfl, hc.to_lt ha (.inr k2), e1, by rw [e2]; simp⟩)
        · exact .inl ⟨_, rfl, by rw [e2]⟩
      · simp only [if_neg k0, if_neg k1, if_neg k2]
        exact .inr (.inr ⟨trivial, trivial⟩)

/-- Ahead: the jumps' code ends where the code ends, and no later. -/
theorem thr_run {M : Mach} {c : List In3} {m : Nat} (hc : Code0 c) (hM : M.In m) : ∀ (k : Nat) {a st : Nat} {e : Nat × Nat}, a < c.length → st < m → runS (stepC M c) k (a, st) = some (e, k) →
    ∃ k' e', k' ≤ k ∧ runS (stepC M (thrC c)) k' (a, st) = some (e', k') ∧ e'.2 = e.2 := by
  intro k
  induction k using Nat.strongRecOn with
  | _ k IH =>
    intro a st e ha hs h
    match k, IH, h with
    | 0, _, h => cases h
    | k + 1, IH, h =>
      rcases stepC_thr M hc st ha with ⟨p, s1, s2⟩ | ⟨t, b, s1, ht, hb, s2⟩ | ⟨s1, s2⟩
      · rw [runS_step s1, Option.map_eq_some_iff] at h
        obtain ⟨⟨q1, q2⟩, h1, h2⟩ := h
        injection h2 with h2 h3
        simp only at h2 h3
        obtain rfl : q2 = k := by omega
        subst h2
        obtain ⟨hp1, hp2⟩ := stepC_in hc hM (a, st) p ⟨ha, hs⟩ s1
        obtain ⟨k', e', g1, g2, g3⟩ := IH q2 (by omega) hp1 hp2 h1
        refine ⟨k' + 1, e', by omega, ?_, g3⟩
        rw [runS_step s2, g2]; rfl
      · rw [runS_step s1, Option.map_eq_some_iff] at h
        obtain ⟨⟨q1, q2⟩, h1, h2⟩ := h
        injection h2 with h2 h3
        simp only at h2 h3
        obtain rfl : q2 = k := by omega
        subst h2
        obtain ⟨hb1, _, j, hj⟩ := folC_open hc ht hb
        have hjp := (runS_count hj).1
        simp only at hjp
        have hrun := run_jumps (M := M) j (st := st) hj q2
        rw [runS_mono h1 (by omega : q2 ≤ q2 + (j - 1))] at hrun
        cases hx : runS (stepC M c) q2 (b, st) with
        | none => rw [hx] at hrun; cases hrun
        | some r =>
          rw [hx] at hrun
          simp only [Option.map_some, Option.some.injEq] at hrun
          injection hrun with r1 r2
          obtain ⟨c1, c2, _⟩ := runS_count hx
          obtain ⟨k', e', g1, g2, g3⟩ := IH r.2 (by omega) hb1 hs (e := r.1) c2
          refine ⟨k' + 1, e', by omega, ?_, by rw [g3, ← r1]⟩
          rw [runS_step s2, g2]; rfl
      · rw [runS_end s1] at h
        injection h with h
        injection h with h1 h2
        subst h1
        exact ⟨1, (a, st), by omega, runS_end s2, rfl⟩
/-- Back: where the jumps' code ends, the code ends. -/
theorem thr_back {M : Mach} {c : List In3} {m : Nat} (hc : Code0 c) (hM : M.In m) : ∀ (k : Nat) {a st : Nat} {e : Nat × Nat}, a < c.length → st < m → runS (stepC M (thrC c)) k (a, st) = some (e, k) →
    ∃ k' e', runS (stepC M c) k' (a, st) = some (e', k')
  | 0, _, _, _, _, _, h => by cases h
  | k + 1, a, st, e, ha, hs, h => by
    rcases stepC_thr M hc st ha with ⟨p, s1, s2⟩ | ⟨t, b, s1, ht, hb, s2⟩ | ⟨s1, s2⟩
    · rw [runS_step s2, Option.map_eq_some_iff] at h
      obtain ⟨⟨q1, q2⟩, h1, h2⟩ := h
      injection h2 with h2 h3
      simp only at h2 h3
      have hq : q2 = k := by omega
      rw [hq] at h1
      obtain ⟨hp1, hp2⟩ := stepC_in hc hM (a, st) p ⟨ha, hs⟩ s1
      obtain ⟨k', e', g⟩ := thr_back hc hM k hp1 hp2 h1
      exact ⟨k' + 1, e', by rw [runS_step s1, g]; rfl⟩
    · rw [runS_step s2, Option.map_eq_some_iff] at h
      obtain ⟨⟨q1, q2⟩, h1, h2⟩ := h
      injection h2 with h2 h3
      simp only at h2 h3
      have hq : q2 = k := by omega
      rw [hq] at h1
      obtain ⟨hb1, _, j, hj⟩ := folC_open hc ht hb
      obtain ⟨k', e', g⟩ := thr_back hc hM k hb1 hs h1
      have := run_jumps (M := M) j (st := st) hj k'
      rw [g] at this
      exact ⟨k' + (j - 1) + 1, e', by rw [runS_step s1, this]; rfl⟩
    · exact ⟨1, (a, st), runS_end s1⟩
end Go.Proofs.Ytoondakdjhhehaa
