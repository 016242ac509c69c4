/-
  Texts of walks and plain lemmas for this seat; no condition.
-/
import Derived.Test.YtoondakdjhhehaaCodeP3
import Derived.Test.YtoondakdjhhehaaGS
namespace Go.Proofs.Ytoondakdjhhehaa
open Go.RowKit

/-! Models in which every action leads to one state, as machines. -/
def sole (x : Nat) : Bool := x == 1 || x == 2 || x == 4 || x == 8 || x == 16
def tzN (x : Nat) : Nat := if x = 2 then 1 else if x = 4 then 2 else if x = 8 then 3 else if x = 16 then 4 else 0
theorem sole_iff {x : Nat} : sole x = true ↔ x = 1 ∨ x = 2 ∨ x = 4 ∨ x = 8 ∨ x = 16 := by simp [sole, or_assoc]
theorem sole_tz {x : Nat} (h : sole x = true) : x = 2 ^ tzN x ∧ tzN x < 5 := by
  rcases sole_iff.1 h with rfl | rfl | rfl | rfl | rfl <;> decide
theorem sole_two {k : Nat} (h : k < 5) : sole (2 ^ k) = true ∧ tzN (2 ^ k) = k := by
  have : k = 0 ∨ k = 1 ∨ k = 2 ∨ k = 3 ∨ k = 4 := by omega
  rcases this with rfl | rfl | rfl | rfl | rfl <;> decide
theorem sole_bits : ∀ x : Nat, x < 32 → (sole x = (!(x == 0) && (x &&& (x - 1)) == 0)) := by decide
theorem sole_bit {x t : Nat} (h : sole x = true) : x.testBit t = true ↔ t = tzN x := by
  obtain ⟨h1, _⟩ := sole_tz h
  rw [h1, Nat.testBit_two_pow, ← h1]
  simp [eq_comm]
theorem tz_lt {x n : Nat} (h : sole x = true) (hx : x < 2 ^ n) : tzN x < n := by
  obtain ⟨h1, _⟩ := sole_tz h
  rw [h1] at hx
  exact (Nat.pow_lt_pow_iff_right (by omega)).1 hx
def certB (M : Mo) : Bool := modB M && M.acts.all fun r => r.all fun x => sole x.toNat
def actN (M : Mo) (a : Int) (s : Nat) : Nat := ((M.acts.getD (a - 16).toNat []).getD s 0).toNat
def machM (M : Mo) : Mach := ⟨fun a s => tzN (actN M a s), fun t s => t.toNat.testBit (atomN M s)⟩
theorem certB_mod {M : Mo} (h : certB M = true) : modB M = true := by simp only [certB, Bool.and_eq_true] at h; exact h.1
/-- What is known of a row's place. -/
theorem certB_at {M : Mo} (h : certB M = true) {a : Int} {s : Nat} (h1 : 16 ≤ a) (h2 : a ≤ 18) (hs : s < M.n.toNat) :
    sole (actN M a s) = true ∧ actN M a s < 2 ^ M.n.toNat := by
  have hm := certB_mod h
  obtain ⟨hr, hk⟩ := rowsB_acts hm (k := (a - 16).toNat) (by omega)
  have hlen : (M.acts.getD (a - 16).toNat []).length = M.n.toNat := by
    simp only [rowsB, Bool.and_eq_true, decide_eq_true_eq] at hr
    omega
  have hs' : s < (M.acts.getD (a - 16).toNat []).length := by omega
  have he : actN M a s = ((M.acts.getD (a - 16).toNat [])[s]).toNat := by
    unfold actN
    rw [List.getD_eq_getElem?_getD (l := M.acts.getD (a - 16).toNat []), List.getElem?_eq_getElem hs', Option.getD_some]
  refine ⟨?_, by rw [he]; exact rowsB_lt hr s hs'⟩
  simp only [certB, Bool.and_eq_true, List.all_eq_true] at h
  rw [he]
  refine h.2 (M.acts.getD (a - 16).toNat []) ?_ _ (List.getElem_mem hs')
  rw [List.getD_eq_getElem?_getD, List.getElem?_eq_getElem hk, Option.getD_some]
  exact List.getElem_mem hk
theorem machM_in {M : Mo} (h : certB M = true) : (machM M).In M.n.toNat := by
  intro a st h1 h2 hs
  obtain ⟨k1, k2⟩ := certB_at h h1 h2 hs
  exact tz_lt k1 k2
theorem testBit_not15 : ∀ t : Nat, t < 16 → ∀ k, k < 4 → (15 - t).testBit k = !t.testBit k := by decide
theorem machM_sure {M : Mo} (h : certB M = true) : Sure (leafM M) (machM M) M.n.toNat where
  act := fun a s t h1 h2 hs => by
    obtain ⟨k1, k2⟩ := certB_at h h1 h2 hs
    rw [leafM, if_neg (by omega)]
    exact sole_bit k1
  tst := fun a s t h1 h2 => by rw [leafM, if_pos h2]; rfl
  not := fun a s h1 h2 => by
    show (15 - a).toNat.testBit (atomN M s) = !a.toNat.testBit (atomN M s)
    rw [show (15 - a).toNat = 15 - a.toNat by omega]
    exact testBit_not15 _ (by omega) _ (atomN_lt M s)
  one := fun s => fifteen_bit _ (atomN_lt M s)
  inn := machM_in h

/-- Where a code ends in a model, and how many instructions are done. -/
def crV (M : Mo) (c : List In3) (st : Int) : Int × Int := if certB M && codeV c && inB st 0 (M.n - 1) then runV (machM M) c M.n.toNat st.toNat else (-1, 0)

/-- A run that goes on: behind d - 1 instructions of N. -/
def Goes (M : Mach) (c : List In3) (N st : Nat) (d a s : Nat) : Prop := 1 ≤ d ∧ d ≤ N + 1 ∧ runS (stepC M c) N (0, st) = (runS (stepC M c) (N + 1 - d) (a, s)).map fun r => (r.1, r.2 + (d - 1))
theorem Goes.start (M : Mach) (c : List In3) (N st : Nat) : Goes M c N st 1 0 st := by
  refine ⟨Nat.le_refl _, by omega, ?_⟩
  rw [show N + 1 - 1 = N by omega]
  cases runS (stepC M c) N (0, st) <;> rfl
theorem Goes.next {M : Mach} {c : List In3} {N st d a s : Nat} (h : Goes M c N st d a s) (hd : d ≤ N) {p : Nat × Nat} (hp : stepC M c (a, s) = some p) : Goes M c N st (d + 1) p.1 p.2 := by
  obtain ⟨h1, h2, h3⟩ := h
  refine ⟨by omega, by omega, ?_⟩
  rw [h3, show N + 1 - d = (N + 1 - (d + 1)) + 1 by omega, runS_step hp, Option.map_map]
  congr 1
  funext r
  simp only [Function.comp]
  rw [show d + 1 - 1 = d - 1 + 1 by omega]
  simp only [Prod.mk.injEq, true_and]
  omega
theorem Goes.done {M : Mach} {c : List In3} {N st d a s : Nat} (h : Goes M c N st d a s) (hd : d ≤ N) (hp : stepC M c (a, s) = none) : runS (stepC M c) N (0, st) = some ((a, s), d) := by
  obtain ⟨h1, h2, h3⟩ := h
  rw [h3, show N + 1 - d = (N - d) + 1 by omega, runS_end hp]
  simp only [Option.map_some, Option.some.injEq, Prod.mk.injEq, true_and]
  omega
theorem Goes.over {M : Mach} {c : List In3} {N st d a s : Nat} (h : Goes M c N st d a s) (hd : N < d) : runS (stepC M c) N (0, st) = none := by
  obtain ⟨h1, h2, h3⟩ := h
  rw [h3, show N + 1 - d = 0 by omega]
  rfl
theorem runV_some {M : Mach} {c : List In3} {n st : Nat} {r : (Nat × Nat) × Nat} (h : runS (stepC M c) (c.length * n) (0, st) = some r) : runV M c n st = (((r.1.2 : Nat) : Int), ((r.2 : Nat) : Int)) := by
  rw [runV, h]
theorem runV_none {M : Mach} {c : List In3} {n st : Nat} (h : runS (stepC M c) (c.length * n) (0, st) = none) : runV M c n st = (-1, 0) := by
  rw [runV, h]
/-- What an instruction does. -/
theorem stepC_do {M : Mach} {c : List In3} {a s : Nat} (h : (insAt c a).kind = 0) : stepC M c (a, s) = some (a + 1, M.act (insAt c a).arg s) := by
  simp [stepC, h]
theorem stepC_yes {M : Mach} {c : List In3} {a s : Nat} (h : (insAt c a).kind = 1) (ht : M.tst (insAt c a).arg s = true) : stepC M c (a, s) = some (a + 1, s) := by
  simp [stepC, h, ht]
theorem stepC_no {M : Mach} {c : List In3} {a s : Nat} (h : (insAt c a).kind = 1) (ht : M.tst (insAt c a).arg s = false) : stepC M c (a, s) = some ((insAt c a).to.toNat, s) := by
  simp [stepC, h, ht]
theorem stepC_jump {M : Mach} {c : List In3} {a s : Nat} (h : (insAt c a).kind = 2) : stepC M c (a, s) = some ((insAt c a).to.toNat, s) := by
  simp [stepC, h]
theorem stepC_end {M : Mach} {c : List In3} {a s : Nat} (h : (insAt c a).kind = 3) : stepC M c (a, s) = none := by
  simp [stepC, h]
/-- The run ends where the model has a state, soon. -/
theorem crV_end {M : Mo} {c : List In3} {st : Int} (h : ¬ (crV M c st).1 < 0) : 0 ≤ (crV M c st).1 ∧ (crV M c st).1 < M.n ∧ 1 ≤ (crV M c st).2 ∧ (crV M c st).2 ≤ M.n * c.length ∧ certB M = true ∧ codeV c = true := by
  unfold crV at h ⊢
  split at h
  · rename_i hc
    rw [if_pos hc]
    simp only [Bool.and_eq_true, inB, decide_eq_true_eq] at hc
    obtain ⟨⟨h1, h2⟩, h3, h4⟩ := hc
    have hc0 := codeV_iff.1 h2
    cases hr : runS (stepC (machM M) c) (c.length * M.n.toNat) (0, st.toNat) with
    | none => rw [runV_none hr] at h; simp at h
    | some r =>
      obtain ⟨k1, k2, k3⟩ := runC_soon (p := (0, st.toNat)) hc0 (machM_in h1) ⟨hc0.pos, by show st.toNat < _; omega⟩ hr
      obtain ⟨k4, _, _⟩ := runS_count hr
      rw [runV_some hr]
      refine ⟨by simp, by simp only; omega, by simp only; omega, ?_, h1, h2⟩
      simp only
      have : ((r.2 : Nat) : Int) ≤ ((c.length * M.n.toNat : Nat) : Int) := by omega
      rw [Int.natCast_mul, show ((M.n.toNat : Nat) : Int) = M.n by omega, Int.mul_comm] at this
      exact this
  · simp at h
theorem crV_neg {M : Mo} {c : List In3} {st : Int} (h : (crV M c st).1 < 0) : crV M c st = (-1, 0) := by
  unfold crV at h ⊢
  split at h
  · rename_i hc
    rw [if_pos hc]
    unfold runV at h ⊢
    split at h
    · simp at h; omega
    · rfl
  · rename_i hc; rw [if_neg hc]
/-- A code that only ends stays. -/
theorem crV_stay {M : Mo} {st : Int} (h : certB M = true) (h0 : 0 ≤ st) (h1 : st < M.n) : crV M [endI] st = (st, 1) := by
  have hv : codeV [endI] = true := by decide
  rw [crV, h, hv, show inB st 0 (M.n - 1) = true by simp [inB]; omega]
  simp only [Bool.and_self, if_true]
  have hr : runS (stepC (machM M) [endI]) ([endI].length * M.n.toNat) (0, st.toNat) = some ((0, st.toNat), 1) := by
    rw [show [endI].length * M.n.toNat = (M.n.toNat - 1) + 1 by simp; omega]
    exact runS_end (stepC_end rfl)
  rw [runV_some hr]
  simp only [Prod.mk.injEq]
  omega
end Go.Proofs.Ytoondakdjhhehaa
