/-
  Texts of walks and plain lemmas for this seat; no condition.
-/
import Derived.Test.YtoondakdjhhehaaCodeP2
namespace Go.Proofs.Ytoondakdjhhehaa
open Go.RowKit

/-! What is reached, and a code without the rest. -/
inductive Rch (c : List In3) : Nat → Prop where
  | zero : Rch c 0
  | next {a : Nat} : Rch c a → (insAt c a).kind < 2 → Rch c (a + 1)
  | to {a : Nat} : Rch c a → ((insAt c a).kind = 1 ∨ (insAt c a).kind = 2) → Rch c (insAt c a).to.toNat
theorem Rch.lt {c : List In3} (hc : Code0 c) {a : Nat} (h : Rch c a) : a < c.length := by
  induction h with
  | zero => have := hc.pos; omega
  | next _ hk ih => exact hc.succ_lt ih hk
  | to _ hk ih => exact hc.to_lt ih hk
noncomputable def rchB (c : List In3) (a : Nat) : Bool := open Classical in decide (Rch c a)
theorem rchB_iff {c : List In3} {a : Nat} : rchB c a = true ↔ Rch c a := by simp [rchB]
def keepL (r : Nat → Bool) (n : Nat) : List Nat := (List.range n).filter r
def plcN (r : Nat → Bool) (n : Nat) : Nat := (keepL r n).length
theorem keepL_succ (r : Nat → Bool) (n : Nat) : keepL r (n + 1) = keepL r n ++ if r n then [n] else [] := by
  simp only [keepL, List.range_succ, List.filter_append]
  cases h : r n <;> simp [h]
theorem plcN_succ (r : Nat → Bool) (n : Nat) : plcN r (n + 1) = plcN r n + if r n then 1 else 0 := by
  simp only [plcN, keepL_succ, List.length_append]
  cases r n <;> simp
theorem plcN_mono (r : Nat → Bool) {i n : Nat} (h : i ≤ n) : plcN r i ≤ plcN r n := by
  induction n with
  | zero => have : i = 0 := by omega
            subst this; exact Nat.le_refl _
  | succ n ih =>
    rw [plcN_succ]
    by_cases hi : i = n + 1
    · subst hi; rw [plcN_succ]; exact Nat.le_refl _
    · have := ih (by omega); omega
theorem plcN_lt {r : Nat → Bool} {i n : Nat} (h : i < n) (hr : r i = true) : plcN r i < plcN r n := by
  have h1 := plcN_mono r (show i + 1 ≤ n from h)
  rw [plcN_succ, hr] at h1
  simp at h1
  omega
theorem keepL_get {r : Nat → Bool} {i : Nat} (hr : r i = true) : ∀ {n : Nat}, i < n → (keepL r n)[plcN r i]? = some i
  | 0, h => by omega
  | n + 1, h => by
    rw [keepL_succ]
    by_cases hi : i = n
    · subst hi
      rw [hr]
      simp [plcN]
    · have h1 := plcN_lt (show i < n by omega) hr
      rw [List.getElem?_append_left (by exact h1)]
      exact keepL_get hr (by omega)
theorem keepL_ind {r : Nat → Bool} {j : Nat} : ∀ {n : Nat}, j < plcN r n → ∃ i, i < n ∧ r i = true ∧ plcN r i = j
  | 0, h => by simp [plcN, keepL] at h
  | n + 1, h => by
    rw [plcN_succ] at h
    by_cases hj : j < plcN r n
    · obtain ⟨i, h1, h2, h3⟩ := keepL_ind hj
      exact ⟨i, by omega, h2, h3⟩
    · cases hr : r n with
      | true => rw [hr] at h; simp at h; exact ⟨n, by omega, hr, by omega⟩
      | false => rw [hr] at h; simp at h; omega
theorem plcN_le (r : Nat → Bool) : ∀ n, plcN r n ≤ n
  | 0 => by simp [plcN, keepL]
  | n + 1 => by rw [plcN_succ]; have := plcN_le r n; split <;> omega
def relI (r : Nat → Bool) (x : In3) : In3 := if goesB x then ⟨x.kind, x.arg, (plcN r x.to.toNat : Nat)⟩ else x
theorem relI_kind (r : Nat → Bool) (x : In3) : (relI r x).kind = x.kind ∧ (relI r x).arg = x.arg := by
  unfold relI
  split <;> exact ⟨rfl, rfl⟩
def cutC (r : Nat → Bool) (c : List In3) : List In3 := (keepL r c.length).map fun i => relI r (insAt c i)
theorem cutC_length (r : Nat → Bool) (c : List In3) : (cutC r c).length = plcN r c.length := by simp [cutC, plcN]
theorem cutC_at {r : Nat → Bool} {c : List In3} {i : Nat} (hi : i < c.length) (hr : r i = true) : insAt (cutC r c) (plcN r i) = relI r (insAt c i) := by
  have h := keepL_get hr hi
  simp [insAt, cutC, List.getD, h]
noncomputable def shortC (c : List In3) : List In3 := cutC (rchB (thrC c)) (thrC c)

section
variable {c : List In3} (hc : Code0 c)
include hc
theorem cut_at {i : Nat} (hr : Rch c i) : insAt (cutC (rchB c) c) (plcN (rchB c) i) = relI (rchB c) (insAt c i) ∧ plcN (rchB c) i < (cutC (rchB c) c).length := by
  refine ⟨cutC_at (hr.lt hc) (rchB_iff.2 hr), ?_⟩
  rw [cutC_length]
  exact plcN_lt (hr.lt hc) (rchB_iff.2 hr)
omit hc in
theorem plc_next {i : Nat} (hr : Rch c i) : plcN (rchB c) (i + 1) = plcN (rchB c) i + 1 := by
  rw [plcN_succ, rchB_iff.2 hr]
  rfl
omit hc in
theorem cut_ind {j : Nat} (h : j < (cutC (rchB c) c).length) : ∃ i, Rch c i ∧ plcN (rchB c) i = j := by
  rw [cutC_length] at h
  obtain ⟨i, _, h2, h3⟩ := keepL_ind h
  exact ⟨i, rchB_iff.1 h2, h3⟩
omit hc in
theorem relI_to {i : Nat} (_ : Rch c i) (hk : (insAt c i).kind = 1 ∨ (insAt c i).kind = 2) : relI (rchB c) (insAt c i) = ⟨(insAt c i).kind, (insAt c i).arg, (plcN (rchB c) (insAt c i).to.toNat : Nat)⟩ := by
  rw [relI, if_pos (goesB_iff.2 hk)]
theorem cut_code : Code0 (cutC (rchB c) c) where
  pos := by have := (cut_at hc .zero).2; omega
  most := by rw [cutC_length]; exact Nat.le_trans (plcN_le _ _) hc.most
  ins := fun j hj => by
    obtain ⟨i, hr, rfl⟩ := cut_ind hj
    rw [(cut_at hc hr).1]
    by_cases hk : (insAt c i).kind = 1 ∨ (insAt c i).kind = 2
    · rw [relI_to hr hk]
      have := (cut_at hc (hr.to hk)).2
      exact insB_goes (hc.ins i (hr.lt hc)) hk (by omega) (by omega)
    · rw [relI, if_neg (by rw [goesB_iff]; exact hk)]
      exact insB_other (hc.ins i (hr.lt hc)) hk
  last := by
    have h0 := (cut_at hc .zero).2
    obtain ⟨i, hr, hj⟩ := cut_ind (show (cutC (rchB c) c).length - 1 < (cutC (rchB c) c).length by omega)
    rw [← hj, (cut_at hc hr).1, (relI_kind _ _).1]
    refine Int.not_lt.1 fun hk => ?_
    have h1 := (cut_at hc (hr.next hk)).2
    rw [plc_next hr] at h1
    omega
/-- The cut code does what the code does. -/
theorem cut_run (M : Mach) : ∀ (f : Nat) {a st : Nat}, Rch c a → runS (stepC M (cutC (rchB c) c)) f (plcN (rchB c) a, st) = (runS (stepC M c) f (a, st)).map fun r => ((plcN (rchB c) r.1.1, r.1.2), r.2)
  | 0, _, _, _ => rfl
  | f + 1, a, st, hr => by
    have key : (∃ p, stepC M c (a, st) = some p ∧ Rch c p.1 ∧ stepC M (cutC (rchB c) c) (plcN (rchB c) a, st) = some (plcN (rchB c) p.1, p.2)) ∨ (stepC M c (a, st) = none ∧ stepC M (cutC (rchB c) c) (plcN (rchB c) a, st) = none) := by
      simp only [stepC, (cut_at hc hr).1, (relI_kind _ _).1, (relI_kind _ _).2]
      by_cases k0 : (insAt c a).kind = 0
      · simp only [k0, if_true]
        exact .inl ⟨_, rfl, hr.next (by omega), by rw [plc_next hr]⟩
      · by_cases k1 : (insAt c a).kind = 1
        · have e : (relI (rchB c) (insAt c a)).to.toNat = plcN (rchB c) (insAt c a).to.toNat := by rw [relI_to hr (.inl k1)]; simp
          simp only [if_neg k0, if_pos k1, e]
          by_cases hb : M.tst (insAt c a).arg st = true
          · exact .inl ⟨_, rfl, by simp only [hb, if_true]; exact hr.next (by omega), by simp only [hb, if_true]; rw [plc_next hr]⟩
          · exact .inl ⟨_, rfl, by simp only [hb]; exact hr.to (.inl k1), by simp only [hb]; rfl⟩
        · by_cases k2 : (insAt c a).kind = 2
          · have e : (relI (rchB c) (insAt c a)).to.toNat = plcN (rchB c) (insAt c a).to.toNat := by rw [relI_to hr (.inr k2)]; simp
            simp only [if_neg k0, if_neg k1, if_pos k2, e]
            exact .inl ⟨_, rfl, hr.to (.inr k2), rfl⟩
          · simp only [if_neg k0, if_neg k1, if_neg k2]
            exact .inr ⟨trivial, trivial⟩
    rcases key with ⟨p, h1, h2, h3⟩ | ⟨h1, h2⟩
    · rw [runS_step h1, runS_step h3, cut_run M f h2]
      cases runS (stepC M c) f (p.1, p.2) <;> rfl
    · rw [runS_end h1, runS_end h2]
      rfl
theorem cut_rch {a : Nat} (h : Rch c a) : Rch (cutC (rchB c) c) (plcN (rchB c) a) := by
  induction h with
  | zero => exact .zero
  | next hr hk ih =>
    rw [plc_next hr]
    exact ih.next (by rw [(cut_at hc hr).1, (relI_kind _ _).1]; exact hk)
  | to hr hk ih =>
    have := ih.to (by rw [(cut_at hc hr).1, (relI_kind _ _).1]; exact hk)
    rw [(cut_at hc hr).1, relI_to hr hk] at this
    simpa using this
/-- All of a cut code is reached. -/
theorem cut_all {j : Nat} (h : j < (cutC (rchB c) c).length) : Rch (cutC (rchB c) c) j := by
  obtain ⟨i, hr, rfl⟩ := cut_ind h
  exact cut_rch hc hr
end
theorem keepL_all {r : Nat → Bool} : ∀ {n : Nat}, (∀ i, i < n → r i = true) → keepL r n = List.range n
  | 0, _ => rfl
  | n + 1, h => by
    rw [keepL_succ, keepL_all fun i hi => h i (by omega), h n (by omega), List.range_succ]
    rfl
/-- A code of which all is reached stays as it is. -/
theorem cut_same {c : List In3} (hc : Code0 c) (h : ∀ i, i < c.length → Rch c i) : cutC (rchB c) c = c := by
  have hr : ∀ i, i < c.length → rchB c i = true := fun i hi => rchB_iff.2 (h i hi)
  apply List.ext_getElem
  · rw [cutC_length, plcN, keepL_all hr, List.length_range]
  · intro i h1 h2
    simp only [cutC, keepL_all hr, List.getElem_map, List.getElem_range]
    rw [← insAt_get h2]
    by_cases hk : (insAt c i).kind = 1 ∨ (insAt c i).kind = 2
    · have ht := insB_to (hc.ins i h2) hk
      rw [relI_to (h i h2) hk, plcN, keepL_all fun j hj => hr j (by omega), List.length_range, Int.toNat_of_nonneg ht.1]
    · rw [relI, if_neg (by rw [goesB_iff]; exact hk)]
/-- Jumps that go round go round in the shorter code. -/
theorem short_round {c : List In3} (hc : Code0 c) : ∀ (f : Nat) {t : Nat}, Rch (thrC c) t → folC c t = none → runS (stepJ (shortC c)) f (plcN (rchB (thrC c)) t) = none
  | 0, _, _, _ => rfl
  | f + 1, t, hr, h => by
    have hct := thrC_code hc
    have ht : t < c.length := by have := hr.lt hct; rwa [thrC_length] at this
    have hk : (insAt c t).kind = 2 := by
      refine Classical.byContradiction fun hk => ?_
      have := folC_none hc ht h 1
      rw [runS_end (by rw [stepJ, if_neg hk])] at this
      cases this
    have hto := hc.to_lt ht (.inr hk)
    have hf : folC c (insAt c t).to.toNat = none := by
      cases hx : folC c (insAt c t).to.toNat with
      | none => rfl
      | some b =>
        obtain ⟨_, _, k, hrun⟩ := folC_open hc hto hx
        have := folC_none hc ht h (k + 1)
        rw [runS_step (show stepJ c t = some _ by rw [stepJ, if_pos hk]), hrun] at this
        cases this
    have e : insAt (thrC c) t = insAt c t := by
      rw [thrC_at ht]
      rcases thrI_to hc ht (.inr hk) with ⟨b, h1, _⟩ | ⟨_, h2⟩
      · rw [hf] at h1; cases h1
      · exact h2
    have hx := (cut_at hct hr).1
    rw [e, show relI (rchB (thrC c)) (insAt c t) = ⟨(insAt c t).kind, (insAt c t).arg, (plcN (rchB (thrC c)) (insAt c t).to.toNat : Nat)⟩ by rw [relI, if_pos (goesB_iff.2 (.inr hk))]] at hx
    have hstep : stepJ (shortC c) (plcN (rchB (thrC c)) t) = some (plcN (rchB (thrC c)) (insAt c t).to.toNat) := by
      unfold stepJ shortC
      rw [hx]
      simp [hk]
    rw [runS_step hstep]
    have hr' : Rch (thrC c) (insAt c t).to.toNat := by
      have := hr.to (by rw [e]; exact .inr hk)
      rwa [e] at this
    rw [short_round hc f hr' hf]
    rfl
theorem short_code {c : List In3} (hc : Code0 c) : Code0 (shortC c) := cut_code (thrC_code hc)
theorem short_len {c : List In3} : (shortC c).length ≤ c.length := by
  rw [shortC, cutC_length]
  have := plcN_le (rchB (thrC c)) (thrC c).length
  rwa [thrC_length] at this ⊢
/-- Made shorter, its jumps go on already. -/
theorem short_thr {c : List In3} (hc : Code0 c) : thrC (shortC c) = shortC c := by
  have hct := thrC_code hc
  have hx := short_code hc
  apply List.ext_getElem
  · rw [thrC_length]
  · intro j h1 h2
    rw [← insAt_get h1, ← insAt_get h2, thrC_at h2]
    by_cases hk : (insAt (shortC c) j).kind = 1 ∨ (insAt (shortC c) j).kind = 2
    · obtain ⟨i, hr, hj⟩ := cut_ind h2
      have hi : i < c.length := by have := hr.lt hct; rwa [thrC_length] at this
      have he := (cut_at hct hr).1
      have hkc : (insAt c i).kind = 1 ∨ (insAt c i).kind = 2 := by
        rw [← hj, shortC, he, (relI_kind _ _).1, thrC_at hi, (thrI_kind _ _).1] at hk
        exact hk
      have hkt : (insAt (thrC c) i).kind = 1 ∨ (insAt (thrC c) i).kind = 2 := by rw [thrC_at hi, (thrI_kind _ _).1]; exact hkc
      have hto : (insAt (shortC c) j).to.toNat = plcN (rchB (thrC c)) (insAt (thrC c) i).to.toNat := by
        rw [← hj, shortC, he, relI_to hr hkt]
        simp
      have hto0 := insB_to (hx.ins j h2) hk
      rcases thrI_to hx h2 hk with ⟨b, e1, e2, e3, _⟩ | ⟨_, e2⟩
      · -- it ends at once
        rw [hto] at e1
        have hself : b = (insAt (shortC c) j).to.toNat := by
          rcases thrI_to hc hi hkc with ⟨b', g1, g2, g3, g4⟩ | ⟨g1, g2⟩
          · have hb' : (insAt (thrC c) i).to.toNat = b' := by rw [thrC_at hi, g2]; simp
            rw [hb'] at e1
            have hrb : Rch (thrC c) b' := by have := hr.to hkt; rwa [hb'] at this
            have hkb : (insAt (shortC c) (plcN (rchB (thrC c)) b')).kind ≠ 2 := by
              rw [shortC, (cut_at hct hrb).1, (relI_kind _ _).1, thrC_at g3, (thrI_kind _ _).1]
              exact g4
            have : folC (shortC c) (plcN (rchB (thrC c)) b') = some (plcN (rchB (thrC c)) b') :=
              (folC_some hx (cut_at hct hrb).2 (f := 1) (r := (_, 1)) (runS_end (by rw [stepJ, if_neg hkb]))).1
            rw [this] at e1
            injection e1 with e1
            rw [hto, hb', e1]
          · have hb' : (insAt (thrC c) i).to.toNat = (insAt c i).to.toNat := by rw [thrC_at hi, g2]
            have hrb : Rch (thrC c) (insAt c i).to.toNat := by have := hr.to hkt; rwa [hb'] at this
            rw [hb', folC, short_round hc _ hrb g1] at e1
            cases e1
        rw [e2, hself, Int.toNat_of_nonneg hto0.1]
      · exact e2
    · rw [thrI, if_neg (by rw [goesB_iff]; exact hk)]
/-- Made shorter again it is the same. -/
theorem short_short {c : List In3} (hc : Code0 c) : shortC (shortC c) = shortC c := by
  have hct := thrC_code hc
  rw [shortC, short_thr hc]
  exact cut_same (short_code hc) fun i hi => cut_all hct hi
/-- In every model it ends in the same state, or never, and no later. -/
theorem short_run {M : Mach} {c : List In3} {m : Nat} (hc : Code0 c) (hM : M.In m) {st : Nat} (hs : st < m) : (runV M (shortC c) m st).1 = (runV M c m st).1 ∧ (runV M (shortC c) m st).2 ≤ (runV M c m st).2 := by
  have hct := thrC_code hc
  have hx := short_code hc
  have hpos := hc.pos
  have hrun := fun f => cut_run hct M f (st := st) (Rch.zero)
  have h0 : plcN (rchB (thrC c)) 0 = 0 := rfl
  rw [h0] at hrun
  cases h : runS (stepC M c) (c.length * m) (0, st) with
  | some r =>
    obtain ⟨_, h1, _⟩ := runS_count h
    obtain ⟨k', e', g1, g2, g3⟩ := thr_run hc hM r.2 (by omega) hs (e := r.1) h1
    have hr' := hrun k'
    rw [g2] at hr'
    simp only [Option.map_some] at hr'
    obtain ⟨b1, _⟩ := runC_soon hx hM (p := (0, st)) ⟨by show 0 < (shortC c).length; have := hx.pos; omega, hs⟩ hr'
    have := runS_mono hr' b1
    simp only [runV, h]
    have hr'' : runS (stepC M (shortC c)) ((shortC c).length * m) (0, st) = some ((plcN (rchB (thrC c)) e'.1, e'.2), k') := this
    rw [hr'']
    simp only
    exact ⟨by rw [g3], by omega⟩
  | none =>
    cases hy : runS (stepC M (shortC c)) ((shortC c).length * m) (0, st) with
    | none => simp [runV, h, hy]
    | some q =>
      have hr' := hrun ((shortC c).length * m)
      have hy' : runS (stepC M (cutC (rchB (thrC c)) (thrC c))) ((shortC c).length * m) (0, st) = some q := hy
      rw [hy'] at hr'
      have hr' := hr'.symm
      rw [Option.map_eq_some_iff] at hr'
      obtain ⟨r, h1, _⟩ := hr'
      obtain ⟨_, h2, _⟩ := runS_count h1
      obtain ⟨k', e', g⟩ := thr_back hc hM r.2 (by omega) hs (e := r.1) h2
      obtain ⟨b1, _⟩ := runC_soon hc hM ⟨by show 0 < c.length; omega, hs⟩ g
      rw [runS_mono g b1] at h
      cases h
end Go.Proofs.Ytoondakdjhhehaa
