/-
  Texts of walks and plain lemmas for this seat; no condition.
-/
import Derived.Test.YtacgefknhncgfaaDoorGA
namespace Go.Proofs.YtacgefknhncgfaaDoor
open Go.RowKit
set_option linter.unusedVariables false

/-! A reader of any text: tests of all forms, letters, brackets. -/
/-- How many bytes a word has that stands ahead. -/
def leafW : List UInt8 → Nat
  | [] => 0
  | c :: r => if c.toNat = 33 then min 2 (r.length + 1) else if c.toNat = 91 then (match (c :: r).findIdx? (· == 93) with | some i => i + 1 | none => 0) else 1
/-- A letter, or a test. -/
def wordF (s : List UInt8) : Option Int := match s with
  | [c] => if 97 ≤ c.toNat ∧ c.toNat ≤ 99 then some (16 + ((c.toNat : Int) - 97)) else (readT [c]).map fun t => ((t : Nat) : Int)
  | s => (readT s).map fun t => ((t : Nat) : Int)
def leafF (s : List UInt8) : Option (List Int × List UInt8) := (wordF (s.take (leafW s))).map fun n => ([n], s.drop (leafW s))
def singleF (sum : PR) : PR
  | [] => none
  | c :: r => if c.toNat = 40 then (match sum r with
      | some (e, d :: r2) => if d.toNat = 41 then some (e, r2) else none
      | _ => none) else leafF (c :: r)
def prodF (sum : PR) : PR := chainP 59 19 (starredP (singleF sum))
def sumF : Nat → PR
  | 0 => fun _ => none
  | n + 1 => chainP 43 20 (prodF (sumF n))
def readF (s : List UInt8) : Option (List Int) := if s.length ≤ 199 then (match sumF 100 s with
    | some (e, []) => if katV e then some e else none
    | _ => none) else none

theorem testT_forms : ∀ t, t < 16 → (testT t).length ≤ 5 ∧ (testT t) ≠ [] ∧ leafW (testT t) = (testT t).length ∧ wordF (testT t) = some ((t : Nat) : Int) ∧ ((testT t).head? = some 33 → (testT t).length = 2) ∧ ((testT t).head? = some 91 → (testT t).findIdx? (· == 93) = some ((testT t).length - 1)) ∧
    ((testT t).head? ≠ some 33 → (testT t).head? ≠ some 91 → (testT t).length = 1) ∧ (testT t).head? ≠ some 40 := by decide +kernel
theorem readT_iff (l : List UInt8) (t : Nat) : readT l = some t ↔ t < 16 ∧ testT t = l := by
  constructor
  · intro h
    unfold readT at h
    have h1 := List.find?_some h
    have h2 := List.mem_of_find?_eq_some h
    exact ⟨List.mem_range.1 h2, by simpa using h1⟩
  · rintro ⟨h1, h2⟩
    have inj : ∀ a, a < 16 → ∀ b, b < 16 → testT a = testT b → a = b := by decide +kernel
    exact readT_some h1 (fun j hj e => by have := inj j (by omega) t h1 (e.trans h2.symm); omega) h2
theorem leafW_app {t r : List UInt8} (h1 : leafW t = t.length) (h2 : t ≠ []) (h3 : t.head? = some 33 → t.length = 2) (h4 : t.head? = some 91 → t.findIdx? (· == 93) = some (t.length - 1)) : leafW (t ++ r) = t.length := by
  cases t with
  | nil => exact absurd rfl h2
  | cons c t =>
    simp only [List.cons_append, leafW] at h1 ⊢
    by_cases c1 : c.toNat = 33
    · rw [if_pos c1]
      have : c = 33 := UInt8.toNat.inj c1
      have := h3 (by rw [this]; rfl)
      simp only [List.length_cons, List.length_append] at this ⊢
      omega
    · rw [if_neg c1] at h1 ⊢
      by_cases c2 : c.toNat = 91
      · rw [if_pos c2]
        have : c = 91 := UInt8.toNat.inj c2
        have hf := h4 (by rw [this]; rfl)
        have e : (c :: (t ++ r)).findIdx? (· == 93) = some ((c :: t).length - 1) := by
          rw [← List.cons_append, List.findIdx?_append, hf]
          rfl
        rw [e]
        simp
      · rw [if_neg c2] at h1 ⊢
        exact h1
/-- A test's text ahead is read. -/
theorem leafF_test (t : Nat) (ht : t < 16) (r : List UInt8) : leafF (testT t ++ r) = some ([((t : Nat) : Int)], r) := by
  obtain ⟨_, h2, h3, h4, h5, h6, _⟩ := testT_forms t ht
  have h := leafW_app (r := r) h3 h2 h5 h6
  rw [leafF, h, List.take_left, List.drop_left, h4]
  rfl
theorem leafF_act (c : Nat) (h1 : 97 ≤ c) (h2 : c ≤ 99) (r : List UInt8) : leafF (UInt8.ofNat c :: r) = some ([16 + ((c : Int) - 97)], r) := by
  have hc : (UInt8.ofNat c).toNat = c := by simp; omega
  have hw : leafW (UInt8.ofNat c :: r) = 1 := by
    simp only [leafW, hc]
    rw [if_neg (by omega), if_neg (by omega)]
  rw [leafF, hw]
  simp only [List.take_succ_cons, List.take_zero, List.drop_succ_cons, List.drop_zero, wordF, hc]
  rw [if_pos ⟨h1, h2⟩]
  rfl
theorem leafW_le (s : List UInt8) : leafW s ≤ s.length := by
  unfold leafW
  split
  · simp
  · rename_i c r
    split
    · simp only [List.length_cons]; omega
    · split
      · split
        · rename_i i hi
          rw [List.findIdx?_eq_some_iff_getElem] at hi
          have := hi.1
          simp only [List.length_cons] at this ⊢
          omega
        · omega
      · simp
theorem wordF_nil : wordF [] = none := by decide +kernel
theorem leafF_pos {s r : List UInt8} {e : List Int} (h : leafF s = some (e, r)) : 1 ≤ leafW s ∧ r = s.drop (leafW s) := by
  unfold leafF at h
  rw [Option.map_eq_some_iff] at h
  obtain ⟨n, h1, h2⟩ := h
  injection h2 with _ h2
  refine ⟨?_, h2.symm⟩
  rcases Nat.eq_zero_or_pos (leafW s) with h0 | h0
  · rw [h0, List.take_zero, wordF_nil] at h1
    cases h1
  · exact h0
/-- What is read ahead, as the reference looks for it: the first prefix of 1..6 bytes that is a test. -/
theorem leafF_some {s r : List UInt8} {e : List Int} (h : leafF s = some (e, r)) : (∃ c t, s = c :: t ∧ 97 ≤ c.toNat ∧ c.toNat ≤ 99 ∧ e = [16 + ((c.toNat : Int) - 97)] ∧ r = t) ∨ (∃ t, t < 16 ∧ s = testT t ++ r ∧ e = [((t : Nat) : Int)]) := by
  obtain ⟨h1, h2⟩ := leafF_pos h
  unfold leafF at h
  rw [Option.map_eq_some_iff] at h
  obtain ⟨n, h3, h4⟩ := h
  injection h4 with h4 _
  have hs : s = s.take (leafW s) ++ r := by rw [h2]; exact (List.take_append_drop _ _).symm
  generalize s.take (leafW s) = w at hs h3
  have key : ∀ t, readT w = some t → n = ((t : Nat) : Int) → (∃ t, t < 16 ∧ s = testT t ++ r ∧ e = [((t : Nat) : Int)]) := fun t ht hn => by
    obtain ⟨k1, k2⟩ := (readT_iff _ _).1 ht
    exact ⟨t, k1, by rw [k2]; exact hs, by rw [← h4, hn]⟩
  unfold wordF at h3
  split at h3
  · rename_i c
    split at h3
    · rename_i hc
      injection h3 with h3
      exact .inl ⟨c, r, by rw [hs]; rfl, hc.1, hc.2, by rw [← h4, h3], rfl⟩
    · rw [Option.map_eq_some_iff] at h3
      obtain ⟨t, ht, hn⟩ := h3
      exact .inr (key t ht hn.symm)
  · rw [Option.map_eq_some_iff] at h3
    obtain ⟨t, ht, hn⟩ := h3
    exact .inr (key t ht hn.symm)

theorem leaf_ends : Ends leafF := by
  intro s e r h
  obtain ⟨h1, h2⟩ := leafF_pos h
  exact ⟨leafW s, h1, leafW_le s, h2⟩
theorem singleF_ends {sum : PR} (h : Ends sum) : Ends (singleF sum) := by
  intro s e r hs
  cases s with
  | nil => simp [singleF] at hs
  | cons c t =>
    simp only [singleF] at hs
    split at hs
    · split at hs
      · rename_i e' d r2 he
        split at hs
        · injection hs with hs
          injection hs with h1 h2
          subst h1 h2
          obtain ⟨k, h1, h2, h3⟩ := h _ _ _ he
          have hlt : k < t.length := by
            have := congrArg List.length h3
            simp at this
            omega
          refine ⟨k + 2, by omega, by simp; omega, ?_⟩
          rw [List.drop_eq_getElem_cons hlt] at h3
          injection h3
        · cases hs
      · cases hs
    · exact leaf_ends _ _ _ hs
theorem sumF_ends : ∀ n, Ends (sumF n)
  | 0 => by intro s e r h; cases h
  | n + 1 => chain_ends (chain_ends (starred_ends (singleF_ends (sumF_ends n))))

/-! Two readers that agree up to so many bytes. -/
def Agr (p q : PR) (c : Nat) : Prop := ∀ s e r, p s = some (e, r) → s.length ≤ c + r.length → q s = some (e, r)
theorem ends_len {p : PR} (h : Ends p) {s r : List UInt8} {e : List Int} (hs : p s = some (e, r)) : r.length + 1 ≤ s.length := by
  obtain ⟨k, h1, h2, h3⟩ := h _ _ _ hs
  rw [h3, List.length_drop]
  omega
theorem agr_single {p q : PR} {c : Nat} (h : Agr p q c) : Agr (singleF p) (singleF q) (c + 2) := by
  intro s e r hs hl
  cases s with
  | nil => simp [singleF] at hs
  | cons d t =>
    simp only [singleF] at hs ⊢
    split at hs
    · rename_i hd
      rw [if_pos hd]
      split at hs
      · rename_i e' d' r2 he
        split at hs
        · rename_i hd'
          injection hs with hs
          injection hs with h1 h2
          subst h1 h2
          rw [h _ _ _ he (by simp only [List.length_cons] at hl ⊢; omega)]
          simp only
          rw [if_pos hd']
        · cases hs
      · cases hs
    · rename_i hd
      rw [if_neg hd]
      exact hs
theorem agr_base {p q : PR} (hp : Ends p) : Agr (singleF p) (singleF q) 2 := by
  intro s e r hs hl
  cases s with
  | nil => simp [singleF] at hs
  | cons d t =>
    simp only [singleF] at hs ⊢
    split at hs
    · split at hs
      · rename_i e' d' r2 he
        split at hs
        · injection hs with hs
          injection hs with h1 h2
          subst h1 h2
          have := ends_len hp he
          simp only [List.length_cons] at hl this
          omega
        · cases hs
      · cases hs
    · rename_i hd
      rw [if_neg hd]
      exact hs
theorem agr_starred {p q : PR} {c : Nat} (h : Agr p q c) : Agr (starredP p) (starredP q) c := by
  intro s e r hs hl
  simp only [starredP, Option.map_eq_some_iff] at hs ⊢
  obtain ⟨⟨e1, r1⟩, h1, h2⟩ := hs
  obtain ⟨j, j1, j2⟩ := star_ends _ _ _ _ h2
  replace j1 : j ≤ r1.length := j1
  replace j2 : r = r1.drop j := j2
  refine ⟨(e1, r1), h _ _ _ h1 ?_, h2⟩
  rw [j2, List.length_drop] at hl
  omega
theorem agr_loop {sign : Nat} {op : Int} {p q : PR} {c : Nat} (hp : Ends p) (h : Agr p q c) : ∀ (n : Nat) (s : List UInt8) (e e' : List Int) (r : List UInt8), loopP sign op p n e s = some (e', r) → s.length ≤ c + r.length → loopP sign op q n e s = some (e', r)
  | n, [], e, e', r, hs, _ => by cases n <;> exact hs
  | 0, d :: t, e, e', r, hs, _ => hs
  | n + 1, d :: t, e, e', r, hs, hl => by
    simp only [loopP] at hs ⊢
    split at hs
    · rename_i hd
      rw [if_pos hd]
      simp only [Option.bind_eq_some_iff] at hs ⊢
      obtain ⟨⟨e1, r1⟩, h1, h2⟩ := hs
      obtain ⟨j, j1, j2⟩ := loop_ends hp n _ _ _ _ h2
      replace j1 : j ≤ r1.length := j1
      replace j2 : r = r1.drop j := j2
      have hrl : r.length = r1.length - j := by rw [j2, List.length_drop]
      have := ends_len hp h1
      simp only [List.length_cons] at hl
      exact ⟨(e1, r1), h _ _ _ h1 (by omega), agr_loop hp h n _ _ _ _ h2 (by show r1.length ≤ _; omega)⟩
    · rename_i hd
      rw [if_neg hd]
      exact hs
theorem agr_chain {sign : Nat} {op : Int} {p q : PR} {c : Nat} (hp : Ends p) (h : Agr p q c) : Agr (chainP sign op p) (chainP sign op q) c := by
  intro s e r hs hl
  simp only [chainP, Option.bind_eq_some_iff] at hs ⊢
  obtain ⟨⟨e1, r1⟩, h1, h2⟩ := hs
  obtain ⟨j, j1, j2⟩ := loop_ends hp _ _ _ _ _ h2
  replace j1 : j ≤ r1.length := j1
  replace j2 : r = r1.drop j := j2
  have hrl : r.length = r1.length - j := by rw [j2, List.length_drop]
  have := ends_len hp h1
  exact ⟨(e1, r1), h _ _ _ h1 (by omega), agr_loop hp h _ _ _ _ _ h2 (by show r1.length ≤ _; omega)⟩
theorem agr_sum {p q : PR} {c : Nat} (hp : Ends p) (h : Agr (singleF p) (singleF q) c) : Agr (chainP 43 20 (prodF p)) (chainP 43 20 (prodF q)) c :=
  agr_chain (chain_ends (starred_ends (singleF_ends hp))) (agr_chain (starred_ends (singleF_ends hp)) (agr_starred h))
theorem sumF_deep : ∀ (k n : Nat), Agr (sumF n) (sumF (k + 1)) (2 * k + 2)
  | _, 0 => by intro s e r h; cases h
  | 0, n + 1 => agr_sum (sumF_ends n) (agr_base (sumF_ends n))
  | k + 1, n + 1 => agr_sum (sumF_ends n) (agr_single (sumF_deep k n))
theorem agr_all {p q : PR} (h : ∀ s x, p s = some x → q s = some x) (c : Nat) : Agr p q c := fun s e r hs _ => h s (e, r) hs
theorem agr_le {p q : PR} (h : ∀ c, Agr p q c) : ∀ s x, p s = some x → q s = some x := fun s x hs => h s.length s x.1 x.2 hs (by omega)
theorem sumF_more : ∀ (n : Nat) (s : List UInt8) (x : List Int × List UInt8), sumF n s = some x → sumF (n + 1) s = some x
  | 0, _, _, h => by cases h
  | n + 1, s, x, h => by
    refine agr_le (fun c => agr_sum (sumF_ends n) ?_) s x h
    exact fun s e r hs hl => agr_single (c := c + s.length) (agr_all (sumF_more n) _) s e r hs (by omega)
theorem sumF_mono {n m : Nat} (h : n ≤ m) {s : List UInt8} {x : List Int × List UInt8} (hs : sumF n s = some x) : sumF m s = some x := by
  induction h with
  | refl => exact hs
  | step _ ih => exact sumF_more _ _ _ ih
/-- Deep brackets do not close in a short text. -/
theorem sumF_short {s : List UInt8} (h : s.length ≤ 199) {n : Nat} (hn : 100 ≤ n) : sumF n s = sumF 100 s := by
  cases h1 : sumF 100 s with
  | some x => exact sumF_mono hn h1
  | none =>
    cases h2 : sumF n s with
    | none => rfl
    | some x =>
      have := sumF_deep 99 n s x.1 x.2 h2 (by omega)
      rw [h1] at this
      cases this

/-! Texts with a closing bracket behind them. -/
def Ext (p : PR) : Prop := ∀ s e r, p s = some (e, r) → p (s ++ [41]) = some (e, r ++ [41])
theorem ext_leaf : Ext leafF := by
  intro s e r h
  rcases leafF_some h with ⟨c, t, rfl, h1, h2, rfl, rfl⟩ | ⟨t, ht, rfl, rfl⟩
  · have := leafF_act c.toNat h1 h2 (r ++ [41])
    rw [UInt8.ofNat_toNat] at this
    exact this
  · rw [List.append_assoc]
    exact leafF_test t ht _
theorem ext_single {p : PR} (h : Ext p) : Ext (singleF p) := by
  intro s e r hs
  cases s with
  | nil => simp [singleF] at hs
  | cons d t =>
    simp only [singleF, List.cons_append] at hs ⊢
    split at hs
    · rename_i hd
      rw [if_pos hd]
      split at hs
      · rename_i e' d' r2 he
        split at hs
        · rename_i hd'
          injection hs with hs
          injection hs with h1 h2
          subst h1 h2
          rw [h _ _ _ he]
          simp only [List.cons_append]
          rw [if_pos hd']
        · cases hs
      · cases hs
    · rename_i hd
      rw [if_neg hd]
      exact ext_leaf _ _ _ hs
theorem star_ext : ∀ (s : List UInt8) (e e' : List Int) (r : List UInt8), starP e s = (e', r) → starP e (s ++ [41]) = (e', r ++ [41])
  | [], e, e', r, h => by
    simp only [starP] at h
    injection h with h1 h2
    subst h1 h2
    simp [starP]
  | c :: t, e, e', r, h => by
    simp only [starP, List.cons_append] at h ⊢
    split at h
    · rename_i hc
      rw [if_pos hc]
      exact star_ext t _ _ _ h
    · rename_i hc
      rw [if_neg hc]
      injection h with h1 h2
      subst h1 h2
      rfl
theorem ext_starred {p : PR} (h : Ext p) : Ext (starredP p) := by
  intro s e r hs
  simp only [starredP, Option.map_eq_some_iff] at hs ⊢
  obtain ⟨⟨e1, r1⟩, h1, h2⟩ := hs
  exact ⟨(e1, r1 ++ [41]), h _ _ _ h1, star_ext _ _ _ _ h2⟩
theorem ext_loop {sign : Nat} {op : Int} {p : PR} (hsg : sign ≠ 41) (h : Ext p) : ∀ (n : Nat) (s : List UInt8) (e e' : List Int) (r : List UInt8), loopP sign op p n e s = some (e', r) → loopP sign op p (n + 1) e (s ++ [41]) = some (e', r ++ [41])
  | n, [], e, e', r, hs => by
    have hs' : some (e, ([] : List UInt8)) = some (e', r) := by cases n <;> exact hs
    injection hs' with hs'
    injection hs' with h1 h2
    subst h1 h2
    simp only [List.nil_append, loopP]
    rw [if_neg (by show (41 : UInt8).toNat ≠ sign; exact fun e => hsg e.symm)]
  | 0, d :: t, e, e', r, hs => by
    simp only [loopP] at hs
    split at hs
    · cases hs
    · rename_i hd
      injection hs with hs
      injection hs with h1 h2
      subst h1 h2
      simp only [List.cons_append, loopP]
      rw [if_neg hd]
  | n + 1, d :: t, e, e', r, hs => by
    simp only [loopP] at hs
    split at hs
    · rename_i hd
      simp only [List.cons_append, loopP]
      rw [if_pos hd]
      simp only [Option.bind_eq_some_iff] at hs ⊢
      obtain ⟨⟨e1, r1⟩, h1, h2⟩ := hs
      exact ⟨(e1, r1 ++ [41]), h _ _ _ h1, ext_loop hsg h n _ _ _ _ h2⟩
    · rename_i hd
      injection hs with hs
      injection hs with h1 h2
      subst h1 h2
      simp only [List.cons_append, loopP]
      rw [if_neg hd]
theorem ext_chain {sign : Nat} {op : Int} {p : PR} (hsg : sign ≠ 41) (h : Ext p) : Ext (chainP sign op p) := by
  intro s e r hs
  simp only [chainP, Option.bind_eq_some_iff] at hs ⊢
  obtain ⟨⟨e1, r1⟩, h1, h2⟩ := hs
  refine ⟨(e1, r1 ++ [41]), h _ _ _ h1, ?_⟩
  have := ext_loop hsg h _ _ _ _ _ h2
  rw [List.length_append]
  exact this
theorem sumF_ext : ∀ n, Ext (sumF n)
  | 0 => by intro s e r h; cases h
  | n + 1 => ext_chain (by decide) (ext_chain (by decide) (ext_starred (ext_single (sumF_ext n))))
/-- Brackets around all change nothing. -/
theorem readF_brackets {s : List UInt8} {e : List Int} (h : readF s = some e) (hl : s.length ≤ 197) : readF (40 :: (s ++ [41])) = some e := by
  unfold readF at h ⊢
  rw [if_pos (by omega)] at h
  rw [if_pos (by simp; omega)]
  split at h
  · rename_i e' he
    split at h
    · rename_i hk
      injection h with h
      subst h
      have h1 := sumF_ext 100 _ _ _ he
      have h2 : singleF (sumF 100) (40 :: (s ++ [41])) = some (e', []) := by
        simp only [singleF]
        rw [if_pos (by rfl), h1]
        rfl
      have h3 : sumF 101 (40 :: (s ++ [41])) = some (e', []) := by
        show chainP 43 20 (chainP 59 19 (starredP (singleF (sumF 100)))) _ = _
        simp only [chainP, starredP, h2, Option.map_some, Option.bind_some, starP, loopP]
      rw [sumF_short (by simp; omega) (by omega)] at h3
      rw [h3]
      simp only
      rw [if_pos hk]
    · cases h
  · cases h
end Go.Proofs.YtacgefknhncgfaaDoor
