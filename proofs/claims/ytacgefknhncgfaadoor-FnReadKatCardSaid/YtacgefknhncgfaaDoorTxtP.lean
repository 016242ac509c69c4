/-
  Texts of walks and plain lemmas for this seat; no condition.
-/
import Derived.Test.YtacgefknhncgfaaDoorParF
namespace Go.Proofs.YtacgefknhncgfaaDoor
open Go.RowKit
set_option linter.unusedVariables false

/-! Texts of expressions. -/
def txtK : KT → Nat → List UInt8
  | .leaf n, _ => if n ≤ 15 then testT n.toNat else [UInt8.ofNat (97 + (n - 16).toNat)]
  | .star t, _ => txtK t 3 ++ [42]
  | .bin p a b, s => if (if p then 1 else 2) < s then 40 :: (txtK a (if p then 1 else 2) ++ (if p then 43 else 59) :: txtK b ((if p then 1 else 2) + 1)) ++ [41]
      else txtK a (if p then 1 else 2) ++ (if p then 43 else 59) :: txtK b ((if p then 1 else 2) + 1)
theorem txt_leaf (n : Int) (s : Nat) : txtK (.leaf n) s = if n ≤ 15 then testT n.toNat else [UInt8.ofNat (97 + (n - 16).toNat)] := rfl
theorem txt_star (t : KT) (s : Nat) : txtK (.star t) s = txtK t 3 ++ [42] := rfl
theorem txt_or1 (a b : KT) : txtK (.bin true a b) 1 = txtK a 1 ++ 43 :: txtK b 2 := rfl
theorem txt_or2 (a b : KT) : txtK (.bin true a b) 2 = 40 :: (txtK (.bin true a b) 1) ++ [41] := rfl
theorem txt_or3 (a b : KT) : txtK (.bin true a b) 3 = 40 :: (txtK (.bin true a b) 1) ++ [41] := rfl
theorem txt_seq1 (a b : KT) : txtK (.bin false a b) 1 = txtK a 2 ++ 59 :: txtK b 3 := rfl
theorem txt_seq2 (a b : KT) : txtK (.bin false a b) 2 = txtK a 2 ++ 59 :: txtK b 3 := rfl
theorem txt_seq3 (a b : KT) : txtK (.bin false a b) 3 = 40 :: (txtK (.bin false a b) 1) ++ [41] := rfl
theorem txt_zero : ∀ (t : KT), txtK t 0 = txtK t 1
  | .leaf _ => rfl
  | .star _ => rfl
  | .bin true a b => rfl
  | .bin false a b => rfl
theorem txt_len12 : ∀ t : KT, (txtK t 1).length ≤ (txtK t 2).length ∧ (txtK t 2).length ≤ (txtK t 3).length ∧ (txtK t 3).length ≤ (txtK t 1).length + 2
  | .leaf n => by simp only [txt_leaf]; omega
  | .star t => by simp only [txt_star]; omega
  | .bin true a b => by simp only [txt_or2, txt_or3]; simp; omega
  | .bin false a b => by rw [txt_seq3, txt_seq2, txt_seq1]; simp; omega
/-- A text has at most so many bytes. -/
def KT.leaves : KT → Nat
  | .leaf _ => 1
  | .star t => t.leaves
  | .bin _ a b => a.leaves + b.leaves
theorem leaves_size : ∀ t : KT, 2 * t.leaves ≤ t.size + 1
  | .leaf _ => by simp [KT.leaves, KT.size]
  | .star t => by have := leaves_size t; simp [KT.leaves, KT.size]; omega
  | .bin _ a b => by have := leaves_size a; have := leaves_size b; simp [KT.leaves, KT.size]; omega
theorem txt_len : ∀ {t : KT}, t.ok 0 = true → ∀ s, s ≤ 3 → (txtK t s).length ≤ 3 * t.size + 2 * t.leaves
  | .leaf n, h, s, _ => by
    simp only [KT.ok, Bool.and_eq_true, decide_eq_true_eq] at h
    rw [txt_leaf]
    simp only [KT.size, KT.leaves]
    split
    · have := (testT_forms n.toNat (by omega)).1
      omega
    · simp
  | .star t, h, s, _ => by
    have := txt_len (t := t) h 3 (by omega)
    rw [txt_star]
    simp only [KT.size, KT.leaves, List.length_append, List.length_cons, List.length_nil]
    omega
  | .bin p a b, h, s, _ => by
    simp only [KT.ok, Bool.and_eq_true] at h
    have ha := txt_len h.1
    have hb := txt_len h.2
    simp only [KT.size, KT.leaves]
    have hs : s = 0 ∨ s = 1 ∨ s = 2 ∨ s = 3 := by omega
    cases p
    · have ha2 := ha 2 (by omega)
      have hb3 := hb 3 (by omega)
      rcases hs with rfl | rfl | rfl | rfl <;> simp [txtK] <;> omega
    · have ha2 := ha 1 (by omega)
      have hb3 := hb 2 (by omega)
      rcases hs with rfl | rfl | rfl | rfl <;> simp [txtK] <;> omega
theorem txt_short {t : KT} (h : t.ok 0 = true) (hs : t.size ≤ 40) (s : Nat) (h3 : s ≤ 3) : (txtK t s).length ≤ 199 := by
  have h1 := txt_len h s h3
  have h2 := leaves_size t
  omega

/-! They are read. -/
def hdNot (l : List Nat) (r : List UInt8) : Prop := ∀ c t, r = c :: t → c.toNat ∉ l
theorem hdNot_nil (l : List Nat) : hdNot l [] := fun c t h => by cases h
theorem hdNot_cons {l : List Nat} {c : UInt8} {t : List UInt8} (h : c.toNat ∉ l) : hdNot l (c :: t) := fun c' t' e => by injection e with e _; rw [← e]; exact h
theorem hdNot.mono {l m : List Nat} {r : List UInt8} (h : hdNot m r) (hs : ∀ x ∈ l, x ∈ m) : hdNot l r := fun c t e hc => h c t e (hs _ hc)
theorem star_stop {r : List UInt8} (h : hdNot [42] r) (e : List Int) : starP e r = (e, r) := by
  cases r with
  | nil => rfl
  | cons c t =>
    have := h c t rfl
    simp only [List.mem_singleton] at this
    rw [starP, if_neg this]
theorem loop_stop {sign : Nat} {op : Int} {p : PR} {r : List UInt8} (h : hdNot [sign] r) (n : Nat) (e : List Int) : loopP sign op p n e r = some (e, r) := by
  cases r with
  | nil => cases n <;> rfl
  | cons c t =>
    have := h c t rfl
    simp only [List.mem_singleton] at this
    cases n <;> rw [loopP, if_neg this]
/-- The rounds that are left do not matter. -/
theorem loop_fuel {sign : Nat} {op : Int} {p : PR} (hp : Ends p) : ∀ (N : Nat) (s : List UInt8), s.length ≤ N → ∀ (n m : Nat) (e : List Int), s.length ≤ n → s.length ≤ m → loopP sign op p n e s = loopP sign op p m e s
  | _, [], _, n, m, e, _, _ => by cases n <;> cases m <;> rfl
  | 0, c :: t, h, _, _, _, _, _ => by simp at h
  | N + 1, c :: t, h, n, m, e, hn, hm => by
    simp only [List.length_cons] at h hn hm
    obtain ⟨n, rfl⟩ : ∃ k, n = k + 1 := ⟨n - 1, by omega⟩
    obtain ⟨m, rfl⟩ : ∃ k, m = k + 1 := ⟨m - 1, by omega⟩
    simp only [loopP]
    split
    · cases hx : p t with
      | none => rfl
      | some x =>
        have := ends_len (s := t) (r := x.2) (e := x.1) hp hx
        simp only [Option.bind_some]
        exact loop_fuel hp N x.2 (by omega) n m _ (by omega) (by omega)
    · rfl
theorem single_br {p : PR} {x r : List UInt8} {e : List Int} (h : p (x ++ 41 :: r) = some (e, 41 :: r)) : singleF p (40 :: x ++ [41] ++ r) = some (e, r) := by
  rw [show 40 :: x ++ [41] ++ r = 40 :: (x ++ 41 :: r) by simp]
  simp only [singleF]
  rw [if_pos (by rfl), h]
  simp only
  rw [if_pos (by rfl)]
theorem leaf_head {t : Nat} (ht : t < 16) (r : List UInt8) {p : PR} : singleF p (testT t ++ r) = leafF (testT t ++ r) := by
  obtain ⟨_, h2, _, _, _, _, _, h8⟩ := testT_forms t ht
  cases hx : testT t with
  | nil => exact absurd hx h2
  | cons c s =>
    rw [hx] at h8
    simp only [List.cons_append, singleF]
    rw [if_neg]
    intro hc
    have : c = 40 := UInt8.toNat.inj hc
    rw [this] at h8
    exact h8 rfl
/-- What the readers make of a text. -/
structure RdK (n : Nat) (t : KT) : Prop where
  r3 : ∀ r, starredP (singleF (sumF n)) (txtK t 3 ++ r) = some (starP t.post r)
  r2 : ∀ r, hdNot [42] r → prodF (sumF n) (txtK t 2 ++ r) = loopP 59 19 (starredP (singleF (sumF n))) r.length t.post r
  r1 : ∀ r, hdNot [42, 59] r → sumF (n + 1) (txtK t 1 ++ r) = loopP 43 20 (prodF (sumF n)) r.length t.post r
theorem starred_endsF (n : Nat) : Ends (starredP (singleF (sumF n))) := starred_ends (singleF_ends (sumF_ends n))
theorem prod_endsF (n : Nat) : Ends (prodF (sumF n)) := chain_ends (starred_endsF n)
/-- A part that binds most. -/
theorem rd_atom {n : Nat} {t : KT} (h1 : txtK t 2 = txtK t 3) (h2 : txtK t 1 = txtK t 3) (h3 : ∀ r, starredP (singleF (sumF n)) (txtK t 3 ++ r) = some (starP t.post r)) : RdK n t := by
  have r2 : ∀ r, hdNot [42] r → prodF (sumF n) (txtK t 2 ++ r) = loopP 59 19 (starredP (singleF (sumF n))) r.length t.post r := fun r hr => by
    rw [h1, prodF, chainP, h3, star_stop hr]
    rfl
  refine ⟨h3, r2, fun r hr => ?_⟩
  have hr1 : hdNot [42] r := hr.mono (by simp)
  have := r2 r hr1
  rw [loop_stop (hr.mono (by simp))] at this
  rw [h2, ← h1]
  show chainP 43 20 (prodF (sumF n)) _ = _
  rw [chainP, this]
  rfl
theorem rd_all : ∀ (n : Nat) (t : KT), t.ok 0 = true → t.size ≤ n → RdK n t
  | n, .leaf k, h, hs => by
    simp only [KT.ok, Bool.and_eq_true, decide_eq_true_eq] at h
    refine rd_atom rfl rfl fun r => ?_
    rw [txt_leaf]
    split
    · rename_i hk
      have hl := leafF_test k.toNat (by omega) r
      rw [starredP, leaf_head (by omega), hl, Option.map_some]
      rw [show ((k.toNat : Nat) : Int) = k by omega]
      rfl
    · have hl := leafF_act (97 + (k - 16).toNat) (by omega) (by omega) r
      have hc : (UInt8.ofNat (97 + (k - 16).toNat)).toNat = 97 + (k - 16).toNat := by simp; omega
      rw [starredP, List.singleton_append]
      simp only [singleF, hc]
      rw [if_neg (by omega), hl, Option.map_some]
      rw [show 16 + (((97 + (k - 16).toNat : Nat) : Int) - 97) = k by omega]
      rfl
  | n, .star t, h, hs => by
    simp only [KT.size] at hs
    have ih := rd_all n t h (by omega)
    refine rd_atom rfl rfl fun r => ?_
    rw [txt_star, List.append_assoc, ih.r3]
    simp only [List.singleton_append, starP]
    rw [if_pos (by rfl)]
    rfl
  | 0, .bin _ _ _, _, hs => by simp [KT.size] at hs
  | n + 1, .bin true a b, h, hs => by
    simp only [KT.ok, Bool.and_eq_true] at h
    simp only [KT.size] at hs
    have iha := rd_all (n + 1) a h.1 (by omega)
    have ihb := rd_all (n + 1) b h.2 (by omega)
    have q1 : ∀ (m : Nat), RdK m a → RdK m b → ∀ r, hdNot [42, 59] r → sumF (m + 1) (txtK (.bin true a b) 1 ++ r) = loopP 43 20 (prodF (sumF m)) r.length (KT.bin true a b).post r := fun m ia ib r hr => by
      rw [txt_or1, List.append_assoc, List.cons_append, ia.r1 _ (hdNot_cons (by decide))]
      have hb := ib.r2 r (hr.mono (by simp))
      rw [loop_stop (hr.mono (by simp))] at hb
      rw [List.length_cons, loopP, if_pos (by rfl), hb]
      simp only [Option.bind_some]
      exact loop_fuel (prod_endsF m) _ r (Nat.le_refl _) _ _ _ (by simp) (Nat.le_refl _)
    have q3 : ∀ r, starredP (singleF (sumF (n + 1))) (txtK (.bin true a b) 3 ++ r) = some (starP (KT.bin true a b).post r) := fun r => by
      have h0 := q1 n (rd_all n a h.1 (by omega)) (rd_all n b h.2 (by omega)) (41 :: r) (hdNot_cons (by decide))
      rw [loop_stop (hdNot_cons (by decide))] at h0
      rw [txt_or3, starredP, single_br h0]
      rfl
    have q2 : ∀ r, hdNot [42] r → prodF (sumF (n + 1)) (txtK (.bin true a b) 2 ++ r) = loopP 59 19 (starredP (singleF (sumF (n + 1)))) r.length (KT.bin true a b).post r := fun r hr => by
      have := q3 r
      rw [star_stop hr] at this
      rw [show txtK (.bin true a b) 2 = txtK (.bin true a b) 3 from rfl, prodF, chainP, this]
      rfl
    exact ⟨q3, q2, q1 (n + 1) iha ihb⟩
  | n + 1, .bin false a b, h, hs => by
    simp only [KT.ok, Bool.and_eq_true] at h
    simp only [KT.size] at hs
    have iha := rd_all (n + 1) a h.1 (by omega)
    have ihb := rd_all (n + 1) b h.2 (by omega)
    have q2 : ∀ (m : Nat), RdK m a → RdK m b → ∀ r, hdNot [42] r → prodF (sumF m) (txtK (.bin false a b) 2 ++ r) = loopP 59 19 (starredP (singleF (sumF m))) r.length (KT.bin false a b).post r := fun m ia ib r hr => by
      rw [txt_seq2, List.append_assoc, List.cons_append, ia.r2 _ (hdNot_cons (by decide))]
      have hb := ib.r3 r
      rw [star_stop hr] at hb
      rw [List.length_cons, loopP, if_pos (by rfl), hb]
      simp only [Option.bind_some]
      exact loop_fuel (starred_endsF m) _ r (Nat.le_refl _) _ _ _ (by simp) (Nat.le_refl _)
    have q1 : ∀ (m : Nat), RdK m a → RdK m b → ∀ r, hdNot [42, 59] r → sumF (m + 1) (txtK (.bin false a b) 1 ++ r) = loopP 43 20 (prodF (sumF m)) r.length (KT.bin false a b).post r := fun m ia ib r hr => by
      have := q2 m ia ib r (hr.mono (by simp))
      rw [loop_stop (hr.mono (by simp))] at this
      rw [show txtK (.bin false a b) 1 = txtK (.bin false a b) 2 from rfl]
      show chainP 43 20 (prodF (sumF m)) _ = _
      rw [chainP, this]
      rfl
    have q3 : ∀ r, starredP (singleF (sumF (n + 1))) (txtK (.bin false a b) 3 ++ r) = some (starP (KT.bin false a b).post r) := fun r => by
      have h0 := q1 n (rd_all n a h.1 (by omega)) (rd_all n b h.2 (by omega)) (41 :: r) (hdNot_cons (by decide))
      rw [loop_stop (hdNot_cons (by decide))] at h0
      rw [txt_seq3, starredP, single_br h0]
      rfl
    exact ⟨q3, q2 (n + 1) iha ihb, q1 (n + 1) iha ihb⟩
/-- Texts of expressions are read. -/
theorem readF_txt {t : KT} (h : t.ok 0 = true) (hs : t.size ≤ 40) : readF (txtK t 1) = some t.post := by
  have hl := txt_short h hs 1 (by omega)
  have h1 := (rd_all 100 t h (by omega)).r1 [] (hdNot_nil _)
  rw [List.append_nil, loop_stop (hdNot_nil _), sumF_short hl (by omega)] at h1
  rw [readF, if_pos hl, h1]
  simp only
  rw [if_pos (katV_post h hs)]

/-! They are the shortest. -/
def Least (p : PR) (k : Nat) : Prop := ∀ s e r, p s = some (e, r) → ∃ t : KT, t.ok 0 = true ∧ t.post = e ∧ (txtK t k).length + r.length ≤ s.length
theorem least_leaf : Least leafF 3 := by
  intro s e r h
  rcases leafF_some h with ⟨c, t, rfl, h1, h2, rfl, rfl⟩ | ⟨t, ht, rfl, rfl⟩
  · refine ⟨.leaf (16 + ((c.toNat : Int) - 97)), by simp [KT.ok]; omega, rfl, ?_⟩
    rw [txt_leaf, if_neg (by omega)]
    simp
    omega
  · refine ⟨.leaf ((t : Nat) : Int), by simp [KT.ok]; omega, rfl, ?_⟩
    rw [txt_leaf, if_pos (by omega)]
    simp
theorem least_single {p : PR} (h : Least p 1) : Least (singleF p) 3 := by
  intro s e r hs
  cases s with
  | nil => simp [singleF] at hs
  | cons c t =>
    simp only [singleF] at hs
    split at hs
    · split at hs
      · rename_i e' d r2 he
        split at hs
        · injection hs with hs
          injection hs with h1 h2
          subst h1 h2
          obtain ⟨k, k1, k2, k3⟩ := h _ _ _ he
          refine ⟨k, k1, k2, ?_⟩
          have := (txt_len12 k).2.2
          simp only [List.length_cons] at k3 ⊢
          omega
        · cases hs
      · cases hs
    · exact least_leaf _ _ _ hs
theorem least_star : ∀ (s : List UInt8) (t : KT) (e : List Int) (r : List UInt8), t.ok 0 = true → starP t.post s = (e, r) → ∃ t' : KT, t'.ok 0 = true ∧ t'.post = e ∧ (txtK t' 3).length + r.length ≤ (txtK t 3).length + s.length
  | [], t, e, r, ht, h => by
    simp only [starP] at h
    injection h with h1 h2
    exact ⟨t, ht, h1, by simp [← h2]⟩
  | c :: s, t, e, r, ht, h => by
    simp only [starP] at h
    split at h
    · obtain ⟨t', h1, h2, h3⟩ := least_star s (.star t) e r ht h
      refine ⟨t', h1, h2, ?_⟩
      rw [txt_star] at h3
      simp only [List.length_append, List.length_cons, List.length_nil] at h3 ⊢
      omega
    · injection h with h1 h2
      exact ⟨t, ht, h1, by rw [← h2]; exact Nat.le_refl _⟩
theorem least_starred {p : PR} (h : Least p 3) : Least (starredP p) 3 := by
  intro s e r hs
  simp only [starredP, Option.map_eq_some_iff] at hs
  obtain ⟨⟨e1, r1⟩, h1, h2⟩ := hs
  obtain ⟨t, t1, t2, t3⟩ := h _ _ _ h1
  subst t2
  obtain ⟨t', a1, a2, a3⟩ := least_star _ t _ _ t1 h2
  replace a3 : (txtK t' 3).length + r.length ≤ (txtK t 3).length + r1.length := a3
  exact ⟨t', a1, a2, by omega⟩
theorem least_loop {sign : Nat} {o : Bool} {p : PR} (hp : Ends p) (h : Least p (if o then 2 else 3)) : ∀ (n : Nat) (s : List UInt8) (t : KT) (e : List Int) (r : List UInt8), t.ok 0 = true → loopP sign (KT.op o) p n t.post s = some (e, r) →
    ∃ t' : KT, t'.ok 0 = true ∧ t'.post = e ∧ (txtK t' (if o then 1 else 2)).length + r.length ≤ (txtK t (if o then 1 else 2)).length + s.length
  | n, [], t, e, r, ht, hs => by
    have hs' : some (t.post, ([] : List UInt8)) = some (e, r) := by cases n <;> exact hs
    injection hs' with hs'
    injection hs' with h1 h2
    exact ⟨t, ht, h1, by rw [← h2]; exact Nat.le_refl _⟩
  | 0, c :: s, t, e, r, ht, hs => by
    simp only [loopP] at hs
    split at hs
    · cases hs
    · injection hs with hs
      injection hs with h1 h2
      exact ⟨t, ht, h1, by rw [← h2]; exact Nat.le_refl _⟩
  | n + 1, c :: s, t, e, r, ht, hs => by
    simp only [loopP] at hs
    split at hs
    · simp only [Option.bind_eq_some_iff] at hs
      obtain ⟨⟨e1, r1⟩, h1, h2⟩ := hs
      obtain ⟨u, u1, u2, u3⟩ := h _ _ _ h1
      replace h2 : loopP sign (KT.op o) p n (t.post ++ e1 ++ [KT.op o]) r1 = some (e, r) := h2
      rw [← u2] at h2
      obtain ⟨t', a1, a2, a3⟩ := least_loop hp h n r1 (.bin o t u) e r (by simp [KT.ok, ht, u1]) h2
      refine ⟨t', a1, a2, ?_⟩
      cases o
      · simp only [Bool.false_eq_true, if_false] at u3 a3 ⊢
        rw [txt_seq2] at a3
        simp only [List.length_append, List.length_cons] at a3 ⊢
        omega
      · simp only [if_true] at u3 a3 ⊢
        rw [txt_or1] at a3
        simp only [List.length_append, List.length_cons] at a3 ⊢
        omega
    · injection hs with hs
      injection hs with h1 h2
      exact ⟨t, ht, h1, by rw [← h2]; exact Nat.le_refl _⟩
theorem least_chain {sign : Nat} {o : Bool} {p : PR} (hp : Ends p) (h : Least p (if o then 2 else 3)) : Least (chainP sign (KT.op o) p) (if o then 1 else 2) := by
  intro s e r hs
  simp only [chainP, Option.bind_eq_some_iff] at hs
  obtain ⟨⟨e1, r1⟩, h1, h2⟩ := hs
  obtain ⟨t, t1, t2, t3⟩ := h _ _ _ h1
  subst t2
  obtain ⟨t', a1, a2, a3⟩ := least_loop hp h _ _ t _ _ t1 h2
  replace a3 : (txtK t' (if o then 1 else 2)).length + r.length ≤ (txtK t (if o then 1 else 2)).length + r1.length := a3
  have hm := txt_len12 t
  refine ⟨t', a1, a2, ?_⟩
  cases o
  · simp only [Bool.false_eq_true, if_false] at t3 a3 ⊢; omega
  · simp only [if_true] at t3 a3 ⊢; omega
theorem least_sum : ∀ n, Least (sumF n) 1
  | 0 => by intro s e r h; cases h
  | n + 1 => least_chain (o := true) (prod_endsF n) (least_chain (o := false) (starred_endsF n) (least_starred (least_single (least_sum n))))
/-- No text of the same expression is shorter. -/
theorem readF_least {s : List UInt8} {e : List Int} (h : readF s = some e) : katV e = true ∧ s.length ≤ 199 ∧ ∃ t : KT, t.ok 0 = true ∧ t.post = e ∧ t.size ≤ 40 ∧ (txtK t 1).length ≤ s.length := by
  unfold readF at h
  split at h
  · rename_i hl
    split at h
    · rename_i e' he
      split at h
      · rename_i hk
        injection h with h
        subst h
        obtain ⟨t, h1, h2, h3⟩ := least_sum 100 _ _ _ he
        refine ⟨hk, hl, t, h1, h2, ?_, by simpa using h3⟩
        rw [← t.post_length, h2]
        simp only [katV, Bool.and_eq_true, decide_eq_true_eq] at hk
        exact hk.1.2
      · cases h
    · cases h
  · cases h
end Go.Proofs.YtacgefknhncgfaaDoor
