/-
  Texts of walks and plain lemmas for this seat; no condition.
-/
import Derived.Test.YtoondakdjhhehaaDoorCodeP3
namespace Go.Proofs.YtoondakdjhhehaaDoor
open Go.RowKit
section

/-! Following jumps step by step, and what is reached. -/
def JGo (c : List In3) (t0 n t : Nat) : Prop := ∀ f, runS (stepJ c) (n + f) t0 = (runS (stepJ c) f t).map fun r => (r.1, r.2 + n)
theorem JGo.start (c : List In3) (t : Nat) : JGo c t 0 t := by
  intro f
  rw [Nat.zero_add]
  cases runS (stepJ c) f t <;> rfl
theorem JGo.next {c : List In3} {t0 n t t' : Nat} (h : JGo c t0 n t) (hs : stepJ c t = some t') : JGo c t0 (n + 1) t' := by
  intro f
  rw [show n + 1 + f = n + (f + 1) by omega, h (f + 1), runS_step hs, Option.map_map]
  congr 1
  funext r
  simp only [Function.comp, Prod.mk.injEq, true_and]
  omega
theorem JGo.done {c : List In3} {t0 n t : Nat} (h : JGo c t0 n t) (hc : Code0 c) (h0 : t0 < c.length) (hs : stepJ c t = none) : folC c t0 = some t := by
  have h1 := h 1
  rw [runS_end (f := 0) hs, Option.map_some] at h1
  exact (folC_some hc h0 h1).1
theorem JGo.over {c : List In3} {t0 n t : Nat} (h : JGo c t0 n t) (hc : Code0 c) (h0 : t0 < c.length) (hn : c.length < n) : folC c t0 = none := by
  cases hf : folC c t0 with
  | none => rfl
  | some b =>
    obtain ⟨_, _, k, hk⟩ := folC_open hc h0 hf
    obtain ⟨_, _, hk2, _⟩ := folC_some hc h0 hk
    simp only at hk2
    have h1 := h k
    rw [runS_mono hk (show k ≤ n + k by omega)] at h1
    cases hr : runS (stepJ c) k t with
    | none => rw [hr] at h1; cases h1
    | some r =>
      rw [hr] at h1
      simp only [Option.map_some, Option.some.injEq, Prod.mk.injEq] at h1
      omega
theorem stepJ_yes {c : List In3} {a : Nat} (h : (insAt c a).kind = 2) : stepJ c a = some (insAt c a).to.toNat := by simp [stepJ, h]
theorem stepJ_no {c : List In3} {a : Nat} (h : ¬ (insAt c a).kind = 2) : stepJ c a = none := by simp [stepJ, h]
theorem thrI_some {c : List In3} {x : In3} {b : Nat} (hk : x.kind = 1 ∨ x.kind = 2) (h : folC c x.to.toNat = some b) : thrI c x = ⟨x.kind, x.arg, (b : Nat)⟩ := by
  rw [thrI, if_pos (goesB_iff.2 hk), h]
theorem thrI_none {c : List In3} {x : In3} (h : folC c x.to.toNat = none) : thrI c x = x := by
  unfold thrI
  split
  · rw [h]
  · rfl
theorem thrI_other {c : List In3} {x : In3} (hk : ¬ (x.kind = 1 ∨ x.kind = 2)) : thrI c x = x := by
  rw [thrI, if_neg (fun h => hk (goesB_iff.1 h))]
/-- The first i instructions are threaded. -/
def ThrS (c zs : List In3) (i : Nat) : Prop := zs.length = c.length ∧ ∀ j (h : j < c.length), zs[j]? = some (if j < i then thrI c c[j] else c[j])
theorem ThrS.start (c : List In3) : ThrS c c 0 := ⟨rfl, fun j h => by rw [if_neg (by omega), List.getElem?_eq_getElem h]⟩
theorem ThrS.set {c zs : List In3} {i : Nat} (h : ThrS c zs i) (hi : i < c.length) (x : In3) (hx : x = thrI c c[i]) : ThrS c (zs.set i x) (i + 1) := by
  refine ⟨by rw [List.length_set]; exact h.1, fun j hj => ?_⟩
  by_cases e : j = i
  · subst e
    rw [List.getElem?_set_self (by rw [h.1]; exact hj), if_pos (by omega), hx]
  · rw [List.getElem?_set_ne (fun h => e h.symm), h.2 j hj]
    by_cases h2 : j < i
    · rw [if_pos h2, if_pos (by omega)]
    · rw [if_neg h2, if_neg (by omega)]
theorem ThrS.keep {c zs : List In3} {i : Nat} (h : ThrS c zs i) (hi : i < c.length) (hx : thrI c c[i] = c[i]) : ThrS c zs (i + 1) := by
  refine ⟨h.1, fun j hj => ?_⟩
  rw [h.2 j hj]
  by_cases h2 : j < i
  · rw [if_pos h2, if_pos (by omega)]
  · by_cases e : j = i
    · subst e
      rw [if_neg h2, if_pos (by omega), hx]
    · rw [if_neg h2, if_neg (by omega)]
theorem ThrS.done {c zs : List In3} {i : Nat} (h : ThrS c zs i) (hi : c.length ≤ i) : zs = thrC c := by
  apply List.ext_getElem?
  intro j
  by_cases hj : j < c.length
  · rw [h.2 j hj, if_pos (by omega)]
    simp [thrC, hj]
  · rw [List.getElem?_eq_none (by rw [h.1]; omega), List.getElem?_eq_none (by rw [thrC_length]; omega)]
theorem ThrS.at {c zs : List In3} {i : Nat} (h : ThrS c zs i) (hi : i < c.length) : ∃ hz : i < zs.length, zs[i] = c[i] := by
  have h1 := h.2 i hi
  rw [if_neg (by omega)] at h1
  obtain ⟨h2, h3⟩ := List.getElem?_eq_some_iff.1 h1
  exact ⟨h2, h3⟩

/-! Reached. -/
/-- What follows an instruction. -/
def Suc (c : List In3) (a b : Nat) : Prop := ((insAt c a).kind < 2 ∧ b = a + 1) ∨ (((insAt c a).kind = 1 ∨ (insAt c a).kind = 2) ∧ b = (insAt c a).to.toNat)
theorem Suc.rch {c : List In3} {a b : Nat} (h : Suc c a b) (ha : Rch c a) : Rch c b := by
  rcases h with ⟨h, rfl⟩ | ⟨h, rfl⟩
  · exact .next ha h
  · exact .to ha h
theorem rch_closed {c : List In3} {S : Nat → Prop} (h0 : S 0) (h : ∀ a b, S a → Suc c a b → S b) {a : Nat} (ha : Rch c a) : S a := by
  induction ha with
  | zero => exact h0
  | next _ hk ih => exact h _ _ ih (.inl ⟨hk, rfl⟩)
  | to _ hk ih => exact h _ _ ih (.inr ⟨hk, rfl⟩)
noncomputable def rchL (c : List In3) : List Bool := (List.range c.length).map (rchB c)
theorem rchL_length (c : List In3) : (rchL c).length = c.length := by simp [rchL]
/-- A walk through a code: what is marked, and what is still to be looked at. -/
structure Wk (c : List In3) (bs : List Bool) (todo : List Int) : Prop where
  len : bs.length = c.length
  sound : ∀ a, a < c.length → bs[a]? = some true → Rch c a
  lst : ∀ x ∈ todo, 0 ≤ x ∧ x < c.length ∧ Rch c x.toNat
  zero : bs[0]? = some true ∨ (0 : Int) ∈ todo
  next : ∀ a b, a < c.length → bs[a]? = some true → Suc c a b → bs[b]? = some true ∨ (b : Int) ∈ todo
theorem Wk.start {c : List In3} (hc : Code0 c) : Wk c (List.replicate c.length false) [0] where
  len := by simp
  sound := fun a ha h => by simp [ha] at h
  lst := fun x hx => by
    have e : x = 0 := by simpa using hx
    subst e
    have := hc.pos
    exact ⟨by omega, by omega, Rch.zero⟩
  zero := .inr (by simp)
  next := fun a b ha h => by simp [ha] at h
theorem Wk.pop {c : List In3} {bs : List Bool} {todo : List Int} {x : Int} (h : Wk c bs (todo ++ [x])) (hb : bs[x.toNat]? = some true) : Wk c bs todo where
  len := h.len
  sound := h.sound
  lst := fun y hy => h.lst y (by simp [hy])
  zero := by
    rcases h.zero with h0 | h0
    · exact .inl h0
    · rcases List.mem_append.1 h0 with h1 | h1
      · exact .inr h1
      · have e : (0 : Int) = x := by simpa using h1
        subst e
        exact .inl hb
  next := fun a b ha hm hs => by
    rcases h.next a b ha hm hs with h0 | h0
    · exact .inl h0
    · rcases List.mem_append.1 h0 with h1 | h1
      · exact .inr h1
      · have e : (b : Int) = x := by simpa using h1
        subst e
        exact .inl hb
theorem Wk.mark {c : List In3} (hc : Code0 c) {bs : List Bool} {todo ys : List Int} {x : Int} (h : Wk c bs (todo ++ [x])) (hy : ∀ y ∈ ys, ∃ b : Nat, y = b ∧ Suc c x.toNat b) (hs : ∀ b, Suc c x.toNat b → (b : Int) ∈ ys) : Wk c (bs.set x.toNat true) (todo ++ ys) := by
  obtain ⟨x0, x1, xr⟩ := h.lst x (by simp)
  have hxl : x.toNat < bs.length := by rw [h.len]; omega
  have hst : ∀ b : Nat, (bs.set x.toNat true)[b]? = some true ↔ bs[b]? = some true ∨ b = x.toNat := by
    intro b
    by_cases e : b = x.toNat
    · subst e
      simp [List.getElem?_set_self hxl]
    · rw [List.getElem?_set_ne (fun h => e h.symm)]
      simp [e]
  have hin : ∀ b : Nat, (bs[b]? = some true ∨ (b : Int) ∈ todo ++ [x]) → (bs.set x.toNat true)[b]? = some true ∨ (b : Int) ∈ todo ++ ys := by
    intro b hb
    rcases hb with h0 | h0
    · exact .inl ((hst b).2 (.inl h0))
    · rcases List.mem_append.1 h0 with h1 | h1
      · exact .inr (by simp [h1])
      · have e : (b : Int) = x := by simpa using h1
        exact .inl ((hst b).2 (.inr (by omega)))
  refine ⟨by rw [List.length_set]; exact h.len, fun a ha hm => ?_, fun y hy' => ?_, ?_, fun a b ha hm hsu => ?_⟩
  · rcases (hst a).1 hm with h0 | h0
    · exact h.sound a ha h0
    · rw [h0]; exact xr
  · rcases List.mem_append.1 hy' with h0 | h0
    · exact h.lst y (by simp [h0])
    · obtain ⟨b, rfl, hb⟩ := hy y h0
      have hr := hb.rch xr
      have := hr.lt hc
      exact ⟨by omega, by omega, hr⟩
  · have := hin 0 (by rcases h.zero with h0 | h0; exact .inl h0; exact .inr h0)
    exact this
  · rcases (hst a).1 hm with h0 | h0
    · exact hin b (h.next a b ha h0 hsu)
    · subst h0
      exact .inr (by simp [hs b hsu])
theorem Wk.done {c : List In3} (hc : Code0 c) {bs : List Bool} (h : Wk c bs []) : bs = rchL c := by
  have key : ∀ a, Rch c a → bs[a]? = some true := fun a ha => by
    have := rch_closed (S := fun a => a < c.length ∧ bs[a]? = some true) ⟨hc.pos, by rcases h.zero with h0 | h0; exact h0; simp at h0⟩ (fun a b hS hs => by
      rcases h.next a b hS.1 hS.2 hs with h0 | h0
      · exact ⟨by have := (List.getElem?_eq_some_iff.1 h0).1; rw [h.len] at this; exact this, h0⟩
      · simp at h0) ha
    exact this.2
  apply List.ext_getElem?
  intro j
  by_cases hj : j < c.length
  · have hjb : j < bs.length := by rw [h.len]; exact hj
    have e : (rchL c)[j]? = some (rchB c j) := by simp [rchL, hj]
    rw [e, List.getElem?_eq_getElem hjb]
    congr 1
    rw [Bool.eq_iff_iff, rchB_iff]
    constructor
    · intro hb
      exact h.sound j hj (by rw [List.getElem?_eq_getElem hjb, hb])
    · intro hr
      have := key j hr
      rw [List.getElem?_eq_getElem hjb] at this
      injection this
  · rw [List.getElem?_eq_none (by rw [h.len]; omega), List.getElem?_eq_none (by rw [rchL_length]; omega)]
end

section

/-! The passes that mark what is reached. -/
def Clo (c : List In3) (bs : List Bool) : Prop := ∀ a b, bs[a]? = some true → Suc c a b → bs[b]? = some true
structure Ps (c : List In3) (bs0 bs : List Bool) (k : Nat) : Prop where
  len : bs.length = c.length
  sound : ∀ a, bs[a]? = some true → Rch c a
  zero : bs[0]? = some true
  dis : (bs = bs0 ∧ ∀ a, a < k → bs0[a]? = some true → ∀ b, Suc c a b → bs0[b]? = some true) ∨ (bs.count false < bs0.count false ∧ ¬ Clo c bs0)
theorem set_true {bs : List Bool} {b : Nat} (h : bs[b]? = some true) : bs.set b true = bs := by
  obtain ⟨h1, h2⟩ := List.getElem?_eq_some_iff.1 h
  apply List.ext_getElem
  · simp
  · intro i h3 h4
    rw [List.getElem_set]
    split
    · rename_i e
      subst e
      exact h2.symm
    · rfl
theorem set_keep {bs : List Bool} {b j : Nat} (h : bs[j]? = some true) : (bs.set b true)[j]? = some true := by
  by_cases e : b = j
  · subst e
    rw [List.getElem?_set_self (List.getElem?_eq_some_iff.1 h).1]
  · rw [List.getElem?_set_ne e]
    exact h
theorem set_here {bs : List Bool} {b : Nat} (h : b < bs.length) : (bs.set b true)[b]? = some true := List.getElem?_set_self h
theorem count_less {bs : List Bool} {i : Nat} (h : bs[i]? = some false) : (bs.set i true).count false + 1 = bs.count false := by
  obtain ⟨h1, h2⟩ := List.getElem?_eq_some_iff.1 h
  have h3 : 1 ≤ bs.count false := List.one_le_count_iff.2 (h2 ▸ List.getElem_mem h1)
  rw [List.count_set h1, h2]
  simp
  omega
theorem Ps.mark {c : List In3} {bs0 bs : List Bool} {k b : Nat} (h : Ps c bs0 bs k) (hk : bs[k]? = some true) (hs : Suc c k b) (hb : b < c.length) : Ps c bs0 (bs.set b true) k := by
  refine ⟨by rw [List.length_set]; exact h.len, fun a ha => ?_, set_keep h.zero, ?_⟩
  · by_cases e : b = a
    · subst e
      exact hs.rch (h.sound k hk)
    · rw [List.getElem?_set_ne e] at ha
      exact h.sound a ha
  · have hbl : b < bs.length := by rw [h.len]; exact hb
    cases hv : bs[b] with
    | true =>
      have hv' : bs[b]? = some true := by rw [List.getElem?_eq_getElem hbl, hv]
      rw [set_true hv']
      exact h.dis
    | false =>
      have hv' : bs[b]? = some false := by rw [List.getElem?_eq_getElem hbl, hv]
      have hc := count_less hv'
      rcases h.dis with ⟨rfl, _⟩ | ⟨h1, h2⟩
      · exact .inr ⟨by omega, fun hcl => by
          have := hcl k b hk hs
          rw [hv'] at this
          cases this⟩
      · exact .inr ⟨by omega, h2⟩
theorem Ps.next {c : List In3} {bs0 bs : List Bool} {k : Nat} (h : Ps c bs0 bs k) (hk : bs[k]? = some true → ∀ b, Suc c k b → bs[b]? = some true) : Ps c bs0 bs (k + 1) := by
  refine ⟨h.len, h.sound, h.zero, ?_⟩
  rcases h.dis with ⟨h1, h2⟩ | h1
  · refine .inl ⟨h1, fun a ha hb b hs => ?_⟩
    by_cases e : a = k
    · subst e
      rw [← h1] at hb ⊢
      exact hk hb b hs
    · exact h2 a (by omega) hb b hs
  · exact .inr h1
/-- Behind n passes. -/
structure Pn (c : List In3) (bs : List Bool) (n : Nat) : Prop where
  len : bs.length = c.length
  sound : ∀ a, bs[a]? = some true → Rch c a
  zero : bs[0]? = some true
  dis : Clo c bs ∨ n + bs.count false + 1 ≤ c.length
theorem Pn.start {c : List In3} (hc : Code0 c) : Pn c ((List.replicate c.length false).set 0 true) 0 := by
  have hp := hc.pos
  have h0 : (List.replicate c.length false)[0]? = some false := by rw [List.getElem?_replicate, if_pos (show 0 < c.length from hp)]
  refine ⟨by simp, fun a ha => ?_, set_here (by rw [List.length_replicate]; exact hp), .inr ?_⟩
  · by_cases e : 0 = a
    · subst e
      exact .zero
    · rw [List.getElem?_set_ne e] at ha
      rw [List.getElem?_replicate] at ha
      split at ha <;> cases ha
  · have := count_less h0
    rw [List.count_replicate_self] at this
    omega
theorem Pn.pass {c : List In3} {bs : List Bool} {n : Nat} (h : Pn c bs n) : Ps c bs bs 0 := ⟨h.len, h.sound, h.zero, .inl ⟨rfl, fun _ h' => absurd h' (Nat.not_lt_zero _)⟩⟩
theorem Ps.done {c : List In3} {bs0 bs : List Bool} {n k : Nat} (h0 : Pn c bs0 n) (h : Ps c bs0 bs k) (hk : c.length ≤ k) : Pn c bs (n + 1) := by
  refine ⟨h.len, h.sound, h.zero, ?_⟩
  rcases h.dis with ⟨rfl, h2⟩ | ⟨h1, h2⟩
  · exact .inl fun a b ha hs => h2 a (by have := (List.getElem?_eq_some_iff.1 ha).1; rw [h.len] at this; omega) ha b hs
  · rcases h0.dis with h3 | h3
    · exact absurd h3 h2
    · exact .inr (by omega)
theorem Pn.done {c : List In3} {bs : List Bool} {n : Nat} (hc : Code0 c) (h : Pn c bs n) (hn : c.length ≤ n) : bs = rchL c := by
  have hcl : Clo c bs := by
    rcases h.dis with h1 | h1
    · exact h1
    · omega
  exact Wk.done hc ⟨h.len, fun a _ ha => h.sound a ha, fun x hx => by simp at hx, .inl h.zero, fun a b _ ha hs => .inl (hcl a b ha hs)⟩
theorem Suc.of0 {c : List In3} {a b : Nat} (h : (insAt c a).kind = 0) (hs : Suc c a b) : b = a + 1 := by
  rcases hs with ⟨_, h1⟩ | ⟨h1, _⟩
  · exact h1
  · omega
theorem Suc.of1 {c : List In3} {a b : Nat} (hs : Suc c a b) : b = a + 1 ∨ b = (insAt c a).to.toNat := by
  rcases hs with ⟨_, h1⟩ | ⟨_, h1⟩
  · exact .inl h1
  · exact .inr h1
theorem Suc.of2 {c : List In3} {a b : Nat} (h : (insAt c a).kind = 2) (hs : Suc c a b) : b = (insAt c a).to.toNat := by
  rcases hs with ⟨h1, _⟩ | ⟨_, h1⟩
  · omega
  · exact h1
theorem Suc.of3 {c : List In3} {a b : Nat} (h : (insAt c a).kind = 3) : ¬ Suc c a b := by
  rintro (⟨h1, _⟩ | ⟨h1, _⟩)
  · omega
  · omega
end
end Go.Proofs.YtoondakdjhhehaaDoor
