/-
  Texts of walks and plain lemmas for this seat; no condition.
-/
import Derived.Test.YtoondakdjhhehaaGK
import Derived.Test.YtoondakdjhhehaaGG
import Derived.Test.YtoondakdjhhehaaGI
import Derived.Test.YtoondakdjhhehaaGJ
import Derived.Test.YtoondakdjhhehaaAct
import Derived.Test.YtoondakdjhhehaaGH
import Derived.Test.YtoondakdjhhehaaAcs
import Derived.Test.YtoondakdjhhehaaMvAt
import Derived.Lib.BufferMore
import Derived.Deep.RegionHeldLaw
import Derived.Deep.RegionHeld3
import Derived.Deep.RegionWith
namespace Go.Proofs.Ytoondakdjhhehaa
open Go.RowKit
section

end

section

/-- The moves behind an act, if it can be done so far. -/
def madeV (D : Dsk) (a : Ac) : Option (List Mv) :=
  if namedB a then
    if a.kind = 0 then some (D.made ++ [a.step])
    else if a.kind = 1 then (if 1 ≤ a.count ∧ a.count ≤ D.made.length then some (D.made.take (D.made.length - a.count.toNat)) else none)
    else (if simpBy D.now = [] then none else some (D.made ++ simpBy D.now))
  else none
/-- A desk behind an act. -/
def deskDo (D : Dsk) (a : Ac) : Dsk × Bool :=
  if deskV D then
    match (madeV D a).bind fun ms => (proofV D.first ms).map fun x => (ms, x) with
    | some p => (⟨D.first, D.goal, p.1, p.2⟩, true)
    | none => (D, false)
  else (Dsk.none, false)
abbrev aggA (a : Ac) : Value := .agg #[.int .i64 a.kind, .int .i64 a.step.which, .bool a.step.back, .int .i64 a.step.at_, .int .i64 a.count]
theorem SlM.front {lo hi n cap : Nat} {w : World} {a : Option Addr} {xs : List Mv} (h : SlM lo hi w (.slice a n cap) xs) (j : Nat) (hj : j ≤ xs.length) : SlM lo hi w (.slice a j cap) (xs.take j) := by
  obtain ⟨a', cap', e, h1, h2, h3, h4, h5⟩ := h
  injection e with e1 e2 e3
  subst e1 e2 e3
  have hl : (xs.take j).length = j := by simp; omega
  have hxs : mvs xs = mvs (xs.take j) ++ mvs (xs.drop j) := by rw [← mvs_append, List.take_append_drop]
  have ht : mvs (xs.take j) = (mvs xs).take (j * 3) := by
    rw [hxs]
    exact (List.take_left' (by rw [mvs_length, hl])).symm
  refine ⟨_, _, by rw [hl], by rw [hl]; omega, h2, mvs_length _, h4, fun i hi' => ?_⟩
  rw [mvs_length, hl] at hi'
  have hml := mvs_length xs
  obtain ⟨b, off, f1, f2, f3, f4, f5⟩ := h5 i (by omega)
  refine ⟨b, off, f1, f2, f3, f4, ?_⟩
  rw [f5, ht, List.getElem?_take, if_pos (by omega)]
/-- A move laid for itself reads as a row of one. -/
theorem Blk.one_mv {b : Nat} {m : Mv} {t : TypeId} {w : World} (h : Blk b (.cells (encMv m).toArray t) w) : Sl 3 b (b + 1) w (.slice (some ⟨b, 0, none⟩) 1 1) 1 (encMv m) := by
  refine ⟨_, _, rfl, Nat.le_refl _, by unfold maxLen; omega, rfl, (by intro h; cases h), fun i hi => ⟨b, 0, rfl, Nat.le_refl _, by omega, h.lt, ?_⟩⟩
  rw [h.cell]
  simp
theorem named_kinds {a : Ac} (h : namedB a = true) : a.kind = 0 ∨ a.kind = 1 ∨ a.kind = 2 := by
  unfold namedB at h
  split at h
  · rename_i h0; exact .inl (by simpa using h0)
  · split at h
    · rename_i h1; exact .inr (.inl (by simpa using h1))
    · split at h
      · rename_i h2; exact .inr (.inr (by simpa using h2))
      · cases h

end

section

def RetDB (P : Value → Value → Value → Value → Bool → World → Prop) (e : Ending) (w' : World) : Prop := ∃ a b c d ok, e = .returned (.tuple #[aggD a b c d, .bool ok]) ∧ P a b c d ok w'
theorem RetDB.mk {P : Value → Value → Value → Value → Bool → World → Prop} {e : Ending} {w' : World} (a b c d : Value) (ok : Bool) (h : e = .returned (.tuple #[aggD a b c d, .bool ok])) (hp : P a b c d ok w') : RetDB P e w' := ⟨a, b, c, d, ok, h, hp⟩
theorem madeV_len {D : Dsk} {A : Ac} {x : List Int} {ms : List Mv} (hx : proofV D.first D.made = some x) (h : madeV D A = some ms) : ms.length ≤ 1048576 := by
  have h1 : D.made.length ≤ 60 := by
    unfold proofV at hx
    split at hx
    · rename_i h2; simp at h2; exact h2.2
    · cases hx
  have h3 := simpBy_len D.now
  unfold madeV at h
  repeat' split at h
  all_goals first
    | (cases h; simp; omega)
    | (cases h; done)
end

section

end

section

theorem proofV_iff {e x : List Int} {ms : List Mv} : proofV e ms = some x ↔ katV e = true ∧ ms.length ≤ 60 ∧ runM e ms = some x := by
  unfold proofV
  constructor
  · intro h
    split at h
    · rename_i hc
      simp only [Bool.and_eq_true, decide_eq_true_eq] at hc
      exact ⟨hc.1, hc.2, h⟩
    · cases h
  · rintro ⟨h1, h2, h3⟩
    simp [h1, h2, h3]
/-- More moves behind moves that can be made. -/
theorem proofV_more {e x : List Int} {a : List Mv} (h : proofV e a = some x) (b : List Mv) : proofV e (a ++ b) = if (a ++ b).length ≤ 60 then runM x b else none := by
  obtain ⟨h1, h2, h3⟩ := proofV_iff.1 h
  unfold proofV
  rw [h1, runM_append, h3]
  simp
/-- A front of moves that can be made. -/
theorem proofV_front {e x : List Int} {a : List Mv} (h : proofV e a = some x) (k : Nat) : ∃ y, proofV e (a.take k) = some y := by
  obtain ⟨h1, h2, h3⟩ := proofV_iff.1 h
  have h4 := runM_append (a.take k) (a.drop k) e
  rw [List.take_append_drop, h3] at h4
  cases h5 : runM e (a.take k) with
  | none => rw [h5] at h4; cases h4
  | some y => exact ⟨y, proofV_iff.2 ⟨h1, by simp; omega, h5⟩⟩
theorem simpBy_run {e : List Int} (h : katV e = true) : ∃ y, runM e (simpBy e) = some y := by
  obtain ⟨_, _, h3⟩ := proofV_iff.1 (proofV_simpM h)
  exact ⟨_, by rw [simpBy, if_pos h]; exact h3⟩
/-- A desk that counts, its parts. -/
theorem deskV_parts {D : Dsk} (h : deskV D = true) : katV D.first = true ∧ katV D.goal = true ∧ katV D.now = true ∧ D.made.length ≤ 60 ∧ proofV D.first D.made = some D.now := by
  unfold deskV at h
  cases hp : proofV D.first D.made with
  | none => rw [hp] at h; cases h
  | some x =>
    rw [hp] at h
    simp only [Bool.and_eq_true] at h
    have h2 : x = D.now := by simpa [eqL] using h.2
    subst h2
    obtain ⟨h3, h4, _⟩ := proofV_iff.1 hp
    exact ⟨h3, h.1, proofV_kat hp, h4, rfl⟩
/-- A desk behind moves, as the paper says it. -/
def deskTo (D : Dsk) (r : Option (List Mv)) : Dsk × Bool :=
  match r with
  | some ms => if ms.length > 60 ∨ ms.length = D.made.length then (D, false) else (⟨D.first, D.goal, ms, (proofV D.first ms).getD []⟩, true)
  | none => (D, false)
/-- The moves behind an act, as the paper says it. -/
def madeS (D : Dsk) (a : Ac) : Option (List Mv) :=
  if namedB a then
    if a.kind = 0 ∧ (moveV D.now a.step).isSome then some (D.made ++ [a.step])
    else if a.kind = 1 ∧ 1 ≤ a.count ∧ a.count ≤ D.made.length then some (D.made.take (D.made.length - a.count.toNat))
    else if a.kind = 2 then some (D.made ++ simpBy D.now)
    else none
  else none
theorem deskDo_said {D : Dsk} {a : Ac} (h : deskV D = true) : deskDo D a = deskTo D (madeS D a) := by
  obtain ⟨k1, k2, k3, hl, hp⟩ := deskV_parts h
  unfold deskDo
  rw [if_pos h]
  cases hn : namedB a
  · simp [madeV, madeS, hn, deskTo]
  · rcases named_kinds hn with hk | hk | hk
    · have e1 : madeV D a = some (D.made ++ [a.step]) := by simp [madeV, hn, hk]
      have e2 := proofV_more hp [a.step]
      have e3 : runM D.now [a.step] = moveV D.now a.step := by simp [runM]
      rw [e3] at e2
      rw [e1]
      cases hm : moveV D.now a.step with
      | none => rw [hm] at e2; simp [madeS, hn, hk, hm, deskTo, e2]
      | some x =>
        rw [hm] at e2
        by_cases h6 : (D.made ++ [a.step]).length ≤ 60
        · rw [if_pos h6] at e2
          have : ¬ ((D.made ++ [a.step]).length > 60 ∨ (D.made ++ [a.step]).length = D.made.length) := by simp at h6 ⊢; omega
          simp only [madeS, hn, hk, hm, deskTo, e2, if_neg this, if_true, Option.bind_some, Option.map_some, Option.isSome_some, and_self, Option.getD_some]
        · rw [if_neg h6] at e2
          have : (D.made ++ [a.step]).length > 60 ∨ (D.made ++ [a.step]).length = D.made.length := by omega
          simp only [madeS, hn, hk, hm, deskTo, e2, if_pos this, if_true, Option.bind_some, Option.map_none, Option.isSome_some, and_self]
    · by_cases hc : 1 ≤ a.count ∧ a.count ≤ D.made.length
      · have e1 : madeV D a = some (D.made.take (D.made.length - a.count.toNat)) := by simp [madeV, hn, hk, hc]
        obtain ⟨y, e2⟩ := proofV_front hp (D.made.length - a.count.toNat)
        rw [e1]
        simp [madeS, hn, hk, hc, deskTo, e2]
        omega
      · have e1 : madeV D a = none := by simp only [madeV, hn, hk]; simp [hc]
        have e2 : madeS D a = none := by simp only [madeS, hn, hk]; simp [hc]
        rw [e1, e2]; rfl
    · obtain ⟨y, e4⟩ := simpBy_run k3
      have e2 := proofV_more hp (simpBy D.now)
      rw [e4] at e2
      have e3 : madeS D a = some (D.made ++ simpBy D.now) := by simp [madeS, hn, hk]
      rw [e3]
      by_cases hs : simpBy D.now = []
      · have e1 : madeV D a = none := by simp [madeV, hn, hk, hs]
        rw [e1]; simp [deskTo, hs]
      · have hpos : 0 < (simpBy D.now).length := List.length_pos_iff.2 hs
        have e1 : madeV D a = some (D.made ++ simpBy D.now) := by simp [madeV, hn, hk, hs]
        rw [e1]
        by_cases h6 : (D.made ++ simpBy D.now).length ≤ 60
        · rw [if_pos h6] at e2
          have : ¬ ((D.made ++ simpBy D.now).length > 60 ∨ (D.made ++ simpBy D.now).length = D.made.length) := by simp only [List.length_append] at h6 ⊢; omega
          simp only [deskTo, e2, if_neg this, Option.bind_some, Option.map_some, Option.getD_some]
        · rw [if_neg h6] at e2
          have : (D.made ++ simpBy D.now).length > 60 ∨ (D.made ++ simpBy D.now).length = D.made.length := by omega
          simp only [deskTo, e2, if_pos this, Option.bind_some, Option.map_none]
end

section

theorem deskV_kat {D : Dsk} (h : deskV D = true) : (katV D.first && katV D.goal) = true ∧ proofV D.first D.made = some D.now := by
  unfold deskV at h
  cases hp : proofV D.first D.made with
  | none => rw [hp] at h; cases h
  | some x =>
    rw [hp] at h
    simp only [Bool.and_eq_true] at h
    have h1 : katV D.first = true := by
      unfold proofV at hp
      split at hp
      · rename_i h2; simp at h2; exact h2.1
      · cases hp
    have h2 : x = D.now := by simpa [eqL] using h.2
    exact ⟨by rw [h1, h.1]; rfl, by rw [h2]⟩

end

section

/-- An act behind acts. -/
def stepA (p : Dsk × Int) (a : Ac) : Dsk × Int := ((deskDo p.1 a).1, if (deskDo p.1 a).2 then p.2 + 1 else p.2)
def runA (D : Dsk) (l : List Ac) : Dsk × Int := l.foldl stepA (D, 0)
def deskRun (D : Dsk) (l : List Ac) : Dsk × Int := if deskV D = true ∧ l.length ≤ 40 then runA D l else (Dsk.none, 0)
theorem runA_snoc (D : Dsk) (l : List Ac) (k : Nat) (h : k < l.length) : runA D (l.take (k + 1)) = stepA (runA D (l.take k)) l[k] := by
  unfold runA
  rw [List.take_succ_eq_append_getElem h, List.foldl_append]
  rfl
theorem deskDo_no {D : Dsk} {a : Ac} (h : deskV D = true) (h2 : (deskDo D a).2 = false) : (deskDo D a).1 = D := by
  unfold deskDo at h2 ⊢
  rw [if_pos h] at h2 ⊢
  split at h2 <;> simp_all
theorem deskDo_valid {D : Dsk} (a : Ac) (h : deskV D = true) : deskV (deskDo D a).1 = true := by
  have hg := (deskV_parts h).2.1
  unfold deskDo
  rw [if_pos h]
  split
  · rename_i p hp
    cases hm : madeV D a with
    | none => rw [hm] at hp; cases hp
    | some ms =>
      rw [hm] at hp
      cases hq : proofV D.first ms with
      | none => simp [hq] at hp
      | some x =>
        simp [hq] at hp
        subst hp
        simp [deskV, hq, hg, eqL]
  · exact h
theorem runA_valid {D : Dsk} (h : deskV D = true) : ∀ l : List Ac, deskV (runA D l).1 = true := by
  have key : ∀ (l : List Ac) (p : Dsk × Int), deskV p.1 = true → deskV (l.foldl stepA p).1 = true := by
    intro l
    induction l with
    | nil => intro p hp; exact hp
    | cons a r ih => intro p hp; exact ih _ (deskDo_valid a hp)
  exact fun l => key l _ h
theorem deskV_size {D : Dsk} (h : deskV D = true) : D.size ≤ 180 := by
  obtain ⟨h1, h2, h3, h4, _⟩ := deskV_parts h
  have k1 := (kat_len h1).2
  have k2 := (kat_len h2).2
  have k3 := (kat_len h3).2
  unfold Dsk.size
  omega
theorem runA_many (D : Dsk) : ∀ l : List Ac, 0 ≤ (runA D l).2 ∧ (runA D l).2 ≤ l.length := by
  have key : ∀ (l : List Ac) (p : Dsk × Int), p.2 ≤ (l.foldl stepA p).2 ∧ (l.foldl stepA p).2 ≤ p.2 + l.length := by
    intro l
    induction l with
    | nil => intro p; simp
    | cons a r ih =>
      intro p
      have h := ih (stepA p a)
      have h2 : p.2 ≤ (stepA p a).2 ∧ (stepA p a).2 ≤ p.2 + 1 := by
        unfold stepA
        split <;> simp <;> omega
      simp only [List.foldl_cons, List.length_cons]
      omega
  intro l
  have := key l (D, 0)
  simpa [runA] using this
/-- What the paper's desk of moves is, at a desk that counts. -/
theorem deskV_with {D : Dsk} (h : deskV D = true) : (⟨D.first, D.goal, D.made, (proofV D.first D.made).getD []⟩ : Dsk) = D := by
  obtain ⟨_, _, _, _, h5⟩ := deskV_parts h
  rw [h5]
  rfl
end

section

theorem tryMv_none {e : List Int} : ∀ {l : List Mv}, tryMv e l = none → ∀ m ∈ l, moveV e m = none
  | [], _, m, hm => by cases hm
  | a :: r, h, m, hm => by
    simp only [tryMv] at h
    cases ha : moveV e a with
    | some x => rw [ha] at h; cases h
    | none =>
      rw [ha] at h
      rcases List.mem_cons.1 hm with rfl | hm
      · exact ha
      · exact tryMv_none h m hm
theorem simpM_done : ∀ (n : Nat) (e : List Int), e.length ≤ n → firstEasy (simpM e).2 = none
  | n, e, hn => by
    cases h : firstEasy e with
    | none => rw [simpM_none h]; exact h
    | some p =>
      obtain ⟨m, x⟩ := p
      rw [simpM_some h]
      have hx := (firstEasy_some h).2.2.1
      match n with
      | 0 => omega
      | n + 1 => exact simpM_done n x (by omega)
theorem simpM_back : ∀ (n : Nat) (e : List Int), e.length ≤ n → ∀ m ∈ (simpM e).1, m.back = false
  | n, e, hn, m, hm => by
    cases h : firstEasy e with
    | none => rw [simpM_none h] at hm; cases hm
    | some p =>
      obtain ⟨m', x⟩ := p
      rw [simpM_some h] at hm
      have hx := firstEasy_some h
      match n with
      | 0 => omega
      | n + 1 =>
        rcases List.mem_cons.1 hm with rfl | hm
        · exact hx.2.1
        · exact simpM_back n x (by omega) m hm
theorem simpBy_back {e : List Int} : ∀ m ∈ simpBy e, m.back = false := by
  intro m hm
  unfold simpBy at hm
  split at hm
  · exact simpM_back _ e (Nat.le_refl _) m hm
  · cases hm
theorem simpE_kat {e : List Int} (h : katV e = true) : katV (simpE e) = true := by
  rw [simpE, if_pos h]
  exact proofV_kat (proofV_simpM h)
theorem simpBy_short {e : List Int} (h : katV e = true) : (simpBy e).length < e.length := by
  have h1 := simpM_bd _ e (Nat.le_refl _)
  have h2 := (kat_len (proofV_kat (proofV_simpM h))).1
  rw [simpBy, if_pos h]
  omega
theorem okV_simp {e : List Int} (h : katV e = true) : okV e (simpE e) (simpBy e) = true := by
  rw [okV, simpBy, simpE, if_pos h, if_pos h, proofV_simpM h]
  simp [eqL]
theorem atV_mem {e : List Int} {a x : Int} : ∀ {k : Nat}, x ∈ atV e a k ↔ ∃ j : Nat, j < k ∧ x = j ∧ (moveV e ⟨(j : Nat), false, a⟩).isSome = true
  | 0 => by simp [atV]
  | k + 1 => by
    rw [atV, List.mem_append, atV_mem]
    constructor
    · rintro (⟨j, h1, h2, h3⟩ | h)
      · exact ⟨j, by omega, h2, h3⟩
      · split at h
        · rename_i h3
          simp at h
          exact ⟨k, by omega, h, h3⟩
        · cases h
    · rintro ⟨j, h1, h2, h3⟩
      by_cases hj : j < k
      · exact .inl ⟨j, hj, h2, h3⟩
      · obtain rfl : j = k := by omega
        right
        rw [if_pos h3, h2]
        simp
/-- No easy rule fits any more behind the easy ones. -/
theorem atV_easy {e : List Int} (h : firstEasy e = none) {a : Nat} (ha : a < e.length) {x : Int} (hx : x ∈ atV e a 21) : ¬ x.toNat ∈ easyN := by
  obtain ⟨j, h1, rfl, h3⟩ := atV_mem.1 hx
  intro hm
  have hin : (⟨((j : Nat) : Int), false, (a : Int)⟩ : Mv) ∈ easyMv e := by
    unfold easyMv
    rw [List.mem_flatMap]
    exact ⟨a, by simpa using ha, by rw [List.mem_map]; exact ⟨j, by simpa using hm, rfl⟩⟩
  rw [tryMv_none h _ hin] at h3
  cases h3
theorem simpE_done {e : List Int} (h : katV e = true) : firstEasy (simpE e) = none := by
  rw [simpE, if_pos h]
  exact simpM_done _ e (Nat.le_refl _)
theorem atV_ascend (e : List Int) (a : Int) : ∀ k : Nat, (atV e a k).Pairwise (· < ·)
  | 0 => by simp [atV]
  | k + 1 => by
    rw [atV, List.pairwise_append]
    refine ⟨atV_ascend e a k, by split <;> simp, fun x hx y hy => ?_⟩
    obtain ⟨j, h1, rfl, _⟩ := atV_mem.1 hx
    split at hy
    · simp at hy
      omega
    · cases hy
/-- What a done act leads to. -/
theorem deskDo_open {D X : Dsk} {a : Ac} (h : deskDo D a = (X, true)) : deskV D = true ∧ ∃ ms, madeV D a = some ms ∧ ∃ x, proofV D.first ms = some x ∧ X = ⟨D.first, D.goal, ms, x⟩ := by
  unfold deskDo at h
  split at h
  · rename_i hv
    refine ⟨hv, ?_⟩
    cases hm : madeV D a with
    | none => rw [hm] at h; cases h
    | some ms =>
      rw [hm] at h
      cases hp : proofV D.first ms with
      | none => simp [hp] at h
      | some x =>
        simp [hp] at h
        exact ⟨ms, rfl, x, hp, h.symm⟩
  · cases h
/-- How the moves behind a done act lie to those before it. -/
theorem madeV_open {D : Dsk} {a : Ac} {ms : List Mv} (h : madeV D a = some ms) :
    namedB a = true ∧ (a.kind = 1 ∧ (∃ k : Nat, k < D.made.length ∧ ms = D.made.take k) ∨ a.kind ≠ 1 ∧ ∃ r, r ≠ [] ∧ ms = D.made ++ r) := by
  unfold madeV at h
  split at h
  · rename_i hn
    refine ⟨hn, ?_⟩
    split at h
    · rename_i h0
      injection h with h
      exact .inr ⟨by omega, [a.step], by simp, h.symm⟩
    · split at h
      · rename_i h1
        split at h
        · rename_i h2
          injection h with h
          exact .inl ⟨h1, _, by omega, h.symm⟩
        · cases h
      · rename_i h1
        split at h
        · cases h
        · rename_i h2
          injection h with h
          exact .inr ⟨h1, _, h2, h.symm⟩
  · cases h
/-- A done act changes how many moves there are. -/
theorem madeV_ne {D : Dsk} {a : Ac} {ms : List Mv} (h : madeV D a = some ms) : ms.length ≠ D.made.length := by
  obtain ⟨_, ⟨_, k, hk, rfl⟩ | ⟨_, r, hr, rfl⟩⟩ := madeV_open h
  · simp; omega
  · have := List.length_pos_iff.2 hr
    simp; omega
/-- Taking back as many moves as were made leads to the same desk. -/
theorem deskDo_back {D X : Dsk} {a : Ac} (h : deskDo D a = (X, true)) (hk : a.kind ≠ 1) : deskDo X ⟨1, ⟨0, false, 0⟩, (X.made.length : Int) - D.made.length⟩ = (D, true) := by
  obtain ⟨hv, ms, hm, x, hp, rfl⟩ := deskDo_open h
  have hvX : deskV ⟨D.first, D.goal, ms, x⟩ = true := by
    have := deskDo_valid a hv
    rwa [h] at this
  obtain ⟨_, ⟨h1, _⟩ | ⟨_, r, hr, rfl⟩⟩ := madeV_open hm
  · exact absurd h1 hk
  · have hpos := List.length_pos_iff.2 hr
    have hp0 := (deskV_parts hv).2.2.2.2
    have hn : namedB ⟨1, ⟨0, false, 0⟩, ((D.made ++ r).length : Int) - D.made.length⟩ = true := by simp [namedB, zMv]
    have hmv : madeV ⟨D.first, D.goal, D.made ++ r, x⟩ ⟨1, ⟨0, false, 0⟩, ((D.made ++ r).length : Int) - D.made.length⟩ = some D.made := by
      have e1 : ((D.made ++ r).length : Int) - D.made.length = r.length := by simp; omega
      have e2 : (D.made ++ r).take ((D.made ++ r).length - (r.length : Int).toNat) = D.made := by
        rw [show (D.made ++ r).length - (r.length : Int).toNat = D.made.length by simp]
        simp
      have e3 : (1 : Int) ≤ r.length ∧ (r.length : Int) ≤ (D.made ++ r).length := by simp; omega
      rw [madeV, if_pos hn]
      simp only [e1]
      rw [if_neg (by decide), if_pos trivial, if_pos e3, e2]
    unfold deskDo
    rw [if_pos hvX, hmv]
    simp [hp0]
theorem deskDo_ok {D X : Dsk} {a : Ac} (h : deskDo D a = (X, true)) : deskV X = true ∧ X.made.length ≠ D.made.length ∧ X.first = D.first ∧ X.goal = D.goal ∧ okV X.first X.now X.made = true := by
  obtain ⟨hv, ms, hm, x, hp, rfl⟩ := deskDo_open h
  refine ⟨?_, madeV_ne hm, rfl, rfl, ?_⟩
  · have := deskDo_valid a hv
    rwa [h] at this
  · simp [okV, hp, eqL]
/-- Proofs in two parts. -/
theorem proofV_parts {e x : List Int} {ms : List Mv} (h : proofV e ms = some x) (k : Nat) : ∃ y, proofV e (ms.take k) = some y ∧ proofV y (ms.drop k) = some x := by
  obtain ⟨y, hy⟩ := proofV_front h k
  refine ⟨y, hy, ?_⟩
  obtain ⟨h1, h2, h3⟩ := proofV_iff.1 h
  obtain ⟨_, _, h4⟩ := proofV_iff.1 hy
  refine proofV_iff.2 ⟨proofV_kat hy, by simp; omega, ?_⟩
  have h5 := runM_append (ms.take k) (ms.drop k) e
  rw [List.take_append_drop, h3, h4] at h5
  exact h5.symm
end

section

end
end Go.Proofs.Ytoondakdjhhehaa
