/-
  Texts of walks and plain lemmas for this seat; no condition.
-/
import Derived.Test.YtoondakdjhhehaaGS
import Derived.Test.YtoondakdjhhehaaGA
namespace Go.Proofs.Ytoondakdjhhehaa
open Go.RowKit
section
set_option linter.unusedVariables false

/-! Programs as words. -/
def takesW (s : Int) : Int := if s = 15 ∨ s = 16 ∨ s = 17 ∨ s = 18 then 0 else if s = 30 ∨ (100 ≤ s ∧ s ≤ 115) then 2 else if 200 ≤ s ∧ s ≤ 215 then 1 else -1
theorem takesW_bd (s : Int) : -1 ≤ takesW s ∧ takesW s ≤ 2 := by unfold takesW; repeat' split <;> omega
/-- How many programs there are behind the words, d before them; none if a word is none, or lacks what it takes. -/
def pdep : List Int → Int → Option Int
  | [], d => some d
  | s :: r, d => if takesW s < 0 ∨ d < takesW s then none else pdep r (d + 1 - takesW s)
def progV (p : List Int) : Bool := decide (1 ≤ p.length) && decide (p.length ≤ 16) && (pdep p 0 == some 1)
theorem pdep_bad (xs : List Int) (k : Nat) (d : Int) (h : k < xs.length) (hb : takesW xs[k] < 0 ∨ d < takesW xs[k]) : pdep (xs.drop k) d = none := by
  rw [List.drop_eq_getElem_cons h, pdep, if_pos hb]
theorem pdep_good (xs : List Int) (k : Nat) (d : Int) (h : k < xs.length) (hb : ¬ (takesW xs[k] < 0 ∨ d < takesW xs[k])) : pdep (xs.drop k) d = pdep (xs.drop (k + 1)) (d + 1 - takesW xs[k]) := by
  rw [List.drop_eq_getElem_cons h, pdep, if_neg hb]
theorem pdep_end (xs : List Int) (k : Nat) (d : Int) (h : xs.length ≤ k) : pdep (xs.drop k) d = some d := by
  rw [List.drop_of_length_le h]; rfl
theorem progV_none {xs : List Int} (h : pdep xs 0 = none) : progV xs = false := by simp [progV, h]
def PT.size : PT → Nat
  | .one _ => 1
  | .seq a b => a.size + b.size + 1
  | .ite _ a b => a.size + b.size + 1
  | .wh _ a => a.size + 1
theorem PT.post_length : ∀ t : PT, t.post.length = t.size
  | .one _ => rfl
  | .seq a b => by simp [post, size, a.post_length, b.post_length]; omega
  | .ite _ a b => by simp [post, size, a.post_length, b.post_length]; omega
  | .wh _ a => by simp [post, size, a.post_length]
theorem PT.size_pos (t : PT) : 1 ≤ t.size := by cases t <;> simp [PT.size]
theorem takesW_one {w : Int} (h : inB w 15 18 = true) : takesW w = 0 := by
  simp only [inB, Bool.and_eq_true, decide_eq_true_eq] at h
  rw [takesW, if_pos (by omega)]
theorem takesW_ite {t : Int} (h : inB t 0 15 = true) : takesW (100 + t) = 2 := by
  simp only [inB, Bool.and_eq_true, decide_eq_true_eq] at h
  rw [takesW, if_neg (by omega), if_pos (by omega)]
theorem takesW_wh {t : Int} (h : inB t 0 15 = true) : takesW (200 + t) = 1 := by
  simp only [inB, Bool.and_eq_true, decide_eq_true_eq] at h
  rw [takesW, if_neg (by omega), if_neg (by omega), if_pos (by omega)]
theorem takesW_zero {s : Int} (h : takesW s = 0) : inB s 15 18 = true := by
  unfold takesW at h
  split at h
  · simp [inB]; omega
  · split at h
    · omega
    · split at h <;> omega
theorem takesW_two {s : Int} (h : takesW s = 2) : s = 30 ∨ (100 ≤ s ∧ s ≤ 115) := by
  unfold takesW at h
  split at h
  · omega
  · split at h
    · assumption
    · split at h <;> omega
theorem takesW_uno {s : Int} (h : takesW s = 1) : 200 ≤ s ∧ s ≤ 215 := by
  unfold takesW at h
  split at h
  · omega
  · split at h
    · omega
    · split at h
      · assumption
      · omega
/-- A stack of programs, and a word behind it. -/
def pushP (s : Int) (st : List PT) : Option (List PT) :=
  if takesW s = 2 then match st with
      | b :: a :: r => some ((if s = 30 then .seq a b else .ite (s - 100) a b) :: r)
      | _ => none
    else if takesW s = 1 then match st with
      | a :: r => some (.wh (s - 200) a :: r)
      | _ => none
    else if takesW s = 0 then some (.one s :: st) else none
def runP : List Int → List PT → Option (List PT)
  | [], st => some st
  | s :: r, st => (pushP s st).bind (runP r)
def postsP : List PT → List Int
  | [] => []
  | t :: r => postsP r ++ t.post
theorem pushP_posts {s : Int} {st st' : List PT} (h : pushP s st = some st') : postsP st' = postsP st ++ [s] := by
  unfold pushP at h
  split at h
  · rename_i ht
    split at h
    · injection h with h
      subst h
      by_cases h30 : s = 30
      · subst h30; simp [postsP, PT.post]
      · rw [if_neg h30]; simp [postsP, PT.post]; omega
    · cases h
  · split at h
    · split at h
      · injection h with h
        subst h
        simp [postsP, PT.post]; omega
      · cases h
    · split at h
      · injection h with h
        subst h
        simp [postsP, PT.post]
      · cases h
theorem runP_posts : ∀ (e : List Int) (st st' : List PT), runP e st = some st' → postsP st' = postsP st ++ e
  | [], st, st', h => by simp [runP] at h; simp [h]
  | s :: r, st, st', h => by
    simp only [runP, Option.bind_eq_some_iff] at h
    obtain ⟨s1, h1, h2⟩ := h
    rw [runP_posts r s1 st' h2, pushP_posts h1]
    simp
def oksP (st : List PT) : Prop := ∀ t ∈ st, t.ok = true
theorem oksP_push {s : Int} {st st' : List PT} (ho : oksP st) (h : pushP s st = some st') : oksP st' := by
  unfold pushP at h
  split at h
  · rename_i ht
    have := takesW_two ht
    split at h
    · injection h with h
      subst h
      intro t ht
      simp only [List.mem_cons] at ht
      rcases ht with rfl | ht
      · by_cases h30 : s = 30
        · rw [if_pos h30]; simp [PT.ok, ho _ (List.mem_cons_self ..), ho _ (List.mem_cons_of_mem _ (List.mem_cons_self ..))]
        · rw [if_neg h30]; simp [PT.ok, inB, ho _ (List.mem_cons_self ..), ho _ (List.mem_cons_of_mem _ (List.mem_cons_self ..))]; omega
      · exact ho _ (by simp [ht])
    · cases h
  · split at h
    · rename_i ht
      have := takesW_uno ht
      split at h
      · injection h with h
        subst h
        intro t ht
        simp only [List.mem_cons] at ht
        rcases ht with rfl | ht
        · simp [PT.ok, inB, ho _ (List.mem_cons_self ..)]; omega
        · exact ho _ (by simp [ht])
      · cases h
    · split at h
      · rename_i ht
        injection h with h
        subst h
        intro t hm
        simp only [List.mem_cons] at hm
        rcases hm with rfl | hm
        · exact takesW_zero ht
        · exact ho _ hm
      · cases h
theorem pdep_push {s : Int} {st : List PT} (h : ¬ (takesW s < 0 ∨ (st.length : Int) < takesW s)) : ∃ st', pushP s st = some st' ∧ (st'.length : Int) = st.length + 1 - takesW s := by
  unfold pushP
  have hb := takesW_bd s
  split
  · match st, h with
    | [], h => simp at h; omega
    | [x], h => simp at h; omega
    | b :: a :: r, h => exact ⟨_, rfl, by simp; omega⟩
  · split
    · match st, h with
      | [], h => simp at h; omega
      | a :: r, h => exact ⟨_, rfl, by simp; omega⟩
    · rw [if_pos (by omega)]
      exact ⟨_, rfl, by simp; omega⟩
theorem push_no {s : Int} {st : List PT} (h : takesW s < 0 ∨ (st.length : Int) < takesW s) : pushP s st = none := by
  unfold pushP
  have hb := takesW_bd s
  split
  · match st, h with
    | [], h => rfl
    | [x], h => rfl
    | b :: a :: r, h => simp at h; omega
  · split
    · match st, h with
      | [], h => rfl
      | a :: r, h => simp at h; omega
    · rw [if_neg (by omega)]
theorem pdep_run : ∀ (e : List Int) (st : List PT), oksP st → pdep e st.length = (runP e st).map (fun s => (s.length : Int)) ∧ ∀ st', runP e st = some st' → oksP st'
  | [], st, ho => ⟨rfl, fun st' h => by simp [runP] at h; subst h; exact ho⟩
  | s :: r, st, ho => by
    rw [pdep]
    split
    · rename_i hb
      rw [runP, push_no hb]
      exact ⟨rfl, fun _ h => by cases h⟩
    · rename_i hb
      obtain ⟨st1, h1, h2⟩ := pdep_push hb
      rw [← h2, runP, h1]
      exact pdep_run r st1 (oksP_push ho h1)
/-- A valid program is the text of a tree. -/
theorem progV_tree {p : List Int} (h : progV p = true) : ∃ t : PT, t.ok = true ∧ t.post = p ∧ runP p [] = some [t] ∧ t.size ≤ 16 := by
  simp only [progV, Bool.and_eq_true, decide_eq_true_eq, beq_iff_eq] at h
  obtain ⟨⟨h1, h2⟩, h3⟩ := h
  obtain ⟨h4, h5⟩ := pdep_run p [] (by intro t ht; cases ht)
  rw [show ((([] : List PT).length : Nat) : Int) = 0 from rfl, h3] at h4
  obtain ⟨st, h6, h7⟩ := Option.map_eq_some_iff.1 h4.symm
  have h8 := h5 st h6
  match st, h7 with
  | [t], _ =>
    have hp := runP_posts p [] [t] h6
    simp only [postsP, List.nil_append] at hp
    exact ⟨t, h8 t (by simp), hp, h6, by rw [← t.post_length, hp]; exact h2⟩
theorem runP_append : ∀ (a b : List Int) (st : List PT), runP (a ++ b) st = (runP a st).bind (runP b)
  | [], b, st => by simp [runP]
  | s :: r, b, st => by
    simp only [List.cons_append, runP, Option.bind_assoc]
    congr 1
    funext x
    exact runP_append r b x
theorem runP_post : ∀ (t : PT), t.ok = true → ∀ st, runP t.post st = some (t :: st)
  | .one n, h, st => by
    simp [PT.post, runP, pushP, takesW_one (w := n) h]
  | .seq a b, h, st => by
    simp only [PT.ok, Bool.and_eq_true] at h
    simp only [PT.post]
    rw [runP_append, runP_append, runP_post a h.1]
    simp only [Option.bind_some]
    rw [runP_post b h.2]
    rfl
  | .ite t a b, h, st => by
    simp only [PT.ok, Bool.and_eq_true] at h
    have hw := takesW_ite h.1.1
    have hi := h.1.1
    simp only [inB, Bool.and_eq_true, decide_eq_true_eq] at hi
    simp only [PT.post]
    rw [runP_append, runP_append, runP_post a h.1.2]
    simp only [Option.bind_some]
    rw [runP_post b h.2]
    simp only [Option.bind_some, runP, pushP, hw, if_true]
    rw [if_neg (by omega), show 100 + t - 100 = t by omega]
  | .wh t a, h, st => by
    simp only [PT.ok, Bool.and_eq_true] at h
    have hw := takesW_wh h.1
    simp only [PT.post]
    rw [runP_append, runP_post a h.2]
    simp only [Option.bind_some, runP, pushP, hw, if_true]
    rw [if_neg (by omega), show 200 + t - 200 = t by omega]
    rfl
theorem progV_post {t : PT} (h : t.ok = true) (hs : t.size ≤ 16) : progV t.post = true := by
  have h1 := (pdep_run t.post [] (by intro t ht; cases ht)).1
  rw [runP_post t h] at h1
  have := t.size_pos
  simp only [progV, Bool.and_eq_true, decide_eq_true_eq, beq_iff_eq, t.post_length]
  exact ⟨⟨this, hs⟩, h1⟩
/-- The program of words. -/
def treeP (p : List Int) : PT := ((runP p []).getD []).headD (.one 0)
theorem treeP_of {p : List Int} {t : PT} (h : runP p [] = some [t]) : treeP p = t := by simp [treeP, h]
/-- Where the program begins that a list, read from its end, ends with: n programs are still to be read. -/
def spanW : List Int → Int → Option Nat
  | [], n => if n ≤ 0 then some 0 else none
  | s :: r, n => if n ≤ 0 then some 0 else (spanW r (n - 1 + takesW s)).map (· + 1)
theorem spanW_zero (r : List Int) : spanW r 0 = some 0 := by cases r <;> simp [spanW]
theorem spanW_cons (s : Int) (r : List Int) (n : Int) (h : 0 < n) : spanW (s :: r) n = (spanW r (n - 1 + takesW s)).map (· + 1) := by
  rw [spanW, if_neg (by omega)]
theorem spanW_post : ∀ (t : PT), t.ok = true → ∀ (r : List Int) (n : Int), 0 < n → spanW (t.post.reverse ++ r) n = (spanW r (n - 1)).map (· + t.size)
  | .one k, hk, r, n, hn => by
    simp only [PT.post, PT.size, List.reverse_singleton, List.singleton_append]
    rw [spanW_cons _ _ _ hn, takesW_one hk, Int.add_zero]
  | .wh c t, hk, r, n, hn => by
    simp only [PT.ok, Bool.and_eq_true] at hk
    simp only [PT.post, PT.size, List.reverse_append, List.reverse_singleton, List.nil_append, List.cons_append]
    rw [spanW_cons _ _ _ hn, takesW_wh hk.1, spanW_post t hk.2 r _ (by omega), Option.map_map]
    rw [show n - 1 + 1 - 1 = n - 1 by omega]
    rfl
  | .seq a b, hk, r, n, hn => by
    simp only [PT.ok, Bool.and_eq_true] at hk
    simp only [PT.post, PT.size, List.reverse_append, List.reverse_singleton, List.nil_append, List.cons_append, List.append_assoc]
    rw [spanW_cons _ _ _ hn, show takesW 30 = 2 from rfl, spanW_post b hk.2 _ _ (by omega), spanW_post a hk.1 r _ (by omega), Option.map_map, Option.map_map]
    rw [show n - 1 + 2 - 1 - 1 = n - 1 by omega]
    congr 1
    funext x
    simp only [Function.comp]
    omega
  | .ite c a b, hk, r, n, hn => by
    simp only [PT.ok, Bool.and_eq_true] at hk
    simp only [PT.post, PT.size, List.reverse_append, List.reverse_singleton, List.nil_append, List.cons_append, List.append_assoc]
    rw [spanW_cons _ _ _ hn, takesW_ite hk.1.1, spanW_post b hk.2 _ _ (by omega), spanW_post a hk.1.2 r _ (by omega), Option.map_map, Option.map_map]
    rw [show n - 1 + 2 - 1 - 1 = n - 1 by omega]
    congr 1
    funext x
    simp only [Function.comp]
    omega
/-- The expression of a program, if it fits. -/
def progK (p : List Int) : Option (List Int) := if progV p && decide ((treeP p).kat.size ≤ 40) then some (treeP p).kat.post else none
/-- The code of a program, if it fits. -/
def progC (p : List Int) : Option (List In3) := if progV p && decide (((treeP p).code 0).length + 1 ≤ 40) then some ((treeP p).code 0 ++ [endI]) else none
end
end Go.Proofs.Ytoondakdjhhehaa
