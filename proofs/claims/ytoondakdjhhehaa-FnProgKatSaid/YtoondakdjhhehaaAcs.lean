/-
  Texts of walks and plain lemmas for this seat; no condition.
-/
import Derived.Test.YtoondakdjhhehaaAct
import Derived.Test.YtoondakdjhhehaaGA
namespace Go.Proofs.Ytoondakdjhhehaa
open Go.RowKit

def acs (l : List Ac) : List Value := l.flatMap encAc
theorem acs_length (l : List Ac) : (acs l).length = l.length * 5 := by
  induction l with
  | nil => rfl
  | cons m r ih => simp only [acs, List.flatMap_cons, List.length_append] at *; rw [ih]; simp [encAc]; omega
theorem acs_get (l : List Ac) : ∀ (i : Nat) (h : i < l.length), (acs l)[i * 5]? = some (.int .i64 l[i].kind) ∧ (acs l)[i * 5 + 1]? = some (.int .i64 l[i].step.which) ∧ (acs l)[i * 5 + 2]? = some (.bool l[i].step.back) ∧ (acs l)[i * 5 + 3]? = some (.int .i64 l[i].step.at_) ∧ (acs l)[i * 5 + 4]? = some (.int .i64 l[i].count) := by
  induction l with
  | nil => intro i h; simp at h
  | cons m r ih =>
    intro i h
    cases i with
    | zero => simp [acs, encAc]
    | succ i =>
      have hi : i < r.length := by simpa using h
      obtain ⟨h1, h2, h3, h4, h5⟩ := ih i hi
      have e : ∀ j, (acs (m :: r))[(i + 1) * 5 + j]? = (acs r)[i * 5 + j]? := by
        intro j
        have : (acs (m :: r)) = encAc m ++ acs r := by simp [acs]
        rw [this, List.getElem?_append_right (by simp [encAc]; omega)]
        congr 1
        simp [encAc]; omega
      refine ⟨?_, ?_, ?_, ?_, ?_⟩
      · rw [show (i + 1) * 5 = (i + 1) * 5 + 0 by omega, e 0]; simpa using h1
      · rw [e 1]; simpa using h2
      · rw [e 2]; simpa using h3
      · rw [e 3]; simpa using h4
      · rw [e 4]; simpa using h5
theorem acs_one (l : List Ac) : ∀ u ∈ acs l, u.oneCell' = true := by
  intro u hu
  simp only [acs, List.mem_flatMap] at hu
  obtain ⟨m, _, hm⟩ := hu
  simp [encAc] at hm
  rcases hm with rfl | rfl | rfl | rfl | rfl <;> rfl

def SlA (lo hi : Nat) (w : World) (v : Value) (l : List Ac) : Prop := Sl 5 lo hi w v l.length (acs l)
def OwnA (lo hi e : Nat) (w : World) (v : Value) (l : List Ac) : Prop := Own 5 lo hi e w v l.length (acs l)
theorem OwnA.sl {lo hi e : Nat} {w : World} {v : Value} {l : List Ac} (h : OwnA lo hi e w v l) : SlA lo hi w v l := Own.sl h
theorem OwnA.below {lo hi e B : Nat} {w w' : World} {v : Value} {xs : List Ac} (h : OwnA lo hi e w v xs) (hb : Below B w w') (hB : hi ≤ B) : OwnA lo hi e w' v xs := Own.below h hb hB
theorem SlA.below {lo hi B : Nat} {w w' : World} {v : Value} {xs : List Ac} (h : SlA lo hi w v xs) (hb : Below B w w') (hB : hi ≤ B) : SlA lo hi w' v xs := Sl.below h hb hB
theorem SlA.outside {lo hi lo' hi' : Nat} {w w' : World} {v : Value} {xs : List Ac} (h : SlA lo hi w v xs) (hb : Outside lo' hi' w w') (hd : hi ≤ lo' ∨ hi' ≤ lo) : SlA lo hi w' v xs := Sl.outside h hb hd
theorem SlA.wide {lo hi lo' hi' : Nat} {w : World} {v : Value} {xs : List Ac} (h : SlA lo hi w v xs) (h1 : lo' ≤ lo) (h2 : hi ≤ hi') : SlA lo' hi' w v xs := Sl.wide h h1 h2
theorem SlA.shape {lo hi : Nat} {w : World} {v : Value} {xs : List Ac} (h : SlA lo hi w v xs) : ∃ a cap, v = .slice a xs.length cap ∧ xs.length ≤ cap ∧ cap ≤ maxLen := Sl.shape h
theorem SlA.get {lo hi cap n : Nat} {w : World} {a : Option Addr} {l : List Ac} (h : SlA lo hi w (.slice a n cap) l) (i : Nat) (hi' : i < l.length) :
    ∃ b off, a = some ⟨b, off, none⟩ ∧ lo ≤ b ∧ b < hi ∧ b < w.heap.size ∧ w.cell? ⟨b, off + i * 5, none⟩ = some (.int .i64 l[i].kind) ∧ w.cell? ⟨b, off + i * 5 + 1, none⟩ = some (.int .i64 l[i].step.which) ∧
      w.cell? ⟨b, off + i * 5 + 2, none⟩ = some (.bool l[i].step.back) ∧ w.cell? ⟨b, off + i * 5 + 3, none⟩ = some (.int .i64 l[i].step.at_) ∧ w.cell? ⟨b, off + i * 5 + 4, none⟩ = some (.int .i64 l[i].count) := by
  obtain ⟨a', cap', e, _, _, _, _, hc⟩ := h
  injection e with e1 _ _
  subst e1
  obtain ⟨g0, g1, g2, g3, g4⟩ := acs_get l i hi'
  have hl := acs_length l
  obtain ⟨b, off, e, h1, h2, h3, h4⟩ := hc (i * 5) (by omega)
  have hh : ∀ j, j < 5 → w.cell? ⟨b, off + i * 5 + j, none⟩ = (acs l)[i * 5 + j]? := by
    intro j hj
    obtain ⟨b', off', e', _, _, _, h4'⟩ := hc (i * 5 + j) (by omega)
    rw [e] at e'
    injection e' with e'
    injection e' with e1 e2
    subst e1 e2
    rw [← h4']; congr 2; omega
  refine ⟨b, off, e, h1, h2, h3, ?_, ?_, ?_, ?_, ?_⟩
  · rw [h4, g0]
  · rw [hh 1 (by omega), g1]
  · rw [hh 2 (by omega), g2]
  · rw [hh 3 (by omega), g3]
  · rw [hh 4 (by omega), g4]

/-- Five stores make the next element. -/
theorem acs_fill5 (xs : List Ac) (z : Value) (k : Nat) (h : k < xs.length) :
    (((((fill (acs xs) z (k * 5)).set (k * 5) (.int .i64 xs[k].kind)).set (k * 5 + 1) (.int .i64 xs[k].step.which)).set (k * 5 + 2) (.bool xs[k].step.back)).set (k * 5 + 3) (.int .i64 xs[k].step.at_)).set (k * 5 + 4) (.int .i64 xs[k].count) = fill (acs xs) z ((k + 1) * 5) := by
  have h2 := acs_length xs
  obtain ⟨g0, g1, g2, g3, g4⟩ := acs_get xs k h
  rw [fill_set _ _ _ (by omega) _ g0, fill_set _ _ _ (by omega) _ g1, fill_set _ _ _ (by omega) _ g2, fill_set _ _ _ (by omega) _ g3, fill_set _ _ _ (by omega) _ g4]
  congr 1
  omega

theorem made_acs (n : Nat) : (madeCells #[.int .i64 0, .int .i64 0, .bool false, .int .i64 0, .int .i64 0] (n * 5)).toList = acs (List.replicate n zAc) := by
  induction n with
  | zero => simp [madeCells, acs]
  | succ n ih =>
    rw [List.replicate_succ', acs, List.flatMap_append]
    rw [show List.flatMap encAc (List.replicate n zAc) = acs (List.replicate n zAc) from rfl, ← ih]
    simp only [madeCells, Array.toList_map, Array.toList_range]
    rw [show (n + 1) * 5 = n * 5 + 5 by omega, List.range_add, List.map_append]
    congr 1
    simp [List.range_succ, Nat.add_mod, encAc, zAc]
theorem acs_over5 (ys xs : List Ac) (hl : ys.length = xs.length) (k : Nat) (h : k < xs.length) :
    (((((over (acs ys) (acs xs) (k * 5)).set (k * 5) (.int .i64 (ys[k]'(by omega)).kind)).set (k * 5 + 1) (.int .i64 (ys[k]'(by omega)).step.which)).set (k * 5 + 2) (.bool (ys[k]'(by omega)).step.back)).set (k * 5 + 3) (.int .i64 (ys[k]'(by omega)).step.at_)).set (k * 5 + 4) (.int .i64 (ys[k]'(by omega)).count) = over (acs ys) (acs xs) ((k + 1) * 5) := by
  have h1 := acs_length ys
  have h2 := acs_length xs
  obtain ⟨g0, g1, g2, g3, g4⟩ := acs_get ys k (by omega)
  rw [over_set _ _ _ (by omega) (by omega) _ g0, over_set _ _ _ (by omega) (by omega) _ g1, over_set _ _ _ (by omega) (by omega) _ g2, over_set _ _ _ (by omega) (by omega) _ g3, over_set _ _ _ (by omega) (by omega) _ g4]
  congr 1
  omega
theorem ownsRow_lt {w : World} {base e sz g n c : Nat} {xs : List Value} (h : w.ownsRow base e sz (.slice (some ⟨g, 0, none⟩) n c) n xs) : g < w.heap.size := by
  rcases h.2 with ⟨h, _⟩ | ⟨g', cap', cur, h, _, h2, _⟩
  · simp at h
  · simp only [Value.slice.injEq, Option.some.injEq, Addr.mk.injEq] at h
    rw [h.1.1]
    exact (Array.getElem?_eq_some_iff.1 h2).1
theorem ownsRow_below {w w' : World} {base e sz g n c : Nat} {xs : List Value} (h : w.ownsRow base e sz (.slice (some ⟨g, 0, none⟩) n c) n xs) (hb : Below w.heap.size w w') : w'.ownsRow base e sz (.slice (some ⟨g, 0, none⟩) n c) n xs :=
  (Own.below (hi := g + 1) ⟨h, fun g' hg => by simp [Value.ownBlock] at hg; omega⟩ hb (ownsRow_lt h)).1
end Go.Proofs.Ytoondakdjhhehaa
