/-
  Texts of walks and plain lemmas for this seat; no condition.
-/
import Derived.Test.YtoondakdjhhehaaGQ
import Derived.Test.YtoondakdjhhehaaGA
import Derived.Laws.OwnMore
namespace Go.Proofs.Ytoondakdjhhehaa
open Go.RowKit
set_option linter.unusedVariables false

/-- Owned rows of ints in an owned row. -/
def Grid (lo hi : Nat) (w : World) (v : Value) (n : Nat) (ss : List Value) : Prop :=
  Own 1 lo hi 23 w v ss.length ss ∧ ∀ s ∈ ss, ∃ xs : List Int, xs.length = n ∧ OwnI lo hi 3 w s xs
theorem Grid.below {lo hi B n : Nat} {w w' : World} {v : Value} {ss : List Value} (h : Grid lo hi w v n ss) (hb : Below B w w') (hB : hi ≤ B) : Grid lo hi w' v n ss :=
  ⟨h.1.below hb hB, fun s hs => by obtain ⟨xs, h1, h2⟩ := h.2 s hs; exact ⟨xs, h1, h2.below hb hB⟩⟩
theorem Grid.outside {lo hi lo' hi' n : Nat} {w w' : World} {v : Value} {ss : List Value} (h : Grid lo hi w v n ss) (hb : Outside lo' hi' w w') (hd : hi ≤ lo' ∨ hi' ≤ lo) : Grid lo hi w' v n ss :=
  ⟨h.1.outside hb hd, fun s hs => by obtain ⟨xs, h1, h2⟩ := h.2 s hs; exact ⟨xs, h1, h2.outside hb hd⟩⟩
theorem Grid.lower {lo lo' hi hi' n : Nat} {w : World} {v : Value} {ss : List Value} (h : Grid lo hi w v n ss) (hl : lo' ≤ lo) (hh : hi ≤ hi') : Grid lo' hi' w v n ss :=
  ⟨h.1.wide2 hl hh, fun s hs => by obtain ⟨xs, h1, h2⟩ := h.2 s hs; exact ⟨xs, h1, h2.lower hl hh⟩⟩
theorem Grid.nil (lo hi n : Nat) (w : World) : Grid lo hi w (.slice none 0 0) n [] := ⟨Own.nil _ _ _ _ _, fun s hs => by cases hs⟩
theorem Grid.shape {lo hi n : Nat} {w : World} {v : Value} {ss : List Value} (h : Grid lo hi w v n ss) : ∃ a cap, v = .slice a ss.length cap := by
  obtain ⟨a, cap, e, _⟩ := h.1.open
  exact ⟨a, cap, e⟩
theorem Own.block {sz lo hi e n g cap : Nat} {w : World} {a : Addr} {xs : List Value} (h : Own sz lo hi e w (.slice (some a) n cap) n xs) : a = ⟨a.block, 0, none⟩ ∧ lo ≤ a.block ∧ a.block < hi ∧ ∃ cur, w.heap[a.block]? = some (.cells cur e (0, 0)) := by
  obtain ⟨⟨_, h1⟩, h2⟩ := h
  rcases h1 with ⟨h1, _⟩ | ⟨g', cap', cur, e1, hb, hg, _⟩
  · cases h1
  · simp only [Value.slice.injEq, Option.some.injEq, true_and] at e1
    obtain ⟨rfl, _⟩ := e1
    exact ⟨rfl, hb, h2 _ rfl, cur, hg⟩
theorem ints_set (xs : List Int) (j : Nat) (x : Int) : (ints xs).set j (.int .i64 x) = ints (xs.set j x) := by simp [ints, List.map_set]
/-- A store into a row. -/
theorem Grid.store {lo hi n g cap : Nat} {w : World} {v : Value} {ss : List Value} (h : Grid lo hi w v n ss) (hs : Value.slice (some ⟨g, 0, none⟩) n cap ∈ ss) (j : Nat) (x : Int) :
    Grid lo hi (w.setCell ⟨g, j, none⟩ (.int .i64 x)) v n ss ∧ Outside lo hi w (w.setCell ⟨g, j, none⟩ (.int .i64 x)) := by
  obtain ⟨xs, hn, ho⟩ := h.2 _ hs
  have ho' : Own 1 lo hi 3 w (.slice (some ⟨g, 0, none⟩) n cap) n (ints xs) := by rw [← hn] at *; exact ho
  obtain ⟨_, hg1, hg2, cur, hcur⟩ := Own.block (g := 0) (cap := cap) ho'
  simp only at hg1 hg2 hcur
  have hO : Outside lo hi w (w.setCell ⟨g, j, none⟩ (.int .i64 x)) := (Outside.refl _ _ _).setCell (p := ⟨g, j, none⟩) hg1 hg2 _
  have other : ∀ k, k ≠ g → (w.setCell ⟨g, j, none⟩ (.int .i64 x)).heap[k]? = w.heap[k]? := fun k hk => heap_setCell_other w ⟨g, j, none⟩ k _ (fun e => hk (by simp [e]))
  refine ⟨⟨⟨⟨h.1.1.1, ?_⟩, h.1.2⟩, fun s hs' => ?_⟩, hO⟩
  · rcases h.1.1.2 with h1 | ⟨gO, capO, curO, e1, hb, hgO, rest⟩
    · exact .inl h1
    · refine .inr ⟨gO, capO, curO, e1, hb, ?_, rest⟩
      rw [other gO (fun e => by
        subst e
        rw [hcur] at hgO
        injection hgO with hgO
        injection hgO with _ h2 _
        exact absurd h2 (by decide))]
      exact hgO
  · obtain ⟨ys, hy, hoy⟩ := h.2 s hs'
    rcases hoy.1.2 with ⟨h1, h0⟩ | ⟨g', cap', cur', e1, hb, hg', hrest⟩
    · exact ⟨ys, hy, ⟨hoy.1.1, .inl ⟨h1, h0⟩⟩, hoy.2⟩
    · by_cases hgg : g' = g
      · subst hgg
        subst e1
        refine ⟨ys.set j x, by rw [List.length_set]; exact hy, ?_⟩
        have hst := (World.ownsRow.stored hoy.1 j (.int .i64 x)).1
        rw [ints_set] at hst
        refine ⟨?_, hoy.2⟩
        rw [List.length_set]
        exact hst
      · refine ⟨ys, hy, ⟨hoy.1.1, .inr ⟨g', cap', cur', e1, hb, ?_, hrest⟩⟩, hoy.2⟩
        rw [other g' hgg]
        exact hg'
/-- Its rows read as lists. -/
theorem Grid.sl {lo hi n : Nat} {w : World} {v : Value} {ss : List Value} (h : Grid lo hi w v n ss) : ∃ xss, SlLL lo hi w v xss ∧ xss.length = ss.length ∧ ∀ x ∈ xss, x.length = n := by
  have key : ∀ ss : List Value, (∀ s ∈ ss, ∃ xs : List Int, xs.length = n ∧ OwnI lo hi 3 w s xs) → ∃ xss : List (List Int), xss.length = ss.length ∧ (∀ x ∈ xss, x.length = n) ∧ ∀ i (h1 : i < ss.length) (h2 : i < xss.length), SlI lo hi w ss[i] xss[i] := by
    intro ss
    induction ss with
    | nil => intro _; exact ⟨[], rfl, (fun x hx => by cases hx), fun i h1 => by simp at h1⟩
    | cons s r ih =>
      intro hs
      obtain ⟨xss, h1, h2, h3⟩ := ih fun x hx => hs x (by simp [hx])
      obtain ⟨xs, h4, h5⟩ := hs s (by simp)
      refine ⟨xs :: xss, by simp [h1], fun x hx => ?_, fun i hi1 hi2 => ?_⟩
      · rcases List.mem_cons.1 hx with rfl | hx
        · exact h4
        · exact h2 x hx
      · cases i with
        | zero => exact h5.sl
        | succ i => exact h3 i (by simpa using hi1) (by simpa using hi2)
  obtain ⟨xss, h1, h2, h3⟩ := key ss h.2
  refine ⟨xss, ?_, h1, h2⟩
  obtain ⟨a, cap, e, e1, e2, _, _, hc⟩ := h.1.sl
  refine ⟨a, cap, by rw [h1]; exact e, by rw [h1]; exact e1, e2, fun i hi => ?_⟩
  obtain ⟨b, off, f1, f2, f3, f4, f5⟩ := hc i (by omega)
  exact ⟨b, off, ss[i], f1, f2, f3, f4, by rw [f5, List.getElem?_eq_getElem], h3 i (by omega) hi⟩
/-- One row more. -/
theorem Grid.push {lo hi hi' n : Nat} {w w' : World} {v v' s : Value} {ss : List Value} {xs : List Int} (h : Grid lo hi w v n ss) (hg : w.grownBy w' v.ownBlock) (ho : Own 1 lo hi' 23 w' v' (ss.length + 1) (ss ++ [s]))
    (hs : OwnI lo hi' 3 w s xs) (hx : xs.length = n) (hh : hi ≤ hi') : Grid lo hi' w' v' n (ss ++ [s]) := by
  have kept : ∀ {u : Value} {ys : List Int} {hj : Nat}, OwnI lo hj 3 w u ys → OwnI lo hj 3 w' u ys := by
    intro u ys hj hu
    refine ⟨hu.1.kept hg ?_, hu.2⟩
    cases hub : u.ownBlock with
    | none => exact .inl rfl
    | some k =>
      right
      intro e
      rcases hu.1.2 with ⟨rfl, _⟩ | ⟨g', cap', cur', rfl, _, hg', _⟩
      · cases hub
      · rcases h.1.1.2 with ⟨rfl, _⟩ | ⟨gO, capO, curO, rfl, _, hgO, _⟩
        · cases e
        · simp only [Value.ownBlock, Option.some.injEq] at hub e
          rw [hub, e] at hg'
          rw [hg'] at hgO
          injection hgO with hgO
          injection hgO with _ h2 _
          exact absurd h2 (by decide)
  refine ⟨by rw [List.length_append]; exact ho, fun u hu => ?_⟩
  rcases List.mem_append.1 hu with hu | hu
  · obtain ⟨ys, h1, h2⟩ := h.2 u hu
    exact ⟨ys, h1, (kept h2).lower (Nat.le_refl _) hh⟩
  · simp only [List.mem_singleton] at hu
    subst hu
    exact ⟨xs, hx, kept hs⟩
/-- A row, and where it lies. -/
theorem Grid.row {lo hi n : Nat} {w : World} {v : Value} {ss : List Value} (h : Grid lo hi w v n ss) {k : Nat} (hk : k < ss.length) (hn : 0 < n) :
    ∃ gO cap gi ci, v = .slice (some ⟨gO, 0, none⟩) ss.length cap ∧ ss.length ≤ cap ∧ cap ≤ maxLen ∧ ss[k] = .slice (some ⟨gi, 0, none⟩) n ci ∧ n ≤ ci ∧ ci ≤ maxLen ∧ lo ≤ gO ∧ lo ≤ gi ∧ gi ≠ gO ∧ gO < w.heap.size ∧ gi < w.heap.size ∧
      w.cell? ⟨gO, k, none⟩ = some ss[k] ∧ ∀ j, j < n → w.frozen? ⟨gi, j, none⟩ = false ∧ ∃ z : Int, w.cell? ⟨gi, j, none⟩ = some (.int .i64 z) := by
  rcases h.1.1.2 with ⟨_, h0⟩ | ⟨gO, cap, cur, rfl, hb, hgO, hc1, hc2, hc3, htk⟩
  · omega
  · obtain ⟨xs, hxn, ho⟩ := h.2 _ (List.getElem_mem hk)
    rcases ho.1.2 with ⟨_, h0⟩ | ⟨gi, ci, cur', hv, hbi, hgi, hi1, hi2, hi3, htki⟩
    · omega
    · refine ⟨gO, cap, gi, ci, rfl, hc1, hc2, by rw [hv, hxn], by omega, hi2, hb, hbi, fun e => ?_, (Array.getElem?_eq_some_iff.1 hgO).1, (Array.getElem?_eq_some_iff.1 hgi).1, ?_, fun j hj => ⟨by simp [World.frozen?, hgi], xs[j], ?_⟩⟩
      · rw [e, hgO] at hgi
        injection hgi with hgi
        injection hgi with _ h2 _
        exact absurd h2 (by decide)
      · have := h.1.1.cells (g := gO) rfl k ss[k] (List.getElem?_eq_getElem hk)
        rwa [Addr.add_lit, Nat.zero_add] at this
      · have := ho.1.cells (g := gi) (by rw [hv]; rfl) j (.int .i64 xs[j]) (ints_get xs j (by omega))
        rwa [Addr.add_lit, Nat.zero_add] at this
/-- Rows of any lengths. -/
def GridB (lo hi : Nat) (w : World) (v : Value) (ss : List Value) : Prop :=
  Own 1 lo hi 23 w v ss.length ss ∧ ∀ s ∈ ss, ∃ xs : List Int, xs.length ≤ 6 ∧ OwnI lo hi 3 w s xs
theorem Grid.any {lo hi n : Nat} {w : World} {v : Value} {ss : List Value} (h : Grid lo hi w v n ss) (hn : n ≤ 6) : GridB lo hi w v ss :=
  ⟨h.1, fun s hs => by obtain ⟨xs, h1, h2⟩ := h.2 s hs; exact ⟨xs, by omega, h2⟩⟩
theorem GridB.below {lo hi B : Nat} {w w' : World} {v : Value} {ss : List Value} (h : GridB lo hi w v ss) (hb : Below B w w') (hB : hi ≤ B) : GridB lo hi w' v ss :=
  ⟨h.1.below hb hB, fun s hs => by obtain ⟨xs, h1, h2⟩ := h.2 s hs; exact ⟨xs, h1, h2.below hb hB⟩⟩
theorem GridB.outside {lo hi lo' hi' : Nat} {w w' : World} {v : Value} {ss : List Value} (h : GridB lo hi w v ss) (hb : Outside lo' hi' w w') (hd : hi ≤ lo' ∨ hi' ≤ lo) : GridB lo hi w' v ss :=
  ⟨h.1.outside hb hd, fun s hs => by obtain ⟨xs, h1, h2⟩ := h.2 s hs; exact ⟨xs, h1, h2.outside hb hd⟩⟩
theorem GridB.lower {lo lo' hi hi' : Nat} {w : World} {v : Value} {ss : List Value} (h : GridB lo hi w v ss) (hl : lo' ≤ lo) (hh : hi ≤ hi') : GridB lo' hi' w v ss :=
  ⟨h.1.wide2 hl hh, fun s hs => by obtain ⟨xs, h1, h2⟩ := h.2 s hs; exact ⟨xs, h1, h2.lower hl hh⟩⟩
/-- Another row is put into it. -/
theorem GridB.put {lo hi n cap g : Nat} {w : World} {ss : List Value} {s : Value} {xs : List Int} (h : GridB lo hi w (.slice (some ⟨g, 0, none⟩) n cap) ss) (hn : n = ss.length) (hs : OwnI lo hi 3 w s xs) (hx : xs.length ≤ 6) (j : Nat) :
    GridB lo hi (w.setCell ⟨g, j, none⟩ s) (.slice (some ⟨g, 0, none⟩) n cap) (ss.set j s) ∧ Outside lo hi w (w.setCell ⟨g, j, none⟩ s) := by
  subst hn
  obtain ⟨_, hg1, hg2, cur, hcur⟩ := Own.block (g := 0) h.1
  simp only at hg1 hg2 hcur
  have hO : Outside lo hi w (w.setCell ⟨g, j, none⟩ s) := (Outside.refl _ _ _).setCell (p := ⟨g, j, none⟩) hg1 hg2 _
  have kept : ∀ {u : Value} {ys : List Int}, OwnI lo hi 3 w u ys → OwnI lo hi 3 (w.setCell ⟨g, j, none⟩ s) u ys := by
    intro u ys hu
    rcases hu.1.2 with ⟨h1, h0⟩ | ⟨g', cap', cur', e1, hb, hg', hrest⟩
    · exact ⟨⟨hu.1.1, .inl ⟨h1, h0⟩⟩, hu.2⟩
    · refine ⟨⟨hu.1.1, .inr ⟨g', cap', cur', e1, hb, ?_, hrest⟩⟩, hu.2⟩
      rw [heap_setCell_other w ⟨g, j, none⟩ g' _ (fun e => by
        have e : g' = g := by simpa using e
        subst e
        rw [hcur] at hg'
        injection hg' with hg'
        injection hg' with _ h2 _
        exact absurd h2 (by decide))]
      exact hg'
  refine ⟨⟨?_, fun u hu => ?_⟩, hO⟩
  · rw [List.length_set]
    exact ⟨(World.ownsRow.stored h.1.1 j s).1, h.1.2⟩
  · rcases List.mem_or_eq_of_mem_set hu with hu | rfl
    · obtain ⟨ys, h1, h2⟩ := h.2 u hu
      exact ⟨ys, h1, kept h2⟩
    · exact ⟨xs, hx, kept hs⟩
theorem GridB.sl {lo hi : Nat} {w : World} {v : Value} {ss : List Value} (h : GridB lo hi w v ss) : ∃ xss, SlLL lo hi w v xss ∧ xss.length = ss.length ∧ ∀ x ∈ xss, x.length ≤ 6 := by
  have key : ∀ ss : List Value, (∀ s ∈ ss, ∃ xs : List Int, xs.length ≤ 6 ∧ OwnI lo hi 3 w s xs) → ∃ xss : List (List Int), xss.length = ss.length ∧ (∀ x ∈ xss, x.length ≤ 6) ∧ ∀ i (h1 : i < ss.length) (h2 : i < xss.length), SlI lo hi w ss[i] xss[i] := by
    intro ss
    induction ss with
    | nil => intro _; exact ⟨[], rfl, (fun x hx => by cases hx), fun i h1 => by simp at h1⟩
    | cons s r ih =>
      intro hs
      obtain ⟨xss, h1, h2, h3⟩ := ih fun x hx => hs x (by simp [hx])
      obtain ⟨xs, h4, h5⟩ := hs s (by simp)
      refine ⟨xs :: xss, by simp [h1], fun x hx => ?_, fun i hi1 hi2 => ?_⟩
      · rcases List.mem_cons.1 hx with rfl | hx
        · exact h4
        · exact h2 x hx
      · cases i with
        | zero => exact h5.sl
        | succ i => exact h3 i (by simpa using hi1) (by simpa using hi2)
  obtain ⟨xss, h1, h2, h3⟩ := key ss h.2
  refine ⟨xss, ?_, h1, h2⟩
  obtain ⟨a, cap, e, e1, e2, _, _, hc⟩ := h.1.sl
  refine ⟨a, cap, by rw [h1]; exact e, by rw [h1]; exact e1, e2, fun i hi => ?_⟩
  obtain ⟨b, off, f1, f2, f3, f4, f5⟩ := hc i (by omega)
  exact ⟨b, off, ss[i], f1, f2, f3, f4, by rw [f5, List.getElem?_eq_getElem], h3 i (by omega) hi⟩
theorem SlLL.nil (lo hi : Nat) (w : World) : SlLL lo hi w (.slice none 0 0) [] := ⟨none, 0, rfl, Nat.le_refl _, by decide, fun i h => by simp at h⟩
/-- Without the first row. -/
theorem SlLL.tail {lo hi n cap g : Nat} {w : World} {x : List Int} {r : List (List Int)} (h : SlLL lo hi w (.slice (some ⟨g, 0, none⟩) n cap) (x :: r)) (hc : n ≤ cap) : SlLL lo hi w (.slice (some ⟨g, 1, none⟩) (n - 1) (cap - 1)) r := by
  obtain ⟨a, cap', e, h1, h2, h3⟩ := h
  injection e with e1 e2 e3
  subst e1 e2 e3
  simp only [List.length_cons] at h1 ⊢
  refine ⟨some ⟨g, 1, none⟩, cap - 1, by simp, by omega, by omega, fun i hi => ?_⟩
  obtain ⟨b, off, u, f1, f2, f3, f4, f5, f6⟩ := h3 (i + 1) (by simpa using hi)
  injection f1 with f1
  injection f1 with f1 f1' _
  subst f1 f1'
  exact ⟨g, 1, u, rfl, f2, f3, f4, by rw [← f5, Nat.zero_add, Nat.add_comm], by simpa using f6⟩
end Go.Proofs.Ytoondakdjhhehaa
