/-
  Texts of walks and plain lemmas for this seat; no condition.
-/
import Derived.Test.YtoondakdjhhehaaDoorGQ
import Derived.Test.YtoondakdjhhehaaDoorGA
import Derived.Test.YtoondakdjhhehaaDoorGB
import Derived.Test.YtoondakdjhhehaaDoorDKat
import Derived.Test.YtoondakdjhhehaaDoorStepApp
import Derived.Laws.OwnMore
import Derived.Deep.RegionLaw
import Derived.Deep.RegionHeld3
import Derived.Deep.DeepCutAuto
import Derived.Deep.DrawnRows
namespace Go.Proofs.YtoondakdjhhehaaDoor
open Go.RowKit
set_option linter.unusedVariables false
set_option linter.unusedVariables false

/-- Owned rows of ints in an owned row. -/
def Grid (lo hi : Nat) (w : World) (v : Value) (n : Nat) (ss : List Value) : Prop :=
  Own 1 lo hi 43 w v ss.length ss ∧ ∀ s ∈ ss, ∃ xs : List Int, xs.length = n ∧ OwnI lo hi 3 w s xs
theorem Grid.below {lo hi B n : Nat} {w w' : World} {v : Value} {ss : List Value} (h : Grid lo hi w v n ss) (hb : Below B w w') (hB : hi ≤ B) : Grid lo hi w' v n ss :=
  ⟨h.1.below hb hB, fun s hs => by obtain ⟨xs, h1, h2⟩ := h.2 s hs; exact ⟨xs, h1, h2.below hb hB⟩⟩
theorem Grid.outside {lo hi lo' hi' n : Nat} {w w' : World} {v : Value} {ss : List Value} (h : Grid lo hi w v n ss) (hb : Outside lo' hi' w w') (hd : hi ≤ lo' ∨ hi' ≤ lo) : Grid lo hi w' v n ss :=
  ⟨h.1.outside hb hd, fun s hs => by obtain ⟨xs, h1, h2⟩ := h.2 s hs; exact ⟨xs, h1, h2.outside hb hd⟩⟩
theorem Grid.lower {lo lo' hi hi' n : Nat} {w : World} {v : Value} {ss : List Value} (h : Grid lo hi w v n ss) (hl : lo' ≤ lo) (hh : hi ≤ hi') : Grid lo' hi' w v n ss :=
  ⟨h.1.wide2 hl hh, fun s hs => by obtain ⟨xs, h1, h2⟩ := h.2 s hs; exact ⟨xs, h1, h2.lower hl hh⟩⟩
theorem Grid.nil (lo hi n : Nat) (w : World) : Grid lo hi w (.slice none 0 0) n [] := ⟨Own.nil _ _ _ _ _, fun s hs => by cases hs⟩
theorem Grid.shape {lo hi n : Nat} {w : World} {v : Value} {ss : List Value} (h : Grid lo hi w v n ss) : ∃ a cap, v = .slice a ss.length cap := by
  obtain ⟨a, cap, e, _⟩ := h.1.open
  exact ⟨a, cap, e⟩
theorem Own.block {sz lo hi e n g cap : Nat} {w : World} {a : Addr} {xs : List Value} (h : Own sz lo hi e w (.slice (some a) n cap) n xs) : a = ⟨a.block, 0, none⟩ ∧ lo ≤ a.block ∧ a.block < hi ∧ ∃ cur, w.heap[a.block]? = some (.cells cur e (0, 0)) := by
  obtain ⟨⟨_, h1⟩, h2⟩ := h
  rcases h1 with ⟨h1, _⟩ | ⟨g', cap', cur, e1, hb, hg, _⟩
  · cases h1
  · simp only [Value.slice.injEq, Option.some.injEq, true_and] at e1
    obtain ⟨rfl, _⟩ := e1
    exact ⟨rfl, hb, h2 _ rfl, cur, hg⟩
theorem ints_set (xs : List Int) (j : Nat) (x : Int) : (ints xs).set j (.int .i64 x) = ints (xs.set j x) := by simp [ints, List.map_set]
/-- A store into a row. -/
theorem Grid.store {lo hi n g cap : Nat} {w : World} {v : Value} {ss : List Value} (h : Grid lo hi w v n ss) (hs : Value.slice (some ⟨g, 0, none⟩) n cap ∈ ss) (j : Nat) (x : Int) :
    Grid lo hi (w.setCell ⟨g, j, none⟩ (.int .i64 x)) v n ss ∧ Outside lo hi w (w.setCell ⟨g, j, none⟩ (.int .i64 x)) := by
  obtain ⟨xs, hn, ho⟩ := h.2 _ hs
  have ho' : Own 1 lo hi 3 w (.slice (some ⟨g, 0, none⟩) n cap) n (ints xs) := by rw [← hn] at *; exact ho
  obtain ⟨_, hg1, hg2, cur, hcur⟩ := Own.block (g := 0) (cap := cap) ho'
  simp only at hg1 hg2 hcur
  have hO : Outside lo hi w (w.setCell ⟨g, j, none⟩ (.int .i64 x)) := (Outside.refl _ _ _).setCell (p := ⟨g, j, none⟩) hg1 hg2 _
  have other : ∀ k, k ≠ g → (w.setCell ⟨g, j, none⟩ (.int .i64 x)).heap[k]? = w.heap[k]? := fun k hk => heap_setCell_other w ⟨g, j, none⟩ k _ (fun e => hk (by simp [e]))
  refine ⟨⟨⟨⟨h.1.1.1, ?_⟩, h.1.2⟩, fun s hs' => ?_⟩, hO⟩
  · rcases h.1.1.2 with h1 | ⟨gO, capO, curO, e1, hb, hgO, rest⟩
    · exact .inl h1
    · refine .inr ⟨gO, capO, curO, e1, hb, ?_, rest⟩
      rw [other gO (fun e => by
        subst e
        rw [hcur] at hgO
        injection hgO with hgO
        injection hgO with _ h2 _
        exact absurd h2 (by decide))]
      exact hgO
  · obtain ⟨ys, hy, hoy⟩ := h.2 s hs'
    rcases hoy.1.2 with ⟨h1, h0⟩ | ⟨g', cap', cur', e1, hb, hg', hrest⟩
    · exact ⟨ys, hy, ⟨hoy.1.1, .inl ⟨h1, h0⟩⟩, hoy.2⟩
    · by_cases hgg : g' = g
      · subst hgg
        subst e1
        refine ⟨ys.set j x, by rw [List.length_set]; exact hy, ?_⟩
        have hst := (World.ownsRow.stored hoy.1 j (.int .i64 x)).1
        rw [ints_set] at hst
        refine ⟨?_, hoy.2⟩
        rw [List.length_set]
        exact hst
      · refine ⟨ys, hy, ⟨hoy.1.1, .inr ⟨g', cap', cur', e1, hb, ?_, hrest⟩⟩, hoy.2⟩
        rw [other g' hgg]
        exact hg'
/-- Its rows read as lists. -/
theorem Grid.sl {lo hi n : Nat} {w : World} {v : Value} {ss : List Value} (h : Grid lo hi w v n ss) : ∃ xss, SlLL lo hi w v xss ∧ xss.length = ss.length ∧ ∀ x ∈ xss, x.length = n := by
  have key : ∀ ss : List Value, (∀ s ∈ ss, ∃ xs : List Int, xs.length = n ∧ OwnI lo hi 3 w s xs) → ∃ xss : List (List Int), xss.length = ss.length ∧ (∀ x ∈ xss, x.length = n) ∧ ∀ i (h1 : i < ss.length) (h2 : i < xss.length), SlI lo hi w ss[i] xss[i] := by
    intro ss
    induction ss with
    | nil => intro _; exact ⟨[], rfl, (fun x hx => by cases hx), fun i h1 => by simp at h1⟩
    | cons s r ih =>
      intro hs
      obtain ⟨xss, h1, h2, h3⟩ := ih fun x hx => hs x (by simp [hx])
      obtain ⟨xs, h4, h5⟩ := hs s (by simp)
      refine ⟨xs :: xss, by simp [h1], fun x hx => ?_, fun i hi1 hi2 => ?_⟩
      · rcases List.mem_cons.1 hx with rfl | hx
        · exact h4
        · exact h2 x hx
      · cases i with
        | zero => exact h5.sl
        | succ i => exact h3 i (by simpa using hi1) (by simpa using hi2)
  obtain ⟨xss, h1, h2, h3⟩ := key ss h.2
  refine ⟨xss, ?_, h1, h2⟩
  obtain ⟨a, cap, e, e1, e2, _, _, hc⟩ := h.1.sl
  refine ⟨a, cap, by rw [h1]; exact e, by rw [h1]; exact e1, e2, fun i hi => ?_⟩
  obtain ⟨b, off, f1, f2, f3, f4, f5⟩ := hc i (by omega)
  exact ⟨b, off, ss[i], f1, f2, f3, f4, by rw [f5, List.getElem?_eq_getElem], h3 i (by omega) hi⟩
/-- One row more. -/
theorem Grid.push {lo hi hi' n : Nat} {w w' : World} {v v' s : Value} {ss : List Value} {xs : List Int} (h : Grid lo hi w v n ss) (hg : w.grownBy w' v.ownBlock) (ho : Own 1 lo hi' 43 w' v' (ss.length + 1) (ss ++ [s]))
    (hs : OwnI lo hi' 3 w s xs) (hx : xs.length = n) (hh : hi ≤ hi') : Grid lo hi' w' v' n (ss ++ [s]) := by
  have kept : ∀ {u : Value} {ys : List Int} {hj : Nat}, OwnI lo hj 3 w u ys → OwnI lo hj 3 w' u ys := by
    intro u ys hj hu
    refine ⟨hu.1.kept hg ?_, hu.2⟩
    cases hub : u.ownBlock with
    | none => exact .inl rfl
    | some k =>
      right
      intro e
      rcases hu.1.2 with ⟨rfl, _⟩ | ⟨g', cap', cur', rfl, _, hg', _⟩
      · cases hub
      · rcases h.1.1.2 with ⟨rfl, _⟩ | ⟨gO, capO, curO, rfl, _, hgO, _⟩
        · cases e
        · simp only [Value.ownBlock, Option.some.injEq] at hub e
          rw [hub, e] at hg'
          rw [hg'] at hgO
          injection hgO with hgO
          injection hgO with _ h2 _
          exact absurd h2 (by decide)
  refine ⟨by rw [List.length_append]; exact ho, fun u hu => ?_⟩
  rcases List.mem_append.1 hu with hu | hu
  · obtain ⟨ys, h1, h2⟩ := h.2 u hu
    exact ⟨ys, h1, (kept h2).lower (Nat.le_refl _) hh⟩
  · simp only [List.mem_singleton] at hu
    subst hu
    exact ⟨xs, hx, kept hs⟩
/-- A row, and where it lies. -/
theorem Grid.row {lo hi n : Nat} {w : World} {v : Value} {ss : List Value} (h : Grid lo hi w v n ss) {k : Nat} (hk : k < ss.length) (hn : 0 < n) :
    ∃ gO cap gi ci, v = .slice (some ⟨gO, 0, none⟩) ss.length cap ∧ ss.length ≤ cap ∧ cap ≤ maxLen ∧ ss[k] = .slice (some ⟨gi, 0, none⟩) n ci ∧ n ≤ ci ∧ ci ≤ maxLen ∧ lo ≤ gO ∧ lo ≤ gi ∧ gi ≠ gO ∧ gO < w.heap.size ∧ gi < w.heap.size ∧
      w.cell? ⟨gO, k, none⟩ = some ss[k] ∧ ∀ j, j < n → w.frozen? ⟨gi, j, none⟩ = false ∧ ∃ z : Int, w.cell? ⟨gi, j, none⟩ = some (.int .i64 z) := by
  rcases h.1.1.2 with ⟨_, h0⟩ | ⟨gO, cap, cur, rfl, hb, hgO, hc1, hc2, hc3, htk⟩
  · omega
  · obtain ⟨xs, hxn, ho⟩ := h.2 _ (List.getElem_mem hk)
    rcases ho.1.2 with ⟨_, h0⟩ | ⟨gi, ci, cur', hv, hbi, hgi, hi1, hi2, hi3, htki⟩
    · omega
    · refine ⟨gO, cap, gi, ci, rfl, hc1, hc2, by rw [hv, hxn], by omega, hi2, hb, hbi, fun e => ?_, (Array.getElem?_eq_some_iff.1 hgO).1, (Array.getElem?_eq_some_iff.1 hgi).1, ?_, fun j hj => ⟨by simp [World.frozen?, hgi], xs[j], ?_⟩⟩
      · rw [e, hgO] at hgi
        injection hgi with hgi
        injection hgi with _ h2 _
        exact absurd h2 (by decide)
      · have := h.1.1.cells (g := gO) rfl k ss[k] (List.getElem?_eq_getElem hk)
        rwa [Addr.add_lit, Nat.zero_add] at this
      · have := ho.1.cells (g := gi) (by rw [hv]; rfl) j (.int .i64 xs[j]) (ints_get xs j (by omega))
        rwa [Addr.add_lit, Nat.zero_add] at this
/-- Rows of any lengths. -/
def GridB (lo hi : Nat) (w : World) (v : Value) (ss : List Value) : Prop :=
  Own 1 lo hi 43 w v ss.length ss ∧ ∀ s ∈ ss, ∃ xs : List Int, xs.length ≤ 6 ∧ OwnI lo hi 3 w s xs
theorem Grid.any {lo hi n : Nat} {w : World} {v : Value} {ss : List Value} (h : Grid lo hi w v n ss) (hn : n ≤ 6) : GridB lo hi w v ss :=
  ⟨h.1, fun s hs => by obtain ⟨xs, h1, h2⟩ := h.2 s hs; exact ⟨xs, by omega, h2⟩⟩
theorem GridB.below {lo hi B : Nat} {w w' : World} {v : Value} {ss : List Value} (h : GridB lo hi w v ss) (hb : Below B w w') (hB : hi ≤ B) : GridB lo hi w' v ss :=
  ⟨h.1.below hb hB, fun s hs => by obtain ⟨xs, h1, h2⟩ := h.2 s hs; exact ⟨xs, h1, h2.below hb hB⟩⟩
theorem GridB.outside {lo hi lo' hi' : Nat} {w w' : World} {v : Value} {ss : List Value} (h : GridB lo hi w v ss) (hb : Outside lo' hi' w w') (hd : hi ≤ lo' ∨ hi' ≤ lo) : GridB lo hi w' v ss :=
  ⟨h.1.outside hb hd, fun s hs => by obtain ⟨xs, h1, h2⟩ := h.2 s hs; exact ⟨xs, h1, h2.outside hb hd⟩⟩
theorem GridB.lower {lo lo' hi hi' : Nat} {w : World} {v : Value} {ss : List Value} (h : GridB lo hi w v ss) (hl : lo' ≤ lo) (hh : hi ≤ hi') : GridB lo' hi' w v ss :=
  ⟨h.1.wide2 hl hh, fun s hs => by obtain ⟨xs, h1, h2⟩ := h.2 s hs; exact ⟨xs, h1, h2.lower hl hh⟩⟩
/-- Another row is put into it. -/
theorem GridB.put {lo hi n cap g : Nat} {w : World} {ss : List Value} {s : Value} {xs : List Int} (h : GridB lo hi w (.slice (some ⟨g, 0, none⟩) n cap) ss) (hn : n = ss.length) (hs : OwnI lo hi 3 w s xs) (hx : xs.length ≤ 6) (j : Nat) :
    GridB lo hi (w.setCell ⟨g, j, none⟩ s) (.slice (some ⟨g, 0, none⟩) n cap) (ss.set j s) ∧ Outside lo hi w (w.setCell ⟨g, j, none⟩ s) := by
  subst hn
  obtain ⟨_, hg1, hg2, cur, hcur⟩ := Own.block (g := 0) h.1
  simp only at hg1 hg2 hcur
  have hO : Outside lo hi w (w.setCell ⟨g, j, none⟩ s) := (Outside.refl _ _ _).setCell (p := ⟨g, j, none⟩) hg1 hg2 _
  have kept : ∀ {u : Value} {ys : List Int}, OwnI lo hi 3 w u ys → OwnI lo hi 3 (w.setCell ⟨g, j, none⟩ s) u ys := by
    intro u ys hu
    rcases hu.1.2 with ⟨h1, h0⟩ | ⟨g', cap', cur', e1, hb, hg', hrest⟩
    · exact ⟨⟨hu.1.1, .inl ⟨h1, h0⟩⟩, hu.2⟩
    · refine ⟨⟨hu.1.1, .inr ⟨g', cap', cur', e1, hb, ?_, hrest⟩⟩, hu.2⟩
      rw [heap_setCell_other w ⟨g, j, none⟩ g' _ (fun e => by
        have e : g' = g := by simpa using e
        subst e
        rw [hcur] at hg'
        injection hg' with hg'
        injection hg' with _ h2 _
        exact absurd h2 (by decide))]
      exact hg'
  refine ⟨⟨?_, fun u hu => ?_⟩, hO⟩
  · rw [List.length_set]
    exact ⟨(World.ownsRow.stored h.1.1 j s).1, h.1.2⟩
  · rcases List.mem_or_eq_of_mem_set hu with hu | rfl
    · obtain ⟨ys, h1, h2⟩ := h.2 u hu
      exact ⟨ys, h1, kept h2⟩
    · exact ⟨xs, hx, kept hs⟩
theorem GridB.sl {lo hi : Nat} {w : World} {v : Value} {ss : List Value} (h : GridB lo hi w v ss) : ∃ xss, SlLL lo hi w v xss ∧ xss.length = ss.length ∧ ∀ x ∈ xss, x.length ≤ 6 := by
  have key : ∀ ss : List Value, (∀ s ∈ ss, ∃ xs : List Int, xs.length ≤ 6 ∧ OwnI lo hi 3 w s xs) → ∃ xss : List (List Int), xss.length = ss.length ∧ (∀ x ∈ xss, x.length ≤ 6) ∧ ∀ i (h1 : i < ss.length) (h2 : i < xss.length), SlI lo hi w ss[i] xss[i] := by
    intro ss
    induction ss with
    | nil => intro _; exact ⟨[], rfl, (fun x hx => by cases hx), fun i h1 => by simp at h1⟩
    | cons s r ih =>
      intro hs
      obtain ⟨xss, h1, h2, h3⟩ := ih fun x hx => hs x (by simp [hx])
      obtain ⟨xs, h4, h5⟩ := hs s (by simp)
      refine ⟨xs :: xss, by simp [h1], fun x hx => ?_, fun i hi1 hi2 => ?_⟩
      · rcases List.mem_cons.1 hx with rfl | hx
        · exact h4
        · exact h2 x hx
      · cases i with
        | zero => exact h5.sl
        | succ i => exact h3 i (by simpa using hi1) (by simpa using hi2)
  obtain ⟨xss, h1, h2, h3⟩ := key ss h.2
  refine ⟨xss, ?_, h1, h2⟩
  obtain ⟨a, cap, e, e1, e2, _, _, hc⟩ := h.1.sl
  refine ⟨a, cap, by rw [h1]; exact e, by rw [h1]; exact e1, e2, fun i hi => ?_⟩
  obtain ⟨b, off, f1, f2, f3, f4, f5⟩ := hc i (by omega)
  exact ⟨b, off, ss[i], f1, f2, f3, f4, by rw [f5, List.getElem?_eq_getElem], h3 i (by omega) hi⟩
theorem SlLL.nil (lo hi : Nat) (w : World) : SlLL lo hi w (.slice none 0 0) [] := ⟨none, 0, rfl, Nat.le_refl _, by decide, fun i h => by simp at h⟩
/-- Without the first row. -/
theorem SlLL.tail {lo hi n cap g : Nat} {w : World} {x : List Int} {r : List (List Int)} (h : SlLL lo hi w (.slice (some ⟨g, 0, none⟩) n cap) (x :: r)) (hc : n ≤ cap) : SlLL lo hi w (.slice (some ⟨g, 1, none⟩) (n - 1) (cap - 1)) r := by
  obtain ⟨a, cap', e, h1, h2, h3⟩ := h
  injection e with e1 e2 e3
  subst e1 e2 e3
  simp only [List.length_cons] at h1 ⊢
  refine ⟨some ⟨g, 1, none⟩, cap - 1, by simp, by omega, by omega, fun i hi => ?_⟩
  obtain ⟨b, off, u, f1, f2, f3, f4, f5, f6⟩ := h3 (i + 1) (by simpa using hi)
  injection f1 with f1
  injection f1 with f1 f1' _
  subst f1 f1'
  exact ⟨g, 1, u, rfl, f2, f3, f4, by rw [← f5, Nat.zero_add, Nat.add_comm], by simpa using f6⟩


set_option maxRecDepth 100000 in
set_option maxHeartbeats 1600000 in
theorem l20Rows_any (g c n : Nat) (w : World) (h : Rd g w c) (hc : c ≤ 1000000000) (hn1 : 1 ≤ n) (hn : n ≤ 6) :
    Calls Tryd.prog 100 #[.pointer (some ⟨g, 0, none⟩), .int .i64 n, .int .i64 0] w (RetV fun v w' => ∃ xs : List Int, xs.length = n ∧ OwnI w.heap.size w'.heap.size 3 w' v xs ∧ Outside g (g + 1) w w' ∧ Rd g w' (c + 20)) := by
  have hg := h.lt
  have HR := Lib.hid h
  have HO := Lib.hid (Outside.refl g (g + 1) w)
  clear h
  have H0 : Hid (OwnI w.heap.size (w.heap.size + 1) 3 (w.alloc (.cells #[] 3)) (.slice (some ⟨w.heap.size, 0, none⟩) 0 0) []) := Lib.hid (OwnI.len (n := 0) (Own.lit 1 3 w [] 0 (by omega) rfl) rfl)
  obtain ⟨w1, hw_⟩ : ∃ w_, w_ = w.alloc (.cells #[] 3) := ⟨_, rfl⟩
  obtain ⟨h_, K_, hs1⟩ := box_facts2 hw_
  rw [← hw_] at H0
  replace HO := Lib.hid (HO.out.below h_ (by omega)); replace HR := Lib.hid (HR.out.below h_ (by omega))
  have HW := Lib.hid hw_
  clear hw_ h_ K_
  go_enter Tryd.func100, Tryd.ntmps100
  go_wp2
  simp only [← HW.out]
  go_loopw [7, 8] (fun ov iv wr => ∃ (k : Nat) (a : Option Addr) (cap : Nat) (xs : List Int), ov = .slice a xs.length cap ∧ iv = .int .i64 k ∧ xs.length = k ∧ k ≤ n ∧ Hid (OwnI w.heap.size wr.heap.size 3 wr (.slice a xs.length cap) xs ∧ Outside g (g + 1) w wr ∧ Rd g wr (c + 2 * k))) (fun _ i _ => n - (intOf i).toNat)
  case atStart => exact ⟨0, _, _, [], rfl, rfl, rfl, by omega, Lib.hid ⟨H0.out.lower (Nat.le_refl _) (by omega), HO.out, HR.out⟩⟩
  case round =>
    clear H0 HW HO HR
    obtain ⟨k, a, cap, xs, rfl, rfl, rfl, hk, HR⟩ := hrel
    have hsz := HR.out.2.1.size
    by_cases hlt : xs.length < n
    · go_wp2_with fail
      refine (pick_any g _ _ _ HR.out.2.2 (by omega)).mono ?_
      rintro e w2 ⟨q, rfl, i_, h_, r_⟩
      obtain ⟨i1, i2⟩ := i_.lt (by omega)
      replace HR := Lib.hid (And.intro ((HR.out.1.outside h_ (.inr (by omega))).lower (Nat.le_refl _) h_.size) (And.intro (HR.out.2.1.trans h_) r_))
      have hs2 := h_.size
      clear h_ r_ i_
      cases hq : q == 0
      · go_wp2_with fail
        refine (pick_any g _ _ _ HR.out.2.2 (by omega)).mono ?_
        rintro e w3 ⟨q2, rfl, i_, h_, r_⟩
        obtain ⟨j1, j2⟩ := i_.lt (by omega)
        obtain ⟨y, rfl⟩ : ∃ y : Nat, q2 = y := ⟨q2.toNat, by omega⟩
        replace HR := Lib.hid (And.intro ((HR.out.1.outside h_ (.inr (by omega))).lower (Nat.le_refl _) h_.size) (And.intro (HR.out.2.1.trans h_) r_))
        have hs3 := h_.size
        clear h_ r_ i_
        have hown := HR.out.1
        go_wp2_with (at_builtin; refine wpList_app_lit _ rfl _ _ 43 rfl 3 (.int .i64 0) 1 8 Tryd.underlying43 info_int rfl (by decide) (by decide) rfl hown 1 (ints [_]) rfl rfl (ints_one _) rfl ?c1 ?c2 ?_)
        case c1 => omega
        case c2 => omega
        intro v' w5 hown5 hout5 _
        obtain ⟨a', cap', rfl, _⟩ := Own.open hown5
        have H3 := Lib.hid (And.intro hown5 hout5)
        clear hown hown5 hout5
        go_wp2
        go_roundw
        case rel => exact ⟨xs.length + 1, a', cap', xs ++ [_], by first | rfl | (simp; done), by go_num, by simp, by omega, Lib.hid ⟨OwnI.app H3.out.1 rfl, HR.out.2.1.fresh H3.out.2 (Nat.le_refl _), (HR.out.2.2.outside H3.out.2 hg).mono (by omega)⟩⟩
        case measure => simp [intOf]; omega
      · go_wp2_with fail
        refine (pick_any g _ _ _ HR.out.2.2 (by omega)).mono ?_
        rintro e w3 ⟨q2, rfl, i_, h_, r_⟩
        replace HR := Lib.hid (And.intro ((HR.out.1.outside h_ (.inr (by omega))).lower (Nat.le_refl _) h_.size) (And.intro (HR.out.2.1.trans h_) r_))
        have hs3 := h_.size
        clear h_ r_ i_
        have hown := HR.out.1
        go_wp2_with (at_builtin; refine wpList_app_lit _ rfl _ _ 43 rfl 3 (.int .i64 0) 1 8 Tryd.underlying43 info_int rfl (by decide) (by decide) rfl hown 1 (ints [_]) rfl rfl (ints_one _) rfl ?c1 ?c2 ?_)
        case c1 => omega
        case c2 => omega
        intro v' w5 hown5 hout5 _
        obtain ⟨a', cap', rfl, _⟩ := Own.open hown5
        have H3 := Lib.hid (And.intro hown5 hout5)
        clear hown hown5 hout5
        go_wp2
        go_roundw
        case rel => exact ⟨xs.length + 1, a', cap', xs ++ [_], by first | rfl | (simp; done), by go_num, by simp, by omega, Lib.hid ⟨OwnI.app H3.out.1 rfl, HR.out.2.1.fresh H3.out.2 (Nat.le_refl _), (HR.out.2.2.outside H3.out.2 hg).mono (by omega)⟩⟩
        case measure => simp [intOf]; omega
    · obtain rfl : n = xs.length := by omega
      go_wp2_with fail
      refine (odd2_any g _ _ _ HR.out.2.2 (by omega) (by omega)).mono ?_
      rintro e w3 ⟨b, rfl, hb0, h_, r_⟩
      replace HR := Lib.hid (And.intro ((HR.out.1.outside h_ (.inr (by omega))).lower (Nat.le_refl _) h_.size) (And.intro (HR.out.2.1.trans h_) r_))
      clear h_ r_
      cases b
      · go_wp2
        go_ret
        exact RetV.mk _ rfl ⟨xs, rfl, HR.out.1, HR.out.2.1, HR.out.2.2.mono (by omega)⟩
      · exact absurd (hb0 rfl) (by omega)

set_option linter.unusedVariables false

def GotM (g c : Nat) (w0 : World) (gM : Nat) (n p q : Int) (va : Value) (wx : World) : Prop := Blk gM (.cells #[.int .i64 n, .int .i64 p, .int .i64 q, va] 25) wx ∧ w0.heap.size ≤ gM ∧ g < gM ∧ Outside g (g + 1) w0 wx ∧ Rd g wx c
theorem gotM1 {g c : Nat} {w0 w2 : World} (O : Outside g (g + 1) w0 w2) (R : Rd g w2 c) (n p q : Int) (va : Value) : GotM g c w0 w2.heap.size n p q va (w2.alloc (.cells #[.int .i64 n, .int .i64 p, .int .i64 q, va] 25)) :=
  ⟨Blk.new w2 _, O.size, R.lt, O.below (al_below _ _) O.size, R.al _⟩
theorem gotM2 {g c gM : Nat} {w0 w2 : World} {x0 x1 x2 x3 : Value} (K : Blk gM (.cells #[x0, x1, x2, x3] 25) w2) (O : Outside g (g + 1) w0 w2) (R : Rd g w2 c) (h : w0.heap.size ≤ gM) (hg : g < gM) (n p q : Int) (va : Value) :
    GotM g c w0 gM n p q va ((((w2.setCell ⟨gM, 0, none⟩ (.int .i64 n)).setCell ⟨gM, 1, none⟩ (.int .i64 p)).setCell ⟨gM, 2, none⟩ (.int .i64 q)).setCell ⟨gM, 3, none⟩ va) :=
  ⟨K.set4 _ _ _ _, h, hg, O.fresh (Outside.set4 _ _ _ _ _ _) h, R.outside (Outside.set4 _ _ _ _ _ _) hg⟩
theorem GotM.drew {g c gM : Nat} {w0 wx : World} {n p q : Int} {va : Value} (h : GotM g c w0 gM n p q va wx) : GotM g c w0 gM n p q va wx.drew := ⟨h.1, h.2.1, h.2.2.1, h.2.2.2.1.drw, h.2.2.2.2⟩
theorem GotM.mono {g c c' gM : Nat} {w0 wx : World} {n p q : Int} {va : Value} (h : GotM g c w0 gM n p q va wx) (hc : c ≤ c') : GotM g c' w0 gM n p q va wx := ⟨h.1, h.2.1, h.2.2.1, h.2.2.2.1, h.2.2.2.2.mono hc⟩
/-- Something happens outside of the struct's block. -/
theorem GotM.out {g c c' gM lo hi : Nat} {w0 wx wy : World} {n p q : Int} {va : Value} (h : GotM g c w0 gM n p q va wx) (ho : Outside lo hi wx wy) (hl : gM < lo ∨ hi ≤ gM) (hO : Outside g (g + 1) w0 wy) (hr : Rd g wy c') : GotM g c' w0 gM n p q va wy :=
  ⟨h.1.outside ho hl, h.2.1, h.2.2.1, hO, hr⟩
theorem GotM.far {g c gM lo hi : Nat} {w0 wx wy : World} {n p q : Int} {va : Value} (h : GotM g c w0 gM n p q va wx) (ho : Outside lo hi wx wy) (hl : gM < lo) : GotM g c w0 gM n p q va wy :=
  ⟨h.1.outside ho (.inl hl), h.2.1, h.2.2.1, h.2.2.2.1.fresh ho (Nat.le_of_lt (Nat.lt_of_le_of_lt h.2.1 hl)), h.2.2.2.2.outside ho (Nat.lt_trans h.2.2.1 hl)⟩
theorem GotM.al {g c gM : Nat} {w0 wx : World} {n p q : Int} {va : Value} (h : GotM g c w0 gM n p q va wx) (o : Obj) : GotM g c w0 gM n p q va (wx.alloc o) :=
  h.far (lo := wx.heap.size) (hi := wx.heap.size) (Outside.of_below (al_below _ _) (Nat.le_refl _)) h.1.lt
/-- A new list of rows. -/
theorem GotM.put {g c gM : Nat} {w0 wx : World} {n p q : Int} {va : Value} (h : GotM g c w0 gM n p q va wx) (vb : Value) : GotM g c w0 gM n p q vb (wx.setCell ⟨gM, 3, none⟩ vb) :=
  ⟨h.1.put 3 vb, h.2.1, h.2.2.1, h.2.2.2.1.fresh (Outside.put gM 3 wx vb) h.2.1, h.2.2.2.2.outside (Outside.put gM 3 wx vb) h.2.2.1⟩

theorem GotM.put1 {g c gM : Nat} {w0 wx : World} {n p q : Int} {va : Value} (h : GotM g c w0 gM n p q va wx) (p' : Int) : GotM g c w0 gM n p' q va (wx.setCell ⟨gM, 1, none⟩ (.int .i64 p')) :=
  ⟨h.1.put 1 (.int .i64 p'), h.2.1, h.2.2.1, h.2.2.2.1.fresh (Outside.put gM 1 wx _) h.2.1, h.2.2.2.2.outside (Outside.put gM 1 wx _) h.2.2.1⟩
theorem own_cell1 {lo hi n cap g e : Nat} {w : World} {ss : List Value} {m : Nat} (h : Own 1 lo hi e w (.slice (some ⟨g, 0, none⟩) n cap) m ss) (hl : ss.length = 3) (j : Nat) (hj : j < 3) : ∃ u, w.cell? ⟨g, j, none⟩ = some u := by
  have := h.1.cells (g := g) rfl j ss[j] (List.getElem?_eq_getElem (by omega))
  rw [Addr.add_lit, Nat.zero_add] at this
  exact ⟨_, this⟩
theorem own_free1 {lo hi n cap g e m : Nat} {w : World} {ss : List Value} (h : Own 1 lo hi e w (.slice (some ⟨g, 0, none⟩) n cap) m ss) (j : Nat) : w.frozen? ⟨g, j, none⟩ = false := by
  obtain ⟨⟨_, h1⟩, _⟩ := h
  rcases h1 with ⟨h1, _⟩ | ⟨g', cap', cur, e1, _, hg, _⟩
  · cases h1
  · simp only [Value.slice.injEq, Option.some.injEq, Addr.mk.injEq, and_true] at e1
    obtain ⟨rfl, _⟩ := e1
    simp [World.frozen?, hg]
/-- A model that may be written, with as many states as its rows have. -/
def Mod0 (g c : Nat) (w : World) (v : Value) (w' : World) : Prop := ∃ (N : Nat) (p q : Int) (va : Value) (ss : List Value), v = .agg #[.int .i64 (N : Int), .int .i64 p, .int .i64 q, va] ∧ ss.length = 3 ∧ 1 ≤ N ∧ N ≤ 5 ∧ Grid w.heap.size w'.heap.size w' va N ss ∧ Outside g (g + 1) w w' ∧ Rd g w' (c + 500)
theorem model_end0 {g c c' gM N : Nat} {w w1 wx wz : World} {n p q : Int} {va : Value} {ss : List Value} (h : GotM g c w1 gM n p q va wx) (O : Outside g (g + 1) w w1) (hw : w.heap.size < w1.heap.size) (hg : g < w.heap.size)
    (hS : Grid (gM + 1) wx.heap.size wx va N ss) (OZ : Outside w.heap.size (w.heap.size + 1) wx wz) (hc : c ≤ c') :
    Grid w.heap.size wz.heap.size wz va N ss ∧ Outside g (g + 1) w wz ∧ Rd g wz c' := by
  have h1 := h.2.1
  refine ⟨((hS.outside OZ (.inr (by omega))).lower (by omega) OZ.size), (O.trans h.2.2.2.1).fresh OZ (Nat.le_refl _), (h.2.2.2.2.outside OZ hg).mono hc⟩

set_option maxRecDepth 100000 in
set_option maxHeartbeats 40000000 in
theorem l20Model0_any (g c : Nat) (w : World) (h : Rd g w c) (hc : c ≤ 100000000) :
    Calls Tryd.prog 71 #[.pointer (some ⟨g, 0, none⟩), .int .i64 0] w (RetV fun v w' => Mod0 g c w v w') := by
  have hg := h.lt
  obtain ⟨w0, hw0⟩ : ∃ w0, w0 = w.alloc (.cells #[.int .i64 0, .int .i64 0, .int .i64 0, .slice none 0 0] 25) := ⟨_, rfl⟩
  obtain ⟨hb0, K_, hs0⟩ := box_facts2 hw0
  have KR := Lib.hid K_
  have HR := Lib.hid (h.below hb0 hg)
  have HO := Lib.hid ((Outside.refl g (g + 1) w).below hb0 (Nat.le_refl _))
  have HW0 := Lib.hid hw0
  clear h hb0 K_ hw0
  go_enter Tryd.func71, Tryd.ntmps71
  go_wp2_with (rw [← HW0.out])
  try rw [← HW0.out]
  refine (pick_any g _ _ _ HR.out (by omega)).mono ?_
  rintro e w1 ⟨q, rfl, i_, h_, r_⟩
  obtain ⟨i1, i2⟩ := i_.lt (by omega)
  obtain ⟨s, rfl⟩ : ∃ s : Nat, q = s := ⟨q.toNat, by omega⟩
  have hs1 := h_.size
  replace KR := Lib.hid (KR.out.outside h_ (.inr (by omega)))
  replace HO := Lib.hid (HO.out.trans h_)
  replace HR := Lib.hid r_
  clear h_ r_ i_ HW0
  have hg1 : g < w1.heap.size := by omega
  go_upto_region 2 with fail
  obtain ⟨N, hN⟩ : ∃ N : Nat, (1 + (s : Int)) = (N : Int) := ⟨s + 1, by omega⟩
  have hN1 : 1 ≤ N := by omega
  have hN5 : N ≤ 5 := by omega
  simp only [hN]
  clear hN i1 i2
  go_cut [6] (fun p wx => ∃ (gM : Nat) (x y : Int), p = .pointer (some ⟨gM, 0, none⟩) ∧ Hid (GotM g (c + 3) w1 gM (N : Int) x y (.slice none 0 0) wx))
  case first =>
    clear HO KR
    go_region_with (first
      | (go_at_call 38; refine (pick_any g (c + 1 + 1) _ _ (by repeat first | with_reducible exact R1.out | with_reducible apply Rd.drew | with_reducible apply Rd.al) (by omega)).mono ?_; rintro e2 w3 ⟨y, rfl, i2_, o2, r2⟩; clear i2_; (have hz2 := o2.size); (have R2 := Lib.hid r2); clear r2; (have O2 : Hid (Outside g (g + 1) w1 w3) := Lib.hid (O1.out.trans (o2.grew (by repeat first | with_reducible exact Grew.refl _ | with_reducible apply Grew.drew | with_reducible apply Grew.al)))); (with_reducible try (first | (have ka : Blk w1.heap.size (.cells #[.int .i64 0, .int .i64 0, .int .i64 0, .slice none 0 0] 25) w3 := Blk.outside KA.out o2 (.inr (by omega)); clear KA; (try clear c0 c1 c2 c3 f0 f1 f2 f3); (have c0 := ka.cell 0); (have c1 := ka.cell 1); (have c2 := ka.cell 2); (have c3 := ka.cell 3); (have f0 := ka.free 0); (have f1 := ka.free 1); (have f2 := ka.free 2); (have f3 := ka.free 3); (have KA := Lib.hid ka); clear ka) | (have ka : Blk w2.heap.size (.cells #[.int .i64 0, .int .i64 0, .int .i64 0, .slice none 0 0] 25) w3 := hop3 o2 hg2; (have c0 := ka.cell 0); (have c1 := ka.cell 1); (have c2 := ka.cell 2); (have c3 := ka.cell 3); (have f0 := ka.free 0); (have f1 := ka.free 1); (have f2 := ka.free 2); (have f3 := ka.free 3); (have KA := Lib.hid ka); clear ka))); clear o2)
      | (go_at_call 38; refine (pick_any g (c + 1) _ _ (by repeat first | with_reducible exact HR.out | with_reducible apply Rd.drew | with_reducible apply Rd.al) (by omega)).mono ?_; rintro e1 w2 ⟨x, rfl, i1_, o1, r1⟩; clear i1_; (have hz1 := o1.size); (have hg2 := r1.lt); (have R1 := Lib.hid r1); clear r1; (have O1 : Hid (Outside g (g + 1) w1 w2) := Lib.hid (o1.grew (by repeat first | with_reducible exact Grew.refl _ | with_reducible apply Grew.drew | with_reducible apply Grew.al))); (with_reducible try (first | (have ka : Blk w1.heap.size (.cells #[.int .i64 0, .int .i64 0, .int .i64 0, .slice none 0 0] 25) w2 := hop1 o1 hg1; (have c0 := ka.cell 0); (have c1 := ka.cell 1); (have c2 := ka.cell 2); (have c3 := ka.cell 3); (have f0 := ka.free 0); (have f1 := ka.free 1); (have f2 := ka.free 2); (have f3 := ka.free 3); (have KA := Lib.hid ka); clear ka) | (have ka : Blk w1.heap.size (.cells #[.int .i64 0, .int .i64 0, .int .i64 0, .slice none 0 0] 25) w2 := hop3 o1 hg1; (have c0 := ka.cell 0); (have c1 := ka.cell 1); (have c2 := ka.cell 2); (have c3 := ka.cell 3); (have f0 := ka.free 0); (have f1 := ka.free 1); (have f2 := ka.free 2); (have f3 := ka.free 3); (have KA := Lib.hid ka); clear ka))); clear o1))
    · go_wp2_with fail
      go_meet
      exact ⟨_, _, _, rfl, Lib.hid (gotM1 O2.out R2.out _ _ _ _)⟩
    · go_wp2_with fail
      go_meet
      exact ⟨_, _, _, rfl, Lib.hid (gotM2 KA.out O2.out R2.out O1.out.size hg2 _ _ _ _)⟩
    · go_wp2_with fail
      go_meet
      exact ⟨_, _, _, rfl, Lib.hid (gotM2 KA.out O2.out R2.out (Nat.le_refl _) hg1 _ _ _ _)⟩
  case rest =>
    obtain ⟨gM, x, y, rfl, HQ⟩ := hcut
    clear HR
    obtain ⟨w2, rfl⟩ : ∃ w2, w2 = wc := ⟨_, rfl⟩
    have hgM := HQ.out.1.lt
    have hgM1 := HQ.out.2.1
    have hgM2 := HQ.out.2.2.1
    have hs2 := HQ.out.2.2.2.1.size
    go_wp2
    go_loopw [7] (fun i wr => ∃ (k : Nat) (va : Value) (ss : List Value), i = .int .i64 k ∧ k ≤ 3 ∧ ss.length = k ∧ Hid (GotM g (c + 3 + 20 * k) w1 gM (N : Int) x y va wr ∧ Grid (gM + 1) wr.heap.size wr va N ss)) (fun i _ => 3 - (intOf i).toNat)
    case atStart => exact ⟨0, .slice none 0 0, [], rfl, by omega, rfl, Lib.hid ⟨HQ.out, Grid.nil _ _ _ _⟩⟩
    case round =>
      obtain ⟨k, va, ss, rfl, hk, hss, HQ⟩ := hrel
      have hgM3 := HQ.out.1.1.lt
      by_cases hlt : k < 3
      · obtain ⟨aa, ac, hva⟩ := HQ.out.2.shape
        rw [hss] at hva
        obtain ⟨wd, hwd⟩ : ∃ wd, wd = wr.drew := ⟨_, rfl⟩
        have hS : wr.drew.cell? ⟨gM, 3, none⟩ = some va := HQ.out.1.1.cell 3
        have HD : Hid (GotM g (c + 3 + 20 * k) w1 gM (N : Int) x y va wr.drew ∧ Grid (gM + 1) wr.drew.heap.size wr.drew va N ss) := Lib.hid ⟨HQ.out.1.drew, HQ.out.2⟩
        have hdz : wr.drew.heap.size = wr.heap.size := rfl
        subst hva
        clear hwd
        go_wp2_with fail
        have hS0 : wr.cell? ⟨gM, 3, none⟩ = some (.slice aa k ac) := HQ.out.1.1.cell 3
        go_region_law (first
          | (go_simp; go_at_call 100; refine (l20Rows_any g (c + 3 + 20 * k) N _ HD.out.1.2.2.2.2 (by omega) (by omega) (by omega)).mono ?_; rintro e3 w3 ⟨v3, rfl, xs, hxl, o3, h3, r3⟩; (have hz3 := h3.size); (have H3 := Lib.hid (And.intro (HD.out.1.out h3 (.inr (by omega)) (HD.out.1.2.2.2.1.trans h3) r3) (And.intro (HD.out.2.outside h3 (.inr (by omega))) o3))); obtain ⟨xa, xc, hv3, _⟩ := Own.open o3; rw [hxl] at hv3; subst hv3; (have L3 : Hid (Sl 1 w3.heap.size (w3.heap.size + 1) (w3.alloc (.cells #[.slice xa N xc] 43)) (.slice (some ⟨w3.heap.size, 0, none⟩) 1 1) 1 [.slice xa N xc]) := Lib.hid (Own.lit 1 43 w3 [.slice xa N xc] 1 (by omega) rfl).sl); (have hS3 : w3.cell? ⟨gM, 3, none⟩ = some (.slice aa k ac) := H3.out.1.1.cell 3); (have hS4 : (w3.alloc (.cells #[.slice xa N xc] 43)).cell? ⟨gM, 3, none⟩ = some (.slice aa k ac) := (H3.out.1.al _).1.cell 3); clear o3 h3 r3)
          | (refine step_app_gr (by rfl) _ _ 23 (by rfl) 43 (.slice none 0 0) 1 24 Tryd.underlying23 info_ints (by rfl) (by decide) (by decide) (by rfl) ((H3.out.2.1.1).below (al_below _ _) (by omega)) (by rfl) L3.out (by intro u hu; simp only [List.mem_singleton] at hu; subst hu; rfl) (by omega) (by simp only [alloc_size]; omega) ?_; intro v5 w5 ho5 hout5 hgr5; (have hz5 : w3.heap.size + 1 ≤ w5.heap.size := by have h := hout5.size; rw [alloc_size] at h; exact h); obtain ⟨ya, yc, hv5⟩ := Own.shape ho5; rw [hss] at hv5; subst hv5; (have H5 : Hid (GotM g (c + 3 + 20 * k + 20) w1 gM (N : Int) x y (.slice aa k ac) w5 ∧ Grid (gM + 1) w5.heap.size w5 (.slice ya (k + 1) yc) N (ss ++ [.slice xa N xc])) := Lib.hid ⟨(H3.out.1.al _).far hout5 (by omega), Grid.push (H3.out.2.1.below (al_below _ _) (by omega)) hgr5 ho5 ((H3.out.2.2.below (al_below _ _) (by omega)).lower (by omega) (by omega)) hxl (by omega)⟩); (have hS5 : w5.cell? ⟨gM, 3, none⟩ = some (.slice aa k ac) := H5.out.1.1.cell 3); (have hF5 : w5.frozen? ⟨gM, 3, none⟩ = false := H5.out.1.1.free 3); clear ho5 hout5 hgr5))
        all_goals (
          go_wp2
          go_roundw
          case rel => exact ⟨k + 1, _, ss ++ [.slice xa N xc], by go_num, by omega, by simp [hss], Lib.hid ⟨(H5.out.1.put (.slice ya (k + 1) yc)).mono (by omega), (H5.out.2.outside (Outside.put gM 3 w5 (.slice ya (k + 1) yc)) (.inr (by omega))).lower (Nat.le_refl _) (Outside.put gM 3 w5 _).size⟩⟩
          case measure => simp [intOf]; omega)
      · obtain rfl : k = 3 := by omega
        have HG := HQ
        clear HQ
        go_wp2_with fail
        refine (pick_any g _ _ _ HG.out.1.2.2.2.2 (by omega)).mono ?_
        rintro e w3 ⟨q, rfl, i_, h_, r_⟩
        obtain ⟨i1, i2⟩ := i_.lt (by omega)
        have hs3 := h_.size
        replace HG : Hid (GotM g (c + 100) w1 gM (N : Int) x y va w3 ∧ Grid (gM + 1) w3.heap.size w3 va N ss) := Lib.hid ⟨(HG.out.1.out h_ (.inr (by omega)) (HG.out.1.2.2.2.1.trans h_) r_).mono (by omega), (HG.out.2.outside h_ (.inr (by omega))).lower (Nat.le_refl _) h_.size⟩
        clear h_ r_ i_
        go_upto_if 37 with fail
        go_cut [6] (fun p wx => p = .pointer (some ⟨gM, 0, none⟩) ∧ Hid (GotM g (c + 200) w1 gM (N : Int) x y va wx ∧ Grid (gM + 1) wx.heap.size wx va N ss))
        case first =>
          cases hq : q == 0
          · go_wp2_with fail
            go_meet
            exact ⟨rfl, Lib.hid ⟨HG.out.1.mono (by omega), HG.out.2⟩⟩
          · go_wp2
            go_loopw [8] (fun i wr => ∃ k : Nat, i = .int .i64 k ∧ k ≤ 3 ∧ Hid (GotM g (c + 100 + 10 * k) w1 gM (N : Int) x y va wr ∧ Grid (gM + 1) wr.heap.size wr va N ss)) (fun i _ => 3 - (intOf i).toNat)
            case atStart => exact ⟨0, rfl, by omega, Lib.hid ⟨HG.out.1, HG.out.2⟩⟩
            case round =>
              obtain ⟨k, rfl, hk, HQ⟩ := hrel
              by_cases hlt : k < 3
              · obtain ⟨wo, rfl⟩ : ∃ x, x = wr := ⟨_, rfl⟩
                have hlt' : (k : Int) < 3 := by omega
                go_wp2
                go_loopw [9] (fun i wr => ∃ j : Nat, i = .int .i64 j ∧ j ≤ N ∧ Hid (GotM g (c + 100 + 10 * k + j) w1 gM (N : Int) x y va wr ∧ Grid (gM + 1) wr.heap.size wr va N ss)) (fun i _ => N - (intOf i).toNat)
                case atStart => exact ⟨0, rfl, by omega, HQ⟩
                case round =>
                  obtain ⟨j, rfl, hj, HQ⟩ := hrel
                  have hgM3 := HQ.out.1.1.lt
                  by_cases hjl : j < N
                  · obtain ⟨gO, cap, gi, ci, hva, hc1, hc2, hss2, hi1, hi2, o1, o2, o3, o4, o5, o6, o7⟩ := HQ.out.2.row (k := k) (by omega) (by omega)
                    obtain ⟨o8, z, o9⟩ := o7 j hjl
                    clear o7
                    unfold maxLen at hc2 hi2
                    have hmem : Value.slice (some ⟨gi, 0, none⟩) N ci ∈ ss := by rw [← hss2]; exact List.getElem_mem _
                    have HMEM := Lib.hid hmem
                    rw [hss2] at o6
                    rw [hss] at hva hc1
                    have HD : Hid (GotM g (c + 100 + 10 * k + j) w1 gM (N : Int) x y va wr.drew ∧ Grid (gM + 1) wr.drew.heap.size wr.drew va N ss) := Lib.hid ⟨HQ.out.1.drew, HQ.out.2⟩
                    have hdz : wr.drew.heap.size = wr.heap.size := rfl
                    subst hva
                    have d1 : wr.drew.cell? ⟨gM, 3, none⟩ = some (.slice (some ⟨gO, 0, none⟩) 3 cap) := HQ.out.1.1.cell 3
                    have d2 : wr.drew.cell? ⟨gO, k, none⟩ = some (.slice (some ⟨gi, 0, none⟩) N ci) := o6
                    have d3 : wr.drew.cell? ⟨gi, j, none⟩ = some (.int .i64 z) := o9
                    have d4 : wr.drew.frozen? ⟨gi, j, none⟩ = false := o8
                    clear hmem hss2 o6 o8 o9
                    go_wp2_with fail
                    have HP : Hid (Calls Tryd.prog 38 #[.pointer (some ⟨g, 0, none⟩), .int .i64 (N : Int)] wr.drew fun e3 w5 => ∃ yy : Nat, e3 = .returned (.int .i64 (yy : Int)) ∧ yy < N ∧ wr.heap.size ≤ w5.heap.size ∧ w5.cell? ⟨gM, 3, none⟩ = some (.slice (some ⟨gO, 0, none⟩) 3 cap) ∧ w5.cell? ⟨gO, k, none⟩ = some (.slice (some ⟨gi, 0, none⟩) N ci) ∧ w5.cell? ⟨gi, j, none⟩ = some (.int .i64 z) ∧ w5.frozen? ⟨gi, j, none⟩ = false ∧ Hid (GotM g (c + 100 + 10 * k + j + 1) w1 gM (N : Int) x y (.slice (some ⟨gO, 0, none⟩) 3 cap) w5 ∧ Grid (gM + 1) w5.heap.size w5 (.slice (some ⟨gO, 0, none⟩) 3 cap) N ss)) := by
                      refine Lib.hid ((pick_any g _ _ _ HD.out.1.2.2.2.2 (by omega)).mono ?_)
                      rintro e3 w5 ⟨qq, rfl, i_, h_, r_⟩
                      obtain ⟨ii1, ii2⟩ := i_.lt (by omega)
                      obtain ⟨yy, rfl⟩ : ∃ yy : Nat, qq = yy := ⟨qq.toNat, by omega⟩
                      have hz5 := h_.size
                      have H5 : GotM g (c + 100 + 10 * k + j + 1) w1 gM (N : Int) x y (.slice (some ⟨gO, 0, none⟩) 3 cap) w5 := HD.out.1.out h_ (.inr (by omega)) (HD.out.1.2.2.2.1.trans h_) r_
                      refine ⟨yy, rfl, by omega, by omega, H5.1.cell 3, ?_, ?_, ?_, Lib.hid ⟨H5, (HD.out.2.outside h_ (.inr (by omega))).lower (Nat.le_refl _) h_.size⟩⟩
                      · rw [World.cell?_of_block (w := wr.drew) (a := ⟨gO, k, none⟩) (h_.block gO (by omega) (.inr (by omega)))]; exact d2
                      · rw [World.cell?_of_block (w := wr.drew) (a := ⟨gi, j, none⟩) (h_.block gi (by omega) (.inr (by omega)))]; exact d3
                      · rw [World.frozen?_of_block (w := wr.drew) (a := ⟨gi, j, none⟩) (h_.block gi (by omega) (.inr (by omega)))]; exact d4
                    go_region_law (first
                      | (go_simp; go_at_call 38; refine HP.out.mono ?_; rintro e3 w5 ⟨yy, rfl, hyy, hz5, m1, m2, m3, m4, H5⟩))
                    all_goals (
                      go_wp2
                      go_roundw
                      case rel => exact ⟨j + 1, by go_num, by omega, Lib.hid ⟨(H5.out.1.far (H5.out.2.store HMEM.out j _).2 (by omega)).mono (by omega), (H5.out.2.store HMEM.out j _).1.lower (Nat.le_refl _) (H5.out.2.store HMEM.out j _).2.size⟩⟩
                      case measure => simp [intOf]; omega)
                  · obtain rfl : j = N := by omega
                    go_wp2
                    go_roundw
                    case rel => exact ⟨k + 1, by go_num, by omega, Lib.hid ⟨HQ.out.1.mono (by omega), HQ.out.2⟩⟩
                    case measure => simp [intOf]; omega
              · obtain rfl : k = 3 := by omega
                go_wp2
                go_meet
                exact ⟨rfl, Lib.hid ⟨HQ.out.1.mono (by omega), HQ.out.2⟩⟩
        case rest =>
          obtain ⟨rfl, HQ⟩ := hcut
          obtain ⟨w3', rfl⟩ : ∃ x, x = wc := ⟨_, rfl⟩
          have HG := HQ
          clear HQ
          obtain ⟨aa, ac, hva⟩ := HG.out.2.shape
          rw [hss] at hva
          go_wp2_with fail
          refine (odd2_any g _ 0 _ HG.out.1.2.2.2.2 (by omega) (by omega)).mono ?_
          rintro e w6 ⟨b, rfl, hb0, h_, r_⟩
          obtain rfl : b = false := by
            cases b
            · rfl
            · exact absurd (hb0 rfl) (by omega)
          have hs4 := h_.size
          replace HG : Hid (GotM g (c + 201) w1 gM (N : Int) x y va w6 ∧ Grid (gM + 1) w6.heap.size w6 va N ss) := Lib.hid ⟨(HG.out.1.out h_ (.inr (by omega)) (HG.out.1.2.2.2.1.trans h_) r_).mono (by omega), (HG.out.2.outside h_ (.inr (by omega))).lower (Nat.le_refl _) h_.size⟩
          clear h_ r_ hb0
          have hs6 := HG.out.1.2.2.2.1.size
          subst hva
          have k0 := HG.out.1.1.cell 0
          have k1 := HG.out.1.1.cell 1
          have k2 := HG.out.1.1.cell 2
          have k3 := HG.out.1.1.cell 3
          have KX := KR.out.outside HG.out.1.2.2.2.1 (.inr (by omega))
          have f0 := KX.free 0
          have f1 := KX.free 1
          have f2 := KX.free 2
          have f3 := KX.free 3
          have c0 := KX.cell 0
          have c1 := KX.cell 1
          have c2 := KX.cell 2
          have c3 := KX.cell 3
          obtain ⟨wz, hwz⟩ : ∃ wz, wz = ((((w6.setCell ⟨w.heap.size, 0, none⟩ (.int .i64 (N : Int))).setCell ⟨w.heap.size, 1, none⟩ (.int .i64 x)).setCell ⟨w.heap.size, 2, none⟩ (.int .i64 y)).setCell ⟨w.heap.size, 3, none⟩ (.slice aa 3 ac)) := ⟨_, rfl⟩
          have KZ := KX.set4 (.int .i64 (N : Int)) (.int .i64 x) (.int .i64 y) (.slice aa 3 ac)
          have OZ := Outside.set4 w.heap.size w6 (.int .i64 (N : Int)) (.int .i64 x) (.int .i64 y) (.slice aa 3 ac)
          rw [← hwz] at KZ OZ
          have z0 := KZ.cell 0
          have z1 := KZ.cell 1
          have z2 := KZ.cell 2
          have z3 := KZ.cell 3
          have OZ' := Lib.hid OZ
          clear KX KZ OZ
          go_wp2_with fail
          simp only [← hwz]
          clear hwz
          refine bodyPost_ret (v := .agg #[.int .i64 (N : Int), .int .i64 x, .int .i64 y, (.slice aa 3 ac)]) (by simp [results, Tryd.results71, go_sem, z0, z1, z2, z3]) rfl ⟨_, rfl, N, x, y, _, ss, rfl, hss, hN1, by omega, model_end0 HG.out.1 HO.out (by omega) hg HG.out.2 OZ'.out (by omega)⟩
end Go.Proofs.YtoondakdjhhehaaDoor
