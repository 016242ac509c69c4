/-
  Texts of walks and plain lemmas for this seat; no condition.
-/
import Derived.Test.YtoondakdjhhehaaGA
import Derived.Test.YtoondakdjhhehaaRows
import Derived.Deep.RegionWith
import Derived.Laws.MakeOwn
namespace Go.Proofs.Ytoondakdjhhehaa
open Go.RowKit
section

end

section

def eqMv (m n : Mv) : Bool := decide (m = n)

end

section

def eqMs (xs ys : List Mv) : Bool := decide (xs = ys)
theorem eqMs_len {xs ys : List Mv} (h : xs.length ≠ ys.length) : eqMs xs ys = false := by
  unfold eqMs; rw [decide_eq_false_iff_not]; intro e; exact h (by rw [e])
theorem eqMs_ne {xs ys : List Mv} {k : Nat} (h1 : k < xs.length) (h2 : k < ys.length) (h : eqMv xs[k] ys[k] = false) : eqMs xs ys = false := by
  unfold eqMs; rw [decide_eq_false_iff_not]; intro e; subst e; simp [eqMv] at h
theorem eqMs_all {xs ys : List Mv} (hl : xs.length = ys.length) (h : ∀ j (h1 : j < xs.length) (h2 : j < ys.length), xs[j] = ys[j]) : eqMs xs ys = true := by
  unfold eqMs; rw [decide_eq_true_eq]; exact List.ext_getElem hl h

end

section

/-- What markMoveS writes from k on. -/
def mvK (k : Int) : Mv := ⟨k, (k + 1) % 3 == 0, k + 2⟩
def seqM (k : Int) (n : Nat) : List Mv := (List.range n).map (fun i => mvK (k + 3 * (i : Nat)))
theorem seqM_length (k : Int) (n : Nat) : (seqM k n).length = n := by simp [seqM]
theorem seqM_get (k : Int) (n i : Nat) (h : i < n) : (seqM k n)[i]'(by rw [seqM_length]; exact h) = mvK (k + 3 * (i : Nat)) := by simp [seqM]
theorem mvs_over (ys xs : List Mv) (hl : ys.length = xs.length) (k : Nat) (h : k < xs.length) :
    (((over (mvs ys) (mvs xs) (k * 3)).set (k * 3) (.int .i64 (ys[k]'(by omega)).which)).set (k * 3 + 1) (.bool (ys[k]'(by omega)).back)).set (k * 3 + 2) (.int .i64 (ys[k]'(by omega)).at_) = over (mvs ys) (mvs xs) ((k + 1) * 3) := by
  have h1 := mvs_length ys
  have h2 := mvs_length xs
  obtain ⟨g1, g2, g3⟩ := mvs_get ys k (by omega)
  rw [over_set _ _ _ (by omega) (by omega) _ g1, over_set _ _ _ (by omega) (by omega) _ g2, over_set _ _ _ (by omega) (by omega) _ g3]
  congr 1
  omega

end

section

def mv0 : Mv := ⟨0, false, 0⟩
theorem made_mvs (n : Nat) : (madeCells #[.int .i64 0, .bool false, .int .i64 0] (n * 3)).toList = mvs (List.replicate n mv0) := by
  induction n with
  | zero => simp [madeCells, mvs]
  | succ n ih =>
    rw [List.replicate_succ', mvs, List.flatMap_append]
    rw [show List.flatMap encMv (List.replicate n mv0) = mvs (List.replicate n mv0) from rfl, ← ih]
    simp only [madeCells, Array.toList_map, Array.toList_range]
    rw [show (n + 1) * 3 = n * 3 + 3 by omega, List.range_add, List.map_append]
    congr 1
    simp [List.range_succ, Nat.add_mod, encMv, mv0]
theorem ownsRow_ltM {w : World} {base e sz g n c : Nat} {xs : List Value} (h : w.ownsRow base e sz (.slice (some ⟨g, 0, none⟩) n c) n xs) : g < w.heap.size := by
  rcases h.2 with ⟨h, _⟩ | ⟨g', cap', cur, h, _, h2, _⟩
  · simp at h
  · simp only [Value.slice.injEq, Option.some.injEq, Addr.mk.injEq] at h
    rw [h.1.1]
    exact (Array.getElem?_eq_some_iff.1 h2).1
theorem ownsRow_belowM {w w' : World} {base e sz g n c : Nat} {xs : List Value} (h : w.ownsRow base e sz (.slice (some ⟨g, 0, none⟩) n c) n xs) (hb : Below w.heap.size w w') : w'.ownsRow base e sz (.slice (some ⟨g, 0, none⟩) n c) n xs :=
  (Own.below (hi := g + 1) ⟨h, fun g' hg => by simp [Value.ownBlock] at hg; omega⟩ hb (ownsRow_ltM h)).1

end

section

theorem Own.shape {sz lo hi e n : Nat} {w : World} {v : Value} {xs : List Value} (h : Own sz lo hi e w v n xs) : ∃ a cap, v = .slice a n cap := by
  obtain ⟨a, cap, h, _⟩ := Own.open h
  exact ⟨a, cap, h⟩

structure Dsk where
  first : List Int
  goal : List Int
  made : List Mv
  now : List Int
deriving DecidableEq

def Dsk.size (d : Dsk) : Nat := d.first.length + d.goal.length + d.made.length + d.now.length

/-- The four slices of a desk read as its lists, in blocks lo..hi-1. -/
structure DeskAt (lo hi : Nat) (w : World) (a b c d : Value) (D : Dsk) : Prop where
  first : SlI lo hi w a D.first
  goal : SlI lo hi w b D.goal
  made : SlM lo hi w c D.made
  now : SlI lo hi w d D.now
theorem DeskAt.below {lo hi B : Nat} {w w' : World} {a b c d : Value} {D : Dsk} (h : DeskAt lo hi w a b c d D) (hb : Below B w w') (hB : hi ≤ B) : DeskAt lo hi w' a b c d D :=
  ⟨h.first.below hb hB, h.goal.below hb hB, h.made.below hb hB, h.now.below hb hB⟩
theorem DeskAt.outside {lo hi lo' hi' : Nat} {w w' : World} {a b c d : Value} {D : Dsk} (h : DeskAt lo hi w a b c d D) (hb : Outside lo' hi' w w') (hd : hi ≤ lo' ∨ hi' ≤ lo) : DeskAt lo hi w' a b c d D :=
  ⟨h.first.outside hb hd, h.goal.outside hb hd, h.made.outside hb hd, h.now.outside hb hd⟩
theorem DeskAt.wide {lo hi lo' hi' : Nat} {w : World} {a b c d : Value} {D : Dsk} (h : DeskAt lo hi w a b c d D) (h1 : lo' ≤ lo) (h2 : hi ≤ hi') : DeskAt lo' hi' w a b c d D :=
  ⟨h.first.wide h1 h2, h.goal.wide h1 h2, h.made.wide h1 h2, h.now.wide h1 h2⟩

/-- What markDesk makes of a desk. -/
def Dsk.mark (d : Dsk) (k : Int) : Dsk :=
  ⟨seqI k d.first.length, seqI (k + d.first.length) d.goal.length, seqM (k + d.first.length + d.goal.length) d.made.length, seqI (k + d.first.length + d.goal.length + 3 * d.made.length) d.now.length⟩
def Dsk.count (d : Dsk) (k : Int) : Int := k + d.first.length + d.goal.length + 3 * d.made.length + d.now.length

theorem eqL_same (xs : List Int) : eqL xs xs = true := by simp [eqL]
abbrev aggD (a b c d : Value) : Value := .agg #[a, b, c, d]

end
end Go.Proofs.Ytoondakdjhhehaa
