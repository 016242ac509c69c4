/-
  Texts of walks and plain lemmas for this seat; no condition.
-/
import Derived.Test.YtjpndimhegfbnaaGreatDoorApp
namespace Go.Proofs.YtjpndimhegfbnaaGreatDoor
open Go.RowKit

/-- A move. -/
structure Mv where
  which : Int
  back : Bool
  at_ : Int
deriving DecidableEq

def encMv (m : Mv) : List Value := [.int .i64 m.which, .bool m.back, .int .i64 m.at_]
def mvs (l : List Mv) : List Value := l.flatMap encMv
theorem mvs_length (l : List Mv) : (mvs l).length = l.length * 3 := by
  induction l with
  | nil => rfl
  | cons m r ih => simp only [mvs, List.flatMap_cons, List.length_append] at *; rw [ih]; simp [encMv]; omega
theorem mvs_get (l : List Mv) : ∀ (i : Nat) (h : i < l.length), (mvs l)[i * 3]? = some (.int .i64 l[i].which) ∧ (mvs l)[i * 3 + 1]? = some (.bool l[i].back) ∧ (mvs l)[i * 3 + 2]? = some (.int .i64 l[i].at_) := by
  induction l with
  | nil => intro i h; simp at h
  | cons m r ih =>
    intro i h
    cases i with
    | zero => simp [mvs, encMv]
    | succ i =>
      have hi : i < r.length := by simpa using h
      obtain ⟨h1, h2, h3⟩ := ih i hi
      have e : ∀ j, (mvs (m :: r))[(i + 1) * 3 + j]? = (mvs r)[i * 3 + j]? := by
        intro j
        have : (mvs (m :: r)) = encMv m ++ mvs r := by simp [mvs]
        rw [this, List.getElem?_append_right (by simp [encMv]; omega)]
        congr 1
        simp [encMv]; omega
      refine ⟨?_, ?_, ?_⟩
      · rw [show (i + 1) * 3 = (i + 1) * 3 + 0 by omega, e 0]; simpa using h1
      · rw [e 1]; simpa using h2
      · rw [e 2]; simpa using h3
theorem mvs_one (l : List Mv) : ∀ u ∈ mvs l, u.oneCell' = true := by
  intro u hu
  simp only [mvs, List.mem_flatMap] at hu
  obtain ⟨m, _, hm⟩ := hu
  simp [encMv] at hm
  rcases hm with rfl | rfl | rfl <;> rfl

def SlM (lo hi : Nat) (w : World) (v : Value) (l : List Mv) : Prop := Sl 3 lo hi w v l.length (mvs l)
def OwnM (lo hi e : Nat) (w : World) (v : Value) (l : List Mv) : Prop := Own 3 lo hi e w v l.length (mvs l)
theorem OwnM.sl {lo hi e : Nat} {w : World} {v : Value} {l : List Mv} (h : OwnM lo hi e w v l) : SlM lo hi w v l := Own.sl h
theorem OwnM.below {lo hi e B : Nat} {w w' : World} {v : Value} {xs : List Mv} (h : OwnM lo hi e w v xs) (hb : Below B w w') (hB : hi ≤ B) : OwnM lo hi e w' v xs := Own.below h hb hB
theorem OwnM.outside {lo hi lo' hi' e : Nat} {w w' : World} {v : Value} {xs : List Mv} (h : OwnM lo hi e w v xs) (hb : Outside lo' hi' w w') (hd : hi ≤ lo' ∨ hi' ≤ lo) : OwnM lo hi e w' v xs := Own.outside h hb hd
theorem SlM.below {lo hi B : Nat} {w w' : World} {v : Value} {xs : List Mv} (h : SlM lo hi w v xs) (hb : Below B w w') (hB : hi ≤ B) : SlM lo hi w' v xs := Sl.below h hb hB
theorem SlM.outside {lo hi lo' hi' : Nat} {w w' : World} {v : Value} {xs : List Mv} (h : SlM lo hi w v xs) (hb : Outside lo' hi' w w') (hd : hi ≤ lo' ∨ hi' ≤ lo) : SlM lo hi w' v xs := Sl.outside h hb hd
theorem SlM.wide {lo hi lo' hi' : Nat} {w : World} {v : Value} {xs : List Mv} (h : SlM lo hi w v xs) (h1 : lo' ≤ lo) (h2 : hi ≤ hi') : SlM lo' hi' w v xs := Sl.wide h h1 h2
theorem SlM.shape {lo hi : Nat} {w : World} {v : Value} {xs : List Mv} (h : SlM lo hi w v xs) : ∃ a cap, v = .slice a xs.length cap ∧ xs.length ≤ cap ∧ cap ≤ maxLen := Sl.shape h
theorem SlM.get {lo hi cap n : Nat} {w : World} {a : Option Addr} {l : List Mv} (h : SlM lo hi w (.slice a n cap) l) (i : Nat) (hi' : i < l.length) :
    ∃ b off, a = some ⟨b, off, none⟩ ∧ lo ≤ b ∧ b < hi ∧ b < w.heap.size ∧ w.cell? ⟨b, off + i * 3, none⟩ = some (.int .i64 l[i].which) ∧ w.cell? ⟨b, off + i * 3 + 1, none⟩ = some (.bool l[i].back) ∧
      w.cell? ⟨b, off + i * 3 + 2, none⟩ = some (.int .i64 l[i].at_) := by
  obtain ⟨a', cap', e, _, _, _, _, hc⟩ := h
  injection e with e1 _ _
  subst e1
  obtain ⟨g1, g2, g3⟩ := mvs_get l i hi'
  have hl := mvs_length l
  obtain ⟨b, off, e, h1, h2, h3, h4⟩ := hc (i * 3) (by omega)
  obtain ⟨b', off', e', _, _, _, h5⟩ := hc (i * 3 + 1) (by omega)
  obtain ⟨b'', off'', e'', _, _, _, h6⟩ := hc (i * 3 + 2) (by omega)
  rw [e] at e' e''
  injection e' with e'; injection e' with e1 e2; subst e1 e2
  injection e'' with e''; injection e'' with e1 e2; subst e1 e2
  exact ⟨b, off, e, h1, h2, h3, by rw [h4, g1], by rw [Nat.add_assoc, h5, g2], by rw [Nat.add_assoc, h6, g3]⟩
end Go.Proofs.YtjpndimhegfbnaaGreatDoor
