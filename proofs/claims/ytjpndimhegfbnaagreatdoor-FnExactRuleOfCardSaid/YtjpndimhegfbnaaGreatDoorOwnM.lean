/-
  Texts of walks and plain lemmas for this seat; no condition.
-/
import Derived.Test.YtjpndimhegfbnaaGreatDoorApp
namespace Go.Proofs.YtjpndimhegfbnaaGreatDoor
open Go.RowKit

/-- A fresh list of one number. -/
theorem one_own (x : Int) (w : World) : OwnI w.heap.size (w.alloc (.cells #[.int .i64 x] 3)).heap.size 3 (w.alloc (.cells #[.int .i64 x] 3)) (.slice (some ⟨w.heap.size, 0, none⟩) 1 1) [x] :=
  Own.wide (Own.lit 1 3 w (ints [x]) 1 (by omega) rfl) (by simp)
theorem OwnI.lower {lo lo' hi hi' e : Nat} {w : World} {v : Value} {xs : List Int} (h : OwnI lo hi e w v xs) (h1 : lo' ≤ lo) (h2 : hi ≤ hi') : OwnI lo' hi' e w v xs := Own.wide2 h h1 h2
theorem OwnI.len {lo hi e n : Nat} {w : World} {v : Value} {xs : List Int} (h : Own 1 lo hi e w v n (ints xs)) (hn : n = xs.length) : OwnI lo hi e w v xs := by subst hn; exact h
theorem OwnI.app {lo hi e n cap : Nat} {w : World} {a : Option Addr} {xs ys : List Int} (h : Own 1 lo hi e w (.slice a n cap) n (ints xs ++ ints ys)) (hn : n = xs.length + ys.length) : OwnI lo hi e w (.slice a (xs ++ ys).length cap) (xs ++ ys) := by
  subst hn
  unfold OwnI
  rw [List.length_append, ints_append]
  exact h
theorem OwnI.wide2' {lo hi hi' e : Nat} {w : World} {v : Value} {xs : List Int} (h : OwnI lo hi e w v xs) (hh : hi ≤ hi') : OwnI lo hi' e w v xs := Own.wide h hh
theorem OwnI.wide2 {lo lo' hi hi' e : Nat} {w : World} {v : Value} {xs : List Int} (h : OwnI lo hi e w v xs) (hl : lo' ≤ lo) (hh : hi ≤ hi') : OwnI lo' hi' e w v xs := Own.wide2 h hl hh
theorem one_own' (x : Int) (w : World) : OwnI w.heap.size (w.heap.size + 1) 3 (w.alloc (.cells #[.int .i64 x] 3)) (.slice (some ⟨w.heap.size, 0, none⟩) 1 1) [x] :=
  Own.lit 1 3 w (ints [x]) 1 (by omega) rfl
end Go.Proofs.YtjpndimhegfbnaaGreatDoor
