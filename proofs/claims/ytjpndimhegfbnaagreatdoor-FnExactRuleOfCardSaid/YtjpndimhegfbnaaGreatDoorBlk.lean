/-
  Texts of walks and plain lemmas for this seat; no condition.
-/
import Derived.Test.YtjpndimhegfbnaaGreatDoorBase
namespace Go.Proofs.YtjpndimhegfbnaaGreatDoor
open Go.RowKit

theorem Below.from_alloc {w w' : World} {o : Obj} (h : Below (w.alloc o).heap.size (w.alloc o) w') : Below w.heap.size w w' :=
  ((Below.refl _ _).alloc (Nat.le_refl _) _).trans (h.mono (by simp))
theorem alloc_size (w : World) (o : Obj) : (w.alloc o).heap.size = w.heap.size + 1 := by simp

/-- Block g holds o. -/
def Blk (g : Nat) (o : Obj) (w : World) : Prop := w.heap[g]? = some o
theorem Blk.new (w : World) (o : Obj) : Blk w.heap.size o (w.alloc o) := heap_alloc_new w o
theorem Blk.lt {g : Nat} {o : Obj} {w : World} (h : Blk g o w) : g < w.heap.size := (Array.getElem?_eq_some_iff.1 h).1
theorem Blk.below {g B : Nat} {o : Obj} {w w' : World} (h : Blk g o w) (hb : Below B w w') (hB : g < B) : Blk g o w' := (hb.block g hB).trans h
theorem Blk.outside {g lo hi : Nat} {o : Obj} {w w' : World} (h : Blk g o w) (hb : Outside lo hi w w') (hd : g < lo ∨ hi ≤ g) : Blk g o w' := (hb.block g h.lt (by omega)).trans h
theorem Blk.cell {g : Nat} {cs : Array Value} {e : TypeId} {f : Nat × Nat} {w : World} (h : Blk g (.cells cs e f) w) (j : Nat) : w.cell? ⟨g, j, none⟩ = cs[j]? := by
  simp only [World.cell?, show w.heap[g]? = _ from h]; rfl
theorem Blk.free {g : Nat} {cs : Array Value} {e : TypeId} {w : World} (h : Blk g (.cells cs e (0, 0)) w) (j : Nat) : w.frozen? ⟨g, j, none⟩ = false := by
  simp [World.frozen?, show w.heap[g]? = _ from h]
end Go.Proofs.YtjpndimhegfbnaaGreatDoor
