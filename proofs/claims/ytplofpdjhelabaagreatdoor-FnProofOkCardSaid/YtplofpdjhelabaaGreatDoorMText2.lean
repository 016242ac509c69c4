/-
  Texts of walks and plain lemmas for this seat; no condition.
-/
import Derived.Test.YtplofpdjhelabaaGreatDoorMText
import Derived.Test.YtplofpdjhelabaaGreatDoorGA
import Derived.Deep.RegionHeld3
namespace Go.Proofs.YtplofpdjhelabaaGreatDoor
open Go.RowKit

theorem ofNat_cast (a : Nat) : UInt8.ofNat ((48 : Int) + (a : Int)).toNat = UInt8.ofNat (48 + a) := by
  congr 1

/-- What a move's box keeps while a text is made. -/
def MvS (w : World) (p q : Int) (w' : World) : Prop := w'.cell? ⟨w.heap.size, 0, none⟩ = some (.int .i64 p) ∧ w'.cell? ⟨w.heap.size, 2, none⟩ = some (.int .i64 q) ∧ w.heap.size < w'.heap.size ∧ Below w.heap.size w w'
theorem MvS.start (w : World) (p q : Int) (b : Bool) (e : TypeId) : MvS w p q (w.alloc (.cells #[.int .i64 p, .bool b, .int .i64 q] e)).drew := by
  refine ⟨?_, ?_, ?_, ((Below.refl _ _).alloc (Nat.le_refl _) _).drew⟩
  · exact (Blk.new w _).cell 0
  · exact (Blk.new w _).cell 2
  · simp
theorem MvS.step {w x w1 : World} {p q : Int} (h : x.cell? ⟨w.heap.size, 0, none⟩ = some (.int .i64 p) ∧ x.cell? ⟨w.heap.size, 2, none⟩ = some (.int .i64 q) ∧ w.heap.size < x.heap.size ∧ Below w.heap.size w x) (hb : Below x.heap.size x w1) : MvS w p q w1 :=
  ⟨(hb.cell h.2.2.1).trans h.1, (hb.cell h.2.2.1).trans h.2.1, Nat.lt_of_lt_of_le h.2.2.1 hb.size, h.2.2.2.trans (hb.mono (Nat.le_of_lt h.2.2.1))⟩

theorem MvS.bel {w x : World} {p q : Int} (h : x.cell? ⟨w.heap.size, 0, none⟩ = some (.int .i64 p) ∧ x.cell? ⟨w.heap.size, 2, none⟩ = some (.int .i64 q) ∧ w.heap.size < x.heap.size ∧ Below w.heap.size w x) : Below w.heap.size w x := h.2.2.2
end Go.Proofs.YtplofpdjhelabaaGreatDoor
