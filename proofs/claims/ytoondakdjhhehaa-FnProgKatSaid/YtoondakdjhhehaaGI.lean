/-
  Texts of walks and plain lemmas for this seat; no condition.
-/
import Derived.Test.YtoondakdjhhehaaGF
import Derived.Test.YtoondakdjhhehaaGH
import Derived.Test.YtoondakdjhhehaaGA
import Derived.Test.YtoondakdjhhehaaGD
namespace Go.Proofs.Ytoondakdjhhehaa
open Go.RowKit
section

theorem runM_step {x : List Int} {ms : List Mv} (k : Nat) (h : k < ms.length) : runM x (ms.drop k) = (moveV x ms[k]).bind fun y => runM y (ms.drop (k + 1)) := by
  rw [List.drop_eq_getElem_cons h, runM]
theorem runM_end {x : List Int} {ms : List Mv} (k : Nat) (h : ms.length ≤ k) : runM x (ms.drop k) = some x := by
  rw [List.drop_of_length_le h, runM]
theorem Blk.set3 {g : Nat} {e : TypeId} {w : World} {x0 x1 x2 : Value} (h : Blk g (.cells #[x0, x1, x2] e (0, 0)) w) (a b c : Value) :
    Blk g (.cells #[a, b, c] e (0, 0)) (((w.setCell ⟨g, 0, none⟩ a).setCell ⟨g, 1, none⟩ b).setCell ⟨g, 2, none⟩ c) := by
  have h' : w.heap[g]? = _ := h
  show (((w.setCell ⟨g, 0, none⟩ a).setCell ⟨g, 1, none⟩ b).setCell ⟨g, 2, none⟩ c).heap[g]? = _
  simp [World.setCell, Array.getElem?_modify, h']
theorem Outside.set3 (g : Nat) (w : World) (a b c : Value) : Outside g (g + 1) w (((w.setCell ⟨g, 0, none⟩ a).setCell ⟨g, 1, none⟩ b).setCell ⟨g, 2, none⟩ c) :=
  (((Outside.refl _ _ _).setCell (p := ⟨g, 0, none⟩) (Nat.le_refl _) (Nat.lt_succ_self _) _).setCell (p := ⟨g, 1, none⟩) (Nat.le_refl _) (Nat.lt_succ_self _) _).setCell (p := ⟨g, 2, none⟩) (Nat.le_refl _) (Nat.lt_succ_self _) _
theorem MoveR.nil {w w' : World} (hb : Below w.heap.size w w') : MoveR w none (.slice none 0 0) false w' := ⟨hb, rfl, Own.nil _ _ _ _ _⟩

end

section

theorem hxa_of {lo hi : Nat} {w : World} {v : Value} {xs : List Int} (h : SlI lo hi w v xs) (o : Obj) : SlI lo hi (w.alloc o) v xs := by
  obtain ⟨a, cap, h1, h2, h3, h4, h5, h6⟩ := h
  refine ⟨a, cap, h1, h2, h3, h4, h5, fun i hi' => ?_⟩
  obtain ⟨b, off, e, e1, e2, e3, e4⟩ := h6 i hi'
  exact ⟨b, off, e, e1, e2, by simp; omega, by rw [World.cell?_alloc_lt _ _ ⟨b, off + i, none⟩ e3]; exact e4⟩

/-- ProofOk: whether moves lead from one to the other. -/
def okV (e f : List Int) (ms : List Mv) : Bool := match proofV e ms with | some x => eqL x f | none => false

end
end Go.Proofs.Ytoondakdjhhehaa
