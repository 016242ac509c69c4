/-
  Texts of walks and plain lemmas for this seat; no condition.
-/
import Derived.Test.YtoondakdjhhehaaGB
import Derived.Test.YtoondakdjhhehaaGG
import Derived.Test.YtoondakdjhhehaaGI
namespace Go.Proofs.Ytoondakdjhhehaa
open Go.RowKit
section

def RetD (P : Value → Value → Value → Value → World → Prop) (e : Ending) (w' : World) : Prop := ∃ a b c d, e = .returned (aggD a b c d) ∧ P a b c d w'
theorem RetD.mk {P : Value → Value → Value → Value → World → Prop} {e : Ending} {w' : World} (a b c d : Value) (h : e = .returned (aggD a b c d)) (hp : P a b c d w') : RetD P e w' := ⟨a, b, c, d, h, hp⟩

def Dsk.none : Dsk := ⟨[], [], [], []⟩
def deskNew (xs ys : List Int) : Dsk := if katV xs && katV ys then ⟨xs, ys, [], xs⟩ else Dsk.none

end

section
end

section

/-- A desk that follows from its moves. -/
def deskV (D : Dsk) : Bool := match proofV D.first D.made with | some x => katV D.goal && eqL x D.now | none => false

end

section

theorem box_facts {w w0 : World} {o : Obj} (h : w0 = w.alloc o) : Below w.heap.size w w0 ∧ Blk w.heap.size o w0 ∧ w.heap.size + 1 ≤ w0.heap.size := by
  subst h
  exact ⟨(Below.refl _ _).alloc (Nat.le_refl _) _, Blk.new w o, by simp⟩
theorem DeskAt.shapes {lo hi : Nat} {w : World} {a b c d : Value} {D : Dsk} (h : DeskAt lo hi w a b c d D) :
    ∃ a1 a2 b1 b2 c1 c2 d1 d2, a = .slice a1 D.first.length a2 ∧ b = .slice b1 D.goal.length b2 ∧ c = .slice c1 D.made.length c2 ∧ d = .slice d1 D.now.length d2 ∧ D.first.length ≤ 9223372036854775807 ∧ D.goal.length ≤ 9223372036854775807 ∧ D.made.length ≤ 9223372036854775807 ∧ D.now.length ≤ 9223372036854775807 := by
  obtain ⟨a1, a2, ha, ha1, ha2⟩ := Sl.shape h.first
  obtain ⟨b1, b2, hb, hb1, hb2⟩ := Sl.shape h.goal
  obtain ⟨c1, c2, hc, hc1, hc2⟩ := h.made.shape
  obtain ⟨d1, d2, hd, hd1, hd2⟩ := Sl.shape h.now
  unfold maxLen at ha2 hb2 hc2 hd2
  exact ⟨a1, a2, b1, b2, c1, c2, d1, d2, ha, hb, hc, hd, by omega, by omega, by omega, by omega⟩

end
end Go.Proofs.Ytoondakdjhhehaa
