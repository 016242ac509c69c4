/-
  Texts of walks and plain lemmas for this seat; no condition.
-/
import Derived.Test.YtjpndimhegfbnaaGreatDoorOpMvS
import Derived.Test.YtjpndimhegfbnaaGreatDoorGA
import Derived.Test.YtjpndimhegfbnaaGreatDoorGG
import Derived.Deep.Strs
import Derived.Lib.SmallJoins
import Derived.Deep.Slices
namespace Go.Proofs.YtjpndimhegfbnaaGreatDoor
open Go.RowKit

open Go.WideShapes Go.ChangeShapes in
theorem ints_of_cells {H : Type} {enc : TypeId × Value → H} {w : World} {base fuel : Nat} {held : Bool} {v : Value} {x : DataW H × List MemPlace}
    (hf : DataW.trod enc Tryz.prog w base (fun _ => true) held fuel 22 [v] = some x) : ∃ xs, SlI 0 w.heap.size w v xs := by
  rcases Go.ChangeShapes.open_ints Tryz.underlying22 Tryz.underlying3 (by kernel_rfl) hf with ⟨hcs, _⟩ | ⟨a, l, c, zs, hcs, _, hl, hm, hz, _, hcell, hwz⟩
  · simp at hcs
    subst hcs
    exact IsRow.ints (zs := []) (.inl ⟨rfl, rfl, rfl, rfl⟩)
  · simp at hcs
    subst hcs
    exact IsRow.ints (zs := zs) (.inr ⟨_, rfl, hl, hm, by simpa using hz, hcell, hwz⟩)
set_option maxRecDepth 100000 in
open Go.WideShapes Go.ChangeShapes in
theorem moves_of_cells {H : Type} {enc : TypeId × Value → H} {w : World} {base fuel : Nat} {spare : Nat → Bool} {held : Bool} {v : Value} {x : DataW H × List MemPlace}
    (hf : DataW.trod enc Tryz.prog w base spare held fuel 47 [v] = some x) : ∃ xs, SlM 0 w.heap.size w v xs := by
  have hs : ∃ a len cap, v = .slice a len cap := by
    rcases Go.Deep.open_slice Tryz.underlying47 hf with ⟨hcs, _⟩ | ⟨x, l, c, m, n, D, Pl, hcs, _⟩
    · simp at hcs
      exact ⟨_, _, _, hcs⟩
    · simp at hcs
      exact ⟨_, _, _, hcs⟩
  obtain ⟨a, len, cap, rfl⟩ := hs
  exact moves_of_trod (d := x.1) (p := x.2) ⟨fuel, hf⟩

set_option maxRecDepth 100000 in
open Go.WideShapes Go.ChangeShapes in
theorem open_desk {H : Type} {enc : TypeId × Value → H} {w : World} {base : Nat} {held : Bool} {r : Reach} {b0 : Nat} {v : Value} {d : DataW H} {p : List MemPlace}
    (hv : Value.okWide Tryz.prog w r b0 59 v) (h : DataW.Trod enc Tryz.prog w base (fun _ => true) held 59 v d p) :
    ∃ a b c d' D, v = aggD a b c d' ∧ DeskAt 0 w.heap.size w a b c d' D := by
  obtain ⟨cs, rfl, hsz⟩ := okWide_struct Tryz.underlying59 hv
  have hs : cs.size = 4 := hsz.trans (by kernel_rfl)
  obtain ⟨fuel, hf⟩ := h
  obtain ⟨c0, c1, c2, c3, hcs⟩ : ∃ c0 c1 c2 c3, cs = #[c0, c1, c2, c3] := by
    obtain ⟨l⟩ := cs
    match l, hs with
    | [a, b, c, d], _ => exact ⟨a, b, c, d, rfl⟩
  subst hcs
  have hf' : DataW.trod enc Tryz.prog w base (fun _ => true) held fuel 59 [c0, c1, c2, c3] = some (d, p) := hf
  obtain ⟨y0, y1, y2, y3, n, _, _, h0, h1, h2, h3⟩ := Go.Joins.trod_struct4 Tryz.underlying59 hf'
  rw [show Tryz.prog.cellsOf 22 = 1 by kernel_rfl] at h0 h1 h3
  rw [show Tryz.prog.cellsOf 47 = 1 by kernel_rfl] at h2
  simp only [List.drop, List.take] at h0 h1 h2 h3
  obtain ⟨x0, s0⟩ := ints_of_cells h0
  obtain ⟨x1, s1⟩ := ints_of_cells h1
  obtain ⟨x2, s2⟩ := moves_of_cells h2
  obtain ⟨x3, s3⟩ := ints_of_cells h3
  exact ⟨c0, c1, c2, c3, ⟨x0, x1, x2, x3⟩, rfl, s0, s1, s2, s3⟩
end Go.Proofs.YtjpndimhegfbnaaGreatDoor
