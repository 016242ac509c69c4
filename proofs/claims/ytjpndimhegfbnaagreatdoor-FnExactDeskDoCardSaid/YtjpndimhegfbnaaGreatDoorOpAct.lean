/-
  Texts of walks and plain lemmas for this seat; no condition.
-/
import Derived.Test.YtjpndimhegfbnaaGreatDoorAct
import Derived.Test.YtjpndimhegfbnaaGreatDoorGA
import Derived.Test.YtjpndimhegfbnaaGreatDoorRows
import Derived.Deep.Strs
import Derived.Lib.SmallJoins
namespace Go.Proofs.YtjpndimhegfbnaaGreatDoor
open Go.RowKit

set_option maxRecDepth 100000 in
open Go.WideShapes Go.ChangeShapes in
theorem act_of_cells {H : Type} {enc : TypeId × Value → H} {w : World} {base : Nat} {spare : Nat → Bool} {held : Bool} {fuel : Nat} {cs : List Value} {x : DataW H × List MemPlace}
    (hs : cs.length = 5) (hf : DataW.trod enc Tryz.prog w base spare held fuel 70 cs = some x) : ∃ a : Ac, cs = encAc a := by
  obtain ⟨c0, c1, c2, c3, c4, rfl⟩ : ∃ c0 c1 c2 c3 c4, cs = [c0, c1, c2, c3, c4] := by
    match cs, hs with
    | [a, b, c, d, e], _ => exact ⟨a, b, c, d, e, rfl⟩
  obtain ⟨y0, y1, y2, n, hx, _, h0, h1, h2⟩ := Go.Deep.trod_struct3 Tryz.underlying70 hf
  rw [show Tryz.prog.cellsOf 3 = 1 by kernel_rfl] at h0 h2
  rw [show Tryz.prog.cellsOf 64 = 3 by kernel_rfl] at h1
  simp only [List.drop, List.take] at h0 h1 h2
  obtain ⟨z0, z1, z2, m, hz, _, g0, g1, g2⟩ := Go.Deep.trod_struct3 Tryz.underlying64 h1
  rw [show Tryz.prog.cellsOf 3 = 1 by kernel_rfl] at g0 g2
  rw [show Tryz.prog.cellsOf 4 = 1 by kernel_rfl] at g1
  simp only [List.drop, List.take] at g0 g1 g2
  obtain ⟨n0, e0, _⟩ := DataW.trod_int Tryz.underlying3 h0
  obtain ⟨n4, e4, _⟩ := DataW.trod_int Tryz.underlying3 h2
  obtain ⟨n1, e1, _⟩ := DataW.trod_int Tryz.underlying3 g0
  obtain ⟨n2, e2, _⟩ := DataW.trod_bool Tryz.underlying4 g1
  obtain ⟨n3, e3, _⟩ := DataW.trod_int Tryz.underlying3 g2
  simp only [List.cons.injEq, and_true] at e0 e1 e2 e3 e4
  subst e0 e1 e2 e3 e4
  exact ⟨⟨n0, ⟨n1, n2, n3⟩, n4⟩, rfl⟩

set_option maxRecDepth 100000 in
open Go.WideShapes Go.ChangeShapes in
theorem open_act {H : Type} {enc : TypeId × Value → H} {w : World} {base : Nat} {spare : Nat → Bool} {held : Bool} {r : Reach} {b0 : Nat} {v : Value} {d : DataW H} {p : List MemPlace}
    (hv : Value.okWide Tryz.prog w r b0 70 v) (h : DataW.Trod enc Tryz.prog w base spare held 70 v d p) :
    ∃ a : Ac, v = .agg #[.int .i64 a.kind, .int .i64 a.step.which, .bool a.step.back, .int .i64 a.step.at_, .int .i64 a.count] := by
  obtain ⟨cs, rfl, hsz⟩ := okWide_struct Tryz.underlying70 hv
  have hs : cs.size = 5 := hsz.trans (by kernel_rfl)
  obtain ⟨fuel, hf⟩ := h
  obtain ⟨a, ha⟩ := act_of_cells (cs := cs.toList) (by simpa using hs) hf
  refine ⟨a, ?_⟩
  have : cs = (encAc a).toArray := by rw [← ha]
  rw [this]; rfl
end Go.Proofs.YtjpndimhegfbnaaGreatDoor
