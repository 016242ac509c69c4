/-
  Texts of walks and plain lemmas for this seat; no condition.
-/
import Derived.Test.YtjpndimhegfbnaaGreatDoorGA
import Derived.Test.YtjpndimhegfbnaaGreatDoorRows
import Derived.Deep.Strs
import Derived.Lib.SmallJoins
import Derived.Deep.Slices
namespace Go.Proofs.YtjpndimhegfbnaaGreatDoor
open Go.RowKit

instance : Inhabited Mv := ⟨⟨0, false, 0⟩⟩
open Go.WideShapes Go.ChangeShapes in
theorem mv_of_cells {H : Type} {enc : TypeId × Value → H} {w : World} {base : Nat} {spare : Nat → Bool} {held : Bool} {fuel : Nat} {cs : List Value} {x : DataW H × List MemPlace}
    (hs : cs.length = 3) (hf : DataW.trod enc Tryz.prog w base spare held fuel 64 cs = some x) : ∃ m : Mv, cs = encMv m := by
  obtain ⟨c0, c1, c2, rfl⟩ : ∃ c0 c1 c2, cs = [c0, c1, c2] := by
    match cs, hs with
    | [a, b, c], _ => exact ⟨a, b, c, rfl⟩
  obtain ⟨z0, z1, z2, m, hz, _, g0, g1, g2⟩ := Go.Deep.trod_struct3 Tryz.underlying64 hf
  rw [show Tryz.prog.cellsOf 3 = 1 by kernel_rfl] at g0 g2
  rw [show Tryz.prog.cellsOf 4 = 1 by kernel_rfl] at g1
  simp only [List.drop, List.take] at g0 g1 g2
  obtain ⟨n1, e1, _⟩ := DataW.trod_int Tryz.underlying3 g0
  obtain ⟨n2, e2, _⟩ := DataW.trod_bool Tryz.underlying4 g1
  obtain ⟨n3, e3, _⟩ := DataW.trod_int Tryz.underlying3 g2
  simp only [List.cons.injEq, and_true] at e1 e2 e3
  subst e1 e2 e3
  exact ⟨⟨n1, n2, n3⟩, rfl⟩
theorem mvs_at (l : List Mv) (q j : Nat) (hq : q < l.length) (hj : j < 3) : (mvs l)[q * 3 + j]? = (encMv l[q])[j]? := by
  obtain ⟨g0, g1, g2⟩ := mvs_get l q hq
  match j, hj with
  | 0, _ => simpa [encMv] using g0
  | 1, _ => simpa [encMv] using g1
  | 2, _ => simpa [encMv] using g2

open Go.WideShapes Go.ChangeShapes in
/-- A row of moves, out of its cells' reading. -/
theorem moves_of_trod {H : Type} {enc : TypeId × Value → H} {w : World} {base : Nat} {spare : Nat → Bool} {held : Bool} {a : Option Addr} {len cap : Nat} {d : DataW H} {p : List MemPlace}
    (h : DataW.Trod enc Tryz.prog w base spare held 47 (.slice a len cap) d p) : ∃ xs, SlM 0 w.heap.size w (.slice a len cap) xs := by
  obtain ⟨fuel, hf⟩ := h
  rcases Go.Deep.open_slice Tryz.underlying47 hf with ⟨hcs, _⟩ | ⟨x, l, c, m, n, D, Pl, hcs, _, hl, hm, hmm, _, hx⟩
  · simp [Value.cells] at hcs
    obtain ⟨rfl, rfl, rfl⟩ := hcs
    exact ⟨[], none, 0, rfl, Nat.le_refl _, by simp [maxLen], rfl, fun _ => rfl, fun i hi => by simp [mvs] at hi⟩
  · simp [Value.cells] at hcs
    obtain ⟨rfl, rfl, rfl⟩ := hcs
    rw [show Tryz.prog.cellsOf 64 = 3 by kernel_rfl] at hx
    have hlm : len ≤ m := by rw [hmm]; split <;> omega
    have each : ∀ i, i < len → ∃ q : Mv, ∀ j, j < 3 → w.cell? ((x.add (i * 3)).add j) = (encMv q)[j]? := by
      intro i hi
      obtain ⟨cs', h1, h2⟩ := hx i (by omega)
      obtain ⟨_, hlen, hcell⟩ := World.cells?_some h1
      obtain ⟨q, hq⟩ := mv_of_cells hlen h2
      refine ⟨q, fun j hj => ?_⟩
      have := hcell j hj
      rw [this, ← hq]
    obtain ⟨q, hq⟩ := Go.Deep.choose_lt each
    have hlen : ((List.range len).map q).length = len := by simp
    refine ⟨(List.range len).map q, some x, cap, by rw [hlen], by omega, hm, mvs_length _, (by intro h; cases h), fun i hi => ?_⟩
    rw [mvs_length, hlen] at hi
    have h0 := hq 0 (by omega) 0 (by omega)
    have hs := cell_spot (v := .int .i64 (q 0).which) (by rw [h0]; rfl)
    obtain ⟨b, off, sp⟩ := x
    have hsp : sp = none := by
      have : ((⟨b, off, sp⟩ : Addr).add (0 * 3)).add 0 = ⟨b, off, sp⟩ := by simp [Addr.add]
      rw [this] at hs
      exact hs
    subst hsp
    have hb : b < w.heap.size := World.block_lt_of_cell? w (u := .int .i64 (q 0).which) _ (by rw [h0]; rfl)
    refine ⟨b, off, rfl, Nat.zero_le _, hb, hb, ?_⟩
    have hi' := hq (i / 3) (by omega) (i % 3) (by omega)
    have ha := mvs_at ((List.range len).map q) (i / 3) (i % 3) (by rw [hlen]; omega) (by omega)
    rw [show i / 3 * 3 + i % 3 = i by omega] at ha
    rw [ha]
    simp only [List.getElem_map, List.getElem_range]
    rw [← hi', Addr.add_lit, Addr.add_lit]
    congr 2; omega
set_option maxRecDepth 100000 in
open Go.WideShapes Go.ChangeShapes in
theorem open_moves {H : Type} {enc : TypeId × Value → H} {w : World} {base : Nat} {spare : Nat → Bool} {held : Bool} {r : Reach} {b0 : Nat} {v : Value} {d : DataW H} {p : List MemPlace}
    (hv : Value.okWide Tryz.prog w r b0 47 v) (h : DataW.Trod enc Tryz.prog w base spare held 47 v d p) :
    ∃ xs, SlM 0 w.heap.size w v xs := by
  obtain ⟨a, len, cap, rfl⟩ := okWide_slice Tryz.underlying47 hv
  exact moves_of_trod h
end Go.Proofs.YtjpndimhegfbnaaGreatDoor
