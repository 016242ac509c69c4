/-
  Texts of walks and plain lemmas for this seat; no condition.
-/
import Derived.Test.YtoondakdjhhehaaDoorGQ
import Derived.Test.YtoondakdjhhehaaDoorGA
import Derived.Test.YtoondakdjhhehaaDoorOpInts
import Derived.Deep.Strs
import Derived.Lib.SmallJoins
import Derived.Deep.Slices
namespace Go.Proofs.YtoondakdjhhehaaDoor
open Go.RowKit

open Go.WideShapes Go.ChangeShapes in
/-- A row of rows, out of its cells' reading. -/
theorem intss_of_trod {H : Type} {enc : TypeId × Value → H} {w : World} {base : Nat} {held : Bool} {a : Option Addr} {len cap : Nat} {d : DataW H} {p : List MemPlace}
    (h : DataW.Trod enc Tryd.prog w base (fun _ => true) held 23 (.slice a len cap) d p) : ∃ xss, SlLL 0 w.heap.size w (.slice a len cap) xss := by
  obtain ⟨fuel, hf⟩ := h
  rcases Go.Deep.open_slice Tryd.underlying23 hf with ⟨hcs, _⟩ | ⟨x, l, c, m, n, D, Pl, hcs, _, hl, hm, hmm, _, hx⟩
  · simp [Value.cells] at hcs
    obtain ⟨rfl, rfl, rfl⟩ := hcs
    exact ⟨[], none, 0, rfl, Nat.le_refl _, by simp [maxLen], fun i hi => by simp at hi⟩
  · simp [Value.cells] at hcs
    obtain ⟨rfl, rfl, rfl⟩ := hcs
    rw [show Tryd.prog.cellsOf 43 = 1 by kernel_rfl] at hx
    have hlm : len ≤ m := by rw [hmm]; split <;> omega
    have each : ∀ i, i < len → ∃ q : Value × List Int, w.cell? (x.add i) = some q.1 ∧ SlI 0 w.heap.size w q.1 q.2 := by
      intro i hi
      obtain ⟨cs', h1, h2⟩ := hx i (by omega)
      obtain ⟨_, hlen, hcell⟩ := World.cells?_some h1
      obtain ⟨u, rfl⟩ : ∃ u, cs' = [u] := by
        match cs', hlen with
        | [u], _ => exact ⟨u, rfl⟩
      obtain ⟨xs, hxs⟩ := ints_of_cells h2
      refine ⟨(u, xs), ?_, hxs⟩
      have := hcell 0 (by omega)
      rw [Nat.mul_one] at this
      rw [show (x.add i).add 0 = x.add i by simp [Addr.add]] at this
      exact this
    obtain ⟨q, hq⟩ := Go.Deep.choose_lt each
    have hlen : ((List.range len).map fun i => (q i).2).length = len := by simp
    refine ⟨(List.range len).map fun i => (q i).2, some x, cap, by rw [hlen], by omega, hm, fun i hi => ?_⟩
    rw [hlen] at hi
    obtain ⟨h0, h1⟩ := hq i hi
    have h00 := (hq 0 (by omega)).1
    rw [show x.add 0 = x by simp [Addr.add]] at h00
    have hs := cell_spot h00
    obtain ⟨b, off, sp⟩ := x
    have hsp : sp = none := hs
    subst hsp
    rw [Addr.add_lit] at h0
    have hb : b < w.heap.size := World.block_lt_of_cell? w _ h0
    refine ⟨b, off, (q i).1, rfl, Nat.zero_le _, hb, hb, h0, ?_⟩
    simpa using h1
set_option maxRecDepth 100000 in
open Go.WideShapes Go.ChangeShapes in
theorem open_model {H : Type} {enc : TypeId × Value → H} {w : World} {base : Nat} {held : Bool} {r : Reach} {b0 : Nat} {v : Value} {d : DataW H} {p : List MemPlace}
    (hv : Value.okWide Tryd.prog w r b0 42 v) (h : DataW.Trod enc Tryd.prog w base (fun _ => true) held 42 v d p) :
    ∃ M va, v = aggMo M va ∧ SlLL 0 w.heap.size w va M.acts := by
  obtain ⟨cs, rfl, hsz⟩ := okWide_struct Tryd.underlying42 hv
  have hs : cs.size = 4 := hsz.trans (by kernel_rfl)
  obtain ⟨fuel, hf⟩ := h
  obtain ⟨c0, c1, c2, c3, hcs⟩ : ∃ c0 c1 c2 c3, cs = #[c0, c1, c2, c3] := by
    obtain ⟨l⟩ := cs
    match l, hs with
    | [a, b, c, d], _ => exact ⟨a, b, c, d, rfl⟩
  subst hcs
  have hf' : DataW.trod enc Tryd.prog w base (fun _ => true) held fuel 42 [c0, c1, c2, c3] = some (d, p) := hf
  obtain ⟨y0, y1, y2, y3, n, _, _, h0, h1, h2, h3⟩ := Go.Joins.trod_struct4 Tryd.underlying42 hf'
  rw [show Tryd.prog.cellsOf 3 = 1 by kernel_rfl] at h0 h1 h2
  rw [show Tryd.prog.cellsOf 23 = 1 by kernel_rfl] at h3
  simp only [List.drop, List.take] at h0 h1 h2 h3
  obtain ⟨n0, e0, _⟩ := DataW.trod_int Tryd.underlying3 h0
  obtain ⟨n1, e1, _⟩ := DataW.trod_int Tryd.underlying3 h1
  obtain ⟨n2, e2, _⟩ := DataW.trod_int Tryd.underlying3 h2
  simp only [List.cons.injEq, and_true] at e0 e1 e2
  subst e0 e1 e2
  have hsl : ∃ a len cap, c3 = .slice a len cap := by
    rcases Go.Deep.open_slice Tryd.underlying23 h3 with ⟨hcs, _⟩ | ⟨x, l, c, m, n, D, Pl, hcs, _⟩
    · simp at hcs
      exact ⟨_, _, _, hcs⟩
    · simp at hcs
      exact ⟨_, _, _, hcs⟩
  obtain ⟨a, len, cap, rfl⟩ := hsl
  obtain ⟨xss, hx⟩ := intss_of_trod (d := y3.1) (p := y3.2) ⟨_, h3⟩
  exact ⟨⟨n0, n1, n2, xss⟩, _, rfl, hx⟩
end Go.Proofs.YtoondakdjhhehaaDoor
