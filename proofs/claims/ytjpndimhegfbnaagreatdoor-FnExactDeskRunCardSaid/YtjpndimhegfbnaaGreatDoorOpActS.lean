/-
  Texts of walks and plain lemmas for this seat; no condition.
-/
import Derived.Test.YtjpndimhegfbnaaGreatDoorOpAct
import Derived.Test.YtjpndimhegfbnaaGreatDoorAcs
import Derived.Deep.Slices
namespace Go.Proofs.YtjpndimhegfbnaaGreatDoor
open Go.RowKit

instance : Inhabited Ac := ⟨⟨0, ⟨0, false, 0⟩, 0⟩⟩
theorem acs_at (l : List Ac) (q j : Nat) (hq : q < l.length) (hj : j < 5) : (acs l)[q * 5 + j]? = (encAc l[q])[j]? := by
  obtain ⟨g0, g1, g2, g3, g4⟩ := acs_get l q hq
  match j, hj with
  | 0, _ => simpa [encAc] using g0
  | 1, _ => simpa [encAc] using g1
  | 2, _ => simpa [encAc] using g2
  | 3, _ => simpa [encAc] using g3
  | 4, _ => simpa [encAc] using g4

set_option maxRecDepth 100000 in
open Go.WideShapes Go.ChangeShapes in
theorem open_acts {H : Type} {enc : TypeId × Value → H} {w : World} {base : Nat} {spare : Nat → Bool} {held : Bool} {r : Reach} {b0 : Nat} {v : Value} {d : DataW H} {p : List MemPlace}
    (hv : Value.okWide Tryz.prog w r b0 78 v) (h : DataW.Trod enc Tryz.prog w base spare held 78 v d p) :
    ∃ xs, SlA 0 w.heap.size w v xs := by
  obtain ⟨a, len, cap, rfl⟩ := okWide_slice Tryz.underlying78 hv
  obtain ⟨fuel, hf⟩ := h
  rcases Go.Deep.open_slice Tryz.underlying78 hf with ⟨hcs, _⟩ | ⟨x, l, c, m, n, D, Pl, hcs, _, hl, hm, hmm, _, hx⟩
  · simp [Value.cells] at hcs
    obtain ⟨rfl, rfl, rfl⟩ := hcs
    exact ⟨[], none, 0, rfl, Nat.le_refl _, by simp [maxLen], rfl, fun _ => rfl, fun i hi => by simp [acs] at hi⟩
  · simp [Value.cells] at hcs
    obtain ⟨rfl, rfl, rfl⟩ := hcs
    rw [show Tryz.prog.cellsOf 70 = 5 by kernel_rfl] at hx
    have hlm : len ≤ m := by rw [hmm]; split <;> omega
    have each : ∀ i, i < len → ∃ q : Ac, ∀ j, j < 5 → w.cell? ((x.add (i * 5)).add j) = (encAc q)[j]? := by
      intro i hi
      obtain ⟨cs', h1, h2⟩ := hx i (by omega)
      obtain ⟨_, hlen, hcell⟩ := World.cells?_some h1
      obtain ⟨q, hq⟩ := act_of_cells hlen h2
      refine ⟨q, fun j hj => ?_⟩
      have := hcell j hj
      rw [this, ← hq]
    obtain ⟨q, hq⟩ := Go.Deep.choose_lt each
    have hlen : ((List.range len).map q).length = len := by simp
    refine ⟨(List.range len).map q, some x, cap, by rw [hlen], by omega, hm, acs_length _, (by intro h; cases h), fun i hi => ?_⟩
    rw [acs_length, hlen] at hi
    have h0 := hq 0 (by omega) 0 (by omega)
    have hs := cell_spot (v := .int .i64 (q 0).kind) (by rw [h0]; rfl)
    obtain ⟨b, off, sp⟩ := x
    have hsp : sp = none := by
      have : ((⟨b, off, sp⟩ : Addr).add (0 * 5)).add 0 = ⟨b, off, sp⟩ := by simp [Addr.add]
      rw [this] at hs
      exact hs
    subst hsp
    have hb : b < w.heap.size := World.block_lt_of_cell? w (u := .int .i64 (q 0).kind) _ (by rw [h0]; rfl)
    refine ⟨b, off, rfl, Nat.zero_le _, hb, hb, ?_⟩
    have hi' := hq (i / 5) (by omega) (i % 5) (by omega)
    have ha := acs_at ((List.range len).map q) (i / 5) (i % 5) (by rw [hlen]; omega) (by omega)
    rw [show i / 5 * 5 + i % 5 = i by omega] at ha
    rw [ha]
    simp only [List.getElem_map, List.getElem_range]
    rw [← hi', Addr.add_lit, Addr.add_lit]
    congr 2; omega
end Go.Proofs.YtjpndimhegfbnaaGreatDoor
