/-
  Texts of walks and plain lemmas for this seat; no condition.
-/
import Derived.Test.YtjpndimhegfbnaaGreatDoorBase
import Derived.Test.YtjpndimhegfbnaaGreatDoorRows
import Derived.ProofKit
import Derived.OpenShut
import Derived.ShutString
import Derived.ChangeOld
namespace Go.Proofs.YtjpndimhegfbnaaGreatDoor
open Go.RowKit

theorem own : ownKnob Tryz.prog.godebug = none := by kernel_rfl
theorem laidOut : laidOutB Tryz.prog = true := by kernel_rfl

/-- A slice of integers of one kind that came in. -/
def IsRow (k : IntKind) (w : World) (a : Option Addr) (len cap : Nat) (zs : List Int) : Prop :=
  (a = none ∧ len = 0 ∧ cap = 0 ∧ zs = []) ∨
  ∃ x, a = some x ∧ len ≤ cap ∧ cap ≤ maxLen ∧ zs.length = cap ∧ (∀ i, i < zs.length → w.cell? (x.add i) = some (.int k (zs.getD i 0))) ∧ ∀ n ∈ zs, (Lit.int k n).wf = true

theorem cell_spot {w : World} {x : Addr} {v : Value} (h : w.cell? x = some v) : x.spot = none := by
  unfold World.cell? at h
  split at h
  · split at h
    · cases h
    · rename_i hn; simpa using hn
  · cases h

theorem IsRow.sl {k : IntKind} {w : World} {a : Option Addr} {len cap : Nat} {zs : List Int} (h : IsRow k w a len cap zs) :
    (zs.take len).length = len ∧ Sl 1 0 w.heap.size w (.slice a len cap) len ((zs.take len).map (Value.int k)) := by
  rcases h with ⟨rfl, rfl, rfl, rfl⟩ | ⟨x, rfl, hl, hm, hz, hc, _⟩
  · exact ⟨rfl, none, 0, rfl, Nat.le_refl _, by simp [maxLen], rfl, fun _ => rfl, fun i hi => by simp at hi⟩
  · have hl' : (zs.take len).length = len := by simp; omega
    refine ⟨hl', some x, cap, rfl, hl, hm, by simpa using hl', (by intro h; cases h), fun i hi => ?_⟩
    rw [List.length_map, hl'] at hi
    have h0 := hc 0 (by omega)
    have hs := cell_spot h0
    obtain ⟨b, off, sp⟩ := x
    have hsp : sp = none := by
      have : (⟨b, off, sp⟩ : Addr).add 0 = ⟨b, off, sp⟩ := by simp [Addr.add]
      rw [this] at hs
      exact hs
    subst hsp
    have hi' := hc i (by omega)
    rw [Addr.add_lit] at hi'
    refine ⟨b, off, rfl, Nat.zero_le _, World.block_lt_of_cell? w _ h0, World.block_lt_of_cell? w _ h0, ?_⟩
    rw [hi', List.getElem?_map, List.getElem?_take, if_pos hi, List.getElem?_eq_getElem (by omega)]
    simp [List.getD, List.getElem?_eq_getElem (show i < zs.length by omega)]

theorem IsRow.ints {w : World} {a : Option Addr} {len cap : Nat} {zs : List Int} (h : IsRow .i64 w a len cap zs) : ∃ xs, SlI 0 w.heap.size w (.slice a len cap) xs := by
  obtain ⟨h1, h2⟩ := h.sl
  refine ⟨zs.take len, ?_⟩
  unfold SlI
  rw [h1]
  exact h2

/-- The cells of a datum without pointers. -/
def cellsOfD : DataW Unit → List Value
  | .lit (.int k n) => [.int k n]
  | .lit (.bool b) => [.bool b]
  | .lit (.string s) => [.string ⟨s.toArray⟩]
  | .agg parts => cellsOfDs parts
  | _ => []
where cellsOfDs : List (DataW Unit) → List Value
  | [] => []
  | d :: r => cellsOfD d ++ cellsOfDs r
def layCells (cs : List Value) : Obj → Obj
  | .cells _ t fz => .cells cs.toArray t fz
  | o => o
end Go.Proofs.YtjpndimhegfbnaaGreatDoor
