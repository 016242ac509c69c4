/-
  Texts of walks and plain lemmas for this seat; no condition.
-/
import Derived.Test.YtjpndimhegfbnaaGreatDoorBase
namespace Go.Proofs.YtjpndimhegfbnaaGreatDoor
open Go.RowKit

/-- A number of one or two digits in decimal. -/
def dig2 (n : Nat) : List UInt8 := if n < 10 then [UInt8.ofNat (48 + n)] else [UInt8.ofNat (48 + n / 10), UInt8.ofNat (48 + n % 10)]

theorem ret_str {a b : List UInt8} (h : a = b) : Ending.returned (.string ⟨a.toArray⟩) = .returned (.string ⟨b.toArray⟩) := by rw [h]

theorem conv_lit {P : Program} (src dst e : TypeId) (hs : P.underlying src = some (.slice e)) (he : P.underlying e = some (.int .u8)) (hd : P.underlying dst = some .string) (w : World) (ns : List Int) :
    Sem.run P (convert src dst (.slice (some ⟨w.heap.size, 0, none⟩) ns.length ns.length)) (w.alloc (.cells (ns.map (Value.int .u8)).toArray e)) =
      .ok (.string ⟨(ns.map fun n => UInt8.ofNat n.toNat).toArray⟩) (w.alloc (.cells (ns.map (Value.int .u8)).toArray e)) := by
  have h := run_convert_bytes_arg (P := P) (w := w.alloc (.cells (ns.map (Value.int .u8)).toArray e)) src e hs he w.heap.size 0 ns.length ns.length ns rfl
    (by intro i hi
        rw [World.cell?, heap_alloc_new]
        simp [List.getD, hi]) dst hd
  exact h
end Go.Proofs.YtjpndimhegfbnaaGreatDoor
