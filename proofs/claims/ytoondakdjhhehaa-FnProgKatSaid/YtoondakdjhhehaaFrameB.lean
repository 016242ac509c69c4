/-
  Texts of walks and plain lemmas for this seat; no condition.
-/
import Derived.Test.YtoondakdjhhehaaGA
import Derived.Test.YtoondakdjhhehaaGB
namespace Go.Proofs.Ytoondakdjhhehaa
open Go.RowKit

theorem IsRow.bytes {w : World} {a : Option Addr} {len cap : Nat} {zs : List Int} (h : IsRow .u8 w a len cap zs) : ∃ xs, SlB 0 w.heap.size w (.slice a len cap) xs := by
  obtain ⟨h1, h2⟩ := h.sl
  refine ⟨zs.take len, ?_, ?_⟩
  · rw [h1]; exact h2
  · intro x hx
    have hx' := List.mem_of_mem_take hx
    rcases h with ⟨_, _, _, rfl⟩ | ⟨_, _, _, _, _, _, hw⟩
    · simp at hx'
    · have := hw x hx'
      simp [Lit.wf, IntKind.min, IntKind.max, IntKind.signed, IntKind.bits] at this
      omega
end Go.Proofs.Ytoondakdjhhehaa
