/-
  Texts of walks and plain lemmas for this seat; no condition.
-/
import Derived.Test.YtoondakdjhhehaaDoorGA
import Derived.Test.YtoondakdjhhehaaDoorTzK
import Derived.ProofKit
import Derived.Lib.LaidTab
import Derived.Stop.LaidErr
namespace Go.Proofs.YtoondakdjhhehaaDoor
open Go.RowKit
open Go.Lib

theorem gTab : Tryd.prog.globalNamed "math/bits.deBruijn64tab" = some 1 := by kernel_rfl
theorem tTab : (Tryd.prog.globals[1]?).map (·.type) = some 116 := by kernel_rfl
def tab64 : List Int := [0, 1, 56, 2, 57, 49, 28, 3, 61, 58, 42, 50, 38, 29, 17, 4, 62, 47, 59, 36, 45, 43, 51, 22, 53, 39, 33, 30, 24, 18, 12, 5, 63, 55, 48, 27, 60, 41, 37, 16, 46, 35, 44, 21, 52, 32, 23, 11, 54, 26, 40, 15, 34, 20, 31, 10, 25, 14, 19, 9, 13, 8, 7, 6]
theorem laidTab : (Rows.laid_math_bits_deBruijn64tab : DataW Unit) = tabData .u8 tab64 := by rfl
set_option maxRecDepth 100000 in
theorem tabT_of {W : World} {rest : List (String × DataW Unit)} (h : laidMet Tryd.prog (("math/bits.deBruijn64tab", Rows.laid_math_bits_deBruijn64tab) :: rest) W) : TabT W := by
  rw [laidTab] at h
  have hT := tabIs_of_head gTab tTab Tryd.underlying116 Tryd.underlying5 (by kernel_rfl) (by kernel_rfl) h
  exact ⟨hT.cell gTab 0 (by decide), hT.cell gTab 1 (by decide), hT.cell gTab 3 (by decide), hT.cell gTab 7 (by decide), hT.cell gTab 15 (by decide)⟩
end Go.Proofs.YtoondakdjhhehaaDoor
