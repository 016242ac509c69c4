/-
  Texts of walks and plain lemmas for this seat; no condition.
-/
import Derived.Test.YtplofpdjhelabaaGreatDoorFrameK
import Derived.Test.YtplofpdjhelabaaGreatDoorIMoveDo
import Derived.LaidHandle
import Derived.LaidLaws
namespace Go.Proofs.YtplofpdjhelabaaGreatDoor
open Go.RowKit
open Go.ChangeShapes Go.WideShapes

theorem etX : Tryz.prog.globalNamed "errors.errorType" = some 0 := by kernel_rfl
theorem rtX : (Tryz.prog.cutTypes.find? (·.1 == "internal/reflectlite.rtype")).map (·.2) = some 160 := by kernel_rfl
theorem sizeX : Tryz.prog.types.size = 332 := by kernel_rfl
theorem oneRowX : ((List.range 332).filter fun t => Tryz.prog.rowNamed t [101, 114, 114, 111, 114]) = [69] := by kernel_rfl
set_option maxRecDepth 100000 in
theorem envX_of {W : World} (h : laidMetH Tryz.prog [("errors.errorType", Rows.laid_errors_errorType), ("loop.example/kleenetests/impl.testNames", Rows.laid_loop_example_kleenetests_impl_testNames), ("loop.example/kleenetests/impl.ruleTexts", Rows.laid_loop_example_kleenetests_impl_ruleTexts)] W) (hSh : W.ShapedOpen Tryz.prog) : EnvK W ∧ EnvX W := by
  have h' : laidMet Tryz.prog [("loop.example/kleenetests/impl.testNames", Rows.laid_loop_example_kleenetests_impl_testNames), ("loop.example/kleenetests/impl.ruleTexts", Rows.laid_loop_example_kleenetests_impl_ruleTexts)] W ∧ handlesMet Tryz.prog [("errors.errorType", Rows.laid_errors_errorType)] W := h
  refine ⟨envK_of h'.1 hSh, ?_⟩
  obtain ⟨name, u, ty, e1, e2, e3, e4, e5⟩ := h'.2 ("errors.errorType", Rows.laid_errors_errorType) (List.mem_singleton.2 rfl)
  have en : name = [101, 114, 114, 111, 114] := (Option.some.inj e1).symm
  subst en
  obtain rfl := Option.some.inj (rtX.symm.trans e2)
  have hm : ty ∈ (List.range 332).filter fun t => Tryz.prog.rowNamed t [101, 114, 114, 111, 114] := List.mem_filter.2 ⟨List.mem_range.2 (by rw [← sizeX]; exact e3), e4⟩
  rw [oneRowX] at hm
  obtain rfl := List.mem_singleton.1 hm
  have hh : typeHandle Tryz.prog 69 = .pointer (some ⟨4, 69, none⟩) := by kernel_rfl
  rw [hh] at e5
  simpa [EnvX] using World.var?_cell etX e5 0
end Go.Proofs.YtplofpdjhelabaaGreatDoor
