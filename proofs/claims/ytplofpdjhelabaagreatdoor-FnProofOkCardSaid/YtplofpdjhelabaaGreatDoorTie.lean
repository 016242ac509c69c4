/-
  DERIVED. GIVEN WITH THE SEED: THE PROGRAM's TIES (one call each: nine closed facts by the kernel) AND EACH ROW's TIE, after the 31st guide's Derived/Test/Toyas{Tie, Card}.lean. No idea stands in it: it is a product of the set-up. Laid BY PROGRAM, IN A SANDBOX (cutbox-door.mjs). By AI agents, Wed Nov 11 2026. No macro, syntax, notation, axiom, sorry.
-/
import Derived.Test.YtplofpdjhelabaaGreatDoorRows
import Derived.LaidByTextLater
import Derived.SevenTiedAt
import Derived.LaidSub
import Derived.LaidOnce
namespace Go.Proofs.YtplofpdjhelabaaGreatDoor
open Go
set_option maxRecDepth 100000
theorem seatTie1 : Tryz.prog.laidByTextLater [("errors.errorType", Rows.laid_errors_errorType), ("loop.example/kleenetests/impl.testNames", Rows.laid_loop_example_kleenetests_impl_testNames), ("loop.example/kleenetests/impl.ruleTexts", Rows.laid_loop_example_kleenetests_impl_ruleTexts)] [.handle, .mapped, .data] true :=
  Program.laidByTextLater_by_one 56 8 22 (by kernel_rfl) (by kernel_rfl) (by kernel_rfl) (by kernel_rfl) (by kernel_rfl) (by kernel_rfl) (fun _ _ => by kernel_rfl)
theorem noOwnUnsafe : Tryz.pinned.checked.prog.headLifts.contains "ownunsafe" = false := by kernel_rfl
theorem tie : Tryz.prog.laidByTextLater [("loop.example/kleenetests/impl.testNames", Rows.laid_loop_example_kleenetests_impl_testNames), ("loop.example/kleenetests/impl.ruleTexts", Rows.laid_loop_example_kleenetests_impl_ruleTexts)] [.mapped, .data] true :=
  Program.laidByTextLater.sub seatTie1 ["loop.example/kleenetests/impl.testNames", "loop.example/kleenetests/impl.ruleTexts"] (by kernel_rfl) (by kernel_rfl)
theorem fnProofOk_row_tie : Rows.fnProofOkRow.laidByTextAt .later Tryz.pinned [.mapped, .data] true :=
  OpenClaim.laidByTextAt_later rfl rfl tie noOwnUnsafe
theorem tie2 : Tryz.prog.laidByTextLater [("errors.errorType", Rows.laid_errors_errorType), ("loop.example/kleenetests/impl.testNames", Rows.laid_loop_example_kleenetests_impl_testNames), ("loop.example/kleenetests/impl.ruleTexts", Rows.laid_loop_example_kleenetests_impl_ruleTexts)] [.handle, .mapped, .data] true :=
  Program.laidByTextLater.sub seatTie1 ["errors.errorType", "loop.example/kleenetests/impl.testNames", "loop.example/kleenetests/impl.ruleTexts"] (by kernel_rfl) (by kernel_rfl)
theorem fnMoveDo_row_tie : Rows.fnMoveDoRow.laidByTextAt .later Tryz.pinned [.handle, .mapped, .data] true :=
  OpenClaim.laidByTextAt_later rfl rfl tie2 noOwnUnsafe
theorem fnProofOkUpto_row_tie : Rows.fnProofOkUptoRow.laidByTextAt .later Tryz.pinned [.mapped, .data] true :=
  OpenClaim.laidByTextAt_later rfl rfl tie noOwnUnsafe
theorem fnMoveDoUpto_row_tie : Rows.fnMoveDoUptoRow.laidByTextAt .later Tryz.pinned [.handle, .mapped, .data] true :=
  OpenClaim.laidByTextAt_later rfl rfl tie2 noOwnUnsafe
end Go.Proofs.YtplofpdjhelabaaGreatDoor
