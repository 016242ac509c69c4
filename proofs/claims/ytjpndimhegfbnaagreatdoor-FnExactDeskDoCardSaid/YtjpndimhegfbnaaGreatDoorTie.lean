/-
  DERIVED. GIVEN WITH THE SEED: THE PROGRAM's TIES (one call each: nine closed facts by the kernel) AND EACH ROW's TIE, after the 31st guide's Derived/Test/Toyas{Tie, Card}.lean. No idea stands in it: it is a product of the set-up. Laid BY PROGRAM, IN A SANDBOX (cutbox-door.mjs). By AI agents, Wed Nov 11 2026. No macro, syntax, notation, axiom, sorry.
-/
import Derived.Test.YtjpndimhegfbnaaGreatDoorRows
import Derived.LaidByTextLater
import Derived.SevenTiedAt
import Derived.LaidSub
import Derived.LaidOnce
namespace Go.Proofs.YtjpndimhegfbnaaGreatDoor
open Go
set_option maxRecDepth 100000
theorem seatTie1 : Tryz.prog.laidByTextLater [("errors.errorType", Rows.laid_errors_errorType), ("loop.example/kleenetests/impl.testNames", Rows.laid_loop_example_kleenetests_impl_testNames), ("loop.example/kleenetests/impl.ruleTexts", Rows.laid_loop_example_kleenetests_impl_ruleTexts)] [.handle, .mapped, .data] true :=
  Program.laidByTextLater_by_one 56 8 22 (by kernel_rfl) (by kernel_rfl) (by kernel_rfl) (by kernel_rfl) (by kernel_rfl) (by kernel_rfl) (fun _ _ => by kernel_rfl)
theorem noOwnUnsafe : Tryz.pinned.checked.prog.headLifts.contains "ownunsafe" = false := by kernel_rfl
theorem tie : Tryz.prog.laidByTextLater [("loop.example/kleenetests/impl.testNames", Rows.laid_loop_example_kleenetests_impl_testNames), ("loop.example/kleenetests/impl.ruleTexts", Rows.laid_loop_example_kleenetests_impl_ruleTexts)] [.mapped, .data] true :=
  Program.laidByTextLater.sub seatTie1 ["loop.example/kleenetests/impl.testNames", "loop.example/kleenetests/impl.ruleTexts"] (by kernel_rfl) (by kernel_rfl)
theorem fnExactRuleOf_row_tie : Rows.fnExactRuleOfRow.laidByTextAt .later Tryz.pinned [.mapped, .data] true :=
  OpenClaim.laidByTextAt_later rfl rfl tie noOwnUnsafe
theorem fnDeskNew_row_tie : Rows.fnDeskNewRow.laidByTextAt .later Tryz.pinned [.mapped, .data] true :=
  OpenClaim.laidByTextAt_later rfl rfl tie noOwnUnsafe
theorem fnExactMovesAt_row_tie : Rows.fnExactMovesAtRow.laidByTextAt .later Tryz.pinned [.mapped, .data] true :=
  OpenClaim.laidByTextAt_later rfl rfl tie noOwnUnsafe
theorem fnExactProofOk_row_tie : Rows.fnExactProofOkRow.laidByTextAt .later Tryz.pinned [.mapped, .data] true :=
  OpenClaim.laidByTextAt_later rfl rfl tie noOwnUnsafe
theorem fnExactSimple_row_tie : Rows.fnExactSimpleRow.laidByTextAt .later Tryz.pinned [.mapped, .data] true :=
  OpenClaim.laidByTextAt_later rfl rfl tie noOwnUnsafe
theorem fnExactProofRun_row_tie : Rows.fnExactProofRunRow.laidByTextAt .later Tryz.pinned [.mapped, .data] true :=
  OpenClaim.laidByTextAt_later rfl rfl tie noOwnUnsafe
theorem fnExactSimpleBy_row_tie : Rows.fnExactSimpleByRow.laidByTextAt .later Tryz.pinned [.mapped, .data] true :=
  OpenClaim.laidByTextAt_later rfl rfl tie noOwnUnsafe
theorem fnExactDeskValid_row_tie : Rows.fnExactDeskValidRow.laidByTextAt .later Tryz.pinned [.mapped, .data] true :=
  OpenClaim.laidByTextAt_later rfl rfl tie noOwnUnsafe
theorem fnExactDeskDone_row_tie : Rows.fnExactDeskDoneRow.laidByTextAt .later Tryz.pinned [.mapped, .data] true :=
  OpenClaim.laidByTextAt_later rfl rfl tie noOwnUnsafe
theorem fnExactDeskDo_row_tie : Rows.fnExactDeskDoRow.laidByTextAt .later Tryz.pinned [.mapped, .data] true :=
  OpenClaim.laidByTextAt_later rfl rfl tie noOwnUnsafe
theorem fnExactDeskRun_row_tie : Rows.fnExactDeskRunRow.laidByTextAt .later Tryz.pinned [.mapped, .data] true :=
  OpenClaim.laidByTextAt_later rfl rfl tie noOwnUnsafe
theorem tie2 : Tryz.prog.laidByTextLater [("errors.errorType", Rows.laid_errors_errorType), ("loop.example/kleenetests/impl.testNames", Rows.laid_loop_example_kleenetests_impl_testNames), ("loop.example/kleenetests/impl.ruleTexts", Rows.laid_loop_example_kleenetests_impl_ruleTexts)] [.handle, .mapped, .data] true :=
  Program.laidByTextLater.sub seatTie1 ["errors.errorType", "loop.example/kleenetests/impl.testNames", "loop.example/kleenetests/impl.ruleTexts"] (by kernel_rfl) (by kernel_rfl)
theorem fnExactMoveDo_row_tie : Rows.fnExactMoveDoRow.laidByTextAt .later Tryz.pinned [.handle, .mapped, .data] true :=
  OpenClaim.laidByTextAt_later rfl rfl tie2 noOwnUnsafe
theorem fnExactRuleOfUpto_row_tie : Rows.fnExactRuleOfUptoRow.laidByTextAt .later Tryz.pinned [.mapped, .data] true :=
  OpenClaim.laidByTextAt_later rfl rfl tie noOwnUnsafe
theorem fnDeskNewUpto_row_tie : Rows.fnDeskNewUptoRow.laidByTextAt .later Tryz.pinned [.mapped, .data] true :=
  OpenClaim.laidByTextAt_later rfl rfl tie noOwnUnsafe
theorem fnExactMovesAtUpto_row_tie : Rows.fnExactMovesAtUptoRow.laidByTextAt .later Tryz.pinned [.mapped, .data] true :=
  OpenClaim.laidByTextAt_later rfl rfl tie noOwnUnsafe
theorem fnExactProofOkUpto_row_tie : Rows.fnExactProofOkUptoRow.laidByTextAt .later Tryz.pinned [.mapped, .data] true :=
  OpenClaim.laidByTextAt_later rfl rfl tie noOwnUnsafe
theorem fnExactSimpleUpto_row_tie : Rows.fnExactSimpleUptoRow.laidByTextAt .later Tryz.pinned [.mapped, .data] true :=
  OpenClaim.laidByTextAt_later rfl rfl tie noOwnUnsafe
theorem fnExactProofRunUpto_row_tie : Rows.fnExactProofRunUptoRow.laidByTextAt .later Tryz.pinned [.mapped, .data] true :=
  OpenClaim.laidByTextAt_later rfl rfl tie noOwnUnsafe
theorem fnExactSimpleByUpto_row_tie : Rows.fnExactSimpleByUptoRow.laidByTextAt .later Tryz.pinned [.mapped, .data] true :=
  OpenClaim.laidByTextAt_later rfl rfl tie noOwnUnsafe
theorem fnExactDeskValidUpto_row_tie : Rows.fnExactDeskValidUptoRow.laidByTextAt .later Tryz.pinned [.mapped, .data] true :=
  OpenClaim.laidByTextAt_later rfl rfl tie noOwnUnsafe
theorem fnExactDeskDoneUpto_row_tie : Rows.fnExactDeskDoneUptoRow.laidByTextAt .later Tryz.pinned [.mapped, .data] true :=
  OpenClaim.laidByTextAt_later rfl rfl tie noOwnUnsafe
theorem fnExactMoveDoUpto_row_tie : Rows.fnExactMoveDoUptoRow.laidByTextAt .later Tryz.pinned [.handle, .mapped, .data] true :=
  OpenClaim.laidByTextAt_later rfl rfl tie2 noOwnUnsafe
theorem fnExactDeskDoUpto_row_tie : Rows.fnExactDeskDoUptoRow.laidByTextAt .later Tryz.pinned [.mapped, .data] true :=
  OpenClaim.laidByTextAt_later rfl rfl tie noOwnUnsafe
theorem fnExactDeskRunUpto_row_tie : Rows.fnExactDeskRunUptoRow.laidByTextAt .later Tryz.pinned [.mapped, .data] true :=
  OpenClaim.laidByTextAt_later rfl rfl tie noOwnUnsafe
end Go.Proofs.YtjpndimhegfbnaaGreatDoor
