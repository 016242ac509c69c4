/-
  Texts of walks and plain lemmas for this seat; no condition.
-/
import Derived.Test.YtagjpecibpejmaaGreatDoorGA
import Derived.Test.YtagjpecibpejmaaGreatDoorRows
import Derived.JoinedCond
import Derived.JoinedOf
import Derived.KernelRfl
import Derived.SevenTiedAt
namespace Go.Proofs.YtagjpecibpejmaaGreatDoor
open Go.RowKit
namespace fnDeskDo
set_option maxRecDepth 100000 in
theorem jf0 : (Rows.fnDeskDoRow.wf (OpenSpec.ofChange (OpenSpec.ofChange Rows.fnDeskDoSpec).bare)) = true := by kernel_rfl
set_option maxRecDepth 100000 in
theorem jf1 : (laidOutB Tryz.prog) = true := by kernel_rfl
set_option maxRecDepth 100000 in
theorem jf2 : (mapsRowed Tryz.prog) = true := by kernel_rfl
set_option maxRecDepth 100000 in
theorem jf3 : (Tryz.f9.params.all (Tryz.prog.readableRec ·)) = true := by kernel_rfl
set_option maxRecDepth 100000 in
theorem jf4 : (namedTie Tryz.prog Rows.fnDeskDoRow.named (OpenSpec.ofChange Rows.fnDeskDoSpec).bare.vars) = true := by kernel_rfl
set_option maxRecDepth 100000 in
theorem jf5 : ((Rows.fnDeskDoRow.stops == [])) = true := by kernel_rfl
set_option maxRecDepth 100000 in
theorem jf6 : ((Tryz.prog.stops == [])) = true := by kernel_rfl
set_option maxRecDepth 100000 in
theorem jf7 : ((Rows.fnDeskDoRow.knobs == [])) = true := by kernel_rfl
set_option maxRecDepth 100000 in
theorem jf8 : ((Tryz.prog.stopKnobs == [])) = true := by kernel_rfl
set_option maxRecDepth 100000 in
theorem jf9 : ((Rows.fnDeskDoRow.inPlace == Tryz.prog.inPlace 9)) = true := by kernel_rfl
set_option maxRecDepth 100000 in
theorem jf10 : ((Rows.fnDeskDoRow.unfollowed == Tryz.prog.unfollowed 9)) = true := by kernel_rfl
set_option maxRecDepth 100000 in
theorem jf11 : ((Rows.fnDeskDoRow.recurses == Tryz.prog.recurses 9)) = true := by kernel_rfl
set_option maxRecDepth 100000 in
theorem jf12 : ((Rows.fnDeskDoRow.named == Tryz.prog.varsNamed 9)) = true := by kernel_rfl
set_option maxRecDepth 100000 in
theorem jf13 : ((Rows.fnDeskDoRow.maps == (Tryz.f9.params.toList ++ (OpenSpec.ofChange Rows.fnDeskDoSpec).bare.plain.varTypes Tryz.prog).any (Tryz.prog.mapsRec ·))) = true := by kernel_rfl
set_option maxRecDepth 100000 in
theorem jf14 : ((Rows.fnDeskDoRow.ifaces == (Tryz.f9.params.toList ++ (OpenSpec.ofChange Rows.fnDeskDoSpec).bare.plain.varTypes Tryz.prog).any (Tryz.prog.ifacesRec ·))) = true := by kernel_rfl
set_option maxRecDepth 100000 in
theorem jf15 : ((Rows.fnDeskDoRow.mapsOut == Tryz.prog.mapsAmong Tryz.f9.resultTypes.toList)) = true := by kernel_rfl
set_option maxRecDepth 100000 in
theorem jf16 : ((Rows.fnDeskDoRow.loops == (Tryz.f9.params.toList ++ (OpenSpec.ofChange Rows.fnDeskDoSpec).bare.plain.varTypes Tryz.prog).any (Tryz.prog.loopsFrom ·))) = true := by kernel_rfl
set_option maxRecDepth 100000 in
theorem jf17 : ((Rows.fnDeskDoRow.wideKeys == (Tryz.f9.params.toList ++ (OpenSpec.ofChange Rows.fnDeskDoSpec).bare.plain.varTypes Tryz.prog ++ Tryz.f9.resultTypes.toList).any (Tryz.prog.wideKeysFrom ·))) = true := by kernel_rfl
set_option maxRecDepth 100000 in
theorem jf18 : ((OpenSpec.ofChange Rows.fnDeskDoSpec).bare.vars.all (Tryz.prog.varReadable ·)) = true := by kernel_rfl
set_option maxRecDepth 100000 in
theorem jf19 : (Tryz.f9.resultTypes.all (fun t => Tryz.prog.readableRec t && decide (t < Tryz.prog.types.size))) = true := by kernel_rfl
set_option maxRecDepth 100000 in
theorem jf20 : ((Rows.fnDeskDoRow.ifacesOut == Tryz.f9.resultTypes.toList.any (Tryz.prog.ifacesRec ·))) = true := by kernel_rfl
set_option maxRecDepth 100000 in
theorem jf21 : ((Rows.fnDeskDoRow.loopsOut == Tryz.f9.resultTypes.toList.any (Tryz.prog.loopsFrom ·))) = true := by kernel_rfl
set_option maxRecDepth 100000 in
theorem jf22 : ((Rows.fnDeskDoRow.plainKeys == Tryz.prog.plainKeys)) = true := by kernel_rfl
set_option maxRecDepth 100000 in
theorem jf23 : (Rows.fnDeskDoRow.shortTexts.isNone) = true := by kernel_rfl
set_option maxRecDepth 100000 in
theorem jf24 : (Tryz.prog.stopsHeard) = true := by kernel_rfl
set_option maxRecDepth 100000 in
theorem jf25 : (Tryz.prog.mayEnter) = true := by kernel_rfl
set_option maxRecDepth 100000 in
theorem jf26 : ((Rows.fnDeskDoRow.lifted == Tryz.prog.liftsFinal)) = true := by kernel_rfl
set_option maxRecDepth 100000 in
theorem jf27 : ((Tryz.prog.make == some Rows.fnDeskDoRow.make)) = true := by kernel_rfl
set_option maxRecDepth 100000 in
theorem jf28 : ((Rows.fnDeskDoRow.kinds == (if Rows.fnDeskDoRow.domain.isEmpty then [] else Tryz.f9.params.toList.map fun t => match Tryz.prog.underlying t with | some (.int k) => some k | _ => none))) = true := by kernel_rfl
set_option maxRecDepth 100000 in
theorem jf29 : ((Rows.fnDeskDoRow.pinned == Rows.fnDeskDoRow.pinnedBy)) = true := by kernel_rfl
set_option maxRecDepth 100000 in
theorem jf30 : ((Rows.fnDeskDoRow.veiled == (Tryz.f9.params.toList ++ (OpenSpec.ofChange Rows.fnDeskDoSpec).bare.plain.varTypes Tryz.prog ++ Tryz.f9.resultTypes.toList).any (Tryz.prog.veiledRec ·))) = true := by kernel_rfl
set_option maxRecDepth 100000 in
theorem jf31 : (Rows.fnDeskDoRow.veiledFits Tryz.prog Tryz.f9.params.toList (Tryz.f9.params.toList ++ (OpenSpec.ofChange Rows.fnDeskDoSpec).bare.plain.varTypes Tryz.prog ++ Tryz.f9.resultTypes.toList)) = true := by kernel_rfl
theorem and2 {a b : Bool} (h : a = true) (k : b = true) : (a && b) = true := by rw [h, k]; rfl
set_option maxRecDepth 100000 in
theorem facts : joinedFacts Tryz.prog 9 Tryz.f9 ((OpenSpec.ofChange Rows.fnDeskDoSpec).bare) Rows.fnDeskDoRow = true := by
  unfold joinedFacts
  exact (and2 (and2 (and2 (and2 (and2 (and2 (and2 (and2 (and2 (and2 (and2 (and2 (and2 (and2 (and2 (and2 (and2 (and2 (and2 (and2 (and2 (and2 (and2 (and2 (and2 (and2 (and2 (and2 (and2 (and2 (and2 jf0 jf1) jf2) jf3) jf4) jf5) jf6) jf7) jf8) jf9) jf10) jf11) jf12) jf13) jf14) jf15) jf16) jf17) jf18) jf19) jf20) jf21) jf22) jf23) jf24) jf25) jf26) jf27) jf28) jf29) jf30) jf31)
theorem wfT : Rows.fnDeskDoRow.wfByText (OpenSpec.ofChange Rows.fnDeskDoSpec) = true := by kernel_rfl
theorem goesT : false = Rows.fnDeskDoRow.goesBy Tryz.pinned.checked.prog := by kernel_rfl
end fnDeskDo
end Go.Proofs.YtagjpecibpejmaaGreatDoor
