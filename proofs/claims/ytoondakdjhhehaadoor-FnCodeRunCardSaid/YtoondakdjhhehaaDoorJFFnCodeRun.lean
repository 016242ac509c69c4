/-
  Texts of walks and plain lemmas for this seat; no condition.
-/
import Derived.Test.YtoondakdjhhehaaDoorGA
import Derived.Test.YtoondakdjhhehaaDoorRows
import Derived.JoinedCond
import Derived.JoinedOf
import Derived.KernelRfl
import Derived.SevenTiedAt
namespace Go.Proofs.YtoondakdjhhehaaDoor
open Go.RowKit
namespace fnCodeRun
set_option maxRecDepth 100000 in
theorem jf0 : (Rows.fnCodeRunRow.wf (OpenSpec.ofChange (OpenSpec.ofChange Rows.fnCodeRunSpec).bare)) = true := by kernel_rfl
set_option maxRecDepth 100000 in
theorem jf1 : (laidOutB Tryd.prog) = true := by kernel_rfl
set_option maxRecDepth 100000 in
theorem jf2 : (mapsRowed Tryd.prog) = true := by kernel_rfl
set_option maxRecDepth 100000 in
theorem jf3 : (Tryd.f3.params.all (Tryd.prog.readableRec ·)) = true := by kernel_rfl
set_option maxRecDepth 100000 in
theorem jf4 : (namedTie Tryd.prog Rows.fnCodeRunRow.named (OpenSpec.ofChange Rows.fnCodeRunSpec).bare.vars) = true := by kernel_rfl
set_option maxRecDepth 100000 in
theorem jf5 : ((Rows.fnCodeRunRow.stops == [])) = true := by kernel_rfl
set_option maxRecDepth 100000 in
theorem jf6 : ((Tryd.prog.stops == [])) = true := by kernel_rfl
set_option maxRecDepth 100000 in
theorem jf7 : ((Rows.fnCodeRunRow.knobs == [])) = true := by kernel_rfl
set_option maxRecDepth 100000 in
theorem jf8 : ((Tryd.prog.stopKnobs == [])) = true := by kernel_rfl
set_option maxRecDepth 100000 in
theorem jf9 : ((Rows.fnCodeRunRow.inPlace == Tryd.prog.inPlace 3)) = true := by kernel_rfl
set_option maxRecDepth 100000 in
theorem jf10 : ((Rows.fnCodeRunRow.unfollowed == Tryd.prog.unfollowed 3)) = true := by kernel_rfl
set_option maxRecDepth 100000 in
theorem jf11 : ((Rows.fnCodeRunRow.recurses == Tryd.prog.recurses 3)) = true := by kernel_rfl
set_option maxRecDepth 100000 in
theorem jf12 : ((Rows.fnCodeRunRow.named == Tryd.prog.varsNamed 3)) = true := by kernel_rfl
set_option maxRecDepth 100000 in
theorem jf13 : ((Rows.fnCodeRunRow.maps == (Tryd.f3.params.toList ++ (OpenSpec.ofChange Rows.fnCodeRunSpec).bare.plain.varTypes Tryd.prog).any (Tryd.prog.mapsRec ·))) = true := by kernel_rfl
set_option maxRecDepth 100000 in
theorem jf14 : ((Rows.fnCodeRunRow.ifaces == (Tryd.f3.params.toList ++ (OpenSpec.ofChange Rows.fnCodeRunSpec).bare.plain.varTypes Tryd.prog).any (Tryd.prog.ifacesRec ·))) = true := by kernel_rfl
set_option maxRecDepth 100000 in
theorem jf15 : ((Rows.fnCodeRunRow.mapsOut == Tryd.prog.mapsAmong Tryd.f3.resultTypes.toList)) = true := by kernel_rfl
set_option maxRecDepth 100000 in
theorem jf16 : ((Rows.fnCodeRunRow.loops == (Tryd.f3.params.toList ++ (OpenSpec.ofChange Rows.fnCodeRunSpec).bare.plain.varTypes Tryd.prog).any (Tryd.prog.loopsFrom ·))) = true := by kernel_rfl
set_option maxRecDepth 100000 in
theorem jf17 : ((Rows.fnCodeRunRow.wideKeys == (Tryd.f3.params.toList ++ (OpenSpec.ofChange Rows.fnCodeRunSpec).bare.plain.varTypes Tryd.prog ++ Tryd.f3.resultTypes.toList).any (Tryd.prog.wideKeysFrom ·))) = true := by kernel_rfl
set_option maxRecDepth 100000 in
theorem jf18 : ((OpenSpec.ofChange Rows.fnCodeRunSpec).bare.vars.all (Tryd.prog.varReadable ·)) = true := by kernel_rfl
set_option maxRecDepth 100000 in
theorem jf19 : (Tryd.f3.resultTypes.all (fun t => Tryd.prog.readableRec t && decide (t < Tryd.prog.types.size))) = true := by kernel_rfl
set_option maxRecDepth 100000 in
theorem jf20 : ((Rows.fnCodeRunRow.ifacesOut == Tryd.f3.resultTypes.toList.any (Tryd.prog.ifacesRec ·))) = true := by kernel_rfl
set_option maxRecDepth 100000 in
theorem jf21 : ((Rows.fnCodeRunRow.loopsOut == Tryd.f3.resultTypes.toList.any (Tryd.prog.loopsFrom ·))) = true := by kernel_rfl
set_option maxRecDepth 100000 in
theorem jf22 : ((Rows.fnCodeRunRow.plainKeys == Tryd.prog.plainKeys)) = true := by kernel_rfl
set_option maxRecDepth 100000 in
theorem jf23 : (Rows.fnCodeRunRow.shortTexts.isNone) = true := by kernel_rfl
set_option maxRecDepth 100000 in
theorem jf24 : (Tryd.prog.stopsHeard) = true := by kernel_rfl
set_option maxRecDepth 100000 in
theorem jf25 : (Tryd.prog.mayEnter) = true := by kernel_rfl
set_option maxRecDepth 100000 in
theorem jf26 : ((Rows.fnCodeRunRow.lifted == Tryd.prog.liftsFinal)) = true := by kernel_rfl
set_option maxRecDepth 100000 in
theorem jf27 : ((Tryd.prog.make == some Rows.fnCodeRunRow.make)) = true := by kernel_rfl
set_option maxRecDepth 100000 in
theorem jf28 : ((Rows.fnCodeRunRow.kinds == (if Rows.fnCodeRunRow.domain.isEmpty then [] else Tryd.f3.params.toList.map fun t => match Tryd.prog.underlying t with | some (.int k) => some k | _ => none))) = true := by kernel_rfl
set_option maxRecDepth 100000 in
theorem jf29 : ((Rows.fnCodeRunRow.pinned == Rows.fnCodeRunRow.pinnedBy)) = true := by kernel_rfl
set_option maxRecDepth 100000 in
theorem jf30 : ((Rows.fnCodeRunRow.veiled == (Tryd.f3.params.toList ++ (OpenSpec.ofChange Rows.fnCodeRunSpec).bare.plain.varTypes Tryd.prog ++ Tryd.f3.resultTypes.toList).any (Tryd.prog.veiledRec ·))) = true := by kernel_rfl
set_option maxRecDepth 100000 in
theorem jf31 : (Rows.fnCodeRunRow.veiledFits Tryd.prog Tryd.f3.params.toList (Tryd.f3.params.toList ++ (OpenSpec.ofChange Rows.fnCodeRunSpec).bare.plain.varTypes Tryd.prog ++ Tryd.f3.resultTypes.toList)) = true := by kernel_rfl
theorem and2 {a b : Bool} (h : a = true) (k : b = true) : (a && b) = true := by rw [h, k]; rfl
set_option maxRecDepth 100000 in
theorem facts : joinedFacts Tryd.prog 3 Tryd.f3 ((OpenSpec.ofChange Rows.fnCodeRunSpec).bare) Rows.fnCodeRunRow = true := by
  unfold joinedFacts
  exact (and2 (and2 (and2 (and2 (and2 (and2 (and2 (and2 (and2 (and2 (and2 (and2 (and2 (and2 (and2 (and2 (and2 (and2 (and2 (and2 (and2 (and2 (and2 (and2 (and2 (and2 (and2 (and2 (and2 (and2 (and2 jf0 jf1) jf2) jf3) jf4) jf5) jf6) jf7) jf8) jf9) jf10) jf11) jf12) jf13) jf14) jf15) jf16) jf17) jf18) jf19) jf20) jf21) jf22) jf23) jf24) jf25) jf26) jf27) jf28) jf29) jf30) jf31)
theorem wfT : Rows.fnCodeRunRow.wfByText (OpenSpec.ofChange Rows.fnCodeRunSpec) = true := by kernel_rfl
theorem goesT : false = Rows.fnCodeRunRow.goesBy Tryd.pinned.checked.prog := by kernel_rfl
end fnCodeRun
end Go.Proofs.YtoondakdjhhehaaDoor
