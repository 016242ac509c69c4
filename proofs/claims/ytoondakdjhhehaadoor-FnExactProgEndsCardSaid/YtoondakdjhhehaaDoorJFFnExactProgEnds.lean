/-
  Texts of walks and plain lemmas for this seat; no condition.
-/
import Derived.Test.YtoondakdjhhehaaDoorGA
import Derived.Test.YtoondakdjhhehaaDoorRows
import Derived.JoinedCond
import Derived.JoinedOf
import Derived.KernelRfl
import Derived.SevenTiedAt
namespace Go.Proofs.YtoondakdjhhehaaDoor
open Go.RowKit
namespace fnExactProgEnds
set_option maxRecDepth 100000 in
theorem jf0 : (Rows.fnExactProgEndsRow.wf (OpenSpec.ofChange (OpenSpec.ofChange Rows.fnExactProgEndsSpec).bare)) = true := by kernel_rfl
set_option maxRecDepth 100000 in
theorem jf1 : (laidOutB Tryd.prog) = true := by kernel_rfl
set_option maxRecDepth 100000 in
theorem jf2 : (mapsRowed Tryd.prog) = true := by kernel_rfl
set_option maxRecDepth 100000 in
theorem jf3 : (Tryd.f5.params.all (Tryd.prog.readableRec ·)) = true := by kernel_rfl
set_option maxRecDepth 100000 in
theorem jf4 : (namedTie Tryd.prog Rows.fnExactProgEndsRow.named (OpenSpec.ofChange Rows.fnExactProgEndsSpec).bare.vars) = true := by kernel_rfl
set_option maxRecDepth 100000 in
theorem jf5 : ((Rows.fnExactProgEndsRow.stops == [])) = true := by kernel_rfl
set_option maxRecDepth 100000 in
theorem jf6 : ((Tryd.prog.stops == [])) = true := by kernel_rfl
set_option maxRecDepth 100000 in
theorem jf7 : ((Rows.fnExactProgEndsRow.knobs == [])) = true := by kernel_rfl
set_option maxRecDepth 100000 in
theorem jf8 : ((Tryd.prog.stopKnobs == [])) = true := by kernel_rfl
set_option maxRecDepth 100000 in
theorem jf9 : ((Rows.fnExactProgEndsRow.inPlace == Tryd.prog.inPlace 5)) = true := by kernel_rfl
set_option maxRecDepth 100000 in
theorem jf10 : ((Rows.fnExactProgEndsRow.unfollowed == Tryd.prog.unfollowed 5)) = true := by kernel_rfl
set_option maxRecDepth 100000 in
theorem jf11 : ((Rows.fnExactProgEndsRow.recurses == Tryd.prog.recurses 5)) = true := by kernel_rfl
set_option maxRecDepth 100000 in
theorem jf12 : ((Rows.fnExactProgEndsRow.named == Tryd.prog.varsNamed 5)) = true := by kernel_rfl
set_option maxRecDepth 100000 in
theorem jf13 : ((Rows.fnExactProgEndsRow.maps == (Tryd.f5.params.toList ++ (OpenSpec.ofChange Rows.fnExactProgEndsSpec).bare.plain.varTypes Tryd.prog).any (Tryd.prog.mapsRec ·))) = true := by kernel_rfl
set_option maxRecDepth 100000 in
theorem jf14 : ((Rows.fnExactProgEndsRow.ifaces == (Tryd.f5.params.toList ++ (OpenSpec.ofChange Rows.fnExactProgEndsSpec).bare.plain.varTypes Tryd.prog).any (Tryd.prog.ifacesRec ·))) = true := by kernel_rfl
set_option maxRecDepth 100000 in
theorem jf15 : ((Rows.fnExactProgEndsRow.mapsOut == Tryd.prog.mapsAmong Tryd.f5.resultTypes.toList)) = true := by kernel_rfl
set_option maxRecDepth 100000 in
theorem jf16 : ((Rows.fnExactProgEndsRow.loops == (Tryd.f5.params.toList ++ (OpenSpec.ofChange Rows.fnExactProgEndsSpec).bare.plain.varTypes Tryd.prog).any (Tryd.prog.loopsFrom ·))) = true := by kernel_rfl
set_option maxRecDepth 100000 in
theorem jf17 : ((Rows.fnExactProgEndsRow.wideKeys == (Tryd.f5.params.toList ++ (OpenSpec.ofChange Rows.fnExactProgEndsSpec).bare.plain.varTypes Tryd.prog ++ Tryd.f5.resultTypes.toList).any (Tryd.prog.wideKeysFrom ·))) = true := by kernel_rfl
set_option maxRecDepth 100000 in
theorem jf18 : ((OpenSpec.ofChange Rows.fnExactProgEndsSpec).bare.vars.all (Tryd.prog.varReadable ·)) = true := by kernel_rfl
set_option maxRecDepth 100000 in
theorem jf19 : (Tryd.f5.resultTypes.all (fun t => Tryd.prog.readableRec t && decide (t < Tryd.prog.types.size))) = true := by kernel_rfl
set_option maxRecDepth 100000 in
theorem jf20 : ((Rows.fnExactProgEndsRow.ifacesOut == Tryd.f5.resultTypes.toList.any (Tryd.prog.ifacesRec ·))) = true := by kernel_rfl
set_option maxRecDepth 100000 in
theorem jf21 : ((Rows.fnExactProgEndsRow.loopsOut == Tryd.f5.resultTypes.toList.any (Tryd.prog.loopsFrom ·))) = true := by kernel_rfl
set_option maxRecDepth 100000 in
theorem jf22 : ((Rows.fnExactProgEndsRow.plainKeys == Tryd.prog.plainKeys)) = true := by kernel_rfl
set_option maxRecDepth 100000 in
theorem jf23 : (Rows.fnExactProgEndsRow.shortTexts.isNone) = true := by kernel_rfl
set_option maxRecDepth 100000 in
theorem jf24 : (Tryd.prog.stopsHeard) = true := by kernel_rfl
set_option maxRecDepth 100000 in
theorem jf25 : (Tryd.prog.mayEnter) = true := by kernel_rfl
set_option maxRecDepth 100000 in
theorem jf26 : ((Rows.fnExactProgEndsRow.lifted == Tryd.prog.liftsFinal)) = true := by kernel_rfl
set_option maxRecDepth 100000 in
theorem jf27 : ((Tryd.prog.make == some Rows.fnExactProgEndsRow.make)) = true := by kernel_rfl
set_option maxRecDepth 100000 in
theorem jf28 : ((Rows.fnExactProgEndsRow.kinds == (if Rows.fnExactProgEndsRow.domain.isEmpty then [] else Tryd.f5.params.toList.map fun t => match Tryd.prog.underlying t with | some (.int k) => some k | _ => none))) = true := by kernel_rfl
set_option maxRecDepth 100000 in
theorem jf29 : ((Rows.fnExactProgEndsRow.pinned == Rows.fnExactProgEndsRow.pinnedBy)) = true := by kernel_rfl
set_option maxRecDepth 100000 in
theorem jf30 : ((Rows.fnExactProgEndsRow.veiled == (Tryd.f5.params.toList ++ (OpenSpec.ofChange Rows.fnExactProgEndsSpec).bare.plain.varTypes Tryd.prog ++ Tryd.f5.resultTypes.toList).any (Tryd.prog.veiledRec ·))) = true := by kernel_rfl
set_option maxRecDepth 100000 in
theorem jf31 : (Rows.fnExactProgEndsRow.veiledFits Tryd.prog Tryd.f5.params.toList (Tryd.f5.params.toList ++ (OpenSpec.ofChange Rows.fnExactProgEndsSpec).bare.plain.varTypes Tryd.prog ++ Tryd.f5.resultTypes.toList)) = true := by kernel_rfl
theorem and2 {a b : Bool} (h : a = true) (k : b = true) : (a && b) = true := by rw [h, k]; rfl
set_option maxRecDepth 100000 in
theorem facts : joinedFacts Tryd.prog 5 Tryd.f5 ((OpenSpec.ofChange Rows.fnExactProgEndsSpec).bare) Rows.fnExactProgEndsRow = true := by
  unfold joinedFacts
  exact (and2 (and2 (and2 (and2 (and2 (and2 (and2 (and2 (and2 (and2 (and2 (and2 (and2 (and2 (and2 (and2 (and2 (and2 (and2 (and2 (and2 (and2 (and2 (and2 (and2 (and2 (and2 (and2 (and2 (and2 (and2 jf0 jf1) jf2) jf3) jf4) jf5) jf6) jf7) jf8) jf9) jf10) jf11) jf12) jf13) jf14) jf15) jf16) jf17) jf18) jf19) jf20) jf21) jf22) jf23) jf24) jf25) jf26) jf27) jf28) jf29) jf30) jf31)
theorem wfT : Rows.fnExactProgEndsRow.wfByText (OpenSpec.ofChange Rows.fnExactProgEndsSpec) = true := by kernel_rfl
theorem goesT : false = Rows.fnExactProgEndsRow.goesBy Tryd.pinned.checked.prog := by kernel_rfl
end fnExactProgEnds
end Go.Proofs.YtoondakdjhhehaaDoor
