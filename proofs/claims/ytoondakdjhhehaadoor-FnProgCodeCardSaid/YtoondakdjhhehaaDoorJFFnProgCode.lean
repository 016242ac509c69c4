/-
  Texts of walks and plain lemmas for this seat; no condition.
-/
import Derived.Test.YtoondakdjhhehaaDoorGA
import Derived.Test.YtoondakdjhhehaaDoorRows
import Derived.JoinedCond
import Derived.JoinedOf
import Derived.KernelRfl
import Derived.SevenTiedAt
namespace Go.Proofs.YtoondakdjhhehaaDoor
open Go.RowKit
namespace fnProgCode
set_option maxRecDepth 100000 in
theorem jf0 : (Rows.fnProgCodeRow.wf (OpenSpec.ofChange (OpenSpec.ofChange Rows.fnProgCodeSpec).bare)) = true := by kernel_rfl
set_option maxRecDepth 100000 in
theorem jf1 : (laidOutB Tryd.prog) = true := by kernel_rfl
set_option maxRecDepth 100000 in
theorem jf2 : (mapsRowed Tryd.prog) = true := by kernel_rfl
set_option maxRecDepth 100000 in
theorem jf3 : (Tryd.f6.params.all (Tryd.prog.readableRec ·)) = true := by kernel_rfl
set_option maxRecDepth 100000 in
theorem jf4 : (namedTie Tryd.prog Rows.fnProgCodeRow.named (OpenSpec.ofChange Rows.fnProgCodeSpec).bare.vars) = true := by kernel_rfl
set_option maxRecDepth 100000 in
theorem jf5 : ((Rows.fnProgCodeRow.stops == [])) = true := by kernel_rfl
set_option maxRecDepth 100000 in
theorem jf6 : ((Tryd.prog.stops == [])) = true := by kernel_rfl
set_option maxRecDepth 100000 in
theorem jf7 : ((Rows.fnProgCodeRow.knobs == [])) = true := by kernel_rfl
set_option maxRecDepth 100000 in
theorem jf8 : ((Tryd.prog.stopKnobs == [])) = true := by kernel_rfl
set_option maxRecDepth 100000 in
theorem jf9 : ((Rows.fnProgCodeRow.inPlace == Tryd.prog.inPlace 6)) = true := by kernel_rfl
set_option maxRecDepth 100000 in
theorem jf10 : ((Rows.fnProgCodeRow.unfollowed == Tryd.prog.unfollowed 6)) = true := by kernel_rfl
set_option maxRecDepth 100000 in
theorem jf11 : ((Rows.fnProgCodeRow.recurses == Tryd.prog.recurses 6)) = true := by kernel_rfl
set_option maxRecDepth 100000 in
theorem jf12 : ((Rows.fnProgCodeRow.named == Tryd.prog.varsNamed 6)) = true := by kernel_rfl
set_option maxRecDepth 100000 in
theorem jf13 : ((Rows.fnProgCodeRow.maps == (Tryd.f6.params.toList ++ (OpenSpec.ofChange Rows.fnProgCodeSpec).bare.plain.varTypes Tryd.prog).any (Tryd.prog.mapsRec ·))) = true := by kernel_rfl
set_option maxRecDepth 100000 in
theorem jf14 : ((Rows.fnProgCodeRow.ifaces == (Tryd.f6.params.toList ++ (OpenSpec.ofChange Rows.fnProgCodeSpec).bare.plain.varTypes Tryd.prog).any (Tryd.prog.ifacesRec ·))) = true := by kernel_rfl
set_option maxRecDepth 100000 in
theorem jf15 : ((Rows.fnProgCodeRow.mapsOut == Tryd.prog.mapsAmong Tryd.f6.resultTypes.toList)) = true := by kernel_rfl
set_option maxRecDepth 100000 in
theorem jf16 : ((Rows.fnProgCodeRow.loops == (Tryd.f6.params.toList ++ (OpenSpec.ofChange Rows.fnProgCodeSpec).bare.plain.varTypes Tryd.prog).any (Tryd.prog.loopsFrom ·))) = true := by kernel_rfl
set_option maxRecDepth 100000 in
theorem jf17 : ((Rows.fnProgCodeRow.wideKeys == (Tryd.f6.params.toList ++ (OpenSpec.ofChange Rows.fnProgCodeSpec).bare.plain.varTypes Tryd.prog ++ Tryd.f6.resultTypes.toList).any (Tryd.prog.wideKeysFrom ·))) = true := by kernel_rfl
set_option maxRecDepth 100000 in
theorem jf18 : ((OpenSpec.ofChange Rows.fnProgCodeSpec).bare.vars.all (Tryd.prog.varReadable ·)) = true := by kernel_rfl
set_option maxRecDepth 100000 in
theorem jf19 : (Tryd.f6.resultTypes.all (fun t => Tryd.prog.readableRec t && decide (t < Tryd.prog.types.size))) = true := by kernel_rfl
set_option maxRecDepth 100000 in
theorem jf20 : ((Rows.fnProgCodeRow.ifacesOut == Tryd.f6.resultTypes.toList.any (Tryd.prog.ifacesRec ·))) = true := by kernel_rfl
set_option maxRecDepth 100000 in
theorem jf21 : ((Rows.fnProgCodeRow.loopsOut == Tryd.f6.resultTypes.toList.any (Tryd.prog.loopsFrom ·))) = true := by kernel_rfl
set_option maxRecDepth 100000 in
theorem jf22 : ((Rows.fnProgCodeRow.plainKeys == Tryd.prog.plainKeys)) = true := by kernel_rfl
set_option maxRecDepth 100000 in
theorem jf23 : (Rows.fnProgCodeRow.shortTexts.isNone) = true := by kernel_rfl
set_option maxRecDepth 100000 in
theorem jf24 : (Tryd.prog.stopsHeard) = true := by kernel_rfl
set_option maxRecDepth 100000 in
theorem jf25 : (Tryd.prog.mayEnter) = true := by kernel_rfl
set_option maxRecDepth 100000 in
theorem jf26 : ((Rows.fnProgCodeRow.lifted == Tryd.prog.liftsFinal)) = true := by kernel_rfl
set_option maxRecDepth 100000 in
theorem jf27 : ((Tryd.prog.make == some Rows.fnProgCodeRow.make)) = true := by kernel_rfl
set_option maxRecDepth 100000 in
theorem jf28 : ((Rows.fnProgCodeRow.kinds == (if Rows.fnProgCodeRow.domain.isEmpty then [] else Tryd.f6.params.toList.map fun t => match Tryd.prog.underlying t with | some (.int k) => some k | _ => none))) = true := by kernel_rfl
set_option maxRecDepth 100000 in
theorem jf29 : ((Rows.fnProgCodeRow.pinned == Rows.fnProgCodeRow.pinnedBy)) = true := by kernel_rfl
set_option maxRecDepth 100000 in
theorem jf30 : ((Rows.fnProgCodeRow.veiled == (Tryd.f6.params.toList ++ (OpenSpec.ofChange Rows.fnProgCodeSpec).bare.plain.varTypes Tryd.prog ++ Tryd.f6.resultTypes.toList).any (Tryd.prog.veiledRec ·))) = true := by kernel_rfl
set_option maxRecDepth 100000 in
theorem jf31 : (Rows.fnProgCodeRow.veiledFits Tryd.prog Tryd.f6.params.toList (Tryd.f6.params.toList ++ (OpenSpec.ofChange Rows.fnProgCodeSpec).bare.plain.varTypes Tryd.prog ++ Tryd.f6.resultTypes.toList)) = true := by kernel_rfl
theorem and2 {a b : Bool} (h : a = true) (k : b = true) : (a && b) = true := by rw [h, k]; rfl
set_option maxRecDepth 100000 in
theorem facts : joinedFacts Tryd.prog 6 Tryd.f6 ((OpenSpec.ofChange Rows.fnProgCodeSpec).bare) Rows.fnProgCodeRow = true := by
  unfold joinedFacts
  exact (and2 (and2 (and2 (and2 (and2 (and2 (and2 (and2 (and2 (and2 (and2 (and2 (and2 (and2 (and2 (and2 (and2 (and2 (and2 (and2 (and2 (and2 (and2 (and2 (and2 (and2 (and2 (and2 (and2 (and2 (and2 jf0 jf1) jf2) jf3) jf4) jf5) jf6) jf7) jf8) jf9) jf10) jf11) jf12) jf13) jf14) jf15) jf16) jf17) jf18) jf19) jf20) jf21) jf22) jf23) jf24) jf25) jf26) jf27) jf28) jf29) jf30) jf31)
theorem wfT : Rows.fnProgCodeRow.wfByText (OpenSpec.ofChange Rows.fnProgCodeSpec) = true := by kernel_rfl
theorem goesT : false = Rows.fnProgCodeRow.goesBy Tryd.pinned.checked.prog := by kernel_rfl
end fnProgCode
end Go.Proofs.YtoondakdjhhehaaDoor
