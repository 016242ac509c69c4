/- Lemmas for this seat; no condition. -/
import Derived.Test.YtfnnhimopokpnaaGreatDoorHAAA
import Derived.SevenTiedAt
namespace Go.Proofs.YtfnnhimopokpnaaGreatDoor
open Go.RowKit
set_option maxRecDepth 100000
set_option maxHeartbeats 0
set_option linter.unusedVariables false
namespace fnExactDeskLine
theorem jf0:(Rows.fnExactDeskLineRow.wf (OpenSpec.ofChange (OpenSpec.ofChange Rows.fnExactDeskLineSpec).bare))=true:=by kernel_rfl
theorem jf1:(laidOutB Tryz.prog)=true:=by kernel_rfl
theorem jf2:(mapsRowed Tryz.prog)=true:=by kernel_rfl
theorem jf3:(Tryz.f6.params.all (Tryz.prog.readableRec ·))=true:=by kernel_rfl
theorem jf4:(namedTie Tryz.prog Rows.fnExactDeskLineRow.named (OpenSpec.ofChange Rows.fnExactDeskLineSpec).bare.vars)=true:=by kernel_rfl
theorem jf5:((Rows.fnExactDeskLineRow.stops==[]))=true:=by kernel_rfl
theorem jf6:((Tryz.prog.stops==[]))=true:=by kernel_rfl
theorem jf7:((Rows.fnExactDeskLineRow.knobs==[]))=true:=by kernel_rfl
theorem jf8:((Tryz.prog.stopKnobs==[]))=true:=by kernel_rfl
theorem jf9:((Rows.fnExactDeskLineRow.inPlace==Tryz.prog.inPlace 6))=true:=by kernel_rfl
theorem jf10:((Rows.fnExactDeskLineRow.unfollowed==Tryz.prog.unfollowed 6))=true:=by kernel_rfl
theorem jf11:((Rows.fnExactDeskLineRow.recurses==Tryz.prog.recurses 6))=true:=by kernel_rfl
theorem jf12:((Rows.fnExactDeskLineRow.named==Tryz.prog.varsNamed 6))=true:=by kernel_rfl
theorem jf13:((Rows.fnExactDeskLineRow.maps==(Tryz.f6.params.toList++(OpenSpec.ofChange Rows.fnExactDeskLineSpec).bare.plain.varTypes Tryz.prog).any (Tryz.prog.mapsRec ·)))=true:=by kernel_rfl
theorem jf14:((Rows.fnExactDeskLineRow.ifaces==(Tryz.f6.params.toList++(OpenSpec.ofChange Rows.fnExactDeskLineSpec).bare.plain.varTypes Tryz.prog).any (Tryz.prog.ifacesRec ·)))=true:=by kernel_rfl
theorem jf15:((Rows.fnExactDeskLineRow.mapsOut==Tryz.prog.mapsAmong Tryz.f6.resultTypes.toList))=true:=by kernel_rfl
theorem jf16:((Rows.fnExactDeskLineRow.loops==(Tryz.f6.params.toList++(OpenSpec.ofChange Rows.fnExactDeskLineSpec).bare.plain.varTypes Tryz.prog).any (Tryz.prog.loopsFrom ·)))=true:=by kernel_rfl
theorem jf17:((Rows.fnExactDeskLineRow.wideKeys==(Tryz.f6.params.toList++(OpenSpec.ofChange Rows.fnExactDeskLineSpec).bare.plain.varTypes Tryz.prog++Tryz.f6.resultTypes.toList).any (Tryz.prog.wideKeysFrom ·)))=true:=by kernel_rfl
theorem jf18:((OpenSpec.ofChange Rows.fnExactDeskLineSpec).bare.vars.all (Tryz.prog.varReadable ·))=true:=by kernel_rfl
theorem jf19:(Tryz.f6.resultTypes.all (fun t=>Tryz.prog.readableRec t&&decide (t<Tryz.prog.types.size)))=true:=by kernel_rfl
theorem jf20:((Rows.fnExactDeskLineRow.ifacesOut==Tryz.f6.resultTypes.toList.any (Tryz.prog.ifacesRec ·)))=true:=by kernel_rfl
theorem jf21:((Rows.fnExactDeskLineRow.loopsOut==Tryz.f6.resultTypes.toList.any (Tryz.prog.loopsFrom ·)))=true:=by kernel_rfl
theorem jf22:((Rows.fnExactDeskLineRow.plainKeys==Tryz.prog.plainKeys))=true:=by kernel_rfl
theorem jf23:(Rows.fnExactDeskLineRow.shortTexts.isNone)=true:=by kernel_rfl
theorem jf24:(Tryz.prog.stopsHeard)=true:=by kernel_rfl
theorem jf25:(Tryz.prog.mayEnter)=true:=by kernel_rfl
theorem jf26:((Rows.fnExactDeskLineRow.lifted==Tryz.prog.liftsFinal))=true:=by kernel_rfl
theorem jf27:((Tryz.prog.make==some Rows.fnExactDeskLineRow.make))=true:=by kernel_rfl
theorem jf28:((Rows.fnExactDeskLineRow.kinds==(if Rows.fnExactDeskLineRow.domain.isEmpty then [] else Tryz.f6.params.toList.map fun t=>match Tryz.prog.underlying t with | some (.int k)=>some k | _=>none)))=true:=by kernel_rfl
theorem jf29:((Rows.fnExactDeskLineRow.pinned==Rows.fnExactDeskLineRow.pinnedBy))=true:=by kernel_rfl
theorem jf30:((Rows.fnExactDeskLineRow.veiled==(Tryz.f6.params.toList++(OpenSpec.ofChange Rows.fnExactDeskLineSpec).bare.plain.varTypes Tryz.prog++Tryz.f6.resultTypes.toList).any (Tryz.prog.veiledRec ·)))=true:=by kernel_rfl
theorem jf31:(Rows.fnExactDeskLineRow.veiledFits Tryz.prog Tryz.f6.params.toList (Tryz.f6.params.toList++(OpenSpec.ofChange Rows.fnExactDeskLineSpec).bare.plain.varTypes Tryz.prog++Tryz.f6.resultTypes.toList))=true:=by kernel_rfl
theorem and2 {a b:Bool} (h:a=true) (k:b=true):(a&&b)=true:=by rw [h,k];rfl
theorem facts:joinedFacts Tryz.prog 6 Tryz.f6 ((OpenSpec.ofChange Rows.fnExactDeskLineSpec).bare) Rows.fnExactDeskLineRow=true:=by
 unfold joinedFacts
 exact (and2 (and2 (and2 (and2 (and2 (and2 (and2 (and2 (and2 (and2 (and2 (and2 (and2 (and2 (and2 (and2 (and2 (and2 (and2 (and2 (and2 (and2 (and2 (and2 (and2 (and2 (and2 (and2 (and2 (and2 (and2 jf0 jf1) jf2) jf3) jf4) jf5) jf6) jf7) jf8) jf9) jf10) jf11) jf12) jf13) jf14) jf15) jf16) jf17) jf18) jf19) jf20) jf21) jf22) jf23) jf24) jf25) jf26) jf27) jf28) jf29) jf30) jf31)
theorem wfT:Rows.fnExactDeskLineRow.wfByText (OpenSpec.ofChange Rows.fnExactDeskLineSpec)=true:=by kernel_rfl
theorem goesT:false=Rows.fnExactDeskLineRow.goesBy Tryz.pinned.checked.prog:=by kernel_rfl
end fnExactDeskLine
end Go.Proofs.YtfnnhimopokpnaaGreatDoor
