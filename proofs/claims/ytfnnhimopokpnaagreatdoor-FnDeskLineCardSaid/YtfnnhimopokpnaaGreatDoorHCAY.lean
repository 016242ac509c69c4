/- Lemmas for this seat; no condition. -/
import Derived.Test.YtfnnhimopokpnaaGreatDoorHCAA
import Derived.SevenTiedAt
namespace Go.Proofs.YtfnnhimopokpnaaGreatDoor
open Go.RowKit Proofs.Tryz
set_option maxRecDepth 100000
set_option maxHeartbeats 0
set_option linter.all false
namespace fnDeskLine
theorem jf0:(Rows.fnDeskLineRow.wf (OpenSpec.ofChange (OpenSpec.ofChange Rows.fnDeskLineSpec).bare))=true:=by kernel_rfl
theorem jf1:(laidOutB prog)=true:=by kernel_rfl
theorem jf2:(mapsRowed prog)=true:=by kernel_rfl
theorem jf3:(Tryz.f4.params.all (Tryz.prog.readableRec ·))=true:=by kernel_rfl
theorem jf4:(namedTie prog Rows.fnDeskLineRow.named (OpenSpec.ofChange Rows.fnDeskLineSpec).bare.vars)=true:=by kernel_rfl
theorem jf5:((Rows.fnDeskLineRow.stops==[]))=true:=by kernel_rfl
theorem jf6:((Tryz.prog.stops==[]))=true:=by kernel_rfl
theorem jf7:((Rows.fnDeskLineRow.knobs==[]))=true:=by kernel_rfl
theorem jf8:((Tryz.prog.stopKnobs==[]))=true:=by kernel_rfl
theorem jf9:((Rows.fnDeskLineRow.inPlace==Tryz.prog.inPlace 4))=true:=by kernel_rfl
theorem jf10:((Rows.fnDeskLineRow.unfollowed==Tryz.prog.unfollowed 4))=true:=by kernel_rfl
theorem jf11:((Rows.fnDeskLineRow.recurses==Tryz.prog.recurses 4))=true:=by kernel_rfl
theorem jf12:((Rows.fnDeskLineRow.named==Tryz.prog.varsNamed 4))=true:=by kernel_rfl
theorem jf13:((Rows.fnDeskLineRow.maps==(Tryz.f4.params.toList++(OpenSpec.ofChange Rows.fnDeskLineSpec).bare.plain.varTypes prog).any (Tryz.prog.mapsRec ·)))=true:=by kernel_rfl
theorem jf14:((Rows.fnDeskLineRow.ifaces==(Tryz.f4.params.toList++(OpenSpec.ofChange Rows.fnDeskLineSpec).bare.plain.varTypes prog).any (Tryz.prog.ifacesRec ·)))=true:=by kernel_rfl
theorem jf15:((Rows.fnDeskLineRow.mapsOut==Tryz.prog.mapsAmong Tryz.f4.resultTypes.toList))=true:=by kernel_rfl
theorem jf16:((Rows.fnDeskLineRow.loops==(Tryz.f4.params.toList++(OpenSpec.ofChange Rows.fnDeskLineSpec).bare.plain.varTypes prog).any (Tryz.prog.loopsFrom ·)))=true:=by kernel_rfl
theorem jf17:((Rows.fnDeskLineRow.wideKeys==(Tryz.f4.params.toList++(OpenSpec.ofChange Rows.fnDeskLineSpec).bare.plain.varTypes prog++Tryz.f4.resultTypes.toList).any (Tryz.prog.wideKeysFrom ·)))=true:=by kernel_rfl
theorem jf18:((OpenSpec.ofChange Rows.fnDeskLineSpec).bare.vars.all (Tryz.prog.varReadable ·))=true:=by kernel_rfl
theorem jf19:(Tryz.f4.resultTypes.all (λt=>Tryz.prog.readableRec t&&decide (t<Tryz.prog.types.size)))=true:=by kernel_rfl
theorem jf20:((Rows.fnDeskLineRow.ifacesOut==Tryz.f4.resultTypes.toList.any (Tryz.prog.ifacesRec ·)))=true:=by kernel_rfl
theorem jf21:((Rows.fnDeskLineRow.loopsOut==Tryz.f4.resultTypes.toList.any (Tryz.prog.loopsFrom ·)))=true:=by kernel_rfl
theorem jf22:((Rows.fnDeskLineRow.plainKeys==Tryz.prog.plainKeys))=true:=by kernel_rfl
theorem jf23:(Rows.fnDeskLineRow.shortTexts.isNone)=true:=by kernel_rfl
theorem jf24:(Tryz.prog.stopsHeard)=true:=by kernel_rfl
theorem jf25:(Tryz.prog.mayEnter)=true:=by kernel_rfl
theorem jf26:((Rows.fnDeskLineRow.lifted==Tryz.prog.liftsFinal))=true:=by kernel_rfl
theorem jf27:((Tryz.prog.make==some Rows.fnDeskLineRow.make))=true:=by kernel_rfl
theorem jf28:((Rows.fnDeskLineRow.kinds==(if Rows.fnDeskLineRow.domain.isEmpty then [] else Tryz.f4.params.toList.map λt=>match Tryz.prog.underlying t with | some (.int k)=>some k | _=>none)))=true:=by kernel_rfl
theorem jf29:((Rows.fnDeskLineRow.pinned==Rows.fnDeskLineRow.pinnedBy))=true:=by kernel_rfl
theorem jf30:((Rows.fnDeskLineRow.veiled==(Tryz.f4.params.toList++(OpenSpec.ofChange Rows.fnDeskLineSpec).bare.plain.varTypes prog++Tryz.f4.resultTypes.toList).any (Tryz.prog.veiledRec ·)))=true:=by kernel_rfl
theorem jf31:(Rows.fnDeskLineRow.veiledFits prog Tryz.f4.params.toList (Tryz.f4.params.toList++(OpenSpec.ofChange Rows.fnDeskLineSpec).bare.plain.varTypes prog++Tryz.f4.resultTypes.toList))=true:=by kernel_rfl
theorem and2{a b:Bool}(h:a=true)(k:b=true):(a&&b)=true:=by rw[h,k];rfl
theorem facts:joinedFacts prog 4 Tryz.f4 ((OpenSpec.ofChange Rows.fnDeskLineSpec).bare) Rows.fnDeskLineRow=true:=by
 unfold joinedFacts;exact(and2 (and2 (and2 (and2 (and2 (and2 (and2 (and2 (and2 (and2 (and2 (and2 (and2 (and2 (and2 (and2 (and2 (and2 (and2 (and2 (and2 (and2 (and2 (and2 (and2 (and2 (and2 (and2 (and2 (and2 (and2 jf0 jf1) jf2) jf3) jf4) jf5) jf6) jf7) jf8) jf9) jf10) jf11) jf12) jf13) jf14) jf15) jf16) jf17) jf18) jf19) jf20) jf21) jf22) jf23) jf24) jf25) jf26) jf27) jf28) jf29) jf30) jf31)
theorem wfT:Rows.fnDeskLineRow.wfByText (OpenSpec.ofChange Rows.fnDeskLineSpec)=true:=by kernel_rfl
theorem goesT:false=Rows.fnDeskLineRow.goesBy Tryz.pinned.checked.prog:=by kernel_rfl
end fnDeskLine
end Go.Proofs.YtfnnhimopokpnaaGreatDoor
