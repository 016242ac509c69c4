/- Lemmas for this seat; no condition. -/
import Derived.Test.YtfnnhimopokpnaaGreatDoorHDAA
import Derived.SevenTiedAt
namespace Go.Proofs.YtfnnhimopokpnaaGreatDoor
open Go.RowKit Proofs.Tryz
set_option maxRecDepth 100000
set_option maxHeartbeats 0
set_option linter.all false
namespace fnDeskSay
theorem jf0:(Rows.fnDeskSayRow.wf (OpenSpec.ofChange (OpenSpec.ofChange Rows.fnDeskSaySpec).bare))=true:=by kernel_rfl
theorem jf1:(laidOutB prog)=true:=by kernel_rfl
theorem jf2:(mapsRowed prog)=true:=by kernel_rfl
theorem jf3:(Tryz.f5.params.all (Tryz.prog.readableRec ·))=true:=by kernel_rfl
theorem jf4:(namedTie prog Rows.fnDeskSayRow.named (OpenSpec.ofChange Rows.fnDeskSaySpec).bare.vars)=true:=by kernel_rfl
theorem jf5:((Rows.fnDeskSayRow.stops==[]))=true:=by kernel_rfl
theorem jf6:((Tryz.prog.stops==[]))=true:=by kernel_rfl
theorem jf7:((Rows.fnDeskSayRow.knobs==[]))=true:=by kernel_rfl
theorem jf8:((Tryz.prog.stopKnobs==[]))=true:=by kernel_rfl
theorem jf9:((Rows.fnDeskSayRow.inPlace==Tryz.prog.inPlace 5))=true:=by kernel_rfl
theorem jf10:((Rows.fnDeskSayRow.unfollowed==Tryz.prog.unfollowed 5))=true:=by kernel_rfl
theorem jf11:((Rows.fnDeskSayRow.recurses==Tryz.prog.recurses 5))=true:=by kernel_rfl
theorem jf12:((Rows.fnDeskSayRow.named==Tryz.prog.varsNamed 5))=true:=by kernel_rfl
theorem jf13:((Rows.fnDeskSayRow.maps==(Tryz.f5.params.toList++(OpenSpec.ofChange Rows.fnDeskSaySpec).bare.plain.varTypes prog).any (Tryz.prog.mapsRec ·)))=true:=by kernel_rfl
theorem jf14:((Rows.fnDeskSayRow.ifaces==(Tryz.f5.params.toList++(OpenSpec.ofChange Rows.fnDeskSaySpec).bare.plain.varTypes prog).any (Tryz.prog.ifacesRec ·)))=true:=by kernel_rfl
theorem jf15:((Rows.fnDeskSayRow.mapsOut==Tryz.prog.mapsAmong Tryz.f5.resultTypes.toList))=true:=by kernel_rfl
theorem jf16:((Rows.fnDeskSayRow.loops==(Tryz.f5.params.toList++(OpenSpec.ofChange Rows.fnDeskSaySpec).bare.plain.varTypes prog).any (Tryz.prog.loopsFrom ·)))=true:=by kernel_rfl
theorem jf17:((Rows.fnDeskSayRow.wideKeys==(Tryz.f5.params.toList++(OpenSpec.ofChange Rows.fnDeskSaySpec).bare.plain.varTypes prog++Tryz.f5.resultTypes.toList).any (Tryz.prog.wideKeysFrom ·)))=true:=by kernel_rfl
theorem jf18:((OpenSpec.ofChange Rows.fnDeskSaySpec).bare.vars.all (Tryz.prog.varReadable ·))=true:=by kernel_rfl
theorem jf19:(Tryz.f5.resultTypes.all (λt=>Tryz.prog.readableRec t&&decide (t<Tryz.prog.types.size)))=true:=by kernel_rfl
theorem jf20:((Rows.fnDeskSayRow.ifacesOut==Tryz.f5.resultTypes.toList.any (Tryz.prog.ifacesRec ·)))=true:=by kernel_rfl
theorem jf21:((Rows.fnDeskSayRow.loopsOut==Tryz.f5.resultTypes.toList.any (Tryz.prog.loopsFrom ·)))=true:=by kernel_rfl
theorem jf22:((Rows.fnDeskSayRow.plainKeys==Tryz.prog.plainKeys))=true:=by kernel_rfl
theorem jf23:(Rows.fnDeskSayRow.shortTexts.isNone)=true:=by kernel_rfl
theorem jf24:(Tryz.prog.stopsHeard)=true:=by kernel_rfl
theorem jf25:(Tryz.prog.mayEnter)=true:=by kernel_rfl
theorem jf26:((Rows.fnDeskSayRow.lifted==Tryz.prog.liftsFinal))=true:=by kernel_rfl
theorem jf27:((Tryz.prog.make==some Rows.fnDeskSayRow.make))=true:=by kernel_rfl
theorem jf28:((Rows.fnDeskSayRow.kinds==(if Rows.fnDeskSayRow.domain.isEmpty then [] else Tryz.f5.params.toList.map λt=>match Tryz.prog.underlying t with | some (.int k)=>some k | _=>none)))=true:=by kernel_rfl
theorem jf29:((Rows.fnDeskSayRow.pinned==Rows.fnDeskSayRow.pinnedBy))=true:=by kernel_rfl
theorem jf30:((Rows.fnDeskSayRow.veiled==(Tryz.f5.params.toList++(OpenSpec.ofChange Rows.fnDeskSaySpec).bare.plain.varTypes prog++Tryz.f5.resultTypes.toList).any (Tryz.prog.veiledRec ·)))=true:=by kernel_rfl
theorem jf31:(Rows.fnDeskSayRow.veiledFits prog Tryz.f5.params.toList (Tryz.f5.params.toList++(OpenSpec.ofChange Rows.fnDeskSaySpec).bare.plain.varTypes prog++Tryz.f5.resultTypes.toList))=true:=by kernel_rfl
theorem and2{a b:Bool}(h:a=true)(k:b=true):(a&&b)=true:=by rw[h,k];rfl
theorem facts:joinedFacts prog 5 Tryz.f5 ((OpenSpec.ofChange Rows.fnDeskSaySpec).bare) Rows.fnDeskSayRow=true:=by
 unfold joinedFacts;exact(and2 (and2 (and2 (and2 (and2 (and2 (and2 (and2 (and2 (and2 (and2 (and2 (and2 (and2 (and2 (and2 (and2 (and2 (and2 (and2 (and2 (and2 (and2 (and2 (and2 (and2 (and2 (and2 (and2 (and2 (and2 jf0 jf1) jf2) jf3) jf4) jf5) jf6) jf7) jf8) jf9) jf10) jf11) jf12) jf13) jf14) jf15) jf16) jf17) jf18) jf19) jf20) jf21) jf22) jf23) jf24) jf25) jf26) jf27) jf28) jf29) jf30) jf31)
theorem wfT:Rows.fnDeskSayRow.wfByText (OpenSpec.ofChange Rows.fnDeskSaySpec)=true:=by kernel_rfl
theorem goesT:false=Rows.fnDeskSayRow.goesBy Tryz.pinned.checked.prog:=by kernel_rfl
end fnDeskSay
end Go.Proofs.YtfnnhimopokpnaaGreatDoor
