/- Lemmas for this seat; no condition. -/
import Derived.Test.YtfnnhimopokpnaaGreatDoorHBAA
import Derived.SevenTiedAt
namespace Go.Proofs.YtfnnhimopokpnaaGreatDoor
open Go.RowKit Proofs.Tryz
set_option maxRecDepth 100000
set_option maxHeartbeats 0
set_option linter.all false
namespace fnExactDeskSay
theorem jf0:(Rows.fnExactDeskSayRow.wf (OpenSpec.ofChange (OpenSpec.ofChange Rows.fnExactDeskSaySpec).bare))=true:=by kernel_rfl
theorem jf1:(laidOutB prog)=true:=by kernel_rfl
theorem jf2:(mapsRowed prog)=true:=by kernel_rfl
theorem jf3:(Tryz.f3.params.all (Tryz.prog.readableRec ·))=true:=by kernel_rfl
theorem jf4:(namedTie prog Rows.fnExactDeskSayRow.named (OpenSpec.ofChange Rows.fnExactDeskSaySpec).bare.vars)=true:=by kernel_rfl
theorem jf5:((Rows.fnExactDeskSayRow.stops==[]))=true:=by kernel_rfl
theorem jf6:((Tryz.prog.stops==[]))=true:=by kernel_rfl
theorem jf7:((Rows.fnExactDeskSayRow.knobs==[]))=true:=by kernel_rfl
theorem jf8:((Tryz.prog.stopKnobs==[]))=true:=by kernel_rfl
theorem jf9:((Rows.fnExactDeskSayRow.inPlace==Tryz.prog.inPlace 3))=true:=by kernel_rfl
theorem jf10:((Rows.fnExactDeskSayRow.unfollowed==Tryz.prog.unfollowed 3))=true:=by kernel_rfl
theorem jf11:((Rows.fnExactDeskSayRow.recurses==Tryz.prog.recurses 3))=true:=by kernel_rfl
theorem jf12:((Rows.fnExactDeskSayRow.named==Tryz.prog.varsNamed 3))=true:=by kernel_rfl
theorem jf13:((Rows.fnExactDeskSayRow.maps==(Tryz.f3.params.toList++(OpenSpec.ofChange Rows.fnExactDeskSaySpec).bare.plain.varTypes prog).any (Tryz.prog.mapsRec ·)))=true:=by kernel_rfl
theorem jf14:((Rows.fnExactDeskSayRow.ifaces==(Tryz.f3.params.toList++(OpenSpec.ofChange Rows.fnExactDeskSaySpec).bare.plain.varTypes prog).any (Tryz.prog.ifacesRec ·)))=true:=by kernel_rfl
theorem jf15:((Rows.fnExactDeskSayRow.mapsOut==Tryz.prog.mapsAmong Tryz.f3.resultTypes.toList))=true:=by kernel_rfl
theorem jf16:((Rows.fnExactDeskSayRow.loops==(Tryz.f3.params.toList++(OpenSpec.ofChange Rows.fnExactDeskSaySpec).bare.plain.varTypes prog).any (Tryz.prog.loopsFrom ·)))=true:=by kernel_rfl
theorem jf17:((Rows.fnExactDeskSayRow.wideKeys==(Tryz.f3.params.toList++(OpenSpec.ofChange Rows.fnExactDeskSaySpec).bare.plain.varTypes prog++Tryz.f3.resultTypes.toList).any (Tryz.prog.wideKeysFrom ·)))=true:=by kernel_rfl
theorem jf18:((OpenSpec.ofChange Rows.fnExactDeskSaySpec).bare.vars.all (Tryz.prog.varReadable ·))=true:=by kernel_rfl
theorem jf19:(Tryz.f3.resultTypes.all (λt=>Tryz.prog.readableRec t&&decide (t<Tryz.prog.types.size)))=true:=by kernel_rfl
theorem jf20:((Rows.fnExactDeskSayRow.ifacesOut==Tryz.f3.resultTypes.toList.any (Tryz.prog.ifacesRec ·)))=true:=by kernel_rfl
theorem jf21:((Rows.fnExactDeskSayRow.loopsOut==Tryz.f3.resultTypes.toList.any (Tryz.prog.loopsFrom ·)))=true:=by kernel_rfl
theorem jf22:((Rows.fnExactDeskSayRow.plainKeys==Tryz.prog.plainKeys))=true:=by kernel_rfl
theorem jf23:(Rows.fnExactDeskSayRow.shortTexts.isNone)=true:=by kernel_rfl
theorem jf24:(Tryz.prog.stopsHeard)=true:=by kernel_rfl
theorem jf25:(Tryz.prog.mayEnter)=true:=by kernel_rfl
theorem jf26:((Rows.fnExactDeskSayRow.lifted==Tryz.prog.liftsFinal))=true:=by kernel_rfl
theorem jf27:((Tryz.prog.make==some Rows.fnExactDeskSayRow.make))=true:=by kernel_rfl
theorem jf28:((Rows.fnExactDeskSayRow.kinds==(if Rows.fnExactDeskSayRow.domain.isEmpty then [] else Tryz.f3.params.toList.map λt=>match Tryz.prog.underlying t with | some (.int k)=>some k | _=>none)))=true:=by kernel_rfl
theorem jf29:((Rows.fnExactDeskSayRow.pinned==Rows.fnExactDeskSayRow.pinnedBy))=true:=by kernel_rfl
theorem jf30:((Rows.fnExactDeskSayRow.veiled==(Tryz.f3.params.toList++(OpenSpec.ofChange Rows.fnExactDeskSaySpec).bare.plain.varTypes prog++Tryz.f3.resultTypes.toList).any (Tryz.prog.veiledRec ·)))=true:=by kernel_rfl
theorem jf31:(Rows.fnExactDeskSayRow.veiledFits prog Tryz.f3.params.toList (Tryz.f3.params.toList++(OpenSpec.ofChange Rows.fnExactDeskSaySpec).bare.plain.varTypes prog++Tryz.f3.resultTypes.toList))=true:=by kernel_rfl
theorem and2{a b:Bool}(h:a=true)(k:b=true):(a&&b)=true:=by rw[h,k];rfl
theorem facts:joinedFacts prog 3 Tryz.f3 ((OpenSpec.ofChange Rows.fnExactDeskSaySpec).bare) Rows.fnExactDeskSayRow=true:=by
 unfold joinedFacts;exact(and2 (and2 (and2 (and2 (and2 (and2 (and2 (and2 (and2 (and2 (and2 (and2 (and2 (and2 (and2 (and2 (and2 (and2 (and2 (and2 (and2 (and2 (and2 (and2 (and2 (and2 (and2 (and2 (and2 (and2 (and2 jf0 jf1) jf2) jf3) jf4) jf5) jf6) jf7) jf8) jf9) jf10) jf11) jf12) jf13) jf14) jf15) jf16) jf17) jf18) jf19) jf20) jf21) jf22) jf23) jf24) jf25) jf26) jf27) jf28) jf29) jf30) jf31)
theorem wfT:Rows.fnExactDeskSayRow.wfByText (OpenSpec.ofChange Rows.fnExactDeskSaySpec)=true:=by kernel_rfl
theorem goesT:false=Rows.fnExactDeskSayRow.goesBy Tryz.pinned.checked.prog:=by kernel_rfl
end fnExactDeskSay
end Go.Proofs.YtfnnhimopokpnaaGreatDoor
