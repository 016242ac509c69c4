/- Lemmas for this seat; no condition. -/
import Derived.Test.YtfnnhimopokpnaaGreatDoorCards
import Derived.Test.YtfnnhimopokpnaaGreatDoorHABH
import Derived.Test.YtfnnhimopokpnaaGreatDoorHABI
import Derived.Test.YtfnnhimopokpnaaGreatDoorHABJ
import Derived.Test.YtfnnhimopokpnaaGreatDoorTie
import Derived.Deep.DeepWitnessRowRef
namespace Go.Proofs.YtfnnhimopokpnaaGreatDoor
open Go.RowKit
set_option maxRecDepth 100000
set_option maxHeartbeats 0
set_option linter.unusedVariables false
section
namespace fnExactDeskLine
open Go.ChangeShapes Go.WideShapes Go.ChangeAt Go.RowKit
open Go.ChangeMaps (open_string shut_string)
theorem contract (H:Type) (enc:TypeId × Value→H) (W:World) (base:Nat) (args:Array Value) (ds gs:List (DataW H)) (before:List MemPlace)
  (hval:∀ (j:Nat) t v,Tryz.f6.params[j]?=some t→args[j]?=some v→Value.okWide Tryz.prog W .any base t v)
  (hW:DataW.Whole enc Tryz.prog Tryz.f6.params.toList Rows.fnExactDeskLineSpec.vars false W args.toList ds gs before) (hL:laidMetH Tryz.prog Rows.fnExactDeskLineRow.laid W) (hSh:W.ShapedOpen Tryz.prog) :
  Calls Tryz.prog 6 args W fun e W'=>∃ v,e=.returned v∧Rows.fnExactDeskLineSpec.post enc Tryz.prog Tryz.f6 false true false false W args v W':=by
 have hW':=hW
 obtain ⟨p,q,hA0,hV,rfl,hfz,hnd⟩:=hW
 have hA:DataW.TrodAll enc Tryz.prog W 0 (fun _=>true) true Tryz.f6.params.toList args.toList ds p:=hA0
 rw [Tryz.params6] at hA hval
 obtain ⟨v0,vs0,d0,ds0,p0,q0,hargs,rfl,rfl,h0,r0⟩:=trodAll_cons hA
 obtain ⟨v1,vs1,d1,ds1,p1,q1,rfl,rfl,rfl,h1,r1⟩:=trodAll_cons r0
 obtain ⟨rfl,rfl,rfl⟩:=trodAll_nil r1
 obtain rfl:args=#[v0,v1]:=by cases args;simp_all
 have hV2 : DataW.TrodVars enc Tryz.prog W (fun _ => true) ["loop.example/kleenetests/impl.ruleTexts", "loop.example/kleenetests/impl.testNames"] gs q := hV
 have hV3:=hV2
 obtain ⟨_,_,_,_,g0,_,_,_,_,_,g1,_,rfl,_⟩:=trodVars_two hV2
 have k0:=h0
 have lt0:∀ x∈p0,x.block<W.heap.size:=by obtain ⟨m,hm⟩:=k0;exact DataW.trod_lt m _ _ _ hm
 obtain ⟨a0,b0,c0,e0,D0,rfl,s0⟩:=open_desk (hval 0 25 v0 rfl rfl) h0
 have k1:=h1
 have lt1:∀ x∈p1,x.block<W.heap.size:=by obtain ⟨m,hm⟩:=k1;exact DataW.trod_lt m _ _ _ hm
 obtain ⟨s1,rfl,rfl,rfl,ws1⟩:=open_string Tryz.underlying9 (hval 1 9 v1 rfl rfl) h1
 clear hA0
 have hL':laidMet Tryz.prog Rows.fnExactDeskLineRow.laid W:=hL
 have hE:Env W:=⟨most_of hSh,err_of (g:=2) hL'.tail.tail.tail.tail (by kernel_rfl) (by kernel_rfl),err_of (g:=3) hL'.tail.tail.tail (by kernel_rfl) (by kernel_rfl)⟩
 have hL2:laidMet Tryz.prog Rows.fnExactDeskLineRow.laid W:=hL
 refine (law_FnExactDeskLine _ _ _ _ D0 s1   W s0 ws1 hE (envK_of hL2.tail.tail.tail.tail.tail hSh)).mono fun e W' ⟨he,bel⟩=>?_
 subst he
 exact ⟨_,rfl,_,_,_,[],_,_,hW',trodAll_mk1 (shut_bool Tryz.underlying4 _),(trodAll_cons_mk (Below.trod laidOut (by kernel_rfl) (of_decide_eq_true (by kernel_rfl)) k0 bel lt0) (trodAll_cons_mk (Below.trod laidOut (by kernel_rfl) (of_decide_eq_true (by kernel_rfl)) k1 bel lt1) trodAll_mk0)),Below.trodVars laidOut bel (by kernel_rfl) hV3,bel.frame _,fun h=>by cases h⟩
noncomputable def laidWorld (os:Os):World:=World.doorLaid Tryz.prog 400 os
theorem laid_met (os:Os):laidMetH Tryz.prog Rows.fnExactDeskLineRow.laid ((laidWorld os).forCall (fun _ _=>0) ⟨#[],#[(.agg #[.slice none 0 0,.slice none 0 0,.slice none 0 0,.slice none 0 0]:Value),(.string ⟨#[]⟩:Value)],[]⟩).memory:=
 laidMetH_of_parts3 (fuel:=12) (laidMet_of_run' 12 (by kernel_rfl) (by kernel_rfl)) (by kernel_rfl) (by kernel_rfl)
noncomputable def walked (os:Os) {H:Type} (enc:TypeId × Value→H):List MemPlace:=((DataW.whole enc Tryz.prog ((laidWorld os).forCall (fun _ _=>0) ⟨#[],#[(.agg #[.slice none 0 0,.slice none 0 0,.slice none 0 0,.slice none 0 0]:Value),(.string ⟨#[]⟩:Value)],[]⟩).memory Tryz.f6.params.toList Rows.fnExactDeskLineSpec.vars false #[(.agg #[.slice none 0 0,.slice none 0 0,.slice none 0 0,.slice none 0 0]:Value),(.string ⟨#[]⟩:Value)].toList 12).map (·.2.2)).getD []
theorem reads (os:Os) {H:Type} (enc:TypeId × Value→H):DataW.whole enc Tryz.prog ((laidWorld os).forCall (fun _ _=>0) ⟨#[],#[(.agg #[.slice none 0 0,.slice none 0 0,.slice none 0 0,.slice none 0 0]:Value),(.string ⟨#[]⟩:Value)],[]⟩).memory Tryz.f6.params.toList Rows.fnExactDeskLineSpec.vars false #[(.agg #[.slice none 0 0,.slice none 0 0,.slice none 0 0,.slice none 0 0]:Value),(.string ⟨#[]⟩:Value)].toList 12=some ([.agg [.nil,.nil,.nil,.nil],.lit (.string [])],[Rows.laid_loop_example_kleenetests_impl_ruleTexts,Rows.laid_loop_example_kleenetests_impl_testNames],walked os enc):=by kernel_rfl
theorem lifted (os:Os) (started:os.Started) (H:Type) (enc:TypeId × Value→H) (F:Stop.Interp) :
  ReturnsInHanded {} Tryz.checked os 6 .any ((OpenSpec.ofChange Rows.fnExactDeskLineSpec).preRow enc Tryz.prog Tryz.f6 Rows.fnExactDeskLineRow.domain false Rows.fnExactDeskLineRow.laid) (((OpenSpec.ofChange Rows.fnExactDeskLineSpec).at F).post enc Tryz.prog Tryz.f6 false true false false):=by
 have hx:=reads os enc
 refine returnsInHanded_of_row (C:=Tryz.checked) (s:=OpenSpec.ofChange Rows.fnExactDeskLineSpec) own started (by kernel_rfl) Tryz.func6
  (witness_row_atRef (enc:=enc) (C:=Tryz.checked) false (laidWorld os) #[(.agg #[.slice none 0 0,.slice none 0 0,.slice none 0 0,.slice none 0 0]:Value),(.string ⟨#[]⟩:Value)] rfl (by kernel_rfl) (by kernel_rfl) (by kernel_rfl)
   (OpenSpec.preRow_of_cond 12 hx (by kernel_rfl) (fun k hk=>by cases hk) (by kernel_rfl) (laid_met os))) ?_
 intro W base args ds gs before hval hW _ _ _ hL hSh _
 exact contract H enc W base args ds gs before hval hW hL hSh
theorem said:Rows.FnExactDeskLineSaid:=
 OpenClaim.holds_of_cond 6 Tryz.f6 rfl rfl rfl rfl rfl rfl rfl ⟨rfl,rfl,rfl,rfl,rfl⟩ rfl rfl rfl rfl rfl (by kernel_rfl) Tryz.func6 facts
  (of_decide_eq_true (by kernel_rfl)) (by unfold Func.isWrapper;first | (rw [if_pos (by decide +kernel)];kernel_rfl) | (rw [if_neg (by decide +kernel)];exact ⟨rfl,rfl⟩))
  (fun os started H enc _ F=>by rw [OpenClaim.pre_eq_preRow];exact lifted os started H enc F)
theorem plain (f : FuncId) (fn : Func) (hf : Tryz.pinned.checked.prog.funcNamed "loop.example/kleenetests/laws.FnExactDeskLine" = some f) (hfn : Tryz.pinned.checked.prog.funcs[f]? = some fn) :
  true=Tryz.pinned.checked.prog.looks []∧∀ (j:Nat) t,fn.params[j]?=some t→Tryz.pinned.checked.prog.wantsStandIn t=false:=by
 obtain rfl : f = 6 := Option.some.inj ((show Tryz.prog.funcNamed "loop.example/kleenetests/laws.FnExactDeskLine" = some 6 by kernel_rfl).symm.trans hf) |>.symm
 obtain rfl:fn=Tryz.f6:=(Option.some.inj (Tryz.func6.symm.trans hfn)).symm
 refine ⟨by kernel_rfl,fun j t ht=>?_⟩
 rw [Tryz.params6] at ht
 have hm:t=25∨t=9:=by simpa using Array.mem_of_getElem? ht
 rcases hm with rfl|rfl
 ·exact (show Tryz.prog.wantsStandIn 25=false by kernel_rfl)
 ·exact (show Tryz.prog.wantsStandIn 9=false by kernel_rfl)
theorem card:Rows.FnExactDeskLineCardSaid:=
 Claim7.holds_tied_plain_at .later [] _ _ _ _ said (fun _ h=>by cases h) wfT (fun _ h=>by cases h) fnExactDeskLine_row_tie rfl ⟨rfl,rfl⟩ (by kernel_rfl) rfl plain goesT
end fnExactDeskLine
theorem fnExactDeskLine_holds:Rows.FnExactDeskLineCardSaid:=fnExactDeskLine.card
#print axioms fnExactDeskLine_holds
end
end Go.Proofs.YtfnnhimopokpnaaGreatDoor
