/- Lemmas for this seat; no condition. -/
import Derived.Test.YtfnnhimopokpnaaGreatDoorCards
import Derived.Test.YtfnnhimopokpnaaGreatDoorHBAX
import Derived.Test.YtfnnhimopokpnaaGreatDoorHBAY
import Derived.Test.YtfnnhimopokpnaaGreatDoorHBAZ
import Derived.Test.YtfnnhimopokpnaaGreatDoorTie
import Derived.Deep.DeepWitnessRowRef
namespace Go.Proofs.YtfnnhimopokpnaaGreatDoor
open Go.RowKit Proofs.Tryz
set_option maxRecDepth 100000
set_option maxHeartbeats 0
set_option linter.all false
section
namespace fnExactDeskSay
open Go.ChangeShapes Go.WideShapes Go.ChangeAt Go.RowKit
open Go.ChangeMaps (open_string shut_string)
theorem contract(H:Type)(enc:TypeId × Value->H)(W:World)(base:Nat)(args:Array Value)(ds gs:List (DataW H))(before:List MemPlace)
  (hval:∀ (j:Nat) t v,Tryz.f3.params[j]?=some t->args[j]?=some v->Value.okWide prog W .any base t v)
  (hW:DataW.Whole enc prog Tryz.f3.params.toList Rows.fnExactDeskSaySpec.vars false W args.toList ds gs before) (hL:laidMetH prog Rows.fnExactDeskSayRow.laid W) (hSh:W.ShapedOpen prog) :
  Calls prog 3 args W λe W'=>∃ v,e=.returned v/\Rows.fnExactDeskSaySpec.post enc prog Tryz.f3 false true false false W args v W':=by
 have hW':=hW;obtain⟨p,q,hA0,hV,rfl,hfz,hnd⟩:=hW;have hA:DataW.TrodAll enc prog W 0 (λ_=>true) true Tryz.f3.params.toList args.toList ds p:=hA0;rw[params3]at hA hval;obtain⟨v0,vs0,d0,ds0,p0,q0,hargs,rfl,rfl,h0,r0⟩:=trodAll_cons hA;obtain⟨v1,vs1,d1,ds1,p1,q1,rfl,rfl,rfl,h1,r1⟩:=trodAll_cons r0;obtain⟨rfl,rfl,rfl⟩:=trodAll_nil r1;obtain rfl:args=#[v0,v1]:=by cases args;simp_all
 have hV2 : DataW.TrodVars enc prog W (fun _ => true) ["loop.example/kleenetests/impl.ruleTexts", "loop.example/kleenetests/impl.testNames"] gs q := hV
 have hV3:=hV2;obtain⟨_,_,_,_,g0,_,_,_,_,_,g1,_,rfl,_⟩:=trodVars_two hV2;have k0:=h0;have lt0:∀ x∈p0,x.block<W.heap.size:=by obtain⟨m,hm⟩:=k0;exact DataW.trod_lt m _ _ _ hm
 obtain⟨a0,b0,c0,e0,D0,rfl,s0⟩:=ztt (hval 0 25 v0 rfl rfl) h0;have k1:=h1;have lt1:∀ x∈p1,x.block<W.heap.size:=by obtain⟨m,hm⟩:=k1;exact DataW.trod_lt m _ _ _ hm
 obtain⟨xs1,s1,m1⟩:=zx4 (hval 1 26 v1 rfl rfl) h1;clear hA0;have hL':laidMet prog Rows.fnExactDeskSayRow.laid W:=hL;have hE:Env W:=⟨zta hSh,zon (g:=2) hL'.tail.tail.tail.tail (by kernel_rfl) (by kernel_rfl),zon (g:=3) hL'.tail.tail.tail (by kernel_rfl) (by kernel_rfl)⟩;have hL2:laidMet prog Rows.fnExactDeskSayRow.laid W:=hL;refine(zsh _ _ _ _ D0 _ xs1   W s0 s1 m1 hE (zzi hL2.tail.tail.tail.tail.tail hSh)).mono λe W' ⟨he,bel⟩=>?_
 subst he;exact⟨_,rfl,_,_,_,[],_,_,hW',trodAll_mk1 (shut_bool underlying4 _),(trodAll_cons_mk (Below.trod ziw (by kernel_rfl) (aa_ (by kernel_rfl)) k0 bel lt0) (trodAll_cons_mk (Below.trod ziw (by kernel_rfl) (aa_ (by kernel_rfl)) k1 bel lt1) trodAll_mk0)),Below.trodVars ziw bel (by kernel_rfl) hV3,bel.frame _,λh=>by cases h⟩
noncomputable def laidWorld(os:Os):World:=World.doorLaid prog 400 os
theorem laid_met(os:Os):laidMetH prog Rows.fnExactDeskSayRow.laid ((laidWorld os).forCall (λ_ _=>0) ⟨#[],#[(.agg #[.slice none 0 0,.slice none 0 0,.slice none 0 0,.slice none 0 0]:Value),(.slice none 0 0:Value)],[]⟩).memory:=
 laidMetH_of_parts3 (fuel:=12) (laidMet_of_run' 12 (by kernel_rfl) (by kernel_rfl)) (by kernel_rfl) (by kernel_rfl)
noncomputable def walked(os:Os){H:Type}(enc:TypeId × Value->H):List MemPlace:=((DataW.whole enc prog ((laidWorld os).forCall (λ_ _=>0) ⟨#[],#[(.agg #[.slice none 0 0,.slice none 0 0,.slice none 0 0,.slice none 0 0]:Value),(.slice none 0 0:Value)],[]⟩).memory Tryz.f3.params.toList Rows.fnExactDeskSaySpec.vars false #[(.agg #[.slice none 0 0,.slice none 0 0,.slice none 0 0,.slice none 0 0]:Value),(.slice none 0 0:Value)].toList 12).map (·.2.2)).getD []
theorem reads(os:Os){H:Type}(enc:TypeId × Value->H):DataW.whole enc prog ((laidWorld os).forCall (λ_ _=>0) ⟨#[],#[(.agg #[.slice none 0 0,.slice none 0 0,.slice none 0 0,.slice none 0 0]:Value),(.slice none 0 0:Value)],[]⟩).memory Tryz.f3.params.toList Rows.fnExactDeskSaySpec.vars false #[(.agg #[.slice none 0 0,.slice none 0 0,.slice none 0 0,.slice none 0 0]:Value),(.slice none 0 0:Value)].toList 12=some ([.agg [.nil,.nil,.nil,.nil],.nil],[Rows.laid_loop_example_kleenetests_impl_ruleTexts,Rows.laid_loop_example_kleenetests_impl_testNames],walked os enc):=by kernel_rfl
theorem lifted(os:Os)(started:os.Started)(H:Type)(enc:TypeId × Value->H)(F:Stop.Interp):
  ReturnsInHanded {} Tryz.checked os 3 .any ((OpenSpec.ofChange Rows.fnExactDeskSaySpec).preRow enc prog Tryz.f3 Rows.fnExactDeskSayRow.domain false Rows.fnExactDeskSayRow.laid) (((OpenSpec.ofChange Rows.fnExactDeskSaySpec).at F).post enc prog Tryz.f3 false true false false):=by
 have hx:=reads os enc
 refine returnsInHanded_of_row (C:=Tryz.checked) (s:=OpenSpec.ofChange Rows.fnExactDeskSaySpec) own started (by kernel_rfl) func3
  (witness_row_atRef (enc:=enc) (C:=Tryz.checked) false (laidWorld os) #[(.agg #[.slice none 0 0,.slice none 0 0,.slice none 0 0,.slice none 0 0]:Value),(.slice none 0 0:Value)] rfl (by kernel_rfl) (by kernel_rfl) (by kernel_rfl)
   (OpenSpec.preRow_of_cond 12 hx (by kernel_rfl) (λk hk=>by cases hk) (by kernel_rfl) (laid_met os))) ?_
 intro W base args ds gs before hval hW _ _ _ hL hSh _;exact contract H enc W base args ds gs before hval hW hL hSh
theorem said:Rows.FnExactDeskSaySaid:=
 OpenClaim.holds_of_cond 3 Tryz.f3 rfl rfl rfl rfl rfl rfl rfl ⟨rfl,rfl,rfl,rfl,rfl⟩ rfl rfl rfl rfl rfl (by kernel_rfl) func3 facts
  (aa_ (by kernel_rfl)) (by unfold Func.isWrapper;first | (rw[l_ (by decide +kernel)];kernel_rfl) | (rw[j_ (by decide +kernel)];exact⟨rfl,rfl⟩))
  (λos started H enc _ F=>by rw[OpenClaim.pre_eq_preRow];exact lifted os started H enc F)
theorem plain (f : FuncId) (fn : Func) (hf : Tryz.pinned.checked.prog.funcNamed "loop.example/kleenetests/laws.FnExactDeskSay" = some f) (hfn : Tryz.pinned.checked.prog.funcs[f]? = some fn):true=Tryz.pinned.checked.prog.looks []/\∀ (j:Nat) t,fn.params[j]?=some t->Tryz.pinned.checked.prog.wantsStandIn t=false:=by
 obtain rfl : f = 3 := Option.some.inj ((show Tryz.prog.funcNamed "loop.example/kleenetests/laws.FnExactDeskSay" = some 3 by kernel_rfl).symm.trans hf) |>.symm
 obtain rfl:fn=Tryz.f3:=(cg_ (Tryz.func3.symm.trans hfn)).symm;refine⟨by kernel_rfl,λj t ht=>?_⟩;rw[params3]at ht;have hm:t=25\/t=26:=by simpa using Array.mem_of_getElem? ht
 rcases hm with rfl|rfl
 ·exact(show Tryz.prog.wantsStandIn 25=false by kernel_rfl)
 ·exact(show Tryz.prog.wantsStandIn 26=false by kernel_rfl)
theorem card:Rows.FnExactDeskSayCardSaid:=
 Claim7.holds_tied_plain_at .later [] _ _ _ _ said (λ_ h=>by cases h) wfT (λ_ h=>by cases h) fnExactDeskSay_row_tie rfl ⟨rfl,rfl⟩ (by kernel_rfl) rfl plain goesT
end fnExactDeskSay
theorem fnExactDeskSay_holds:Rows.FnExactDeskSayCardSaid:=fnExactDeskSay.card
#print axioms fnExactDeskSay_holds
end
end Go.Proofs.YtfnnhimopokpnaaGreatDoor
