/- Lemmas for this seat; no condition. -/
import Derived.Test.YtfnnhimopokpnaaGreatDoorCards
import Derived.Test.YtfnnhimopokpnaaGreatDoorHDAX
import Derived.Test.YtfnnhimopokpnaaGreatDoorHDAY
import Derived.Test.YtfnnhimopokpnaaGreatDoorHDAZ
import Derived.Test.YtfnnhimopokpnaaGreatDoorTie
import Derived.Deep.DeepWitnessRowRef
namespace Go.Proofs.YtfnnhimopokpnaaGreatDoor
open Go.RowKit Proofs.Tryz
set_option maxRecDepth 100000
set_option maxHeartbeats 0
set_option linter.all false
section
namespace fnDeskSay
open Go.ChangeShapes Go.WideShapes Go.ChangeAt Go.RowKit
open Go.ChangeMaps (open_string shut_string)
theorem contract(H:Type)(enc:TypeId × Value->H)(W:World)(base:Nat)(args:Array Value)(ds gs:List (DataW H))(before:List MemPlace)
  (hval:∀ (j:Nat) t v,Tryz.f5.params[j]?=some t->args[j]?=some v->Value.okWide prog W .any base t v)
  (hW:DataW.Whole enc prog Tryz.f5.params.toList Rows.fnDeskSaySpec.vars false W args.toList ds gs before) (hL:laidMetH prog Rows.fnDeskSayRow.laid W) (hSh:W.ShapedOpen prog) :
  Calls prog 5 args W λe W'=>∃ v,e=.returned v/\Rows.fnDeskSaySpec.post enc prog Tryz.f5 false true false false W args v W':=by
 have hW':=hW;obtain⟨p,q,hA0,hV,rfl,hfz,hnd⟩:=hW;have hA:DataW.TrodAll enc prog W 0 (λ_=>true) true Tryz.f5.params.toList args.toList ds p:=hA0;rw[params5]at hA hval;obtain⟨v0,vs0,d0,ds0,p0,q0,hargs,rfl,rfl,h0,r0⟩:=trodAll_cons hA;obtain⟨rfl,rfl,rfl⟩:=trodAll_nil r0;obtain rfl:args=#[v0]:=by cases args;simp_all
 have hV2 : DataW.TrodVars enc prog W (fun _ => true) ["loop.example/kleenetests/impl.ruleTexts", "loop.example/kleenetests/impl.testNames"] gs q := hV
 have hV3:=hV2;obtain⟨_,_,_,_,g0,_,_,_,_,_,g1,_,rfl,_⟩:=trodVars_two hV2;have k0:=h0;have lt0:∀ x∈p0,x.block<W.heap.size:=by obtain⟨m,hm⟩:=k0;exact DataW.trod_lt m _ _ _ hm
 obtain⟨a0,len0,cap0,rfl⟩:=okWide_slice underlying40 (hval 0 40 v0 rfl rfl)
 obtain⟨z0,w0⟩:∃ zs,zh7 .u8 W a0 len0 cap0 zs:=by
  obtain⟨fuel,hf⟩:=h0;rcases open_ints underlying40 underlying5 (by kernel_rfl) hf with⟨hcs,_⟩|⟨x,l,c,zs,hcs,_,hl,hm,hz,_,hcell,hwz⟩
  ·simp[Value.cells]at hcs
   obtain⟨rfl,rfl,rfl⟩:=hcs;exact⟨[],.inl ⟨rfl,rfl,rfl,rfl⟩⟩
  ·simp[Value.cells]at hcs
   obtain⟨rfl,rfl,rfl⟩:=hcs;exact⟨zs,.inr ⟨_,rfl,hl,hm,by simpa using hz,hcell,hwz⟩⟩
 obtain⟨xs0,s0⟩:=w0.bytes;clear hA0;have hL':laidMet prog Rows.fnDeskSayRow.laid W:=hL;have hE:Env W:=⟨ztd hSh,zq9 (g:=2) hL'.tail.tail.tail.tail (by kernel_rfl) (by kernel_rfl),zq9 (g:=3) hL'.tail.tail.tail (by kernel_rfl) (by kernel_rfl)⟩;have hL2:laidMet prog Rows.fnDeskSayRow.laid W:=hL;refine(zwx _ xs0   W s0 hE (ztx hL2.tail.tail.tail.tail.tail hSh)).mono λe W' ⟨he,bel⟩=>?_
 subst he;exact⟨_,rfl,_,_,_,[],_,_,hW',trodAll_mk1 (shut_bool underlying4 _),(trodAll_cons_mk (Below.trod zl0 (by kernel_rfl) (av_ (by kernel_rfl)) k0 bel lt0) trodAll_mk0),Below.trodVars zl0 bel (by kernel_rfl) hV3,bel.frame _,λh=>by cases h⟩
noncomputable def laidWorld(os:Os):World:=World.doorLaid prog 400 os
theorem laid_met(os:Os):laidMetH prog Rows.fnDeskSayRow.laid ((laidWorld os).forCall (λ_ _=>0) ⟨#[],#[(.slice none 0 0:Value)],[]⟩).memory:=
 laidMetH_of_parts3 (fuel:=12) (laidMet_of_run' 12 (by kernel_rfl) (by kernel_rfl)) (by kernel_rfl) (by kernel_rfl)
noncomputable def walked(os:Os){H:Type}(enc:TypeId × Value->H):List MemPlace:=((DataW.whole enc prog ((laidWorld os).forCall (λ_ _=>0) ⟨#[],#[(.slice none 0 0:Value)],[]⟩).memory Tryz.f5.params.toList Rows.fnDeskSaySpec.vars false #[(.slice none 0 0:Value)].toList 12).map (·.2.2)).getD []
theorem reads(os:Os){H:Type}(enc:TypeId × Value->H):DataW.whole enc prog ((laidWorld os).forCall (λ_ _=>0) ⟨#[],#[(.slice none 0 0:Value)],[]⟩).memory Tryz.f5.params.toList Rows.fnDeskSaySpec.vars false #[(.slice none 0 0:Value)].toList 12=some ([.nil],[Rows.laid_loop_example_kleenetests_impl_ruleTexts,Rows.laid_loop_example_kleenetests_impl_testNames],walked os enc):=by kernel_rfl
theorem lifted(os:Os)(started:os.Started)(H:Type)(enc:TypeId × Value->H)(F:Stop.Interp):
  ReturnsInHanded {} Tryz.checked os 5 .any ((OpenSpec.ofChange Rows.fnDeskSaySpec).preRow enc prog Tryz.f5 Rows.fnDeskSayRow.domain false Rows.fnDeskSayRow.laid) (((OpenSpec.ofChange Rows.fnDeskSaySpec).at F).post enc prog Tryz.f5 false true false false):=by
 have hx:=reads os enc
 refine returnsInHanded_of_row (C:=Tryz.checked) (s:=OpenSpec.ofChange Rows.fnDeskSaySpec) own started (by kernel_rfl) func5
  (witness_row_atRef (enc:=enc) (C:=Tryz.checked) false (laidWorld os) #[(.slice none 0 0:Value)] rfl (by kernel_rfl) (by kernel_rfl) (by kernel_rfl)
   (OpenSpec.preRow_of_cond 12 hx (by kernel_rfl) (λk hk=>by cases hk) (by kernel_rfl) (laid_met os))) ?_
 intro W base args ds gs before hval hW _ _ _ hL hSh _;exact contract H enc W base args ds gs before hval hW hL hSh
theorem said:Rows.FnDeskSaySaid:=
 OpenClaim.holds_of_cond 5 Tryz.f5 rfl rfl rfl rfl rfl rfl rfl ⟨rfl,rfl,rfl,rfl,rfl⟩ rfl rfl rfl rfl rfl (by kernel_rfl) func5 facts
  (av_ (by kernel_rfl)) (by unfold Func.isWrapper;first | (rw[x_ (by decide +kernel)];kernel_rfl) | (rw[m_ (by decide +kernel)];exact⟨rfl,rfl⟩))
  (λos started H enc _ F=>by rw[OpenClaim.pre_eq_preRow];exact lifted os started H enc F)
theorem plain (f : FuncId) (fn : Func) (hf : Tryz.pinned.checked.prog.funcNamed "loop.example/kleenetests/laws.FnDeskSay" = some f) (hfn : Tryz.pinned.checked.prog.funcs[f]? = some fn):true=Tryz.pinned.checked.prog.looks []/\∀ (j:Nat) t,fn.params[j]?=some t->Tryz.pinned.checked.prog.wantsStandIn t=false:=by
 obtain rfl : f = 5 := Option.some.inj ((show Tryz.prog.funcNamed "loop.example/kleenetests/laws.FnDeskSay" = some 5 by kernel_rfl).symm.trans hf) |>.symm
 obtain rfl:fn=Tryz.f5:=(c1_ (Tryz.func5.symm.trans hfn)).symm;refine⟨by kernel_rfl,λj t ht=>?_⟩;rw[params5]at ht;obtain rfl:t=40:=by simpa using Array.mem_of_getElem? ht
 exact(show Tryz.prog.wantsStandIn 40=false by kernel_rfl)
theorem card:Rows.FnDeskSayCardSaid:=
 Claim7.holds_tied_plain_at .later [] _ _ _ _ said (λ_ h=>by cases h) wfT (λ_ h=>by cases h) fnDeskSay_row_tie rfl ⟨rfl,rfl⟩ (by kernel_rfl) rfl plain goesT
end fnDeskSay
theorem fnDeskSay_holds:Rows.FnDeskSayCardSaid:=fnDeskSay.card
#print axioms fnDeskSay_holds
end
end Go.Proofs.YtfnnhimopokpnaaGreatDoor
