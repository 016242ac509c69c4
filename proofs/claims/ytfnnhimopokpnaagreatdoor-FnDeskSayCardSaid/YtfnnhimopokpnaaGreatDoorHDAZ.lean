/- Lemmas for this seat; no condition. -/
import Derived.Test.YtfnnhimopokpnaaGreatDoorHDAB
import Derived.LaidMore
import Derived.Stop.Joined
import Derived.OpenVars
import Derived.Stop.LaidErr
namespace Go.Proofs.YtfnnhimopokpnaaGreatDoor
open Go.RowKit Proofs.Tryz
set_option maxRecDepth 100000
set_option maxHeartbeats 0
set_option linter.all false
section
open Go.ChangeShapes Go.WideShapes Go.ChangeAt Go.WideElems Go.RowKit Go.Maps
theorem zw5{w:World}(h:w.ShapedOpen prog):∃ m,w.cell? (p_ 4 0)=some (.int .i64 m):=
 cell_of_shapedOpen_int (zero:=#[.int .i64 0]) (t:=3) h (av_ (by kernel_rfl)) (by kernel_rfl) rfl (by kernel_rfl) (by kernel_rfl) underlying3
theorem zuk : Tryz.prog.globalNamed "loop.example/kleenetests/impl.testNames" = some 0 := by kernel_rfl
theorem zy4:(Tryz.prog.globals[0]?).map (·.type)=some 109:=by kernel_rfl
theorem zwv : Tryz.prog.globalNamed "loop.example/kleenetests/impl.ruleTexts" = some 1 := by kernel_rfl
theorem zzr:(Tryz.prog.globals[1]?).map (·.type)=some 26:=by kernel_rfl
theorem keyT:Keyed prog 3:=int_keyed underlying3
theorem zeroS(w:World):(zeroValue 9).run prog w=.ok (.string ⟨#[]⟩) w:=by kernel_rfl
theorem zyk(t:Nat)(ht:t<16):(Rows.laid_loop_example_kleenetests_impl_testNames:DataW Unit).atKey (.int .i64 t) .nil=(match zej t with | some s=>.lit (.string s) | none=>.nil):=by
 have h1:t=0\/t=1\/t=2\/t=3\/t=4\/t=5\/t=6\/t=7\/t=8\/t=9\/t=10\/t=11\/t=12\/t=13\/t=14\/t=15:=by omega
 clear ht;rcases h1 with rfl|rfl|rfl|rfl|rfl|rfl|rfl|rfl|rfl|rfl|rfl|rfl|rfl|rfl|rfl|rfl
 all_goals rfl
theorem zyx:(Rows.laid_loop_example_kleenetests_impl_ruleTexts:DataW Unit)=.slice (zcp.map λl=>.lit (.string l)) []:=by rfl
theorem ztx {W : World} (h : laidMet prog [("loop.example/kleenetests/impl.testNames", Rows.laid_loop_example_kleenetests_impl_testNames), ("loop.example/kleenetests/impl.ruleTexts", Rows.laid_loop_example_kleenetests_impl_ruleTexts)] W) (hSh : W.ShapedOpen prog) : zax W := by
 obtain⟨ps,⟨g0,t0,cs0,f0,p0,q0,hg0,ht0,hv0,hd0,⟨g1,t1,cs1,f1,p1,q1,hg1,ht1,hv1,hd1,_,_⟩,_⟩,_,_⟩:=h;obtain rfl:=c1_ (zuk.symm.trans hg0);obtain rfl:=c1_ (zwv.symm.trans hg1);obtain rfl:=c1_ (zy4.symm.trans ht0);obtain rfl:=c1_ (zzr.symm.trans ht1);refine⟨?_,?_,zw5 hSh⟩
 ·rcases open_map underlying109 hd0 with⟨_,hx⟩|⟨bm,es,clock,m,_,hcs,hb,_,F,hx⟩
  ·simp[Rows.laid_loop_example_kleenetests_impl_testNames]at hx
  simp only[bf_]at hx
  have hcell:W.cell? (p_ 0 0)=some (.map (some bm)):=by
   have:=ed_ hg0 hv0 0;rw[Array.eq_one_of_toList hcs]at this
   simpa using this
  have hown:=World.ownsMap_of_fit (R:=plainElem prog 9) hb F (λx _ z hz=>elemAt_plainElem_string underlying9 hz);rw[<-hx.1]at hown;obtain⟨es',cl',hb2,F',_,hD⟩:=hown;refine⟨bm,hcell,(L_.1 hb2).1,λw' hw t ht=>?_⟩;have hL:=zyk t ht;rw[hD]at hL;rcases fit_look true keyT underlying109 (zeroS w') (hw.trans hb2) F' (keyOf_int_mk underlying3 (dg_ (n:=(t:Int)) ⟨by omega,by omega⟩)) with⟨hrun,_,hat⟩|⟨e0,y,_,_,hrun,hRv,hat,_⟩
  ·rw[hat .nil]at hL
   cases hn:zej t with
   | none=>exact hrun
   | some s=>rw[hn] at hL;cases hL
  ·obtain⟨s,hs,hy,_⟩:=plainElem_string_inv underlying9 hRv
   rw[hat .nil,hy]at hL;cases hn:zej t with
   | none=>rw[hn] at hL;cases hL
   | some s'=>
    rw[hn]at hL;injection hL with hL;injection hL with hL;subst hL;rw[hrun,hs];rfl
 ·rw[zyx]at hd1
  obtain⟨a,cap,hcs,_,hel⟩:=open_row underlying26 (by kernel_rfl) hd1;have hlen:(zcp.map λl=>(DataW.lit (.string l):DataW Unit)).length=21:=by simp[zcp]
  rw[hlen]at hcs
  have hget:∀ j,j<21->W.cell? (a.add j)=some (.string ⟨(zcp.getD j []).toArray⟩):=by
   intro j hj;have hjl:j<zcp.length:=hj;obtain⟨v,n,q,h1,h2⟩:=hel j (.lit (.string (zcp.getD j []))) (by simp[List.getD,hjl]);obtain⟨s,hs1,hs2,_⟩:=DataW.trod_string underlying9 h2;injection hs1 with hs1 _;subst hs1;injection hs2 with hs2 _;injection hs2 with hs2;injection hs2 with hs2;rw[h1,hs2]
  obtain⟨rb,off,sp⟩:=a
  have hsp:sp=none:=by
   have h0:=hget 0 (by omega);have h1:=zn0 h0
   simpa [Addr.add] using h1
  subst hsp;refine⟨rb,off,cap,?_,λj hj=>?_⟩
  ·have:=ed_ hg1 hv1 0
   rw[Array.eq_one_of_toList hcs]at this
   simpa using this
  ·have h:=hget j hj
   rwa [a5_]at h
end
end Go.Proofs.YtfnnhimopokpnaaGreatDoor
