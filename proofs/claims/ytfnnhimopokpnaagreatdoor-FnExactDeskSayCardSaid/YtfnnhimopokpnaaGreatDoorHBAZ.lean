/- Lemmas for this seat; no condition. -/
import Derived.Test.YtfnnhimopokpnaaGreatDoorHBAL
import Derived.LaidMore
import Derived.Stop.Joined
import Derived.OpenVars
namespace Go.Proofs.YtfnnhimopokpnaaGreatDoor
open Go.RowKit Proofs.Tryz
set_option maxRecDepth 100000
set_option maxHeartbeats 0
set_option linter.all false
variable {w:World} {H:Type} {base fuel b0:Nat} {held:Bool} {v:Value}
section
open Go.ChangeShapes Go.WideShapes Go.ChangeAt Go.WideElems Go.RowKit Go.Maps
theorem zya(h:w.ShapedOpen prog):∃ m,w.cell? (p_ 4 0)=some (.int .i64 m):=
 cell_of_shapedOpen_int (zero:=#[.int .i64 0]) (t:=3) h (aa_ (by kernel_rfl)) (by kernel_rfl) rfl (by kernel_rfl) (by kernel_rfl) underlying3
theorem zy2 : Tryz.prog.globalNamed "loop.example/kleenetests/impl.testNames" = some 0 := by kernel_rfl
theorem zti:(Tryz.prog.globals[0]?).map (·.type)=some 109:=by kernel_rfl
theorem zxi : Tryz.prog.globalNamed "loop.example/kleenetests/impl.ruleTexts" = some 1 := by kernel_rfl
theorem zy6:(Tryz.prog.globals[1]?).map (·.type)=some 26:=by kernel_rfl
theorem keyT:Keyed prog 3:=int_keyed underlying3
theorem zeroS(w:World):(zeroValue 9).run prog w=.ok (.string ⟨#[]⟩) w:=by kernel_rfl
theorem zui(t:Nat)(ht:t<16):(Rows.laid_loop_example_kleenetests_impl_testNames:DataW Unit).atKey (.int .i64 t) .nil=(match zd9 t with | some s=>.lit (.string s) | none=>.nil):=by
 have h1:t=0\/t=1\/t=2\/t=3\/t=4\/t=5\/t=6\/t=7\/t=8\/t=9\/t=10\/t=11\/t=12\/t=13\/t=14\/t=15:=by omega
 clear ht;rcases h1 with rfl|rfl|rfl|rfl|rfl|rfl|rfl|rfl|rfl|rfl|rfl|rfl|rfl|rfl|rfl|rfl
 all_goals rfl
theorem zur:(Rows.laid_loop_example_kleenetests_impl_ruleTexts:DataW Unit)=.slice (zb3.map λl=>.lit (.string l)) []:=by rfl
theorem zzi {W: World} (h : laidMet prog [("loop.example/kleenetests/impl.testNames", Rows.laid_loop_example_kleenetests_impl_testNames), ("loop.example/kleenetests/impl.ruleTexts", Rows.laid_loop_example_kleenetests_impl_ruleTexts)] W) (hSh : W.ShapedOpen prog) : zao W := by
 obtain⟨ps,⟨g0,t0,cs0,f0,p0,q0,hg0,ht0,hv0,hd0,⟨g1,t1,cs1,f1,p1,q1,hg1,ht1,hv1,hd1,_,_⟩,_⟩,_,_⟩:=h;obtain rfl:=cg_ (zy2.symm.trans hg0);obtain rfl:=cg_ (zxi.symm.trans hg1);obtain rfl:=cg_ (zti.symm.trans ht0);obtain rfl:=cg_ (zy6.symm.trans ht1);refine⟨?_,?_,zya hSh⟩
 ·rcases open_map underlying109 hd0 with⟨_,hx⟩|⟨bm,es,clock,m,_,hcs,hb,_,F,hx⟩
  ·simp[Rows.laid_loop_example_kleenetests_impl_testNames]at hx
  simp only[a8_]at hx
  have hcell:W.cell? (p_ 0 0)=some (.map (some bm)):=by
   have:=do_ hg0 hv0 0;rw[Array.eq_one_of_toList hcs]at this
   simpa using this
  have hown:=World.ownsMap_of_fit (R:=plainElem prog 9) hb F (λx _ z hz=>elemAt_plainElem_string underlying9 hz);rw[<-hx.1]at hown;obtain⟨es',cl',hb2,F',_,hD⟩:=hown;refine⟨bm,hcell,(v_.1 hb2).1,λw' hw t ht=>?_⟩;have hL:=zui t ht;rw[hD]at hL;rcases fit_look true keyT underlying109 (zeroS w') (hw.trans hb2) F' (keyOf_int_mk underlying3 (cv_ (n:=(t:Int)) ⟨by omega,by omega⟩)) with⟨hrun,_,hat⟩|⟨e0,y,_,_,hrun,hRv,hat,_⟩
  ·rw[hat .nil]at hL
   cases hn:zd9 t with
   | none=>exact hrun
   | some s=>rw[hn] at hL;cases hL
  ·obtain⟨s,hs,hy,_⟩:=plainElem_string_inv underlying9 hRv
   rw[hat .nil,hy]at hL;cases hn:zd9 t with
   | none=>rw[hn] at hL;cases hL
   | some s'=>
    rw[hn]at hL;injection hL with hL;injection hL with hL;subst hL;rw[hrun,hs];rfl
 ·rw[zur]at hd1
  obtain⟨a,cap,hcs,_,hel⟩:=open_row underlying26 (by kernel_rfl) hd1;have hlen:(zb3.map λl=>(DataW.lit (.string l):DataW Unit)).length=21:=by simp[zb3]
  rw[hlen]at hcs
  have hget:∀ j,j<21->W.cell? (a.add j)=some (.string ⟨(zb3.getD j []).toArray⟩):=by
   intro j hj;have hjl:j<zb3.length:=hj;obtain⟨v,n,q,h1,h2⟩:=hel j (.lit (.string (zb3.getD j []))) (by simp[List.getD,hjl]);obtain⟨s,hs1,hs2,_⟩:=DataW.trod_string underlying9 h2;injection hs1 with hs1 _;subst hs1;injection hs2 with hs2 _;injection hs2 with hs2;injection hs2 with hs2;rw[h1,hs2]
  obtain⟨rb,off,sp⟩:=a
  have hsp:sp=none:=by
   have h0:=hget 0 (by omega);have h1:=zj2 h0
   simpa [Addr.add] using h1
  subst hsp;refine⟨rb,off,cap,?_,λj hj=>?_⟩
  ·have:=do_ hg1 hv1 0
   rw[Array.eq_one_of_toList hcs]at this
   simpa using this
  ·have h:=hget j hj
   rwa [aj_]at h
end
instance:Inhabited Mv:=⟨⟨0,false,0⟩⟩
open Go.WideShapes Go.ChangeShapes in
theorem zvm {enc:TypeId × Value->H} {spare:Nat->Bool} {cs:List Value} {x:DataW H × List MemPlace}
  (hs:cs.length=3) (hf:DataW.trod enc prog w base spare held fuel 92 cs=some x):∃ m:Mv,cs=zap m:=by
 obtain⟨c0,c1,c2,rfl⟩:∃ c0 c1 c2,cs=[c0,c1,c2]:=by
  match cs,hs with
  | [a,b,c],_=>exact⟨a,b,c,rfl⟩
 obtain⟨z0,z1,z2,m,hz,_,g0,g1,g2⟩:=Go.Deep.trod_struct3 underlying92 hf;rw[show Tryz.prog.cellsOf 3=1 by kernel_rfl]at g0 g2;rw[show Tryz.prog.cellsOf 4=1 by kernel_rfl]at g1;simp only[List.drop,List.take]at g0 g1 g2;obtain⟨n1,e1,_⟩:=DataW.trod_int underlying3 g0;obtain⟨n2,e2,_⟩:=DataW.trod_bool underlying4 g1;obtain⟨n3,e3,_⟩:=DataW.trod_int underlying3 g2;simp only[dr_,and_true]at e1 e2 e3;subst e1 e2 e3;exact⟨⟨n1,n2,n3⟩,rfl⟩
theorem zux(l:List Mv)(q j:Nat)(hq:q<l.length)(hj:j<3):(mvs l)[q*3+j]?=(zap l[q])[j]?:=by
 obtain⟨g0,g1,g2⟩:=zkt l q hq
 match j,hj with
 | 0,_=>simpa [zap] using g0
 | 1,_=>simpa [zap] using g1
 | 2,_=>simpa [zap] using g2
open Go.WideShapes Go.ChangeShapes in
theorem zwa {enc:TypeId × Value->H} {spare:Nat->Bool} {a:Option Addr} {len cap:Nat} {d:DataW H} {p:List MemPlace}
  (h:DataW.Trod enc prog w base spare held 23 (.slice a len cap) d p):∃ xs,SlM 0 w w (.slice a len cap) xs:=by
 obtain⟨fuel,hf⟩:=h;rcases Go.Deep.open_slice underlying23 hf with⟨hcs,_⟩|⟨x,l,c,m,n,D,Pl,hcs,_,hl,hm,hmm,_,hx⟩
 ·simp[Value.cells]at hcs
  obtain⟨rfl,rfl,rfl⟩:=hcs;exact⟨[],none,0,rfl,le_ _,by simp[maxLen],rfl,λ_=>rfl,λi hi=>by simp[mvs] at hi⟩
 ·simp[Value.cells]at hcs
  obtain⟨rfl,rfl,rfl⟩:=hcs;rw[show Tryz.prog.cellsOf 92=3 by kernel_rfl]at hx;have hlm:len<=m:=by rw[hmm];split<;>omega
  have each:∀ i,i<len->∃ q:Mv,∀ j,j<3->w.cell? ((x.add (i*3)).add j)=(zap q)[j]?:=by
   intro i hi;obtain⟨cs',h1,h2⟩:=hx i (by omega);obtain⟨_,hlen,hcell⟩:=World.cells?_some h1;obtain⟨q,hq⟩:=zvm hlen h2;refine⟨q,λj hj=>?_⟩;have:=hcell j hj;rw[this,<-hq]
  obtain⟨q,hq⟩:=Go.Deep.choose_lt each;have hlen:((List.range len).map q).length=len:=by simp
  refine⟨(List.range len).map q,some x,cap,by rw[hlen],by omega,hm,zbz _,(by intro h;cases h),λi hi=>?_⟩;rw[zbz,hlen]at hi;have h0:=hq 0 (by omega) 0 (by omega);have hs:=zj2 (v:=.int .i64 (q 0).which) (by rw[h0];rfl);obtain⟨b,off,sp⟩:=x
  have hsp:sp=none:=by
   have:((⟨b,off,sp⟩:Addr).add (0*3)).add 0=⟨b,off,sp⟩:=by simp[Addr.add]
   rw[this]at hs;exact hs
  subst hsp;have hb:b<w:=R_ w (u:=.int .i64 (q 0).which) _ (by rw[h0];rfl);refine⟨b,off,rfl,ai_ _,hb,hb,?_⟩;have hi':=hq (i/3) (by omega) (i%3) (by omega);have ha:=zux ((List.range len).map q) (i/3) (i%3) (by rw[hlen];omega) (by omega);rw[show i/3*3+i%3=i by omega]at ha;rw[ha];simp only[a4_,List.getElem_range];rw[<-hi',aj_,aj_]
  congr 2;omega
open Go.WideShapes Go.ChangeShapes in
theorem zlx {enc:TypeId × Value->H} {x:DataW H × List MemPlace}
  (hf:DataW.trod enc prog w base (λ_=>true) held fuel 22 [v]=some x):∃ xs,SlI 0 w w v xs:=by
 rcases Go.ChangeShapes.open_ints underlying22 underlying3 (by kernel_rfl) hf with⟨hcs,_⟩|⟨a,l,c,zs,hcs,_,hl,hm,hz,_,hcell,hwz⟩
 ·simp at hcs
  subst hcs;exact zfb.ints (zs:=[]) (.inl ⟨rfl,rfl,rfl,rfl⟩)
 ·simp at hcs
  subst hcs;exact zfb.ints (zs:=zs) (.inr ⟨_,rfl,hl,hm,by simpa using hz,hcell,hwz⟩)
open Go.WideShapes Go.ChangeShapes in
theorem zxn {enc:TypeId × Value->H} {spare:Nat->Bool} {x:DataW H × List MemPlace}
  (hf:DataW.trod enc prog w base spare held fuel 23 [v]=some x):∃ xs,SlM 0 w w v xs:=by
 have hs:∃ a len cap,v=.slice a len cap:=by
  rcases Go.Deep.open_slice underlying23 hf with⟨hcs,_⟩|⟨x,l,c,m,n,D,Pl,hcs,_⟩
  ·simp at hcs
   exact⟨_,_,_,hcs⟩
  ·simp at hcs
   exact⟨_,_,_,hcs⟩
 obtain⟨a,len,cap,rfl⟩:=hs;exact zwa (d:=x.1) (p:=x.2) ⟨fuel,hf⟩
open Go.WideShapes Go.ChangeShapes in
theorem ztt {enc:TypeId × Value->H} {r:Reach} {d:DataW H} {p:List MemPlace}
  (hv:Value.okWide prog w r b0 25 v) (h:DataW.Trod enc prog w base (λ_=>true) held 25 v d p) :
  ∃ a b c d' D,v=ν a b c d'/\Η 0 w w a b c d' D:=by
 obtain⟨cs,rfl,hsz⟩:=okWide_struct underlying25 hv;have hs:cs.size=4:=hsz.trans (by kernel_rfl);obtain⟨fuel,hf⟩:=h
 obtain⟨c0,c1,c2,c3,hcs⟩:∃ c0 c1 c2 c3,cs=#[c0,c1,c2,c3]:=by
  obtain⟨l⟩:=cs
  match l,hs with
  | [a,b,c,d],_=>exact⟨a,b,c,d,rfl⟩
 subst hcs;have hf':DataW.trod enc prog w base (λ_=>true) held fuel 25 [c0,c1,c2,c3]=some (d,p):=hf;obtain⟨y0,y1,y2,y3,n,_,_,h0,h1,h2,h3⟩:=Go.Joins.trod_struct4 underlying25 hf';rw[show Tryz.prog.cellsOf 22=1 by kernel_rfl]at h0 h1 h3;rw[show Tryz.prog.cellsOf 23=1 by kernel_rfl]at h2;simp only[List.drop,List.take]at h0 h1 h2 h3;obtain⟨x0,s0⟩:=zlx h0;obtain⟨x1,s1⟩:=zlx h1;obtain⟨x2,s2⟩:=zxn h2;obtain⟨x3,s3⟩:=zlx h3;exact⟨c0,c1,c2,c3,⟨x0,x1,x2,x3⟩,rfl,s0,s1,s2,s3⟩
open Go.WideShapes Go.ChangeShapes in
theorem zx4 {enc:TypeId × Value->H} {spare:Nat->Bool} {r:Reach} {d:DataW H} {p:List MemPlace}
  (hv:Value.okWide prog w r b0 26 v) (h:DataW.Trod enc prog w base spare held 26 v d p) :
  ∃ xs:List (List UInt8),SlT 0 w w v xs/\∀ x∈xs,x.length<=maxLen:=by
 obtain⟨a,len,cap,rfl⟩:=okWide_slice underlying26 hv;obtain⟨fuel,hf⟩:=h;rcases Go.Deep.open_strs underlying26 underlying9 (by kernel_rfl) hf with⟨hcs,_⟩|⟨x,l,c,m,Sx,hcs,_,hl,hm,hmm,_,hx⟩
 ·simp[Value.cells]at hcs
  obtain⟨rfl,rfl,rfl⟩:=hcs;exact⟨[],⟨none,0,rfl,le_ _,by simp[maxLen],rfl,λ_=>rfl,λi hi=>by simp[zag] at hi⟩,by simp⟩
 ·simp[Value.cells]at hcs
  obtain⟨rfl,rfl,rfl⟩:=hcs;have hlm:len<=m:=by rw[hmm];split<;>omega
  have hlen:((List.range len).map λi=>(Sx i).data.toList).length=len:=by simp
  refine⟨(List.range len).map λi=>(Sx i).data.toList,⟨some x,cap,by rw[hlen],by omega,hm,by rw[zfh,Nat.mul_one],(by intro h;cases h),λi hi=>?_⟩,?_⟩
  ·rw[zfh,hlen]at hi
   have h0:=(hx 0 (by omega)).1;have hs:=zj2 h0;obtain⟨b,off,sp⟩:=x
   have hsp:sp=none:=by
    (have:(⟨b,off,sp⟩:Addr).add 0=⟨b,off,sp⟩:=by simp[Addr.add]);rw[this]at hs;exact hs
   subst hsp;have hb:b<w:=R_ w _ h0;refine⟨b,off,rfl,ai_ _,hb,hb,?_⟩;have h1:=(hx i (by omega)).1;rw[aj_]at h1;rw[h1,zag,b3_,b3_,List.getElem?_range hi];rfl
  ·intro y hy
   obtain⟨i,hi,rfl⟩:=I_.1 hy;have h2:=(hx i (by have:=ca_.1 hi;omega)).2;exact(show (Sx i).data.toList.length<=maxLen from h2)
end Go.Proofs.YtfnnhimopokpnaaGreatDoor
