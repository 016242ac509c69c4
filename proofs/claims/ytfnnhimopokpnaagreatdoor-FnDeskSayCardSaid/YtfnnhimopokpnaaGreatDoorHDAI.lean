/- Lemmas for this seat; no condition. -/
import Derived.Test.YtfnnhimopokpnaaGreatDoorHDAH
namespace Go.Proofs.YtfnnhimopokpnaaGreatDoor
open Go.RowKit Proofs.Tryz
set_option maxRecDepth 100000
set_option maxHeartbeats 0
set_option linter.all false
variable {lo hi:Nat} {w w':World} {e x:List Int} {D:Dsk}
theorem zkf(lo hi:Nat)(v:Value)(xs:List Mv)(w:World)(hx:SlM lo hi w v xs)(hm:xs.length<=1048576):
  Calls prog 77 #[v] w (ι λv' w'=>Below w w w'/\Ξ w w' 67 w' v' xs):=by
 obtain⟨a,cap,rfl,hcap,hcm,hl,hnone,hc⟩:=hx;cases a with
 | none=>
  obtain rfl:=hnone rfl;have hx0:xs=[]:=A_ (by omega);subst hx0;have heq:∀ w,(binOp .eql 29 () ()).run prog w=.ok (.bool true) w:=λw=>Lib.run_eql_slice_nil_nil w 0 0 underlying29
  go_enter func77,ntmps77
  go_wp2;go_ret;exact ι.mk _ rfl ⟨B_ _ _,Ω _ _ _ _ _⟩
 | some ad=>
  have HX:Q_ (Sl 3 lo hi w (.slice (some ad) xs cap) xs.length (mvs xs)):=H_ ⟨some ad,cap,rfl,hcap,hcm,hl,hnone,hc⟩;have HOL:Q_ (Own 3 w (w+1) 67 (w.alloc (.cells #[] 67)) (.slice (q_ w 0) 0 0) 0 []):=H_ (ς 3 67 w [] 0 (by omega) rfl);have HA:=H_ ((B_ w w).alloc (le_ _) (.cells #[] 67))
  have HXA:Q_ (Sl 3 lo hi (w.alloc (.cells #[] 67)) (.slice (some ad) xs cap) xs.length (mvs xs)):=by
   refine H_ ⟨some ad,cap,rfl,hcap,hcm,hl,hnone,λi hi'=>?_⟩;obtain⟨b,off,e,e1,e2,e3,e4⟩:=hc i hi';exact⟨b,off,e,e1,e2,by simp;omega,by rw[World.cell?_alloc_lt _ _ (p_ b (off+i)) e3];exact e4⟩
  have heq:∀ w,(binOp .eql 29 (.slice (some ad) xs cap) ()).run prog w=.ok (.bool false) w:=λw=>Lib.run_eql_slice_some_nil w ad xs.length cap underlying29
  clear hl hnone hc
  go_enter func77,ntmps77
  go_wp2_with (at_builtin;go_loud (refine Μ rfl _ _ 29 rfl 67 (.agg #[(0:Int),.bool false,(0:Int)]) 3 24 underlying29 zd8 rfl (by decide) (by decide) rfl HOL.o rfl HXA.o (zg2 _) (by omega) (by simp) ?_))
  intro v2 w2 ho2 _ hout2 _;have HO2:=H_ ho2;have HB2:=H_ (ε HA.o hout2 (le_ _) (by simp));obtain⟨a2,c2,rfl,_⟩:=θ ho2;clear ho2 hout2;go_wp2;go_ret;exact ι.mk _ rfl ⟨HB2.o,HO2.o⟩
theorem ziz(lo hi:Nat)(a b c d:Value)(D:Dsk)(w:World)(hx:Θ lo hi w a b c d D)(hh:hi<=w)(hm:D.size<=1048576):
  Calls prog 37 #[ο a b c d] w (zjg w D):=by
 unfold Dsk.size at hm;have⟨w0,hw0⟩:=ex_ ((w.alloc (.cells #[a,b,c,d] 31)).alloc (.cells #[(),(),(),()] 31));have hb0:Below w w w0:=by rw[hw0];exact((B_ _ _).alloc (le_ _) _).alloc (by simp) _
 have hs0:w0=w.heap.size+2:=by rw[hw0];simp
 have K1:Q_ (Blk w (.cells #[a,b,c,d] 31) w0):=by
  rw[hw0];exact H_ ((κ w _).below ((B_ (w.alloc _).heap.size _).alloc (le_ _) _) (by simp))
 have K2:Q_ (Blk (w+1) (.cells #[(),(),(),()] 31) w0):=by
  have h:=κ (w.alloc (.cells #[a,b,c,d] 31)) (.cells #[(),(),(),()] 31);rw[μ]at h;rw[hw0];exact H_ h
 have hbd:Below w0 w0 w0.drew:=z_ (B_ _ _);have hdz:w0.drew.heap.size=w0.heap.size:=rfl;have HX:=H_ ((hx.below hb0 hh).below hbd (by omega));have HB:=H_ (hb0.trans (hbd.mono (by omega)));have K1d:=K1.kb hbd;have K2d:=K2.kb hbd;have hS:w0.drew.cell? (p_ w 0)=some a/\w0.drew.cell? (p_ w 1)=some b/\w0.drew.cell? (p_ w 2)=some c/\w0.drew.cell? (p_ w 3)=some d:=⟨K1d.o.cell 0,K1d.o.cell 1,K1d.o.cell 2,K1d.o.cell 3⟩;have HW0:=H_ hw0;clear hx hb0 hw0 hbd
 go_enter func37,ntmps37
 go_wp2_with (rw[<-HW0.o])
 go_region_held3 (λw'=>w'.cell? (p_ w 0)=some a/\w'.cell? (p_ w 1)=some b/\w'.cell? (p_ w 2)=some c/\w'.cell? (p_ w 3)=some d) (first | assumption | go_keep) (first
  | (go_at_call_of 76 a;refine(zdo _ _ a D.first _ HX.o.first (by omega)).mono ?_;rintro e1 w1 ⟨v1,rfl,hbx,ho⟩;obtain⟨x1,y1,rfl,_⟩:=θ ho;(have hz1:=hbx.size);(have HX1:=H_ (HX.o.below hbx (by omega)));(have KA1:=K1d.kb hbx);(have KB1:=K2d.kb hbx);(have HB1:=HB.ts hbx);(have O1_1:=H_ ho);(have hS1:w1.cell? (p_ w 0)=some a/\w1.cell? (p_ w 1)=some b/\w1.cell? (p_ w 2)=some c/\w1.cell? (p_ w 3)=some d:=⟨KA1.o.cell 0,KA1.o.cell 1,KA1.o.cell 2,KA1.o.cell 3⟩);clear hbx ho)
  | (go_at_call_of 76 b;refine(zdo _ _ b D.goal _ HX1.o.goal (by omega)).mono ?_;rintro e2 w2 ⟨v2,rfl,hbx,ho⟩;obtain⟨x2,y2,rfl,_⟩:=θ ho;(have hz2:=hbx.size);(have HX2:=H_ (HX1.o.below hbx (by omega)));(have KA2:=KA1.kb hbx);(have KB2:=KB1.kb hbx);(have HB2:=HB1.ts hbx);(have O1_2:=H_ (O1_1.o.below hbx (by omega)));(have O2_2:=H_ ho);(have hS2:w2.cell? (p_ w 0)=some a/\w2.cell? (p_ w 1)=some b/\w2.cell? (p_ w 2)=some c/\w2.cell? (p_ w 3)=some d:=⟨KA2.o.cell 0,KA2.o.cell 1,KA2.o.cell 2,KA2.o.cell 3⟩);clear hbx ho)
  | (go_at_call_of 77 c;refine(zkf _ _ c D.made _ HX2.o.made (by omega)).mono ?_;rintro e3 w3 ⟨v3,rfl,hbx,ho⟩;obtain⟨x3,y3,rfl,_⟩:=θ ho;(have hz3:=hbx.size);(have HX3:=H_ (HX2.o.below hbx (by omega)));(have KA3:=KA2.kb hbx);(have KB3:=KB2.kb hbx);(have HB3:=HB2.ts hbx);(have O1_3:=H_ (O1_2.o.below hbx (by omega)));(have O2_3:=H_ (O2_2.o.below hbx (by omega)));(have O3_3:=H_ ho);(have hS3:w3.cell? (p_ w 0)=some a/\w3.cell? (p_ w 1)=some b/\w3.cell? (p_ w 2)=some c/\w3.cell? (p_ w 3)=some d:=⟨KA3.o.cell 0,KA3.o.cell 1,KA3.o.cell 2,KA3.o.cell 3⟩);clear hbx ho)
  | (go_at_call_of 76 d;refine(zdo _ _ d D.now _ HX3.o.now (by omega)).mono ?_;rintro e4 w4 ⟨v4,rfl,hbx,ho⟩;obtain⟨x4,y4,rfl,_⟩:=θ ho;(have hz4:=hbx.size);(have HX4:=H_ (HX3.o.below hbx (by omega)));(have KA4:=KA3.kb hbx);(have KB4:=KB3.kb hbx);(have HB4:=HB3.ts hbx);(have O1_4:=H_ (O1_3.o.below hbx (by omega)));(have O2_4:=H_ (O2_3.o.below hbx (by omega)));(have O3_4:=H_ (O3_3.o.below hbx (by omega)));(have O4_4:=H_ ho);(have hS4:w4.cell? (p_ w 0)=some a/\w4.cell? (p_ w 1)=some b/\w4.cell? (p_ w 2)=some c/\w4.cell? (p_ w 3)=some d:=⟨KA4.o.cell 0,KA4.o.cell 1,KA4.o.cell 2,KA4.o.cell 3⟩);(have r0:=KB4.o.cell 0);(have f0:=KB4.o.free 0);(have r1:=KB4.o.cell 1);(have f1:=KB4.o.free 1);(have r2:=KB4.o.cell 2);(have f2:=KB4.o.free 2);(have r3:=KB4.o.cell 3);(have f3:=KB4.o.free 3);clear hbx ho))
 all_goals (
  have⟨wz,hwz⟩:=x4_ w4 (w+1) (.slice x1 D.first y1) (.slice x2 D.goal y2) (.slice x3 D.made y3) (.slice x4 D.now y4);have KZ:=KB4.o.set4 (.slice x1 D.first y1) (.slice x2 D.goal y2) (.slice x3 D.made y3) (.slice x4 D.now y4);have hO:=β.set4 (w+1) w4 (.slice x1 D.first y1) (.slice x2 D.goal y2) (.slice x3 D.made y3) (.slice x4 D.now y4);rw[<-hwz]at KZ hO;have hsz:=hO.size;have HZ:=H_ (ε HB4.o hO (by omega) HB4.o.size);have P1:=H_ (O1_4.o.outside hO (.inr (by omega)));have P2:=H_ (O2_4.o.outside hO (.inr (by omega)));have P3:=H_ (O3_4.o.outside hO (.inr (by omega)));have P4:=H_ (O4_4.o.outside hO (.inr (by omega)));obtain⟨q0,q1,q2,q3⟩:=KZ.c4;clear KZ hO;go_wp2;simp only[<-hwz];clear hwz;refine d_ (v:=.agg #[(.slice x1 D.first y1),(.slice x2 D.goal y2),(.slice x3 D.made y3),(.slice x4 D.now y4)]) (by simp[results,results37,go_sem,q0,q1,q2,q3]) rfl ⟨_,_,_,_,rfl,?_,HZ.o⟩;exact⟨_,_,_,_,_,_,_,_,P1.o,P2.o,P3.o,P4.o,by omega,by omega,by omega,by omega,by omega,by omega,by omega,by omega,by omega,by omega⟩)
def za1(D:Dsk)(a:Ac):Option (List Mv):=
 if zaf a then
  if a.kind=0 then some (D.made++[a.step])
  else if a.kind=1 then (if 1<=a.count/\a.count<=D.made.length then some (D.made.take (D.made.length-a.count.toNat)) else none)
  else (if zah D.now=[] then none else some (D.made++zah D.now))
 else none
def Χ(D:Dsk)(a:Ac):Dsk × Bool:=
 if φ D then
  match (za1 D a).bind λms=>(υ D.first ms).map λx=>(ms,x) with
  | some p=>(⟨D.first,D.goal,p.1,p.2⟩,true)
  | none=>(D,false)
 else (Dsk.none,false)
abbrev zhi(a:Ac):Value:=.agg #[.int .i64 a.kind,.int .i64 a.step.which,.bool a.step.back,.int .i64 a.step.at_,.int .i64 a.count]
theorem SlM.front {n cap:Nat} {a:Option Addr} {xs:List Mv}(h:SlM lo hi w (.slice a n cap) xs)(j:Nat)(hj:j<=xs.length):SlM lo hi w (.slice a j cap) (xs.take j):=by
 obtain⟨a',cap',e,h1,h2,h3,h4,h5⟩:=h;injection e with e1 e2 e3;subst e1 e2 e3;have hl:(xs.take j).length=j:=by simp;omega
 have hxs:mvs xs=mvs (xs.take j)++mvs (xs.drop j):=by rw[<-zg3,a1_]
 have ht:mvs (xs.take j)=(mvs xs).take (j*3):=by
  rw[hxs];exact(List.take_left' (by rw[ziv,hl])).symm
 refine⟨_,_,by rw[hl],by rw[hl];omega,h2,ziv _,h4,λi hi'=>?_⟩;rw[ziv,hl]at hi';have hml:=ziv xs;obtain⟨b,off,f1,f2,f3,f4,f5⟩:=h5 i (by omega);refine⟨b,off,f1,f2,f3,f4,?_⟩;rw[f5,ht,bb_,x_ (by omega)]
theorem Blk.one_mv {b:Nat} {m:Mv} {t:TypeId}(h:Blk b (.cells (zbq m).toArray t) w):Sl 3 b (b+1) w (.slice (q_ b 0) 1 1) 1 (zbq m):=by
 refine⟨_,_,rfl,le_ _,by unfold maxLen;omega,rfl,(by intro h;cases h),λi hi=>⟨b,0,rfl,le_ _,by omega,h.lt,?_⟩⟩;rw[h.cell];simp
def zii(w:World)(r:Option (List Mv))(v:Value)(ok:Bool)(w':World):Prop:=
 Below w w w'/\ok=r.isSome/\(∃ l,Ξ w w' 67 w' v l)/\∀ ms,r=some ms->Ξ w w' 67 w' v ms
theorem zii.none {r:Option (List Mv)}(hr:r=Option.none)(hb:Below w w w'):zii w r () false w':=by
 subst hr;exact⟨hb,rfl,⟨[],Ω _ _ _ _ _⟩,λms h=>by cases h⟩
theorem zmv {a:Ac}(h:zaf a=true):a.kind=0\/a.kind=1\/a.kind=2:=by
 unfold zaf at h
 split at h
 ·rename_i h0;exact .inl (by simpa using h0)
 ·split at h
  ·rename_i h1;exact .inr (.inl (by simpa using h1))
  ·split at h
   ·rename_i h2;exact .inr (.inr (by simpa using h2))
   ·cases h
theorem zz4(lo hi:Nat)(a b c d:Value)(D:Dsk)(A:Ac)(w:World)(hE:zax w)(hx:Θ lo hi w a b c d D)(hh:hi<=w)(hm:D.size<=1048576):
  Calls prog 97 #[ο a b c d,zhi A] w (za8 (zii w (za1 D A))):=by
 unfold Dsk.size at hm;have⟨w0,hw0⟩:=ex_ ((w.alloc (.cells #[a,b,c,d] 31)).alloc (.cells #[.int .i64 A.kind,.int .i64 A.step.which,.bool A.step.back,.int .i64 A.step.at_,.int .i64 A.count] 69));have hb0:Below w w w0:=by rw[hw0];exact((B_ _ _).alloc (le_ _) _).alloc (by simp) _
 have hs0:w0=w.heap.size+2:=by rw[hw0];simp
 have K1:Q_ (Blk w (.cells #[a,b,c,d] 31) w0):=by
  rw[hw0];exact H_ ((κ w _).below ((B_ (w.alloc _).heap.size _).alloc (le_ _) _) (by simp))
 have K2:Q_ (Blk (w+1) (.cells #[.int .i64 A.kind,.int .i64 A.step.which,.bool A.step.back,.int .i64 A.step.at_,.int .i64 A.count] 69) w0):=by
  have h:=κ (w.alloc (.cells #[a,b,c,d] 31)) (.cells #[.int .i64 A.kind,.int .i64 A.step.which,.bool A.step.back,.int .i64 A.step.at_,.int .i64 A.count] 69);rw[μ]at h;rw[hw0];exact H_ h
 have HX:=H_ (hx.below hb0 hh);have HB:=H_ hb0;have HE:=H_ (hE.below hb0);have HW0:=H_ hw0;have⟨a0,a1,a2,a3,a4⟩:=K2.o.c5;clear hx hE hb0 hw0;have⟨nb,hnb⟩:=ex_ (zaf A);have HNB:=H_ hnb;clear hnb
 go_enter func97,ntmps97
 go_wp2_with (rw[<-HW0.o])
 refine(zsv A w0).mono ?_;rintro e1 w1 ⟨rfl,hb1⟩;rw[<-HNB.o];have HB1:=HB.tr hb1 (by omega);have hs1:=hb1.size;replace K1:=K1.kb hb1;replace K2:=K2.kb hb1;replace HX:=H_ (HX.o.below hb1 (by omega));replace HE:=H_ (HE.o.below hb1);clear hb1 a0 a1 a2 a3 a4 HB;have a0:=K2.o.cell 0;have a4:=K2.o.cell 4;have d2:=K1.o.cell 2;have d3:=K1.o.cell 3;cases nb
 ·have HR:=H_ (show za1 D A=none by simp[za1,<-HNB.o])
  go_wp2
  go_ret2
  exact⟨_,_,rfl,zii.none HR.o HB1.o⟩
 ·rcases zmv HNB.o.symm with hk|hk|hk
  ·have HR:=H_ (show za1 D A=some (D.made++[A.step]) by simp[za1,<-HNB.o,hk])
   rw[hk]at a0;clear hk;go_wp2_with fail
   have hbA:Below w1 w1 w1.drew:=z_ (B_ _ _);have hdA:w1.drew.heap.size=w1.heap.size:=rfl;have hbB:Below w1 w1 (w1.alloc (.cells #[.int .i64 A.step.which,.bool A.step.back,.int .i64 A.step.at_] 67)).drew:=z_ ((B_ _ _).alloc (le_ _) _);have hdB:(w1.alloc (.cells #[.int .i64 A.step.which,.bool A.step.back,.int .i64 A.step.at_] 67)).drew.heap.size=w1.heap.size+1:=by show (w1.alloc _).heap.size=_;simp
   have KLB:Q_ (Blk w1 (.cells (zbq A.step).toArray 67) (w1.alloc (.cells #[.int .i64 A.step.which,.bool A.step.back,.int .i64 A.step.at_] 67)).drew):=H_ (κ w1 _);have HBA:=HB1.ts hbA;have HBB:=HB1.ts hbB;have HXA:=H_ (HX.o.below hbA (by omega));have HXB:=H_ (HX.o.below hbB (by omega));have K1A:=K1.kb hbA;have K1B:=K1.kb hbB;have K2A:=K2.kb hbA;have K2B:=K2.kb hbB;have hl1:=K1.o.lt;have hl2:=K2.o.lt;have hS1:w1.cell? (p_ w 2)=some c/\w1.cell? (p_ (w+1) 1)=some (.int .i64 A.step.which)/\w1.cell? (p_ (w+1) 2)=some (.bool A.step.back)/\w1.cell? (p_ (w+1) 3)=some (.int .i64 A.step.at_):=⟨K1.o.cell 2,K2.o.cell 1,K2.o.cell 2,K2.o.cell 3⟩;have hSA:w1.drew.cell? (p_ w 2)=some c/\w1.drew.cell? (p_ (w+1) 1)=some (.int .i64 A.step.which)/\w1.drew.cell? (p_ (w+1) 2)=some (.bool A.step.back)/\w1.drew.cell? (p_ (w+1) 3)=some (.int .i64 A.step.at_):=hS1
   have hSB:(w1.alloc (.cells #[.int .i64 A.step.which,.bool A.step.back,.int .i64 A.step.at_] 67)).drew.cell? (p_ w 2)=some c/\(w1.alloc (.cells #[.int .i64 A.step.which,.bool A.step.back,.int .i64 A.step.at_] 67)).drew.cell? (p_ (w+1) 1)=some (.int .i64 A.step.which)/\(w1.alloc (.cells #[.int .i64 A.step.which,.bool A.step.back,.int .i64 A.step.at_] 67)).drew.cell? (p_ (w+1) 2)=some (.bool A.step.back)/\(w1.alloc (.cells #[.int .i64 A.step.which,.bool A.step.back,.int .i64 A.step.at_] 67)).drew.cell? (p_ (w+1) 3)=some (.int .i64 A.step.at_):=by
    have k1:=K1.o.below hbB K1.o.lt;have k2:=K2.o.below hbB K2.o.lt;exact⟨k1.cell 2,k2.cell 1,k2.cell 2,k2.cell 3⟩
   clear hbA hbB d2 d3 a0 a4
   go_region_held3 (λw'=>w'.cell? (p_ w 2)=some c/\w'.cell? (p_ (w+1) 1)=some (.int .i64 A.step.which)/\w'.cell? (p_ (w+1) 2)=some (.bool A.step.back)/\w'.cell? (p_ (w+1) 3)=some (.int .i64 A.step.at_)) (first | assumption | go_keep) (first
    | (go_at_call 77;refine(zkf lo hi c D.made _ (by first | exact HXA.o.made | exact HXB.o.made) (by omega)).mono ?_;rintro e3 w3 ⟨v3,rfl,hb3,ho3⟩;(have hz3:=hb3.size);(have HB3:Q_ (Below w w w3):=H_ (by first | exact HBA.o.trans (hb3.mono (by omega)) | exact HBB.o.trans (hb3.mono (by omega))));(have KA1:Q_ (Blk w (.cells #[a,b,c,d] 31) w3):=H_ (by first | exact K1A.o.below hb3 (by omega) | exact K1B.o.below hb3 (by omega)));(have KA2:Q_ (Blk (w+1) (.cells #[.int .i64 A.kind,.int .i64 A.step.which,.bool A.step.back,.int .i64 A.step.at_,.int .i64 A.count] 69) w3):=H_ (by first | exact K2A.o.below hb3 (by omega) | exact K2B.o.below hb3 (by omega)));(have hS3:w3.cell? (p_ w 2)=some c/\w3.cell? (p_ (w+1) 1)=some (.int .i64 A.step.which)/\w3.cell? (p_ (w+1) 2)=some (.bool A.step.back)/\w3.cell? (p_ (w+1) 3)=some (.int .i64 A.step.at_):=⟨KA1.o.cell 2,KA2.o.cell 1,KA2.o.cell 2,KA2.o.cell 3⟩);(have HO3:=H_ ho3);(try have KL3:=H_ (KLB.o.below hb3 (by omega)));obtain⟨xa,xc,rfl,_⟩:=θ ho3;clear hb3 ho3)
    | (refine zhv (by rfl) _ _ 29 (by rfl) 67 (.agg #[(0:Int),.bool false,(0:Int)]) 3 24 underlying29 zd8 (by rfl) (by decide) (by decide) (by rfl) (by first | exact zfw HO3.o ((B_ _ _).alloc (le_ _) _) (le_ _) | exact HO3.o) (by rfl) (by first | exact KL3.o.one_mv | exact(κ w3 _).one_mv) (zi8 A.step) (by omega) (by first | omega | (simp only[μ];omega)) ?_;intro v5 w5 ho5 hout5;(have hz5:=hout5.size);(have KC1:Q_ (Blk w (.cells #[a,b,c,d] 31) w5):=H_ (by first | exact(KA1.o.below ((B_ w3 w3).alloc (le_ _) _) KA1.o.lt).outside hout5 (by omega) | exact KA1.o.outside hout5 (by omega)));(have KC2:Q_ (Blk (w+1) (.cells #[.int .i64 A.kind,.int .i64 A.step.which,.bool A.step.back,.int .i64 A.step.at_,.int .i64 A.count] 69) w5):=H_ (by first | exact(KA2.o.below ((B_ w3 w3).alloc (le_ _) _) KA2.o.lt).outside hout5 (by omega) | exact KA2.o.outside hout5 (by omega)));(have hS5:w5.cell? (p_ w 2)=some c/\w5.cell? (p_ (w+1) 1)=some (.int .i64 A.step.which)/\w5.cell? (p_ (w+1) 2)=some (.bool A.step.back)/\w5.cell? (p_ (w+1) 3)=some (.int .i64 A.step.at_):=⟨KC1.o.cell 2,KC2.o.cell 1,KC2.o.cell 2,KC2.o.cell 3⟩);(have HB5:Q_ (Below w w w5):=H_ (by first | exact ε (HB3.o.alloc (by omega) _) hout5 (by omega) (by simp;omega) | exact ε HB3.o hout5 (by omega) (by omega)));(have HO5:Q_ (Ξ w w5 67 w5 v5 (D.made++[A.step])):=H_ (by unfold Ξ;rw[n_,zg3];exact za3 ho5 (by omega) (le_ _)));obtain⟨ya,yc,rfl,_⟩:=θ ho5;clear ho5 hout5))
   all_goals (
    go_wp2
    go_ret2
    refine⟨_,_,rfl,HB5.o,by rw[HR.o];rfl,⟨_,HO5.o⟩,λms h=>?_⟩;rw[HR.o]at h;injection h with h;subst h;exact HO5.o)
  ·rw[hk]at a0
   obtain⟨ma,mc,hce,hmc1,hmc2⟩:=HX.o.made.shape;subst hce;unfold maxLen at hmc2;by_cases h1:1<=A.count/\A.count<=D.made.length
   ·(obtain⟨k,hk2,hkl⟩:∃ k:Nat,(D.made.length:Int)-A.count=k/\k<=D.made.length:=⟨((D.made.length:Int)-A.count).toNat,by omega,by omega⟩)
    have HR:=H_ (show za1 D A=some (D.made.take k) by
     simp only[za1,<-HNB.o,hk,x_ h1];rw[show D.made.length-A.count.toNat=k by omega];simp)
    (have HF:=H_ (HX.o.made.front k hkl);have⟨g1,g2,g3,g4,g5⟩:¬A.count<1/\¬(D.made.length:Int)<A.count/\(0:Int)<=k/\(k:Int)<=mc/\k<=mc:=by omega);(have hlk:(D.made.take k).length=k:=by simp;omega);clear hk h1;go_wp2_with fail
    refine(zkf _ _ _ (D.made.take k) w1 HF.o (by omega)).mono ?_;rintro e3 w3 ⟨v3,rfl,hb3,ho3⟩;have HB3:=HB1.ts hb3;have HO3:Q_ (Ξ w w3 67 w3 v3 (D.made.take k)):=H_ (za3 ho3 HB1.o.size (le_ _));have HLK:=H_ hlk;obtain⟨xa,xc,rfl,_⟩:=θ ho3;clear hb3 ho3 hlk;go_wp2;rw[HLK.o]at HO3
    go_ret2
    refine⟨_,_,rfl,HB3.o,by rw[HR.o];rfl,⟨_,HO3.o⟩,λms h=>?_⟩;rw[HR.o]at h;injection h with h;subst h;exact HO3.o
   ·have HR:=H_ (show za1 D A=none by
     simp only[za1,<-HNB.o,hk,m_ h1];simp)
    (have hcs:A.count<1\/(¬A.count<1/\(D.made.length:Int)<A.count):=by omega);clear hk h1;rcases hcs with g1|⟨g1,g2⟩
    all_goals (
     go_wp2
     go_ret2
     exact⟨_,_,rfl,zii.none HR.o HB1.o⟩)
  ·rw[hk]at a0
   have HR:=H_ (show za1 D A=(if zah D.now=[] then none else some (D.made++zah D.now)) by simp[za1,<-HNB.o,hk]);have hsl:=zlf D.now;clear hk;go_wp2_with fail
   refine(zv0 _ D.now w1 HE.o (zd0 HX.o.now (by omega)) (by omega)).mono ?_;rintro e3 w3 ⟨v3,rfl,hb3,ho3⟩;have hs3:=hb3.size;have HB3:=HB1.ts hb3;replace K1:=K1.kb hb3;replace HX:=H_ (HX.o.below hb3 (by omega));have HS3:=H_ ho3.sl;obtain⟨xa,xc,rfl,_⟩:=θ ho3;clear hb3 ho3 a0 a4 d2 d3;have d2:=K1.o.cell 2;go_wp2_with fail
   refine(zkf _ _ _ D.made w3 HX.o.made (by omega)).mono ?_;rintro e4 w4 ⟨v4,rfl,hb4,ho4⟩;have hs4:=hb4.size;have HB4:=HB3.ts hb4;replace HS3:=H_ (HS3.o.below hb4 (le_ _));have HO4:=H_ ho4;obtain⟨ya,yc,rfl,_⟩:=θ ho4;have hsz3:=HB3.o.size;clear hb4 ho4 d2;generalize zah D.now=sm at HR HS3 hsl;have hp:((0:Int)<sm.length)=(0<sm.length):=by simp
   by_cases hsm:sm=[]
   ·subst hsm
    go_wp2_with (at_builtin;go_loud (refine Μ rfl _ _ 29 rfl 67 (.agg #[(0:Int),.bool false,(0:Int)]) 3 24 underlying29 zd8 rfl (by decide) (by decide) rfl HO4.o rfl HS3.o (zg2 _) (by simp;omega) (by omega) ?_))
    intro v5 w5 ho5 _ hout5 _;have HB5:=H_ (ε HB4.o hout5 hsz3 (by omega));have HO5:=H_ (za3 ho5 hsz3 (le_ _));obtain⟨za,zc,rfl,_⟩:=θ ho5;clear ho5 hout5;go_wp2
    go_ret2
    refine⟨_,_,rfl,HB5.o,by rw[HR.o];rfl,⟨D.made,?_⟩,λms h=>?_⟩
    ·(have h:=HO5.o);simpa [Ξ,mvs] using h
    ·rw[HR.o]at h
     cases h
   ·(have hpos:0<sm.length:=b3_.2 hsm);rw[m_ hsm]at HR;clear hsm;go_wp2_with (at_builtin;go_loud (refine Μ rfl _ _ 29 rfl 67 (.agg #[(0:Int),.bool false,(0:Int)]) 3 24 underlying29 zd8 rfl (by decide) (by decide) rfl HO4.o rfl HS3.o (zg2 _) (by omega) (by omega) ?_))
    intro v5 w5 ho5 _ hout5 _;have HB5:=H_ (ε HB4.o hout5 hsz3 (by omega))
    have HO5:Q_ (Ξ w w5 67 w5 v5 (D.made++sm)):=by
     refine H_ ?_;unfold Ξ;rw[n_,zg3];exact za3 ho5 hsz3 (le_ _)
    (obtain⟨za,zc,rfl,_⟩:=θ ho5;clear ho5 hout5;go_wp2);go_ret2
    refine⟨_,_,rfl,HB5.o,by rw[HR.o];rfl,⟨_,HO5.o⟩,λms h=>?_⟩;rw[HR.o]at h;injection h with h;subst h;exact HO5.o
def zcj(P:Value->Value->Value->Value->Bool->World->Prop)(e:Ending)(w':World):Prop:=∃ a b c d ok,e=.returned (.tuple #[ο a b c d,.bool ok])/\P a b c d ok w'
theorem zcj.mk {P:Value->Value->Value->Value->Bool->World->Prop} {e:Ending}(a b c d:Value)(ok:Bool)(h:e=.returned (.tuple #[ο a b c d,.bool ok]))(hp:P a b c d ok w'):zcj P e w':=⟨a,b,c,d,ok,h,hp⟩
theorem zwb {A:Ac} {ms:List Mv}(hx:υ D.first D.made=some x)(h:za1 D A=some ms):ms.length<=1048576:=by
 have h1:D.made.length<=60:=by
  unfold υ at hx
  split at hx
  ·rename_i h2;simp at h2;exact h2.2
  ·cases hx
 have h3:=zlf D.now;unfold za1 at h
 repeat' split at h
 all_goals first
  | (cases h;simp;omega)
  | (cases h;done)
theorem Κ.open {a b c d:Value}(h:Κ lo hi w a b c d D):∃ x0 y0 x1 y1 x2 y2 x3 y3,a=.slice x0 D.first y0/\b=.slice x1 D.goal y1/\c=.slice x2 D.made y2/\d=.slice x3 D.now y3:=by
 obtain⟨_,_,_,_,_,_,_,_,p0,p1,p2,p3,_⟩:=h.ranges;obtain⟨x0,y0,e0,_⟩:=θ p0;obtain⟨x1,y1,e1,_⟩:=θ p1;obtain⟨x2,y2,e2,_⟩:=θ p2;obtain⟨x3,y3,e3,_⟩:=θ p3;exact⟨x0,y0,x1,y1,x2,y2,x3,y3,e0,e1,e2,e3⟩
abbrev zrg(w:World)(r:Dsk × Bool):Ending->World->Prop:=zcj λa b c d ok w'=>Κ w w' w' a b c d r.1/\ok=r.2/\Below w w w'
theorem ztv(lo hi:Nat)(a b c d:Value)(D:Dsk)(A:Ac)(w:World)(hE:zax w)(hx:Θ lo hi w a b c d D)(hh:hi<=w)(hm:D.size<=1048576):
  Calls prog 50 #[ο a b c d,zhi A] w (zrg w (Χ D A)):=by
 have HM:=H_ hm;unfold Dsk.size at hm;have⟨w0,hw0⟩:=ex_ (((w.alloc (.cells #[a,b,c,d] 31)).alloc (.cells #[.int .i64 A.kind,.int .i64 A.step.which,.bool A.step.back,.int .i64 A.step.at_,.int .i64 A.count] 69)).alloc (.cells #[(),(),(),()] 31));have hb0:Below w w w0:=by rw[hw0];exact(((B_ _ _).alloc (le_ _) _).alloc (by simp) _).alloc (by simp;omega) _
 have hs0:w0=w.heap.size+3:=by rw[hw0];simp
 have K1:Q_ (Blk w (.cells #[a,b,c,d] 31) w0):=by
  rw[hw0];exact H_ (((κ w _).below ((B_ (w.alloc _).heap.size _).alloc (le_ _) _) (by simp)).below ((B_ ((w.alloc _).alloc _).heap.size _).alloc (le_ _) _) (by simp;omega))
 have K2:Q_ (Blk (w+1) (.cells #[.int .i64 A.kind,.int .i64 A.step.which,.bool A.step.back,.int .i64 A.step.at_,.int .i64 A.count] 69) w0):=by
  have h:=(κ (w.alloc (.cells #[a,b,c,d] 31)) (.cells #[.int .i64 A.kind,.int .i64 A.step.which,.bool A.step.back,.int .i64 A.step.at_,.int .i64 A.count] 69)).below ((B_ ((w.alloc (.cells #[a,b,c,d] 31)).alloc (.cells #[.int .i64 A.kind,.int .i64 A.step.which,.bool A.step.back,.int .i64 A.step.at_,.int .i64 A.count] 69)).heap.size _).alloc (o:=(.cells #[(),(),(),()] 31)) (le_ _)) (by simp);rw[μ]at h;rw[hw0];exact H_ h
 have K3:Q_ (Blk (w.heap.size+1+1) (.cells #[(),(),(),()] 31) w0):=by
  have h:=κ ((w.alloc (.cells #[a,b,c,d] 31)).alloc (.cells #[.int .i64 A.kind,.int .i64 A.step.which,.bool A.step.back,.int .i64 A.step.at_,.int .i64 A.count] 69)) (.cells #[(),(),(),()] 31);rw[μ,μ]at h;rw[hw0];exact H_ h
 have HX:=H_ (hx.below hb0 hh);have HB:=H_ hb0;have HE:=H_ (hE.below hb0);have HW0:=H_ hw0;clear hx hE hb0 hw0;have⟨dv,hdv⟩:=ex_ (φ D);have HDV:=H_ hdv;clear hdv;have⟨d0,d1,d2,d3⟩:=K1.o.c4;have⟨a0,a1,a2,a3,a4⟩:=K2.o.c5
 go_enter func50,ntmps50
 go_wp2_with (rw[<-HW0.o])
 refine(zhl _ _ a b c d D w0 HE.o HX.o (by omega) HM.o).mono ?_;rintro e1 w1 ⟨rfl,hb1⟩;rw[<-HDV.o];have hs1:=hb1.size;replace HB:=HB.tr hb1 (by omega);replace K1:=K1.kb hb1;replace K2:=K2.kb hb1;replace K3:=K3.kb hb1;replace HX:=H_ (HX.o.below hb1 (by omega));replace HE:=H_ (HE.o.below hb1);clear hb1 d0 d1 d2 d3 a0 a1 a2 a3 a4;have⟨d0,d1,d2,d3⟩:=K1.o.c4;have⟨a0,a1,a2,a3,a4⟩:=K2.o.c5;cases dv
 ·have HD:=H_ (show Χ D A=(Dsk.none,false) by simp[Χ,<-HDV.o])
  have⟨f0,f1,f2,f3⟩:=K3.o.f4;have⟨c0,c1,c2,c3⟩:=K3.o.c4;have⟨wz,hwz⟩:=x4_ w1 (w.heap.size+1+1) () () () ();have KZ:=K3.o.set4 () () () ();have hO:=β.set4 (w.heap.size+1+1) w1 () () () ();rw[<-hwz]at KZ hO;have hsz:=hO.size;have HZ:=H_ (ε HB.o hO (by omega) (by omega));have HOZ:=H_ hO;obtain⟨q0,q1,q2,q3⟩:=KZ.c4;clear KZ hO;go_wp2;simp only[<-hwz];clear hwz;refine d_ (v:=.tuple #[ο () () () (),.bool false]) (by simp[results,results50,go_sem,q0,q1,q2,q3]) rfl (zcj.mk _ _ _ _ _ rfl ⟨?_,?_,HZ.o⟩)
  ·rw[HD.o]
   exact Κ.nils _ _ HZ.o.size _
  ·rw[HD.o]
 ·go_wp2_with fail
  obtain⟨ma,mc,hce,hmc1,hmc2⟩:=HX.o.made.shape;refine(zz4 _ _ a b c d D A w1 HE.o HX.o (by omega) HM.o).mono ?_;rintro e2 w2 ⟨vm,ok1,rfl,hb2,hok1,⟨lm,hlm⟩,hms⟩;obtain⟨xa,xc,rfl,_⟩:=θ hlm;have hs2:=hb2.size;replace HB:=HB.tr hb2 (by omega);replace K1:=K1.kb hb2;replace K2:=K2.kb hb2;replace K3:=K3.kb hb2;replace HX:=H_ (HX.o.below hb2 (by omega));replace HE:=H_ (HE.o.below hb2);clear hb2 d0 d1 d2 d3 a0 a1 a2 a3 a4;have⟨d0,d1,d2,d3⟩:=K1.o.c4;have HOK1:=H_ hok1;have HMS:=H_ hms;clear hok1 hms hce;have⟨r1,hr1⟩:=ex_ (za1 D A);rw[<-hr1]at HOK1 HMS;have HR1:=H_ hr1;clear hr1;cases r1 with
  | none=>
   obtain rfl:ok1=false:=HOK1.o;have HD:=H_ (show Χ D A=(D,false) by simp[Χ,<-HDV.o,<-HR1.o]);go_wp2_with fail
   refine(ziz _ _ a b c d D w2 HX.o (by omega) HM.o).mono ?_;rintro e3 w3 ⟨x0,x1,x2,x3,rfl,ho3,hb3⟩;have hs3:=hb3.size;replace HB:=HB.tr hb3 (by omega);replace K3:=K3.kb hb3;have HO3:=H_ ho3;obtain⟨x0,y0,x1,y1,x2,y2,x3,y3,rfl,rfl,rfl,rfl⟩:=ho3.open;clear hb3 ho3 d0 d1 d2 d3;have⟨f0,f1,f2,f3⟩:=K3.o.f4;have⟨c0,c1,c2,c3⟩:=K3.o.c4;have⟨wz,hwz⟩:=x4_ w3 (w.heap.size+1+1) (.slice x0 D.first y0) (.slice x1 D.goal y1) (.slice x2 D.made y2) (.slice x3 D.now y3);have KZ:=K3.o.set4 (.slice x0 D.first y0) (.slice x1 D.goal y1) (.slice x2 D.made y2) (.slice x3 D.now y3);have hO:=β.set4 (w.heap.size+1+1) w3 (.slice x0 D.first y0) (.slice x1 D.goal y1) (.slice x2 D.made y2) (.slice x3 D.now y3);rw[<-hwz]at KZ hO;have hsz:=hO.size;have HZ:=H_ (ε HB.o hO (by omega) (by omega));have HOZ:=H_ hO;obtain⟨q0,q1,q2,q3⟩:=KZ.c4;clear KZ hO;go_wp2;simp only[<-hwz];clear hwz;refine d_ (v:=.tuple #[ο (.slice x0 D.first y0) (.slice x1 D.goal y1) (.slice x2 D.made y2) (.slice x3 D.now y3),.bool false]) (by simp[results,results50,go_sem,q0,q1,q2,q3]) rfl (zcj.mk _ _ _ _ _ rfl ⟨?_,?_,HZ.o⟩)
   ·rw[HD.o]
    exact(HO3.o.outside HOZ.o (.inr (by omega))).wide (by omega) (by omega)
   ·rw[HD.o]
  | some ms=>
   obtain rfl:ok1=true:=HOK1.o;have hm2:=HMS.o ms rfl;obtain⟨xb,yb,hxe,_⟩:=θ hm2;have HM2:=H_ hm2
   obtain⟨x,hx⟩:∃ x,υ D.first D.made=some x:=by
    have h:=HDV.o;unfold φ at h;cases hp:υ D.first D.made with
    | none=>rw[hp] at h;cases h
    | some x=>exact⟨x,rfl⟩
   have hml:ms.length<=1048576:=zwb hx HR1.o.symm;clear hlm hm2 hxe hx;go_wp2_with fail
   refine(znn _ _ _ _ a _ D.first ms w2 HE.o HX.o.first (by omega) (Ξ.sl HM2.o) hml).mono ?_;rintro e3 w3 ⟨v3,ok3,rfl,hb3,hok3,ho3⟩;obtain⟨xn,yn,rfl,_⟩:=θ ho3;have hs3:=hb3.size;replace HB:=HB.tr hb3 (by omega);replace K1:=K1.kb hb3;replace K3:=K3.kb hb3;replace HX:=H_ (HX.o.below hb3 (by omega));replace HM2:=H_ (Ξ.below HM2.o hb3 (le_ _));have HO3:=H_ ho3;have HOK3:=H_ hok3;clear hb3 ho3 hok3 d0 d1 d2 d3;have⟨d0,d1,d2,d3⟩:=K1.o.c4;have⟨r2,hr2⟩:=ex_ (υ D.first ms);rw[<-hr2]at HOK3 HO3;have HR2:=H_ hr2;clear hr2;cases r2 with
   | none=>
    (obtain rfl:ok3=false:=HOK3.o;have HD:=H_ (show Χ D A=(D,false) by simp[Χ,<-HDV.o,<-HR1.o,<-HR2.o]);go_wp2_with fail);refine(ziz _ _ a b c d D w3 HX.o (by omega) HM.o).mono ?_;rintro e4 w4 ⟨z0,z1,z2,z3,rfl,ho4,hb4⟩;have hs4:=hb4.size;replace HB:=HB.tr hb4 (by omega);replace K3:=K3.kb hb4;have HO4:=H_ ho4;obtain⟨x0,y0,x1,y1,x2,y2,x3,y3,rfl,rfl,rfl,rfl⟩:=ho4.open;clear hb4 ho4 d0 d1 d2 d3;have⟨f0,f1,f2,f3⟩:=K3.o.f4;have⟨c0,c1,c2,c3⟩:=K3.o.c4;have⟨wz,hwz⟩:=x4_ w4 (w.heap.size+1+1) (.slice x0 D.first y0) (.slice x1 D.goal y1) (.slice x2 D.made y2) (.slice x3 D.now y3);have KZ:=K3.o.set4 (.slice x0 D.first y0) (.slice x1 D.goal y1) (.slice x2 D.made y2) (.slice x3 D.now y3);have hO:=β.set4 (w.heap.size+1+1) w4 (.slice x0 D.first y0) (.slice x1 D.goal y1) (.slice x2 D.made y2) (.slice x3 D.now y3);rw[<-hwz]at KZ hO;have hsz:=hO.size;have HZ:=H_ (ε HB.o hO (by omega) (by omega));have HOZ:=H_ hO;obtain⟨q0,q1,q2,q3⟩:=KZ.c4;clear KZ hO;go_wp2;simp only[<-hwz];clear hwz;refine d_ (v:=.tuple #[ο (.slice x0 D.first y0) (.slice x1 D.goal y1) (.slice x2 D.made y2) (.slice x3 D.now y3),.bool false]) (by simp[results,results50,go_sem,q0,q1,q2,q3]) rfl (zcj.mk _ _ _ _ _ rfl ⟨?_,?_,HZ.o⟩)
    ·rw[HD.o]
     exact(HO4.o.outside HOZ.o (.inr (by omega))).wide (by omega) (by omega)
    ·rw[HD.o]
   | some x=>
    (obtain rfl:ok3=true:=HOK3.o;go_wp2_with fail);refine(ziz _ _ a b c d D w3 HX.o (by omega) HM.o).mono ?_;rintro e4 w4 ⟨z0,z1,z2,z3,rfl,ho4,hb4⟩;have hs4:=hb4.size;replace HB:=HB.tr hb4 (by omega);replace K3:=K3.kb hb4;have HO4:=H_ ho4;obtain⟨x0,y0,x1,y1,x2,y2,x3,y3,rfl,rfl,rfl,rfl⟩:=ho4.open;clear ho4 d0 d1 d2 d3;have hb5:Below w4 w4 (w4.alloc (.cells #[(.slice x0 D.first y0),(.slice x1 D.goal y1),(.slice xa lm xc),(.slice xn ((υ D.first ms).getD []).length yn)] 31)):=(B_ _ _).alloc (le_ _) _;have hs5:(w4.alloc (.cells #[(.slice x0 D.first y0),(.slice x1 D.goal y1),(.slice xa lm xc),(.slice xn ((υ D.first ms).getD []).length yn)] 31)).heap.size=w4.heap.size+1:=by simp
    replace HB:=HB.tr hb5 (by omega);replace K3:=K3.kb hb5;replace HM2:=H_ ((Ξ.below HM2.o hb4 (by omega)).below hb5 (by omega));replace HO3:=H_ ((γ.below HO3.o hb4 (by omega)).below hb5 (by omega));replace HO4:=H_ (HO4.o.below hb5 (le_ _));clear hb4 hb5;have HD:=H_ (show Χ D A=(⟨D.first,D.goal,ms,x⟩,true) by simp[Χ,<-HDV.o,<-HR1.o,<-HR2.o]);have⟨f0,f1,f2,f3⟩:=K3.o.f4;have⟨c0,c1,c2,c3⟩:=K3.o.c4;have⟨wz,hwz⟩:=x4_ (w4.alloc (.cells #[(.slice x0 D.first y0),(.slice x1 D.goal y1),(.slice xa lm xc),(.slice xn ((υ D.first ms).getD []).length yn)] 31)) (w.heap.size+1+1) (.slice x0 D.first y0) (.slice x1 D.goal y1) (.slice xa lm xc) (.slice xn ((υ D.first ms).getD []).length yn);have KZ:=K3.o.set4 (.slice x0 D.first y0) (.slice x1 D.goal y1) (.slice xa lm xc) (.slice xn ((υ D.first ms).getD []).length yn);have hO:=β.set4 (w.heap.size+1+1) (w4.alloc (.cells #[(.slice x0 D.first y0),(.slice x1 D.goal y1),(.slice xa lm xc),(.slice xn ((υ D.first ms).getD []).length yn)] 31)) (.slice x0 D.first y0) (.slice x1 D.goal y1) (.slice xa lm xc) (.slice xn ((υ D.first ms).getD []).length yn);rw[<-hwz]at KZ hO;have hsz:=hO.size;have HZ:=H_ (ε HB.o hO (by omega) (by omega));have HOZ:=H_ hO;obtain⟨q0,q1,q2,q3⟩:=KZ.c4;clear KZ hO;go_wp2;simp only[<-hwz];clear hwz;refine d_ (v:=.tuple #[ο (.slice x0 D.first y0) (.slice x1 D.goal y1) (.slice xa lm xc) (.slice xn ((υ D.first ms).getD []).length yn),.bool true]) (by simp[results,results50,go_sem,q0,q1,q2,q3]) rfl (zcj.mk _ _ _ _ _ rfl ⟨?_,?_,HZ.o⟩)
    ·rw[HD.o]
     obtain⟨l1,h1,l2,h2,l3,h3,l4,h4,o1,o2,o3,o4,r1,r2,r3,r4,rest⟩:=HO4.o.outside HOZ.o (.inr (by omega));exact⟨l1,h1,l2,h2,w1.heap.size,w2.heap.size,w2.heap.size,w3.heap.size,o1,o2,Ξ.outside HM2.o HOZ.o (.inr (by omega)),(by rw[<-HR2.o];exact γ.outside HO3.o HOZ.o (.inr (by omega))),by omega,by omega,by omega,by omega,rest.1,.inr (by omega),.inr (by omega),.inr (by omega),.inr (by omega),.inl (by omega)⟩
    ·rw[HD.o]
theorem zfr(lo hi lo' hi':Nat)(a b c d vm:Value)(D:Dsk)(ms:List Mv)(w:World)(hx:Θ lo hi w a b c d D)(hh:hi<=w)(hm:D.size<=1048576)(hms:SlM lo' hi' w vm ms)(hh':hi'<=w)(hml:ms.length<=1048576)(hk:(ν D.first&&ν D.goal)=true):
  Calls prog 34 #[ο a b c d,vm] w (zjg w ⟨D.first,D.goal,ms,(υ D.first ms).getD []⟩):=by
 unfold Dsk.size at hm;have⟨w0,hw0⟩:=ex_ ((w.alloc (.cells #[a,b,c,d] 31)).alloc (.cells #[(),(),(),()] 31));have HB:Q_ (Below w w w0):=by rw[hw0];exact H_ (((B_ _ _).alloc (le_ _) _).alloc (by simp) _)
 have K1:Q_ (Blk w (.cells #[a,b,c,d] 31) w0):=by
  rw[hw0];exact H_ ((κ w _).below ((B_ (w.alloc _).heap.size _).alloc (le_ _) _) (by simp))
 have K2:Q_ (Blk (w+1) (.cells #[(),(),(),()] 31) w0):=by
  have h:=κ (w.alloc (.cells #[a,b,c,d] 31)) (.cells #[(),(),(),()] 31);rw[μ]at h;rw[hw0];exact H_ h
 have hs0:w0=w.heap.size+2:=by rw[hw0];simp
 have HX:=H_ (hx.below HB.o hh);have HMS:=H_ (zch hms HB.o hh');have HW0:=H_ hw0;obtain⟨ma,mc,rfl,hmc,hmm⟩:=hms.shape;clear hx hms hw0;have⟨d0,d1⟩:=K1.o.c2
 go_enter func34,ntmps34
 go_wp2_with (rw[<-HW0.o])
 refine(zky _ _ _ _ a b D.first D.goal w0 HX.o.first HX.o.goal (by omega) (by omega) (by omega) (by omega)).mono ?_;rintro e1 w1 ⟨x0,x1,x2,x3,rfl,ho1,hb1⟩;rw[zbv,x_ hk]at ho1;obtain⟨p0,q0,p1,q1,p2,q2,p3,q3,e0,e1,e2,e3⟩:=ho1.open
 change x0=.slice p0 D.first q0 at e0
 change x1=.slice p1 D.goal q1 at e1
 change x2=.slice p2 0 q2 at e2
 change x3=.slice p3 D.first q3 at e3
 subst e0 e1 e2 e3;have hs1:=hb1.size;replace HB:=HB.tr hb1 (by omega);replace K1:=K1.kb hb1;replace K2:=K2.kb hb1;replace HX:=H_ (HX.o.below hb1 (by omega));replace HMS:=H_ (zch HMS.o hb1 (by omega));have HO1:=H_ ho1;clear hb1 ho1 d0 d1;have d0:=K1.o.cell 0;have⟨f0,f1,f2,f3⟩:=K2.o.f4;have⟨c0,c1,c2,c3⟩:=K2.o.c4;have⟨wo,hwo⟩:=xa_ w1 #[.slice p0 D.first q0,.slice p1 D.goal q1,.slice p2 0 q2,.slice p3 D.first q3] 31;have KO:Q_ (Blk w1 (.cells #[.slice p0 D.first q0,.slice p1 D.goal q1,.slice p2 0 q2,.slice p3 D.first q3] 31) wo):=by rw[hwo];exact H_ (κ w1 _)
 have hbo:Below w1 w1 wo:=by rw[hwo];exact(B_ _ _).alloc (le_ _) _
 have hso:wo=w1.heap.size+1:=by rw[hwo];simp
 have HWO:=H_ hwo;clear hwo
 have OE:Q_ (Own 3 (w1+1) (w1+2) 67 (wo.alloc (.cells #[] 67)) (.slice (q_ (w1+1) 0) 0 0) 0 []):=by
  have h:=ς 3 67 wo [] 0 (by omega) rfl;rw[hso]at h;exact H_ h
 have hbe:Below w1 w1 (wo.alloc (.cells #[] 67)):=hbo.alloc (by omega) _;have HME:=H_ (zch HMS.o hbe (by omega));have hze:(wo.alloc (.cells #[] 67)).heap.size=w1.heap.size+2:=by simp;omega
 go_wp2_with (at_builtin;go_loud (rw[<-HWO.o];refine Μ rfl _ _ 29 rfl 67 (.agg #[(0:Int),.bool false,(0:Int)]) 3 24 underlying29 zd8 rfl (by decide) (by decide) rfl OE.o rfl HME.o (zg2 _) (by omega) (by omega) ?_))
 intro v5 w5 ho5 _ hout5 _;have hs5:=hout5.size;have KO5:=H_ ((KO.o.below ((B_ wo wo).alloc (o:=.cells #[] 67) (le_ _)) KO.o.lt).outside hout5 (by omega));have hb5:Below w1 w1 w5:=ε hbe hout5 (by omega) (by omega);have HO5:Q_ (Ξ (w1+1) w5 67 w5 v5 ms):=H_ (by unfold Ξ;simpa using ho5);obtain⟨pa,pc,rfl⟩:=η ho5;replace HB:=HB.tr hb5 (by omega);replace K1:=K1.kb hb5;replace K2:=K2.kb hb5;replace HX:=H_ (HX.o.below hb5 (by omega));replace HMS:=H_ (zch HMS.o hb5 (by omega));replace HO1:=H_ (HO1.o.below hb5 (le_ _));clear ho5 hout5 hb5 hbe OE HME d0 f0 f1 f2 f3 c0 c1 c2 c3;have d0:=K1.o.cell 0;have f2:=KO5.o.free 2;have c2:=KO5.o.cell 2;have⟨w6,hw6⟩:=ex_ (w5.setCell (p_ w1 2) (.slice pa ms pc));have KO6:=H_ (show Blk w1 _ w6 by rw[hw6];exact KO5.o.put 2 (.slice pa ms pc));have hO6:β w1 (w1+1) w5 w6:=by rw[hw6];exact β.put w1 2 w5 _
 have hs6:=hO6.size;have HW6:=H_ hw6;replace HB:=H_ (ε HB.o hO6 (by omega) (by omega));replace K1:=H_ (K1.o.outside hO6 (by omega));replace K2:=H_ (K2.o.outside hO6 (by omega));replace HX:=H_ (HX.o.outside hO6 (.inl (by omega)));replace HMS:=H_ (zhc HMS.o hO6 (.inl (by omega)));replace HO1:=H_ (HO1.o.outside hO6 (.inl (by omega)));replace HO5:=H_ (Ξ.outside HO5.o hO6 (.inr (by omega)));clear hw6 hO6;have d6:=K1.o.cell 0;go_wp2_with (rw[<-HW6.o])
 refine(zma _ _ _ _ a _ D.first ms w6 HX.o.first (by omega) HMS.o hml).mono ?_;rintro e3 w7 ⟨v7,ok7,rfl,hb7,hok7,ho7⟩;have hs7:=hb7.size;obtain⟨pn,pm,rfl,_⟩:=θ ho7;replace HB:=HB.tr hb7 (by omega);replace K2:=K2.kb hb7;have KO7:=KO6.kb hb7;replace HO1:=H_ (HO1.o.below hb7 (by omega));replace HO5:=H_ (Ξ.below HO5.o hb7 (by omega));have⟨w8,hw8⟩:=ex_ (w7.setCell (p_ w1 3) (.slice pn ((υ D.first ms).getD []).length pm));have KO8:=H_ (show Blk w1 _ w8 by rw[hw8];exact KO7.o.put 3 (.slice pn ((υ D.first ms).getD []).length pm));have hO8:β w1 (w1+1) w7 w8:=by rw[hw8];exact β.put w1 3 w7 _
 have hs8:=hO8.size;have HW8:=H_ hw8;replace HB:=H_ (ε HB.o hO8 (by omega) (by omega));replace K2:=H_ (K2.o.outside hO8 (by omega));replace HO1:=H_ (HO1.o.outside hO8 (.inl (by omega)));replace HO5:=H_ (Ξ.outside HO5.o hO8 (.inr (by omega)));have HO7:=H_ (γ.outside ho7 hO8 (.inr (by omega)));clear hw8 hO8 d0 d6 f2 c2 hb7 ho7;have f3:=KO7.o.free 3;have c3:=KO7.o.cell 3;have⟨o0,o1,o2,o3⟩:=KO8.o.c4;have⟨g0,g1,g2,g3⟩:=K2.o.f4;have⟨h0,h1,h2,h3⟩:=K2.o.c4;have⟨wz,hwz⟩:=x4_ w8 (w+1) (.slice p0 D.first q0) (.slice p1 D.goal q1) (.slice pa ms pc) (.slice pn ((υ D.first ms).getD []).length pm);have KZ:=K2.o.set4 (.slice p0 D.first q0) (.slice p1 D.goal q1) (.slice pa ms pc) (.slice pn ((υ D.first ms).getD []).length pm);have hO:=β.set4 (w+1) w8 (.slice p0 D.first q0) (.slice p1 D.goal q1) (.slice pa ms pc) (.slice pn ((υ D.first ms).getD []).length pm);rw[<-hwz]at KZ hO;have hsz:=hO.size;have HZ:=H_ (ε HB.o hO (by omega) (by omega));have HOZ:=H_ hO;obtain⟨r0,r1,r2,r3⟩:=KZ.c4;clear KZ hO;go_wp2_with (rw[<-HW8.o])
 simp only[<-hwz];clear hwz;refine d_ (v:=ο (.slice p0 D.first q0) (.slice p1 D.goal q1) (.slice pa ms pc) (.slice pn ((υ D.first ms).getD []).length pm)) (by simp[results,results34,go_sem,r0,r1,r2,r3]) rfl (zdb.mk _ _ _ _ rfl ⟨?_,HZ.o⟩);obtain⟨l1,h1,l2,h2,l3,h3,l4,h4,o1,o2,o3,o4,r1,r2,r3,r4,rest⟩:=HO1.o.outside HOZ.o (.inr (by omega));exact⟨l1,h1,l2,h2,w1.heap.size+1,w5.heap.size,w6.heap.size,w7.heap.size,o1,o2,Ξ.outside HO5.o HOZ.o (.inr (by omega)),γ.outside HO7.o HOZ.o (.inr (by omega)),by omega,by omega,by omega,by omega,rest.1,.inl (by omega),.inl (by omega),.inl (by omega),.inl (by omega),.inl (by omega)⟩
theorem ziu {ms:List Mv}:υ e ms=some x↔ν e=true/\ms.length<=60/\zay e ms=some x:=by
 unfold υ
 constructor
 ·intro h
  split at h
  ·rename_i hc
   simp only[j_,t_]at hc;exact⟨hc.1,hc.2,h⟩
  ·cases h
 ·rintro⟨h1,h2,h3⟩
  simp[h1,h2,h3]
theorem zro {a:List Mv}(h:υ e a=some x)(b:List Mv):υ e (a++b)=if (a++b).length<=60 then zay x b else none:=by
 obtain⟨h1,h2,h3⟩:=ziu.1 h;unfold υ;rw[h1,zml,h3];simp
theorem ztr {a:List Mv}(h:υ e a=some x)(k:Nat):∃ y,υ e (a.take k)=some y:=by
 obtain⟨h1,h2,h3⟩:=ziu.1 h;have h4:=zml (a.take k) (a.drop k) e;rw[a1_,h3]at h4;cases h5:zay e (a.take k) with
 | none=>rw[h5] at h4;cases h4
 | some y=>exact⟨y,ziu.2 ⟨h1,by simp;omega,h5⟩⟩
theorem zw9(h:ν e=true):∃ y,zay e (zah e)=some y:=by
 obtain⟨_,_,h3⟩:=ziu.1 (z0n h);exact⟨_,by rw[zah,x_ h];exact h3⟩
theorem zbu(h:φ D=true):ν D.first=true/\ν D.goal=true/\ν D.now=true/\D.made.length<=60/\υ D.first D.made=some D.now:=by
 unfold φ at h;cases hp:υ D.first D.made with
 | none=>rw[hp] at h;cases h
 | some x=>
  rw[hp]at h;simp only[j_]at h;have h2:x=D.now:=by simpa [eqL] using h.2
  subst h2;obtain⟨h3,h4,_⟩:=ziu.1 hp;exact⟨h3,h.1,zh2 hp,h4,rfl⟩
def zc0(D:Dsk)(r:Option (List Mv)):Dsk × Bool:=
 match r with
 | some ms=>if ms.length>60\/ms.length=D.made.length then (D,false) else (⟨D.first,D.goal,ms,(υ D.first ms).getD []⟩,true)
 | none=>(D,false)
def zb6(D:Dsk)(a:Ac):Option (List Mv):=
 if zaf a then
  if a.kind=0/\(Ψ D.now a.step).isSome then some (D.made++[a.step])
  else if a.kind=1/\1<=a.count/\a.count<=D.made.length then some (D.made.take (D.made.length-a.count.toNat))
  else if a.kind=2 then some (D.made++zah D.now)
  else none
 else none
theorem zfo {a:Ac}(h:φ D=true):Χ D a=zc0 D (zb6 D a):=by
 obtain⟨k1,k2,k3,hl,hp⟩:=zbu h;unfold Χ;rw[x_ h];cases hn:zaf a
 ·simp[za1,zb6,hn,zc0]
 ·rcases zmv hn with hk|hk|hk
  ·have e1:za1 D a=some (D.made++[a.step]):=by simp[za1,hn,hk]
   have e2:=zro hp [a.step];have e3:zay D.now [a.step]=Ψ D.now a.step:=by simp[zay]
   rw[e3]at e2;rw[e1];cases hm:Ψ D.now a.step with
   | none=>rw[hm] at e2;simp[zb6,hn,hk,hm,zc0,e2]
   | some x=>
    rw[hm]at e2;by_cases h6:(D.made++[a.step]).length<=60
    ·rw[x_ h6]at e2
     (have:¬((D.made++[a.step]).length>60\/(D.made++[a.step]).length=D.made.length):=by simp at h6 ⊢;omega);simp only[zb6,hn,hk,hm,zc0,e2,m_ this,d6_,ab_,cn_,a0_,and_self,ac_]
    ·rw[m_ h6]at e2
     (have:(D.made++[a.step]).length>60\/(D.made++[a.step]).length=D.made.length:=by omega);simp only[zb6,hn,hk,hm,zc0,e2,x_ this,d6_,ab_,Option.map_none,a0_,and_self]
  ·by_cases hc:1<=a.count/\a.count<=D.made.length
   ·(have e1:za1 D a=some (D.made.take (D.made.length-a.count.toNat)):=by simp[za1,hn,hk,hc]);obtain⟨y,e2⟩:=ztr hp (D.made.length-a.count.toNat);rw[e1];simp[zb6,hn,hk,hc,zc0,e2];omega
   ·(have e1:za1 D a=none:=by simp only[za1,hn,hk];simp[hc]);(have e2:zb6 D a=none:=by simp only[zb6,hn,hk];simp[hc]);rw[e1,e2];rfl
  ·obtain⟨y,e4⟩:=zw9 k3
   have e2:=zro hp (zah D.now);rw[e4]at e2;have e3:zb6 D a=some (D.made++zah D.now):=by simp[zb6,hn,hk]
   rw[e3];by_cases hs:zah D.now=[]
   ·(have e1:za1 D a=none:=by simp[za1,hn,hk,hs]);rw[e1];simp[zc0,hs]
   ·(have hpos:0<(zah D.now).length:=b3_.2 hs);(have e1:za1 D a=some (D.made++zah D.now):=by simp[za1,hn,hk,hs]);rw[e1];by_cases h6:(D.made++zah D.now).length<=60
    ·rw[x_ h6]at e2
     (have:¬((D.made++zah D.now).length>60\/(D.made++zah D.now).length=D.made.length):=by simp only[n_] at h6 ⊢;omega);simp only[zc0,e2,m_ this,ab_,cn_,ac_]
    ·rw[m_ h6]at e2
     (have:(D.made++zah D.now).length>60\/(D.made++zah D.now).length=D.made.length:=by omega);simp only[zc0,e2,x_ this,ab_,Option.map_none]
theorem zih(h:φ D=true):(ν D.first&&ν D.goal)=true/\υ D.first D.made=some D.now:=by
 unfold φ at h;cases hp:υ D.first D.made with
 | none=>rw[hp] at h;cases h
 | some x=>
  rw[hp]at h;simp only[j_]at h
  have h1:ν D.first=true:=by
   unfold υ at hp
   split at hp
   ·rename_i h2;simp at h2;exact h2.1
   ·cases hp
  have h2:x=D.now:=by simpa [eqL] using h.2
  exact⟨by rw[h1,h.1];rfl,by rw[h2]⟩
theorem zm3(lo hi:Nat)(a b c d:Value)(D:Dsk)(A:Ac)(w:World)(hx:Θ lo hi w a b c d D)(hh:hi<=w)(hm:D.size<=1048576):
  Calls prog 52 #[ο a b c d,zhi A] w (zrg w (Χ D A)):=by
 have HM:=H_ hm;unfold Dsk.size at hm;have⟨w0,hw0⟩:=ex_ (((w.alloc (.cells #[a,b,c,d] 31)).alloc (.cells #[.int .i64 A.kind,.int .i64 A.step.which,.bool A.step.back,.int .i64 A.step.at_,.int .i64 A.count] 69)).alloc (.cells #[(),(),(),()] 31));have hb0:Below w w w0:=by rw[hw0];exact(((B_ _ _).alloc (le_ _) _).alloc (by simp) _).alloc (by simp;omega) _
 have hs0:w0=w.heap.size+3:=by rw[hw0];simp
 have K1:Q_ (Blk w (.cells #[a,b,c,d] 31) w0):=by
  rw[hw0];exact H_ (((κ w _).below ((B_ (w.alloc _).heap.size _).alloc (le_ _) _) (by simp)).below ((B_ ((w.alloc _).alloc _).heap.size _).alloc (le_ _) _) (by simp;omega))
 have K2:Q_ (Blk (w+1) (.cells #[.int .i64 A.kind,.int .i64 A.step.which,.bool A.step.back,.int .i64 A.step.at_,.int .i64 A.count] 69) w0):=by
  have h:=(κ (w.alloc (.cells #[a,b,c,d] 31)) (.cells #[.int .i64 A.kind,.int .i64 A.step.which,.bool A.step.back,.int .i64 A.step.at_,.int .i64 A.count] 69)).below ((B_ ((w.alloc (.cells #[a,b,c,d] 31)).alloc (.cells #[.int .i64 A.kind,.int .i64 A.step.which,.bool A.step.back,.int .i64 A.step.at_,.int .i64 A.count] 69)).heap.size _).alloc (o:=(.cells #[(),(),(),()] 31)) (le_ _)) (by simp);rw[μ]at h;rw[hw0];exact H_ h
 have K3:Q_ (Blk (w.heap.size+1+1) (.cells #[(),(),(),()] 31) w0):=by
  have h:=κ ((w.alloc (.cells #[a,b,c,d] 31)).alloc (.cells #[.int .i64 A.kind,.int .i64 A.step.which,.bool A.step.back,.int .i64 A.step.at_,.int .i64 A.count] 69)) (.cells #[(),(),(),()] 31);rw[μ,μ]at h;rw[hw0];exact H_ h
 have HX:=H_ (hx.below hb0 hh);have HB:=H_ hb0;have HW0:=H_ hw0;clear hx hb0 hw0;have⟨dv,hdv⟩:=ex_ (φ D);have HDV:=H_ hdv;clear hdv;have⟨d0,d1,d2,d3⟩:=K1.o.c4;have⟨a0,a1,a2,a3,a4⟩:=K2.o.c5
 go_enter func52,ntmps52
 go_wp2_with (rw[<-HW0.o])
 refine(zfq _ _ a b c d D w0 HX.o (by omega) HM.o).mono ?_;rintro e1 w1 ⟨rfl,hb1⟩;rw[<-HDV.o];have hs1:=hb1.size;replace HB:=HB.tr hb1 (by omega);replace K1:=K1.kb hb1;replace K2:=K2.kb hb1;replace K3:=K3.kb hb1;replace HX:=H_ (HX.o.below hb1 (by omega));clear hb1 d0 d1 d2 d3 a0 a1 a2 a3 a4;have⟨d0,d1,d2,d3⟩:=K1.o.c4;have⟨a0,a1,a2,a3,a4⟩:=K2.o.c5;cases dv
 ·have HD:=H_ (show Χ D A=(Dsk.none,false) by simp[Χ,<-HDV.o])
  have⟨f0,f1,f2,f3⟩:=K3.o.f4;have⟨c0,c1,c2,c3⟩:=K3.o.c4;have⟨wz,hwz⟩:=x4_ w1 (w.heap.size+1+1) () () () ();have KZ:=K3.o.set4 () () () ();have hO:=β.set4 (w.heap.size+1+1) w1 () () () ();rw[<-hwz]at KZ hO;have hsz:=hO.size;have HZ:=H_ (ε HB.o hO (by omega) (by omega));have HOZ:=H_ hO;obtain⟨q0,q1,q2,q3⟩:=KZ.c4;clear KZ hO;go_wp2;simp only[<-hwz];clear hwz;refine d_ (v:=.tuple #[ο () () () (),.bool false]) (by simp[results,results52,go_sem,q0,q1,q2,q3]) rfl (zcj.mk _ _ _ _ _ rfl ⟨?_,?_,HZ.o⟩)
  ·rw[HD.o]
   exact Κ.nils _ _ HZ.o.size _
  ·rw[HD.o]
 ·obtain⟨hk,hp0⟩:=zih HDV.o.symm
  have HP0:=H_ hp0;have HK:=H_ hk;clear hk hp0;go_wp2_with fail
  refine(zfr _ _ _ _ a b c d c D D.made w1 HX.o (by omega) HM.o HX.o.made (by omega) (by omega) HK.o).mono ?_;rintro e2 w2 ⟨z0,z1,z2,z3,rfl,ho2,hb2⟩;rw[HP0.o]at ho2;obtain⟨x0,y0,x1,y1,x2,y2,x3,y3,e0,e1,e2,e3⟩:=ho2.open
  change z0=.slice x0 D.first y0 at e0
  change z1=.slice x1 D.goal y1 at e1
  change z2=.slice x2 D.made y2 at e2
  change z3=.slice x3 D.now y3 at e3
  subst e0 e1 e2 e3;have hs2:=hb2.size;replace HB:=HB.tr hb2 (by omega);replace K1:=K1.kb hb2;replace K2:=K2.kb hb2;replace K3:=K3.kb hb2;replace HX:=H_ (HX.o.below hb2 (by omega));have HO2:Q_ (Κ w1 w2 w2 (.slice x0 D.first y0) (.slice x1 D.goal y1) (.slice x2 D.made y2) (.slice x3 D.now y3) D):=H_ ho2;clear hb2 ho2 d0 d1 d2 d3 a0 a1 a2 a3 a4;have⟨wo,hwo⟩:=xa_ w2 #[.slice x0 D.first y0,.slice x1 D.goal y1,.slice x2 D.made y2,.slice x3 D.now y3] 31;have KO:Q_ (Blk w2 (.cells #[.slice x0 D.first y0,.slice x1 D.goal y1,.slice x2 D.made y2,.slice x3 D.now y3] 31) wo):=by rw[hwo];exact H_ (κ w2 _)
  have hbo:Below w2 w2 wo:=by rw[hwo];exact(B_ _ _).alloc (le_ _) _
  have hso:wo=w2.heap.size+1:=by rw[hwo];simp
  have HWO:=H_ hwo;replace HB:=HB.tr hbo (by omega);replace K1:=K1.kb hbo;replace K2:=K2.kb hbo;replace K3:=K3.kb hbo;replace HX:=H_ (HX.o.below hbo (by omega));replace HO2:=H_ (HO2.o.below hbo (le_ _));clear hwo hbo;have d2:=K1.o.cell 2;have d3:=K1.o.cell 3;have a1:=K2.o.cell 1;have a2:=K2.o.cell 2;have a3:=K2.o.cell 3;go_wp2_with (rw[<-HWO.o])
  refine(zj0 d D.now A.step wo (zd0 HX.o.now (by omega)) (by omega)).mono ?_;rintro e3 w3 ⟨v3,can,rfl,hb3,hcan,ho3⟩;have hs3:=hb3.size;replace HB:=HB.tr hb3 (by omega);replace K1:=K1.kb hb3;replace K2:=K2.kb hb3;replace K3:=K3.kb hb3;replace KO:=KO.kb hb3;replace HX:=H_ (HX.o.below hb3 (by omega));replace HO2:=H_ (HO2.o.below hb3 (by omega));have HCAN:=H_ hcan;obtain⟨xm,ym,rfl,_⟩:=θ ho3;clear hb3 ho3 hcan d2 d3 a1 a2 a3;have d2:=K1.o.cell 2;obtain⟨ma,mc,hce,hmc1,hmc2⟩:=HX.o.made.shape;unfold maxLen at hmc2;subst hce;have OE:Q_ (Own 3 w3 (w3+1) 67 (w3.alloc (.cells #[] 67)) (.slice (q_ w3 0) 0 0) 0 []):=H_ (ς 3 67 w3 [] 0 (by omega) rfl);have hbe:Below w3 w3 (w3.alloc (.cells #[] 67)):=(B_ _ _).alloc (le_ _) _;have d2e:=(K1.o.below hbe K1.o.lt).cell 2;have HME:=H_ (zch HX.o.made hbe (by omega));have hze:(w3.alloc (.cells #[] 67)).heap.size=w3.heap.size+1:=by simp
  go_wp2_with (at_builtin;go_loud (refine Μ rfl _ _ 29 rfl 67 (.agg #[(0:Int),.bool false,(0:Int)]) 3 24 underlying29 zd8 rfl (by decide) (by decide) rfl OE.o rfl HME.o (zg2 _) (by omega) (by omega) ?_))
  intro v5 w5 ho5 _ hout5 _;have hs5:=hout5.size;have hb5:Below w3 w3 w5:=ε hbe hout5 (le_ _) (by omega);have HO5:Q_ (Ξ w3 w5 67 w5 v5 D.made):=H_ (by unfold Ξ;simpa using ho5);obtain⟨pa,pc,rfl,hpc1,hpc2⟩:=(Ξ.sl HO5.o).shape;unfold maxLen at hpc2;replace HB:=HB.tr hb5 (by omega);replace K1:=K1.kb hb5;replace K2:=K2.kb hb5;replace K3:=K3.kb hb5;replace KO:=KO.kb hb5;replace HX:=H_ (HX.o.below hb5 (by omega));replace HO2:=H_ (HO2.o.below hb5 (by omega));clear ho5 hout5 hb5 hbe OE HME d2 d2e;have⟨a0,a1,a2,a3,a4⟩:=K2.o.c5;have⟨nb,hnb⟩:=ex_ (zaf A);have HNB:=H_ hnb;clear hnb;go_wp2_with fail
  refine(zpy A w5).mono ?_;rintro e6 w6 ⟨rfl,hb6⟩;rw[<-HNB.o];have hs6:=hb6.size;replace HB:=HB.tr hb6 (by omega);replace K1:=K1.kb hb6;replace K2:=K2.kb hb6;replace K3:=K3.kb hb6;replace KO:=KO.kb hb6;replace HX:=H_ (HX.o.below hb6 (by omega));replace HO2:=H_ (HO2.o.below hb6 (by omega));replace HO5:=H_ (Ξ.below HO5.o hb6 (le_ _));clear hb6 a0 a1 a2 a3 a4;cases nb
  ·have HD:=H_ (show Χ D A=(D,false) by simp[zfo HDV.o.symm,zb6,<-HNB.o,zc0])
   have⟨o0,o1,o2,o3⟩:=KO.o.c4;have⟨f0,f1,f2,f3⟩:=K3.o.f4;have⟨c0,c1,c2,c3⟩:=K3.o.c4;have⟨wz,hwz⟩:=x4_ w6 (w.heap.size+1+1) (.slice x0 D.first y0) (.slice x1 D.goal y1) (.slice x2 D.made y2) (.slice x3 D.now y3);have KZ:=K3.o.set4 (.slice x0 D.first y0) (.slice x1 D.goal y1) (.slice x2 D.made y2) (.slice x3 D.now y3);have hO:=β.set4 (w.heap.size+1+1) w6 (.slice x0 D.first y0) (.slice x1 D.goal y1) (.slice x2 D.made y2) (.slice x3 D.now y3);rw[<-hwz]at KZ hO;have hsz:=hO.size;have HZ:=H_ (ε HB.o hO (by omega) (by omega));have HOZ:=H_ hO;obtain⟨q0,q1,q2,q3⟩:=KZ.c4;clear KZ hO;go_wp2;simp only[<-hwz];clear hwz;refine d_ (v:=.tuple #[ο (.slice x0 D.first y0) (.slice x1 D.goal y1) (.slice x2 D.made y2) (.slice x3 D.now y3),.bool false]) (by simp[results,results52,go_sem,q0,q1,q2,q3]) rfl (zcj.mk _ _ _ _ _ rfl ⟨?_,?_,HZ.o⟩)
   ·rw[HD.o]
    exact(HO2.o.outside HOZ.o (.inr (by omega))).wide (by omega) (by omega)
   ·rw[HD.o]
  have a0:=K2.o.cell 0;have hm60:D.made.length<=60:=(zbu HDV.o.symm).2.2.2.1;have hl1:=K1.o.lt;have hl2:=K2.o.lt;have hl3:=K3.o.lt;have hlo:=KO.o.lt;rcases zmv HNB.o.symm with hk|hk|hk
  ·rw[hk]at a0
   cases can
   ·have HD:=H_ (show Χ D A=(D,false) by
     have h1:(Ψ D.now A.step).isSome=false:=HCAN.o.symm;simp[zfo HDV.o.symm,zb6,<-HNB.o,hk,h1,zc0])
    clear hk;have⟨o0,o1,o2,o3⟩:=KO.o.c4;have⟨f0,f1,f2,f3⟩:=K3.o.f4;have⟨c0,c1,c2,c3⟩:=K3.o.c4;have⟨wz,hwz⟩:=x4_ w6 (w.heap.size+1+1) (.slice x0 D.first y0) (.slice x1 D.goal y1) (.slice x2 D.made y2) (.slice x3 D.now y3);have KZ:=K3.o.set4 (.slice x0 D.first y0) (.slice x1 D.goal y1) (.slice x2 D.made y2) (.slice x3 D.now y3);have hO:=β.set4 (w.heap.size+1+1) w6 (.slice x0 D.first y0) (.slice x1 D.goal y1) (.slice x2 D.made y2) (.slice x3 D.now y3);rw[<-hwz]at KZ hO;have hsz:=hO.size;have HZ:=H_ (ε HB.o hO (by omega) (by omega));have HOZ:=H_ hO;obtain⟨q0,q1,q2,q3⟩:=KZ.c4;clear KZ hO;go_wp2;simp only[<-hwz];clear hwz;refine d_ (v:=.tuple #[ο (.slice x0 D.first y0) (.slice x1 D.goal y1) (.slice x2 D.made y2) (.slice x3 D.now y3),.bool false]) (by simp[results,results52,go_sem,q0,q1,q2,q3]) rfl (zcj.mk _ _ _ _ _ rfl ⟨?_,?_,HZ.o⟩)
    ·rw[HD.o]
     exact(HO2.o.outside HOZ.o (.inr (by omega))).wide (by omega) (by omega)
    ·rw[HD.o]
   ·have HR:=H_ (show some (D.made++[A.step])=zb6 D A by
     have h1:(Ψ D.now A.step).isSome=true:=HCAN.o.symm;simp[zb6,<-HNB.o,hk,h1])
    clear hk;have a1:=K2.o.cell 1;have a2:=K2.o.cell 2;have a3:=K2.o.cell 3;go_wp2_with (at_builtin;go_loud (refine zap w6 rfl _ _ 29 rfl 67 (.agg #[(0:Int),.bool false,(0:Int)]) 3 24 underlying29 zd8 rfl (by decide) (by decide) rfl HO5.o 1 (zbq A.step) rfl rfl (zi8 A.step) rfl (by omega) (by omega) ?_))
    intro v7 w7 ho7 hout7 _;have hs7:=hout7.size;have hb7:Below w3 w6 w7:=ε ((B_ w6 w6).mono (by omega)) hout7 (le_ _) (by omega);have hm7:SlM w3 w7 w7 v7 (D.made++[A.step]):=by unfold SlM;rw[n_,zg3];exact zct ho7
    (obtain⟨qa,qc,hv⟩:=η ho7;have⟨ml,hml⟩:=ex_ (D.made.length+1);rw[<-hml]at hv;subst hv;have⟨ms,hms⟩:=ex_ (D.made++[A.step]);have HLEN:Q_ (ms.length=ml):=H_ (by rw[hms,hml];simp);rw[<-hms]at HR hm7;have HMS:=H_ hm7;have HL:Q_ (w7<=w7.heap.size):=H_ (le_ _);have hmb:ml<=1048576:=by omega);clear a0 a1 a2 a3;replace HB:=HB.tr hb7 (by omega);replace K1:=H_ (K1.o.below hb7 (by omega));replace K2:=H_ (K2.o.below hb7 (by omega));replace K3:=H_ (K3.o.below hb7 (by omega));replace KO:=H_ (KO.o.below hb7 (by omega));replace HX:=H_ (HX.o.below hb7 (by omega));replace HO2:=H_ (HO2.o.below hb7 (by omega));clear hb7 hout7 ho7 hm7 hms hml;by_cases hq:ml>60\/ml=D.made.length
    ·(have HD:=H_ (show Χ D A=(D,false) by rw[zfo HDV.o.symm,<-HR.o];simp only[zc0,HLEN.o];rw[x_ hq]));have d2:=K1.o.cell 2;by_cases h6:60<ml
     ·(have h6':(60:Int)<(ml:Int):=by omega);clear hq;have⟨o0,o1,o2,o3⟩:=KO.o.c4;have⟨f0,f1,f2,f3⟩:=K3.o.f4;have⟨c0,c1,c2,c3⟩:=K3.o.c4;have⟨wz,hwz⟩:=x4_ w7 (w.heap.size+1+1) (.slice x0 D.first y0) (.slice x1 D.goal y1) (.slice x2 D.made y2) (.slice x3 D.now y3);have KZ:=K3.o.set4 (.slice x0 D.first y0) (.slice x1 D.goal y1) (.slice x2 D.made y2) (.slice x3 D.now y3);have hO:=β.set4 (w.heap.size+1+1) w7 (.slice x0 D.first y0) (.slice x1 D.goal y1) (.slice x2 D.made y2) (.slice x3 D.now y3);rw[<-hwz]at KZ hO;have hsz:=hO.size;have HZ:=H_ (ε HB.o hO (by omega) (by omega));have HOZ:=H_ hO;obtain⟨q0,q1,q2,q3⟩:=KZ.c4;clear KZ hO;go_wp2;simp only[<-hwz];clear hwz;refine d_ (v:=.tuple #[ο (.slice x0 D.first y0) (.slice x1 D.goal y1) (.slice x2 D.made y2) (.slice x3 D.now y3),.bool false]) (by simp[results,results52,go_sem,q0,q1,q2,q3]) rfl (zcj.mk _ _ _ _ _ rfl ⟨?_,?_,HZ.o⟩)
      ·rw[HD.o]
       exact(HO2.o.outside HOZ.o (.inr (by omega))).wide (by omega) (by omega)
      ·rw[HD.o]
     ·(have⟨h7,h7',h6'⟩:ml=D.made.length/\(ml:Int)=(D.made.length:Int)/\¬(60:Int)<(ml:Int):=by omega);clear hq h7;have⟨o0,o1,o2,o3⟩:=KO.o.c4;have⟨f0,f1,f2,f3⟩:=K3.o.f4;have⟨c0,c1,c2,c3⟩:=K3.o.c4;have⟨wz,hwz⟩:=x4_ w7 (w.heap.size+1+1) (.slice x0 D.first y0) (.slice x1 D.goal y1) (.slice x2 D.made y2) (.slice x3 D.now y3);have KZ:=K3.o.set4 (.slice x0 D.first y0) (.slice x1 D.goal y1) (.slice x2 D.made y2) (.slice x3 D.now y3);have hO:=β.set4 (w.heap.size+1+1) w7 (.slice x0 D.first y0) (.slice x1 D.goal y1) (.slice x2 D.made y2) (.slice x3 D.now y3);rw[<-hwz]at KZ hO;have hsz:=hO.size;have HZ:=H_ (ε HB.o hO (by omega) (by omega));have HOZ:=H_ hO;obtain⟨q0,q1,q2,q3⟩:=KZ.c4;clear KZ hO;go_wp2;simp only[<-hwz];clear hwz;refine d_ (v:=.tuple #[ο (.slice x0 D.first y0) (.slice x1 D.goal y1) (.slice x2 D.made y2) (.slice x3 D.now y3),.bool false]) (by simp[results,results52,go_sem,q0,q1,q2,q3]) rfl (zcj.mk _ _ _ _ _ rfl ⟨?_,?_,HZ.o⟩)
      ·rw[HD.o]
       exact(HO2.o.outside HOZ.o (.inr (by omega))).wide (by omega) (by omega)
      ·rw[HD.o]
    ·(have HQ:=H_ hq);(have⟨h6,h6',h7,h7'⟩:¬60<ml/\¬(60:Int)<(ml:Int)/\¬ml=D.made.length/\¬(ml:Int)=(D.made.length:Int):=by omega);clear hq;have HD:=H_ (show Χ D A=(⟨D.first,D.goal,ms,(υ D.first ms).getD []⟩,true) by rw[zfo HDV.o.symm,<-HR.o];simp only[zc0,HLEN.o];rw[m_ HQ.o]);have⟨nw,hnw⟩:=ex_ ((υ D.first ms).getD []);rw[<-hnw]at HD;have HNW:=H_ hnw;clear hnw;have⟨d0,d1,d2,d3⟩:=K1.o.c4;go_wp2_with fail
     refine(zfr _ _ _ _ a b _ d _ D ms w7 HX.o (by omega) HM.o HMS.o HL.o (by rw[HLEN.o];omega) HK.o).mono ?_;rintro e9 w9 ⟨z0,z1,z2,z3,rfl,ho9,hb9⟩;rw[<-HNW.o]at ho9;obtain⟨u0,t0,u1,t1,u2,t2,u3,t3,e0,e1,e2,e3⟩:=ho9.open
     change z0=.slice u0 D.first t0 at e0
     change z1=.slice u1 D.goal t1 at e1
     change z2=.slice u2 ms t2 at e2
     change z3=.slice u3 nw t3 at e3
     rw[HLEN.o]at e2;subst e0 e1 e2 e3;have HO9:=H_ ho9;have hs9:=hb9.size;replace HB:=HB.tr hb9 (by omega);replace K3:=H_ (K3.o.below hb9 (by omega));clear hb9 ho9 d0 d1 d2 d3;have⟨f0,f1,f2,f3⟩:=K3.o.f4;have⟨c0,c1,c2,c3⟩:=K3.o.c4;have⟨wz,hwz⟩:=x4_ w9 (w.heap.size+1+1) (.slice u0 D.first t0) (.slice u1 D.goal t1) (.slice u2 ml t2) (.slice u3 nw t3);have KZ:=K3.o.set4 (.slice u0 D.first t0) (.slice u1 D.goal t1) (.slice u2 ml t2) (.slice u3 nw t3);have hO:=β.set4 (w.heap.size+1+1) w9 (.slice u0 D.first t0) (.slice u1 D.goal t1) (.slice u2 ml t2) (.slice u3 nw t3);rw[<-hwz]at KZ hO;have hsz:=hO.size;have HZ:=H_ (ε HB.o hO (by omega) (by omega));have HOZ:=H_ hO;obtain⟨q0,q1,q2,q3⟩:=KZ.c4;clear KZ hO;go_wp2;simp only[<-hwz];clear hwz;refine d_ (v:=.tuple #[ο (.slice u0 D.first t0) (.slice u1 D.goal t1) (.slice u2 ml t2) (.slice u3 nw t3),.bool true]) (by simp[results,results52,go_sem,q0,q1,q2,q3]) rfl (zcj.mk _ _ _ _ _ rfl ⟨?_,?_,HZ.o⟩)
     ·rw[HD.o]
      exact(HO9.o.outside HOZ.o (.inr (by omega))).wide (by omega) (by omega)
     ·rw[HD.o]
  ·rw[hk]at a0
   have a4:=K2.o.cell 4;by_cases h1:1<=A.count/\A.count<=D.made.length
   ·(obtain⟨ml,hk2,hkl⟩:∃ k:Nat,(D.made.length:Int)-A.count=k/\k<=D.made.length:=⟨((D.made.length:Int)-A.count).toNat,by omega,by omega⟩);(have hin:inB A.count 1 (D.made.length:Int)=true:=by simp[inB,h1]);(have⟨ms,hms⟩:=ex_ (D.made.take ml))
    have HR:=H_ (show some ms=zb6 D A by
     (have e1:D.made.length-A.count.toNat=ml:=by omega);simp[zb6,<-HNB.o,hk,h1,hms,e1])
    (have HLEN:Q_ (ms.length=ml):=H_ (by rw[hms];simp;omega);have HMS:=H_ (show SlM w3 w5 w6 (.slice pa ml pc) ms by rw[hms];exact SlM.front (Ξ.sl HO5.o) ml hkl);have HL:Q_ (w5<=w6.heap.size):=H_ hs6;have⟨g3,g4,g5⟩:(0:Int)<=ml/\(ml:Int)<=pc/\ml<=pc:=by omega);(have HQ:Q_ (¬(ml>60\/ml=D.made.length)):=H_ (by omega);have⟨h6,h6',h7,h7'⟩:¬60<ml/\¬(60:Int)<(ml:Int)/\¬ml=D.made.length/\¬(ml:Int)=(D.made.length:Int):=by omega);(have h7b:((ml:Int)==(D.made.length:Int))=false:=ao_ h7';have hmb:ml<=1048576:=by omega);clear hk h1 hms;have HD:=H_ (show Χ D A=(⟨D.first,D.goal,ms,(υ D.first ms).getD []⟩,true) by rw[zfo HDV.o.symm,<-HR.o];simp only[zc0,HLEN.o];rw[m_ HQ.o]);have⟨nw,hnw⟩:=ex_ ((υ D.first ms).getD []);rw[<-hnw]at HD;have HNW:=H_ hnw;clear hnw;have⟨d0,d1,d2,d3⟩:=K1.o.c4;go_wp2_with (go_at_call 101;refine(za0 _ _ _ _).mono ?_;rintro e w' ⟨rfl,rfl⟩)
    refine(zfr _ _ _ _ a b _ d _ D ms w6 HX.o (by omega) HM.o HMS.o HL.o (by rw[HLEN.o];omega) HK.o).mono ?_;rintro e9 w9 ⟨z0,z1,z2,z3,rfl,ho9,hb9⟩;rw[<-HNW.o]at ho9;obtain⟨u0,t0,u1,t1,u2,t2,u3,t3,e0,e1,e2,e3⟩:=ho9.open
    change z0=.slice u0 D.first t0 at e0
    change z1=.slice u1 D.goal t1 at e1
    change z2=.slice u2 ms t2 at e2
    change z3=.slice u3 nw t3 at e3
    rw[HLEN.o]at e2;subst e0 e1 e2 e3;have HO9:=H_ ho9;have hs9:=hb9.size;replace HB:=HB.tr hb9 (by omega);replace K3:=H_ (K3.o.below hb9 (by omega));clear hb9 ho9 d0 d1 d2 d3;have⟨f0,f1,f2,f3⟩:=K3.o.f4;have⟨c0,c1,c2,c3⟩:=K3.o.c4;have⟨wz,hwz⟩:=x4_ w9 (w.heap.size+1+1) (.slice u0 D.first t0) (.slice u1 D.goal t1) (.slice u2 ml t2) (.slice u3 nw t3);have KZ:=K3.o.set4 (.slice u0 D.first t0) (.slice u1 D.goal t1) (.slice u2 ml t2) (.slice u3 nw t3);have hO:=β.set4 (w.heap.size+1+1) w9 (.slice u0 D.first t0) (.slice u1 D.goal t1) (.slice u2 ml t2) (.slice u3 nw t3);rw[<-hwz]at KZ hO;have hsz:=hO.size;have HZ:=H_ (ε HB.o hO (by omega) (by omega));have HOZ:=H_ hO;obtain⟨q0,q1,q2,q3⟩:=KZ.c4;clear KZ hO;go_wp2;simp only[<-hwz];clear hwz;refine d_ (v:=.tuple #[ο (.slice u0 D.first t0) (.slice u1 D.goal t1) (.slice u2 ml t2) (.slice u3 nw t3),.bool true]) (by simp[results,results52,go_sem,q0,q1,q2,q3]) rfl (zcj.mk _ _ _ _ _ rfl ⟨?_,?_,HZ.o⟩)
    ·rw[HD.o]
     exact(HO9.o.outside HOZ.o (.inr (by omega))).wide (by omega) (by omega)
    ·rw[HD.o]
   ·(have hin:inB A.count 1 (D.made.length:Int)=false:=by simp[inB];omega)
    have HD:=H_ (show Χ D A=(D,false) by
     (have h2:¬(A.kind=1/\1<=A.count/\A.count<=D.made.length):=λh=>h1 h.2)
     have h3:zb6 D A=none:=by
      unfold zb6;rw[<-HNB.o,m_ h2];simp[hk]
     rw[zfo HDV.o.symm,h3];rfl)
    clear hk h1;have⟨o0,o1,o2,o3⟩:=KO.o.c4;have⟨f0,f1,f2,f3⟩:=K3.o.f4;have⟨c0,c1,c2,c3⟩:=K3.o.c4;have⟨wz,hwz⟩:=x4_ w6 (w.heap.size+1+1) (.slice x0 D.first y0) (.slice x1 D.goal y1) (.slice x2 D.made y2) (.slice x3 D.now y3);have KZ:=K3.o.set4 (.slice x0 D.first y0) (.slice x1 D.goal y1) (.slice x2 D.made y2) (.slice x3 D.now y3);have hO:=β.set4 (w.heap.size+1+1) w6 (.slice x0 D.first y0) (.slice x1 D.goal y1) (.slice x2 D.made y2) (.slice x3 D.now y3);rw[<-hwz]at KZ hO;have hsz:=hO.size;have HZ:=H_ (ε HB.o hO (by omega) (by omega));have HOZ:=H_ hO;obtain⟨q0,q1,q2,q3⟩:=KZ.c4;clear KZ hO;go_wp2_with (go_at_call 101;refine(za0 _ _ _ _).mono ?_;rintro e w' ⟨rfl,rfl⟩)
    simp only[<-hwz];clear hwz;refine d_ (v:=.tuple #[ο (.slice x0 D.first y0) (.slice x1 D.goal y1) (.slice x2 D.made y2) (.slice x3 D.now y3),.bool false]) (by simp[results,results52,go_sem,q0,q1,q2,q3]) rfl (zcj.mk _ _ _ _ _ rfl ⟨?_,?_,HZ.o⟩)
    ·rw[HD.o]
     exact(HO2.o.outside HOZ.o (.inr (by omega))).wide (by omega) (by omega)
    ·rw[HD.o]
  ·rw[hk]at a0
   have HR:=H_ (show some (D.made++zah D.now)=zb6 D A by simp[zb6,<-HNB.o,hk]);have hsl:=zlf D.now;clear hk;have d3:=K1.o.cell 3;go_wp2_with fail
   refine(zt1 _ D.now w6 (zd0 HX.o.now (by omega)) (by omega)).mono ?_;rintro e7 w7 ⟨v7,rfl,hb7,ho7⟩;have hs7:=hb7.size;replace HB:=HB.tr hb7 (by omega);replace K1:=H_ (K1.o.below hb7 (by omega));replace K2:=H_ (K2.o.below hb7 (by omega));replace K3:=H_ (K3.o.below hb7 (by omega));replace KO:=H_ (KO.o.below hb7 (by omega));replace HX:=H_ (HX.o.below hb7 (by omega));replace HO2:=H_ (HO2.o.below hb7 (by omega));replace HO5:=H_ (Ξ.below HO5.o hb7 (by omega));obtain⟨sa,sc,rfl⟩:=η ho7;have HS7:=H_ (Ξ.sl ho7);clear hb7 ho7 a0 d3;go_wp2_with (at_builtin;go_loud (refine Μ rfl _ _ 29 rfl 67 (.agg #[(0:Int),.bool false,(0:Int)]) 3 24 underlying29 zd8 rfl (by decide) (by decide) rfl HO5.o rfl HS7.o (zg2 _) (by omega) (by omega) ?_))
   intro v8 w8 ho8 _ hout8 _;have hs8:=hout8.size;have hb8:Below w3 w7 w8:=ε ((B_ w7 w7).mono (by omega)) hout8 (le_ _) (by omega);have hm8:SlM w3 w8 w8 v8 (D.made++zah D.now):=by unfold SlM;rw[n_,zg3];exact zct ho8
   obtain⟨qa,qc,hv⟩:=η ho8;have⟨ml,hml⟩:=ex_ (D.made.length+(zah D.now).length);rw[<-hml]at hv;subst hv;have⟨ms,hms⟩:=ex_ (D.made++zah D.now);have HLEN:Q_ (ms.length=ml):=H_ (by rw[hms,hml];simp);rw[<-hms]at HR hm8;have HMS:=H_ hm8;have HL:Q_ (w8<=w8.heap.size):=H_ (le_ _);have hmb:ml<=1048576:=by omega
   replace HB:=HB.tr hb8 (by omega);replace K1:=H_ (K1.o.below hb8 (by omega));replace K2:=H_ (K2.o.below hb8 (by omega));replace K3:=H_ (K3.o.below hb8 (by omega));replace KO:=H_ (KO.o.below hb8 (by omega));replace HX:=H_ (HX.o.below hb8 (by omega));replace HO2:=H_ (HO2.o.below hb8 (by omega));clear hb8 hout8 ho8 hm8 hms hml;by_cases hq:ml>60\/ml=D.made.length
   ·(have HD:=H_ (show Χ D A=(D,false) by rw[zfo HDV.o.symm,<-HR.o];simp only[zc0,HLEN.o];rw[x_ hq]));have d2:=K1.o.cell 2;by_cases h6:60<ml
    ·(have h6':(60:Int)<(ml:Int):=by omega);clear hq;have⟨o0,o1,o2,o3⟩:=KO.o.c4;have⟨f0,f1,f2,f3⟩:=K3.o.f4;have⟨c0,c1,c2,c3⟩:=K3.o.c4;have⟨wz,hwz⟩:=x4_ w8 (w.heap.size+1+1) (.slice x0 D.first y0) (.slice x1 D.goal y1) (.slice x2 D.made y2) (.slice x3 D.now y3);have KZ:=K3.o.set4 (.slice x0 D.first y0) (.slice x1 D.goal y1) (.slice x2 D.made y2) (.slice x3 D.now y3);have hO:=β.set4 (w.heap.size+1+1) w8 (.slice x0 D.first y0) (.slice x1 D.goal y1) (.slice x2 D.made y2) (.slice x3 D.now y3);rw[<-hwz]at KZ hO;have hsz:=hO.size;have HZ:=H_ (ε HB.o hO (by omega) (by omega));have HOZ:=H_ hO;obtain⟨q0,q1,q2,q3⟩:=KZ.c4;clear KZ hO;go_wp2;simp only[<-hwz];clear hwz;refine d_ (v:=.tuple #[ο (.slice x0 D.first y0) (.slice x1 D.goal y1) (.slice x2 D.made y2) (.slice x3 D.now y3),.bool false]) (by simp[results,results52,go_sem,q0,q1,q2,q3]) rfl (zcj.mk _ _ _ _ _ rfl ⟨?_,?_,HZ.o⟩)
     ·rw[HD.o]
      exact(HO2.o.outside HOZ.o (.inr (by omega))).wide (by omega) (by omega)
     ·rw[HD.o]
    ·(have⟨h7,h7',h6'⟩:ml=D.made.length/\(ml:Int)=(D.made.length:Int)/\¬(60:Int)<(ml:Int):=by omega);clear hq h7;have⟨o0,o1,o2,o3⟩:=KO.o.c4;have⟨f0,f1,f2,f3⟩:=K3.o.f4;have⟨c0,c1,c2,c3⟩:=K3.o.c4;have⟨wz,hwz⟩:=x4_ w8 (w.heap.size+1+1) (.slice x0 D.first y0) (.slice x1 D.goal y1) (.slice x2 D.made y2) (.slice x3 D.now y3);have KZ:=K3.o.set4 (.slice x0 D.first y0) (.slice x1 D.goal y1) (.slice x2 D.made y2) (.slice x3 D.now y3);have hO:=β.set4 (w.heap.size+1+1) w8 (.slice x0 D.first y0) (.slice x1 D.goal y1) (.slice x2 D.made y2) (.slice x3 D.now y3);rw[<-hwz]at KZ hO;have hsz:=hO.size;have HZ:=H_ (ε HB.o hO (by omega) (by omega));have HOZ:=H_ hO;obtain⟨q0,q1,q2,q3⟩:=KZ.c4;clear KZ hO;go_wp2;simp only[<-hwz];clear hwz;refine d_ (v:=.tuple #[ο (.slice x0 D.first y0) (.slice x1 D.goal y1) (.slice x2 D.made y2) (.slice x3 D.now y3),.bool false]) (by simp[results,results52,go_sem,q0,q1,q2,q3]) rfl (zcj.mk _ _ _ _ _ rfl ⟨?_,?_,HZ.o⟩)
     ·rw[HD.o]
      exact(HO2.o.outside HOZ.o (.inr (by omega))).wide (by omega) (by omega)
     ·rw[HD.o]
   ·(have HQ:=H_ hq);(have⟨h6,h6',h7,h7'⟩:¬60<ml/\¬(60:Int)<(ml:Int)/\¬ml=D.made.length/\¬(ml:Int)=(D.made.length:Int):=by omega);clear hq;have HD:=H_ (show Χ D A=(⟨D.first,D.goal,ms,(υ D.first ms).getD []⟩,true) by rw[zfo HDV.o.symm,<-HR.o];simp only[zc0,HLEN.o];rw[m_ HQ.o]);have⟨nw,hnw⟩:=ex_ ((υ D.first ms).getD []);rw[<-hnw]at HD;have HNW:=H_ hnw;clear hnw;have⟨d0,d1,d2,d3⟩:=K1.o.c4;go_wp2_with fail
    refine(zfr _ _ _ _ a b _ d _ D ms w8 HX.o (by omega) HM.o HMS.o HL.o (by rw[HLEN.o];omega) HK.o).mono ?_;rintro e9 w9 ⟨z0,z1,z2,z3,rfl,ho9,hb9⟩;rw[<-HNW.o]at ho9;obtain⟨u0,t0,u1,t1,u2,t2,u3,t3,e0,e1,e2,e3⟩:=ho9.open
    change z0=.slice u0 D.first t0 at e0
    change z1=.slice u1 D.goal t1 at e1
    change z2=.slice u2 ms t2 at e2
    change z3=.slice u3 nw t3 at e3
    rw[HLEN.o]at e2;subst e0 e1 e2 e3;have HO9:=H_ ho9;have hs9:=hb9.size;replace HB:=HB.tr hb9 (by omega);replace K3:=H_ (K3.o.below hb9 (by omega));clear hb9 ho9 d0 d1 d2 d3;have⟨f0,f1,f2,f3⟩:=K3.o.f4;have⟨c0,c1,c2,c3⟩:=K3.o.c4;have⟨wz,hwz⟩:=x4_ w9 (w.heap.size+1+1) (.slice u0 D.first t0) (.slice u1 D.goal t1) (.slice u2 ml t2) (.slice u3 nw t3);have KZ:=K3.o.set4 (.slice u0 D.first t0) (.slice u1 D.goal t1) (.slice u2 ml t2) (.slice u3 nw t3);have hO:=β.set4 (w.heap.size+1+1) w9 (.slice u0 D.first t0) (.slice u1 D.goal t1) (.slice u2 ml t2) (.slice u3 nw t3);rw[<-hwz]at KZ hO;have hsz:=hO.size;have HZ:=H_ (ε HB.o hO (by omega) (by omega));have HOZ:=H_ hO;obtain⟨q0,q1,q2,q3⟩:=KZ.c4;clear KZ hO;go_wp2;simp only[<-hwz];clear hwz;refine d_ (v:=.tuple #[ο (.slice u0 D.first t0) (.slice u1 D.goal t1) (.slice u2 ml t2) (.slice u3 nw t3),.bool true]) (by simp[results,results52,go_sem,q0,q1,q2,q3]) rfl (zcj.mk _ _ _ _ _ rfl ⟨?_,?_,HZ.o⟩)
    ·rw[HD.o]
     exact(HO9.o.outside HOZ.o (.inr (by omega))).wide (by omega) (by omega)
    ·rw[HD.o]
theorem zrn(a:Ac)(h:φ D=true):φ (Χ D a).1=true:=by
 have hg:=(zbu h).2.1;unfold Χ;rw[x_ h]
 split
 ·rename_i p hp
  cases hm:za1 D a with
  | none=>rw[hm] at hp;cases hp
  | some ms=>
   rw[hm]at hp;cases hq:υ D.first ms with
   | none=>simp[hq] at hp
   | some x=>
    simp[hq]at hp;subst hp;simp[φ,hq,hg,eqL]
 ·exact h
theorem zkl(h:φ D=true):D.size<=180:=by
 obtain⟨h1,h2,h3,h4,_⟩:=zbu h;have k1:=(zcb h1).2;have k2:=(zcb h2).2;have k3:=(zcb h3).2;unfold Dsk.size;omega
theorem zz7(h:φ D=true):(⟨D.first,D.goal,D.made,(υ D.first D.made).getD []⟩:Dsk)=D:=by
 obtain⟨_,_,_,_,h5⟩:=zbu h;rw[h5];rfl
theorem zwo(lo hi lo' hi':Nat)(a b c d vm:Value)(D:Dsk)(ms:List Mv)(w:World)(hx:Θ lo hi w a b c d D)(hh:hi<=w)(hm:D.size<=1048576)(hms:SlM lo' hi' w vm ms)(hh':hi'<=w)(hml:ms.length<=1048576):
  Calls prog 34 #[ο a b c d,vm] w (zjg w ⟨(zbv D.first D.goal).first,(zbv D.first D.goal).goal,ms,(υ D.first ms).getD []⟩):=by
 unfold Dsk.size at hm;have⟨w0,hw0⟩:=ex_ ((w.alloc (.cells #[a,b,c,d] 31)).alloc (.cells #[(),(),(),()] 31));have HB:Q_ (Below w w w0):=by rw[hw0];exact H_ (((B_ _ _).alloc (le_ _) _).alloc (by simp) _)
 have K1:Q_ (Blk w (.cells #[a,b,c,d] 31) w0):=by
  rw[hw0];exact H_ ((κ w _).below ((B_ (w.alloc _).heap.size _).alloc (le_ _) _) (by simp))
 have K2:Q_ (Blk (w+1) (.cells #[(),(),(),()] 31) w0):=by
  have h:=κ (w.alloc (.cells #[a,b,c,d] 31)) (.cells #[(),(),(),()] 31);rw[μ]at h;rw[hw0];exact H_ h
 have hs0:w0=w.heap.size+2:=by rw[hw0];simp
 have HX:=H_ (hx.below HB.o hh);have HMS:=H_ (zch hms HB.o hh');have HW0:=H_ hw0;obtain⟨ma,mc,rfl,hmc,hmm⟩:=hms.shape;clear hx hms hw0;have⟨d0,d1⟩:=K1.o.c2
 go_enter func34,ntmps34
 go_wp2_with (rw[<-HW0.o])
 refine(zky _ _ _ _ a b D.first D.goal w0 HX.o.first HX.o.goal (by omega) (by omega) (by omega) (by omega)).mono ?_;rintro e1 w1 ⟨x0,x1,x2,x3,rfl,ho1,hb1⟩;have⟨N,hN⟩:=ex_ (zbv D.first D.goal)
 have hNm:N.made.length=0:=by
  rw[hN];unfold zbv
  split<;>rfl
 have hNs:N.first.length+N.goal.length+N.now.length<=3145728:=by
  rw[hN];unfold zbv
  split<;>simp[Dsk.none]<;>omega
 rw[<-hN]at ho1;have HN:=H_ hN;clear hN;obtain⟨p0,q0,p1,q1,p2,q2,p3,q3,e0,e1,e2,e3⟩:=ho1.open
 change x0=.slice p0 N.first q0 at e0
 change x1=.slice p1 N.goal q1 at e1
 rw[hNm]at e2
 change x3=.slice p3 N.now q3 at e3
 subst e0 e1 e2 e3;have hs1:=hb1.size;replace HB:=HB.tr hb1 (by omega);replace K1:=K1.kb hb1;replace K2:=K2.kb hb1;replace HX:=H_ (HX.o.below hb1 (by omega));replace HMS:=H_ (zch HMS.o hb1 (by omega));have HO1:=H_ ho1;clear hb1 ho1 d0 d1;have d0:=K1.o.cell 0;have⟨f0,f1,f2,f3⟩:=K2.o.f4;have⟨c0,c1,c2,c3⟩:=K2.o.c4;have⟨wo,hwo⟩:=xa_ w1 #[.slice p0 N.first q0,.slice p1 N.goal q1,.slice p2 0 q2,.slice p3 N.now q3] 31;have KO:Q_ (Blk w1 (.cells #[.slice p0 N.first q0,.slice p1 N.goal q1,.slice p2 0 q2,.slice p3 N.now q3] 31) wo):=by rw[hwo];exact H_ (κ w1 _)
 have hbo:Below w1 w1 wo:=by rw[hwo];exact(B_ _ _).alloc (le_ _) _
 have hso:wo=w1.heap.size+1:=by rw[hwo];simp
 have HWO:=H_ hwo;clear hwo
 have OE:Q_ (Own 3 (w1+1) (w1+2) 67 (wo.alloc (.cells #[] 67)) (.slice (q_ (w1+1) 0) 0 0) 0 []):=by
  have h:=ς 3 67 wo [] 0 (by omega) rfl;rw[hso]at h;exact H_ h
 have hbe:Below w1 w1 (wo.alloc (.cells #[] 67)):=hbo.alloc (by omega) _;have HME:=H_ (zch HMS.o hbe (by omega));have hze:(wo.alloc (.cells #[] 67)).heap.size=w1.heap.size+2:=by simp;omega
 go_wp2_with (at_builtin;go_loud (rw[<-HWO.o];refine Μ rfl _ _ 29 rfl 67 (.agg #[(0:Int),.bool false,(0:Int)]) 3 24 underlying29 zd8 rfl (by decide) (by decide) rfl OE.o rfl HME.o (zg2 _) (by omega) (by omega) ?_))
 intro v5 w5 ho5 _ hout5 _;have hs5:=hout5.size;have KO5:=H_ ((KO.o.below ((B_ wo wo).alloc (o:=.cells #[] 67) (le_ _)) KO.o.lt).outside hout5 (by omega));have hb5:Below w1 w1 w5:=ε hbe hout5 (by omega) (by omega);have HO5:Q_ (Ξ (w1+1) w5 67 w5 v5 ms):=H_ (by unfold Ξ;simpa using ho5);obtain⟨pa,pc,rfl⟩:=η ho5;replace HB:=HB.tr hb5 (by omega);replace K1:=K1.kb hb5;replace K2:=K2.kb hb5;replace HX:=H_ (HX.o.below hb5 (by omega));replace HMS:=H_ (zch HMS.o hb5 (by omega));replace HO1:=H_ (HO1.o.below hb5 (le_ _));clear ho5 hout5 hb5 hbe OE HME d0 f0 f1 f2 f3 c0 c1 c2 c3;have d0:=K1.o.cell 0;have f2:=KO5.o.free 2;have c2:=KO5.o.cell 2;have⟨w6,hw6⟩:=ex_ (w5.setCell (p_ w1 2) (.slice pa ms pc));have KO6:=H_ (show Blk w1 _ w6 by rw[hw6];exact KO5.o.put 2 (.slice pa ms pc));have hO6:β w1 (w1+1) w5 w6:=by rw[hw6];exact β.put w1 2 w5 _
 have hs6:=hO6.size;have HW6:=H_ hw6;replace HB:=H_ (ε HB.o hO6 (by omega) (by omega));replace K1:=H_ (K1.o.outside hO6 (by omega));replace K2:=H_ (K2.o.outside hO6 (by omega));replace HX:=H_ (HX.o.outside hO6 (.inl (by omega)));replace HMS:=H_ (zhc HMS.o hO6 (.inl (by omega)));replace HO1:=H_ (HO1.o.outside hO6 (.inl (by omega)));replace HO5:=H_ (Ξ.outside HO5.o hO6 (.inr (by omega)));clear hw6 hO6;have d6:=K1.o.cell 0;go_wp2_with (rw[<-HW6.o])
 refine(zma _ _ _ _ a _ D.first ms w6 HX.o.first (by omega) HMS.o hml).mono ?_;rintro e3 w7 ⟨v7,ok7,rfl,hb7,hok7,ho7⟩;have hs7:=hb7.size;obtain⟨pn,pm,rfl,_⟩:=θ ho7;replace HB:=HB.tr hb7 (by omega);replace K2:=K2.kb hb7;have KO7:=KO6.kb hb7;replace HO1:=H_ (HO1.o.below hb7 (by omega));replace HO5:=H_ (Ξ.below HO5.o hb7 (by omega));have⟨w8,hw8⟩:=ex_ (w7.setCell (p_ w1 3) (.slice pn ((υ D.first ms).getD []).length pm));have KO8:=H_ (show Blk w1 _ w8 by rw[hw8];exact KO7.o.put 3 (.slice pn ((υ D.first ms).getD []).length pm));have hO8:β w1 (w1+1) w7 w8:=by rw[hw8];exact β.put w1 3 w7 _
 have hs8:=hO8.size;have HW8:=H_ hw8;replace HB:=H_ (ε HB.o hO8 (by omega) (by omega));replace K2:=H_ (K2.o.outside hO8 (by omega));replace HO1:=H_ (HO1.o.outside hO8 (.inl (by omega)));replace HO5:=H_ (Ξ.outside HO5.o hO8 (.inr (by omega)));have HO7:=H_ (γ.outside ho7 hO8 (.inr (by omega)));clear hw8 hO8 d0 d6 f2 c2 hb7 ho7;have f3:=KO7.o.free 3;have c3:=KO7.o.cell 3;have⟨o0,o1,o2,o3⟩:=KO8.o.c4;have⟨g0,g1,g2,g3⟩:=K2.o.f4;have⟨h0,h1,h2,h3⟩:=K2.o.c4;have⟨wz,hwz⟩:=x4_ w8 (w+1) (.slice p0 N.first q0) (.slice p1 N.goal q1) (.slice pa ms pc) (.slice pn ((υ D.first ms).getD []).length pm);have KZ:=K2.o.set4 (.slice p0 N.first q0) (.slice p1 N.goal q1) (.slice pa ms pc) (.slice pn ((υ D.first ms).getD []).length pm);have hO:=β.set4 (w+1) w8 (.slice p0 N.first q0) (.slice p1 N.goal q1) (.slice pa ms pc) (.slice pn ((υ D.first ms).getD []).length pm);rw[<-hwz]at KZ hO;have hsz:=hO.size;have HZ:=H_ (ε HB.o hO (by omega) (by omega));have HOZ:=H_ hO;obtain⟨r0,r1,r2,r3⟩:=KZ.c4;clear KZ hO;go_wp2_with (rw[<-HW8.o])
 simp only[<-hwz];clear hwz;refine d_ (v:=ο (.slice p0 N.first q0) (.slice p1 N.goal q1) (.slice pa ms pc) (.slice pn ((υ D.first ms).getD []).length pm)) (by simp[results,results34,go_sem,r0,r1,r2,r3]) rfl (zdb.mk _ _ _ _ rfl ⟨?_,HZ.o⟩);obtain⟨l1,h1,l2,h2,l3,h3,l4,h4,o1,o2,o3,o4,r1,r2,r3,r4,rest⟩:=HO1.o.outside HOZ.o (.inr (by omega));exact⟨l1,h1,l2,h2,w1.heap.size+1,w5.heap.size,w6.heap.size,w7.heap.size,(by rw[<-HN.o];exact o1),(by rw[<-HN.o];exact o2),Ξ.outside HO5.o HOZ.o (.inr (by omega)),γ.outside HO7.o HOZ.o (.inr (by omega)),by omega,by omega,by omega,by omega,rest.1,.inl (by omega),.inl (by omega),.inl (by omega),.inl (by omega),.inl (by omega)⟩
end Go.Proofs.YtfnnhimopokpnaaGreatDoor
