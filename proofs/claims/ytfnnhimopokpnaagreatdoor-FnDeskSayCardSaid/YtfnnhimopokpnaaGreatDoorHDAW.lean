/- Lemmas for this seat; no condition. -/
import Derived.Test.YtfnnhimopokpnaaGreatDoorHDAV
namespace Go.Proofs.YtfnnhimopokpnaaGreatDoor
open Go.RowKit Proofs.Tryz
set_option maxRecDepth 100000
set_option maxHeartbeats 0
set_option linter.all false
variable {n:Nat} {t e:List Int} {D:Dsk}
theorem zvl(lo hi:Nat)(a b c d:Value)(D:Dsk)(l:List UInt8)(s:ByteArray)(hs:s=⟨l.toArray⟩)(w:World)(hx:Θ lo hi w a b c d D)(hh:hi<=w)(hm:D.size<=1048576)(hl:l.length<=2097152)(hv:φ D=true)(hr:zbb l=none):
  Calls prog 21 #[ο a b c d,.string s] w (zfl λa' b' c' d' s' w'=>s'=⟨(zae D l).toArray⟩/\Κ w w' w' a' b' c' d' D/\Below w w w'):=by
 subst hs;have HM:=H_ hm;by_cases hne:l=[101,113,117,97,108]
 ·exact ztb lo hi a b c d D l _ rfl w hx hh hm hl hv hr hne
 have d7:=H_ hne;clear hne;have⟨w0,c8⟩:=ex_ ((w.alloc (.cells #[a,b,c,d] 31)).alloc (.cells #[(),(),(),()] 31));have d8:Below w w w0:=by rw[c8];exact((B_ _ _).alloc (le_ _) _).alloc (by simp) _
 have k5:w0=w.heap.size+2:=by rw[c8];simp
 have J:Q_ (Blk w (.cells #[a,b,c,d] 31) w0):=by
  rw[c8];exact H_ ((κ w _).below ((B_ (w.alloc _).heap.size _).alloc (le_ _) _) (by simp))
 have K3:Q_ (Blk (w+1) (.cells #[(),(),(),()] 31) w0):=by
  have h:=κ (w.alloc (.cells #[a,b,c,d] 31)) (.cells #[(),(),(),()] 31);rw[μ]at h;rw[c8];exact H_ h
 have HX:=H_ (hx.below d8 hh);have HB:=H_ d8;have h7:=H_ c8;have HV:=H_ hv;have f5:=H_ hr;clear hx d8 c8 hv hr;have⟨d0,d1,d2,d3⟩:=J.o.c4
 go_enter func21,ntmps21
 go_wp2_with (rw[<-h7.o])
 refine(zfq _ _ a b c d D w0 HX.o (by omega) HM.o).mono ?_;rintro e1 w1 ⟨rfl,b9⟩;rw[HV.o];have hs1:=b9.size;replace HB:=HB.tr b9 (by omega);replace J:=J.kb b9;replace K3:=K3.kb b9;replace HX:=H_ (HX.o.below b9 (by omega));clear b9 d0 d1 d2 d3;have hk:=zih HV.o;have HW:=H_ (zfr _ _ _ _ a b c d c D D.made w1 HX.o (by omega) HM.o HX.o.made (by omega) (by have:=HM.o;unfold Dsk.size at this;omega) hk.1);rw[hk.2,ac_]at HW;have i5:=(zbu HV.o).2.2.2.1;have⟨d0,d1,d2,d3⟩:=J.o.c4;clear hk;go_wp2_with fail
 refine HW.o.mono ?_;rintro e2 w2 ⟨x0,x1,x2,x3,rfl,o_,hb2⟩;obtain⟨z0,Z,z2,z3,z4,z5,z6,z7,i0,i1,i2,i3⟩:=o_.open;subst i0 i1 i2 i3;have hs2:=hb2.size;replace HB:=HB.tr hb2 (by omega);replace J:=J.kb hb2;replace K3:=K3.kb hb2;replace HX:=H_ (HX.o.below hb2 (by omega));have O6:=H_ (show Κ w1 w2 w2 (.slice z0 D.first Z) (.slice z2 D.goal z3) (.slice z4 D.made z5) (.slice z6 D.now z7) D from o_);clear hb2 o_ HW d0 d1 d2 d3;have⟨w3,e3⟩:=xa_ w2 #[.slice z0 D.first Z,.slice z2 D.goal z3,.slice z4 D.made z5,.slice z6 D.now z7] 31;obtain⟨c6,f9,k6⟩:=Η e3;have K:=H_ f9;replace HB:=HB.tr c6 (by omega);replace J:=J.kb c6;replace K3:=K3.kb c6;replace HX:=H_ (HX.o.below c6 (by omega));replace O6:=H_ (O6.o.below c6 (le_ _));have f8:=H_ e3;clear c6 f9 e3;go_wp2_with (rw[<-f8.o])
 refine(zl5 l _ rfl w3 hl).mono ?_;rintro e4 w4 ⟨rfl,b6⟩;have k7:=b6.size;replace HB:=HB.tr b6 (by omega);replace HX:=H_ (HX.o.below b6 (by omega));replace O6:=H_ (O6.o.below b6 (by omega));replace J:=J.kb b6;replace K3:=K3.kb b6;replace K:=K.kb b6;clear b6 f8;rw[f5.o,zhd];have⟨w5,e5⟩:=xa_ w4 #[(0:Int),(0:Int),.bool false,(0:Int),(0:Int)] 69;obtain⟨b7,h8,k8⟩:=Η e5;replace HB:=HB.tr b7 (by omega);replace HX:=H_ (HX.o.below b7 (by omega));replace O6:=H_ (O6.o.below b7 (by omega));replace J:=J.kb b7;replace K3:=K3.kb b7;replace K:=K.kb b7;clear b7 h8 f5;unfold Dsk.size at hm;go_upto_region 10 with fail
 simp only[<-e5];clear e5;rcases zot l with rfl|rfl|rfl|rfl|rfl|rfl|rfl|rfl|rfl|hq
 ·skip
  have a4:∀ w',Below w5 w5 w'->w'.cell? (p_ w2 0)=some (.slice z0 D.first Z)/\w'.cell? (p_ w2 1)=some (.slice z2 D.goal z3)/\w'.cell? (p_ w2 2)=some (.slice z4 D.made z5)/\w'.cell? (p_ w2 3)=some (.slice z6 D.now z7)/\w'.cell? (p_ w 0)=some a/\w'.cell? (p_ w 1)=some b/\w'.cell? (p_ w 2)=some c/\w'.cell? (p_ w 3)=some d:=λw' hb=>⟨(K.o.below hb K.o.lt).cell 0,(K.o.below hb K.o.lt).cell 1,(K.o.below hb K.o.lt).cell 2,(K.o.below hb K.o.lt).cell 3,(J.o.below hb J.o.lt).cell 0,(J.o.below hb J.o.lt).cell 1,(J.o.below hb J.o.lt).cell 2,(J.o.below hb J.o.lt).cell 3⟩
  have a3:Below w5 w5 w5.drew:=z_ (B_ _ _);have hS:=a4 w5 (B_ _ _);have b0:=a4 _ a3;have a6:=H_ a4;have c9:w5.drew.heap.size=w5.heap.size:=rfl;have b5:=H_ (HX.o.below a3 (by omega));clear a4;go_upto_region 11 with fail
  go_region_held3 (λw'=>w'.cell? (p_ w2 0)=some (.slice z0 D.first Z)/\w'.cell? (p_ w2 1)=some (.slice z2 D.goal z3)/\w'.cell? (p_ w2 2)=some (.slice z4 D.made z5)/\w'.cell? (p_ w2 3)=some (.slice z6 D.now z7)/\w'.cell? (p_ w 0)=some a/\w'.cell? (p_ w 1)=some b/\w'.cell? (p_ w 2)=some c/\w'.cell? (p_ w 3)=some d) (first | with_reducible assumption | go_keep) (first
   | (go_at_call 53;refine(zlu _ _ _ D.now w5.drew b5.o.now (by omega) (by omega)).mono ?_;rintro e7 w7 ⟨rfl,a5⟩;(have c7:=a5.size);(have I:=a3.trans (a5.mono (by omega)));(have a9:=a6.o _ I);(have k3:=K3.o.below I K3.o.lt);(obtain⟨c0,c1,c2,c3⟩:=k3.c4);(obtain⟨f0,f1,f2,f3⟩:=k3.f4);(have KM:=H_ k3);(have U:=β.set4 (w+1) w7 (.slice z0 D.first Z) (.slice z2 D.goal z3) (.slice z4 D.made z5) (.slice z6 D.now z7));(have a1:=(K.o.below I K.o.lt).outside U (.inr (by omega)));(have a8:=(J.o.below I J.o.lt).outside U (.inl (by omega)));(obtain⟨j0,j1,j2,j3⟩:=a1.c4);(obtain⟨j4,j5,j6,j7⟩:=a8.c4);(have a7:=H_ I);clear a5 I k3 U a1 a8))
  replace HB:=HB.tr a7.o (by omega);replace K3:=KM;replace O6:=H_ (O6.o.below a7.o (by omega));clear a6 hS b0 a9 a3 KM;have⟨wz,hwz⟩:=x4_ w7 (w+1) (.slice z0 D.first Z) (.slice z2 D.goal z3) (.slice z4 D.made z5) (.slice z6 D.now z7);have KZ:=K3.o.set4 (.slice z0 D.first Z) (.slice z2 D.goal z3) (.slice z4 D.made z5) (.slice z6 D.now z7);have hO:=β.set4 (w+1) w7 (.slice z0 D.first Z) (.slice z2 D.goal z3) (.slice z4 D.made z5) (.slice z6 D.now z7);rw[<-hwz]at KZ hO;have b3:=hO.size;have HZ:=H_ (ε HB.o hO (by omega) (by omega));have OZ:=H_ (O6.o.outside hO (.inr (by omega)));obtain⟨q0,q1,q2,q3⟩:=KZ.c4;clear KZ hO;simp only[<-hwz];clear hwz;clear c0 c1 c2 c3 f0 f1 f2 f3 j0 j1 j2 j3 j4 j5 j6 j7;go_wp2;refine d_ (v:=.tuple #[ο (.slice z0 D.first Z) (.slice z2 D.goal z3) (.slice z4 D.made z5) (.slice z6 D.now z7),.string ⟨(zbr D.now).toArray⟩]) (by simp[results,results21,go_sem,q0,q1,q2,q3]) rfl ⟨_,_,_,_,_,rfl,by rw[zrk],?_,HZ.o⟩;exact OZ.o.wide (by omega) (by omega)
 ·skip
  have a4:∀ w',Below w5 w5 w'->w'.cell? (p_ w2 0)=some (.slice z0 D.first Z)/\w'.cell? (p_ w2 1)=some (.slice z2 D.goal z3)/\w'.cell? (p_ w2 2)=some (.slice z4 D.made z5)/\w'.cell? (p_ w2 3)=some (.slice z6 D.now z7)/\w'.cell? (p_ w 0)=some a/\w'.cell? (p_ w 1)=some b/\w'.cell? (p_ w 2)=some c/\w'.cell? (p_ w 3)=some d:=λw' hb=>⟨(K.o.below hb K.o.lt).cell 0,(K.o.below hb K.o.lt).cell 1,(K.o.below hb K.o.lt).cell 2,(K.o.below hb K.o.lt).cell 3,(J.o.below hb J.o.lt).cell 0,(J.o.below hb J.o.lt).cell 1,(J.o.below hb J.o.lt).cell 2,(J.o.below hb J.o.lt).cell 3⟩
  have a3:Below w5 w5 w5.drew:=z_ (B_ _ _);have hS:=a4 w5 (B_ _ _);have b0:=a4 _ a3;have a6:=H_ a4;have c9:w5.drew.heap.size=w5.heap.size:=rfl;have b5:=H_ (HX.o.below a3 (by omega));clear a4;go_upto_region 13 with fail
  go_region_held3 (λw'=>w'.cell? (p_ w2 0)=some (.slice z0 D.first Z)/\w'.cell? (p_ w2 1)=some (.slice z2 D.goal z3)/\w'.cell? (p_ w2 2)=some (.slice z4 D.made z5)/\w'.cell? (p_ w2 3)=some (.slice z6 D.now z7)/\w'.cell? (p_ w 0)=some a/\w'.cell? (p_ w 1)=some b/\w'.cell? (p_ w 2)=some c/\w'.cell? (p_ w 3)=some d) (first | with_reducible assumption | go_keep) (first
   | (go_at_call 53;refine(zlu _ _ _ D.first w5.drew b5.o.first (by omega) (by omega)).mono ?_;rintro e7 w7 ⟨rfl,a5⟩;(have c7:=a5.size);(have I:=a3.trans (a5.mono (by omega)));(have a9:=a6.o _ I);(have k3:=K3.o.below I K3.o.lt);(obtain⟨c0,c1,c2,c3⟩:=k3.c4);(obtain⟨f0,f1,f2,f3⟩:=k3.f4);(have KM:=H_ k3);(have U:=β.set4 (w+1) w7 (.slice z0 D.first Z) (.slice z2 D.goal z3) (.slice z4 D.made z5) (.slice z6 D.now z7));(have a1:=(K.o.below I K.o.lt).outside U (.inr (by omega)));(have a8:=(J.o.below I J.o.lt).outside U (.inl (by omega)));(obtain⟨j0,j1,j2,j3⟩:=a1.c4);(obtain⟨j4,j5,j6,j7⟩:=a8.c4);(have a7:=H_ I);clear a5 I k3 U a1 a8))
  replace HB:=HB.tr a7.o (by omega);replace K3:=KM;replace O6:=H_ (O6.o.below a7.o (by omega));clear a6 hS b0 a9 a3 KM;have⟨wz,hwz⟩:=x4_ w7 (w+1) (.slice z0 D.first Z) (.slice z2 D.goal z3) (.slice z4 D.made z5) (.slice z6 D.now z7);have KZ:=K3.o.set4 (.slice z0 D.first Z) (.slice z2 D.goal z3) (.slice z4 D.made z5) (.slice z6 D.now z7);have hO:=β.set4 (w+1) w7 (.slice z0 D.first Z) (.slice z2 D.goal z3) (.slice z4 D.made z5) (.slice z6 D.now z7);rw[<-hwz]at KZ hO;have b3:=hO.size;have HZ:=H_ (ε HB.o hO (by omega) (by omega));have OZ:=H_ (O6.o.outside hO (.inr (by omega)));obtain⟨q0,q1,q2,q3⟩:=KZ.c4;clear KZ hO;simp only[<-hwz];clear hwz;clear c0 c1 c2 c3 f0 f1 f2 f3 j0 j1 j2 j3 j4 j5 j6 j7;go_wp2;refine d_ (v:=.tuple #[ο (.slice z0 D.first Z) (.slice z2 D.goal z3) (.slice z4 D.made z5) (.slice z6 D.now z7),.string ⟨(zbr D.first).toArray⟩]) (by simp[results,results21,go_sem,q0,q1,q2,q3]) rfl ⟨_,_,_,_,_,rfl,by rw[zon],?_,HZ.o⟩;exact OZ.o.wide (by omega) (by omega)
 ·skip
  have a4:∀ w',Below w5 w5 w'->w'.cell? (p_ w2 0)=some (.slice z0 D.first Z)/\w'.cell? (p_ w2 1)=some (.slice z2 D.goal z3)/\w'.cell? (p_ w2 2)=some (.slice z4 D.made z5)/\w'.cell? (p_ w2 3)=some (.slice z6 D.now z7)/\w'.cell? (p_ w 0)=some a/\w'.cell? (p_ w 1)=some b/\w'.cell? (p_ w 2)=some c/\w'.cell? (p_ w 3)=some d:=λw' hb=>⟨(K.o.below hb K.o.lt).cell 0,(K.o.below hb K.o.lt).cell 1,(K.o.below hb K.o.lt).cell 2,(K.o.below hb K.o.lt).cell 3,(J.o.below hb J.o.lt).cell 0,(J.o.below hb J.o.lt).cell 1,(J.o.below hb J.o.lt).cell 2,(J.o.below hb J.o.lt).cell 3⟩
  have a3:Below w5 w5 w5.drew:=z_ (B_ _ _);have hS:=a4 w5 (B_ _ _);have b0:=a4 _ a3;have a6:=H_ a4;have c9:w5.drew.heap.size=w5.heap.size:=rfl;have b5:=H_ (HX.o.below a3 (by omega));clear a4;go_upto_region 15 with fail
  go_region_held3 (λw'=>w'.cell? (p_ w2 0)=some (.slice z0 D.first Z)/\w'.cell? (p_ w2 1)=some (.slice z2 D.goal z3)/\w'.cell? (p_ w2 2)=some (.slice z4 D.made z5)/\w'.cell? (p_ w2 3)=some (.slice z6 D.now z7)/\w'.cell? (p_ w 0)=some a/\w'.cell? (p_ w 1)=some b/\w'.cell? (p_ w 2)=some c/\w'.cell? (p_ w 3)=some d) (first | with_reducible assumption | go_keep) (first
   | (go_at_call 53;refine(zlu _ _ _ D.goal w5.drew b5.o.goal (by omega) (by omega)).mono ?_;rintro e7 w7 ⟨rfl,a5⟩;(have c7:=a5.size);(have I:=a3.trans (a5.mono (by omega)));(have a9:=a6.o _ I);(have k3:=K3.o.below I K3.o.lt);(obtain⟨c0,c1,c2,c3⟩:=k3.c4);(obtain⟨f0,f1,f2,f3⟩:=k3.f4);(have KM:=H_ k3);(have U:=β.set4 (w+1) w7 (.slice z0 D.first Z) (.slice z2 D.goal z3) (.slice z4 D.made z5) (.slice z6 D.now z7));(have a1:=(K.o.below I K.o.lt).outside U (.inr (by omega)));(have a8:=(J.o.below I J.o.lt).outside U (.inl (by omega)));(obtain⟨j0,j1,j2,j3⟩:=a1.c4);(obtain⟨j4,j5,j6,j7⟩:=a8.c4);(have a7:=H_ I);clear a5 I k3 U a1 a8))
  replace HB:=HB.tr a7.o (by omega);replace K3:=KM;replace O6:=H_ (O6.o.below a7.o (by omega));clear a6 hS b0 a9 a3 KM;have⟨wz,hwz⟩:=x4_ w7 (w+1) (.slice z0 D.first Z) (.slice z2 D.goal z3) (.slice z4 D.made z5) (.slice z6 D.now z7);have KZ:=K3.o.set4 (.slice z0 D.first Z) (.slice z2 D.goal z3) (.slice z4 D.made z5) (.slice z6 D.now z7);have hO:=β.set4 (w+1) w7 (.slice z0 D.first Z) (.slice z2 D.goal z3) (.slice z4 D.made z5) (.slice z6 D.now z7);rw[<-hwz]at KZ hO;have b3:=hO.size;have HZ:=H_ (ε HB.o hO (by omega) (by omega));have OZ:=H_ (O6.o.outside hO (.inr (by omega)));obtain⟨q0,q1,q2,q3⟩:=KZ.c4;clear KZ hO;simp only[<-hwz];clear hwz;clear c0 c1 c2 c3 f0 f1 f2 f3 j0 j1 j2 j3 j4 j5 j6 j7;go_wp2;refine d_ (v:=.tuple #[ο (.slice z0 D.first Z) (.slice z2 D.goal z3) (.slice z4 D.made z5) (.slice z6 D.now z7),.string ⟨(zbr D.goal).toArray⟩]) (by simp[results,results21,go_sem,q0,q1,q2,q3]) rfl ⟨_,_,_,_,_,rfl,by rw[zn6],?_,HZ.o⟩;exact OZ.o.wide (by omega) (by omega)
 ·obtain⟨m0,m1,rfl,_,_⟩:=SlM.shape HX.o.made
  have a4:∀ w',Below w5 w5 w'->w'.cell? (p_ w2 0)=some (.slice z0 D.first Z)/\w'.cell? (p_ w2 1)=some (.slice z2 D.goal z3)/\w'.cell? (p_ w2 2)=some (.slice z4 D.made z5)/\w'.cell? (p_ w2 3)=some (.slice z6 D.now z7)/\w'.cell? (p_ w 0)=some a/\w'.cell? (p_ w 1)=some b/\w'.cell? (p_ w 2)=some (.slice m0 D.made m1)/\w'.cell? (p_ w 3)=some d:=λw' hb=>⟨(K.o.below hb K.o.lt).cell 0,(K.o.below hb K.o.lt).cell 1,(K.o.below hb K.o.lt).cell 2,(K.o.below hb K.o.lt).cell 3,(J.o.below hb J.o.lt).cell 0,(J.o.below hb J.o.lt).cell 1,(J.o.below hb J.o.lt).cell 2,(J.o.below hb J.o.lt).cell 3⟩
  have a3:Below w5 w5 w5.drew:=z_ (B_ _ _);have hS:=a4 w5 (B_ _ _);have b0:=a4 _ a3;have a6:=H_ a4;have c9:w5.drew.heap.size=w5.heap.size:=rfl;have b5:=H_ (HX.o.below a3 (by omega));clear a4;go_upto_region 17 with fail
  go_region_held3 (λw'=>w'.cell? (p_ w2 0)=some (.slice z0 D.first Z)/\w'.cell? (p_ w2 1)=some (.slice z2 D.goal z3)/\w'.cell? (p_ w2 2)=some (.slice z4 D.made z5)/\w'.cell? (p_ w2 3)=some (.slice z6 D.now z7)/\w'.cell? (p_ w 0)=some a/\w'.cell? (p_ w 1)=some b/\w'.cell? (p_ w 2)=some (.slice m0 D.made m1)/\w'.cell? (p_ w 3)=some d) (first | with_reducible assumption | go_keep) (first
   | (go_at_call 54;refine(zq2 D.made.length w5.drew (by omega)).mono ?_;rintro e7 w7 ⟨rfl,a5⟩;(have c7:=a5.size);(have I:=a3.trans (a5.mono (by omega)));(have a9:=a6.o _ I);(have k3:=K3.o.below I K3.o.lt);(obtain⟨c0,c1,c2,c3⟩:=k3.c4);(obtain⟨f0,f1,f2,f3⟩:=k3.f4);(have KM:=H_ k3);(have U:=β.set4 (w+1) w7 (.slice z0 D.first Z) (.slice z2 D.goal z3) (.slice z4 D.made z5) (.slice z6 D.now z7));(have a1:=(K.o.below I K.o.lt).outside U (.inr (by omega)));(have a8:=(J.o.below I J.o.lt).outside U (.inl (by omega)));(obtain⟨j0,j1,j2,j3⟩:=a1.c4);(obtain⟨j4,j5,j6,j7⟩:=a8.c4);(have a7:=H_ I);clear a5 I k3 U a1 a8))
  replace HB:=HB.tr a7.o (by omega);replace K3:=KM;replace O6:=H_ (O6.o.below a7.o (by omega));clear a6 hS b0 a9 a3 KM;have⟨wz,hwz⟩:=x4_ w7 (w+1) (.slice z0 D.first Z) (.slice z2 D.goal z3) (.slice z4 D.made z5) (.slice z6 D.now z7);have KZ:=K3.o.set4 (.slice z0 D.first Z) (.slice z2 D.goal z3) (.slice z4 D.made z5) (.slice z6 D.now z7);have hO:=β.set4 (w+1) w7 (.slice z0 D.first Z) (.slice z2 D.goal z3) (.slice z4 D.made z5) (.slice z6 D.now z7);rw[<-hwz]at KZ hO;have b3:=hO.size;have HZ:=H_ (ε HB.o hO (by omega) (by omega));have OZ:=H_ (O6.o.outside hO (.inr (by omega)));obtain⟨q0,q1,q2,q3⟩:=KZ.c4;clear KZ hO;simp only[<-hwz];clear hwz;clear c0 c1 c2 c3 f0 f1 f2 f3 j0 j1 j2 j3 j4 j5 j6 j7;go_wp2;refine d_ (v:=.tuple #[ο (.slice z0 D.first Z) (.slice z2 D.goal z3) (.slice z4 D.made z5) (.slice z6 D.now z7),.string ⟨(Ε D.made.length).toArray⟩]) (by simp[results,results21,go_sem,q0,q1,q2,q3]) rfl ⟨_,_,_,_,_,rfl,by rw[zsn],?_,HZ.o⟩;exact OZ.o.wide (by omega) (by omega)
 ·skip
  have⟨d0,d1,d2,d3⟩:=J.o.c4;have⟨E,hE⟩:=ex_ (eqL D.now D.goal);have HD:=H_ (show (φ D&&eqL D.now D.goal)=E by rw[HV.o,hE];rfl);have e9:=H_ (show zae D [100,111,110,101]=if E then zdp else noT by rw[znc,hE]);clear hE;go_wp2_with fail
  refine(zv3 _ _ a b c d D w5 HX.o (by omega) HM.o).mono ?_;rintro e6 w6 ⟨rfl,a2⟩;rw[HD.o];have d9:=a2.size;replace HB:=HB.tr a2 (by omega);replace HX:=H_ (HX.o.below a2 (by omega));replace O6:=H_ (O6.o.below a2 (by omega));replace J:=J.kb a2;replace K3:=K3.kb a2;replace K:=K.kb a2;clear a2 d0 d1 d2 d3;have⟨c0,c1,c2,c3⟩:=K3.o.c4;have⟨f0,f1,f2,f3⟩:=K3.o.f4;have⟨s0,s1,s2,s3⟩:=K.o.c4;have U:=β.set4 (w+1) w6 (.slice z0 D.first Z) (.slice z2 D.goal z3) (.slice z4 D.made z5) (.slice z6 D.now z7);have a1:=K.o.outside U (.inr (by omega));obtain⟨j0,j1,j2,j3⟩:=a1.c4;clear U a1;cases E
  ·skip
   have⟨wz,hwz⟩:=x4_ w6 (w+1) (.slice z0 D.first Z) (.slice z2 D.goal z3) (.slice z4 D.made z5) (.slice z6 D.now z7);have KZ:=K3.o.set4 (.slice z0 D.first Z) (.slice z2 D.goal z3) (.slice z4 D.made z5) (.slice z6 D.now z7);have hO:=β.set4 (w+1) w6 (.slice z0 D.first Z) (.slice z2 D.goal z3) (.slice z4 D.made z5) (.slice z6 D.now z7);rw[<-hwz]at KZ hO;have b3:=hO.size;have HZ:=H_ (ε HB.o hO (by omega) (by omega));have OZ:=H_ (O6.o.outside hO (.inr (by omega)));obtain⟨q0,q1,q2,q3⟩:=KZ.c4;clear KZ hO;go_wp2;simp only[<-hwz];clear hwz;refine d_ (v:=.tuple #[ο (.slice z0 D.first Z) (.slice z2 D.goal z3) (.slice z4 D.made z5) (.slice z6 D.now z7),.string ⟨#[110,111]⟩]) (by simp[results,results21,go_sem,q0,q1,q2,q3]) rfl ⟨_,_,_,_,_,rfl,by rw[e9.o];rfl,?_,HZ.o⟩;exact OZ.o.wide (by omega) (by omega)
  ·skip
   have⟨wz,hwz⟩:=x4_ w6 (w+1) (.slice z0 D.first Z) (.slice z2 D.goal z3) (.slice z4 D.made z5) (.slice z6 D.now z7);have KZ:=K3.o.set4 (.slice z0 D.first Z) (.slice z2 D.goal z3) (.slice z4 D.made z5) (.slice z6 D.now z7);have hO:=β.set4 (w+1) w6 (.slice z0 D.first Z) (.slice z2 D.goal z3) (.slice z4 D.made z5) (.slice z6 D.now z7);rw[<-hwz]at KZ hO;have b3:=hO.size;have HZ:=H_ (ε HB.o hO (by omega) (by omega));have OZ:=H_ (O6.o.outside hO (.inr (by omega)));obtain⟨q0,q1,q2,q3⟩:=KZ.c4;clear KZ hO;go_wp2;simp only[<-hwz];clear hwz;refine d_ (v:=.tuple #[ο (.slice z0 D.first Z) (.slice z2 D.goal z3) (.slice z4 D.made z5) (.slice z6 D.now z7),.string ⟨#[121,101,115]⟩]) (by simp[results,results21,go_sem,q0,q1,q2,q3]) rfl ⟨_,_,_,_,_,rfl,by rw[e9.o];rfl,?_,HZ.o⟩;exact OZ.o.wide (by omega) (by omega)
 ·exact absurd rfl d7.o
 ·skip
  have a4:∀ w',Below w5 w5 w'->w'.cell? (p_ w2 0)=some (.slice z0 D.first Z)/\w'.cell? (p_ w2 1)=some (.slice z2 D.goal z3)/\w'.cell? (p_ w2 2)=some (.slice z4 D.made z5)/\w'.cell? (p_ w2 3)=some (.slice z6 D.now z7)/\w'.cell? (p_ w 0)=some a/\w'.cell? (p_ w 1)=some b/\w'.cell? (p_ w 2)=some c/\w'.cell? (p_ w 3)=some d:=λw' hb=>⟨(K.o.below hb K.o.lt).cell 0,(K.o.below hb K.o.lt).cell 1,(K.o.below hb K.o.lt).cell 2,(K.o.below hb K.o.lt).cell 3,(J.o.below hb J.o.lt).cell 0,(J.o.below hb J.o.lt).cell 1,(J.o.below hb J.o.lt).cell 2,(J.o.below hb J.o.lt).cell 3⟩
  have a3:Below w5 w5 w5.drew:=z_ (B_ _ _);have hS:=a4 w5 (B_ _ _);have b0:=a4 _ a3;have a6:=H_ a4;have c9:w5.drew.heap.size=w5.heap.size:=rfl;have b5:=H_ (HX.o.below a3 (by omega));clear a4;have d6:=H_ (zru (zbu HV.o).2.2.1);have⟨n,hn⟩:=ex_ (endsK (Τ D.now));have d7:=H_ (show zae D [101,110,100,115]=Υ n by rw[zqy,hn]);rw[<-hn]at d6;have e8:=H_ (z0f _ _ _ D.now w5.drew b5.o.now (by omega) (by omega));rw[d6.o.1]at e8;clear hn;go_upto_region 25 with fail
  go_region_held3 (λw'=>w'.cell? (p_ w2 0)=some (.slice z0 D.first Z)/\w'.cell? (p_ w2 1)=some (.slice z2 D.goal z3)/\w'.cell? (p_ w2 2)=some (.slice z4 D.made z5)/\w'.cell? (p_ w2 3)=some (.slice z6 D.now z7)/\w'.cell? (p_ w 0)=some a/\w'.cell? (p_ w 1)=some b/\w'.cell? (p_ w 2)=some c/\w'.cell? (p_ w 3)=some d) (first | with_reducible assumption | go_keep) (first
   | (go_at_call 58;refine e8.o.mono ?_;rintro e6 w6 ⟨rfl,a5⟩;(have d9:=a5.size);(have a2:=a3.trans (a5.mono (by omega)));(have h9:=a6.o _ a2);(have g4:=H_ a2);clear a5 a2)
   | (go_at_call 57;refine(zk2 n d6.o.2 w6).mono ?_;rintro e7 w7 ⟨rfl,a5⟩;(have c7:=a5.size);(have I:=g4.o.trans (a5.mono (by omega)));(have a9:=a6.o _ I);(have k3:=K3.o.below I K3.o.lt);(obtain⟨c0,c1,c2,c3⟩:=k3.c4);(obtain⟨f0,f1,f2,f3⟩:=k3.f4);(have KM:=H_ k3);(have U:=β.set4 (w+1) w7 (.slice z0 D.first Z) (.slice z2 D.goal z3) (.slice z4 D.made z5) (.slice z6 D.now z7));(have a1:=(K.o.below I K.o.lt).outside U (.inr (by omega)));(have a8:=(J.o.below I J.o.lt).outside U (.inl (by omega)));(obtain⟨j0,j1,j2,j3⟩:=a1.c4);(obtain⟨j4,j5,j6,j7⟩:=a8.c4);(have a7:=H_ I);clear a5 I k3 U a1 a8))
  replace HB:=HB.tr a7.o (by omega);replace K3:=KM;replace O6:=H_ (O6.o.below a7.o (by omega));clear a6 hS b0 h9 a9 a3 KM;have⟨wz,hwz⟩:=x4_ w7 (w+1) (.slice z0 D.first Z) (.slice z2 D.goal z3) (.slice z4 D.made z5) (.slice z6 D.now z7);have KZ:=K3.o.set4 (.slice z0 D.first Z) (.slice z2 D.goal z3) (.slice z4 D.made z5) (.slice z6 D.now z7);have hO:=β.set4 (w+1) w7 (.slice z0 D.first Z) (.slice z2 D.goal z3) (.slice z4 D.made z5) (.slice z6 D.now z7);rw[<-hwz]at KZ hO;have b3:=hO.size;have HZ:=H_ (ε HB.o hO (by omega) (by omega));have OZ:=H_ (O6.o.outside hO (.inr (by omega)));obtain⟨q0,q1,q2,q3⟩:=KZ.c4;clear KZ hO;simp only[<-hwz];clear hwz;clear c0 c1 c2 c3 f0 f1 f2 f3 j0 j1 j2 j3 j4 j5 j6 j7;go_wp2;refine d_ (v:=.tuple #[ο (.slice z0 D.first Z) (.slice z2 D.goal z3) (.slice z4 D.made z5) (.slice z6 D.now z7),.string ⟨(Υ n).toArray⟩]) (by simp[results,results21,go_sem,q0,q1,q2,q3]) rfl ⟨_,_,_,_,_,rfl,by rw[d7.o],?_,HZ.o⟩;exact OZ.o.wide (by omega) (by omega)
 ·skip
  have⟨d0,d1,d2,d3⟩:=J.o.c4;go_wp2_with fail
  refine(zsa _ _ _ _ _ _ D.now D.goal w5 HX.o.now HX.o.goal (by omega) (by omega) (by omega) (by omega)).mono ?_;rintro e6 w6 ⟨r,rfl,i6,a2⟩;have d9:=a2.size;replace HB:=HB.tr a2 (by omega);replace HX:=H_ (HX.o.below a2 (by omega));replace O6:=H_ (O6.o.below a2 (by omega));replace J:=J.kb a2;replace K3:=K3.kb a2;replace K:=K.kb a2;clear a2 d0 d1 d2 d3;rcases i6 with⟨t,v4,ht,rfl,g3,hlt⟩|⟨hn,g,rfl⟩
  ·have b4:=H_ (show zae D [116,114,97,99,101]=zew t by rw[znj,ht];rfl)
   have g6:=H_ g3;clear ht g3;have a4:∀ w',Below w6 w6 w'->w'.cell? (p_ w2 0)=some (.slice z0 D.first Z)/\w'.cell? (p_ w2 1)=some (.slice z2 D.goal z3)/\w'.cell? (p_ w2 2)=some (.slice z4 D.made z5)/\w'.cell? (p_ w2 3)=some (.slice z6 D.now z7)/\w'.cell? (p_ w 0)=some a/\w'.cell? (p_ w 1)=some b/\w'.cell? (p_ w 2)=some c/\w'.cell? (p_ w 3)=some d:=λw' hb=>⟨(K.o.below hb K.o.lt).cell 0,(K.o.below hb K.o.lt).cell 1,(K.o.below hb K.o.lt).cell 2,(K.o.below hb K.o.lt).cell 3,(J.o.below hb J.o.lt).cell 0,(J.o.below hb J.o.lt).cell 1,(J.o.below hb J.o.lt).cell 2,(J.o.below hb J.o.lt).cell 3⟩
   have a3:Below w6 w6 w6.drew:=z_ (B_ _ _);have hS:=a4 w6 (B_ _ _);have b0:=a4 _ a3;have a6:=H_ a4;have c9:w6.drew.heap.size=w6.heap.size:=rfl;have b5:=H_ (HX.o.below a3 (by omega));clear a4;go_upto_region 30 with fail
   go_region_held3 (λw'=>w'.cell? (p_ w2 0)=some (.slice z0 D.first Z)/\w'.cell? (p_ w2 1)=some (.slice z2 D.goal z3)/\w'.cell? (p_ w2 2)=some (.slice z4 D.made z5)/\w'.cell? (p_ w2 3)=some (.slice z6 D.now z7)/\w'.cell? (p_ w 0)=some a/\w'.cell? (p_ w 1)=some b/\w'.cell? (p_ w 2)=some c/\w'.cell? (p_ w 3)=some d) (first | with_reducible assumption | go_keep) (first
    | (go_at_call 60;refine(zyj _ _ _ t w6.drew (g6.o.sl.below a3 (le_ _)) (by omega) (le_ _)).mono ?_;rintro e7 w7 ⟨rfl,a5⟩;(have c7:=a5.size);(have I:=a3.trans (a5.mono (by omega)));(have a9:=a6.o _ I);(have k3:=K3.o.below I K3.o.lt);(obtain⟨c0,c1,c2,c3⟩:=k3.c4);(obtain⟨f0,f1,f2,f3⟩:=k3.f4);(have KM:=H_ k3);(have U:=β.set4 (w+1) w7 (.slice z0 D.first Z) (.slice z2 D.goal z3) (.slice z4 D.made z5) (.slice z6 D.now z7));(have a1:=(K.o.below I K.o.lt).outside U (.inr (by omega)));(have a8:=(J.o.below I J.o.lt).outside U (.inl (by omega)));(obtain⟨j0,j1,j2,j3⟩:=a1.c4);(obtain⟨j4,j5,j6,j7⟩:=a8.c4);(have a7:=H_ I);clear a5 I k3 U a1 a8))
   replace HB:=HB.tr a7.o (by omega);replace K3:=KM;replace O6:=H_ (O6.o.below a7.o (by omega));clear a6 hS b0 a9 a3 KM;have⟨wz,hwz⟩:=x4_ w7 (w+1) (.slice z0 D.first Z) (.slice z2 D.goal z3) (.slice z4 D.made z5) (.slice z6 D.now z7);have KZ:=K3.o.set4 (.slice z0 D.first Z) (.slice z2 D.goal z3) (.slice z4 D.made z5) (.slice z6 D.now z7);have hO:=β.set4 (w+1) w7 (.slice z0 D.first Z) (.slice z2 D.goal z3) (.slice z4 D.made z5) (.slice z6 D.now z7);rw[<-hwz]at KZ hO;have b3:=hO.size;have HZ:=H_ (ε HB.o hO (by omega) (by omega));have OZ:=H_ (O6.o.outside hO (.inr (by omega)));obtain⟨q0,q1,q2,q3⟩:=KZ.c4;clear KZ hO;simp only[<-hwz];clear hwz;clear c0 c1 c2 c3 f0 f1 f2 f3 j0 j1 j2 j3 j4 j5 j6 j7;go_wp2;refine d_ (v:=.tuple #[ο (.slice z0 D.first Z) (.slice z2 D.goal z3) (.slice z4 D.made z5) (.slice z6 D.now z7),.string ⟨(zew t).toArray⟩]) (by simp[results,results21,go_sem,q0,q1,q2,q3]) rfl ⟨_,_,_,_,_,rfl,by rw[b4.o],?_,HZ.o⟩;exact OZ.o.wide (by omega) (by omega)
  ·have b4:=H_ (show zae D [116,114,97,99,101]=zgq by rw[znj,hn];rfl)
   clear hn;have⟨c0,c1,c2,c3⟩:=K3.o.c4;have⟨f0,f1,f2,f3⟩:=K3.o.f4;have⟨s0,s1,s2,s3⟩:=K.o.c4;have U:=β.set4 (w+1) w6 (.slice z0 D.first Z) (.slice z2 D.goal z3) (.slice z4 D.made z5) (.slice z6 D.now z7);have a1:=K.o.outside U (.inr (by omega));obtain⟨j0,j1,j2,j3⟩:=a1.c4;clear U a1;have⟨wz,hwz⟩:=x4_ w6 (w+1) (.slice z0 D.first Z) (.slice z2 D.goal z3) (.slice z4 D.made z5) (.slice z6 D.now z7);have KZ:=K3.o.set4 (.slice z0 D.first Z) (.slice z2 D.goal z3) (.slice z4 D.made z5) (.slice z6 D.now z7);have hO:=β.set4 (w+1) w6 (.slice z0 D.first Z) (.slice z2 D.goal z3) (.slice z4 D.made z5) (.slice z6 D.now z7);rw[<-hwz]at KZ hO;have b3:=hO.size;have HZ:=H_ (ε HB.o hO (by omega) (by omega));have OZ:=H_ (O6.o.outside hO (.inr (by omega)));obtain⟨q0,q1,q2,q3⟩:=KZ.c4;clear KZ hO;go_wp2;simp only[<-hwz];clear hwz;refine d_ (v:=.tuple #[ο (.slice z0 D.first Z) (.slice z2 D.goal z3) (.slice z4 D.made z5) (.slice z6 D.now z7),.string ⟨#[110,111,110,101]⟩]) (by simp[results,results21,go_sem,q0,q1,q2,q3]) rfl ⟨_,_,_,_,_,rfl,by rw[b4.o];rfl,?_,HZ.o⟩;exact OZ.o.wide (by omega) (by omega)
 ·obtain⟨m0,m1,rfl,_,_⟩:=SlM.shape HX.o.made
  have b4:=H_ (zqi D);have d2:=J.o.cell 2;by_cases h0:D.made=[]
  ·have j9:D.made.length<=0:=by simp[h0]
   have g9:((D.made.length:Int)==0)=true:=by simp[h0]
   have g5:=H_ (show zcr D.made=zgq by rw[h0];rfl);clear h0;have⟨c0,c1,c2,c3⟩:=K3.o.c4;have⟨f0,f1,f2,f3⟩:=K3.o.f4;have⟨s0,s1,s2,s3⟩:=K.o.c4;have U:=β.set4 (w+1) w5 (.slice z0 D.first Z) (.slice z2 D.goal z3) (.slice z4 D.made z5) (.slice z6 D.now z7);have a1:=K.o.outside U (.inr (by omega));obtain⟨j0,j1,j2,j3⟩:=a1.c4;clear U a1;have⟨wz,hwz⟩:=x4_ w5 (w+1) (.slice z0 D.first Z) (.slice z2 D.goal z3) (.slice z4 D.made z5) (.slice z6 D.now z7);have KZ:=K3.o.set4 (.slice z0 D.first Z) (.slice z2 D.goal z3) (.slice z4 D.made z5) (.slice z6 D.now z7);have hO:=β.set4 (w+1) w5 (.slice z0 D.first Z) (.slice z2 D.goal z3) (.slice z4 D.made z5) (.slice z6 D.now z7);rw[<-hwz]at KZ hO;have b3:=hO.size;have HZ:=H_ (ε HB.o hO (by omega) (by omega));have OZ:=H_ (O6.o.outside hO (.inr (by omega)));obtain⟨q0,q1,q2,q3⟩:=KZ.c4;clear KZ hO;go_wp2;simp only[<-hwz];clear hwz;refine d_ (v:=.tuple #[ο (.slice z0 D.first Z) (.slice z2 D.goal z3) (.slice z4 D.made z5) (.slice z6 D.now z7),.string ⟨#[110,111,110,101]⟩]) (by simp[results,results21,go_sem,q0,q1,q2,q3]) rfl ⟨_,_,_,_,_,rfl,by rw[b4.o,g5.o];rfl,?_,HZ.o⟩;exact OZ.o.wide (by omega) (by omega)
  ·have d4:0<D.made.length:=by cases hd:D.made with | nil=>exact absurd hd h0 | cons=>simp
   have g9:((D.made.length:Int)==0)=false:=by simp[h0]
   have f6:=H_ (λk (hk:k<D.made.length) (hk1:1<=k)=>z19 hk hk1);have d5:=H_ (zuv d4);obtain⟨b1,off,rfl,_,_,i8,p0,p1,p2⟩:=SlM.get HX.o.made 0 d4;have⟨m,hm⟩:=ex_ (D.made[0]);rw[<-hm]at p0 p1 p2 d5;simp only[Nat.zero_mul,cj_]at p0 p1 p2;clear h0 hm;go_wp2_with fail
   refine(zka m w5).mono ?_;rintro e6 w6 ⟨rfl,a2⟩;have d9:=a2.size;have g2:=ziq m;have⟨t0,ht0⟩:=ex_ (Β m);rw[<-ht0]at d5 g2 ⊢;have f7:=H_ (show t0=zcr (D.made.take 1) from d5.o.symm);replace HB:=HB.tr a2 (by omega);replace HX:=H_ (HX.o.below a2 (by omega));replace O6:=H_ (O6.o.below a2 (by omega));replace J:=J.kb a2;replace K3:=K3.kb a2;replace K:=K.kb a2;clear a2 d2 p0 p1 p2 d5 ht0;go_wp2;go_loopw [13,14] (λs i wr=>∃ (k:Nat) (t:List UInt8),1<=k/\k<=D.made.length/\i=.int .i64 k/\s=.string ⟨t.toArray⟩/\t.length<=7*k/\Q_ (t=zcr (D.made.take k))/\Q_ (Below w6 w6 wr)) (λ_ i _=>D.made.length-(intOf i).toNat)
   case atStart=>exact⟨1,t0,le_ _,d4,rfl,rfl,by omega,f7,H_ (B_ _ _)⟩
   case round=>
    rename World=>wr
    clear f7 g2;obtain⟨k,t,hk1,hk,rfl,rfl,k9,HT,HQ⟩:=hrel;have i7:=HQ.o.size;have d2:=(J.o.below HQ.o J.o.lt).cell 2;by_cases hlt:k<D.made.length
    ·(obtain⟨b2,j8,i4,_,_,i9,p0,p1,p2⟩:=SlM.get (HX.o.made.below HQ.o (by omega)) k hlt);cases i4
     (have HN:=H_ ((f6.o k hlt hk1).trans (congrArg (·++44 :: Β D.made[k]) HT.o.symm));have⟨n,hn⟩:=ex_ (D.made[k]);rw[<-hn]at p0 p1 p2 HN;clear hn;go_wp2_with fail);refine(zka n wr).mono ?_;rintro e7 w7 ⟨rfl,I⟩;have c7:=I.size;have k4:=ziq n;have g7:=HQ.tr I i7;clear I d2 p0 p1 p2 HQ;go_wp2;go_roundw
     (case rel=>exact⟨k+1,t++44 :: Β n,by omega,by omega,by go_num,by congr 1;apply cd_;simp,by simp;omega,H_ HN.o.symm,g7⟩);case measure=>first | (simp[intOf];done) | (simp[intOf];omega)
    ·(obtain rfl:k=D.made.length:=by omega);have g8:=H_ (b4.o.trans (show zcr D.made=t by rw[HT.o,Y_]));have b8:=H_ HQ.o;clear b4 HT HQ f6;replace HB:=HB.tr b8.o (by omega);replace HX:=H_ (HX.o.below b8.o (by omega));replace O6:=H_ (O6.o.below b8.o (by omega));replace J:=J.kb b8.o;replace K3:=K3.kb b8.o;replace K:=K.kb b8.o;have⟨c0,c1,c2,c3⟩:=K3.o.c4;have⟨f0,f1,f2,f3⟩:=K3.o.f4;have⟨s0,s1,s2,s3⟩:=K.o.c4;have U:=β.set4 (w+1) wr (.slice z0 D.first Z) (.slice z2 D.goal z3) (.slice z4 D.made z5) (.slice z6 D.now z7);have a1:=K.o.outside U (.inr (by omega));obtain⟨j0,j1,j2,j3⟩:=a1.c4;clear U a1;have⟨wz,hwz⟩:=x4_ wr (w+1) (.slice z0 D.first Z) (.slice z2 D.goal z3) (.slice z4 D.made z5) (.slice z6 D.now z7);have KZ:=K3.o.set4 (.slice z0 D.first Z) (.slice z2 D.goal z3) (.slice z4 D.made z5) (.slice z6 D.now z7);have hO:=β.set4 (w+1) wr (.slice z0 D.first Z) (.slice z2 D.goal z3) (.slice z4 D.made z5) (.slice z6 D.now z7);rw[<-hwz]at KZ hO;have b3:=hO.size;have HZ:=H_ (ε HB.o hO (by omega) (by omega));have OZ:=H_ (O6.o.outside hO (.inr (by omega)));obtain⟨q0,q1,q2,q3⟩:=KZ.c4;clear KZ hO;go_wp2;simp only[<-hwz];clear hwz;refine d_ (v:=.tuple #[ο (.slice z0 D.first Z) (.slice z2 D.goal z3) (.slice z4 D.made z5) (.slice z6 D.now z7),.string ⟨t.toArray⟩]) (by simp[results,results21,go_sem,q0,q1,q2,q3]) rfl ⟨_,_,_,_,_,rfl,by rw[g8.o],?_,HZ.o⟩;exact OZ.o.wide (by omega) (by omega)
 ·have b4:=H_ (zqv (D:=D) hq)
  obtain⟨n1,n2,n3,n4,n5,n6,n7,n8,n9⟩:=hq;have q1:=ao_ n1;have q2:=ao_ n2;have q3:=ao_ n3;have q4:=ao_ n4;have q5:=ao_ n5;have q6:=ao_ n6;have q7:=ao_ n7;have q8:=ao_ n8;have q9:=ao_ n9;clear n1 n2 n3 n4 n5 n6 n7 n8 n9;have⟨c0,c1,c2,c3⟩:=K3.o.c4;have⟨f0,f1,f2,f3⟩:=K3.o.f4;have⟨s0,s1,s2,s3⟩:=K.o.c4;have U:=β.set4 (w+1) w5 (.slice z0 D.first Z) (.slice z2 D.goal z3) (.slice z4 D.made z5) (.slice z6 D.now z7);have a1:=K.o.outside U (.inr (by omega));obtain⟨j0,j1,j2,j3⟩:=a1.c4;clear U a1;have⟨wz,hwz⟩:=x4_ w5 (w+1) (.slice z0 D.first Z) (.slice z2 D.goal z3) (.slice z4 D.made z5) (.slice z6 D.now z7);have KZ:=K3.o.set4 (.slice z0 D.first Z) (.slice z2 D.goal z3) (.slice z4 D.made z5) (.slice z6 D.now z7);have hO:=β.set4 (w+1) w5 (.slice z0 D.first Z) (.slice z2 D.goal z3) (.slice z4 D.made z5) (.slice z6 D.now z7);rw[<-hwz]at KZ hO;have b3:=hO.size;have HZ:=H_ (ε HB.o hO (by omega) (by omega));have OZ:=H_ (O6.o.outside hO (.inr (by omega)));obtain⟨r0,r1,r2,r3⟩:=KZ.c4;clear KZ hO;go_wp2;simp only[<-hwz];clear hwz;refine d_ (v:=.tuple #[ο (.slice z0 D.first Z) (.slice z2 D.goal z3) (.slice z4 D.made z5) (.slice z6 D.now z7),.string ⟨#[119,104,97,116]⟩]) (by simp[results,results21,go_sem,r0,r1,r2,r3]) rfl ⟨_,_,_,_,_,rfl,by rw[b4.o];rfl,?_,HZ.o⟩;exact OZ.o.wide (by omega) (by omega)
theorem z1f(lo hi:Nat)(a b c d:Value)(D:Dsk)(s:ByteArray)(w:World)(hx:Θ lo hi w a b c d D)(hh:hi<=w)(hm:D.size<=1048576)(hv:φ D=false):
  Calls prog 21 #[ο a b c d,.string s] w (zfl λa' b' c' d' s' w'=>s'=⟨#[]⟩/\Κ w w' w' a' b' c' d' Dsk.none/\Below w w w'):=by
 have HM:=H_ hm;have⟨w0,E⟩:=ex_ ((w.alloc (.cells #[a,b,c,d] 31)).alloc (.cells #[(),(),(),()] 31));have J:Below w w w0:=by rw[E];exact((B_ _ _).alloc (le_ _) _).alloc (by simp) _
 have a1:w0=w.heap.size+2:=by rw[E];simp
 have K1:Q_ (Blk w (.cells #[a,b,c,d] 31) w0):=by
  rw[E];exact H_ ((κ w _).below ((B_ (w.alloc _).heap.size _).alloc (le_ _) _) (by simp))
 have K:Q_ (Blk (w+1) (.cells #[(),(),(),()] 31) w0):=by
  have h:=κ (w.alloc (.cells #[a,b,c,d] 31)) (.cells #[(),(),(),()] 31);rw[μ]at h;rw[E];exact H_ h
 have HX:=H_ (hx.below J hh);have HB:=H_ J;have U:=H_ E;have HV:=H_ hv;clear hx J E hv hm;have⟨d0,d1,d2,d3⟩:=K1.o.c4
 go_enter func21,ntmps21
 go_wp2_with (rw[<-U.o])
 refine(zfq _ _ a b c d D w0 HX.o (by omega) HM.o).mono ?_;rintro e1 w1 ⟨rfl,I⟩;rw[HV.o];have hs1:=I.size;replace HB:=HB.tr I (by omega);replace K:=K.kb I;clear I d0 d1 d2 d3;have⟨c0,c1,c2,c3⟩:=K.o.c4;have⟨f0,f1,f2,f3⟩:=K.o.f4;have⟨wz,hwz⟩:=x4_ w1 (w+1) () () () ();have Z:=K.o.set4 () () () ();have hO:=β.set4 (w+1) w1 () () () ();rw[<-hwz]at Z hO;have HZ:=H_ (ε HB.o hO (by omega) (by omega));obtain⟨q0,q1,q2,q3⟩:=Z.c4;clear Z hO;go_wp2;simp only[<-hwz];clear hwz;refine d_ (v:=.tuple #[ο () () () (),.string ⟨#[]⟩]) (by simp[results,results21,go_sem,q0,q1,q2,q3]) rfl ⟨_,_,_,_,_,rfl,rfl,?_,HZ.o⟩;exact Κ.nils _ _ HZ.o.size wz
theorem zty(lo hi:Nat)(a b c d:Value)(D:Dsk)(l:List UInt8)(s:ByteArray)(hs:s=⟨l.toArray⟩)(w:World)(hx:Θ lo hi w a b c d D)(hh:hi<=w)(hm:D.size<=1048576)(hl:l.length<=2097152)(A:Ac)(hv:φ D=true)(hr:zbb l=some A):
  Calls prog 21 #[ο a b c d,.string s] w (zfl λa' b' c' d' s' w'=>s'=okS (Χ D A).2/\Κ w w' w' a' b' c' d' (Χ D A).1/\Below w w w'):=by
 subst hs;have HM:=H_ hm;have⟨w0,a6⟩:=ex_ ((w.alloc (.cells #[a,b,c,d] 31)).alloc (.cells #[(),(),(),()] 31));have b2:Below w w w0:=by rw[a6];exact((B_ _ _).alloc (le_ _) _).alloc (by simp) _
 have c8:w0=w.heap.size+2:=by rw[a6];simp
 have U:Q_ (Blk w (.cells #[a,b,c,d] 31) w0):=by
  rw[a6];exact H_ ((κ w _).below ((B_ (w.alloc _).heap.size _).alloc (le_ _) _) (by simp))
 have E:Q_ (Blk (w+1) (.cells #[(),(),(),()] 31) w0):=by
  have h:=κ (w.alloc (.cells #[a,b,c,d] 31)) (.cells #[(),(),(),()] 31);rw[μ]at h;rw[a6];exact H_ h
 have J:=H_ (hx.below b2 hh);have HB:=H_ b2;have b9:=H_ a6;have HV:=H_ hv;have b8:=H_ hr;clear hx b2 a6 hv hr;have⟨d0,d1,d2,d3⟩:=U.o.c4
 go_enter func21,ntmps21
 go_wp2_with (rw[<-b9.o])
 refine(zfq _ _ a b c d D w0 J.o (by omega) HM.o).mono ?_;rintro e1 w1 ⟨rfl,Z⟩;rw[HV.o];have hs1:=Z.size;replace HB:=HB.tr Z (by omega);replace U:=U.kb Z;replace E:=E.kb Z;replace J:=H_ (J.o.below Z (by omega));clear Z d0 d1 d2 d3;have hk:=zih HV.o;have HW:=H_ (zfr _ _ _ _ a b c d c D D.made w1 J.o (by omega) HM.o J.o.made (by omega) (by have:=HM.o;unfold Dsk.size at this;omega) hk.1);rw[hk.2,ac_]at HW;have c6:=(zbu HV.o).2.2.2.1;have⟨d0,d1,d2,d3⟩:=U.o.c4;clear hk;go_wp2_with fail
 refine HW.o.mono ?_;rintro e2 w2 ⟨x0,x1,x2,x3,rfl,o_,hb2⟩;obtain⟨z0,z1,z2,z3,z4,z5,z6,z7,i0,i1,i2,i3⟩:=o_.open;subst i0 i1 i2 i3;have hs2:=hb2.size;replace HB:=HB.tr hb2 (by omega);replace U:=U.kb hb2;replace E:=E.kb hb2;replace J:=H_ (J.o.below hb2 (by omega));have O6:=H_ (show Κ w1 w2 w2 (.slice z0 D.first z1) (.slice z2 D.goal z3) (.slice z4 D.made z5) (.slice z6 D.now z7) D from o_);clear hb2 o_ HW d0 d1 d2 d3;have⟨w3,b3⟩:=xa_ w2 #[.slice z0 D.first z1,.slice z2 D.goal z3,.slice z4 D.made z5,.slice z6 D.now z7] 31;obtain⟨a5,b5,c9⟩:=Η b3;have K6:=H_ b5;replace HB:=HB.tr a5 (by omega);replace U:=U.kb a5;replace E:=E.kb a5;replace J:=H_ (J.o.below a5 (by omega));replace O6:=H_ (O6.o.below a5 (le_ _));have b4:=H_ b3;clear a5 b5 b3;go_wp2_with (rw[<-b4.o])
 refine(zl5 l _ rfl w3 hl).mono ?_;rintro e4 w4 ⟨rfl,I⟩;have d4:=I.size;replace HB:=HB.tr I (by omega);replace J:=H_ (J.o.below I (by omega));replace O6:=H_ (O6.o.below I (by omega));replace U:=U.kb I;replace E:=E.kb I;replace K6:=K6.kb I;clear I b4;rw[zst b8.o];unfold zhi;have⟨w5,a9⟩:=xa_ w4 #[.int .i64 A.kind,.int .i64 A.step.which,.bool A.step.back,.int .i64 A.step.at_,.int .i64 A.count] 69;obtain⟨K,b6,d5⟩:=Η a9;replace HB:=HB.tr K (by omega);replace J:=H_ (J.o.below K (by omega));replace O6:=H_ (O6.o.below K (by omega));replace U:=U.kb K;replace E:=E.kb K;replace K6:=K6.kb K;have KA:=H_ b6;have⟨d0,d1,d2,d3⟩:=U.o.c4;have⟨a0,a1,a2,a3,a4⟩:=KA.o.c5;rw[a9]at d0 d1 d2 d3 a0 a1 a2 a3 a4;clear K b6;go_wp2_with fail
 simp only[<-a9];clear a9 d0 d1 d2 d3 a0 a1 a2 a3 a4;refine(zm3 _ _ a b c d D A w5 J.o (by omega) HM.o).mono ?_;rintro e6 w6 ⟨x0,x1,x2,x3,ok,rfl,o_,b7,a7⟩;obtain⟨R,t,hR⟩:∃ R t,Χ D A=(R,t):=⟨_,_,rfl⟩;have HR:=H_ hR;rw[hR]at o_ b7;obtain rfl:ok=t:=b7;clear hR;obtain⟨z0,z1,z2,z3,z4,z5,z6,z7,rfl,rfl,rfl,rfl⟩:=o_.open;have d6:=a7.size;replace HB:=HB.tr a7 (by omega);replace E:=E.kb a7;have O4:=H_ (o_.wide (lo':=w.heap.size) (by omega) (le_ _));have b1:=H_ o_;clear a7 o_ U J KA K6 O6;have⟨w7,b0⟩:=xa_ w6 #[(.slice z0 R.first z1),(.slice z2 R.goal z3),(.slice z4 R.made z5),(.slice z6 R.now z7)] 31;obtain⟨a8,K5,d7⟩:=Η b0;replace HB:=HB.tr a8 (by omega);replace E:=E.kb a8;replace b1:=H_ (b1.o.below a8 (le_ _));obtain⟨k0,k1,k2,k3⟩:=K5.c4;have⟨c0,c1,c2,c3⟩:=E.o.c4;have⟨f0,f1,f2,f3⟩:=E.o.f4;have c7:=H_ b0;have⟨wz,hwz⟩:=x4_ w7 (w+1) (.slice z0 R.first z1) (.slice z2 R.goal z3) (.slice z4 R.made z5) (.slice z6 R.now z7);have KZ:=E.o.set4 (.slice z0 R.first z1) (.slice z2 R.goal z3) (.slice z4 R.made z5) (.slice z6 R.now z7);have hO:=β.set4 (w+1) w7 (.slice z0 R.first z1) (.slice z2 R.goal z3) (.slice z4 R.made z5) (.slice z6 R.now z7);rw[<-hwz]at KZ hO;have d8:=hO.size;have HZ:=H_ (ε HB.o hO (by omega) (by omega));have OZ:=H_ (b1.o.outside hO (.inr (by omega)));obtain⟨q0,q1,q2,q3⟩:=KZ.c4;rw[b0]at k0 k1 k2 k3 c0 c1 c2 c3 f0 f1 f2 f3 hwz;clear KZ hO a8 K5 b0;cases ok
 all_goals (
  go_wp2_with fail
  simp only[<-hwz])
 ·refine d_ (v:=.tuple #[ο (.slice z0 R.first z1) (.slice z2 R.goal z3) (.slice z4 R.made z5) (.slice z6 R.now z7),.string ⟨#[110,111]⟩]) (by simp[results,results21,go_sem,q0,q1,q2,q3]) rfl ⟨_,_,_,_,_,rfl,?_,?_,HZ.o⟩
  ·rw[HR.o];rfl
  ·rw[HR.o];exact OZ.o.wide (by omega) (by omega)
 ·refine d_ (v:=.tuple #[ο (.slice z0 R.first z1) (.slice z2 R.goal z3) (.slice z4 R.made z5) (.slice z6 R.now z7),.string ⟨#[111,107]⟩]) (by simp[results,results21,go_sem,q0,q1,q2,q3]) rfl ⟨_,_,_,_,_,rfl,?_,?_,HZ.o⟩
  ·rw[HR.o];rfl
  ·rw[HR.o];exact OZ.o.wide (by omega) (by omega)
theorem zwc(lo hi:Nat)(a b c d:Value)(D:Dsk)(l:List UInt8)(s:ByteArray)(hs:s=⟨l.toArray⟩)(w:World)(hx:Θ lo hi w a b c d D)(E:hi<=w)(hm:D.size<=1048576)(hl:l.length<=2097152):
  Calls prog 21 #[ο a b c d,.string s] w (zfl λa' b' c' d' s' w'=>s'=⟨(zac D l).2.toArray⟩/\Κ w w' w' a' b' c' d' (zac D l).1/\Below w w w'):=by
 cases hv:φ D with
 | false=>
  rw[show zac D l=(Dsk.none,[]) by unfold zac;rw[hv];rfl];exact z1f lo hi a b c d D s w hx E hm hv
 | true=>
  cases hr:zbb l with
  | none=>
   rw[show zac D l=(D,zae D l) by unfold zac zfv;rw[hv,hr];rfl];exact zvl lo hi a b c d D l s hs w hx E hm hl hv hr
  | some A=>
   rw[show zac D l=((Χ D A).1,okT (Χ D A).2) by unfold zac zfv;rw[hv,hr];rfl];have h:=zty lo hi a b c d D l s hs w hx E hm hl A hv hr;rw[zr4]at h;exact h
theorem zzq(lo hi lo' hi':Nat)(a b c d v:Value)(D:Dsk)(l:List (List UInt8))(w:World)(hx:Θ lo hi w a b c d D)(hh:hi<=w)(hm:D.size<=1048576)(hl:SlT lo' hi' w v l)(k8:hi'<=w)(i6:∀ x∈l,x.length<=2097152)(o4:l.length<=1048576):
  Calls prog 9 #[ο a b c d,v] w (SayR w (zbe D l)):=by
 have HM:=H_ hm;have j7:=H_ i6;unfold Dsk.size at hm;obtain⟨va,vc,rfl,m1,j0⟩:=zi4 hl;unfold maxLen at j0;have⟨w0,a6⟩:=ex_ (((w.alloc (.cells #[a,b,c,d] 31)).alloc (.cells #[(),(),(),()] 31)).alloc (.cells #[] 9));have d6:Below w w w0:=by rw[a6];exact(((B_ _ _).alloc (le_ _) _).alloc (by simp) _).alloc (by simp;omega) _
 have o7:w0=w.heap.size+3:=by rw[a6];simp
 have K1:Q_ (Blk w (.cells #[a,b,c,d] 31) w0):=by
  rw[a6];exact H_ ((κ w _).below (((B_ (w.alloc _).heap.size _).alloc (le_ _) _).alloc (by simp) _) (by simp))
 have K3:Q_ (Blk (w+1) (.cells #[(),(),(),()] 31) w0):=by
  have h:=κ (w.alloc (.cells #[a,b,c,d] 31)) (.cells #[(),(),(),()] 31);rw[μ]at h;have h2:=h.below (ζ ((w.alloc (.cells #[a,b,c,d] 31)).alloc (.cells #[(),(),(),()] 31)) (.cells #[] 9)) (by simp);rw[a6];exact H_ h2
 have a3:Q_ (Ρ (w+2) (w+3) 9 w0 (.slice (q_ (w+2) 0) 0 0) []):=by
  have h:=ς 1 9 ((w.alloc (.cells #[a,b,c,d] 31)).alloc (.cells #[(),(),(),()] 31)) [] 0 (by omega) rfl;rw[μ,μ]at h;rw[a6];exact H_ h
 have HX:=H_ (hx.below d6 hh);have HL:=H_ (zaq hl d6 k8);have HB:=H_ d6;have j9:=H_ a6;clear hx hl d6 a6 i6 ;have⟨dv,i5⟩:=ex_ (φ D);have e4:=H_ i5;clear i5;have⟨d0,d1,d2,d3⟩:=K1.o.c4
 go_enter func9,ntmps9
 go_wp2_with (rw[<-j9.o])
 refine(zfq _ _ a b c d D w0 HX.o (by omega) HM.o).mono ?_;rintro e1 w1 ⟨rfl,a4⟩;rw[<-e4.o];have hs1:=a4.size;replace HB:=HB.tr a4 (by omega);replace K1:=K1.kb a4;replace K3:=K3.kb a4;replace HX:=H_ (HX.o.below a4 (by omega));replace HL:=H_ (zaq HL.o a4 (by omega));replace a3:=H_ (Ρ.below a3.o a4 (by omega));clear a4 d0 d1 d2 d3;have⟨d0,d1,d2,d3⟩:=K1.o.c4;by_cases hc:dv=true/\l.length<=40
 ·obtain⟨rfl,g8⟩:=hc
  have m0:¬(40:Int)<(l.length:Int):=by omega
  have HV:=H_ (e4.o.symm:φ D=true);have HR:=H_ (show zbe D l=zad D l by rw[zbe,x_ ⟨HV.o,g8⟩]);go_wp2_with fail
  obtain⟨hk,l5⟩:=zih HV.o;obtain⟨ma,mc,k7,l8,l9⟩:=HX.o.made.shape;subst k7;refine(zfr _ _ _ _ a b _ d _ D D.made w1 HX.o (by omega) HM.o HX.o.made (by omega) (by omega) hk).mono ?_;rintro e2 w2 ⟨z0,z1,z2,z3,rfl,d7,hb2⟩;rw[zz7 HV.o]at d7;clear hk l5;have hs2:=hb2.size;replace HB:=HB.tr hb2 (by omega);replace K3:=H_ (K3.o.below hb2 (by omega));replace HL:=H_ (zaq HL.o hb2 (by omega));replace a3:=H_ (Ρ.below a3.o hb2 (by omega));obtain⟨x0,y0,x1,y1,x2,y2,x3,y3,e0,e1,e2,e3⟩:=d7.open;subst e0 e1 e2 e3;have d5:=H_ d7;clear hb2 d7 d0 d1 d2 d3;have⟨wo,c7⟩:=xa_ w2 #[.slice x0 D.first y0,.slice x1 D.goal y1,.slice x2 D.made y2,.slice x3 D.now y3] 31;have KO:Q_ (Blk w2 (.cells #[.slice x0 D.first y0,.slice x1 D.goal y1,.slice x2 D.made y2,.slice x3 D.now y3] 31) wo):=by rw[c7];exact H_ (κ w2 _)
  have a9:Below w2 w2 wo:=by rw[c7];exact(B_ _ _).alloc (le_ _) _
  have o8:wo=w2.heap.size+1:=by rw[c7];simp
  have k4:=H_ c7;replace HB:=HB.tr a9 (by omega);replace K3:=H_ (K3.o.below a9 (by omega));replace HL:=H_ (zaq HL.o a9 (by omega));replace d5:=H_ (d5.o.below a9 (le_ _));replace a3:=H_ (Ρ.below a3.o a9 (by omega));clear c7 a9;have m7:w+2<=w2.heap.size:=by omega
  go_wp2_with (rw[<-k4.o])
  go_loopw [6,8] (λn i wr=>∃ (k:Nat) (D':Dsk) (ts:List (List UInt8)) (a' b' c' d':Value) (l2 h2 la ha:Nat),k<=l.length/\i=.int .i64 k/\ts.length=k/\Q_ ((D',ts)=zad D (l.take k)/\Κ l2 h2 wr a' b' c' d' D'/\w.heap.size+2<=l2/\h2<=wr/\Blk w2 (.cells #[a',b',c',d'] 31) wr/\Blk (w+1) (.cells #[(),(),(),()] 31) wr/\Below w w wr/\wo<=wr.heap.size/\SlT lo' hi' wr (.slice va l vc) l/\Ρ la ha 9 wr n ts/\w.heap.size+2<=la/\la<=ha/\ha<=wr/\(ha<=l2\/h2<=la)/\(ha<=w2.heap.size\/w2.heap.size<la))) (λ_ i _=>l.length-(intOf i).toNat)
  case atStart=>
   exact⟨0,D,[],_,_,_,_,_,_,_,_,by omega,rfl,rfl,H_ ⟨rfl,d5.o,by omega,by omega,KO.o,K3.o,HB.o,le_ _,HL.o,a3.o,le_ _,by omega,by omega,by omega,by omega⟩⟩
  case round=>
   rename World=>wr
   clear KO K3 HB HL d5 a3;obtain⟨k,D',ts,a',b',c',d',l2,h2,la,ha,hk,rfl,i9,HQ⟩:=hrel;have HP:=H_ HQ.o.1;have HO:=H_ HQ.o.2.1;have n8:=HQ.o.2.2.1;have m8:=HQ.o.2.2.2.1;have KO:=H_ HQ.o.2.2.2.2.1;have K3:=H_ HQ.o.2.2.2.2.2.1;have HB:=H_ HQ.o.2.2.2.2.2.2.1;have o9:=HQ.o.2.2.2.2.2.2.2.1;have HL:=H_ HQ.o.2.2.2.2.2.2.2.2.1;have HA:=H_ HQ.o.2.2.2.2.2.2.2.2.2.1;have n9:=HQ.o.2.2.2.2.2.2.2.2.2.2.1;have k9:=HQ.o.2.2.2.2.2.2.2.2.2.2.2.1;have m9:=HQ.o.2.2.2.2.2.2.2.2.2.2.2.2.1;have m5:=HQ.o.2.2.2.2.2.2.2.2.2.2.2.2.2.1;have m6:=HQ.o.2.2.2.2.2.2.2.2.2.2.2.2.2.2;clear HQ;have g6:=H_ i9;have p2:ts.length<=40:=by omega
   clear i9;have i7:=HB.o.size;obtain⟨n0,n1,n2,n3,n4,n5,n6,n7,e0,e1,e2,e3⟩:=HO.o.open;subst e0 e1 e2 e3;obtain⟨ta,tc,l0⟩:=η HA.o;subst l0;have j8:=H_ (show φ D'=true by have h:=zid HV.o (l.take k);rw[<-HP.o] at h;exact h);have o6:=zkl j8.o;by_cases hlt:k<l.length
   ·(obtain⟨bb,off,rfl,_,m2,k6,g0⟩:=zf5 HL.o k hlt);(have f6:=j7.o _ (u_ hlt);have⟨ln,f7⟩:=ex_ (l[k]);rw[<-f7]at g0 f6;have g5:=H_ (show zck (D',ts) ln=zad D (l.take (k+1)) by rw[f7,zq6 D l k hlt,<-HP.o]);clear f7;have⟨X,hX⟩:=ex_ ((zac D' ln).1);have⟨t,ht⟩:=ex_ ((zac D' ln).2);have d4:=H_ (λwx (ho:Θ l2 h2 wx (.slice n0 D'.first n1) (.slice n2 D'.goal n3) (.slice n4 D'.made n5) (.slice n6 D'.now n7) D') (hh:h2<=wx)=>zwc _ _ _ _ _ _ D' ln _ rfl wx ho hh (by omega) f6);rw[<-hX,<-ht]at d4;have d9:=H_ (show (X,ts++[t])=zad D (l.take (k+1)) by rw[<-g5.o,zck,hX,ht]);clear hX ht g5 f6;go_wp2_with fail);(have o5:=KO.o.lt;have b5:Below wr wr wr.drew:=z_ (B_ _ _);have b6:Below wr wr (wr.alloc (.cells #[(),(),(),()] 31)).drew:=z_ ((B_ _ _).alloc (le_ _) _);have m3:wr.drew.heap.size=wr.heap.size:=rfl;have m4:(wr.alloc (.cells #[(),(),(),()] 31)).drew.heap.size=wr.heap.size+1:=by show (wr.alloc _).heap.size=_;simp);(have e7:Q_ (Blk wr (.cells #[(),(),(),()] 31) (wr.alloc (.cells #[(),(),(),()] 31)).drew):=H_ (κ wr _);have e5:=H_ (HO.o.below b5 (by omega));have e6:=H_ (HO.o.below b6 (by omega));have b7:∀ w',Below wr wr w'->w'.cell? (p_ w2 0)=some (.slice n0 D'.first n1)/\w'.cell? (p_ w2 1)=some (.slice n2 D'.goal n3)/\w'.cell? (p_ w2 2)=some (.slice n4 D'.made n5)/\w'.cell? (p_ w2 3)=some (.slice n6 D'.now n7)/\w'.cell? (p_ bb (off+k))=some (.string ⟨ln.toArray⟩):=λw' hb=>⟨(KO.o.below hb (by omega)).cell 0,(KO.o.below hb (by omega)).cell 1,(KO.o.below hb (by omega)).cell 2,(KO.o.below hb (by omega)).cell 3,(hb.cell (p:=p_ bb _) k6).trans g0⟩);(have hS:=b7 wr (B_ _ _);have h7:=b7 _ b5;have h8:=b7 _ b6;have a7:=H_ b7;clear b7)
    go_region_held3 (λw'=>w'.cell? (p_ w2 0)=some (.slice n0 D'.first n1)/\w'.cell? (p_ w2 1)=some (.slice n2 D'.goal n3)/\w'.cell? (p_ w2 2)=some (.slice n4 D'.made n5)/\w'.cell? (p_ w2 3)=some (.slice n6 D'.now n7)/\w'.cell? (p_ bb (off+k))=some (.string ⟨ln.toArray⟩)) (first | with_reducible assumption | go_keep) (first
     | (go_at_call 21;refine(d4.o _ (by first | exact e5.o.at | exact e6.o.at) (by omega)).mono ?_;rintro e3 w3 ⟨u0,u1,u2,u3,_,rfl,rfl,e9,b4⟩;obtain⟨z0,z1,z2,z3,z4,z5,z6,z7,i0,i1,i2,i3⟩:=e9.open;subst i0 i1 i2 i3;(have p3:=b4.size);(have b0:Below wr wr w3:=by first | exact b5.trans (b4.mono (by omega)) | exact b6.trans (b4.mono (by omega)));(have g9:=a7.o _ b0);(try (have a2:=e7.o.below b4 (by omega);have c0:=a2.cell 0;have c1:=a2.cell 1;have c2:=a2.cell 2;have c3:=a2.cell 3;have f0:=a2.free 0;have f1:=a2.free 1;have f2:=a2.free 2;have f3:=a2.free 3;have g7:=H_ a2;clear a2;have k5:=a7.o _ (ε b0 (β.set4 wr w3 (.slice z0 X.first z1) (.slice z2 X.goal z3) (.slice z4 X.made z5) (.slice z6 X.now z7)) (le_ _) (by omega))));(have a8:=H_ e9);(have h9:=a7.o _ (b0.alloc (by omega) (.cells #[.slice z0 X.first z1,.slice z2 X.goal z3,.slice z4 X.made z5,.slice z6 X.now z7] 31)));(have i4:=a7.o _ (b0.alloc (by omega) (.cells #[(),(),(),()] 31)));(have c9:=H_ b0);clear b4 e9 b0))
    ·clear h7 h8 e7 e5 e6 b5 b6 d4
     clear hS g0 a7;have⟨wn,a1⟩:=xa_ w3 #[.slice z0 X.first z1,.slice z2 X.goal z3,.slice z4 X.made z5,.slice z6 X.now z7] 31;simp only[<-a1];have l6:=c9.o.size;have e8:Below w3 w3 wn:=by rw[a1];exact(B_ _ _).alloc (le_ _) _
     (have l7:wn=w3.heap.size+1:=by rw[a1];simp);(have KN:Q_ (Blk w3 (.cells #[.slice z0 X.first z1,.slice z2 X.goal z3,.slice z4 X.made z5,.slice z6 X.now z7] 31) wn):=by rw[a1];exact H_ (κ w3 _));(have U:=c9.o.trans (e8.mono (by omega));replace HB:=HB.tr U (by omega);replace KO:=H_ (KO.o.below U (by omega));replace K3:=H_ (K3.o.below U (by omega));replace HL:=H_ (zaq HL.o U (by omega));replace HA:=H_ (Ρ.below HA.o U (by omega));replace a8:=H_ ((a8.o.below e8 (by omega)).wide (show wr.heap.size<=_ by omega) (le_ _));clear e8 U g9 h9 i4 HO;clear a1;have⟨f8,f9,g2,g3⟩:=KN.o.c4;have⟨f0,f1,f2,f3⟩:=KO.o.f4;have⟨c0,c1,c2,c3⟩:=KO.o.c4;have⟨wz,hwz⟩:=x4_ wn w2 (.slice z0 X.first z1) (.slice z2 X.goal z3) (.slice z4 X.made z5) (.slice z6 X.now z7);have KZ:=KO.o.set4 (.slice z0 X.first z1) (.slice z2 X.goal z3) (.slice z4 X.made z5) (.slice z6 X.now z7);have J:=β.set4 (w2.heap.size) wn (.slice z0 X.first z1) (.slice z2 X.goal z3) (.slice z4 X.made z5) (.slice z6 X.now z7);rw[<-hwz]at KZ J;have i8:=J.size;have HZ:=H_ (ε HB.o J (by omega) (by omega));have a5:=H_ KZ;have b1:=H_ (Ρ.outside HA.o J (by omega));have b2:=H_ (ze3 HL.o J (.inl (by omega)));have b3:=H_ (K3.o.outside J (.inl (by omega)));have Z:=H_ (a8.o.outside J (.inr (by omega)));clear KZ J;go_upto_region 10 with fail);simp only[<-hwz];clear hwz f8 f9 g2 g3 f0 f1 f2 f3 c0 c1 c2 c3;go_wp2_with (at_builtin;refine zhw wz rfl _ _ 26 rfl 9 (.string ⟨#[]⟩) 1 16 underlying26 zce rfl (by decide) (by decide) rfl b1.o 1 [.string ⟨t.toArray⟩] rfl rfl (by intro u hu;simp only[k_] at hu;subst hu;rfl) rfl (by omega) (by omega) ?_)
     intro v9 w9 c8 b8 I b9 E;have c6:=E.size;obtain⟨y9,g4,f5⟩:=η I;subst f5;have K:=H_ (show Κ wr w3 w9 (.slice z0 X.first z1) (.slice z2 X.goal z3) (.slice z4 X.made z5) (.slice z6 X.now z7) X/\Blk w2 (.cells #[.slice z0 X.first z1,.slice z2 X.goal z3,.slice z4 X.made z5,.slice z6 X.now z7] 31) w9/\Blk (w+1) (.cells #[(),(),(),()] 31) w9/\Below w w w9/\SlT lo' hi' w9 (.slice (q_ bb off) l vc) l/\Ρ c8 b8 9 w9 (.slice y9 (ts.length+1) g4) (ts++[t]) from ⟨Z.o.outside E (by omega),a5.o.outside E (by omega),b3.o.outside E (by omega),ε HZ.o E (by omega) (by omega),ze3 b2.o E (.inl (by omega)),by have h_:=I;show Own 1 _ _ _ _ _ (ts++[t]).length _;rw[n_,zek];exact h_⟩);have j6:wz<=w9.heap.size:=c6;clear I E Z a5 b3 HZ b2 b1;go_wp2;go_roundw
     case rel=>
      exact⟨k+1,X,ts++[t],_,_,_,_,_,_,c8,b8,by omega,by go_num,by rw[n_,g6.o];rfl,H_ ⟨d9.o,K.o.1,by omega,by omega,K.o.2.1,K.o.2.2.1,K.o.2.2.2.1,by omega,K.o.2.2.2.2.1,K.o.2.2.2.2.2,by omega,by omega,by omega,by omega,by omega⟩⟩
     case measure=>simp[intOf];omega
    ·clear h7 h8 e7 e5 e6 b5 b6 d4
     clear hS g0 a7;have⟨wn,a1⟩:=x4_ w3 wr (.slice z0 X.first z1) (.slice z2 X.goal z3) (.slice z4 X.made z5) (.slice z6 X.now z7);simp only[<-a1];have l6:=c9.o.size;have d8:β wr (wr+1) w3 wn:=by rw[a1];exact β.set4 _ _ _ _ _ _
     (have l7:=d8.size;have KN:Q_ (Blk wr (.cells #[.slice z0 X.first z1,.slice z2 X.goal z3,.slice z4 X.made z5,.slice z6 X.now z7] 31) wn):=by rw[a1];exact H_ (g7.o.set4 _ _ _ _));(have U:Below wr wr wn:=ε c9.o d8 (le_ _) (by omega);replace HB:=HB.tr U (by omega);replace KO:=H_ (KO.o.below U (by omega));replace K3:=H_ (K3.o.below U (by omega));replace HL:=H_ (zaq HL.o U (by omega));replace HA:=H_ (Ρ.below HA.o U (by omega));replace a8:=H_ ((a8.o.outside d8 (.inr (by omega))).wide (show wr.heap.size<=_ by omega) (le_ _));clear d8 U g9 h9 i4 k5 c0 c1 c2 c3 f0 f1 f2 f3 g7 HO;clear a1;have⟨f8,f9,g2,g3⟩:=KN.o.c4;have⟨f0,f1,f2,f3⟩:=KO.o.f4;have⟨c0,c1,c2,c3⟩:=KO.o.c4;have⟨wz,hwz⟩:=x4_ wn w2 (.slice z0 X.first z1) (.slice z2 X.goal z3) (.slice z4 X.made z5) (.slice z6 X.now z7);have KZ:=KO.o.set4 (.slice z0 X.first z1) (.slice z2 X.goal z3) (.slice z4 X.made z5) (.slice z6 X.now z7);have J:=β.set4 (w2.heap.size) wn (.slice z0 X.first z1) (.slice z2 X.goal z3) (.slice z4 X.made z5) (.slice z6 X.now z7);rw[<-hwz]at KZ J;have i8:=J.size;have HZ:=H_ (ε HB.o J (by omega) (by omega));have a5:=H_ KZ;have b1:=H_ (Ρ.outside HA.o J (by omega));have b2:=H_ (ze3 HL.o J (.inl (by omega)));have b3:=H_ (K3.o.outside J (.inl (by omega)));have Z:=H_ (a8.o.outside J (.inr (by omega)));clear KZ J;go_upto_region 10 with fail);simp only[<-hwz];clear hwz f8 f9 g2 g3 f0 f1 f2 f3 c0 c1 c2 c3;go_wp2_with (at_builtin;refine zhw wz rfl _ _ 26 rfl 9 (.string ⟨#[]⟩) 1 16 underlying26 zce rfl (by decide) (by decide) rfl b1.o 1 [.string ⟨t.toArray⟩] rfl rfl (by intro u hu;simp only[k_] at hu;subst hu;rfl) rfl (by omega) (by omega) ?_)
     intro v9 w9 c8 b8 I b9 E;have c6:=E.size;obtain⟨y9,g4,f5⟩:=η I;subst f5;have K:=H_ (show Κ wr w3 w9 (.slice z0 X.first z1) (.slice z2 X.goal z3) (.slice z4 X.made z5) (.slice z6 X.now z7) X/\Blk w2 (.cells #[.slice z0 X.first z1,.slice z2 X.goal z3,.slice z4 X.made z5,.slice z6 X.now z7] 31) w9/\Blk (w+1) (.cells #[(),(),(),()] 31) w9/\Below w w w9/\SlT lo' hi' w9 (.slice (q_ bb off) l vc) l/\Ρ c8 b8 9 w9 (.slice y9 (ts.length+1) g4) (ts++[t]) from ⟨Z.o.outside E (by omega),a5.o.outside E (by omega),b3.o.outside E (by omega),ε HZ.o E (by omega) (by omega),ze3 b2.o E (.inl (by omega)),by have h_:=I;show Own 1 _ _ _ _ _ (ts++[t]).length _;rw[n_,zek];exact h_⟩);have j6:wz<=w9.heap.size:=c6;clear I E Z a5 b3 HZ b2 b1;go_wp2;go_roundw
     case rel=>
      exact⟨k+1,X,ts++[t],_,_,_,_,_,_,c8,b8,by omega,by go_num,by rw[n_,g6.o];rfl,H_ ⟨d9.o,K.o.1,by omega,by omega,K.o.2.1,K.o.2.2.1,K.o.2.2.2.1,by omega,K.o.2.2.2.2.1,K.o.2.2.2.2.2,by omega,by omega,by omega,by omega,by omega⟩⟩
     case measure=>simp[intOf];omega
   ·(obtain rfl:k=l.length:=by omega);have HD:=H_ (show zbe D l=(D',ts) by rw[HR.o,HP.o,ay_ (le_ _)]);have⟨o0,o1,o2,o3⟩:=KO.o.c4;clear hlt;have⟨f0,f1,f2,f3⟩:=K3.o.f4;have⟨c0,c1,c2,c3⟩:=K3.o.c4;have⟨wz,hwz⟩:=x4_ wr (w+1) (.slice n0 D'.first n1) (.slice n2 D'.goal n3) (.slice n4 D'.made n5) (.slice n6 D'.now n7);have KZ:=K3.o.set4 (.slice n0 D'.first n1) (.slice n2 D'.goal n3) (.slice n4 D'.made n5) (.slice n6 D'.now n7);have J:=β.set4 (w+1) wr (.slice n0 D'.first n1) (.slice n2 D'.goal n3) (.slice n4 D'.made n5) (.slice n6 D'.now n7);rw[<-hwz]at KZ J;have i7:=J.size;have HZ:=H_ (ε HB.o J (by omega) (by omega));have Z:=H_ J;obtain⟨q0,q1,q2,q3⟩:=KZ.c4;have a5:=H_ KZ;clear KZ J;go_wp2;simp only[<-hwz];clear hwz;refine d_ (v:=.tuple #[ο (.slice n0 D'.first n1) (.slice n2 D'.goal n3) (.slice n4 D'.made n5) (.slice n6 D'.now n7),.slice ta ts tc]) (by simp[results,results9,go_sem,q0,q1,q2,q3]) rfl ⟨_,_,_,_,_,rfl,?_⟩;rw[HD.o];exact⟨l2,h2,la,ha,HO.o.outside Z.o (.inr (by omega)),Ρ.outside HA.o Z.o (by omega),by omega,by omega,by omega,by omega,by omega,HO.o.le,k9,HZ.o⟩
 ·have HD:=H_ (show zbe D l=(Dsk.none,[]) by rw[zbe,m_ (by rw[<-e4.o];exact hc)])
  have hcs:dv=false\/dv=true/\(40:Int)<(l.length:Int):=by
   cases dv
   ·exact .inl rfl
   ·exact .inr ⟨rfl,by simp at hc;omega⟩
  clear hc;rcases hcs with rfl|⟨rfl,g8⟩
  all_goals (
   have⟨f0,f1,f2,f3⟩:=K3.o.f4;have⟨c0,c1,c2,c3⟩:=K3.o.c4;have⟨wz,hwz⟩:=x4_ w1 (w+1) () () () ();have KZ:=K3.o.set4 () () () ();have J:=β.set4 (w+1) w1 () () () ();rw[<-hwz]at KZ J;have i7:=J.size;have HZ:=H_ (ε HB.o J (by omega) (by omega));have Z:=H_ J;obtain⟨q0,q1,q2,q3⟩:=KZ.c4;have a5:=H_ KZ;clear KZ J;go_wp2;simp only[<-hwz];clear hwz;refine d_ (v:=.tuple #[ο () () () (),.slice (q_ (w+2) 0) 0 0]) (by simp[results,results9,go_sem,q0,q1,q2,q3]) rfl ⟨_,_,_,_,_,rfl,?_⟩;rw[HD.o];exact⟨w,w.heap.size,_,_,Κ.nils w w (le_ _) _,Ρ.outside a3.o Z.o (by omega),le_ _,HZ.o.size,by omega,by omega,by omega,le_ _,by omega,HZ.o⟩
)
theorem zq1:∀ (ms:List Nat) (k i:Nat),(∀ m∈ms,m<12)->k<4->i%2=0->zdj i (ms.flatMap (λm=>[((m/3:Nat):Int),16+((m%3:Nat):Int)])++[((k:Nat):Int)])=true
 | [],k,i,_,hk,hi=>by
  simp only[List.flatMap_nil,ad_,zdj,zcy,hi,d6_,ze9,Bool.and_true,j_,t_];omega
 | m :: r,k,i,hm,hk,hi=>by
  have h:=hm m (by simp);have E:=zq1 r k (i+1+1) (λx hx=>hm x (by simp[hx])) hk (by omega);simp only[da_,aj_,ad_,zdj,E,Bool.and_true,j_]
  constructor
  ·simp only[zcy,hi,d6_,ze9,j_,t_]
   omega
  ·rw[zcy,m_ (by omega)]
   simp only[zal,j_,t_];omega
theorem zxw(ms:List Nat):(ms.flatMap (λm=>[((m/3:Nat):Int),16+((m%3:Nat):Int)])).length=2*ms.length:=by
 induction ms with
 | nil=>rfl
 | cons m r E=>simp only[da_,n_,I_,an_,E];omega
def WyN(n:Nat)(w:Way2):Prop:=∃ ms:List Nat,(∀ m∈ms,m<12)/\ms.length=n/\w.2=ms.flatMap (λm=>[((m/3:Nat):Int),16+((m%3:Nat):Int)])
theorem zrt {a b:Au} {w:Way2}(hw:WyN n w){s:List (Nat × Nat) × List Way2}(hs:∀ x∈s.2,WyN (n+1) x):∀ k,k<=12->∀ x∈(goW a b w s k).2,WyN (n+1) x
 | 0,_=>hs
 | k+1,hk=>by
  have E:=zrt (a:=a) (b:=b) hw hs k (by omega);intro x hx;unfold goW at hx
  split at hx
  ·exact E x hx
  ·rcases E_.1 hx with hx|hx
   ·exact E x hx
   ·simp only[k_]at hx
    subst hx;obtain⟨ms,h1,h2,h3⟩:=hw;refine⟨ms++[k],λm hm=>?_,by simp[h2],?_⟩
    ·rcases E_.1 hm with hm|hm
     ·exact h1 m hm
     ·simp only[k_]at hm;omega
    ·simp only[List.flatMap_append,da_,List.flatMap_nil,cx_,h3]
theorem zo4 {a b:Au}:∀ (l:List Way2),(∀ x∈l,WyN n x)->∀ s:List (Nat × Nat) × List Way2,(∀ x∈s.2,WyN (n+1) x)->∀ x∈(goL a b s l).2,WyN (n+1) x
 | [],_,_,hs=>hs
 | w :: r,hl,s,hs=>by
  intro x hx;rw[goL]at hx;exact zo4 r (λx hx=>hl x (by simp[hx])) _ (zrt (hl w (by simp)) hs 12 (le_ _)) x hx
theorem zq7 {a b:Au}:∀ (l:List Way2),(∀ x∈l,WyN n x)->hitL a b l=some t->∃ w k,WyN n w/\k<4/\t=w.2++[((k:Nat):Int)]
 | [],_,h=>by cases h
 | w :: r,hl,h=>by
  unfold hitL at h
  split at h
  ·rename_i t' ht
   unfold hitW at ht;obtain⟨k,hk,E⟩:=W_.1 ht;obtain⟨h1,h2⟩:=lowBit_some hk;injection h with h;exact⟨w,k,hl w (by simp),h1,by rw[<-h,<-E]⟩
  ·exact zq7 r (λx hx=>hl x (by simp[hx])) h
theorem zny {a b:Au}:∀ (f n:Nat) (seen:List (Nat × Nat)) (l:List Way2),f+n=21->(∀ x∈l,WyN n x)->levGo a b f seen l=some t->zbd t=true
 | 0,_,_,_,_,_,h=>by cases h
 | f+1,n,seen,l,hfn,hl,h=>by
  unfold levGo at h
  split at h
  ·rename_i t' ht
   injection h with h;subst h;obtain⟨w,k,⟨ms,E,J,I⟩,hk,rfl⟩:=zq7 l hl ht;have h1:=zq1 ms k 0 E hk rfl;have h2:=zxw ms;rw[I,zbd,h1,n_,h2];simp only[I_,an_,Bool.and_true,j_,t_];omega
  ·exact zny f (n+1) _ _ (by omega) (zo4 l hl (seen,[]) (λx hx=>by cases hx)) h
theorem zvk {f:List Int}(h:differV e f=some t):zbd t=true:=by
 unfold differV at h
 split at h
 ·refine zny 21 0 _ _ rfl (λx hx=>?_) h
  simp only[k_]at hx;subst hx;exact⟨[],by simp,rfl,rfl⟩
 ·cases h
theorem zxc(e f:List Int):zhf (differV e f)≠[]:=by
 cases h:differV e f with
 | none=>simp[zhf,zgq]
 | some t=>
  have ht:=zvk h
  have hl:t.length%2=1:=by
   unfold zbd at ht;simp only[j_,t_]at ht;exact ht.1.1
  intro hn;rw[zhf,zew,x_ ht]at hn;have:=congrArg List.length hn;rw[z0x,an_]at this;omega
theorem zo8(t:Nat):Υ t≠[]:=by
 unfold Υ
 split
 ·rename_i s hs
  unfold zej at hs
  split at hs<;>first | (injection hs with hs;subst hs;simp;done) | cases hs
 ·simp
theorem z0h(t:KT):∀ k,ψ t k≠[]:=by
 intro k;cases t with
 | leaf n=>
  rw[zkj]
  split
  ·exact zo8 _
  ·simp
 | star t=>rw[zjf];simp
 | bin p a b=>
  by_cases hc:(if p then 1 else 2)<k
  ·rw[ψ,x_ hc];simp
  ·rw[ψ,m_ hc];simp
theorem zna(h:ν e=true):zbr e≠[]:=by
 rw[zbr,x_ h];exact z0h _ _
theorem zs8(ms:List Mv):∀ s:List UInt8,s≠[]->ms.foldl (λs x=>s++44 :: Β x) s≠[]:=by
 induction ms with
 | nil=>intro s h;exact h
 | cons m r E=>intro s h;exact E _ (by simp)
theorem ztk {x:List Int} {m:Mv}(h:Ψ e m=some x):Β m≠[]:=by
 obtain⟨h1,h2,h3,_⟩:=zsl h;have hl:=(zcb h1).2
 have hk:za5 m=true:=by
  simp only[isR,inB,j_,t_]at h2 h3;simp only[za5,j_,t_];omega
 rw[Β,x_ hk];cases m.back<;>simp
theorem zvh(h:φ D=true):zcr D.made≠[]:=by
 obtain⟨_,_,_,_,E⟩:=zbu h;cases hm:D.made with
 | nil=>simp[zcr,zgq]
 | cons m r=>
  rw[hm,υ]at E
  split at E
  ·rw[zay]at E
   obtain⟨x,hx,_⟩:=M_.1 E;exact zs8 r _ (ztk hx)
  ·cases E
theorem z0u(n:Nat):Ε n≠[]:=λh=>by have:=zvd n;rw[h] at this;simp at this
theorem zxp(h:φ D=true)(l:List UInt8):zae D l≠[]:=by
 obtain⟨p1,E,I,J⟩:=zbu h;unfold zae
 split
 ·exact zna I
 split
 ·exact zna p1
 split
 ·exact zna E
 split
 ·exact z0u _
 split
 ·split<;>simp[zdp,noT]
 split
 ·unfold eqT
  split
  ·simp[zdp]
  ·split<;>simp[noT,zjq]
 split
 ·exact zo8 _
 split
 ·exact zxc _ _
 split
 ·exact zvh h
 ·simp[zjz]
theorem zvp(h:φ D=true)(l:List UInt8):(zac D l).2≠[]:=by
 unfold zac zfv;rw[h];simp only[d6_];cases zbb l with
 | none=>exact zxp h l
 | some A=>simp only[okT];split<;>simp
theorem z1j(h:φ D=true)(ls:List (List UInt8)):∀ k (hk:k<(zad D ls).2.length),(zad D ls).2[k]≠[]:=by
 have E:∀ (ls:List (List UInt8)) (p:Dsk × List (List UInt8)),φ p.1=true->(∀ x∈p.2,x≠[])->∀ x∈(ls.foldl zck p).2,x≠[]:=by
  intro ls
  induction ls with
  | nil=>intro p _ hp;exact hp
  | cons l r I=>
   intro p hv hp;refine I (zck p l) (zoe l hv) λx hx=>?_
   rcases E_.1 hx with hx|hx
   ·exact hp x hx
   ·simp only[k_]at hx
    rw[hx];exact zvp hv l
 intro k hk;exact E ls (D,[]) h (by simp) _ (u_ hk)
end Go.Proofs.YtfnnhimopokpnaaGreatDoor
