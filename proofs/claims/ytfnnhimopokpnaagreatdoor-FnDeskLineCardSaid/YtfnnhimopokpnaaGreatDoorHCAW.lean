/- Lemmas for this seat; no condition. -/
import Derived.Test.YtfnnhimopokpnaaGreatDoorHCAV
namespace Go.Proofs.YtfnnhimopokpnaaGreatDoor
open Go.RowKit Proofs.Tryz
set_option maxRecDepth 100000
set_option maxHeartbeats 0
set_option linter.all false
variable {sign m:Nat}
theorem z2f(lo hi:Nat)(a b c d:Value)(D:Dsk)(l:List UInt8)(s:ByteArray)(hs:s=⟨l.toArray⟩)(w:World)(hx:Ι lo hi w a b c d D)(hh:hi<=w)(hm:D.size<=1048576)(hl:l.length<=2097152)(hv:Θ D=true)(hr:zba l=none):
  Calls prog 21 #[π a b c d,.string s] w (zfj λa' b' c' d' s' w'=>s'=⟨(zao D l).toArray⟩/\Υ w w' w' a' b' c' d' D/\Below w w w'):=by
 subst hs;have HM:=H_ hm;by_cases hne:l=[101,113,117,97,108]
 ·exact zzn lo hi a b c d D l _ rfl w hx hh hm hl hv hr hne
 have HNE:=H_ hne;clear hne;have⟨w0,hw0⟩:=ex_ ((w.alloc (.cells #[a,b,c,d] 31)).alloc (.cells #[(),(),(),()] 31));have hb0:Below w w w0:=by rw[hw0];exact((B_ _ _).alloc (le_ _) _).alloc (by simp) _
 have hs0:w0=w.heap.size+2:=by rw[hw0];simp
 have K1:Q_ (Blk w (.cells #[a,b,c,d] 31) w0):=by
  rw[hw0];exact H_ ((κ w _).below ((B_ (w.alloc _).heap.size _).alloc (le_ _) _) (by simp))
 have K3:Q_ (Blk (w+1) (.cells #[(),(),(),()] 31) w0):=by
  have h:=κ (w.alloc (.cells #[a,b,c,d] 31)) (.cells #[(),(),(),()] 31);rw[ν]at h;rw[hw0];exact H_ h
 have HX:=H_ (hx.below hb0 hh);have HB:=H_ hb0;have HW0:=H_ hw0;have HV:=H_ hv;have HRA:=H_ hr;clear hx hb0 hw0 hv hr;have⟨d0,d1,d2,d3⟩:=K1.o.c4
 go_enter func21,ntmps21
 go_wp2_with (rw[<-HW0.o])
 refine(zge _ _ a b c d D w0 HX.o (by omega) HM.o).mono ?_;rintro e1 w1 ⟨rfl,hb1⟩;rw[HV.o];have hs1:=hb1.size;replace HB:=HB.tr hb1 (by omega);replace K1:=K1.kb hb1;replace K3:=K3.kb hb1;replace HX:=H_ (HX.o.below hb1 (by omega));clear hb1 d0 d1 d2 d3;have hk:=zi1 HV.o;have HW:=H_ (zgr _ _ _ _ a b c d c D D.made w1 HX.o (by omega) HM.o HX.o.made (by omega) (by have:=HM.o;unfold Dsk.size at this;omega) hk.1);rw[hk.2,ac_]at HW;have hmade:=(zch HV.o).2.2.2.1;have⟨d0,d1,d2,d3⟩:=K1.o.c4;clear hk;go_wp2_with fail
 refine HW.o.mono ?_;rintro e2 w2 ⟨x0,x1,x2,x3,rfl,o_,hb2⟩;obtain⟨z0,z1,z2,z3,z4,z5,z6,z7,i0,i1,i2,i3⟩:=o_.open;subst i0 i1 i2 i3;have hs2:=hb2.size;replace HB:=HB.tr hb2 (by omega);replace K1:=K1.kb hb2;replace K3:=K3.kb hb2;replace HX:=H_ (HX.o.below hb2 (by omega));have O6:=H_ (show Υ w1 w2 w2 (.slice z0 D.first z1) (.slice z2 D.goal z3) (.slice z4 D.made z5) (.slice z6 D.now z7) D from o_);clear hb2 o_ HW d0 d1 d2 d3;have⟨w3,hw3⟩:=xa_ w2 #[.slice z0 D.first z1,.slice z2 D.goal z3,.slice z4 D.made z5,.slice z6 D.now z7] 31;obtain⟨hb3,K6_,hs3⟩:=Μ hw3;have K6:=H_ K6_;replace HB:=HB.tr hb3 (by omega);replace K1:=K1.kb hb3;replace K3:=K3.kb hb3;replace HX:=H_ (HX.o.below hb3 (by omega));replace O6:=H_ (O6.o.below hb3 (le_ _));have HW3:=H_ hw3;clear hb3 K6_ hw3;go_wp2_with (rw[<-HW3.o])
 refine(zl8 l _ rfl w3 hl).mono ?_;rintro e4 w4 ⟨rfl,hb4⟩;have hs4:=hb4.size;replace HB:=HB.tr hb4 (by omega);replace HX:=H_ (HX.o.below hb4 (by omega));replace O6:=H_ (O6.o.below hb4 (by omega));replace K1:=K1.kb hb4;replace K3:=K3.kb hb4;replace K6:=K6.kb hb4;clear hb4 HW3;rw[HRA.o,zhe];have⟨w5,hw5⟩:=xa_ w4 #[(0:Int),(0:Int),.bool false,(0:Int),(0:Int)] 69;obtain⟨hb5,KA_,hs5⟩:=Μ hw5;replace HB:=HB.tr hb5 (by omega);replace HX:=H_ (HX.o.below hb5 (by omega));replace O6:=H_ (O6.o.below hb5 (by omega));replace K1:=K1.kb hb5;replace K3:=K3.kb hb5;replace K6:=K6.kb hb5;clear hb5 KA_ HRA;unfold Dsk.size at hm;go_upto_region 10 with fail
 simp only[<-hw5];clear hw5;rcases zpb l with rfl|rfl|rfl|rfl|rfl|rfl|rfl|rfl|rfl|hq
 ·skip
  have hgs:∀ w',Below w5 w5 w'->w'.cell? (p_ w2 0)=some (.slice z0 D.first z1)/\w'.cell? (p_ w2 1)=some (.slice z2 D.goal z3)/\w'.cell? (p_ w2 2)=some (.slice z4 D.made z5)/\w'.cell? (p_ w2 3)=some (.slice z6 D.now z7)/\w'.cell? (p_ w 0)=some a/\w'.cell? (p_ w 1)=some b/\w'.cell? (p_ w 2)=some c/\w'.cell? (p_ w 3)=some d:=λw' hb=>⟨(K6.o.below hb K6.o.lt).cell 0,(K6.o.below hb K6.o.lt).cell 1,(K6.o.below hb K6.o.lt).cell 2,(K6.o.below hb K6.o.lt).cell 3,(K1.o.below hb K1.o.lt).cell 0,(K1.o.below hb K1.o.lt).cell 1,(K1.o.below hb K1.o.lt).cell 2,(K1.o.below hb K1.o.lt).cell 3⟩
  have hbA:Below w5 w5 w5.drew:=z_ (B_ _ _);have hS:=hgs w5 (B_ _ _);have hSA:=hgs _ hbA;have HGS:=H_ hgs;have hdz:w5.drew.heap.size=w5.heap.size:=rfl;have HXd:=H_ (HX.o.below hbA (by omega));clear hgs;go_upto_region 11 with fail
  go_region_held3 (λw'=>w'.cell? (p_ w2 0)=some (.slice z0 D.first z1)/\w'.cell? (p_ w2 1)=some (.slice z2 D.goal z3)/\w'.cell? (p_ w2 2)=some (.slice z4 D.made z5)/\w'.cell? (p_ w2 3)=some (.slice z6 D.now z7)/\w'.cell? (p_ w 0)=some a/\w'.cell? (p_ w 1)=some b/\w'.cell? (p_ w 2)=some c/\w'.cell? (p_ w 3)=some d) (first | with_reducible assumption | go_keep) (first
   | (go_at_call 53;refine(zln _ _ _ D.now w5.drew HXd.o.now (by omega) (by omega)).mono ?_;rintro e7 w7 ⟨rfl,hb_⟩;(have hs7:=hb_.size);(have hb7:=hbA.trans (hb_.mono (by omega)));(have hS7:=HGS.o _ hb7);(have k3:=K3.o.below hb7 K3.o.lt);(obtain⟨c0,c1,c2,c3⟩:=k3.c4);(obtain⟨f0,f1,f2,f3⟩:=k3.f4);(have KM:=H_ k3);(have hO_:=β.set4 (w+1) w7 (.slice z0 D.first z1) (.slice z2 D.goal z3) (.slice z4 D.made z5) (.slice z6 D.now z7));(have k6_:=(K6.o.below hb7 K6.o.lt).outside hO_ (.inr (by omega)));(have k1_:=(K1.o.below hb7 K1.o.lt).outside hO_ (.inl (by omega)));(obtain⟨j0,j1,j2,j3⟩:=k6_.c4);(obtain⟨j4,j5,j6,j7⟩:=k1_.c4);(have HB7:=H_ hb7);clear hb_ hb7 k3 hO_ k6_ k1_))
  replace HB:=HB.tr HB7.o (by omega);replace K3:=KM;replace O6:=H_ (O6.o.below HB7.o (by omega));clear HGS hS hSA hS7 hbA KM;have⟨wz,hwz⟩:=x4_ w7 (w+1) (.slice z0 D.first z1) (.slice z2 D.goal z3) (.slice z4 D.made z5) (.slice z6 D.now z7);have KZ:=K3.o.set4 (.slice z0 D.first z1) (.slice z2 D.goal z3) (.slice z4 D.made z5) (.slice z6 D.now z7);have hO:=β.set4 (w+1) w7 (.slice z0 D.first z1) (.slice z2 D.goal z3) (.slice z4 D.made z5) (.slice z6 D.now z7);rw[<-hwz]at KZ hO;have hsz:=hO.size;have HZ:=H_ (δ HB.o hO (by omega) (by omega));have OZ:=H_ (O6.o.outside hO (.inr (by omega)));obtain⟨q0,q1,q2,q3⟩:=KZ.c4;clear KZ hO;simp only[<-hwz];clear hwz;clear c0 c1 c2 c3 f0 f1 f2 f3 j0 j1 j2 j3 j4 j5 j6 j7;go_wp2;refine d_ (v:=.tuple #[π (.slice z0 D.first z1) (.slice z2 D.goal z3) (.slice z4 D.made z5) (.slice z6 D.now z7),.string ⟨(za7 D.now).toArray⟩]) (by simp[results,results21,go_sem,q0,q1,q2,q3]) rfl ⟨_,_,_,_,_,rfl,by rw[zmz],?_,HZ.o⟩;exact OZ.o.wide (by omega) (by omega)
 ·skip
  have hgs:∀ w',Below w5 w5 w'->w'.cell? (p_ w2 0)=some (.slice z0 D.first z1)/\w'.cell? (p_ w2 1)=some (.slice z2 D.goal z3)/\w'.cell? (p_ w2 2)=some (.slice z4 D.made z5)/\w'.cell? (p_ w2 3)=some (.slice z6 D.now z7)/\w'.cell? (p_ w 0)=some a/\w'.cell? (p_ w 1)=some b/\w'.cell? (p_ w 2)=some c/\w'.cell? (p_ w 3)=some d:=λw' hb=>⟨(K6.o.below hb K6.o.lt).cell 0,(K6.o.below hb K6.o.lt).cell 1,(K6.o.below hb K6.o.lt).cell 2,(K6.o.below hb K6.o.lt).cell 3,(K1.o.below hb K1.o.lt).cell 0,(K1.o.below hb K1.o.lt).cell 1,(K1.o.below hb K1.o.lt).cell 2,(K1.o.below hb K1.o.lt).cell 3⟩
  have hbA:Below w5 w5 w5.drew:=z_ (B_ _ _);have hS:=hgs w5 (B_ _ _);have hSA:=hgs _ hbA;have HGS:=H_ hgs;have hdz:w5.drew.heap.size=w5.heap.size:=rfl;have HXd:=H_ (HX.o.below hbA (by omega));clear hgs;go_upto_region 13 with fail
  go_region_held3 (λw'=>w'.cell? (p_ w2 0)=some (.slice z0 D.first z1)/\w'.cell? (p_ w2 1)=some (.slice z2 D.goal z3)/\w'.cell? (p_ w2 2)=some (.slice z4 D.made z5)/\w'.cell? (p_ w2 3)=some (.slice z6 D.now z7)/\w'.cell? (p_ w 0)=some a/\w'.cell? (p_ w 1)=some b/\w'.cell? (p_ w 2)=some c/\w'.cell? (p_ w 3)=some d) (first | with_reducible assumption | go_keep) (first
   | (go_at_call 53;refine(zln _ _ _ D.first w5.drew HXd.o.first (by omega) (by omega)).mono ?_;rintro e7 w7 ⟨rfl,hb_⟩;(have hs7:=hb_.size);(have hb7:=hbA.trans (hb_.mono (by omega)));(have hS7:=HGS.o _ hb7);(have k3:=K3.o.below hb7 K3.o.lt);(obtain⟨c0,c1,c2,c3⟩:=k3.c4);(obtain⟨f0,f1,f2,f3⟩:=k3.f4);(have KM:=H_ k3);(have hO_:=β.set4 (w+1) w7 (.slice z0 D.first z1) (.slice z2 D.goal z3) (.slice z4 D.made z5) (.slice z6 D.now z7));(have k6_:=(K6.o.below hb7 K6.o.lt).outside hO_ (.inr (by omega)));(have k1_:=(K1.o.below hb7 K1.o.lt).outside hO_ (.inl (by omega)));(obtain⟨j0,j1,j2,j3⟩:=k6_.c4);(obtain⟨j4,j5,j6,j7⟩:=k1_.c4);(have HB7:=H_ hb7);clear hb_ hb7 k3 hO_ k6_ k1_))
  replace HB:=HB.tr HB7.o (by omega);replace K3:=KM;replace O6:=H_ (O6.o.below HB7.o (by omega));clear HGS hS hSA hS7 hbA KM;have⟨wz,hwz⟩:=x4_ w7 (w+1) (.slice z0 D.first z1) (.slice z2 D.goal z3) (.slice z4 D.made z5) (.slice z6 D.now z7);have KZ:=K3.o.set4 (.slice z0 D.first z1) (.slice z2 D.goal z3) (.slice z4 D.made z5) (.slice z6 D.now z7);have hO:=β.set4 (w+1) w7 (.slice z0 D.first z1) (.slice z2 D.goal z3) (.slice z4 D.made z5) (.slice z6 D.now z7);rw[<-hwz]at KZ hO;have hsz:=hO.size;have HZ:=H_ (δ HB.o hO (by omega) (by omega));have OZ:=H_ (O6.o.outside hO (.inr (by omega)));obtain⟨q0,q1,q2,q3⟩:=KZ.c4;clear KZ hO;simp only[<-hwz];clear hwz;clear c0 c1 c2 c3 f0 f1 f2 f3 j0 j1 j2 j3 j4 j5 j6 j7;go_wp2;refine d_ (v:=.tuple #[π (.slice z0 D.first z1) (.slice z2 D.goal z3) (.slice z4 D.made z5) (.slice z6 D.now z7),.string ⟨(za7 D.first).toArray⟩]) (by simp[results,results21,go_sem,q0,q1,q2,q3]) rfl ⟨_,_,_,_,_,rfl,by rw[zo8],?_,HZ.o⟩;exact OZ.o.wide (by omega) (by omega)
 ·skip
  have hgs:∀ w',Below w5 w5 w'->w'.cell? (p_ w2 0)=some (.slice z0 D.first z1)/\w'.cell? (p_ w2 1)=some (.slice z2 D.goal z3)/\w'.cell? (p_ w2 2)=some (.slice z4 D.made z5)/\w'.cell? (p_ w2 3)=some (.slice z6 D.now z7)/\w'.cell? (p_ w 0)=some a/\w'.cell? (p_ w 1)=some b/\w'.cell? (p_ w 2)=some c/\w'.cell? (p_ w 3)=some d:=λw' hb=>⟨(K6.o.below hb K6.o.lt).cell 0,(K6.o.below hb K6.o.lt).cell 1,(K6.o.below hb K6.o.lt).cell 2,(K6.o.below hb K6.o.lt).cell 3,(K1.o.below hb K1.o.lt).cell 0,(K1.o.below hb K1.o.lt).cell 1,(K1.o.below hb K1.o.lt).cell 2,(K1.o.below hb K1.o.lt).cell 3⟩
  have hbA:Below w5 w5 w5.drew:=z_ (B_ _ _);have hS:=hgs w5 (B_ _ _);have hSA:=hgs _ hbA;have HGS:=H_ hgs;have hdz:w5.drew.heap.size=w5.heap.size:=rfl;have HXd:=H_ (HX.o.below hbA (by omega));clear hgs;go_upto_region 15 with fail
  go_region_held3 (λw'=>w'.cell? (p_ w2 0)=some (.slice z0 D.first z1)/\w'.cell? (p_ w2 1)=some (.slice z2 D.goal z3)/\w'.cell? (p_ w2 2)=some (.slice z4 D.made z5)/\w'.cell? (p_ w2 3)=some (.slice z6 D.now z7)/\w'.cell? (p_ w 0)=some a/\w'.cell? (p_ w 1)=some b/\w'.cell? (p_ w 2)=some c/\w'.cell? (p_ w 3)=some d) (first | with_reducible assumption | go_keep) (first
   | (go_at_call 53;refine(zln _ _ _ D.goal w5.drew HXd.o.goal (by omega) (by omega)).mono ?_;rintro e7 w7 ⟨rfl,hb_⟩;(have hs7:=hb_.size);(have hb7:=hbA.trans (hb_.mono (by omega)));(have hS7:=HGS.o _ hb7);(have k3:=K3.o.below hb7 K3.o.lt);(obtain⟨c0,c1,c2,c3⟩:=k3.c4);(obtain⟨f0,f1,f2,f3⟩:=k3.f4);(have KM:=H_ k3);(have hO_:=β.set4 (w+1) w7 (.slice z0 D.first z1) (.slice z2 D.goal z3) (.slice z4 D.made z5) (.slice z6 D.now z7));(have k6_:=(K6.o.below hb7 K6.o.lt).outside hO_ (.inr (by omega)));(have k1_:=(K1.o.below hb7 K1.o.lt).outside hO_ (.inl (by omega)));(obtain⟨j0,j1,j2,j3⟩:=k6_.c4);(obtain⟨j4,j5,j6,j7⟩:=k1_.c4);(have HB7:=H_ hb7);clear hb_ hb7 k3 hO_ k6_ k1_))
  replace HB:=HB.tr HB7.o (by omega);replace K3:=KM;replace O6:=H_ (O6.o.below HB7.o (by omega));clear HGS hS hSA hS7 hbA KM;have⟨wz,hwz⟩:=x4_ w7 (w+1) (.slice z0 D.first z1) (.slice z2 D.goal z3) (.slice z4 D.made z5) (.slice z6 D.now z7);have KZ:=K3.o.set4 (.slice z0 D.first z1) (.slice z2 D.goal z3) (.slice z4 D.made z5) (.slice z6 D.now z7);have hO:=β.set4 (w+1) w7 (.slice z0 D.first z1) (.slice z2 D.goal z3) (.slice z4 D.made z5) (.slice z6 D.now z7);rw[<-hwz]at KZ hO;have hsz:=hO.size;have HZ:=H_ (δ HB.o hO (by omega) (by omega));have OZ:=H_ (O6.o.outside hO (.inr (by omega)));obtain⟨q0,q1,q2,q3⟩:=KZ.c4;clear KZ hO;simp only[<-hwz];clear hwz;clear c0 c1 c2 c3 f0 f1 f2 f3 j0 j1 j2 j3 j4 j5 j6 j7;go_wp2;refine d_ (v:=.tuple #[π (.slice z0 D.first z1) (.slice z2 D.goal z3) (.slice z4 D.made z5) (.slice z6 D.now z7),.string ⟨(za7 D.goal).toArray⟩]) (by simp[results,results21,go_sem,q0,q1,q2,q3]) rfl ⟨_,_,_,_,_,rfl,by rw[zpf],?_,HZ.o⟩;exact OZ.o.wide (by omega) (by omega)
 ·obtain⟨m0,m1,rfl,_,_⟩:=SlM.shape HX.o.made
  have hgs:∀ w',Below w5 w5 w'->w'.cell? (p_ w2 0)=some (.slice z0 D.first z1)/\w'.cell? (p_ w2 1)=some (.slice z2 D.goal z3)/\w'.cell? (p_ w2 2)=some (.slice z4 D.made z5)/\w'.cell? (p_ w2 3)=some (.slice z6 D.now z7)/\w'.cell? (p_ w 0)=some a/\w'.cell? (p_ w 1)=some b/\w'.cell? (p_ w 2)=some (.slice m0 D.made m1)/\w'.cell? (p_ w 3)=some d:=λw' hb=>⟨(K6.o.below hb K6.o.lt).cell 0,(K6.o.below hb K6.o.lt).cell 1,(K6.o.below hb K6.o.lt).cell 2,(K6.o.below hb K6.o.lt).cell 3,(K1.o.below hb K1.o.lt).cell 0,(K1.o.below hb K1.o.lt).cell 1,(K1.o.below hb K1.o.lt).cell 2,(K1.o.below hb K1.o.lt).cell 3⟩
  have hbA:Below w5 w5 w5.drew:=z_ (B_ _ _);have hS:=hgs w5 (B_ _ _);have hSA:=hgs _ hbA;have HGS:=H_ hgs;have hdz:w5.drew.heap.size=w5.heap.size:=rfl;have HXd:=H_ (HX.o.below hbA (by omega));clear hgs;go_upto_region 17 with fail
  go_region_held3 (λw'=>w'.cell? (p_ w2 0)=some (.slice z0 D.first z1)/\w'.cell? (p_ w2 1)=some (.slice z2 D.goal z3)/\w'.cell? (p_ w2 2)=some (.slice z4 D.made z5)/\w'.cell? (p_ w2 3)=some (.slice z6 D.now z7)/\w'.cell? (p_ w 0)=some a/\w'.cell? (p_ w 1)=some b/\w'.cell? (p_ w 2)=some (.slice m0 D.made m1)/\w'.cell? (p_ w 3)=some d) (first | with_reducible assumption | go_keep) (first
   | (go_at_call 54;refine(zss D.made.length w5.drew (by omega)).mono ?_;rintro e7 w7 ⟨rfl,hb_⟩;(have hs7:=hb_.size);(have hb7:=hbA.trans (hb_.mono (by omega)));(have hS7:=HGS.o _ hb7);(have k3:=K3.o.below hb7 K3.o.lt);(obtain⟨c0,c1,c2,c3⟩:=k3.c4);(obtain⟨f0,f1,f2,f3⟩:=k3.f4);(have KM:=H_ k3);(have hO_:=β.set4 (w+1) w7 (.slice z0 D.first z1) (.slice z2 D.goal z3) (.slice z4 D.made z5) (.slice z6 D.now z7));(have k6_:=(K6.o.below hb7 K6.o.lt).outside hO_ (.inr (by omega)));(have k1_:=(K1.o.below hb7 K1.o.lt).outside hO_ (.inl (by omega)));(obtain⟨j0,j1,j2,j3⟩:=k6_.c4);(obtain⟨j4,j5,j6,j7⟩:=k1_.c4);(have HB7:=H_ hb7);clear hb_ hb7 k3 hO_ k6_ k1_))
  replace HB:=HB.tr HB7.o (by omega);replace K3:=KM;replace O6:=H_ (O6.o.below HB7.o (by omega));clear HGS hS hSA hS7 hbA KM;have⟨wz,hwz⟩:=x4_ w7 (w+1) (.slice z0 D.first z1) (.slice z2 D.goal z3) (.slice z4 D.made z5) (.slice z6 D.now z7);have KZ:=K3.o.set4 (.slice z0 D.first z1) (.slice z2 D.goal z3) (.slice z4 D.made z5) (.slice z6 D.now z7);have hO:=β.set4 (w+1) w7 (.slice z0 D.first z1) (.slice z2 D.goal z3) (.slice z4 D.made z5) (.slice z6 D.now z7);rw[<-hwz]at KZ hO;have hsz:=hO.size;have HZ:=H_ (δ HB.o hO (by omega) (by omega));have OZ:=H_ (O6.o.outside hO (.inr (by omega)));obtain⟨q0,q1,q2,q3⟩:=KZ.c4;clear KZ hO;simp only[<-hwz];clear hwz;clear c0 c1 c2 c3 f0 f1 f2 f3 j0 j1 j2 j3 j4 j5 j6 j7;go_wp2;refine d_ (v:=.tuple #[π (.slice z0 D.first z1) (.slice z2 D.goal z3) (.slice z4 D.made z5) (.slice z6 D.now z7),.string ⟨(Η D.made.length).toArray⟩]) (by simp[results,results21,go_sem,q0,q1,q2,q3]) rfl ⟨_,_,_,_,_,rfl,by rw[zpl],?_,HZ.o⟩;exact OZ.o.wide (by omega) (by omega)
 ·skip
  have⟨d0,d1,d2,d3⟩:=K1.o.c4;have⟨E,hE⟩:=ex_ (eqL D.now D.goal);have HD:=H_ (show (Θ D&&eqL D.now D.goal)=E by rw[HV.o,hE];rfl);have HEE:=H_ (show zao D [100,111,110,101]=if E then zew else noT by rw[zq9,hE]);clear hE;go_wp2_with fail
  refine(zuy _ _ a b c d D w5 HX.o (by omega) HM.o).mono ?_;rintro e6 w6 ⟨rfl,hb6⟩;rw[HD.o];have hs6:=hb6.size;replace HB:=HB.tr hb6 (by omega);replace HX:=H_ (HX.o.below hb6 (by omega));replace O6:=H_ (O6.o.below hb6 (by omega));replace K1:=K1.kb hb6;replace K3:=K3.kb hb6;replace K6:=K6.kb hb6;clear hb6 d0 d1 d2 d3;have⟨c0,c1,c2,c3⟩:=K3.o.c4;have⟨f0,f1,f2,f3⟩:=K3.o.f4;have⟨s0,s1,s2,s3⟩:=K6.o.c4;have hO_:=β.set4 (w+1) w6 (.slice z0 D.first z1) (.slice z2 D.goal z3) (.slice z4 D.made z5) (.slice z6 D.now z7);have k6_:=K6.o.outside hO_ (.inr (by omega));obtain⟨j0,j1,j2,j3⟩:=k6_.c4;clear hO_ k6_;cases E
  ·skip
   have⟨wz,hwz⟩:=x4_ w6 (w+1) (.slice z0 D.first z1) (.slice z2 D.goal z3) (.slice z4 D.made z5) (.slice z6 D.now z7);have KZ:=K3.o.set4 (.slice z0 D.first z1) (.slice z2 D.goal z3) (.slice z4 D.made z5) (.slice z6 D.now z7);have hO:=β.set4 (w+1) w6 (.slice z0 D.first z1) (.slice z2 D.goal z3) (.slice z4 D.made z5) (.slice z6 D.now z7);rw[<-hwz]at KZ hO;have hsz:=hO.size;have HZ:=H_ (δ HB.o hO (by omega) (by omega));have OZ:=H_ (O6.o.outside hO (.inr (by omega)));obtain⟨q0,q1,q2,q3⟩:=KZ.c4;clear KZ hO;go_wp2;simp only[<-hwz];clear hwz;refine d_ (v:=.tuple #[π (.slice z0 D.first z1) (.slice z2 D.goal z3) (.slice z4 D.made z5) (.slice z6 D.now z7),.string ⟨#[110,111]⟩]) (by simp[results,results21,go_sem,q0,q1,q2,q3]) rfl ⟨_,_,_,_,_,rfl,by rw[HEE.o];rfl,?_,HZ.o⟩;exact OZ.o.wide (by omega) (by omega)
  ·skip
   have⟨wz,hwz⟩:=x4_ w6 (w+1) (.slice z0 D.first z1) (.slice z2 D.goal z3) (.slice z4 D.made z5) (.slice z6 D.now z7);have KZ:=K3.o.set4 (.slice z0 D.first z1) (.slice z2 D.goal z3) (.slice z4 D.made z5) (.slice z6 D.now z7);have hO:=β.set4 (w+1) w6 (.slice z0 D.first z1) (.slice z2 D.goal z3) (.slice z4 D.made z5) (.slice z6 D.now z7);rw[<-hwz]at KZ hO;have hsz:=hO.size;have HZ:=H_ (δ HB.o hO (by omega) (by omega));have OZ:=H_ (O6.o.outside hO (.inr (by omega)));obtain⟨q0,q1,q2,q3⟩:=KZ.c4;clear KZ hO;go_wp2;simp only[<-hwz];clear hwz;refine d_ (v:=.tuple #[π (.slice z0 D.first z1) (.slice z2 D.goal z3) (.slice z4 D.made z5) (.slice z6 D.now z7),.string ⟨#[121,101,115]⟩]) (by simp[results,results21,go_sem,q0,q1,q2,q3]) rfl ⟨_,_,_,_,_,rfl,by rw[HEE.o];rfl,?_,HZ.o⟩;exact OZ.o.wide (by omega) (by omega)
 ·exact absurd rfl HNE.o
 ·skip
  have hgs:∀ w',Below w5 w5 w'->w'.cell? (p_ w2 0)=some (.slice z0 D.first z1)/\w'.cell? (p_ w2 1)=some (.slice z2 D.goal z3)/\w'.cell? (p_ w2 2)=some (.slice z4 D.made z5)/\w'.cell? (p_ w2 3)=some (.slice z6 D.now z7)/\w'.cell? (p_ w 0)=some a/\w'.cell? (p_ w 1)=some b/\w'.cell? (p_ w 2)=some c/\w'.cell? (p_ w 3)=some d:=λw' hb=>⟨(K6.o.below hb K6.o.lt).cell 0,(K6.o.below hb K6.o.lt).cell 1,(K6.o.below hb K6.o.lt).cell 2,(K6.o.below hb K6.o.lt).cell 3,(K1.o.below hb K1.o.lt).cell 0,(K1.o.below hb K1.o.lt).cell 1,(K1.o.below hb K1.o.lt).cell 2,(K1.o.below hb K1.o.lt).cell 3⟩
  have hbA:Below w5 w5 w5.drew:=z_ (B_ _ _);have hS:=hgs w5 (B_ _ _);have hSA:=hgs _ hbA;have HGS:=H_ hgs;have hdz:w5.drew.heap.size=w5.heap.size:=rfl;have HXd:=H_ (HX.o.below hbA (by omega));clear hgs;have HEV:=H_ (zsp (zch HV.o).2.2.1);have⟨n,hn⟩:=ex_ (endsK (Ο D.now));have HNE:=H_ (show zao D [101,110,100,115]=Ω n by rw[zr7,hn]);rw[<-hn]at HEV;have HEA:=H_ (z0h _ _ _ D.now w5.drew HXd.o.now (by omega) (by omega));rw[HEV.o.1]at HEA;clear hn;go_upto_region 25 with fail
  go_region_held3 (λw'=>w'.cell? (p_ w2 0)=some (.slice z0 D.first z1)/\w'.cell? (p_ w2 1)=some (.slice z2 D.goal z3)/\w'.cell? (p_ w2 2)=some (.slice z4 D.made z5)/\w'.cell? (p_ w2 3)=some (.slice z6 D.now z7)/\w'.cell? (p_ w 0)=some a/\w'.cell? (p_ w 1)=some b/\w'.cell? (p_ w 2)=some c/\w'.cell? (p_ w 3)=some d) (first | with_reducible assumption | go_keep) (first
   | (go_at_call 58;refine HEA.o.mono ?_;rintro e6 w6 ⟨rfl,hb_⟩;(have hs6:=hb_.size);(have hb6:=hbA.trans (hb_.mono (by omega)));(have hS6:=HGS.o _ hb6);(have HB6:=H_ hb6);clear hb_ hb6)
   | (go_at_call 57;refine(zj3 n HEV.o.2 w6).mono ?_;rintro e7 w7 ⟨rfl,hb_⟩;(have hs7:=hb_.size);(have hb7:=HB6.o.trans (hb_.mono (by omega)));(have hS7:=HGS.o _ hb7);(have k3:=K3.o.below hb7 K3.o.lt);(obtain⟨c0,c1,c2,c3⟩:=k3.c4);(obtain⟨f0,f1,f2,f3⟩:=k3.f4);(have KM:=H_ k3);(have hO_:=β.set4 (w+1) w7 (.slice z0 D.first z1) (.slice z2 D.goal z3) (.slice z4 D.made z5) (.slice z6 D.now z7));(have k6_:=(K6.o.below hb7 K6.o.lt).outside hO_ (.inr (by omega)));(have k1_:=(K1.o.below hb7 K1.o.lt).outside hO_ (.inl (by omega)));(obtain⟨j0,j1,j2,j3⟩:=k6_.c4);(obtain⟨j4,j5,j6,j7⟩:=k1_.c4);(have HB7:=H_ hb7);clear hb_ hb7 k3 hO_ k6_ k1_))
  replace HB:=HB.tr HB7.o (by omega);replace K3:=KM;replace O6:=H_ (O6.o.below HB7.o (by omega));clear HGS hS hSA hS6 hS7 hbA KM;have⟨wz,hwz⟩:=x4_ w7 (w+1) (.slice z0 D.first z1) (.slice z2 D.goal z3) (.slice z4 D.made z5) (.slice z6 D.now z7);have KZ:=K3.o.set4 (.slice z0 D.first z1) (.slice z2 D.goal z3) (.slice z4 D.made z5) (.slice z6 D.now z7);have hO:=β.set4 (w+1) w7 (.slice z0 D.first z1) (.slice z2 D.goal z3) (.slice z4 D.made z5) (.slice z6 D.now z7);rw[<-hwz]at KZ hO;have hsz:=hO.size;have HZ:=H_ (δ HB.o hO (by omega) (by omega));have OZ:=H_ (O6.o.outside hO (.inr (by omega)));obtain⟨q0,q1,q2,q3⟩:=KZ.c4;clear KZ hO;simp only[<-hwz];clear hwz;clear c0 c1 c2 c3 f0 f1 f2 f3 j0 j1 j2 j3 j4 j5 j6 j7;go_wp2;refine d_ (v:=.tuple #[π (.slice z0 D.first z1) (.slice z2 D.goal z3) (.slice z4 D.made z5) (.slice z6 D.now z7),.string ⟨(Ω n).toArray⟩]) (by simp[results,results21,go_sem,q0,q1,q2,q3]) rfl ⟨_,_,_,_,_,rfl,by rw[HNE.o],?_,HZ.o⟩;exact OZ.o.wide (by omega) (by omega)
 ·skip
  have⟨d0,d1,d2,d3⟩:=K1.o.c4;go_wp2_with fail
  refine(zrn _ _ _ _ _ _ D.now D.goal w5 HX.o.now HX.o.goal (by omega) (by omega) (by omega) (by omega)).mono ?_;rintro e6 w6 ⟨r,rfl,hor,hb6⟩;have hs6:=hb6.size;replace HB:=HB.tr hb6 (by omega);replace HX:=H_ (HX.o.below hb6 (by omega));replace O6:=H_ (O6.o.below hb6 (by omega));replace K1:=K1.kb hb6;replace K3:=K3.kb hb6;replace K6:=K6.kb hb6;clear hb6 d0 d1 d2 d3;rcases hor with⟨t,v4,ht,rfl,hov,hlt⟩|⟨hn,g,rfl⟩
  ·have HAS:=H_ (show zao D [116,114,97,99,101]=zfh t by rw[znj,ht];rfl)
   have HOV:=H_ hov;clear ht hov;have hgs:∀ w',Below w6 w6 w'->w'.cell? (p_ w2 0)=some (.slice z0 D.first z1)/\w'.cell? (p_ w2 1)=some (.slice z2 D.goal z3)/\w'.cell? (p_ w2 2)=some (.slice z4 D.made z5)/\w'.cell? (p_ w2 3)=some (.slice z6 D.now z7)/\w'.cell? (p_ w 0)=some a/\w'.cell? (p_ w 1)=some b/\w'.cell? (p_ w 2)=some c/\w'.cell? (p_ w 3)=some d:=λw' hb=>⟨(K6.o.below hb K6.o.lt).cell 0,(K6.o.below hb K6.o.lt).cell 1,(K6.o.below hb K6.o.lt).cell 2,(K6.o.below hb K6.o.lt).cell 3,(K1.o.below hb K1.o.lt).cell 0,(K1.o.below hb K1.o.lt).cell 1,(K1.o.below hb K1.o.lt).cell 2,(K1.o.below hb K1.o.lt).cell 3⟩
   have hbA:Below w6 w6 w6.drew:=z_ (B_ _ _);have hS:=hgs w6 (B_ _ _);have hSA:=hgs _ hbA;have HGS:=H_ hgs;have hdz:w6.drew.heap.size=w6.heap.size:=rfl;have HXd:=H_ (HX.o.below hbA (by omega));clear hgs;go_upto_region 30 with fail
   go_region_held3 (λw'=>w'.cell? (p_ w2 0)=some (.slice z0 D.first z1)/\w'.cell? (p_ w2 1)=some (.slice z2 D.goal z3)/\w'.cell? (p_ w2 2)=some (.slice z4 D.made z5)/\w'.cell? (p_ w2 3)=some (.slice z6 D.now z7)/\w'.cell? (p_ w 0)=some a/\w'.cell? (p_ w 1)=some b/\w'.cell? (p_ w 2)=some c/\w'.cell? (p_ w 3)=some d) (first | with_reducible assumption | go_keep) (first
    | (go_at_call 60;refine(zx6 _ _ _ t w6.drew (HOV.o.sl.below hbA (le_ _)) (by omega) (le_ _)).mono ?_;rintro e7 w7 ⟨rfl,hb_⟩;(have hs7:=hb_.size);(have hb7:=hbA.trans (hb_.mono (by omega)));(have hS7:=HGS.o _ hb7);(have k3:=K3.o.below hb7 K3.o.lt);(obtain⟨c0,c1,c2,c3⟩:=k3.c4);(obtain⟨f0,f1,f2,f3⟩:=k3.f4);(have KM:=H_ k3);(have hO_:=β.set4 (w+1) w7 (.slice z0 D.first z1) (.slice z2 D.goal z3) (.slice z4 D.made z5) (.slice z6 D.now z7));(have k6_:=(K6.o.below hb7 K6.o.lt).outside hO_ (.inr (by omega)));(have k1_:=(K1.o.below hb7 K1.o.lt).outside hO_ (.inl (by omega)));(obtain⟨j0,j1,j2,j3⟩:=k6_.c4);(obtain⟨j4,j5,j6,j7⟩:=k1_.c4);(have HB7:=H_ hb7);clear hb_ hb7 k3 hO_ k6_ k1_))
   replace HB:=HB.tr HB7.o (by omega);replace K3:=KM;replace O6:=H_ (O6.o.below HB7.o (by omega));clear HGS hS hSA hS7 hbA KM;have⟨wz,hwz⟩:=x4_ w7 (w+1) (.slice z0 D.first z1) (.slice z2 D.goal z3) (.slice z4 D.made z5) (.slice z6 D.now z7);have KZ:=K3.o.set4 (.slice z0 D.first z1) (.slice z2 D.goal z3) (.slice z4 D.made z5) (.slice z6 D.now z7);have hO:=β.set4 (w+1) w7 (.slice z0 D.first z1) (.slice z2 D.goal z3) (.slice z4 D.made z5) (.slice z6 D.now z7);rw[<-hwz]at KZ hO;have hsz:=hO.size;have HZ:=H_ (δ HB.o hO (by omega) (by omega));have OZ:=H_ (O6.o.outside hO (.inr (by omega)));obtain⟨q0,q1,q2,q3⟩:=KZ.c4;clear KZ hO;simp only[<-hwz];clear hwz;clear c0 c1 c2 c3 f0 f1 f2 f3 j0 j1 j2 j3 j4 j5 j6 j7;go_wp2;refine d_ (v:=.tuple #[π (.slice z0 D.first z1) (.slice z2 D.goal z3) (.slice z4 D.made z5) (.slice z6 D.now z7),.string ⟨(zfh t).toArray⟩]) (by simp[results,results21,go_sem,q0,q1,q2,q3]) rfl ⟨_,_,_,_,_,rfl,by rw[HAS.o],?_,HZ.o⟩;exact OZ.o.wide (by omega) (by omega)
  ·have HAS:=H_ (show zao D [116,114,97,99,101]=zio by rw[znj,hn];rfl)
   clear hn;have⟨c0,c1,c2,c3⟩:=K3.o.c4;have⟨f0,f1,f2,f3⟩:=K3.o.f4;have⟨s0,s1,s2,s3⟩:=K6.o.c4;have hO_:=β.set4 (w+1) w6 (.slice z0 D.first z1) (.slice z2 D.goal z3) (.slice z4 D.made z5) (.slice z6 D.now z7);have k6_:=K6.o.outside hO_ (.inr (by omega));obtain⟨j0,j1,j2,j3⟩:=k6_.c4;clear hO_ k6_;have⟨wz,hwz⟩:=x4_ w6 (w+1) (.slice z0 D.first z1) (.slice z2 D.goal z3) (.slice z4 D.made z5) (.slice z6 D.now z7);have KZ:=K3.o.set4 (.slice z0 D.first z1) (.slice z2 D.goal z3) (.slice z4 D.made z5) (.slice z6 D.now z7);have hO:=β.set4 (w+1) w6 (.slice z0 D.first z1) (.slice z2 D.goal z3) (.slice z4 D.made z5) (.slice z6 D.now z7);rw[<-hwz]at KZ hO;have hsz:=hO.size;have HZ:=H_ (δ HB.o hO (by omega) (by omega));have OZ:=H_ (O6.o.outside hO (.inr (by omega)));obtain⟨q0,q1,q2,q3⟩:=KZ.c4;clear KZ hO;go_wp2;simp only[<-hwz];clear hwz;refine d_ (v:=.tuple #[π (.slice z0 D.first z1) (.slice z2 D.goal z3) (.slice z4 D.made z5) (.slice z6 D.now z7),.string ⟨#[110,111,110,101]⟩]) (by simp[results,results21,go_sem,q0,q1,q2,q3]) rfl ⟨_,_,_,_,_,rfl,by rw[HAS.o];rfl,?_,HZ.o⟩;exact OZ.o.wide (by omega) (by omega)
 ·obtain⟨m0,m1,rfl,_,_⟩:=SlM.shape HX.o.made
  have HAS:=H_ (zqv D);have d2:=K1.o.cell 2;by_cases h0:D.made=[]
  ·have hl0:D.made.length<=0:=by simp[h0]
   have g9:((D.made.length:Int)==0)=true:=by simp[h0]
   have HNN:=H_ (show zda D.made=zio by rw[h0];rfl);clear h0;have⟨c0,c1,c2,c3⟩:=K3.o.c4;have⟨f0,f1,f2,f3⟩:=K3.o.f4;have⟨s0,s1,s2,s3⟩:=K6.o.c4;have hO_:=β.set4 (w+1) w5 (.slice z0 D.first z1) (.slice z2 D.goal z3) (.slice z4 D.made z5) (.slice z6 D.now z7);have k6_:=K6.o.outside hO_ (.inr (by omega));obtain⟨j0,j1,j2,j3⟩:=k6_.c4;clear hO_ k6_;have⟨wz,hwz⟩:=x4_ w5 (w+1) (.slice z0 D.first z1) (.slice z2 D.goal z3) (.slice z4 D.made z5) (.slice z6 D.now z7);have KZ:=K3.o.set4 (.slice z0 D.first z1) (.slice z2 D.goal z3) (.slice z4 D.made z5) (.slice z6 D.now z7);have hO:=β.set4 (w+1) w5 (.slice z0 D.first z1) (.slice z2 D.goal z3) (.slice z4 D.made z5) (.slice z6 D.now z7);rw[<-hwz]at KZ hO;have hsz:=hO.size;have HZ:=H_ (δ HB.o hO (by omega) (by omega));have OZ:=H_ (O6.o.outside hO (.inr (by omega)));obtain⟨q0,q1,q2,q3⟩:=KZ.c4;clear KZ hO;go_wp2;simp only[<-hwz];clear hwz;refine d_ (v:=.tuple #[π (.slice z0 D.first z1) (.slice z2 D.goal z3) (.slice z4 D.made z5) (.slice z6 D.now z7),.string ⟨#[110,111,110,101]⟩]) (by simp[results,results21,go_sem,q0,q1,q2,q3]) rfl ⟨_,_,_,_,_,rfl,by rw[HAS.o,HNN.o];rfl,?_,HZ.o⟩;exact OZ.o.wide (by omega) (by omega)
  ·have hpos:0<D.made.length:=by cases hd:D.made with | nil=>exact absurd hd h0 | cons=>simp
   have g9:((D.made.length:Int)==0)=false:=by simp[h0]
   have HSN:=H_ (λk (hk:k<D.made.length) (hk1:1<=k)=>zx4 hk hk1);have HS1:=H_ (z00 hpos);obtain⟨b1,off,rfl,_,_,hb1_,p0,p1,p2⟩:=SlM.get HX.o.made 0 hpos;have⟨m,hm⟩:=ex_ (D.made[0]);rw[<-hm]at p0 p1 p2 HS1;simp only[Nat.zero_mul,cj_]at p0 p1 p2;clear h0 hm;go_wp2_with fail
   refine(zk0 m w5).mono ?_;rintro e6 w6 ⟨rfl,hb6⟩;have hs6:=hb6.size;have hl6:=zil m;have⟨t0,ht0⟩:=ex_ (Γ m);rw[<-ht0]at HS1 hl6 ⊢;have HT0:=H_ (show t0=zda (D.made.take 1) from HS1.o.symm);replace HB:=HB.tr hb6 (by omega);replace HX:=H_ (HX.o.below hb6 (by omega));replace O6:=H_ (O6.o.below hb6 (by omega));replace K1:=K1.kb hb6;replace K3:=K3.kb hb6;replace K6:=K6.kb hb6;clear hb6 d2 p0 p1 p2 HS1 ht0;go_wp2;go_loopw [13,14] (λs i wr=>∃ (k:Nat) (t:List UInt8),1<=k/\k<=D.made.length/\i=.int .i64 k/\s=.string ⟨t.toArray⟩/\t.length<=7*k/\Q_ (t=zda (D.made.take k))/\Q_ (Below w6 w6 wr)) (λ_ i _=>D.made.length-(intOf i).toNat)
   case atStart=>exact⟨1,t0,le_ _,hpos,rfl,rfl,by omega,HT0,H_ (B_ _ _)⟩
   case round=>
    rename World=>wr
    clear HT0 hl6;obtain⟨k,t,hk1,hk,rfl,rfl,htl,HT,HQ⟩:=hrel;have hwr:=HQ.o.size;have d2:=(K1.o.below HQ.o K1.o.lt).cell 2;by_cases hlt:k<D.made.length
    ·(obtain⟨b2,off2,heq,_,_,hb2_,p0,p1,p2⟩:=SlM.get (HX.o.made.below HQ.o (by omega)) k hlt);cases heq
     (have HN:=H_ ((HSN.o k hlt hk1).trans (congrArg (·++44 :: Γ D.made[k]) HT.o.symm));have⟨n,hn⟩:=ex_ (D.made[k]);rw[<-hn]at p0 p1 p2 HN;clear hn;go_wp2_with fail);refine(zk0 n wr).mono ?_;rintro e7 w7 ⟨rfl,hb7⟩;have hs7:=hb7.size;have hl7:=zil n;have HQ7:=HQ.tr hb7 hwr;clear hb7 d2 p0 p1 p2 HQ;go_wp2;go_roundw
     (case rel=>exact⟨k+1,t++44 :: Γ n,by omega,by omega,by go_num,by congr 1;apply cd_;simp,by simp;omega,H_ HN.o.symm,HQ7⟩);case measure=>first | (simp[intOf];done) | (simp[intOf];omega)
    ·(obtain rfl:k=D.made.length:=by omega);have HTT:=H_ (HAS.o.trans (show zda D.made=t by rw[HT.o,Y_]));have HQ0:=H_ HQ.o;clear HAS HT HQ HSN;replace HB:=HB.tr HQ0.o (by omega);replace HX:=H_ (HX.o.below HQ0.o (by omega));replace O6:=H_ (O6.o.below HQ0.o (by omega));replace K1:=K1.kb HQ0.o;replace K3:=K3.kb HQ0.o;replace K6:=K6.kb HQ0.o;have⟨c0,c1,c2,c3⟩:=K3.o.c4;have⟨f0,f1,f2,f3⟩:=K3.o.f4;have⟨s0,s1,s2,s3⟩:=K6.o.c4;have hO_:=β.set4 (w+1) wr (.slice z0 D.first z1) (.slice z2 D.goal z3) (.slice z4 D.made z5) (.slice z6 D.now z7);have k6_:=K6.o.outside hO_ (.inr (by omega));obtain⟨j0,j1,j2,j3⟩:=k6_.c4;clear hO_ k6_;have⟨wz,hwz⟩:=x4_ wr (w+1) (.slice z0 D.first z1) (.slice z2 D.goal z3) (.slice z4 D.made z5) (.slice z6 D.now z7);have KZ:=K3.o.set4 (.slice z0 D.first z1) (.slice z2 D.goal z3) (.slice z4 D.made z5) (.slice z6 D.now z7);have hO:=β.set4 (w+1) wr (.slice z0 D.first z1) (.slice z2 D.goal z3) (.slice z4 D.made z5) (.slice z6 D.now z7);rw[<-hwz]at KZ hO;have hsz:=hO.size;have HZ:=H_ (δ HB.o hO (by omega) (by omega));have OZ:=H_ (O6.o.outside hO (.inr (by omega)));obtain⟨q0,q1,q2,q3⟩:=KZ.c4;clear KZ hO;go_wp2;simp only[<-hwz];clear hwz;refine d_ (v:=.tuple #[π (.slice z0 D.first z1) (.slice z2 D.goal z3) (.slice z4 D.made z5) (.slice z6 D.now z7),.string ⟨t.toArray⟩]) (by simp[results,results21,go_sem,q0,q1,q2,q3]) rfl ⟨_,_,_,_,_,rfl,by rw[HTT.o],?_,HZ.o⟩;exact OZ.o.wide (by omega) (by omega)
 ·have HAS:=H_ (zmm (D:=D) hq)
  obtain⟨n1,n2,n3,n4,n5,n6,n7,n8,n9⟩:=hq;have q1:=ao_ n1;have q2:=ao_ n2;have q3:=ao_ n3;have q4:=ao_ n4;have q5:=ao_ n5;have q6:=ao_ n6;have q7:=ao_ n7;have q8:=ao_ n8;have q9:=ao_ n9;clear n1 n2 n3 n4 n5 n6 n7 n8 n9;have⟨c0,c1,c2,c3⟩:=K3.o.c4;have⟨f0,f1,f2,f3⟩:=K3.o.f4;have⟨s0,s1,s2,s3⟩:=K6.o.c4;have hO_:=β.set4 (w+1) w5 (.slice z0 D.first z1) (.slice z2 D.goal z3) (.slice z4 D.made z5) (.slice z6 D.now z7);have k6_:=K6.o.outside hO_ (.inr (by omega));obtain⟨j0,j1,j2,j3⟩:=k6_.c4;clear hO_ k6_;have⟨wz,hwz⟩:=x4_ w5 (w+1) (.slice z0 D.first z1) (.slice z2 D.goal z3) (.slice z4 D.made z5) (.slice z6 D.now z7);have KZ:=K3.o.set4 (.slice z0 D.first z1) (.slice z2 D.goal z3) (.slice z4 D.made z5) (.slice z6 D.now z7);have hO:=β.set4 (w+1) w5 (.slice z0 D.first z1) (.slice z2 D.goal z3) (.slice z4 D.made z5) (.slice z6 D.now z7);rw[<-hwz]at KZ hO;have hsz:=hO.size;have HZ:=H_ (δ HB.o hO (by omega) (by omega));have OZ:=H_ (O6.o.outside hO (.inr (by omega)));obtain⟨r0,r1,r2,r3⟩:=KZ.c4;clear KZ hO;go_wp2;simp only[<-hwz];clear hwz;refine d_ (v:=.tuple #[π (.slice z0 D.first z1) (.slice z2 D.goal z3) (.slice z4 D.made z5) (.slice z6 D.now z7),.string ⟨#[119,104,97,116]⟩]) (by simp[results,results21,go_sem,r0,r1,r2,r3]) rfl ⟨_,_,_,_,_,rfl,by rw[HAS.o];rfl,?_,HZ.o⟩;exact OZ.o.wide (by omega) (by omega)
theorem zyz(lo hi:Nat)(a b c d:Value)(D:Dsk)(s:ByteArray)(w:World)(hx:Ι lo hi w a b c d D)(hh:hi<=w)(hm:D.size<=1048576)(hv:Θ D=false):
  Calls prog 21 #[π a b c d,.string s] w (zfj λa' b' c' d' s' w'=>s'=⟨#[]⟩/\Υ w w' w' a' b' c' d' Dsk.none/\Below w w w'):=by
 have HM:=H_ hm;have⟨w0,hw0⟩:=ex_ ((w.alloc (.cells #[a,b,c,d] 31)).alloc (.cells #[(),(),(),()] 31));have hb0:Below w w w0:=by rw[hw0];exact((B_ _ _).alloc (le_ _) _).alloc (by simp) _
 have hs0:w0=w.heap.size+2:=by rw[hw0];simp
 have K1:Q_ (Blk w (.cells #[a,b,c,d] 31) w0):=by
  rw[hw0];exact H_ ((κ w _).below ((B_ (w.alloc _).heap.size _).alloc (le_ _) _) (by simp))
 have K3:Q_ (Blk (w+1) (.cells #[(),(),(),()] 31) w0):=by
  have h:=κ (w.alloc (.cells #[a,b,c,d] 31)) (.cells #[(),(),(),()] 31);rw[ν]at h;rw[hw0];exact H_ h
 have HX:=H_ (hx.below hb0 hh);have HB:=H_ hb0;have HW0:=H_ hw0;have HV:=H_ hv;clear hx hb0 hw0 hv hm;have⟨d0,d1,d2,d3⟩:=K1.o.c4
 go_enter func21,ntmps21
 go_wp2_with (rw[<-HW0.o])
 refine(zge _ _ a b c d D w0 HX.o (by omega) HM.o).mono ?_;rintro e1 w1 ⟨rfl,hb1⟩;rw[HV.o];have hs1:=hb1.size;replace HB:=HB.tr hb1 (by omega);replace K3:=K3.kb hb1;clear hb1 d0 d1 d2 d3;have⟨c0,c1,c2,c3⟩:=K3.o.c4;have⟨f0,f1,f2,f3⟩:=K3.o.f4;have⟨wz,hwz⟩:=x4_ w1 (w+1) () () () ();have KZ:=K3.o.set4 () () () ();have hO:=β.set4 (w+1) w1 () () () ();rw[<-hwz]at KZ hO;have HZ:=H_ (δ HB.o hO (by omega) (by omega));obtain⟨q0,q1,q2,q3⟩:=KZ.c4;clear KZ hO;go_wp2;simp only[<-hwz];clear hwz;refine d_ (v:=.tuple #[π () () () (),.string ⟨#[]⟩]) (by simp[results,results21,go_sem,q0,q1,q2,q3]) rfl ⟨_,_,_,_,_,rfl,rfl,?_,HZ.o⟩;exact Υ.nils _ _ HZ.o.size wz
theorem zx1(lo hi:Nat)(a b c d:Value)(D:Dsk)(l:List UInt8)(s:ByteArray)(hs:s=⟨l.toArray⟩)(w:World)(hx:Ι lo hi w a b c d D)(hh:hi<=w)(hm:D.size<=1048576)(hl:l.length<=2097152)(A:Ac)(hv:Θ D=true)(hr:zba l=some A):
  Calls prog 21 #[π a b c d,.string s] w (zfj λa' b' c' d' s' w'=>s'=okS (Χ D A).2/\Υ w w' w' a' b' c' d' (Χ D A).1/\Below w w w'):=by
 subst hs;have HM:=H_ hm;have⟨w0,hw0⟩:=ex_ ((w.alloc (.cells #[a,b,c,d] 31)).alloc (.cells #[(),(),(),()] 31));have hb0:Below w w w0:=by rw[hw0];exact((B_ _ _).alloc (le_ _) _).alloc (by simp) _
 have hs0:w0=w.heap.size+2:=by rw[hw0];simp
 have K1:Q_ (Blk w (.cells #[a,b,c,d] 31) w0):=by
  rw[hw0];exact H_ ((κ w _).below ((B_ (w.alloc _).heap.size _).alloc (le_ _) _) (by simp))
 have K3:Q_ (Blk (w+1) (.cells #[(),(),(),()] 31) w0):=by
  have h:=κ (w.alloc (.cells #[a,b,c,d] 31)) (.cells #[(),(),(),()] 31);rw[ν]at h;rw[hw0];exact H_ h
 have HX:=H_ (hx.below hb0 hh);have HB:=H_ hb0;have HW0:=H_ hw0;have HV:=H_ hv;have HRA:=H_ hr;clear hx hb0 hw0 hv hr;have⟨d0,d1,d2,d3⟩:=K1.o.c4
 go_enter func21,ntmps21
 go_wp2_with (rw[<-HW0.o])
 refine(zge _ _ a b c d D w0 HX.o (by omega) HM.o).mono ?_;rintro e1 w1 ⟨rfl,hb1⟩;rw[HV.o];have hs1:=hb1.size;replace HB:=HB.tr hb1 (by omega);replace K1:=K1.kb hb1;replace K3:=K3.kb hb1;replace HX:=H_ (HX.o.below hb1 (by omega));clear hb1 d0 d1 d2 d3;have hk:=zi1 HV.o;have HW:=H_ (zgr _ _ _ _ a b c d c D D.made w1 HX.o (by omega) HM.o HX.o.made (by omega) (by have:=HM.o;unfold Dsk.size at this;omega) hk.1);rw[hk.2,ac_]at HW;have hmade:=(zch HV.o).2.2.2.1;have⟨d0,d1,d2,d3⟩:=K1.o.c4;clear hk;go_wp2_with fail
 refine HW.o.mono ?_;rintro e2 w2 ⟨x0,x1,x2,x3,rfl,o_,hb2⟩;obtain⟨z0,z1,z2,z3,z4,z5,z6,z7,i0,i1,i2,i3⟩:=o_.open;subst i0 i1 i2 i3;have hs2:=hb2.size;replace HB:=HB.tr hb2 (by omega);replace K1:=K1.kb hb2;replace K3:=K3.kb hb2;replace HX:=H_ (HX.o.below hb2 (by omega));have O6:=H_ (show Υ w1 w2 w2 (.slice z0 D.first z1) (.slice z2 D.goal z3) (.slice z4 D.made z5) (.slice z6 D.now z7) D from o_);clear hb2 o_ HW d0 d1 d2 d3;have⟨w3,hw3⟩:=xa_ w2 #[.slice z0 D.first z1,.slice z2 D.goal z3,.slice z4 D.made z5,.slice z6 D.now z7] 31;obtain⟨hb3,K6_,hs3⟩:=Μ hw3;have K6:=H_ K6_;replace HB:=HB.tr hb3 (by omega);replace K1:=K1.kb hb3;replace K3:=K3.kb hb3;replace HX:=H_ (HX.o.below hb3 (by omega));replace O6:=H_ (O6.o.below hb3 (le_ _));have HW3:=H_ hw3;clear hb3 K6_ hw3;go_wp2_with (rw[<-HW3.o])
 refine(zl8 l _ rfl w3 hl).mono ?_;rintro e4 w4 ⟨rfl,hb4⟩;have hs4:=hb4.size;replace HB:=HB.tr hb4 (by omega);replace HX:=H_ (HX.o.below hb4 (by omega));replace O6:=H_ (O6.o.below hb4 (by omega));replace K1:=K1.kb hb4;replace K3:=K3.kb hb4;replace K6:=K6.kb hb4;clear hb4 HW3;rw[zqw HRA.o];unfold zhb;have⟨w5,hw5⟩:=xa_ w4 #[.int .i64 A.kind,.int .i64 A.step.which,.bool A.step.back,.int .i64 A.step.at_,.int .i64 A.count] 69;obtain⟨hb5,KA_,hs5⟩:=Μ hw5;replace HB:=HB.tr hb5 (by omega);replace HX:=H_ (HX.o.below hb5 (by omega));replace O6:=H_ (O6.o.below hb5 (by omega));replace K1:=K1.kb hb5;replace K3:=K3.kb hb5;replace K6:=K6.kb hb5;have KA:=H_ KA_;have⟨d0,d1,d2,d3⟩:=K1.o.c4;have⟨a0,a1,a2,a3,a4⟩:=KA.o.c5;rw[hw5]at d0 d1 d2 d3 a0 a1 a2 a3 a4;clear hb5 KA_;go_wp2_with fail
 simp only[<-hw5];clear hw5 d0 d1 d2 d3 a0 a1 a2 a3 a4;refine(znc _ _ a b c d D A w5 HX.o (by omega) HM.o).mono ?_;rintro e6 w6 ⟨x0,x1,x2,x3,ok,rfl,o_,hok,hb6⟩;obtain⟨R,t,hR⟩:∃ R t,Χ D A=(R,t):=⟨_,_,rfl⟩;have HR:=H_ hR;rw[hR]at o_ hok;obtain rfl:ok=t:=hok;clear hR;obtain⟨z0,z1,z2,z3,z4,z5,z6,z7,rfl,rfl,rfl,rfl⟩:=o_.open;have hs6:=hb6.size;replace HB:=HB.tr hb6 (by omega);replace K3:=K3.kb hb6;have O4:=H_ (o_.wide (lo':=w.heap.size) (by omega) (le_ _));have O4':=H_ o_;clear hb6 o_ K1 HX KA K6 O6;have⟨w7,hw7⟩:=xa_ w6 #[(.slice z0 R.first z1),(.slice z2 R.goal z3),(.slice z4 R.made z5),(.slice z6 R.now z7)] 31;obtain⟨hb7,K5,hs7⟩:=Μ hw7;replace HB:=HB.tr hb7 (by omega);replace K3:=K3.kb hb7;replace O4':=H_ (O4'.o.below hb7 (le_ _));obtain⟨k0,k1,k2,k3⟩:=K5.c4;have⟨c0,c1,c2,c3⟩:=K3.o.c4;have⟨f0,f1,f2,f3⟩:=K3.o.f4;have HW7:=H_ hw7;have⟨wz,hwz⟩:=x4_ w7 (w+1) (.slice z0 R.first z1) (.slice z2 R.goal z3) (.slice z4 R.made z5) (.slice z6 R.now z7);have KZ:=K3.o.set4 (.slice z0 R.first z1) (.slice z2 R.goal z3) (.slice z4 R.made z5) (.slice z6 R.now z7);have hO:=β.set4 (w+1) w7 (.slice z0 R.first z1) (.slice z2 R.goal z3) (.slice z4 R.made z5) (.slice z6 R.now z7);rw[<-hwz]at KZ hO;have hsz:=hO.size;have HZ:=H_ (δ HB.o hO (by omega) (by omega));have OZ:=H_ (O4'.o.outside hO (.inr (by omega)));obtain⟨q0,q1,q2,q3⟩:=KZ.c4;rw[hw7]at k0 k1 k2 k3 c0 c1 c2 c3 f0 f1 f2 f3 hwz;clear KZ hO hb7 K5 hw7;cases ok
 all_goals (
  go_wp2_with fail
  simp only[<-hwz])
 ·refine d_ (v:=.tuple #[π (.slice z0 R.first z1) (.slice z2 R.goal z3) (.slice z4 R.made z5) (.slice z6 R.now z7),.string ⟨#[110,111]⟩]) (by simp[results,results21,go_sem,q0,q1,q2,q3]) rfl ⟨_,_,_,_,_,rfl,?_,?_,HZ.o⟩
  ·rw[HR.o];rfl
  ·rw[HR.o];exact OZ.o.wide (by omega) (by omega)
 ·refine d_ (v:=.tuple #[π (.slice z0 R.first z1) (.slice z2 R.goal z3) (.slice z4 R.made z5) (.slice z6 R.now z7),.string ⟨#[111,107]⟩]) (by simp[results,results21,go_sem,q0,q1,q2,q3]) rfl ⟨_,_,_,_,_,rfl,?_,?_,HZ.o⟩
  ·rw[HR.o];rfl
  ·rw[HR.o];exact OZ.o.wide (by omega) (by omega)
theorem zt4(lo hi:Nat)(a b c d:Value)(D:Dsk)(l:List UInt8)(s:ByteArray)(hs:s=⟨l.toArray⟩)(w:World)(hx:Ι lo hi w a b c d D)(hh:hi<=w)(hm:D.size<=1048576)(hl:l.length<=2097152):
  Calls prog 21 #[π a b c d,.string s] w (zfj λa' b' c' d' s' w'=>s'=⟨(za3 D l).2.toArray⟩/\Υ w w' w' a' b' c' d' (za3 D l).1/\Below w w w'):=by
 cases hv:Θ D with
 | false=>
  rw[show za3 D l=(Dsk.none,[]) by unfold za3;rw[hv];rfl];exact zyz lo hi a b c d D s w hx hh hm hv
 | true=>
  cases hr:zba l with
  | none=>
   rw[show za3 D l=(D,zao D l) by unfold za3 zd3;rw[hv,hr];rfl];exact z2f lo hi a b c d D l s hs w hx hh hm hl hv hr
  | some A=>
   rw[show za3 D l=((Χ D A).1,okT (Χ D A).2) by unfold za3 zd3;rw[hv,hr];rfl];have h:=zx1 lo hi a b c d D l s hs w hx hh hm hl A hv hr;rw[zte]at h;exact h
theorem zuf(D:Dsk)(l:List UInt8):(za3 D l).1.size<=180:=by
 unfold za3;cases h:Θ D
 ·simp[Dsk.none,Dsk.size]
 ·simp only[d6_]
  unfold zd3;cases zba l with
  | none=>exact znv h
  | some A=>exact znv (zl3 A h)
theorem zw5 {D:Dsk}(l:List UInt8)(h:Θ D=true):Θ (za3 D l).1=true:=by
 unfold za3;rw[h];simp only[d6_];unfold zd3;cases zba l with
 | none=>exact h
 | some A=>exact zl3 A h
def zm3:List PanicEntry:=[{ v:=.iface 84 (.agg #[]),recovered:=false }]
def z1t(p:PR)(g:Nat)(w:World)(txt s:List UInt8)(e':Ending)(w':World):Prop:=
 (∃ e r,p s=some (e,r)/\zpv g w txt e r e' w')\/(p s=none/\e'=.panicked zm3/\β g (g+1) w w')
def Tot(f:FuncId)(p:PR)(n:Nat):Prop:=∀ (B g:Nat) (w:World) (txt s:List UInt8),KR g w txt s->s.length<n->B<=g->zdn B w->Calls prog f #[.pointer (q_ g 0)] w (z1t p g w txt s)
theorem zp5 {es:List Int} {s:List UInt8}:(Ψ 42 s=false->zab es s=(es,s))/\(Ψ 42 s=true->zab es s=zab (es++[21]) s.tail):=by
 cases s with
 | nil=>exact⟨λ_=>rfl,λh=>by cases h⟩
 | cons c t=>
  refine⟨λh=>?_,λh=>?_⟩
  ·simp only[Ψ,b2_,ne_eq]at h
   rw[zab,m_ (by omega)]
  ·simp only[Ψ,bu_]at h
   rw[zab,x_ (by omega)];rfl
theorem zr4 {op:Int} {part:PR} {es:List Int} {s:List UInt8}(h:Ψ sign s=false):Ζ sign op part m es s=some (es,s):=by
 cases s with
 | nil=>cases m<;>rfl
 | cons c t=>
  simp only[Ψ,b2_,ne_eq]at h;cases m with
  | zero=>rw[Ζ,m_ (by omega)]
  | succ m=>rw[Ζ,m_ (by omega)]
theorem zpa {op:Int} {part:PR} {es:List Int} {s:List UInt8}(h:Ψ sign s=true):Ζ sign op part (m+1) es s=(part s.tail).bind λx=>Ζ sign op part m (es++x.1++[op]) x.2:=by
 cases s with
 | nil=>cases h
 | cons c t=>
  simp only[Ψ,bu_]at h;rw[Ζ,x_ (by omega)];rfl
theorem zvg(single:PR)(n:Nat)(hsh:zcd single)(hpart:Tot 193 single n):Tot 162 (zak single) n:=by
 intro B g w txt s hk hn hB hM;have hg:=hk.lt;have h199:=hk.2.2.2;have hslen:=hk.2.2.1
 go_enter func162,ntmps162
 go_wp2_with fail
 refine(hpart B g w txt s hk hn hB hM).mono ?_;rintro e' w1 (⟨e1,r1,hp1,v1,rfl,hown,hk1,ho⟩|⟨hp1,rfl,ho⟩)
 rotate_left
 ·exact⟨rfl,.inr ⟨by simp[zak,hp1],rfl,ho⟩⟩
 have hlen:=hsh _ _ _ hp1;have HP:=H_ (show zak single s=some (zab e1 r1) by simp[zak,hp1]);obtain⟨a1,cap1,rfl,_⟩:=ζ hown;have H:=H_ (a_ hown (a_ hk1 (a_ ho (show zak single s=some (zab e1 r1) from HP.o))));clear hk hM hp1 hown hk1 ho hpart hsh;go_wp2;go_loopw [3] (λv wr=>∃ (a:Option Addr) (cap:Nat) (es:List Int) (s':List UInt8),v=.slice a es cap/\es.length+s'.length<=199/\Q_ (γ w wr 3 wr (.slice a es cap) es/\KR g wr txt s'/\β g (g+1) w wr/\zak single s=some (zab es s'))) (λv _=>400-zbe v)
 case atStart=>exact⟨a1,cap1,e1,r1,rfl,by omega,H⟩
 case round=>
  obtain⟨a,cap,es,s',rfl,hl,HR⟩:=hrel;clear H;cases q:Ψ 42 s'
  ·have HF:=H_ (show zak single s=some (es,s') by rw[HR.o.2.2.2,zp5.1 q])
   go_wp2_with fail
   refine(zb5 g _ txt _ 42 HR.o.2.1).mono ?_;rintro e' w2 ⟨b,rfl,rfl,hk,ho⟩;rw[q]at hk ⊢;have HR2:=H_ (a_ ((HR.o.1.outside ho (.inr (by omega))).wide2' ho.size) (a_ (show KR g w2 txt s' from hk) (HR.o.2.2.1.trans ho)));clear hk ho;go_wp2;go_ret;exact .inl ⟨es,s',HF.o,ε.mk _ rfl ⟨HR2.o.1,HR2.o.2.1,HR2.o.2.2⟩⟩
  ·have HQ:=H_ (show zak single s=some (zab (es++[21]) s'.tail) by rw[HR.o.2.2.2,zp5.2 q])
   have htl:=zhw q;go_wp2_with fail
   refine(zb5 g _ txt _ 42 HR.o.2.1).mono ?_;rintro e' w2 ⟨b,rfl,rfl,hk,ho⟩;rw[q]at hk ⊢;have HR2:=H_ (a_ ((HR.o.1.outside ho (.inr (by omega))).wide2' ho.size) (a_ (show KR g w2 txt s'.tail from hk) (HR.o.2.2.1.trans ho)));clear hk ho q HR;have hown:=HR2.o.1;have hsz:=HR2.o.2.2.size;go_wp2_with (at_builtin;refine zah _ rfl _ _ 22 rfl 3 (0:Int) 1 8 underlying22 τ rfl (by decide) (by decide) rfl hown 1 (ints [21]) rfl rfl (Β _) rfl ?c1 ?c2 ?_)
   case c1=>omega
   case c2=>omega
   intro v' w5 hown5 hout5 _;obtain⟨a',cap',rfl,_⟩:=ζ hown5;have H3:=H_ (a_ hown5 hout5);clear hown hown5 hout5;go_wp2;go_roundw
   case rel=>
    refine⟨a',cap',es++[21],s'.tail,by simp,by simp;omega,H_ ⟨γ.app2 H3.o.1,HR2.o.2.1.outside H3.o.2 hg,HR2.o.2.2.fresh H3.o.2 (le_ _),HQ.o⟩⟩
   case measure=>simp[zbe];omega
theorem zti(part:PR)(n:Nat)(hsh:zcd part)(hpart:Tot 162 part n):Tot 119 (Φ 59 19 part) n:=by
 intro B g w txt s hk hn hB hM;have hg:=hk.lt;have h199:=hk.2.2.2;have hslen:=hk.2.2.1;have HM:=H_ hM;have HP:=H_ hpart;have HS:=H_ hsh
 go_enter func119,ntmps119
 go_wp2_with fail
 refine(hpart B g w txt s hk hn hB hM).mono ?_;rintro e' w1 (⟨e1,r1,hp1,v1,rfl,hown,hk1,ho⟩|⟨hp1,rfl,ho⟩)
 rotate_left
 ·exact⟨rfl,.inr ⟨by simp[Φ,hp1],rfl,ho⟩⟩
 have hlen:=hsh _ _ _ hp1;have HPP:=H_ (show Φ 59 19 part s=Ζ 59 19 part r1.length e1 r1 by simp[Φ,hp1]);obtain⟨a1,cap1,rfl,_⟩:=ζ hown;have H:=H_ (a_ hown (a_ hk1 (a_ ho (show Φ 59 19 part s=Ζ 59 19 part r1.length e1 r1 from HPP.o))));clear hk hM hp1 hown hk1 ho hpart hsh;go_wp2;go_loopw [3] (λv wr=>∃ (a:Option Addr) (cap:Nat) (es:List Int) (s':List UInt8) (m:Nat),v=.slice a es cap/\es.length+s'.length<=199/\s'.length<n/\s'.length<=m/\Q_ (γ w wr 3 wr (.slice a es cap) es/\KR g wr txt s'/\β g (g+1) w wr/\Φ 59 19 part s=Ζ 59 19 part m es s')) (λv _=>400-zbe v)
 case atStart=>exact⟨a1,cap1,e1,r1,r1.length,rfl,by omega,by omega,le_ _,H⟩
 case round=>
  obtain⟨a,cap,es,s',m,rfl,hl,hl2,hlm,HR⟩:=hrel;clear H;cases q:Ψ 59 s'
  ·have HF:=H_ (show Φ 59 19 part s=some (es,s') by rw[HR.o.2.2.2,zr4 q])
   go_wp2_with fail
   refine(zb5 g _ txt _ 59 HR.o.2.1).mono ?_;rintro e' w2 ⟨b,rfl,rfl,hk,ho⟩;rw[show Ψ 59 s'=false from q]at hk ⊢;have HR2:=H_ (a_ ((HR.o.1.outside ho (.inr (by omega))).wide2' ho.size) (a_ (show KR g w2 txt s' from hk) (HR.o.2.2.1.trans ho)));clear hk ho;go_wp2;go_ret;exact .inl ⟨es,s',HF.o,ε.mk _ rfl ⟨HR2.o.1,HR2.o.2.1,HR2.o.2.2⟩⟩
  ·have htl:=zhw q
   obtain⟨m,rfl⟩:∃ i,m=i+1:=⟨m-1,by omega⟩;have HQ:=H_ (show Φ 59 19 part s=(part s'.tail).bind λx=>Ζ 59 19 part m (es++x.1++[19]) x.2 by rw[HR.o.2.2.2,zpa q]);go_wp2_with fail
   refine(zb5 g _ txt _ 59 HR.o.2.1).mono ?_;rintro e' w2 ⟨b,rfl,rfl,hk,ho⟩;rw[show Ψ 59 s'=true from q]at hk ⊢;have HR2:=H_ (a_ ((HR.o.1.outside ho (.inr (by omega))).wide2' ho.size) (a_ (show KR g w2 txt s'.tail from hk) (HR.o.2.2.1.trans ho)));clear hk ho q HR;go_wp2_with fail
   refine(HP.o B g w2 txt s'.tail HR2.o.2.1 (by omega) hB (HM.o.outside HR2.o.2.2 hB)).mono ?_;rintro e' w3 (⟨e2,r2,hp2,v3,rfl,hown3,hk,ho⟩|⟨hp2,rfl,ho⟩)
   rotate_left
   ·exact⟨rfl,.inr ⟨by rw[HQ.o,hp2];rfl,rfl,HR2.o.2.2.trans ho⟩⟩
   have hsh2:=HS.o _ _ _ hp2;have HQ2:=H_ (show Φ 59 19 part s=Ζ 59 19 part m (es++e2++[19]) r2 by rw[HQ.o,hp2];rfl);have hsz2:=HR2.o.2.2.size;have HX:=H_ hown3.sl;have HR3:=H_ (a_ ((HR2.o.1.outside ho (.inr (by omega))).wide2' ho.size) (a_ hk (HR2.o.2.2.trans ho)));clear hk ho HR2 hown3 hp2 HQ;have hown:=HR3.o.1;have hsz:=HR3.o.2.2.size;go_wp2_with (at_builtin;refine Τ rfl _ _ 22 rfl 3 (0:Int) 1 8 underlying22 τ rfl (by decide) (by decide) rfl hown rfl HX.o (Β _) ?c1 ?c2 ?_)
   case c1=>omega
   case c2=>omega
   intro v4 w4 hown4 _ hout4 _;have HR4:=H_ (a_ hown4 (a_ (HR3.o.2.1.outside hout4 hg) (HR3.o.2.2.fresh hout4 (le_ _))));clear hown hown4 hout4 HR3 HX;have hown:=HR4.o.1;have hsz4:=HR4.o.2.2.size;go_wp2_with (at_builtin;refine zah _ rfl _ _ 22 rfl 3 (0:Int) 1 8 underlying22 τ rfl (by decide) (by decide) rfl hown 1 (ints [19]) rfl rfl (Β _) rfl ?c1 ?c2 ?_)
   case c1=>omega
   case c2=>omega
   intro v' w5 hown5 hout5 _;obtain⟨a',cap',rfl,_⟩:=ζ hown5;have H3:=H_ (a_ hown5 hout5);clear hown hown5 hout5;go_wp2;go_roundw
   case rel=>
    exact⟨a',cap',es++e2++[19],r2,m,by first | (simp;done) | (simp;omega),by simp;omega,by omega,by omega,H_ ⟨γ.app3 H3.o.1,HR4.o.2.1.outside H3.o.2 hg,HR4.o.2.2.fresh H3.o.2 (le_ _),HQ2.o⟩⟩
   case measure=>simp[zbe];omega
theorem zwc(part:PR)(n:Nat)(hsh:zcd part)(hpart:Tot 119 part n):Tot 68 (Φ 43 20 part) n:=by
 intro B g w txt s hk hn hB hM;have hg:=hk.lt;have h199:=hk.2.2.2;have hslen:=hk.2.2.1;have HM:=H_ hM;have HP:=H_ hpart;have HS:=H_ hsh
 go_enter func68,ntmps68
 go_wp2_with fail
 refine(hpart B g w txt s hk hn hB hM).mono ?_;rintro e' w1 (⟨e1,r1,hp1,v1,rfl,hown,hk1,ho⟩|⟨hp1,rfl,ho⟩)
 rotate_left
 ·exact⟨rfl,.inr ⟨by simp[Φ,hp1],rfl,ho⟩⟩
 have hlen:=hsh _ _ _ hp1;have HPP:=H_ (show Φ 43 20 part s=Ζ 43 20 part r1.length e1 r1 by simp[Φ,hp1]);obtain⟨a1,cap1,rfl,_⟩:=ζ hown;have H:=H_ (a_ hown (a_ hk1 (a_ ho (show Φ 43 20 part s=Ζ 43 20 part r1.length e1 r1 from HPP.o))));clear hk hM hp1 hown hk1 ho hpart hsh;go_wp2;go_loopw [3] (λv wr=>∃ (a:Option Addr) (cap:Nat) (es:List Int) (s':List UInt8) (m:Nat),v=.slice a es cap/\es.length+s'.length<=199/\s'.length<n/\s'.length<=m/\Q_ (γ w wr 3 wr (.slice a es cap) es/\KR g wr txt s'/\β g (g+1) w wr/\Φ 43 20 part s=Ζ 43 20 part m es s')) (λv _=>400-zbe v)
 case atStart=>exact⟨a1,cap1,e1,r1,r1.length,rfl,by omega,by omega,le_ _,H⟩
 case round=>
  obtain⟨a,cap,es,s',m,rfl,hl,hl2,hlm,HR⟩:=hrel;clear H;cases q:Ψ 43 s'
  ·have HF:=H_ (show Φ 43 20 part s=some (es,s') by rw[HR.o.2.2.2,zr4 q])
   go_wp2_with fail
   refine(zb5 g _ txt _ 43 HR.o.2.1).mono ?_;rintro e' w2 ⟨b,rfl,rfl,hk,ho⟩;rw[show Ψ 43 s'=false from q]at hk ⊢;have HR2:=H_ (a_ ((HR.o.1.outside ho (.inr (by omega))).wide2' ho.size) (a_ (show KR g w2 txt s' from hk) (HR.o.2.2.1.trans ho)));clear hk ho;go_wp2;go_ret;exact .inl ⟨es,s',HF.o,ε.mk _ rfl ⟨HR2.o.1,HR2.o.2.1,HR2.o.2.2⟩⟩
  ·have htl:=zhw q
   obtain⟨m,rfl⟩:∃ i,m=i+1:=⟨m-1,by omega⟩;have HQ:=H_ (show Φ 43 20 part s=(part s'.tail).bind λx=>Ζ 43 20 part m (es++x.1++[20]) x.2 by rw[HR.o.2.2.2,zpa q]);go_wp2_with fail
   refine(zb5 g _ txt _ 43 HR.o.2.1).mono ?_;rintro e' w2 ⟨b,rfl,rfl,hk,ho⟩;rw[show Ψ 43 s'=true from q]at hk ⊢;have HR2:=H_ (a_ ((HR.o.1.outside ho (.inr (by omega))).wide2' ho.size) (a_ (show KR g w2 txt s'.tail from hk) (HR.o.2.2.1.trans ho)));clear hk ho q HR;go_wp2_with fail
   refine(HP.o B g w2 txt s'.tail HR2.o.2.1 (by omega) hB (HM.o.outside HR2.o.2.2 hB)).mono ?_;rintro e' w3 (⟨e2,r2,hp2,v3,rfl,hown3,hk,ho⟩|⟨hp2,rfl,ho⟩)
   rotate_left
   ·exact⟨rfl,.inr ⟨by rw[HQ.o,hp2];rfl,rfl,HR2.o.2.2.trans ho⟩⟩
   have hsh2:=HS.o _ _ _ hp2;have HQ2:=H_ (show Φ 43 20 part s=Ζ 43 20 part m (es++e2++[20]) r2 by rw[HQ.o,hp2];rfl);have hsz2:=HR2.o.2.2.size;have HX:=H_ hown3.sl;have HR3:=H_ (a_ ((HR2.o.1.outside ho (.inr (by omega))).wide2' ho.size) (a_ hk (HR2.o.2.2.trans ho)));clear hk ho HR2 hown3 hp2 HQ;have hown:=HR3.o.1;have hsz:=HR3.o.2.2.size;go_wp2_with (at_builtin;refine Τ rfl _ _ 22 rfl 3 (0:Int) 1 8 underlying22 τ rfl (by decide) (by decide) rfl hown rfl HX.o (Β _) ?c1 ?c2 ?_)
   case c1=>omega
   case c2=>omega
   intro v4 w4 hown4 _ hout4 _;have HR4:=H_ (a_ hown4 (a_ (HR3.o.2.1.outside hout4 hg) (HR3.o.2.2.fresh hout4 (le_ _))));clear hown hown4 hout4 HR3 HX;have hown:=HR4.o.1;have hsz4:=HR4.o.2.2.size;go_wp2_with (at_builtin;refine zah _ rfl _ _ 22 rfl 3 (0:Int) 1 8 underlying22 τ rfl (by decide) (by decide) rfl hown 1 (ints [20]) rfl rfl (Β _) rfl ?c1 ?c2 ?_)
   case c1=>omega
   case c2=>omega
   intro v' w5 hown5 hout5 _;obtain⟨a',cap',rfl,_⟩:=ζ hown5;have H3:=H_ (a_ hown5 hout5);clear hown hown5 hout5;go_wp2;go_roundw
   case rel=>
    exact⟨a',cap',es++e2++[20],r2,m,by first | (simp;done) | (simp;omega),by simp;omega,by omega,by omega,H_ ⟨γ.app3 H3.o.1,HR4.o.2.1.outside H3.o.2 hg,HR4.o.2.2.fresh H3.o.2 (le_ _),HQ2.o⟩⟩
   case measure=>simp[zbe];omega
end Go.Proofs.YtfnnhimopokpnaaGreatDoor
