/- Lemmas for this seat; no condition. -/
import Derived.Test.YtfnnhimopokpnaaGreatDoorHABF
namespace Go.Proofs.YtfnnhimopokpnaaGreatDoor
open Go.RowKit
set_option maxRecDepth 100000
set_option maxHeartbeats 0
set_option linter.unusedVariables false
theorem spec_DeskLine_ask (lo hi:Nat) (a b c d:Value) (D:Dsk) (l:List UInt8) (s:ByteArray) (hs:s=⟨l.toArray⟩) (w:World) (hx:DeskAt lo hi w a b c d D) (hh:hi≤w.heap.size) (hm:D.size≤1048576) (hl:l.length≤2097152) (hv:deskV D=true) (hr:readAc l=none) :
  Calls Tryz.prog 21 #[aggD a b c d,.string s] w (RetDS fun a' b' c' d' s' w'=>s'=⟨(askV D l).toArray⟩∧DeskOwn w.heap.size w'.heap.size w' a' b' c' d' D∧Below w.heap.size w w'):=by
 subst hs
 have HM:=H_ hm
 by_cases hne:l=[101,113,117,97,108]
 ·exact spec_DeskLine_eq lo hi a b c d D l _ rfl w hx hh hm hl hv hr hne
 have HNE:=H_ hne
 clear hne
 obtain ⟨w0,hw0⟩:∃ w0,w0=(w.alloc (.cells #[a,b,c,d] 31)).alloc (.cells #[.slice none 0 0,.slice none 0 0,.slice none 0 0,.slice none 0 0] 31):=⟨_,rfl⟩
 have hb0:Below w.heap.size w w0:=by rw [hw0];exact ((B_ _ _).alloc (le_ _) _).alloc (by simp) _
 have hs0:w0.heap.size=w.heap.size+2:=by rw [hw0];simp
 have K1:Hid (Blk w.heap.size (.cells #[a,b,c,d] 31) w0):=by
  rw [hw0]
  exact H_ ((Blk.new w _).below ((B_ (w.alloc _).heap.size _).alloc (le_ _) _) (by simp))
 have K3:Hid (Blk (w.heap.size+1) (.cells #[.slice none 0 0,.slice none 0 0,.slice none 0 0,.slice none 0 0] 31) w0):=by
  have h:=Blk.new (w.alloc (.cells #[a,b,c,d] 31)) (.cells #[.slice none 0 0,.slice none 0 0,.slice none 0 0,.slice none 0 0] 31)
  rw [alloc_size] at h
  rw [hw0];exact H_ h
 have HX:=H_ (hx.below hb0 hh)
 have HB:=H_ hb0
 have HW0:=H_ hw0
 have HV:=H_ hv
 have HRA:=H_ hr
 clear hx hb0 hw0 hv hr
 have d0:=K1.out.cell 0
 have d1:=K1.out.cell 1
 have d2:=K1.out.cell 2
 have d3:=K1.out.cell 3
 go_enter Tryz.func21,Tryz.ntmps21
 go_wp2_with (rw [←HW0.out])
 refine (spec_DeskValid _ _ a b c d D w0 HX.out (by omega) HM.out).mono ?_
 rintro e1 w1 ⟨rfl,hb1⟩
 rw [HV.out]
 have hs1:=hb1.size
 replace HB:=H_ (HB.out.trans (hb1.mono (by omega)))
 replace K1:=H_ (K1.out.below hb1 K1.out.lt)
 replace K3:=H_ (K3.out.below hb1 K3.out.lt)
 replace HX:=H_ (HX.out.below hb1 (by omega))
 clear hb1 d0 d1 d2 d3
 have hk:=deskV_kat HV.out
 have HW:=H_ (spec_l10With _ _ _ _ a b c d c D D.made w1 HX.out (by omega) HM.out HX.out.made (by omega) (by have:=HM.out;unfold Dsk.size at this;omega) hk.1)
 rw [hk.2,Option.getD_some] at HW
 have hmade:=(deskV_parts HV.out).2.2.2.1
 have d0:=K1.out.cell 0
 have d1:=K1.out.cell 1
 have d2:=K1.out.cell 2
 have d3:=K1.out.cell 3
 clear hk
 go_wp2_with fail
 refine HW.out.mono ?_
 rintro e2 w2 ⟨x0,x1,x2,x3,rfl,o_,hb2⟩
 obtain ⟨z0,z1,z2,z3,z4,z5,z6,z7,i0,i1,i2,i3⟩:=o_.open
 subst i0 i1 i2 i3
 have hs2:=hb2.size
 replace HB:=H_ (HB.out.trans (hb2.mono (by omega)))
 replace K1:=H_ (K1.out.below hb2 K1.out.lt)
 replace K3:=H_ (K3.out.below hb2 K3.out.lt)
 replace HX:=H_ (HX.out.below hb2 (by omega))
 have O6:=H_ (show DeskOwn w1.heap.size w2.heap.size w2 (.slice z0 D.first.length z1) (.slice z2 D.goal.length z3) (.slice z4 D.made.length z5) (.slice z6 D.now.length z7) D from o_)
 clear hb2 o_ HW d0 d1 d2 d3
 obtain ⟨w3,hw3⟩:∃ w3,w3=w2.alloc (.cells #[.slice z0 D.first.length z1,.slice z2 D.goal.length z3,.slice z4 D.made.length z5,.slice z6 D.now.length z7] 31):=⟨_,rfl⟩
 obtain ⟨hb3,K6_,hs3⟩:=box_facts2 hw3
 have K6:=H_ K6_
 replace HB:=H_ (HB.out.trans (hb3.mono (by omega)))
 replace K1:=H_ (K1.out.below hb3 K1.out.lt)
 replace K3:=H_ (K3.out.below hb3 K3.out.lt)
 replace HX:=H_ (HX.out.below hb3 (by omega))
 replace O6:=H_ (O6.out.below hb3 (le_ _))
 have HW3:=H_ hw3
 clear hb3 K6_ hw3
 go_wp2_with (rw [←HW3.out])
 refine (spec_ReadAct l _ rfl w3 hl).mono ?_
 rintro e4 w4 ⟨rfl,hb4⟩
 have hs4:=hb4.size
 replace HB:=H_ (HB.out.trans (hb4.mono (by omega)))
 replace HX:=H_ (HX.out.below hb4 (by omega))
 replace O6:=H_ (O6.out.below hb4 (by omega))
 replace K1:=H_ (K1.out.below hb4 K1.out.lt)
 replace K3:=H_ (K3.out.below hb4 K3.out.lt)
 replace K6:=H_ (K6.out.below hb4 K6.out.lt)
 clear hb4 HW3
 rw [HRA.out,rdAc_none]
 obtain ⟨w5,hw5⟩:∃ w5,w5=w4.alloc (.cells #[.int .i64 0,.int .i64 0,.bool false,.int .i64 0,.int .i64 0] 69):=⟨_,rfl⟩
 obtain ⟨hb5,KA_,hs5⟩:=box_facts2 hw5
 replace HB:=H_ (HB.out.trans (hb5.mono (by omega)))
 replace HX:=H_ (HX.out.below hb5 (by omega))
 replace O6:=H_ (O6.out.below hb5 (by omega))
 replace K1:=H_ (K1.out.below hb5 K1.out.lt)
 replace K3:=H_ (K3.out.below hb5 K3.out.lt)
 replace K6:=H_ (K6.out.below hb5 K6.out.lt)
 clear hb5 KA_ HRA
 unfold Dsk.size at hm
 go_upto_region 10 with fail
 simp only [←hw5]
 clear hw5
 rcases quest l with rfl|rfl|rfl|rfl|rfl|rfl|rfl|rfl|rfl|hq
 ·skip
  have hgs:∀ w',Below w5.heap.size w5 w'→w'.cell? ⟨w2.heap.size,0,none⟩=some (.slice z0 D.first.length z1)∧w'.cell? ⟨w2.heap.size,1,none⟩=some (.slice z2 D.goal.length z3)∧w'.cell? ⟨w2.heap.size,2,none⟩=some (.slice z4 D.made.length z5)∧w'.cell? ⟨w2.heap.size,3,none⟩=some (.slice z6 D.now.length z7)∧w'.cell? ⟨w.heap.size,0,none⟩=some a∧w'.cell? ⟨w.heap.size,1,none⟩=some b∧w'.cell? ⟨w.heap.size,2,none⟩=some c∧w'.cell? ⟨w.heap.size,3,none⟩=some d:=fun w' hb=>⟨(K6.out.below hb K6.out.lt).cell 0,(K6.out.below hb K6.out.lt).cell 1,(K6.out.below hb K6.out.lt).cell 2,(K6.out.below hb K6.out.lt).cell 3,(K1.out.below hb K1.out.lt).cell 0,(K1.out.below hb K1.out.lt).cell 1,(K1.out.below hb K1.out.lt).cell 2,(K1.out.below hb K1.out.lt).cell 3⟩
  have hbA:Below w5.heap.size w5 w5.drew:=Below.drew (B_ _ _)
  have hS:=hgs w5 (B_ _ _)
  have hSA:=hgs _ hbA
  have HGS:=H_ hgs
  have hdz:w5.drew.heap.size=w5.heap.size:=rfl
  have HXd:=H_ (HX.out.below hbA (by omega))
  clear hgs
  go_upto_region 11 with fail
  go_region_held3 (fun w'=>w'.cell? ⟨w2.heap.size,0,none⟩=some (.slice z0 D.first.length z1)∧w'.cell? ⟨w2.heap.size,1,none⟩=some (.slice z2 D.goal.length z3)∧w'.cell? ⟨w2.heap.size,2,none⟩=some (.slice z4 D.made.length z5)∧w'.cell? ⟨w2.heap.size,3,none⟩=some (.slice z6 D.now.length z7)∧w'.cell? ⟨w.heap.size,0,none⟩=some a∧w'.cell? ⟨w.heap.size,1,none⟩=some b∧w'.cell? ⟨w.heap.size,2,none⟩=some c∧w'.cell? ⟨w.heap.size,3,none⟩=some d) (first | with_reducible assumption | go_keep) (first
   | (go_at_call 53;refine (spec_KatText_any _ _ _ D.now w5.drew HXd.out.now (by omega) (by omega)).mono ?_;rintro e7 w7 ⟨rfl,hb_⟩;(have hs7:=hb_.size);(have hb7:=hbA.trans (hb_.mono (by omega)));(have hS7:=HGS.out _ hb7);(have k3:=K3.out.below hb7 K3.out.lt);(have c0:=k3.cell 0);(have c1:=k3.cell 1);(have c2:=k3.cell 2);(have c3:=k3.cell 3);(have f0:=k3.free 0);(have f1:=k3.free 1);(have f2:=k3.free 2);(have f3:=k3.free 3);(have KM:=H_ k3);(have hO_:=Outside.set4 (w.heap.size+1) w7 (.slice z0 D.first.length z1) (.slice z2 D.goal.length z3) (.slice z4 D.made.length z5) (.slice z6 D.now.length z7));(have k6_:=(K6.out.below hb7 K6.out.lt).outside hO_ (.inr (by omega)));(have k1_:=(K1.out.below hb7 K1.out.lt).outside hO_ (.inl (by omega)));(have j0:=k6_.cell 0);(have j1:=k6_.cell 1);(have j2:=k6_.cell 2);(have j3:=k6_.cell 3);(have j4:=k1_.cell 0);(have j5:=k1_.cell 1);(have j6:=k1_.cell 2);(have j7:=k1_.cell 3);(have HB7:=H_ hb7);clear hb_ hb7 k3 hO_ k6_ k1_))
  replace HB:=H_ (HB.out.trans (HB7.out.mono (by omega)))
  replace K3:=KM
  replace O6:=H_ (O6.out.below HB7.out (by omega))
  clear HGS hS hSA hS7 hbA KM
  obtain ⟨wz,hwz⟩:∃ wz,wz=(((w7.setCell ⟨w.heap.size+1,0,none⟩ (.slice z0 D.first.length z1)).setCell ⟨w.heap.size+1,1,none⟩ (.slice z2 D.goal.length z3)).setCell ⟨w.heap.size+1,2,none⟩ (.slice z4 D.made.length z5)).setCell ⟨w.heap.size+1,3,none⟩ (.slice z6 D.now.length z7):=⟨_,rfl⟩
  have KZ:=K3.out.set4 (.slice z0 D.first.length z1) (.slice z2 D.goal.length z3) (.slice z4 D.made.length z5) (.slice z6 D.now.length z7)
  have hO:=Outside.set4 (w.heap.size+1) w7 (.slice z0 D.first.length z1) (.slice z2 D.goal.length z3) (.slice z4 D.made.length z5) (.slice z6 D.now.length z7)
  rw [←hwz] at KZ hO
  have hsz:=hO.size
  have HZ:=H_ (Below.outside HB.out hO (by omega) (by omega))
  have OZ:=H_ (O6.out.outside hO (.inr (by omega)))
  have q0:=KZ.cell 0
  have q1:=KZ.cell 1
  have q2:=KZ.cell 2
  have q3:=KZ.cell 3
  clear KZ hO
  simp only [←hwz]
  clear hwz
  clear c0 c1 c2 c3 f0 f1 f2 f3 j0 j1 j2 j3 j4 j5 j6 j7
  go_wp2
  refine bodyPost_ret (v:=.tuple #[aggD (.slice z0 D.first.length z1) (.slice z2 D.goal.length z3) (.slice z4 D.made.length z5) (.slice z6 D.now.length z7),.string ⟨(katTxt D.now).toArray⟩]) (by simp [results,Tryz.results21,go_sem,q0,q1,q2,q3]) rfl ⟨_,_,_,_,_,rfl,by rw [askV_now],?_,HZ.out⟩
  exact OZ.out.wide (by omega) (by omega)
 ·skip
  have hgs:∀ w',Below w5.heap.size w5 w'→w'.cell? ⟨w2.heap.size,0,none⟩=some (.slice z0 D.first.length z1)∧w'.cell? ⟨w2.heap.size,1,none⟩=some (.slice z2 D.goal.length z3)∧w'.cell? ⟨w2.heap.size,2,none⟩=some (.slice z4 D.made.length z5)∧w'.cell? ⟨w2.heap.size,3,none⟩=some (.slice z6 D.now.length z7)∧w'.cell? ⟨w.heap.size,0,none⟩=some a∧w'.cell? ⟨w.heap.size,1,none⟩=some b∧w'.cell? ⟨w.heap.size,2,none⟩=some c∧w'.cell? ⟨w.heap.size,3,none⟩=some d:=fun w' hb=>⟨(K6.out.below hb K6.out.lt).cell 0,(K6.out.below hb K6.out.lt).cell 1,(K6.out.below hb K6.out.lt).cell 2,(K6.out.below hb K6.out.lt).cell 3,(K1.out.below hb K1.out.lt).cell 0,(K1.out.below hb K1.out.lt).cell 1,(K1.out.below hb K1.out.lt).cell 2,(K1.out.below hb K1.out.lt).cell 3⟩
  have hbA:Below w5.heap.size w5 w5.drew:=Below.drew (B_ _ _)
  have hS:=hgs w5 (B_ _ _)
  have hSA:=hgs _ hbA
  have HGS:=H_ hgs
  have hdz:w5.drew.heap.size=w5.heap.size:=rfl
  have HXd:=H_ (HX.out.below hbA (by omega))
  clear hgs
  go_upto_region 13 with fail
  go_region_held3 (fun w'=>w'.cell? ⟨w2.heap.size,0,none⟩=some (.slice z0 D.first.length z1)∧w'.cell? ⟨w2.heap.size,1,none⟩=some (.slice z2 D.goal.length z3)∧w'.cell? ⟨w2.heap.size,2,none⟩=some (.slice z4 D.made.length z5)∧w'.cell? ⟨w2.heap.size,3,none⟩=some (.slice z6 D.now.length z7)∧w'.cell? ⟨w.heap.size,0,none⟩=some a∧w'.cell? ⟨w.heap.size,1,none⟩=some b∧w'.cell? ⟨w.heap.size,2,none⟩=some c∧w'.cell? ⟨w.heap.size,3,none⟩=some d) (first | with_reducible assumption | go_keep) (first
   | (go_at_call 53;refine (spec_KatText_any _ _ _ D.first w5.drew HXd.out.first (by omega) (by omega)).mono ?_;rintro e7 w7 ⟨rfl,hb_⟩;(have hs7:=hb_.size);(have hb7:=hbA.trans (hb_.mono (by omega)));(have hS7:=HGS.out _ hb7);(have k3:=K3.out.below hb7 K3.out.lt);(have c0:=k3.cell 0);(have c1:=k3.cell 1);(have c2:=k3.cell 2);(have c3:=k3.cell 3);(have f0:=k3.free 0);(have f1:=k3.free 1);(have f2:=k3.free 2);(have f3:=k3.free 3);(have KM:=H_ k3);(have hO_:=Outside.set4 (w.heap.size+1) w7 (.slice z0 D.first.length z1) (.slice z2 D.goal.length z3) (.slice z4 D.made.length z5) (.slice z6 D.now.length z7));(have k6_:=(K6.out.below hb7 K6.out.lt).outside hO_ (.inr (by omega)));(have k1_:=(K1.out.below hb7 K1.out.lt).outside hO_ (.inl (by omega)));(have j0:=k6_.cell 0);(have j1:=k6_.cell 1);(have j2:=k6_.cell 2);(have j3:=k6_.cell 3);(have j4:=k1_.cell 0);(have j5:=k1_.cell 1);(have j6:=k1_.cell 2);(have j7:=k1_.cell 3);(have HB7:=H_ hb7);clear hb_ hb7 k3 hO_ k6_ k1_))
  replace HB:=H_ (HB.out.trans (HB7.out.mono (by omega)))
  replace K3:=KM
  replace O6:=H_ (O6.out.below HB7.out (by omega))
  clear HGS hS hSA hS7 hbA KM
  obtain ⟨wz,hwz⟩:∃ wz,wz=(((w7.setCell ⟨w.heap.size+1,0,none⟩ (.slice z0 D.first.length z1)).setCell ⟨w.heap.size+1,1,none⟩ (.slice z2 D.goal.length z3)).setCell ⟨w.heap.size+1,2,none⟩ (.slice z4 D.made.length z5)).setCell ⟨w.heap.size+1,3,none⟩ (.slice z6 D.now.length z7):=⟨_,rfl⟩
  have KZ:=K3.out.set4 (.slice z0 D.first.length z1) (.slice z2 D.goal.length z3) (.slice z4 D.made.length z5) (.slice z6 D.now.length z7)
  have hO:=Outside.set4 (w.heap.size+1) w7 (.slice z0 D.first.length z1) (.slice z2 D.goal.length z3) (.slice z4 D.made.length z5) (.slice z6 D.now.length z7)
  rw [←hwz] at KZ hO
  have hsz:=hO.size
  have HZ:=H_ (Below.outside HB.out hO (by omega) (by omega))
  have OZ:=H_ (O6.out.outside hO (.inr (by omega)))
  have q0:=KZ.cell 0
  have q1:=KZ.cell 1
  have q2:=KZ.cell 2
  have q3:=KZ.cell 3
  clear KZ hO
  simp only [←hwz]
  clear hwz
  clear c0 c1 c2 c3 f0 f1 f2 f3 j0 j1 j2 j3 j4 j5 j6 j7
  go_wp2
  refine bodyPost_ret (v:=.tuple #[aggD (.slice z0 D.first.length z1) (.slice z2 D.goal.length z3) (.slice z4 D.made.length z5) (.slice z6 D.now.length z7),.string ⟨(katTxt D.first).toArray⟩]) (by simp [results,Tryz.results21,go_sem,q0,q1,q2,q3]) rfl ⟨_,_,_,_,_,rfl,by rw [askV_first],?_,HZ.out⟩
  exact OZ.out.wide (by omega) (by omega)
 ·skip
  have hgs:∀ w',Below w5.heap.size w5 w'→w'.cell? ⟨w2.heap.size,0,none⟩=some (.slice z0 D.first.length z1)∧w'.cell? ⟨w2.heap.size,1,none⟩=some (.slice z2 D.goal.length z3)∧w'.cell? ⟨w2.heap.size,2,none⟩=some (.slice z4 D.made.length z5)∧w'.cell? ⟨w2.heap.size,3,none⟩=some (.slice z6 D.now.length z7)∧w'.cell? ⟨w.heap.size,0,none⟩=some a∧w'.cell? ⟨w.heap.size,1,none⟩=some b∧w'.cell? ⟨w.heap.size,2,none⟩=some c∧w'.cell? ⟨w.heap.size,3,none⟩=some d:=fun w' hb=>⟨(K6.out.below hb K6.out.lt).cell 0,(K6.out.below hb K6.out.lt).cell 1,(K6.out.below hb K6.out.lt).cell 2,(K6.out.below hb K6.out.lt).cell 3,(K1.out.below hb K1.out.lt).cell 0,(K1.out.below hb K1.out.lt).cell 1,(K1.out.below hb K1.out.lt).cell 2,(K1.out.below hb K1.out.lt).cell 3⟩
  have hbA:Below w5.heap.size w5 w5.drew:=Below.drew (B_ _ _)
  have hS:=hgs w5 (B_ _ _)
  have hSA:=hgs _ hbA
  have HGS:=H_ hgs
  have hdz:w5.drew.heap.size=w5.heap.size:=rfl
  have HXd:=H_ (HX.out.below hbA (by omega))
  clear hgs
  go_upto_region 15 with fail
  go_region_held3 (fun w'=>w'.cell? ⟨w2.heap.size,0,none⟩=some (.slice z0 D.first.length z1)∧w'.cell? ⟨w2.heap.size,1,none⟩=some (.slice z2 D.goal.length z3)∧w'.cell? ⟨w2.heap.size,2,none⟩=some (.slice z4 D.made.length z5)∧w'.cell? ⟨w2.heap.size,3,none⟩=some (.slice z6 D.now.length z7)∧w'.cell? ⟨w.heap.size,0,none⟩=some a∧w'.cell? ⟨w.heap.size,1,none⟩=some b∧w'.cell? ⟨w.heap.size,2,none⟩=some c∧w'.cell? ⟨w.heap.size,3,none⟩=some d) (first | with_reducible assumption | go_keep) (first
   | (go_at_call 53;refine (spec_KatText_any _ _ _ D.goal w5.drew HXd.out.goal (by omega) (by omega)).mono ?_;rintro e7 w7 ⟨rfl,hb_⟩;(have hs7:=hb_.size);(have hb7:=hbA.trans (hb_.mono (by omega)));(have hS7:=HGS.out _ hb7);(have k3:=K3.out.below hb7 K3.out.lt);(have c0:=k3.cell 0);(have c1:=k3.cell 1);(have c2:=k3.cell 2);(have c3:=k3.cell 3);(have f0:=k3.free 0);(have f1:=k3.free 1);(have f2:=k3.free 2);(have f3:=k3.free 3);(have KM:=H_ k3);(have hO_:=Outside.set4 (w.heap.size+1) w7 (.slice z0 D.first.length z1) (.slice z2 D.goal.length z3) (.slice z4 D.made.length z5) (.slice z6 D.now.length z7));(have k6_:=(K6.out.below hb7 K6.out.lt).outside hO_ (.inr (by omega)));(have k1_:=(K1.out.below hb7 K1.out.lt).outside hO_ (.inl (by omega)));(have j0:=k6_.cell 0);(have j1:=k6_.cell 1);(have j2:=k6_.cell 2);(have j3:=k6_.cell 3);(have j4:=k1_.cell 0);(have j5:=k1_.cell 1);(have j6:=k1_.cell 2);(have j7:=k1_.cell 3);(have HB7:=H_ hb7);clear hb_ hb7 k3 hO_ k6_ k1_))
  replace HB:=H_ (HB.out.trans (HB7.out.mono (by omega)))
  replace K3:=KM
  replace O6:=H_ (O6.out.below HB7.out (by omega))
  clear HGS hS hSA hS7 hbA KM
  obtain ⟨wz,hwz⟩:∃ wz,wz=(((w7.setCell ⟨w.heap.size+1,0,none⟩ (.slice z0 D.first.length z1)).setCell ⟨w.heap.size+1,1,none⟩ (.slice z2 D.goal.length z3)).setCell ⟨w.heap.size+1,2,none⟩ (.slice z4 D.made.length z5)).setCell ⟨w.heap.size+1,3,none⟩ (.slice z6 D.now.length z7):=⟨_,rfl⟩
  have KZ:=K3.out.set4 (.slice z0 D.first.length z1) (.slice z2 D.goal.length z3) (.slice z4 D.made.length z5) (.slice z6 D.now.length z7)
  have hO:=Outside.set4 (w.heap.size+1) w7 (.slice z0 D.first.length z1) (.slice z2 D.goal.length z3) (.slice z4 D.made.length z5) (.slice z6 D.now.length z7)
  rw [←hwz] at KZ hO
  have hsz:=hO.size
  have HZ:=H_ (Below.outside HB.out hO (by omega) (by omega))
  have OZ:=H_ (O6.out.outside hO (.inr (by omega)))
  have q0:=KZ.cell 0
  have q1:=KZ.cell 1
  have q2:=KZ.cell 2
  have q3:=KZ.cell 3
  clear KZ hO
  simp only [←hwz]
  clear hwz
  clear c0 c1 c2 c3 f0 f1 f2 f3 j0 j1 j2 j3 j4 j5 j6 j7
  go_wp2
  refine bodyPost_ret (v:=.tuple #[aggD (.slice z0 D.first.length z1) (.slice z2 D.goal.length z3) (.slice z4 D.made.length z5) (.slice z6 D.now.length z7),.string ⟨(katTxt D.goal).toArray⟩]) (by simp [results,Tryz.results21,go_sem,q0,q1,q2,q3]) rfl ⟨_,_,_,_,_,rfl,by rw [askV_goal],?_,HZ.out⟩
  exact OZ.out.wide (by omega) (by omega)
 ·obtain ⟨m0,m1,rfl,_,_⟩:=SlM.shape HX.out.made
  have hgs:∀ w',Below w5.heap.size w5 w'→w'.cell? ⟨w2.heap.size,0,none⟩=some (.slice z0 D.first.length z1)∧w'.cell? ⟨w2.heap.size,1,none⟩=some (.slice z2 D.goal.length z3)∧w'.cell? ⟨w2.heap.size,2,none⟩=some (.slice z4 D.made.length z5)∧w'.cell? ⟨w2.heap.size,3,none⟩=some (.slice z6 D.now.length z7)∧w'.cell? ⟨w.heap.size,0,none⟩=some a∧w'.cell? ⟨w.heap.size,1,none⟩=some b∧w'.cell? ⟨w.heap.size,2,none⟩=some (.slice m0 D.made.length m1)∧w'.cell? ⟨w.heap.size,3,none⟩=some d:=fun w' hb=>⟨(K6.out.below hb K6.out.lt).cell 0,(K6.out.below hb K6.out.lt).cell 1,(K6.out.below hb K6.out.lt).cell 2,(K6.out.below hb K6.out.lt).cell 3,(K1.out.below hb K1.out.lt).cell 0,(K1.out.below hb K1.out.lt).cell 1,(K1.out.below hb K1.out.lt).cell 2,(K1.out.below hb K1.out.lt).cell 3⟩
  have hbA:Below w5.heap.size w5 w5.drew:=Below.drew (B_ _ _)
  have hS:=hgs w5 (B_ _ _)
  have hSA:=hgs _ hbA
  have HGS:=H_ hgs
  have hdz:w5.drew.heap.size=w5.heap.size:=rfl
  have HXd:=H_ (HX.out.below hbA (by omega))
  clear hgs
  go_upto_region 17 with fail
  go_region_held3 (fun w'=>w'.cell? ⟨w2.heap.size,0,none⟩=some (.slice z0 D.first.length z1)∧w'.cell? ⟨w2.heap.size,1,none⟩=some (.slice z2 D.goal.length z3)∧w'.cell? ⟨w2.heap.size,2,none⟩=some (.slice z4 D.made.length z5)∧w'.cell? ⟨w2.heap.size,3,none⟩=some (.slice z6 D.now.length z7)∧w'.cell? ⟨w.heap.size,0,none⟩=some a∧w'.cell? ⟨w.heap.size,1,none⟩=some b∧w'.cell? ⟨w.heap.size,2,none⟩=some (.slice m0 D.made.length m1)∧w'.cell? ⟨w.heap.size,3,none⟩=some d) (first | with_reducible assumption | go_keep) (first
   | (go_at_call 54;refine (l10Small_any D.made.length w5.drew (by omega)).mono ?_;rintro e7 w7 ⟨rfl,hb_⟩;(have hs7:=hb_.size);(have hb7:=hbA.trans (hb_.mono (by omega)));(have hS7:=HGS.out _ hb7);(have k3:=K3.out.below hb7 K3.out.lt);(have c0:=k3.cell 0);(have c1:=k3.cell 1);(have c2:=k3.cell 2);(have c3:=k3.cell 3);(have f0:=k3.free 0);(have f1:=k3.free 1);(have f2:=k3.free 2);(have f3:=k3.free 3);(have KM:=H_ k3);(have hO_:=Outside.set4 (w.heap.size+1) w7 (.slice z0 D.first.length z1) (.slice z2 D.goal.length z3) (.slice z4 D.made.length z5) (.slice z6 D.now.length z7));(have k6_:=(K6.out.below hb7 K6.out.lt).outside hO_ (.inr (by omega)));(have k1_:=(K1.out.below hb7 K1.out.lt).outside hO_ (.inl (by omega)));(have j0:=k6_.cell 0);(have j1:=k6_.cell 1);(have j2:=k6_.cell 2);(have j3:=k6_.cell 3);(have j4:=k1_.cell 0);(have j5:=k1_.cell 1);(have j6:=k1_.cell 2);(have j7:=k1_.cell 3);(have HB7:=H_ hb7);clear hb_ hb7 k3 hO_ k6_ k1_))
  replace HB:=H_ (HB.out.trans (HB7.out.mono (by omega)))
  replace K3:=KM
  replace O6:=H_ (O6.out.below HB7.out (by omega))
  clear HGS hS hSA hS7 hbA KM
  obtain ⟨wz,hwz⟩:∃ wz,wz=(((w7.setCell ⟨w.heap.size+1,0,none⟩ (.slice z0 D.first.length z1)).setCell ⟨w.heap.size+1,1,none⟩ (.slice z2 D.goal.length z3)).setCell ⟨w.heap.size+1,2,none⟩ (.slice z4 D.made.length z5)).setCell ⟨w.heap.size+1,3,none⟩ (.slice z6 D.now.length z7):=⟨_,rfl⟩
  have KZ:=K3.out.set4 (.slice z0 D.first.length z1) (.slice z2 D.goal.length z3) (.slice z4 D.made.length z5) (.slice z6 D.now.length z7)
  have hO:=Outside.set4 (w.heap.size+1) w7 (.slice z0 D.first.length z1) (.slice z2 D.goal.length z3) (.slice z4 D.made.length z5) (.slice z6 D.now.length z7)
  rw [←hwz] at KZ hO
  have hsz:=hO.size
  have HZ:=H_ (Below.outside HB.out hO (by omega) (by omega))
  have OZ:=H_ (O6.out.outside hO (.inr (by omega)))
  have q0:=KZ.cell 0
  have q1:=KZ.cell 1
  have q2:=KZ.cell 2
  have q3:=KZ.cell 3
  clear KZ hO
  simp only [←hwz]
  clear hwz
  clear c0 c1 c2 c3 f0 f1 f2 f3 j0 j1 j2 j3 j4 j5 j6 j7
  go_wp2
  refine bodyPost_ret (v:=.tuple #[aggD (.slice z0 D.first.length z1) (.slice z2 D.goal.length z3) (.slice z4 D.made.length z5) (.slice z6 D.now.length z7),.string ⟨(dig2 D.made.length).toArray⟩]) (by simp [results,Tryz.results21,go_sem,q0,q1,q2,q3]) rfl ⟨_,_,_,_,_,rfl,by rw [askV_moves],?_,HZ.out⟩
  exact OZ.out.wide (by omega) (by omega)
 ·skip
  have d0:=K1.out.cell 0
  have d1:=K1.out.cell 1
  have d2:=K1.out.cell 2
  have d3:=K1.out.cell 3
  obtain ⟨E,hE⟩:∃ E,E=eqL D.now D.goal:=⟨_,rfl⟩
  have HD:=H_ (show (deskV D&&eqL D.now D.goal)=E by rw [HV.out,hE];rfl)
  have HEE:=H_ (show askV D [100,111,110,101]=if E then yesT else noT by rw [askV_done,hE])
  clear hE
  go_wp2_with fail
  refine (spec_DeskDone _ _ a b c d D w5 HX.out (by omega) HM.out).mono ?_
  rintro e6 w6 ⟨rfl,hb6⟩
  rw [HD.out]
  have hs6:=hb6.size
  replace HB:=H_ (HB.out.trans (hb6.mono (by omega)))
  replace HX:=H_ (HX.out.below hb6 (by omega))
  replace O6:=H_ (O6.out.below hb6 (by omega))
  replace K1:=H_ (K1.out.below hb6 K1.out.lt)
  replace K3:=H_ (K3.out.below hb6 K3.out.lt)
  replace K6:=H_ (K6.out.below hb6 K6.out.lt)
  clear hb6 d0 d1 d2 d3
  have c0:=K3.out.cell 0
  have c1:=K3.out.cell 1
  have c2:=K3.out.cell 2
  have c3:=K3.out.cell 3
  have f0:=K3.out.free 0
  have f1:=K3.out.free 1
  have f2:=K3.out.free 2
  have f3:=K3.out.free 3
  have s0:=K6.out.cell 0
  have s1:=K6.out.cell 1
  have s2:=K6.out.cell 2
  have s3:=K6.out.cell 3
  have hO_:=Outside.set4 (w.heap.size+1) w6 (.slice z0 D.first.length z1) (.slice z2 D.goal.length z3) (.slice z4 D.made.length z5) (.slice z6 D.now.length z7)
  have k6_:=K6.out.outside hO_ (.inr (by omega))
  have j0:=k6_.cell 0
  have j1:=k6_.cell 1
  have j2:=k6_.cell 2
  have j3:=k6_.cell 3
  clear hO_ k6_
  cases E
  ·skip
   obtain ⟨wz,hwz⟩:∃ wz,wz=(((w6.setCell ⟨w.heap.size+1,0,none⟩ (.slice z0 D.first.length z1)).setCell ⟨w.heap.size+1,1,none⟩ (.slice z2 D.goal.length z3)).setCell ⟨w.heap.size+1,2,none⟩ (.slice z4 D.made.length z5)).setCell ⟨w.heap.size+1,3,none⟩ (.slice z6 D.now.length z7):=⟨_,rfl⟩
   have KZ:=K3.out.set4 (.slice z0 D.first.length z1) (.slice z2 D.goal.length z3) (.slice z4 D.made.length z5) (.slice z6 D.now.length z7)
   have hO:=Outside.set4 (w.heap.size+1) w6 (.slice z0 D.first.length z1) (.slice z2 D.goal.length z3) (.slice z4 D.made.length z5) (.slice z6 D.now.length z7)
   rw [←hwz] at KZ hO
   have hsz:=hO.size
   have HZ:=H_ (Below.outside HB.out hO (by omega) (by omega))
   have OZ:=H_ (O6.out.outside hO (.inr (by omega)))
   have q0:=KZ.cell 0
   have q1:=KZ.cell 1
   have q2:=KZ.cell 2
   have q3:=KZ.cell 3
   clear KZ hO
   go_wp2
   simp only [←hwz]
   clear hwz
   refine bodyPost_ret (v:=.tuple #[aggD (.slice z0 D.first.length z1) (.slice z2 D.goal.length z3) (.slice z4 D.made.length z5) (.slice z6 D.now.length z7),.string ⟨#[110,111]⟩]) (by simp [results,Tryz.results21,go_sem,q0,q1,q2,q3]) rfl ⟨_,_,_,_,_,rfl,by rw [HEE.out];rfl,?_,HZ.out⟩
   exact OZ.out.wide (by omega) (by omega)
  ·skip
   obtain ⟨wz,hwz⟩:∃ wz,wz=(((w6.setCell ⟨w.heap.size+1,0,none⟩ (.slice z0 D.first.length z1)).setCell ⟨w.heap.size+1,1,none⟩ (.slice z2 D.goal.length z3)).setCell ⟨w.heap.size+1,2,none⟩ (.slice z4 D.made.length z5)).setCell ⟨w.heap.size+1,3,none⟩ (.slice z6 D.now.length z7):=⟨_,rfl⟩
   have KZ:=K3.out.set4 (.slice z0 D.first.length z1) (.slice z2 D.goal.length z3) (.slice z4 D.made.length z5) (.slice z6 D.now.length z7)
   have hO:=Outside.set4 (w.heap.size+1) w6 (.slice z0 D.first.length z1) (.slice z2 D.goal.length z3) (.slice z4 D.made.length z5) (.slice z6 D.now.length z7)
   rw [←hwz] at KZ hO
   have hsz:=hO.size
   have HZ:=H_ (Below.outside HB.out hO (by omega) (by omega))
   have OZ:=H_ (O6.out.outside hO (.inr (by omega)))
   have q0:=KZ.cell 0
   have q1:=KZ.cell 1
   have q2:=KZ.cell 2
   have q3:=KZ.cell 3
   clear KZ hO
   go_wp2
   simp only [←hwz]
   clear hwz
   refine bodyPost_ret (v:=.tuple #[aggD (.slice z0 D.first.length z1) (.slice z2 D.goal.length z3) (.slice z4 D.made.length z5) (.slice z6 D.now.length z7),.string ⟨#[121,101,115]⟩]) (by simp [results,Tryz.results21,go_sem,q0,q1,q2,q3]) rfl ⟨_,_,_,_,_,rfl,by rw [HEE.out];rfl,?_,HZ.out⟩
   exact OZ.out.wide (by omega) (by omega)
 ·exact absurd rfl HNE.out
 ·skip
  have hgs:∀ w',Below w5.heap.size w5 w'→w'.cell? ⟨w2.heap.size,0,none⟩=some (.slice z0 D.first.length z1)∧w'.cell? ⟨w2.heap.size,1,none⟩=some (.slice z2 D.goal.length z3)∧w'.cell? ⟨w2.heap.size,2,none⟩=some (.slice z4 D.made.length z5)∧w'.cell? ⟨w2.heap.size,3,none⟩=some (.slice z6 D.now.length z7)∧w'.cell? ⟨w.heap.size,0,none⟩=some a∧w'.cell? ⟨w.heap.size,1,none⟩=some b∧w'.cell? ⟨w.heap.size,2,none⟩=some c∧w'.cell? ⟨w.heap.size,3,none⟩=some d:=fun w' hb=>⟨(K6.out.below hb K6.out.lt).cell 0,(K6.out.below hb K6.out.lt).cell 1,(K6.out.below hb K6.out.lt).cell 2,(K6.out.below hb K6.out.lt).cell 3,(K1.out.below hb K1.out.lt).cell 0,(K1.out.below hb K1.out.lt).cell 1,(K1.out.below hb K1.out.lt).cell 2,(K1.out.below hb K1.out.lt).cell 3⟩
  have hbA:Below w5.heap.size w5 w5.drew:=Below.drew (B_ _ _)
  have hS:=hgs w5 (B_ _ _)
  have hSA:=hgs _ hbA
  have HGS:=H_ hgs
  have hdz:w5.drew.heap.size=w5.heap.size:=rfl
  have HXd:=H_ (HX.out.below hbA (by omega))
  clear hgs
  have HEV:=H_ (endsV_kat (deskV_parts HV.out).2.2.1)
  obtain ⟨n,hn⟩:∃ n,n=endsK (treeOf D.now):=⟨_,rfl⟩
  have HNE:=H_ (show askV D [101,110,100,115]=testT n by rw [askV_ends,hn])
  rw [←hn] at HEV
  have HEA:=H_ (spec_EndsAt _ _ _ D.now w5.drew HXd.out.now (by omega) (by omega))
  rw [HEV.out.1] at HEA
  clear hn
  go_upto_region 25 with fail
  go_region_held3 (fun w'=>w'.cell? ⟨w2.heap.size,0,none⟩=some (.slice z0 D.first.length z1)∧w'.cell? ⟨w2.heap.size,1,none⟩=some (.slice z2 D.goal.length z3)∧w'.cell? ⟨w2.heap.size,2,none⟩=some (.slice z4 D.made.length z5)∧w'.cell? ⟨w2.heap.size,3,none⟩=some (.slice z6 D.now.length z7)∧w'.cell? ⟨w.heap.size,0,none⟩=some a∧w'.cell? ⟨w.heap.size,1,none⟩=some b∧w'.cell? ⟨w.heap.size,2,none⟩=some c∧w'.cell? ⟨w.heap.size,3,none⟩=some d) (first | with_reducible assumption | go_keep) (first
   | (go_at_call 58;refine HEA.out.mono ?_;rintro e6 w6 ⟨rfl,hb_⟩;(have hs6:=hb_.size);(have hb6:=hbA.trans (hb_.mono (by omega)));(have hS6:=HGS.out _ hb6);(have HB6:=H_ hb6);clear hb_ hb6)
   | (go_at_call 57;refine (spec_TestText n HEV.out.2 w6).mono ?_;rintro e7 w7 ⟨rfl,hb_⟩;(have hs7:=hb_.size);(have hb7:=HB6.out.trans (hb_.mono (by omega)));(have hS7:=HGS.out _ hb7);(have k3:=K3.out.below hb7 K3.out.lt);(have c0:=k3.cell 0);(have c1:=k3.cell 1);(have c2:=k3.cell 2);(have c3:=k3.cell 3);(have f0:=k3.free 0);(have f1:=k3.free 1);(have f2:=k3.free 2);(have f3:=k3.free 3);(have KM:=H_ k3);(have hO_:=Outside.set4 (w.heap.size+1) w7 (.slice z0 D.first.length z1) (.slice z2 D.goal.length z3) (.slice z4 D.made.length z5) (.slice z6 D.now.length z7));(have k6_:=(K6.out.below hb7 K6.out.lt).outside hO_ (.inr (by omega)));(have k1_:=(K1.out.below hb7 K1.out.lt).outside hO_ (.inl (by omega)));(have j0:=k6_.cell 0);(have j1:=k6_.cell 1);(have j2:=k6_.cell 2);(have j3:=k6_.cell 3);(have j4:=k1_.cell 0);(have j5:=k1_.cell 1);(have j6:=k1_.cell 2);(have j7:=k1_.cell 3);(have HB7:=H_ hb7);clear hb_ hb7 k3 hO_ k6_ k1_))
  replace HB:=H_ (HB.out.trans (HB7.out.mono (by omega)))
  replace K3:=KM
  replace O6:=H_ (O6.out.below HB7.out (by omega))
  clear HGS hS hSA hS6 hS7 hbA KM
  obtain ⟨wz,hwz⟩:∃ wz,wz=(((w7.setCell ⟨w.heap.size+1,0,none⟩ (.slice z0 D.first.length z1)).setCell ⟨w.heap.size+1,1,none⟩ (.slice z2 D.goal.length z3)).setCell ⟨w.heap.size+1,2,none⟩ (.slice z4 D.made.length z5)).setCell ⟨w.heap.size+1,3,none⟩ (.slice z6 D.now.length z7):=⟨_,rfl⟩
  have KZ:=K3.out.set4 (.slice z0 D.first.length z1) (.slice z2 D.goal.length z3) (.slice z4 D.made.length z5) (.slice z6 D.now.length z7)
  have hO:=Outside.set4 (w.heap.size+1) w7 (.slice z0 D.first.length z1) (.slice z2 D.goal.length z3) (.slice z4 D.made.length z5) (.slice z6 D.now.length z7)
  rw [←hwz] at KZ hO
  have hsz:=hO.size
  have HZ:=H_ (Below.outside HB.out hO (by omega) (by omega))
  have OZ:=H_ (O6.out.outside hO (.inr (by omega)))
  have q0:=KZ.cell 0
  have q1:=KZ.cell 1
  have q2:=KZ.cell 2
  have q3:=KZ.cell 3
  clear KZ hO
  simp only [←hwz]
  clear hwz
  clear c0 c1 c2 c3 f0 f1 f2 f3 j0 j1 j2 j3 j4 j5 j6 j7
  go_wp2
  refine bodyPost_ret (v:=.tuple #[aggD (.slice z0 D.first.length z1) (.slice z2 D.goal.length z3) (.slice z4 D.made.length z5) (.slice z6 D.now.length z7),.string ⟨(testT n).toArray⟩]) (by simp [results,Tryz.results21,go_sem,q0,q1,q2,q3]) rfl ⟨_,_,_,_,_,rfl,by rw [HNE.out],?_,HZ.out⟩
  exact OZ.out.wide (by omega) (by omega)
 ·skip
  have d0:=K1.out.cell 0
  have d1:=K1.out.cell 1
  have d2:=K1.out.cell 2
  have d3:=K1.out.cell 3
  go_wp2_with fail
  refine (spec_Differ _ _ _ _ _ _ D.now D.goal w5 HX.out.now HX.out.goal (by omega) (by omega) (by omega) (by omega)).mono ?_
  rintro e6 w6 ⟨r,rfl,hor,hb6⟩
  have hs6:=hb6.size
  replace HB:=H_ (HB.out.trans (hb6.mono (by omega)))
  replace HX:=H_ (HX.out.below hb6 (by omega))
  replace O6:=H_ (O6.out.below hb6 (by omega))
  replace K1:=H_ (K1.out.below hb6 K1.out.lt)
  replace K3:=H_ (K3.out.below hb6 K3.out.lt)
  replace K6:=H_ (K6.out.below hb6 K6.out.lt)
  clear hb6 d0 d1 d2 d3
  rcases hor with ⟨t,v4,ht,rfl,hov,hlt⟩|⟨hn,g,rfl⟩
  ·have HAS:=H_ (show askV D [116,114,97,99,101]=trText t by rw [askV_trace,ht];rfl)
   have HOV:=H_ hov
   clear ht hov
   have hgs:∀ w',Below w6.heap.size w6 w'→w'.cell? ⟨w2.heap.size,0,none⟩=some (.slice z0 D.first.length z1)∧w'.cell? ⟨w2.heap.size,1,none⟩=some (.slice z2 D.goal.length z3)∧w'.cell? ⟨w2.heap.size,2,none⟩=some (.slice z4 D.made.length z5)∧w'.cell? ⟨w2.heap.size,3,none⟩=some (.slice z6 D.now.length z7)∧w'.cell? ⟨w.heap.size,0,none⟩=some a∧w'.cell? ⟨w.heap.size,1,none⟩=some b∧w'.cell? ⟨w.heap.size,2,none⟩=some c∧w'.cell? ⟨w.heap.size,3,none⟩=some d:=fun w' hb=>⟨(K6.out.below hb K6.out.lt).cell 0,(K6.out.below hb K6.out.lt).cell 1,(K6.out.below hb K6.out.lt).cell 2,(K6.out.below hb K6.out.lt).cell 3,(K1.out.below hb K1.out.lt).cell 0,(K1.out.below hb K1.out.lt).cell 1,(K1.out.below hb K1.out.lt).cell 2,(K1.out.below hb K1.out.lt).cell 3⟩
   have hbA:Below w6.heap.size w6 w6.drew:=Below.drew (B_ _ _)
   have hS:=hgs w6 (B_ _ _)
   have hSA:=hgs _ hbA
   have HGS:=H_ hgs
   have hdz:w6.drew.heap.size=w6.heap.size:=rfl
   have HXd:=H_ (HX.out.below hbA (by omega))
   clear hgs
   go_upto_region 30 with fail
   go_region_held3 (fun w'=>w'.cell? ⟨w2.heap.size,0,none⟩=some (.slice z0 D.first.length z1)∧w'.cell? ⟨w2.heap.size,1,none⟩=some (.slice z2 D.goal.length z3)∧w'.cell? ⟨w2.heap.size,2,none⟩=some (.slice z4 D.made.length z5)∧w'.cell? ⟨w2.heap.size,3,none⟩=some (.slice z6 D.now.length z7)∧w'.cell? ⟨w.heap.size,0,none⟩=some a∧w'.cell? ⟨w.heap.size,1,none⟩=some b∧w'.cell? ⟨w.heap.size,2,none⟩=some c∧w'.cell? ⟨w.heap.size,3,none⟩=some d) (first | with_reducible assumption | go_keep) (first
    | (go_at_call 60;refine (spec_TraceText _ _ _ t w6.drew (HOV.out.sl.below hbA (le_ _)) (by omega) (le_ _)).mono ?_;rintro e7 w7 ⟨rfl,hb_⟩;(have hs7:=hb_.size);(have hb7:=hbA.trans (hb_.mono (by omega)));(have hS7:=HGS.out _ hb7);(have k3:=K3.out.below hb7 K3.out.lt);(have c0:=k3.cell 0);(have c1:=k3.cell 1);(have c2:=k3.cell 2);(have c3:=k3.cell 3);(have f0:=k3.free 0);(have f1:=k3.free 1);(have f2:=k3.free 2);(have f3:=k3.free 3);(have KM:=H_ k3);(have hO_:=Outside.set4 (w.heap.size+1) w7 (.slice z0 D.first.length z1) (.slice z2 D.goal.length z3) (.slice z4 D.made.length z5) (.slice z6 D.now.length z7));(have k6_:=(K6.out.below hb7 K6.out.lt).outside hO_ (.inr (by omega)));(have k1_:=(K1.out.below hb7 K1.out.lt).outside hO_ (.inl (by omega)));(have j0:=k6_.cell 0);(have j1:=k6_.cell 1);(have j2:=k6_.cell 2);(have j3:=k6_.cell 3);(have j4:=k1_.cell 0);(have j5:=k1_.cell 1);(have j6:=k1_.cell 2);(have j7:=k1_.cell 3);(have HB7:=H_ hb7);clear hb_ hb7 k3 hO_ k6_ k1_))
   replace HB:=H_ (HB.out.trans (HB7.out.mono (by omega)))
   replace K3:=KM
   replace O6:=H_ (O6.out.below HB7.out (by omega))
   clear HGS hS hSA hS7 hbA KM
   obtain ⟨wz,hwz⟩:∃ wz,wz=(((w7.setCell ⟨w.heap.size+1,0,none⟩ (.slice z0 D.first.length z1)).setCell ⟨w.heap.size+1,1,none⟩ (.slice z2 D.goal.length z3)).setCell ⟨w.heap.size+1,2,none⟩ (.slice z4 D.made.length z5)).setCell ⟨w.heap.size+1,3,none⟩ (.slice z6 D.now.length z7):=⟨_,rfl⟩
   have KZ:=K3.out.set4 (.slice z0 D.first.length z1) (.slice z2 D.goal.length z3) (.slice z4 D.made.length z5) (.slice z6 D.now.length z7)
   have hO:=Outside.set4 (w.heap.size+1) w7 (.slice z0 D.first.length z1) (.slice z2 D.goal.length z3) (.slice z4 D.made.length z5) (.slice z6 D.now.length z7)
   rw [←hwz] at KZ hO
   have hsz:=hO.size
   have HZ:=H_ (Below.outside HB.out hO (by omega) (by omega))
   have OZ:=H_ (O6.out.outside hO (.inr (by omega)))
   have q0:=KZ.cell 0
   have q1:=KZ.cell 1
   have q2:=KZ.cell 2
   have q3:=KZ.cell 3
   clear KZ hO
   simp only [←hwz]
   clear hwz
   clear c0 c1 c2 c3 f0 f1 f2 f3 j0 j1 j2 j3 j4 j5 j6 j7
   go_wp2
   refine bodyPost_ret (v:=.tuple #[aggD (.slice z0 D.first.length z1) (.slice z2 D.goal.length z3) (.slice z4 D.made.length z5) (.slice z6 D.now.length z7),.string ⟨(trText t).toArray⟩]) (by simp [results,Tryz.results21,go_sem,q0,q1,q2,q3]) rfl ⟨_,_,_,_,_,rfl,by rw [HAS.out],?_,HZ.out⟩
   exact OZ.out.wide (by omega) (by omega)
  ·have HAS:=H_ (show askV D [116,114,97,99,101]=noneT by rw [askV_trace,hn];rfl)
   clear hn
   have c0:=K3.out.cell 0
   have c1:=K3.out.cell 1
   have c2:=K3.out.cell 2
   have c3:=K3.out.cell 3
   have f0:=K3.out.free 0
   have f1:=K3.out.free 1
   have f2:=K3.out.free 2
   have f3:=K3.out.free 3
   have s0:=K6.out.cell 0
   have s1:=K6.out.cell 1
   have s2:=K6.out.cell 2
   have s3:=K6.out.cell 3
   have hO_:=Outside.set4 (w.heap.size+1) w6 (.slice z0 D.first.length z1) (.slice z2 D.goal.length z3) (.slice z4 D.made.length z5) (.slice z6 D.now.length z7)
   have k6_:=K6.out.outside hO_ (.inr (by omega))
   have j0:=k6_.cell 0
   have j1:=k6_.cell 1
   have j2:=k6_.cell 2
   have j3:=k6_.cell 3
   clear hO_ k6_
   obtain ⟨wz,hwz⟩:∃ wz,wz=(((w6.setCell ⟨w.heap.size+1,0,none⟩ (.slice z0 D.first.length z1)).setCell ⟨w.heap.size+1,1,none⟩ (.slice z2 D.goal.length z3)).setCell ⟨w.heap.size+1,2,none⟩ (.slice z4 D.made.length z5)).setCell ⟨w.heap.size+1,3,none⟩ (.slice z6 D.now.length z7):=⟨_,rfl⟩
   have KZ:=K3.out.set4 (.slice z0 D.first.length z1) (.slice z2 D.goal.length z3) (.slice z4 D.made.length z5) (.slice z6 D.now.length z7)
   have hO:=Outside.set4 (w.heap.size+1) w6 (.slice z0 D.first.length z1) (.slice z2 D.goal.length z3) (.slice z4 D.made.length z5) (.slice z6 D.now.length z7)
   rw [←hwz] at KZ hO
   have hsz:=hO.size
   have HZ:=H_ (Below.outside HB.out hO (by omega) (by omega))
   have OZ:=H_ (O6.out.outside hO (.inr (by omega)))
   have q0:=KZ.cell 0
   have q1:=KZ.cell 1
   have q2:=KZ.cell 2
   have q3:=KZ.cell 3
   clear KZ hO
   go_wp2
   simp only [←hwz]
   clear hwz
   refine bodyPost_ret (v:=.tuple #[aggD (.slice z0 D.first.length z1) (.slice z2 D.goal.length z3) (.slice z4 D.made.length z5) (.slice z6 D.now.length z7),.string ⟨#[110,111,110,101]⟩]) (by simp [results,Tryz.results21,go_sem,q0,q1,q2,q3]) rfl ⟨_,_,_,_,_,rfl,by rw [HAS.out];rfl,?_,HZ.out⟩
   exact OZ.out.wide (by omega) (by omega)
 ·obtain ⟨m0,m1,rfl,_,_⟩:=SlM.shape HX.out.made
  have HAS:=H_ (askV_proof D)
  have d2:=K1.out.cell 2
  by_cases h0:D.made=[]
  ·have hl0:D.made.length≤0:=by simp [h0]
   have g9:((D.made.length:Int)==0)=true:=by simp [h0]
   have HNN:=H_ (show prfT D.made=noneT by rw [h0];rfl)
   clear h0
   have c0:=K3.out.cell 0
   have c1:=K3.out.cell 1
   have c2:=K3.out.cell 2
   have c3:=K3.out.cell 3
   have f0:=K3.out.free 0
   have f1:=K3.out.free 1
   have f2:=K3.out.free 2
   have f3:=K3.out.free 3
   have s0:=K6.out.cell 0
   have s1:=K6.out.cell 1
   have s2:=K6.out.cell 2
   have s3:=K6.out.cell 3
   have hO_:=Outside.set4 (w.heap.size+1) w5 (.slice z0 D.first.length z1) (.slice z2 D.goal.length z3) (.slice z4 D.made.length z5) (.slice z6 D.now.length z7)
   have k6_:=K6.out.outside hO_ (.inr (by omega))
   have j0:=k6_.cell 0
   have j1:=k6_.cell 1
   have j2:=k6_.cell 2
   have j3:=k6_.cell 3
   clear hO_ k6_
   obtain ⟨wz,hwz⟩:∃ wz,wz=(((w5.setCell ⟨w.heap.size+1,0,none⟩ (.slice z0 D.first.length z1)).setCell ⟨w.heap.size+1,1,none⟩ (.slice z2 D.goal.length z3)).setCell ⟨w.heap.size+1,2,none⟩ (.slice z4 D.made.length z5)).setCell ⟨w.heap.size+1,3,none⟩ (.slice z6 D.now.length z7):=⟨_,rfl⟩
   have KZ:=K3.out.set4 (.slice z0 D.first.length z1) (.slice z2 D.goal.length z3) (.slice z4 D.made.length z5) (.slice z6 D.now.length z7)
   have hO:=Outside.set4 (w.heap.size+1) w5 (.slice z0 D.first.length z1) (.slice z2 D.goal.length z3) (.slice z4 D.made.length z5) (.slice z6 D.now.length z7)
   rw [←hwz] at KZ hO
   have hsz:=hO.size
   have HZ:=H_ (Below.outside HB.out hO (by omega) (by omega))
   have OZ:=H_ (O6.out.outside hO (.inr (by omega)))
   have q0:=KZ.cell 0
   have q1:=KZ.cell 1
   have q2:=KZ.cell 2
   have q3:=KZ.cell 3
   clear KZ hO
   go_wp2
   simp only [←hwz]
   clear hwz
   refine bodyPost_ret (v:=.tuple #[aggD (.slice z0 D.first.length z1) (.slice z2 D.goal.length z3) (.slice z4 D.made.length z5) (.slice z6 D.now.length z7),.string ⟨#[110,111,110,101]⟩]) (by simp [results,Tryz.results21,go_sem,q0,q1,q2,q3]) rfl ⟨_,_,_,_,_,rfl,by rw [HAS.out,HNN.out];rfl,?_,HZ.out⟩
   exact OZ.out.wide (by omega) (by omega)
  ·have hpos:0<D.made.length:=by cases hd:D.made with | nil=>exact absurd hd h0 | cons=>simp
   have g9:((D.made.length:Int)==0)=false:=by simp [h0]
   have HSN:=H_ (fun k (hk:k<D.made.length) (hk1:1≤k)=>prfT_snoc hk hk1)
   have HS1:=H_ (prfT_one hpos)
   obtain ⟨b1,off,rfl,_,_,hb1_,p0,p1,p2⟩:=SlM.get HX.out.made 0 hpos
   obtain ⟨m,hm⟩:∃ m,m=D.made[0]:=⟨_,rfl⟩
   rw [←hm] at p0 p1 p2 HS1
   simp only [Nat.zero_mul,Nat.add_zero] at p0 p1 p2
   clear h0 hm
   go_wp2_with fail
   refine (spec_MoveText m w5).mono ?_
   rintro e6 w6 ⟨rfl,hb6⟩
   have hs6:=hb6.size
   have hl6:=mvText_len m
   obtain ⟨t0,ht0⟩:∃ t0,t0=mvText m:=⟨_,rfl⟩
   rw [←ht0] at HS1 hl6 ⊢
   have HT0:=H_ (show t0=prfT (D.made.take 1) from HS1.out.symm)
   replace HB:=H_ (HB.out.trans (hb6.mono (by omega)))
   replace HX:=H_ (HX.out.below hb6 (by omega))
   replace O6:=H_ (O6.out.below hb6 (by omega))
   replace K1:=H_ (K1.out.below hb6 K1.out.lt)
   replace K3:=H_ (K3.out.below hb6 K3.out.lt)
   replace K6:=H_ (K6.out.below hb6 K6.out.lt)
   clear hb6 d2 p0 p1 p2 HS1 ht0
   go_wp2
   go_loopw [13,14] (fun s i wr=>∃ (k:Nat) (t:List UInt8),1≤k∧k≤D.made.length∧i=.int .i64 k∧s=.string ⟨t.toArray⟩∧t.length≤7*k∧Hid (t=prfT (D.made.take k))∧Hid (Below w6.heap.size w6 wr)) (fun _ i _=>D.made.length-(intOf i).toNat)
   case atStart=>exact ⟨1,t0,le_ _,hpos,rfl,rfl,by omega,HT0,H_ (B_ _ _)⟩
   case round=>
    rename World=>wr
    clear HT0 hl6
    obtain ⟨k,t,hk1,hk,rfl,rfl,htl,HT,HQ⟩:=hrel
    have hwr:=HQ.out.size
    have d2:=(K1.out.below HQ.out K1.out.lt).cell 2
    by_cases hlt:k<D.made.length
    ·obtain ⟨b2,off2,heq,_,_,hb2_,p0,p1,p2⟩:=SlM.get (HX.out.made.below HQ.out (by omega)) k hlt
     cases heq
     have HN:=H_ ((HSN.out k hlt hk1).trans (congrArg (·++44 :: mvText D.made[k]) HT.out.symm))
     obtain ⟨n,hn⟩:∃ n,n=D.made[k]:=⟨_,rfl⟩
     rw [←hn] at p0 p1 p2 HN
     clear hn
     go_wp2_with fail
     refine (spec_MoveText n wr).mono ?_
     rintro e7 w7 ⟨rfl,hb7⟩
     have hs7:=hb7.size
     have hl7:=mvText_len n
     have HQ7:=H_ (HQ.out.trans (hb7.mono hwr))
     clear hb7 d2 p0 p1 p2 HQ
     go_wp2
     go_roundw
     case rel=>exact ⟨k+1,t++44 :: mvText n,by omega,by omega,by go_num,by congr 1;apply ByteArray.ext;simp,by simp;omega,H_ HN.out.symm,HQ7⟩
     case measure=>first | (simp [intOf];done) | (simp [intOf];omega)
    ·obtain rfl:k=D.made.length:=by omega
     have HTT:=H_ (HAS.out.trans (show prfT D.made=t by rw [HT.out,List.take_length]))
     have HQ0:=H_ HQ.out
     clear HAS HT HQ HSN
     replace HB:=H_ (HB.out.trans (HQ0.out.mono (by omega)))
     replace HX:=H_ (HX.out.below HQ0.out (by omega))
     replace O6:=H_ (O6.out.below HQ0.out (by omega))
     replace K1:=H_ (K1.out.below HQ0.out K1.out.lt)
     replace K3:=H_ (K3.out.below HQ0.out K3.out.lt)
     replace K6:=H_ (K6.out.below HQ0.out K6.out.lt)
     have c0:=K3.out.cell 0
     have c1:=K3.out.cell 1
     have c2:=K3.out.cell 2
     have c3:=K3.out.cell 3
     have f0:=K3.out.free 0
     have f1:=K3.out.free 1
     have f2:=K3.out.free 2
     have f3:=K3.out.free 3
     have s0:=K6.out.cell 0
     have s1:=K6.out.cell 1
     have s2:=K6.out.cell 2
     have s3:=K6.out.cell 3
     have hO_:=Outside.set4 (w.heap.size+1) wr (.slice z0 D.first.length z1) (.slice z2 D.goal.length z3) (.slice z4 D.made.length z5) (.slice z6 D.now.length z7)
     have k6_:=K6.out.outside hO_ (.inr (by omega))
     have j0:=k6_.cell 0
     have j1:=k6_.cell 1
     have j2:=k6_.cell 2
     have j3:=k6_.cell 3
     clear hO_ k6_
     obtain ⟨wz,hwz⟩:∃ wz,wz=(((wr.setCell ⟨w.heap.size+1,0,none⟩ (.slice z0 D.first.length z1)).setCell ⟨w.heap.size+1,1,none⟩ (.slice z2 D.goal.length z3)).setCell ⟨w.heap.size+1,2,none⟩ (.slice z4 D.made.length z5)).setCell ⟨w.heap.size+1,3,none⟩ (.slice z6 D.now.length z7):=⟨_,rfl⟩
     have KZ:=K3.out.set4 (.slice z0 D.first.length z1) (.slice z2 D.goal.length z3) (.slice z4 D.made.length z5) (.slice z6 D.now.length z7)
     have hO:=Outside.set4 (w.heap.size+1) wr (.slice z0 D.first.length z1) (.slice z2 D.goal.length z3) (.slice z4 D.made.length z5) (.slice z6 D.now.length z7)
     rw [←hwz] at KZ hO
     have hsz:=hO.size
     have HZ:=H_ (Below.outside HB.out hO (by omega) (by omega))
     have OZ:=H_ (O6.out.outside hO (.inr (by omega)))
     have q0:=KZ.cell 0
     have q1:=KZ.cell 1
     have q2:=KZ.cell 2
     have q3:=KZ.cell 3
     clear KZ hO
     go_wp2
     simp only [←hwz]
     clear hwz
     refine bodyPost_ret (v:=.tuple #[aggD (.slice z0 D.first.length z1) (.slice z2 D.goal.length z3) (.slice z4 D.made.length z5) (.slice z6 D.now.length z7),.string ⟨t.toArray⟩]) (by simp [results,Tryz.results21,go_sem,q0,q1,q2,q3]) rfl ⟨_,_,_,_,_,rfl,by rw [HTT.out],?_,HZ.out⟩
     exact OZ.out.wide (by omega) (by omega)
 ·have HAS:=H_ (askV_what (D:=D) hq)
  obtain ⟨n1,n2,n3,n4,n5,n6,n7,n8,n9⟩:=hq
  have q1:=beq_false_of_ne n1
  have q2:=beq_false_of_ne n2
  have q3:=beq_false_of_ne n3
  have q4:=beq_false_of_ne n4
  have q5:=beq_false_of_ne n5
  have q6:=beq_false_of_ne n6
  have q7:=beq_false_of_ne n7
  have q8:=beq_false_of_ne n8
  have q9:=beq_false_of_ne n9
  clear n1 n2 n3 n4 n5 n6 n7 n8 n9
  have c0:=K3.out.cell 0
  have c1:=K3.out.cell 1
  have c2:=K3.out.cell 2
  have c3:=K3.out.cell 3
  have f0:=K3.out.free 0
  have f1:=K3.out.free 1
  have f2:=K3.out.free 2
  have f3:=K3.out.free 3
  have s0:=K6.out.cell 0
  have s1:=K6.out.cell 1
  have s2:=K6.out.cell 2
  have s3:=K6.out.cell 3
  have hO_:=Outside.set4 (w.heap.size+1) w5 (.slice z0 D.first.length z1) (.slice z2 D.goal.length z3) (.slice z4 D.made.length z5) (.slice z6 D.now.length z7)
  have k6_:=K6.out.outside hO_ (.inr (by omega))
  have j0:=k6_.cell 0
  have j1:=k6_.cell 1
  have j2:=k6_.cell 2
  have j3:=k6_.cell 3
  clear hO_ k6_
  obtain ⟨wz,hwz⟩:∃ wz,wz=(((w5.setCell ⟨w.heap.size+1,0,none⟩ (.slice z0 D.first.length z1)).setCell ⟨w.heap.size+1,1,none⟩ (.slice z2 D.goal.length z3)).setCell ⟨w.heap.size+1,2,none⟩ (.slice z4 D.made.length z5)).setCell ⟨w.heap.size+1,3,none⟩ (.slice z6 D.now.length z7):=⟨_,rfl⟩
  have KZ:=K3.out.set4 (.slice z0 D.first.length z1) (.slice z2 D.goal.length z3) (.slice z4 D.made.length z5) (.slice z6 D.now.length z7)
  have hO:=Outside.set4 (w.heap.size+1) w5 (.slice z0 D.first.length z1) (.slice z2 D.goal.length z3) (.slice z4 D.made.length z5) (.slice z6 D.now.length z7)
  rw [←hwz] at KZ hO
  have hsz:=hO.size
  have HZ:=H_ (Below.outside HB.out hO (by omega) (by omega))
  have OZ:=H_ (O6.out.outside hO (.inr (by omega)))
  have r0:=KZ.cell 0
  have r1:=KZ.cell 1
  have r2:=KZ.cell 2
  have r3:=KZ.cell 3
  clear KZ hO
  go_wp2
  simp only [←hwz]
  clear hwz
  refine bodyPost_ret (v:=.tuple #[aggD (.slice z0 D.first.length z1) (.slice z2 D.goal.length z3) (.slice z4 D.made.length z5) (.slice z6 D.now.length z7),.string ⟨#[119,104,97,116]⟩]) (by simp [results,Tryz.results21,go_sem,r0,r1,r2,r3]) rfl ⟨_,_,_,_,_,rfl,by rw [HAS.out];rfl,?_,HZ.out⟩
  exact OZ.out.wide (by omega) (by omega)
end Go.Proofs.YtfnnhimopokpnaaGreatDoor
