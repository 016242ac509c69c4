/- Lemmas for this seat; no condition. -/
import Derived.Test.YtfnnhimopokpnaaGreatDoorHABG
namespace Go.Proofs.YtfnnhimopokpnaaGreatDoor
open Go.RowKit
set_option maxRecDepth 100000
set_option maxHeartbeats 0
set_option linter.unusedVariables false
theorem spec_DeskLine_not (lo hi:Nat) (a b c d:Value) (D:Dsk) (s:ByteArray) (w:World) (hx:DeskAt lo hi w a b c d D) (hh:hi≤w.heap.size) (hm:D.size≤1048576) (hv:deskV D=false) :
  Calls Tryz.prog 21 #[aggD a b c d,.string s] w (RetDS fun a' b' c' d' s' w'=>s'=⟨#[]⟩∧DeskOwn w.heap.size w'.heap.size w' a' b' c' d' Dsk.none∧Below w.heap.size w w'):=by
 have HM:=H_ hm
 obtain ⟨w0,hw0⟩:∃ w0,w0=(w.alloc (.cells #[a,b,c,d] 31)).alloc (.cells #[.slice none 0 0,.slice none 0 0,.slice none 0 0,.slice none 0 0] 31):=⟨_,rfl⟩
 have hb0:Below w.heap.size w w0:=by rw [hw0];exact ((B_ _ _).alloc (le_ _) _).alloc (by simp) _
 have hs0:w0.heap.size=w.heap.size+2:=by rw [hw0];simp
 have K1:Hid (Blk w.heap.size (.cells #[a,b,c,d] 31) w0):=by
  rw [hw0]
  exact H_ ((Blk.new w _).below ((B_ (w.alloc _).heap.size _).alloc (le_ _) _) (by simp))
 have K3:Hid (Blk (w.heap.size+1) (.cells #[.slice none 0 0,.slice none 0 0,.slice none 0 0,.slice none 0 0] 31) w0):=by
  have h:=Blk.new (w.alloc (.cells #[a,b,c,d] 31)) (.cells #[.slice none 0 0,.slice none 0 0,.slice none 0 0,.slice none 0 0] 31)
  rw [alloc_size] at h
  rw [hw0];exact H_ h
 have HX:=H_ (hx.below hb0 hh)
 have HB:=H_ hb0
 have HW0:=H_ hw0
 have HV:=H_ hv
 clear hx hb0 hw0 hv hm
 have d0:=K1.out.cell 0
 have d1:=K1.out.cell 1
 have d2:=K1.out.cell 2
 have d3:=K1.out.cell 3
 go_enter Tryz.func21,Tryz.ntmps21
 go_wp2_with (rw [←HW0.out])
 refine (spec_DeskValid _ _ a b c d D w0 HX.out (by omega) HM.out).mono ?_
 rintro e1 w1 ⟨rfl,hb1⟩
 rw [HV.out]
 have hs1:=hb1.size
 replace HB:=H_ (HB.out.trans (hb1.mono (by omega)))
 replace K3:=H_ (K3.out.below hb1 K3.out.lt)
 clear hb1 d0 d1 d2 d3
 have c0:=K3.out.cell 0
 have c1:=K3.out.cell 1
 have c2:=K3.out.cell 2
 have c3:=K3.out.cell 3
 have f0:=K3.out.free 0
 have f1:=K3.out.free 1
 have f2:=K3.out.free 2
 have f3:=K3.out.free 3
 obtain ⟨wz,hwz⟩:∃ wz,wz=(((w1.setCell ⟨w.heap.size+1,0,none⟩ (.slice none 0 0)).setCell ⟨w.heap.size+1,1,none⟩ (.slice none 0 0)).setCell ⟨w.heap.size+1,2,none⟩ (.slice none 0 0)).setCell ⟨w.heap.size+1,3,none⟩ (.slice none 0 0):=⟨_,rfl⟩
 have KZ:=K3.out.set4 (.slice none 0 0) (.slice none 0 0) (.slice none 0 0) (.slice none 0 0)
 have hO:=Outside.set4 (w.heap.size+1) w1 (.slice none 0 0) (.slice none 0 0) (.slice none 0 0) (.slice none 0 0)
 rw [←hwz] at KZ hO
 have HZ:=H_ (Below.outside HB.out hO (by omega) (by omega))
 have q0:=KZ.cell 0
 have q1:=KZ.cell 1
 have q2:=KZ.cell 2
 have q3:=KZ.cell 3
 clear KZ hO
 go_wp2
 simp only [←hwz]
 clear hwz
 refine bodyPost_ret (v:=.tuple #[aggD (.slice none 0 0) (.slice none 0 0) (.slice none 0 0) (.slice none 0 0),.string ⟨#[]⟩]) (by simp [results,Tryz.results21,go_sem,q0,q1,q2,q3]) rfl ⟨_,_,_,_,_,rfl,rfl,?_,HZ.out⟩
 exact DeskOwn.nils _ _ HZ.out.size wz
theorem spec_DeskLine_act (lo hi:Nat) (a b c d:Value) (D:Dsk) (l:List UInt8) (s:ByteArray) (hs:s=⟨l.toArray⟩) (w:World) (hx:DeskAt lo hi w a b c d D) (hh:hi≤w.heap.size) (hm:D.size≤1048576) (hl:l.length≤2097152) (A:Ac) (hv:deskV D=true) (hr:readAc l=some A) :
  Calls Tryz.prog 21 #[aggD a b c d,.string s] w (RetDS fun a' b' c' d' s' w'=>s'=okS (deskDo D A).2∧DeskOwn w.heap.size w'.heap.size w' a' b' c' d' (deskDo D A).1∧Below w.heap.size w w'):=by
 subst hs
 have HM:=H_ hm
 obtain ⟨w0,hw0⟩:∃ w0,w0=(w.alloc (.cells #[a,b,c,d] 31)).alloc (.cells #[.slice none 0 0,.slice none 0 0,.slice none 0 0,.slice none 0 0] 31):=⟨_,rfl⟩
 have hb0:Below w.heap.size w w0:=by rw [hw0];exact ((B_ _ _).alloc (le_ _) _).alloc (by simp) _
 have hs0:w0.heap.size=w.heap.size+2:=by rw [hw0];simp
 have K1:Hid (Blk w.heap.size (.cells #[a,b,c,d] 31) w0):=by
  rw [hw0]
  exact H_ ((Blk.new w _).below ((B_ (w.alloc _).heap.size _).alloc (le_ _) _) (by simp))
 have K3:Hid (Blk (w.heap.size+1) (.cells #[.slice none 0 0,.slice none 0 0,.slice none 0 0,.slice none 0 0] 31) w0):=by
  have h:=Blk.new (w.alloc (.cells #[a,b,c,d] 31)) (.cells #[.slice none 0 0,.slice none 0 0,.slice none 0 0,.slice none 0 0] 31)
  rw [alloc_size] at h
  rw [hw0];exact H_ h
 have HX:=H_ (hx.below hb0 hh)
 have HB:=H_ hb0
 have HW0:=H_ hw0
 have HV:=H_ hv
 have HRA:=H_ hr
 clear hx hb0 hw0 hv hr
 have d0:=K1.out.cell 0
 have d1:=K1.out.cell 1
 have d2:=K1.out.cell 2
 have d3:=K1.out.cell 3
 go_enter Tryz.func21,Tryz.ntmps21
 go_wp2_with (rw [←HW0.out])
 refine (spec_DeskValid _ _ a b c d D w0 HX.out (by omega) HM.out).mono ?_
 rintro e1 w1 ⟨rfl,hb1⟩
 rw [HV.out]
 have hs1:=hb1.size
 replace HB:=H_ (HB.out.trans (hb1.mono (by omega)))
 replace K1:=H_ (K1.out.below hb1 K1.out.lt)
 replace K3:=H_ (K3.out.below hb1 K3.out.lt)
 replace HX:=H_ (HX.out.below hb1 (by omega))
 clear hb1 d0 d1 d2 d3
 have hk:=deskV_kat HV.out
 have HW:=H_ (spec_l10With _ _ _ _ a b c d c D D.made w1 HX.out (by omega) HM.out HX.out.made (by omega) (by have:=HM.out;unfold Dsk.size at this;omega) hk.1)
 rw [hk.2,Option.getD_some] at HW
 have hmade:=(deskV_parts HV.out).2.2.2.1
 have d0:=K1.out.cell 0
 have d1:=K1.out.cell 1
 have d2:=K1.out.cell 2
 have d3:=K1.out.cell 3
 clear hk
 go_wp2_with fail
 refine HW.out.mono ?_
 rintro e2 w2 ⟨x0,x1,x2,x3,rfl,o_,hb2⟩
 obtain ⟨z0,z1,z2,z3,z4,z5,z6,z7,i0,i1,i2,i3⟩:=o_.open
 subst i0 i1 i2 i3
 have hs2:=hb2.size
 replace HB:=H_ (HB.out.trans (hb2.mono (by omega)))
 replace K1:=H_ (K1.out.below hb2 K1.out.lt)
 replace K3:=H_ (K3.out.below hb2 K3.out.lt)
 replace HX:=H_ (HX.out.below hb2 (by omega))
 have O6:=H_ (show DeskOwn w1.heap.size w2.heap.size w2 (.slice z0 D.first.length z1) (.slice z2 D.goal.length z3) (.slice z4 D.made.length z5) (.slice z6 D.now.length z7) D from o_)
 clear hb2 o_ HW d0 d1 d2 d3
 obtain ⟨w3,hw3⟩:∃ w3,w3=w2.alloc (.cells #[.slice z0 D.first.length z1,.slice z2 D.goal.length z3,.slice z4 D.made.length z5,.slice z6 D.now.length z7] 31):=⟨_,rfl⟩
 obtain ⟨hb3,K6_,hs3⟩:=box_facts2 hw3
 have K6:=H_ K6_
 replace HB:=H_ (HB.out.trans (hb3.mono (by omega)))
 replace K1:=H_ (K1.out.below hb3 K1.out.lt)
 replace K3:=H_ (K3.out.below hb3 K3.out.lt)
 replace HX:=H_ (HX.out.below hb3 (by omega))
 replace O6:=H_ (O6.out.below hb3 (le_ _))
 have HW3:=H_ hw3
 clear hb3 K6_ hw3
 go_wp2_with (rw [←HW3.out])
 refine (spec_ReadAct l _ rfl w3 hl).mono ?_
 rintro e4 w4 ⟨rfl,hb4⟩
 have hs4:=hb4.size
 replace HB:=H_ (HB.out.trans (hb4.mono (by omega)))
 replace HX:=H_ (HX.out.below hb4 (by omega))
 replace O6:=H_ (O6.out.below hb4 (by omega))
 replace K1:=H_ (K1.out.below hb4 K1.out.lt)
 replace K3:=H_ (K3.out.below hb4 K3.out.lt)
 replace K6:=H_ (K6.out.below hb4 K6.out.lt)
 clear hb4 HW3
 rw [rdAc_form HRA.out]
 unfold aggA
 obtain ⟨w5,hw5⟩:∃ w5,w5=w4.alloc (.cells #[.int .i64 A.kind,.int .i64 A.step.which,.bool A.step.back,.int .i64 A.step.at_,.int .i64 A.count] 69):=⟨_,rfl⟩
 obtain ⟨hb5,KA_,hs5⟩:=box_facts2 hw5
 replace HB:=H_ (HB.out.trans (hb5.mono (by omega)))
 replace HX:=H_ (HX.out.below hb5 (by omega))
 replace O6:=H_ (O6.out.below hb5 (by omega))
 replace K1:=H_ (K1.out.below hb5 K1.out.lt)
 replace K3:=H_ (K3.out.below hb5 K3.out.lt)
 replace K6:=H_ (K6.out.below hb5 K6.out.lt)
 have KA:=H_ KA_
 have d0:=K1.out.cell 0
 have d1:=K1.out.cell 1
 have d2:=K1.out.cell 2
 have d3:=K1.out.cell 3
 have a0:=KA.out.cell 0
 have a1:=KA.out.cell 1
 have a2:=KA.out.cell 2
 have a3:=KA.out.cell 3
 have a4:=KA.out.cell 4
 rw [hw5] at d0 d1 d2 d3 a0 a1 a2 a3 a4
 clear hb5 KA_
 go_wp2_with fail
 simp only [←hw5]
 clear hw5 d0 d1 d2 d3 a0 a1 a2 a3 a4
 refine (spec_DeskDo _ _ a b c d D A w5 HX.out (by omega) HM.out).mono ?_
 rintro e6 w6 ⟨x0,x1,x2,x3,ok,rfl,o_,hok,hb6⟩
 obtain ⟨R,t,hR⟩:∃ R t,deskDo D A=(R,t):=⟨_,_,rfl⟩
 have HR:=H_ hR
 rw [hR] at o_ hok
 obtain rfl:ok=t:=hok
 clear hR
 obtain ⟨z0,z1,z2,z3,z4,z5,z6,z7,rfl,rfl,rfl,rfl⟩:=o_.open
 have hs6:=hb6.size
 replace HB:=H_ (HB.out.trans (hb6.mono (by omega)))
 replace K3:=H_ (K3.out.below hb6 K3.out.lt)
 have O4:=H_ (o_.wide (lo':=w.heap.size) (by omega) (le_ _))
 have O4':=H_ o_
 clear hb6 o_ K1 HX KA K6 O6
 obtain ⟨w7,hw7⟩:∃ w7,w7=w6.alloc (.cells #[(.slice z0 R.first.length z1),(.slice z2 R.goal.length z3),(.slice z4 R.made.length z5),(.slice z6 R.now.length z7)] 31):=⟨_,rfl⟩
 obtain ⟨hb7,K5,hs7⟩:=box_facts2 hw7
 replace HB:=H_ (HB.out.trans (hb7.mono (by omega)))
 replace K3:=H_ (K3.out.below hb7 K3.out.lt)
 replace O4':=H_ (O4'.out.below hb7 (le_ _))
 have k0:=K5.cell 0
 have k1:=K5.cell 1
 have k2:=K5.cell 2
 have k3:=K5.cell 3
 have c0:=K3.out.cell 0
 have c1:=K3.out.cell 1
 have c2:=K3.out.cell 2
 have c3:=K3.out.cell 3
 have f0:=K3.out.free 0
 have f1:=K3.out.free 1
 have f2:=K3.out.free 2
 have f3:=K3.out.free 3
 have HW7:=H_ hw7
 obtain ⟨wz,hwz⟩:∃ wz,wz=(((w7.setCell ⟨w.heap.size+1,0,none⟩ (.slice z0 R.first.length z1)).setCell ⟨w.heap.size+1,1,none⟩ (.slice z2 R.goal.length z3)).setCell ⟨w.heap.size+1,2,none⟩ (.slice z4 R.made.length z5)).setCell ⟨w.heap.size+1,3,none⟩ (.slice z6 R.now.length z7):=⟨_,rfl⟩
 have KZ:=K3.out.set4 (.slice z0 R.first.length z1) (.slice z2 R.goal.length z3) (.slice z4 R.made.length z5) (.slice z6 R.now.length z7)
 have hO:=Outside.set4 (w.heap.size+1) w7 (.slice z0 R.first.length z1) (.slice z2 R.goal.length z3) (.slice z4 R.made.length z5) (.slice z6 R.now.length z7)
 rw [←hwz] at KZ hO
 have hsz:=hO.size
 have HZ:=H_ (Below.outside HB.out hO (by omega) (by omega))
 have OZ:=H_ (O4'.out.outside hO (.inr (by omega)))
 have q0:=KZ.cell 0
 have q1:=KZ.cell 1
 have q2:=KZ.cell 2
 have q3:=KZ.cell 3
 rw [hw7] at k0 k1 k2 k3 c0 c1 c2 c3 f0 f1 f2 f3 hwz
 clear KZ hO hb7 K5 hw7
 cases ok
 all_goals (
  go_wp2_with fail
  simp only [←hwz])
 ·refine bodyPost_ret (v:=.tuple #[aggD (.slice z0 R.first.length z1) (.slice z2 R.goal.length z3) (.slice z4 R.made.length z5) (.slice z6 R.now.length z7),.string ⟨#[110,111]⟩]) (by simp [results,Tryz.results21,go_sem,q0,q1,q2,q3]) rfl ⟨_,_,_,_,_,rfl,?_,?_,HZ.out⟩
  ·rw [HR.out];rfl
  ·rw [HR.out];exact OZ.out.wide (by omega) (by omega)
 ·refine bodyPost_ret (v:=.tuple #[aggD (.slice z0 R.first.length z1) (.slice z2 R.goal.length z3) (.slice z4 R.made.length z5) (.slice z6 R.now.length z7),.string ⟨#[111,107]⟩]) (by simp [results,Tryz.results21,go_sem,q0,q1,q2,q3]) rfl ⟨_,_,_,_,_,rfl,?_,?_,HZ.out⟩
  ·rw [HR.out];rfl
  ·rw [HR.out];exact OZ.out.wide (by omega) (by omega)
theorem spec_DeskLine (lo hi:Nat) (a b c d:Value) (D:Dsk) (l:List UInt8) (s:ByteArray) (hs:s=⟨l.toArray⟩) (w:World) (hx:DeskAt lo hi w a b c d D) (hh:hi≤w.heap.size) (hm:D.size≤1048576) (hl:l.length≤2097152) :
  Calls Tryz.prog 21 #[aggD a b c d,.string s] w (RetDS fun a' b' c' d' s' w'=>s'=⟨(lineX D l).2.toArray⟩∧DeskOwn w.heap.size w'.heap.size w' a' b' c' d' (lineX D l).1∧Below w.heap.size w w'):=by
 cases hv:deskV D with
 | false=>
  rw [show lineX D l=(Dsk.none,[]) by unfold lineX;rw [hv];rfl]
  exact spec_DeskLine_not lo hi a b c d D s w hx hh hm hv
 | true=>
  cases hr:readAc l with
  | none=>
   rw [show lineX D l=(D,askV D l) by unfold lineX lineV;rw [hv,hr];rfl]
   exact spec_DeskLine_ask lo hi a b c d D l s hs w hx hh hm hl hv hr
  | some A=>
   rw [show lineX D l=((deskDo D A).1,okT (deskDo D A).2) by unfold lineX lineV;rw [hv,hr];rfl]
   have h:=spec_DeskLine_act lo hi a b c d D l s hs w hx hh hm hl A hv hr
   rw [okS_okT] at h
   exact h
theorem Dsk.count_nonneg (d:Dsk) (k:Int) (h:0≤k):¬d.count k<0:=by
 unfold Dsk.count
 omega
theorem lineX_size (D:Dsk) (l:List UInt8):(lineX D l).1.size≤180:=by
 unfold lineX
 cases h:deskV D
 ·simp [Dsk.none,Dsk.size]
 ·simp only [if_true]
  unfold lineV
  cases readAc l with
  | none=>exact deskV_size h
  | some A=>exact deskV_size (deskDo_valid A h)
theorem law_FnExactDeskLine (a b c d:Value) (D:Dsk) (S:ByteArray) (w:World) (hx:DeskAt 0 w.heap.size w a b c d D) (hz:S.size≤maxLen) (hN:Env w) (hE:EnvK w) :
  Calls Tryz.prog 6 #[aggD a b c d,.string S] w fun e w'=>e=.returned (.bool true)∧Below w.heap.size w w':=by
 obtain ⟨w0,hw0⟩:∃ w0,w0=w.alloc (.cells #[a,b,c,d] 25):=⟨_,rfl⟩
 have hb0:Below w.heap.size w w0:=by rw [hw0];exact (B_ _ _).alloc (le_ _) _
 have hs0:w0.heap.size=w.heap.size+1:=by rw [hw0];simp
 have K0:=H_ (show Blk w.heap.size (.cells #[a,b,c,d] 25) w0 by rw [hw0];exact Blk.new w _)
 have HX:=H_ (hx.below hb0 (le_ _))
 have HB:=H_ hb0
 have HE:=H_ hE
 have HN:=H_ hN
 have HW0:=H_ hw0
 clear hx hE hN hb0 hw0
 have k0:=K0.out.cell 0
 have k1:=K0.out.cell 1
 have k2:=K0.out.cell 2
 have k3:=K0.out.cell 3
 by_cases hSz:S.size≤1048576
 ·obtain ⟨l,hl⟩:∃ l:List UInt8,l=S.data.toList:=⟨_,rfl⟩
  have HSl:=H_ (show S=⟨l.toArray⟩ from by subst hl;rfl)
  have hll:l.length≤2097152:=by
   have h:S.size=l.length:=by rw [hl];exact (Array.length_toList (xs:=S.data)).symm
   omega
  clear hl
  by_cases hm:D.size≤1048576
  ·obtain ⟨R,t,hR⟩:∃ R t,lineX D l=(R,t):=⟨_,_,rfl⟩
   obtain ⟨T,hT⟩:∃ T:ByteArray,T=⟨t.toArray⟩:=⟨_,rfl⟩
   have HR:=H_ hR
   have HT:=H_ hT
   have hRs:R.size≤1048576:=by
    have h:=lineX_size D l
    rw [hR] at h
    exact Nat.le_trans h (by omega)
   have htt:(T !=T)=false:=by first | rfl | (show (!(T.data==T.data))=false;simp) | (simp [bne,BEq.beq])
   have hlz:¬(1048576:Int)-(D.size:Int)<0:=by omega
   have hneg:¬R.count 1<0:=Dsk.count_nonneg R 1 (by omega)
   have hnegD:¬D.count 1<0:=Dsk.count_nonneg D 1 (by omega)
   have hcnt:(R.count 1 !=R.count 1)=false:=by simp
   clear hR hT k0 k1 k2 k3
   go_enter Tryz.func6,Tryz.ntmps6
   have c_K0_0:=K0.out.cell 0
   have c_K0_1:=K0.out.cell 1
   have c_K0_2:=K0.out.cell 2
   have c_K0_3:=K0.out.cell 3
   go_wp2_with (rw [←HW0.out])
   clear c_K0_0 c_K0_1 c_K0_2 c_K0_3
   refine (szDesk_any _ _ a b c d D (1048576-D.size) _ HX.out (by omega) (fun _=>rfl)).mono ?_
   rintro e w1 ⟨rfl,h_⟩
   have hs1:=h_.size
   replace HX:=H_ (HX.out.below h_ (by omega));replace K0:=H_ (K0.out.below h_ (by omega))
   replace HB:=H_ (HB.out.trans (h_.mono (by omega)))
   clear h_
   have c_K0_0:=K0.out.cell 0
   have c_K0_1:=K0.out.cell 1
   have c_K0_2:=K0.out.cell 2
   have c_K0_3:=K0.out.cell 3
   go_wp2_with fail
   clear c_K0_0 c_K0_1 c_K0_2 c_K0_3
   refine (toDesk_any _ _ a b c d D _ HX.out (by omega) hm).mono ?_
   rintro e w2 ⟨s0,s1,s2,s3,rfl,h_,o_⟩
   have hs2:=h_.size
   replace HX:=H_ (HX.out.below h_ (by omega));replace K0:=H_ (K0.out.below h_ (by omega))
   replace HB:=H_ (HB.out.trans (h_.mono (by omega)))
   have O1:=H_ (o_)
   clear o_
   clear h_
   go_wp2_with fail
   refine (spec_DeskLine _ _ _ _ _ _ D l S HSl.out _ O1.out.at (by omega) hm hll).mono ?_
   rintro e w3 ⟨d0,d1,d2,d3,S_,rfl,hok,od,h_⟩
   have hs3:=h_.size
   replace HX:=H_ (HX.out.below h_ (by omega));replace K0:=H_ (K0.out.below h_ (by omega))
   replace HB:=H_ (HB.out.trans (h_.mono (by omega)))
   rw [HR.out] at od hok
   obtain rfl:T=S_:=(hok.trans HT.out.symm).symm
   have OS:=H_ od
   clear od hok
   clear h_
   clear O1
   obtain ⟨p0,p1,p2,p3,p4,p5,p6,p7,rfl,rfl,rfl,rfl,_⟩:=OS.out.at.shapes
   obtain ⟨gs,hg_gs⟩:∃ g_,g_=w3.heap.size:=⟨_,rfl⟩
   have hgl_gs:w3.heap.size≤gs:=by omega
   have hlt_K0:w.heap.size<w3.heap.size:=by omega
   have c_K0_0:=K0.out.cell 0
   have c_K0_1:=K0.out.cell 1
   have c_K0_2:=K0.out.cell 2
   have c_K0_3:=K0.out.cell 3
   go_wp2_with fail
   obtain ⟨w4,hw_⟩:∃ w_,w_=w3.alloc (.cells #[(.slice p0 R.first.length p1),(.slice p2 R.goal.length p3),(.slice p4 R.made.length p5),(.slice p6 R.now.length p7)] 31):=⟨_,rfl⟩
   obtain ⟨h_,K_,hs4⟩:=box_facts hw_
   simp only [←hw_]
   clear hw_
   replace HX:=H_ (HX.out.below h_ (by omega));replace K0:=H_ (K0.out.below h_ (by omega));replace OS:=H_ (OS.out.below h_ (by omega))
   replace HB:=H_ (HB.out.trans (h_.mono (by omega)))
   have KS:=H_ K_
   clear h_ K_
   clear c_K0_0 c_K0_1 c_K0_2 c_K0_3
   rw [←hg_gs] at KS
   have hgu_gs:gs<w4.heap.size:=by omega
   have HG_gs:=H_ hg_gs
   simp only [←HG_gs.out]
   clear hg_gs
   skip
   refine (toDesk_any _ _ a b c d D _ HX.out (by omega) hm).mono ?_
   rintro e w5 ⟨x0,x1,x2,x3,rfl,h_,o_⟩
   have hs5:=h_.size
   replace HX:=H_ (HX.out.below h_ (by omega));replace K0:=H_ (K0.out.below h_ (by omega));replace OS:=H_ (OS.out.below h_ (by omega));replace KS:=H_ (KS.out.below h_ (by omega))
   replace HB:=H_ (HB.out.trans (h_.mono (by omega)))
   have O2:=H_ (o_)
   clear o_
   clear h_
   obtain ⟨x0,x1,x2,x3,x4,x5,x6,x7,rfl,rfl,rfl,rfl,_⟩:=O2.out.at.shapes
   obtain ⟨gx,hg_gx⟩:∃ g_,g_=w5.heap.size:=⟨_,rfl⟩
   have hgl_gx:w5.heap.size≤gx:=by omega
   go_wp2_with fail
   obtain ⟨w6,hw_⟩:∃ w_,w_=w5.alloc (.cells #[(.slice x0 D.first.length x1),(.slice x2 D.goal.length x3),(.slice x4 D.made.length x5),(.slice x6 D.now.length x7)] 31):=⟨_,rfl⟩
   obtain ⟨h_,K_,hs6⟩:=box_facts hw_
   simp only [←hw_]
   clear hw_
   replace HX:=H_ (HX.out.below h_ (by omega));replace K0:=H_ (K0.out.below h_ (by omega));replace OS:=H_ (OS.out.below h_ (by omega));replace KS:=H_ (KS.out.below h_ (by omega));replace O2:=H_ (O2.out.below h_ (by omega))
   replace HB:=H_ (HB.out.trans (h_.mono (by omega)))
   have KX:=H_ K_
   clear h_ K_
   rw [←hg_gx] at KX
   have hgu_gx:gx<w6.heap.size:=by omega
   have HG_gx:=H_ hg_gx
   simp only [←HG_gx.out]
   clear hg_gx
   skip
   refine (impl_DeskLine _ _ _ _ _ _ D l S HSl.out _ (HE.out.below HB.out) (HN.out.below HB.out) O2.out.at (by omega) hm hll).mono ?_
   rintro e w7 ⟨d0,d1,d2,d3,S_,rfl,hok,od,h_⟩
   have hs7:=h_.size
   replace HX:=H_ (HX.out.below h_ (by omega));replace K0:=H_ (K0.out.below h_ (by omega));replace OS:=H_ (OS.out.below h_ (by omega));replace KS:=H_ (KS.out.below h_ (by omega));replace O2:=H_ (O2.out.below h_ (by omega));replace KX:=H_ (KX.out.below h_ (by omega))
   replace HB:=H_ (HB.out.trans (h_.mono (by omega)))
   rw [HR.out] at od hok
   obtain rfl:T=S_:=(hok.trans HT.out.symm).symm
   have OG:=H_ od
   clear od hok
   clear h_
   obtain ⟨y0,y1,y2,y3,y4,y5,y6,y7,rfl,rfl,rfl,rfl,_⟩:=OG.out.at.shapes
   obtain ⟨gg,hg_gg⟩:∃ g_,g_=w7.heap.size:=⟨_,rfl⟩
   have hgl_gg:w7.heap.size≤gg:=by omega
   have hlt_KS:gs<w7.heap.size:=by omega
   have c_KS_0:=KS.out.cell 0
   have c_KS_1:=KS.out.cell 1
   have c_KS_2:=KS.out.cell 2
   have c_KS_3:=KS.out.cell 3
   go_wp2_with fail
   obtain ⟨w8,hw_⟩:∃ w_,w_=w7.alloc (.cells #[(.slice y0 R.first.length y1),(.slice y2 R.goal.length y3),(.slice y4 R.made.length y5),(.slice y6 R.now.length y7)] 31):=⟨_,rfl⟩
   obtain ⟨h_,K_,hs8⟩:=box_facts hw_
   simp only [←hw_]
   clear hw_
   replace HX:=H_ (HX.out.below h_ (by omega));replace K0:=H_ (K0.out.below h_ (by omega));replace OS:=H_ (OS.out.below h_ (by omega));replace KS:=H_ (KS.out.below h_ (by omega));replace O2:=H_ (O2.out.below h_ (by omega));replace KX:=H_ (KX.out.below h_ (by omega));replace OG:=H_ (OG.out.below h_ (by omega))
   replace HB:=H_ (HB.out.trans (h_.mono (by omega)))
   have KG:=H_ K_
   clear h_ K_
   clear c_KS_0 c_KS_1 c_KS_2 c_KS_3
   rw [←hg_gg] at KG
   have hgu_gg:gg<w8.heap.size:=by omega
   have HG_gg:=H_ hg_gg
   simp only [←HG_gg.out]
   clear hg_gg
   skip
   refine (eqDesk_same _ _ _ _ _ _ _ _ _ _ _ _ R _ OG.out.at OS.out.at (by omega) (by omega) hRs).mono ?_
   rintro e w9 ⟨rfl,h_⟩
   have hs9:=h_.size
   replace HX:=H_ (HX.out.below h_ (by omega));replace K0:=H_ (K0.out.below h_ (by omega));replace OS:=H_ (OS.out.below h_ (by omega));replace KS:=H_ (KS.out.below h_ (by omega));replace O2:=H_ (O2.out.below h_ (by omega));replace KX:=H_ (KX.out.below h_ (by omega));replace OG:=H_ (OG.out.below h_ (by omega));replace KG:=H_ (KG.out.below h_ (by omega))
   replace HB:=H_ (HB.out.trans (h_.mono (by omega)))
   clear h_
   go_wp2_with fail
   have hd_:Below w9.heap.size w9 w9.drew:=Below.drew (B_ _ _)
   have hdz_:w9.drew.heap.size=w9.heap.size:=rfl
   have hS_:w9.drew.cell? ⟨w.heap.size,0,none⟩=some a∧w9.drew.cell? ⟨w.heap.size,1,none⟩=some b∧w9.drew.cell? ⟨w.heap.size,2,none⟩=some c∧w9.drew.cell? ⟨w.heap.size,3,none⟩=some d∧w9.drew.cell? ⟨gx,0,none⟩=some (.slice x0 D.first.length x1)∧w9.drew.cell? ⟨gx,1,none⟩=some (.slice x2 D.goal.length x3)∧w9.drew.cell? ⟨gx,2,none⟩=some (.slice x4 D.made.length x5)∧w9.drew.cell? ⟨gx,3,none⟩=some (.slice x6 D.now.length x7):=⟨K0.out.cell 0,K0.out.cell 1,K0.out.cell 2,K0.out.cell 3,KX.out.cell 0,KX.out.cell 1,KX.out.cell 2,KX.out.cell 3⟩
   have HXd:=H_ (HX.out.below hd_ (by omega))
   go_region_held3 (fun w'=>w'.cell? ⟨w.heap.size,0,none⟩=some a∧w'.cell? ⟨w.heap.size,1,none⟩=some b∧w'.cell? ⟨w.heap.size,2,none⟩=some c∧w'.cell? ⟨w.heap.size,3,none⟩=some d∧w'.cell? ⟨gx,0,none⟩=some (.slice x0 D.first.length x1)∧w'.cell? ⟨gx,1,none⟩=some (.slice x2 D.goal.length x3)∧w'.cell? ⟨gx,2,none⟩=some (.slice x4 D.made.length x5)∧w'.cell? ⟨gx,3,none⟩=some (.slice x6 D.now.length x7)) (first | with_reducible assumption | go_keep) (first
    | (go_at_call 10;refine (toDesk_any _ _ a b c d D _ HXd.out (by omega) hm).mono ?_;rintro e5_ w10 ⟨r0_,r1_,r2_,r3_,rfl,hb_,o_⟩;(have hz_:=hb_.size);(have HBa:=H_ (hd_.trans (hb_.mono (by omega))));(have K0a:=H_ (K0.out.below HBa.out (by omega)));(have KXa:=H_ (KX.out.below HBa.out (by omega)));(have OXa:=H_ (O2.out.below HBa.out (by omega)));(have ORa:=H_ o_);(have hSa_:w10.cell? ⟨w.heap.size,0,none⟩=some a∧w10.cell? ⟨w.heap.size,1,none⟩=some b∧w10.cell? ⟨w.heap.size,2,none⟩=some c∧w10.cell? ⟨w.heap.size,3,none⟩=some d∧w10.cell? ⟨gx,0,none⟩=some (.slice x0 D.first.length x1)∧w10.cell? ⟨gx,1,none⟩=some (.slice x2 D.goal.length x3)∧w10.cell? ⟨gx,2,none⟩=some (.slice x4 D.made.length x5)∧w10.cell? ⟨gx,3,none⟩=some (.slice x6 D.now.length x7):=⟨K0a.out.cell 0,K0a.out.cell 1,K0a.out.cell 2,K0a.out.cell 3,KXa.out.cell 0,KXa.out.cell 1,KXa.out.cell 2,KXa.out.cell 3⟩);clear hb_ o_)
    | (go_at_call 13;refine (eqDesk_same _ _ _ _ _ _ _ _ _ _ _ _ D _ OXa.out.at ORa.out.at (by omega) (by omega) hm).mono ?_;rintro e6_ w11 ⟨rfl,hb_⟩;(have hz2_:=hb_.size);(have HBb:=H_ (HBa.out.trans (hb_.mono (by omega))));(have hSb_:w11.cell? ⟨w.heap.size,0,none⟩=some a∧w11.cell? ⟨w.heap.size,1,none⟩=some b∧w11.cell? ⟨w.heap.size,2,none⟩=some c∧w11.cell? ⟨w.heap.size,3,none⟩=some d∧w11.cell? ⟨gx,0,none⟩=some (.slice x0 D.first.length x1)∧w11.cell? ⟨gx,1,none⟩=some (.slice x2 D.goal.length x3)∧w11.cell? ⟨gx,2,none⟩=some (.slice x4 D.made.length x5)∧w11.cell? ⟨gx,3,none⟩=some (.slice x6 D.now.length x7):=⟨(K0a.out.below hb_ (by omega)).cell 0,(K0a.out.below hb_ (by omega)).cell 1,(K0a.out.below hb_ (by omega)).cell 2,(K0a.out.below hb_ (by omega)).cell 3,(KXa.out.below hb_ (by omega)).cell 0,(KXa.out.below hb_ (by omega)).cell 1,(KXa.out.below hb_ (by omega)).cell 2,(KXa.out.below hb_ (by omega)).cell 3⟩);clear hb_))
   have hsq_:=HBb.out.size
   replace HX:=H_ (HX.out.below HBb.out (by omega))
   replace K0:=H_ (K0.out.below HBb.out (by omega))
   replace OS:=H_ (OS.out.below HBb.out (by omega))
   replace KS:=H_ (KS.out.below HBb.out (by omega))
   replace O2:=H_ (O2.out.below HBb.out (by omega))
   replace KX:=H_ (KX.out.below HBb.out (by omega))
   replace OG:=H_ (OG.out.below HBb.out (by omega))
   replace KG:=H_ (KG.out.below HBb.out (by omega))
   replace HB:=H_ (HB.out.trans (HBb.out.mono (by omega)))
   clear HBb hSb_ hSa_ hS_ hd_ hdz_ HXd HBa K0a KXa OXa ORa
   have c_KX_0:=KX.out.cell 0
   have c_KX_1:=KX.out.cell 1
   have c_KX_2:=KX.out.cell 2
   have c_KX_3:=KX.out.cell 3
   go_wp2_with fail
   clear c_KX_0 c_KX_1 c_KX_2 c_KX_3
   refine (markDesk_any _ _ _ _ _ _ D 1 _ O2.out (by omega) hm (by omega) (by omega)).mono ?_
   rintro e w12 ⟨rfl,h_,o_⟩
   have hs12:=h_.size
   replace HX:=H_ (HX.out.outside h_ (by omega));replace K0:=H_ (K0.out.outside h_ (by omega));replace OS:=H_ (OS.out.outside h_ (by omega));replace KS:=H_ (KS.out.outside h_ (by omega));replace KX:=H_ (KX.out.outside h_ (by omega));replace OG:=H_ (OG.out.outside h_ (by omega));replace KG:=H_ (KG.out.outside h_ (by omega))
   replace HB:=H_ (Below.outside HB.out h_ (by omega) (by omega))
   clear O2 o_
   clear h_
   have c_KG_0:=KG.out.cell 0
   have c_KG_1:=KG.out.cell 1
   have c_KG_2:=KG.out.cell 2
   have c_KG_3:=KG.out.cell 3
   have c_KS_0:=KS.out.cell 0
   have c_KS_1:=KS.out.cell 1
   have c_KS_2:=KS.out.cell 2
   have c_KS_3:=KS.out.cell 3
   go_wp2_with fail
   clear c_KG_0 c_KG_1 c_KG_2 c_KG_3 c_KS_0 c_KS_1 c_KS_2 c_KS_3
   refine (eqDesk_same _ _ _ _ _ _ _ _ _ _ _ _ R _ OG.out.at OS.out.at (by omega) (by omega) hRs).mono ?_
   rintro e w13 ⟨rfl,h_⟩
   have hs13:=h_.size
   replace HX:=H_ (HX.out.below h_ (by omega));replace K0:=H_ (K0.out.below h_ (by omega));replace OS:=H_ (OS.out.below h_ (by omega));replace KS:=H_ (KS.out.below h_ (by omega));replace KX:=H_ (KX.out.below h_ (by omega));replace OG:=H_ (OG.out.below h_ (by omega));replace KG:=H_ (KG.out.below h_ (by omega))
   replace HB:=H_ (HB.out.trans (h_.mono (by omega)))
   clear h_
   have c_KG_0:=KG.out.cell 0
   have c_KG_1:=KG.out.cell 1
   have c_KG_2:=KG.out.cell 2
   have c_KG_3:=KG.out.cell 3
   go_wp2_with fail
   clear c_KG_0 c_KG_1 c_KG_2 c_KG_3
   refine (markDesk_any _ _ _ _ _ _ R 1 _ OG.out (by omega) hRs (by omega) (by omega)).mono ?_
   rintro e w14 ⟨rfl,h_,o_⟩
   have hs14:=h_.size
   replace HX:=H_ (HX.out.outside h_ (by omega));replace K0:=H_ (K0.out.outside h_ (by omega));replace OS:=H_ (OS.out.outside h_ (by omega));replace KS:=H_ (KS.out.outside h_ (by omega));replace KX:=H_ (KX.out.outside h_ (by omega));replace KG:=H_ (KG.out.outside h_ (by omega))
   replace HB:=H_ (Below.outside HB.out h_ (by omega) (by omega))
   replace OG:=H_ (o_)
   clear o_
   clear h_
   have c_KG_0:=KG.out.cell 0
   have c_KG_1:=KG.out.cell 1
   have c_KG_2:=KG.out.cell 2
   have c_KG_3:=KG.out.cell 3
   go_wp2_with fail
   clear c_KG_0 c_KG_1 c_KG_2 c_KG_3
   refine (heldDesk_any _ _ _ _ _ _ R 1 _ OG.out.at (by omega) hRs (by omega) (by omega)).mono ?_
   rintro e w15 ⟨rfl,h_⟩
   have hs15:=h_.size
   replace HX:=H_ (HX.out.below h_ (by omega));replace K0:=H_ (K0.out.below h_ (by omega));replace OS:=H_ (OS.out.below h_ (by omega));replace KS:=H_ (KS.out.below h_ (by omega));replace KX:=H_ (KX.out.below h_ (by omega));replace OG:=H_ (OG.out.below h_ (by omega));replace KG:=H_ (KG.out.below h_ (by omega))
   replace HB:=H_ (HB.out.trans (h_.mono (by omega)))
   clear h_
   have c_K0_0:=K0.out.cell 0
   have c_K0_1:=K0.out.cell 1
   have c_K0_2:=K0.out.cell 2
   have c_K0_3:=K0.out.cell 3
   go_wp2_with fail
   clear c_K0_0 c_K0_1 c_K0_2 c_K0_3
   refine (toDesk_any _ _ a b c d D _ HX.out (by omega) hm).mono ?_
   rintro e w16 ⟨s0,s1,s2,s3,rfl,h_,o_⟩
   have hs16:=h_.size
   replace HX:=H_ (HX.out.below h_ (by omega));replace K0:=H_ (K0.out.below h_ (by omega));replace OS:=H_ (OS.out.below h_ (by omega));replace KS:=H_ (KS.out.below h_ (by omega));replace KX:=H_ (KX.out.below h_ (by omega));replace OG:=H_ (OG.out.below h_ (by omega));replace KG:=H_ (KG.out.below h_ (by omega))
   replace HB:=H_ (HB.out.trans (h_.mono (by omega)))
   have O1:=H_ (o_)
   clear o_
   clear h_
   go_wp2_with fail
   refine (impl_DeskLine _ _ _ _ _ _ D l S HSl.out _ (HE.out.below HB.out) (HN.out.below HB.out) O1.out.at (by omega) hm hll).mono ?_
   rintro e w17 ⟨d0,d1,d2,d3,S_,rfl,hok,od,h_⟩
   have hs17:=h_.size
   replace HX:=H_ (HX.out.below h_ (by omega));replace K0:=H_ (K0.out.below h_ (by omega));replace OS:=H_ (OS.out.below h_ (by omega));replace KS:=H_ (KS.out.below h_ (by omega));replace KX:=H_ (KX.out.below h_ (by omega));replace OG:=H_ (OG.out.below h_ (by omega));replace KG:=H_ (KG.out.below h_ (by omega))
   replace HB:=H_ (HB.out.trans (h_.mono (by omega)))
   rw [HR.out] at od hok
   obtain rfl:T=S_:=(hok.trans HT.out.symm).symm
   have OH:=H_ od
   clear od hok
   clear h_
   clear O1
   obtain ⟨z0,z1,z2,z3,z4,z5,z6,z7,rfl,rfl,rfl,rfl,_⟩:=OH.out.at.shapes
   obtain ⟨gh,hg_gh⟩:∃ g_,g_=w17.heap.size:=⟨_,rfl⟩
   have hgl_gh:w17.heap.size≤gh:=by omega
   have hlt_KS:gs<w17.heap.size:=by omega
   have c_KS_0:=KS.out.cell 0
   have c_KS_1:=KS.out.cell 1
   have c_KS_2:=KS.out.cell 2
   have c_KS_3:=KS.out.cell 3
   go_wp2_with fail
   obtain ⟨w18,hw_⟩:∃ w_,w_=w17.alloc (.cells #[(.slice z0 R.first.length z1),(.slice z2 R.goal.length z3),(.slice z4 R.made.length z5),(.slice z6 R.now.length z7)] 31):=⟨_,rfl⟩
   obtain ⟨h_,K_,hs18⟩:=box_facts hw_
   simp only [←hw_]
   clear hw_
   replace HX:=H_ (HX.out.below h_ (by omega));replace K0:=H_ (K0.out.below h_ (by omega));replace OS:=H_ (OS.out.below h_ (by omega));replace KS:=H_ (KS.out.below h_ (by omega));replace KX:=H_ (KX.out.below h_ (by omega));replace OG:=H_ (OG.out.below h_ (by omega));replace KG:=H_ (KG.out.below h_ (by omega));replace OH:=H_ (OH.out.below h_ (by omega))
   replace HB:=H_ (HB.out.trans (h_.mono (by omega)))
   have KH:=H_ K_
   clear h_ K_
   clear c_KS_0 c_KS_1 c_KS_2 c_KS_3
   rw [←hg_gh] at KH
   have hgu_gh:gh<w18.heap.size:=by omega
   have HG_gh:=H_ hg_gh
   simp only [←HG_gh.out]
   clear hg_gh
   skip
   refine (eqDesk_same _ _ _ _ _ _ _ _ _ _ _ _ R _ OH.out.at OS.out.at (by omega) (by omega) hRs).mono ?_
   rintro e w19 ⟨rfl,h_⟩
   have hs19:=h_.size
   replace HX:=H_ (HX.out.below h_ (by omega));replace K0:=H_ (K0.out.below h_ (by omega));replace OS:=H_ (OS.out.below h_ (by omega));replace KS:=H_ (KS.out.below h_ (by omega));replace KX:=H_ (KX.out.below h_ (by omega));replace OG:=H_ (OG.out.below h_ (by omega));replace KG:=H_ (KG.out.below h_ (by omega));replace OH:=H_ (OH.out.below h_ (by omega));replace KH:=H_ (KH.out.below h_ (by omega))
   replace HB:=H_ (HB.out.trans (h_.mono (by omega)))
   clear h_
   have c_KG_0:=KG.out.cell 0
   have c_KG_1:=KG.out.cell 1
   have c_KG_2:=KG.out.cell 2
   have c_KG_3:=KG.out.cell 3
   go_wp2_with fail
   clear c_KG_0 c_KG_1 c_KG_2 c_KG_3
   refine (heldDesk_any _ _ _ _ _ _ R 1 _ OG.out.at (by omega) hRs (by omega) (by omega)).mono ?_
   rintro e w20 ⟨rfl,h_⟩
   have hs20:=h_.size
   replace HX:=H_ (HX.out.below h_ (by omega));replace K0:=H_ (K0.out.below h_ (by omega));replace OS:=H_ (OS.out.below h_ (by omega));replace KS:=H_ (KS.out.below h_ (by omega));replace KX:=H_ (KX.out.below h_ (by omega));replace OG:=H_ (OG.out.below h_ (by omega));replace KG:=H_ (KG.out.below h_ (by omega));replace OH:=H_ (OH.out.below h_ (by omega));replace KH:=H_ (KH.out.below h_ (by omega))
   replace HB:=H_ (HB.out.trans (h_.mono (by omega)))
   clear h_
   go_wp2
   go_ret
   exact ⟨rfl,HB.out⟩
  ·go_enter Tryz.func6,Tryz.ntmps6
   go_wp2_with (rw [←HW0.out])
   refine (szDesk_any _ _ a b c d D (-1) _ HX.out (fun _=>rfl) (by omega)).mono ?_
   rintro e_ w_ ⟨rfl,h_⟩
   go_wp2
   go_ret
   exact ⟨rfl,HB.out.trans (h_.mono (by omega))⟩
 ·go_enter Tryz.func6,Tryz.ntmps6
  go_wp2
  go_ret
  first | exact ⟨rfl,by rw [←HW0.out];exact HB.out⟩ | exact ⟨rfl,HB.out⟩
end Go.Proofs.YtfnnhimopokpnaaGreatDoor
